/- For every three floats and every mode the program's FusedIn answers as the reference's does. -/
import Derived.Test.YtmiafbbndonpaaaGm
import Derived.Test.YtmiafbbndonpaaaGf
set_option linter.unusedVariables false
set_option linter.unusedSimpArgs false
namespace Go.Proofs.Ytmiafbbndonpaaa
open Go.ChangeShapes Go.WideShapes Go.ChangeAt Go.RowKit Num Flt
set_option maxHeartbeats 4000000 in
theorem FusedIn.walk (x y z : Nat) (mode : Int) (w : World) (hx : W x) (hy : W y) (hz : W z) :
    Calls Try.prog 12 #[.float .f32 x, .float .f32 y, .float .f32 z, .int .i64 mode] w fun e w' => e = .returned (.bool true) ∧ Below w.heap.size w w' := by
  have hn := fu_num x y z mode
  have HC := Hd.mk (fun w => s_FusedIn x y z mode w hx hy hz)
  have HD := Hd.mk (fun w => i_FusedIn x y z mode w hx hy hz)
  unfold RetFU at HC HD
  generalize fuF x y z mode = r at *
  generalize fuL x y z mode = l at *
  generalize fuC x y z mode = c at *
  have k1 := fun w => run_convert_float_float (P := Try.prog) w 28 62 .f32 .f64 r (wide r) (by kernel_rfl) Try.underlying62 (wide_some hn)
  have HN : Hd (dnum (wide r)) := ⟨wide_dnum hn⟩
  clear hx hy hz hn
  go_enter Try.func12, Try.ntmps12
  go_wp2_with (first | (go_at_call 49; (with_reducible refine (HC.out _).mono ?_); rintro e w' ⟨rfl, hb⟩; (try replace hb := bt3 hb (by assumption)); obtain ⟨hc, hf, hz, hy⟩ := bcell hb; have hs := hb.size; (try simp at hs); (try have h0 : w.heap.size < w'.heap.size := by omega); (try have h1 : w.heap.size + 1 < w'.heap.size := by omega); (try have h2 : w.heap.size + 1 + 1 < w'.heap.size := by omega); (try have h3 : w.heap.size + 1 + 1 + 1 < w'.heap.size := by omega); clear hs) | (go_at_call 50; (with_reducible refine (HD.out _).mono ?_); rintro e w' ⟨rfl, hb⟩; (try replace hb := bt3 hb (by assumption)); obtain ⟨hc, hf, hz, hy⟩ := bcell hb; have hs := hb.size; (try simp at hs); (try have h0 : w.heap.size < w'.heap.size := by omega); (try have h1 : w.heap.size + 1 < w'.heap.size := by omega); (try have h2 : w.heap.size + 1 + 1 < w'.heap.size := by omega); (try have h3 : w.heap.size + 1 + 1 + 1 < w'.heap.size := by omega); clear hs) | (go_at_call 40; (with_reducible refine (l_same _ _ HN.out).mono ?_); rintro e w' ⟨rfl, rfl⟩))
  go_ret
  exact ⟨rfl, by (repeat (first | exact Below.refl _ _ | assumption | refine Below.drew ?_ | refine bdn ?_ | refine ba _ ?_ | refine bs0 _ _ ?_ ?_ | refine bs1 _ _ _ ?_ ?_ | refine bs2 _ _ _ _ ?_ ?_ | refine bs3 _ _ _ _ _ ?_ ?_ | refine bt3 (by assumption) ?_))⟩
set_option maxRecDepth 100000 in
theorem FusedIn.lifted (os : Os) (started : os.Started) (H : Type) (enc : TypeId × Value → H) :
    ReturnsInHanded {} Try.checked os 12 .any (Rows.fnExactFusedInSpec.pre6 enc Try.prog Try.f12 Rows.fnExactFusedInRow.domain false) (Rows.fnExactFusedInSpec.post enc Try.prog Try.f12 false true false false) := by
  refine returnsInHanded_of_change (C := Try.checked) rowOwn started (by kernel_rfl) Try.func12
    (ChangeSpec.witness6 (enc := enc) (C := Try.checked) false ⟨#[], #[.float .f32 0, .float .f32 0, .float .f32 0, .int .i64 0], []⟩ 8 (by kernel_rfl) (by kernel_rfl) (by kernel_rfl) (by kernel_rfl)) ?_
  intro W base args ds gs before hval0 hW hcnd _
  have hval : ∀ (j : Nat) t v, Try.f12.params[j]? = some t → args[j]? = some v → Value.okWide Try.prog W .any base t v := hval0
  have hW' := hW
  obtain ⟨p, q, hA0, hV, rfl, hfz, hnd⟩ := hW
  have hA : DataW.TrodAll enc Try.prog W 0 (fun _ => true) true Try.f12.params.toList args.toList ds p := hA0
  rw [Try.params12] at hA hval
  obtain ⟨v0, vs0, d0, ds0, p0, q0, hv0, rfl, rfl, h0, r0⟩ := trodAll_cons hA
  obtain ⟨v1, vs1, d1, ds1, p1, q1, hv1, rfl, rfl, h1, r1⟩ := trodAll_cons r0
  obtain ⟨v2, vs2, d2, ds2, p2, q2, hv2, rfl, rfl, h2, r2⟩ := trodAll_cons r1
  obtain ⟨v3, vs3, d3, ds3, p3, q3, hv3, rfl, rfl, h3, r3⟩ := trodAll_cons r2
  subst hv1
  subst hv2
  subst hv3
  obtain ⟨rfl, rfl, rfl⟩ := trodAll_nil r3
  obtain rfl : args = #[v0, v1, v2, v3] := by cases args; simp_all
  obtain ⟨rfl, rfl⟩ := trodVars_none hV
  obtain ⟨x, rfl, rfl, rfl, wx⟩ := open_float Try.underlying28 (hval 0 28 v0 rfl rfl) h0
  obtain ⟨y, rfl, rfl, rfl, wy⟩ := open_float Try.underlying28 (hval 1 28 v1 rfl rfl) h1
  obtain ⟨z, rfl, rfl, rfl, wz⟩ := open_float Try.underlying28 (hval 2 28 v2 rfl rfl) h2
  obtain ⟨mode, rfl, rfl, rfl, wmode⟩ := open_int Try.underlying2 (hval 3 2 v3 rfl rfl) h3
  clear hA0 hval0
  refine (FusedIn.walk x y z mode W (Flt.W_of_wf wx) (Flt.W_of_wf wy) (Flt.W_of_wf wz)).mono fun e W' ⟨he, hg⟩ => ?_
  subst he
  exact ⟨_, rfl, post_law laidOut (by kernel_rfl) (by kernel_rfl) Try.underlying4 rfl hW' rfl hg⟩
theorem FusedIn.k10 : (Rows.fnExactFusedInRow.inPlace == Try.prog.inPlace 12) = true := by kernel_rfl
theorem FusedIn.k11 : (Rows.fnExactFusedInRow.unfollowed == Try.prog.unfollowed 12) = true := by kernel_rfl
theorem FusedIn.k12 : (Rows.fnExactFusedInRow.recurses == Try.prog.recurses 12) = true := by kernel_rfl
theorem FusedIn.k13 : (Rows.fnExactFusedInRow.named == Try.prog.varsNamed 12) = true := by kernel_rfl
theorem FusedIn.closed : joinedFacts Try.prog 12 Try.f12 Rows.fnExactFusedInSpec Rows.fnExactFusedInRow = true := by
  unfold joinedFacts
  simp only [Bool.and_eq_true]
  exact ⟨⟨⟨⟨⟨⟨⟨⟨⟨⟨⟨⟨⟨⟨⟨⟨⟨⟨⟨⟨⟨⟨⟨⟨⟨⟨⟨⟨⟨⟨⟨by kernel_rfl, laidOut⟩, fact_maps⟩, by kernel_rfl⟩, by kernel_rfl⟩, by kernel_rfl⟩, by kernel_rfl⟩, by kernel_rfl⟩, by kernel_rfl⟩, FusedIn.k10⟩, FusedIn.k11⟩, FusedIn.k12⟩, FusedIn.k13⟩, by kernel_rfl⟩, by kernel_rfl⟩, by kernel_rfl⟩, by kernel_rfl⟩, by kernel_rfl⟩, by kernel_rfl⟩, by kernel_rfl⟩, by kernel_rfl⟩, by kernel_rfl⟩, by kernel_rfl⟩, by kernel_rfl⟩, fact_stops⟩, fact_enter⟩, lifts_eq rfl⟩, by kernel_rfl⟩, by kernel_rfl⟩, by kernel_rfl⟩, by kernel_rfl⟩, by kernel_rfl⟩
theorem FusedIn.holds : Rows.FnExactFusedInSaid :=
  OpenClaim.holds_of_wide 12 Try.f12 rfl rfl rfl rfl rfl rfl rfl ⟨rfl, rfl, rfl, rfl, rfl⟩ rfl rfl rfl rfl rfl (by kernel_rfl) Try.func12 FusedIn.closed
    (of_decide_eq_true (by kernel_rfl)) (by unfold Func.isWrapper; first | (rw [if_pos (by decide +kernel)]; kernel_rfl) | (rw [if_neg (by decide +kernel)]; exact ⟨rfl, rfl⟩))
    (fun os started H enc _ => FusedIn.lifted os started H enc)
#print axioms FusedIn.holds
end Go.Proofs.Ytmiafbbndonpaaa
