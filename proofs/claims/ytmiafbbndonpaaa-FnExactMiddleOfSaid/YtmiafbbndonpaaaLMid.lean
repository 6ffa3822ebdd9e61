/- For every interval the program's MiddleOf answers as the reference's does. -/
import Derived.Test.YtmiafbbndonpaaaGj
import Derived.Test.YtmiafbbndonpaaaGf
set_option linter.unusedVariables false
set_option linter.unusedSimpArgs false
namespace Go.Proofs.Ytmiafbbndonpaaa
open Go.ChangeShapes Go.WideShapes Go.ChangeAt Go.RowKit Num Flt
set_option maxHeartbeats 4000000 in
theorem MidOf.walk (a b : Nat) (w : World) (ha : W a) (hb : W b) :
    Calls Try.prog 8 #[.agg #[.float .f32 a, .float .f32 b]] w fun e w' => e = .returned (.bool true) ∧ Below w.heap.size w w' := by
  have HX : Hd (W a ∧ W b) := ⟨⟨ha, hb⟩⟩
  have hn := mo_num a b
  have HC := Hd.mk (fun w => s_MidOf a b w ha hb)
  have HD := Hd.mk (fun w => i_MidOf a b w ha hb)
  unfold RetMO at HC HD
  generalize moF a b = y at *
  generalize moC a b = c at *
  have k1 := fun w => run_convert_float_float (P := Try.prog) w 28 62 .f32 .f64 y (wide y) (by kernel_rfl) Try.underlying62 (wide_some hn)
  have HN : Hd (dnum (wide y)) := ⟨wide_dnum hn⟩
  clear ha hb hn
  go_enter Try.func8, Try.ntmps8
  go_wp2_with (first | (go_at_call 30; (with_reducible refine (l_toInterval _ _ _).mono ?_); rintro e w' ⟨rfl, hb⟩; (try replace hb := bt3 hb (by assumption)); obtain ⟨hc, hf, hz, hy⟩ := bcell hb; have hs := hb.size; (try simp at hs); (try have h0 : w.heap.size < w'.heap.size := by omega); (try have h1 : w.heap.size + 1 < w'.heap.size := by omega); (try have h2 : w.heap.size + 1 + 1 < w'.heap.size := by omega); (try have h3 : w.heap.size + 1 + 1 + 1 < w'.heap.size := by omega); clear hs) | (go_at_call 38; (with_reducible refine (HC.out _).mono ?_); rintro e w' ⟨rfl, hb⟩; (try replace hb := bt3 hb (by assumption)); obtain ⟨hc, hf, hz, hy⟩ := bcell hb; have hs := hb.size; (try simp at hs); (try have h0 : w.heap.size < w'.heap.size := by omega); (try have h1 : w.heap.size + 1 < w'.heap.size := by omega); (try have h2 : w.heap.size + 1 + 1 < w'.heap.size := by omega); (try have h3 : w.heap.size + 1 + 1 + 1 < w'.heap.size := by omega); clear hs) | (go_at_call 39; (with_reducible refine (HD.out _).mono ?_); rintro e w' ⟨rfl, hb⟩; (try replace hb := bt3 hb (by assumption)); obtain ⟨hc, hf, hz, hy⟩ := bcell hb; have hs := hb.size; (try simp at hs); (try have h0 : w.heap.size < w'.heap.size := by omega); (try have h1 : w.heap.size + 1 < w'.heap.size := by omega); (try have h2 : w.heap.size + 1 + 1 < w'.heap.size := by omega); (try have h3 : w.heap.size + 1 + 1 + 1 < w'.heap.size := by omega); clear hs) | (go_at_call 40; (with_reducible refine (l_same _ _ HN.out).mono ?_); rintro e w' ⟨rfl, rfl⟩))
  go_ret
  exact ⟨rfl, by (repeat (first | exact Below.refl _ _ | assumption | refine Below.drew ?_ | refine bdn ?_ | refine ba _ ?_ | refine bs0 _ _ ?_ ?_ | refine bs1 _ _ _ ?_ ?_ | refine bs2 _ _ _ _ ?_ ?_ | refine bs3 _ _ _ _ _ ?_ ?_ | refine bt3 (by assumption) ?_))⟩
set_option maxRecDepth 100000 in
theorem MidOf.lifted (os : Os) (started : os.Started) (H : Type) (enc : TypeId × Value → H) :
    ReturnsInHanded {} Try.checked os 8 .any (Rows.fnExactMiddleOfSpec.pre6 enc Try.prog Try.f8 Rows.fnExactMiddleOfRow.domain false) (Rows.fnExactMiddleOfSpec.post enc Try.prog Try.f8 false true false false) := by
  refine returnsInHanded_of_change (C := Try.checked) rowOwn started (by kernel_rfl) Try.func8
    (ChangeSpec.witness6 (enc := enc) (C := Try.checked) false ⟨#[], #[.agg #[.float .f32 0, .float .f32 0]], []⟩ 8 (by kernel_rfl) (by kernel_rfl) (by kernel_rfl) (by kernel_rfl)) ?_
  intro W base args ds gs before hval0 hW hcnd _
  have hval : ∀ (j : Nat) t v, Try.f8.params[j]? = some t → args[j]? = some v → Value.okWide Try.prog W .any base t v := hval0
  have hW' := hW
  obtain ⟨p, q, hA0, hV, rfl, hfz, hnd⟩ := hW
  have hA : DataW.TrodAll enc Try.prog W 0 (fun _ => true) true Try.f8.params.toList args.toList ds p := hA0
  rw [Try.params8] at hA hval
  obtain ⟨v0, vs0, d0, ds0, p0, q0, hv0, rfl, rfl, h0, r0⟩ := trodAll_cons hA
  obtain ⟨rfl, rfl, rfl⟩ := trodAll_nil r0
  obtain rfl : args = #[v0] := by cases args; simp_all
  obtain ⟨rfl, rfl⟩ := trodVars_none hV
  obtain ⟨a, b, rfl, rfl, rfl, wa, wb⟩ := open_f2 Try.underlying44 (by kernel_rfl) (by kernel_rfl) Try.underlying28 Try.underlying28 (hval 0 44 v0 rfl rfl) h0
  clear hA0 hval0
  refine (MidOf.walk a b W (Flt.W_of_wf wa) (Flt.W_of_wf wb)).mono fun e W' ⟨he, hg⟩ => ?_
  subst he
  exact ⟨_, rfl, post_law laidOut (by kernel_rfl) (by kernel_rfl) Try.underlying4 rfl hW' rfl hg⟩
theorem MidOf.k10 : (Rows.fnExactMiddleOfRow.inPlace == Try.prog.inPlace 8) = true := by kernel_rfl
theorem MidOf.k11 : (Rows.fnExactMiddleOfRow.unfollowed == Try.prog.unfollowed 8) = true := by kernel_rfl
theorem MidOf.k12 : (Rows.fnExactMiddleOfRow.recurses == Try.prog.recurses 8) = true := by kernel_rfl
theorem MidOf.k13 : (Rows.fnExactMiddleOfRow.named == Try.prog.varsNamed 8) = true := by kernel_rfl
theorem MidOf.closed : joinedFacts Try.prog 8 Try.f8 Rows.fnExactMiddleOfSpec Rows.fnExactMiddleOfRow = true := by
  unfold joinedFacts
  simp only [Bool.and_eq_true]
  exact ⟨⟨⟨⟨⟨⟨⟨⟨⟨⟨⟨⟨⟨⟨⟨⟨⟨⟨⟨⟨⟨⟨⟨⟨⟨⟨⟨⟨⟨⟨⟨by kernel_rfl, laidOut⟩, fact_maps⟩, by kernel_rfl⟩, by kernel_rfl⟩, by kernel_rfl⟩, by kernel_rfl⟩, by kernel_rfl⟩, by kernel_rfl⟩, MidOf.k10⟩, MidOf.k11⟩, MidOf.k12⟩, MidOf.k13⟩, by kernel_rfl⟩, by kernel_rfl⟩, by kernel_rfl⟩, by kernel_rfl⟩, by kernel_rfl⟩, by kernel_rfl⟩, by kernel_rfl⟩, by kernel_rfl⟩, by kernel_rfl⟩, by kernel_rfl⟩, by kernel_rfl⟩, fact_stops⟩, fact_enter⟩, lifts_eq rfl⟩, by kernel_rfl⟩, by kernel_rfl⟩, by kernel_rfl⟩, by kernel_rfl⟩, by kernel_rfl⟩
theorem MidOf.holds : Rows.FnExactMiddleOfSaid :=
  OpenClaim.holds_of_wide 8 Try.f8 rfl rfl rfl rfl rfl rfl rfl ⟨rfl, rfl, rfl, rfl, rfl⟩ rfl rfl rfl rfl rfl (by kernel_rfl) Try.func8 MidOf.closed
    (of_decide_eq_true (by kernel_rfl)) (by unfold Func.isWrapper; first | (rw [if_pos (by decide +kernel)]; kernel_rfl) | (rw [if_neg (by decide +kernel)]; exact ⟨rfl, rfl⟩))
    (fun os started H enc _ => MidOf.lifted os started H enc)
#print axioms MidOf.holds
end Go.Proofs.Ytmiafbbndonpaaa
