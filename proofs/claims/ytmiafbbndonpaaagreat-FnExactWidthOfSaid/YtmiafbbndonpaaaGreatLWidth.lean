/- For every interval the program's WidthOf answers as the reference's does. -/
import Derived.Test.YtmiafbbndonpaaaGreatGp
import Derived.Test.YtmiafbbndonpaaaGreatGf
set_option linter.unusedVariables false
set_option linter.unusedSimpArgs false
namespace Go.Proofs.YtmiafbbndonpaaaGreat
open Go.ChangeShapes Go.WideShapes Go.ChangeAt Go.RowKit Num Flt
set_option maxHeartbeats 4000000 in
theorem WidthE.walk (a b : Nat) (w : World) (ha : W a) (hb : W b) :
    Calls Tryz.prog 3 #[.agg #[.float .f32 a, .float .f32 b]] w fun e w' => e = .returned (.bool true) ∧ Below w.heap.size w w' := by
  have hn := wd_num a b
  have HC := Hd.mk (fun w => s_WidthOf a b w ha hb)
  have HD := Hd.mk (fun w => i_WidthOf a b w ha hb)
  unfold RetWD at HC HD
  generalize wdO a b = y at *
  generalize wdC a b = c at *
  have k1 := fun w => run_convert_float_float (P := Tryz.prog) w 22 30 .f32 .f64 y (wide y) (by kernel_rfl) Tryz.underlying30 (wide_some hn)
  have HN : Hd (dnum (wide y)) := ⟨wide_dnum hn⟩
  clear ha hb hn
  go_enter Tryz.func3, Tryz.ntmps3
  go_wp2_with (first | (go_at_call 10; (with_reducible refine (l_toInterval _ _ _).mono ?_); rintro e w' ⟨rfl, hb⟩; (try replace hb := bt3 hb (by assumption)); obtain ⟨hc, hf, hz, hy⟩ := bcell hb; have hs := hb.size; (try simp at hs); (try have h0 : w.heap.size < w'.heap.size := by omega); (try have h1 : w.heap.size + 1 < w'.heap.size := by omega); (try have h2 : w.heap.size + 1 + 1 < w'.heap.size := by omega); (try have h3 : w.heap.size + 1 + 1 + 1 < w'.heap.size := by omega); clear hs) | (go_at_call 9; (with_reducible refine (HC.out _).mono ?_); rintro e w' ⟨rfl, hb⟩; (try replace hb := bt3 hb (by assumption)); obtain ⟨hc, hf, hz, hy⟩ := bcell hb; have hs := hb.size; (try simp at hs); (try have h0 : w.heap.size < w'.heap.size := by omega); (try have h1 : w.heap.size + 1 < w'.heap.size := by omega); (try have h2 : w.heap.size + 1 + 1 < w'.heap.size := by omega); (try have h3 : w.heap.size + 1 + 1 + 1 < w'.heap.size := by omega); clear hs) | (go_at_call 11; (with_reducible refine (HD.out _).mono ?_); rintro e w' ⟨rfl, hb⟩; (try replace hb := bt3 hb (by assumption)); obtain ⟨hc, hf, hz, hy⟩ := bcell hb; have hs := hb.size; (try simp at hs); (try have h0 : w.heap.size < w'.heap.size := by omega); (try have h1 : w.heap.size + 1 < w'.heap.size := by omega); (try have h2 : w.heap.size + 1 + 1 < w'.heap.size := by omega); (try have h3 : w.heap.size + 1 + 1 + 1 < w'.heap.size := by omega); clear hs) | (go_at_call 12; (with_reducible refine (l_same _ _ HN.out).mono ?_); rintro e w' ⟨rfl, rfl⟩))
  go_ret
  exact ⟨rfl, by (repeat (first | exact Below.refl _ _ | assumption | refine Below.drew ?_ | refine bdn ?_ | refine ba _ ?_ | refine bs0 _ _ ?_ ?_ | refine bs1 _ _ _ ?_ ?_ | refine bs2 _ _ _ _ ?_ ?_ | refine bs3 _ _ _ _ _ ?_ ?_ | refine bt3 (by assumption) ?_))⟩
set_option maxRecDepth 100000 in
theorem WidthE.lifted (os : Os) (started : os.Started) (H : Type) (enc : TypeId × Value → H) :
    ReturnsInHanded {} Tryz.checked os 3 .any (Rows.fnExactWidthOfSpec.pre6 enc Tryz.prog Tryz.f3 Rows.fnExactWidthOfRow.domain false) (Rows.fnExactWidthOfSpec.post enc Tryz.prog Tryz.f3 false true false false) := by
  refine returnsInHanded_of_change (C := Tryz.checked) rowOwn started (by kernel_rfl) Tryz.func3
    (ChangeSpec.witness6 (enc := enc) (C := Tryz.checked) false ⟨#[], #[.agg #[.float .f32 0, .float .f32 0]], []⟩ 8 (by kernel_rfl) (by kernel_rfl) (by kernel_rfl) (by kernel_rfl)) ?_
  intro W base args ds gs before hval0 hW hcnd _
  have hval : ∀ (j : Nat) t v, Tryz.f3.params[j]? = some t → args[j]? = some v → Value.okWide Tryz.prog W .any base t v := hval0
  have hW' := hW
  obtain ⟨p, q, hA0, hV, rfl, hfz, hnd⟩ := hW
  have hA : DataW.TrodAll enc Tryz.prog W 0 (fun _ => true) true Tryz.f3.params.toList args.toList ds p := hA0
  rw [Tryz.params3] at hA hval
  obtain ⟨v0, vs0, d0, ds0, p0, q0, hv0, rfl, rfl, h0, r0⟩ := trodAll_cons hA
  obtain ⟨rfl, rfl, rfl⟩ := trodAll_nil r0
  obtain rfl : args = #[v0] := by cases args; simp_all
  obtain ⟨rfl, rfl⟩ := trodVars_none hV
  obtain ⟨a, b, rfl, rfl, rfl, wa, wb⟩ := open_f2 Tryz.underlying24 (by kernel_rfl) (by kernel_rfl) Tryz.underlying22 Tryz.underlying22 (hval 0 24 v0 rfl rfl) h0
  clear hA0 hval0
  refine (WidthE.walk a b W (Flt.W_of_wf wa) (Flt.W_of_wf wb)).mono fun e W' ⟨he, hg⟩ => ?_
  subst he
  exact ⟨_, rfl, post_law laidOut (by kernel_rfl) (by kernel_rfl) Tryz.underlying4 rfl hW' rfl hg⟩
theorem WidthE.k10 : (Rows.fnExactWidthOfRow.inPlace == Tryz.prog.inPlace 3) = true := by kernel_rfl
theorem WidthE.k11 : (Rows.fnExactWidthOfRow.unfollowed == Tryz.prog.unfollowed 3) = true := by kernel_rfl
theorem WidthE.k12 : (Rows.fnExactWidthOfRow.recurses == Tryz.prog.recurses 3) = true := by kernel_rfl
theorem WidthE.k13 : (Rows.fnExactWidthOfRow.named == Tryz.prog.varsNamed 3) = true := by kernel_rfl
theorem WidthE.closed : joinedFacts Tryz.prog 3 Tryz.f3 Rows.fnExactWidthOfSpec Rows.fnExactWidthOfRow = true := by
  unfold joinedFacts
  simp only [Bool.and_eq_true]
  exact ⟨⟨⟨⟨⟨⟨⟨⟨⟨⟨⟨⟨⟨⟨⟨⟨⟨⟨⟨⟨⟨⟨⟨⟨⟨⟨⟨⟨⟨⟨⟨by kernel_rfl, laidOut⟩, fact_maps⟩, by kernel_rfl⟩, by kernel_rfl⟩, by kernel_rfl⟩, by kernel_rfl⟩, by kernel_rfl⟩, by kernel_rfl⟩, WidthE.k10⟩, WidthE.k11⟩, WidthE.k12⟩, WidthE.k13⟩, by kernel_rfl⟩, by kernel_rfl⟩, by kernel_rfl⟩, by kernel_rfl⟩, by kernel_rfl⟩, by kernel_rfl⟩, by kernel_rfl⟩, by kernel_rfl⟩, by kernel_rfl⟩, by kernel_rfl⟩, by kernel_rfl⟩, fact_stops⟩, fact_enter⟩, lifts_eq rfl⟩, by kernel_rfl⟩, by kernel_rfl⟩, by kernel_rfl⟩, by kernel_rfl⟩, by kernel_rfl⟩
theorem WidthE.holds : Rows.FnExactWidthOfSaid :=
  OpenClaim.holds_of_wide 3 Tryz.f3 rfl rfl rfl rfl rfl rfl rfl ⟨rfl, rfl, rfl, rfl, rfl⟩ rfl rfl rfl rfl rfl (by kernel_rfl) Tryz.func3 WidthE.closed
    (of_decide_eq_true (by kernel_rfl)) (by unfold Func.isWrapper; first | (rw [if_pos (by decide +kernel)]; kernel_rfl) | (rw [if_neg (by decide +kernel)]; exact ⟨rfl, rfl⟩))
    (fun os started H enc _ => WidthE.lifted os started H enc)
#print axioms WidthE.holds
end Go.Proofs.YtmiafbbndonpaaaGreat
