/- For every interval the program's WidenInterval answers as the reference's does, for all float words. -/
import Derived.Test.YtlfgefcagjjfkaaF7
import Derived.Test.YtlfgefcagjjfkaaF12
import Derived.Test.YtlfgefcagjjfkaaRow
set_option linter.unusedVariables false
set_option linter.unusedSimpArgs false
namespace Go.Proofs.Ytlfgefcagjjfkaa
open Go.ChangeShapes Go.WideShapes Go.ChangeAt Go.RowKit Flt
theorem nan_atP {n : Int} (h0 : -2139095040 ≤ n) (h1 : n ≤ 2139095040) : ¬ nan (atP n) := by unfold nan atP; split <;> omega
set_option linter.unusedVariables false
set_option maxHeartbeats 2000000 in
theorem Widen.walk0 (a b : Nat) (w : World) (ha : W a) (hb : W b) (hi : IsIv a b) :
    Calls Try.prog 13 #[.agg #[.float .f32 a, .float .f32 b]] w fun e w' => e = .returned (.bool true) ∧ Below w.heap.size w w' := by
  have HI : Hd (IsIv a b) := ⟨hi⟩
  have HN : Hd (¬ nan (atP (max (pl a - 1) (-2139095040))) ∧ ¬ nan (atP (min (pl b + 1) 2139095040))) := ⟨⟨nan_atP (by have := pl_hi a; have := hi.1; unfold nan at this; omega) (by have := pl_hi a; have := hi.1; unfold nan at this; omega), nan_atP (by have := pl_lo b; have := hi.2.1; unfold nan at this; omega) (by have := pl_lo b; have := hi.2.1; unfold nan at this; omega)⟩⟩
  clear hi
  have HA : Hd (W a) := ⟨ha⟩
  have HB : Hd (W b) := ⟨hb⟩
  clear ha hb
  go_enter Try.func13, Try.ntmps13
  go_wp2_with (first | (go_at_call 18; (with_reducible refine (l_toInterval _ _ _).mono ?_); rintro e w' ⟨rfl, hb⟩; (try replace hb := bt3 hb (by assumption)); obtain ⟨hc, hf, hz, hy⟩ := bcell hb; have hs := hb.size; (try simp at hs); (try have h0 : w.heap.size < w'.heap.size := by omega); (try have h1 : w.heap.size + 1 < w'.heap.size := by omega); (try have h2 : w.heap.size + 1 + 1 < w'.heap.size := by omega); clear hs) | (go_at_call 37; (with_reducible refine (s_Widen _ _ _ HA.out HB.out HI.out).mono ?_); rintro e w' ⟨rfl, hb⟩; (try replace hb := bt3 hb (by assumption)); obtain ⟨hc, hf, hz, hy⟩ := bcell hb; have hs := hb.size; (try simp at hs); (try have h0 : w.heap.size < w'.heap.size := by omega); (try have h1 : w.heap.size + 1 < w'.heap.size := by omega); (try have h2 : w.heap.size + 1 + 1 < w'.heap.size := by omega); clear hs) | (go_at_call 38; (with_reducible refine (i_Widen _ _ _ HA.out HB.out HI.out).mono ?_); rintro e w' ⟨rfl, hb⟩; (try replace hb := bt3 hb (by assumption)); obtain ⟨hc, hf, hz, hy⟩ := bcell hb; have hs := hb.size; (try simp at hs); (try have h0 : w.heap.size < w'.heap.size := by omega); (try have h1 : w.heap.size + 1 < w'.heap.size := by omega); (try have h2 : w.heap.size + 1 + 1 < w'.heap.size := by omega); clear hs) | (go_at_call 28; (with_reducible refine (l_eqInterval _ _ _ HN.out.1 HN.out.2).mono ?_); rintro e w' ⟨rfl, hb⟩; (try replace hb := bt3 hb (by assumption)); obtain ⟨hc, hf, hz, hy⟩ := bcell hb; have hs := hb.size; (try simp at hs); (try have h0 : w.heap.size < w'.heap.size := by omega); (try have h1 : w.heap.size + 1 < w'.heap.size := by omega); (try have h2 : w.heap.size + 1 + 1 < w'.heap.size := by omega); clear hs))
  go_ret
  refine ⟨rfl, ?_⟩
  (repeat (first | exact Below.refl _ _ | refine Below.drew ?_ | refine below_drewN _ ?_ | refine ba _ ?_ | refine bs0 _ _ ?_ ?_ | refine bs1 _ _ _ ?_ ?_ | refine bs2 _ _ _ _ ?_ ?_ | refine bs3 _ _ _ _ _ ?_ ?_ | refine bt3 (by assumption) ?_))
set_option maxHeartbeats 2000000 in
theorem Widen.walk1 (a b : Nat) (w : World) (ha : W a) (hb : W b) (hn : ¬ IsIv a b) :
    Calls Try.prog 13 #[.agg #[.float .f32 a, .float .f32 b]] w fun e w' => e = .returned (.bool true) ∧ Below w.heap.size w w' := by
  have HN0 : Hd (¬ IsIv a b) := ⟨hn⟩
  have HN : Hd (¬ nan 0 ∧ ¬ nan 0) := ⟨⟨by decide, by decide⟩⟩
  clear hn
  have HA : Hd (W a) := ⟨ha⟩
  have HB : Hd (W b) := ⟨hb⟩
  clear ha hb
  go_enter Try.func13, Try.ntmps13
  go_wp2_with (first | (go_at_call 18; (with_reducible refine (l_toInterval _ _ _).mono ?_); rintro e w' ⟨rfl, hb⟩; (try replace hb := bt3 hb (by assumption)); obtain ⟨hc, hf, hz, hy⟩ := bcell hb; have hs := hb.size; (try simp at hs); (try have h0 : w.heap.size < w'.heap.size := by omega); (try have h1 : w.heap.size + 1 < w'.heap.size := by omega); (try have h2 : w.heap.size + 1 + 1 < w'.heap.size := by omega); clear hs) | (go_at_call 37; (with_reducible refine (s_WidenN _ _ _ HA.out HB.out HN0.out).mono ?_); rintro e w' ⟨rfl, hb⟩; (try replace hb := bt3 hb (by assumption)); obtain ⟨hc, hf, hz, hy⟩ := bcell hb; have hs := hb.size; (try simp at hs); (try have h0 : w.heap.size < w'.heap.size := by omega); (try have h1 : w.heap.size + 1 < w'.heap.size := by omega); (try have h2 : w.heap.size + 1 + 1 < w'.heap.size := by omega); clear hs) | (go_at_call 38; (with_reducible refine (i_WidenN _ _ _ HA.out HB.out HN0.out).mono ?_); rintro e w' ⟨rfl, hb⟩; (try replace hb := bt3 hb (by assumption)); obtain ⟨hc, hf, hz, hy⟩ := bcell hb; have hs := hb.size; (try simp at hs); (try have h0 : w.heap.size < w'.heap.size := by omega); (try have h1 : w.heap.size + 1 < w'.heap.size := by omega); (try have h2 : w.heap.size + 1 + 1 < w'.heap.size := by omega); clear hs) | (go_at_call 28; (with_reducible refine (l_eqInterval _ _ _ HN.out.1 HN.out.2).mono ?_); rintro e w' ⟨rfl, hb⟩; (try replace hb := bt3 hb (by assumption)); obtain ⟨hc, hf, hz, hy⟩ := bcell hb; have hs := hb.size; (try simp at hs); (try have h0 : w.heap.size < w'.heap.size := by omega); (try have h1 : w.heap.size + 1 < w'.heap.size := by omega); (try have h2 : w.heap.size + 1 + 1 < w'.heap.size := by omega); clear hs))
  go_ret
  refine ⟨rfl, ?_⟩
  (repeat (first | exact Below.refl _ _ | refine Below.drew ?_ | refine below_drewN _ ?_ | refine ba _ ?_ | refine bs0 _ _ ?_ ?_ | refine bs1 _ _ _ ?_ ?_ | refine bs2 _ _ _ _ ?_ ?_ | refine bs3 _ _ _ _ _ ?_ ?_ | refine bt3 (by assumption) ?_))
theorem Widen.walk (a b : Nat) (w : World) (ha : W a) (hb : W b) :
    Calls Try.prog 13 #[.agg #[.float .f32 a, .float .f32 b]] w fun e w' => e = .returned (.bool true) ∧ Below w.heap.size w w' := by
  by_cases h : IsIv a b
  · exact Widen.walk0 a b w ha hb h
  · exact Widen.walk1 a b w ha hb h
set_option maxRecDepth 100000 in
theorem Widen.lifted (os : Os) (started : os.Started) (H : Type) (enc : TypeId × Value → H) :
    ReturnsInHanded {} Try.checked os 13 .any (Rows.fnExactWidenIntervalSpec.pre6 enc Try.prog Try.f13 Rows.fnExactWidenIntervalRow.domain false) (Rows.fnExactWidenIntervalSpec.post enc Try.prog Try.f13 false true false false) := by
  refine returnsInHanded_of_change (C := Try.checked) rowOwn started (by kernel_rfl) Try.func13
    (ChangeSpec.witness6 (enc := enc) (C := Try.checked) false ⟨#[], #[.agg #[.float .f32 0, .float .f32 0]], []⟩ 8 (by kernel_rfl) (by kernel_rfl) (by kernel_rfl) (by kernel_rfl)) ?_
  intro W base args ds gs before hval0 hW hcnd _
  have hval : ∀ (j : Nat) t v, Try.f13.params[j]? = some t → args[j]? = some v → Value.okWide Try.prog W .any base t v := hval0
  have hW' := hW
  obtain ⟨p, q, hA0, hV, rfl, hfz, hnd⟩ := hW
  have hA : DataW.TrodAll enc Try.prog W 0 (fun _ => true) true Try.f13.params.toList args.toList ds p := hA0
  rw [Try.params13] at hA hval
  obtain ⟨v0, vs0, d0, ds0, p0, q0, hv0, rfl, rfl, h0, r0⟩ := trodAll_cons hA
  obtain ⟨rfl, rfl, rfl⟩ := trodAll_nil r0
  obtain rfl : args = #[v0] := by cases args; simp_all
  obtain ⟨rfl, rfl⟩ := trodVars_none hV
  obtain ⟨a, b, rfl, rfl, rfl, wa, wb⟩ := open_f2 Try.underlying30 (by kernel_rfl) (by kernel_rfl) Try.underlying22 Try.underlying22 (hval 0 30 v0 rfl rfl) h0
  clear hA0 hval0
  simp only [List.append_nil] at hW'
  refine (Widen.walk a b W (Flt.W_of_wf wa) (Flt.W_of_wf wb)).mono fun e W' ⟨he, hg⟩ => ?_
  subst he
  exact ⟨_, rfl, post_of_below (pa := []) (pv := []) hW' (fun _ _ _ => (trodAll_cons_mk (shut_bool Try.underlying4 _) trodAll_mk0)) (fun sp _ => (trodAll_cons_mk (shut_f2 Try.underlying30 (by kernel_rfl) (by kernel_rfl) Try.underlying22 Try.underlying22 wa wb) trodAll_mk0)) (fun _ _ => rfl) rfl hg (ok_one (by kernel_rfl) rfl (okWide_bool_mk Try.underlying4 _))⟩
theorem Widen.holds : Rows.FnExactWidenIntervalSaid :=
  OpenClaim.holds_of_wide 13 Try.f13 rfl rfl rfl rfl rfl rfl rfl ⟨rfl, rfl, rfl, rfl, rfl⟩ rfl rfl rfl rfl rfl (by kernel_rfl) Try.func13 (by kernel_rfl)
    (of_decide_eq_true (by kernel_rfl)) (by unfold Func.isWrapper; first | (rw [if_pos (by decide +kernel)]; kernel_rfl) | (rw [if_neg (by decide +kernel)]; exact ⟨rfl, rfl⟩))
    (fun os started H enc _ => Widen.lifted os started H enc)
#print axioms Widen.holds
end Go.Proofs.Ytlfgefcagjjfkaa
