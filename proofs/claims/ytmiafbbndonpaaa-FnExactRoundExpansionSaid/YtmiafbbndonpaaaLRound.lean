/- For every list of floats and every mode the program's RoundExpansion answers as the reference's does. -/
import Derived.Test.YtmiafbbndonpaaaGh
import Derived.Test.YtmiafbbndonpaaaGf
set_option linter.unusedVariables false
set_option linter.unusedSimpArgs false
namespace Go.Proofs.Ytmiafbbndonpaaa
open Go.ChangeShapes Go.WideShapes Go.ChangeAt Go.RowKit Num Flt
theorem reF_num (xs : List Nat) (mode : Int) : ¬ nan (reF xs mode) := by
  unfold reF
  split
  · unfold rF
    split
    · decide
    · have := rgN_le mode (decide (sumv xs < 0)) (sumv xs).natAbs
      unfold nan; split <;> omega
  · decide
set_option maxHeartbeats 4000000 in
theorem RoundE.walk (A : Option Addr) (n c : Nat) (xs : List Nat) (mode : Int) (w : World) (hn : n = xs.length) (hl : n ≤ maxLen) (hR : RF w A xs) (hx : ∀ x ∈ xs, W x) :
    Calls Try.prog 10 #[.slice A n c, .int .i64 mode] w fun e w' => e = .returned (.bool true) ∧ Below w.heap.size w w' := by
  by_cases hbig : 1048576 < n
  · have hnI : (n : Int) ≤ 9223372036854775807 := by unfold maxLen at hl; omega
    have hbI : 1048576 < (n : Int) := by omega
    clear hbig hl hR hx hn
    go_enter Try.func10, Try.ntmps10
    go_wp2
    go_ret
    exact ⟨rfl, Below.refl _ _⟩
  · have HR : Hd (RF w A xs) := ⟨hR⟩
    have HN : Hd (n = xs.length ∧ n ≤ LIM ∧ xs.length ≤ LIM ∧ ∀ x ∈ xs, W x) := ⟨⟨hn, by unfold LIM; omega, by unfold LIM; omega, hx⟩⟩
    have hnI : (n : Int) ≤ 1048576 := by omega
    clear hbig hl hR hx hn
    have k1 := fun w => run_convert_float_float (P := Try.prog) w 28 62 .f32 .f64 (reF xs mode) (wide (reF xs mode)) (by kernel_rfl) Try.underlying62 (wide_some (reF_num xs mode))
    have HD : Hd (dnum (wide (reF xs mode))) := ⟨wide_dnum (reF_num xs mode)⟩
    go_enter Try.func10, Try.ntmps10
    go_wp2_with (first | (first | (go_at_call 19; have := H2; clear this; (with_reducible refine (l_toF A n c xs _ HN.out.1 HN.out.2.1 (HR.out.below (by (repeat (first | exact Below.refl _ _ | assumption | refine Below.drew ?_ | refine bdn ?_ | refine ba _ ?_ | refine bs0 _ _ ?_ ?_ | refine bs1 _ _ _ ?_ ?_ | refine bs2 _ _ _ _ ?_ ?_ | refine bs3 _ _ _ _ _ ?_ ?_ | refine bt3 (by assumption) ?_))))).mono ?_); rintro e3 w3 ⟨g3, rfl, hg3, hr3, hb⟩; replace hq : Below w.heap.size w w3 := bt3 hb (by (repeat (first | exact Below.refl _ _ | assumption | refine Below.drew ?_ | refine bdn ?_ | refine ba _ ?_ | refine bs0 _ _ ?_ ?_ | refine bs1 _ _ _ ?_ ?_ | refine bs2 _ _ _ _ ?_ ?_ | refine bs3 _ _ _ _ _ ?_ ?_ | refine bt3 (by assumption) ?_))); replace H2 : Hd (RowF w3 g2 xs) := ⟨H2.out.below hb H2.out.lt⟩; have H3 : Hd (RowF w3 g3 xs) := ⟨hr3⟩; clear hg3 hr3 hb) | (go_at_call 19; have := H1; clear this; (with_reducible refine (l_toF A n c xs _ HN.out.1 HN.out.2.1 (HR.out.below (by (repeat (first | exact Below.refl _ _ | assumption | refine Below.drew ?_ | refine bdn ?_ | refine ba _ ?_ | refine bs0 _ _ ?_ ?_ | refine bs1 _ _ _ ?_ ?_ | refine bs2 _ _ _ _ ?_ ?_ | refine bs3 _ _ _ _ _ ?_ ?_ | refine bt3 (by assumption) ?_))))).mono ?_); rintro e2 w2 ⟨g2, rfl, hg2, hr2, hb⟩; replace hq : Below w.heap.size w w2 := bt3 hb (by (repeat (first | exact Below.refl _ _ | assumption | refine Below.drew ?_ | refine bdn ?_ | refine ba _ ?_ | refine bs0 _ _ ?_ ?_ | refine bs1 _ _ _ ?_ ?_ | refine bs2 _ _ _ _ ?_ ?_ | refine bs3 _ _ _ _ _ ?_ ?_ | refine bt3 (by assumption) ?_))); have H2 : Hd (RowF w2 g2 xs) := ⟨hr2⟩; clear hg2 hr2 hb) | (go_at_call 19; (with_reducible refine (l_toF A n c xs _ HN.out.1 HN.out.2.1 (HR.out.below (by (repeat (first | exact Below.refl _ _ | assumption | refine Below.drew ?_ | refine bdn ?_ | refine ba _ ?_ | refine bs0 _ _ ?_ ?_ | refine bs1 _ _ _ ?_ ?_ | refine bs2 _ _ _ _ ?_ ?_ | refine bs3 _ _ _ _ _ ?_ ?_ | refine bt3 (by assumption) ?_))))).mono ?_); rintro e1 w1 ⟨g1, rfl, hg1, hr1, hb⟩; have hq : Below w.heap.size w w1 := bt3 hb (by (repeat (first | exact Below.refl _ _ | assumption | refine Below.drew ?_ | refine bdn ?_ | refine ba _ ?_ | refine bs0 _ _ ?_ ?_ | refine bs1 _ _ _ ?_ ?_ | refine bs2 _ _ _ _ ?_ ?_ | refine bs3 _ _ _ _ _ ?_ ?_ | refine bt3 (by assumption) ?_))); have H1 : Hd (RowF w1 g1 xs) := ⟨hr1⟩; clear hg1 hr1 hb)) | (go_at_call 44; (with_reducible refine (s_RoundE _ _ _ xs mode _ rfl HN.out.2.2.1 H1.out.reads HN.out.2.2.2).mono ?_); rintro e w4 ⟨rfl, hb⟩; replace hq : Below w.heap.size w w4 := bt3 hb hq; clear hb) | (go_at_call 45; (with_reducible refine (m_RoundE _ _ _ xs mode _ rfl HN.out.2.2.1 H2.out.reads HN.out.2.2.2).mono ?_); rintro e w5 ⟨rfl, hb⟩; replace hq : Below w.heap.size w w5 := bt3 hb hq; replace H2 : Hd (RowF w5 g2 xs) := ⟨H2.out.below hb H2.out.lt⟩; clear hb) | (go_at_call 40; (with_reducible refine (l_same _ _ HD.out).mono ?_); rintro e w' ⟨rfl, rfl⟩) | (go_at_call 21; (with_reducible refine (l_eqF _ _ _ _ _ xs _ rfl HN.out.2.2.1 H2.out.reads H3.out.reads HN.out.2.2.2).mono ?_); rintro e w' ⟨rfl, ⟨nd, rfl⟩⟩))
    go_ret
    exact ⟨rfl, bdn hq⟩
set_option maxRecDepth 100000 in
theorem RoundE.lifted (os : Os) (started : os.Started) (H : Type) (enc : TypeId × Value → H) :
    ReturnsInHanded {} Try.checked os 10 .any (Rows.fnExactRoundExpansionSpec.pre6 enc Try.prog Try.f10 Rows.fnExactRoundExpansionRow.domain false) (Rows.fnExactRoundExpansionSpec.post enc Try.prog Try.f10 false true false false) := by
  refine returnsInHanded_of_change (C := Try.checked) rowOwn started (by kernel_rfl) Try.func10
    (ChangeSpec.witness6 (enc := enc) (C := Try.checked) false ⟨#[], #[.slice none 0 0, .int .i64 0], []⟩ 8 (by kernel_rfl) (by kernel_rfl) (by kernel_rfl) (by kernel_rfl)) ?_
  intro W base args ds gs before hval0 hW hcnd _
  have hval : ∀ (j : Nat) t v, Try.f10.params[j]? = some t → args[j]? = some v → Value.okWide Try.prog W .any base t v := hval0
  have hW' := hW
  obtain ⟨p, q, hA0, hV, rfl, hfz, hnd⟩ := hW
  have hA : DataW.TrodAll enc Try.prog W 0 (fun _ => true) true Try.f10.params.toList args.toList ds p := hA0
  rw [Try.params10] at hA hval
  obtain ⟨v0, vs0, d0, ds0, p0, q0, hv0, rfl, rfl, h0, r0⟩ := trodAll_cons hA
  obtain ⟨v1, vs1, d1, ds1, p1, q1, hv1, rfl, rfl, h1, r1⟩ := trodAll_cons r0
  subst hv1
  obtain ⟨rfl, rfl, rfl⟩ := trodAll_nil r1
  obtain rfl : args = #[v0, v1] := by cases args; simp_all
  obtain ⟨rfl, rfl⟩ := trodVars_none hV
  obtain ⟨A, n, c, xs, rfl, hn, hnc, hcm, hR, hx⟩ := open_fl Try.underlying22 Try.underlying28 (by kernel_rfl) (hval 0 22 v0 rfl rfl) h0
  obtain ⟨mode, rfl, rfl, rfl, wm⟩ := open_int Try.underlying2 (hval 1 2 v1 rfl rfl) h1
  clear hA0 hval0
  refine (RoundE.walk A n c xs mode W hn (Nat.le_trans hnc hcm) hR hx).mono fun e W' ⟨he, hg⟩ => ?_
  subst he
  exact ⟨_, rfl, post_law laidOut (by kernel_rfl) (by kernel_rfl) Try.underlying4 rfl hW' rfl hg⟩
theorem RoundE.k10 : (Rows.fnExactRoundExpansionRow.inPlace == Try.prog.inPlace 10) = true := by kernel_rfl
theorem RoundE.k11 : (Rows.fnExactRoundExpansionRow.unfollowed == Try.prog.unfollowed 10) = true := by kernel_rfl
theorem RoundE.k12 : (Rows.fnExactRoundExpansionRow.recurses == Try.prog.recurses 10) = true := by kernel_rfl
theorem RoundE.k13 : (Rows.fnExactRoundExpansionRow.named == Try.prog.varsNamed 10) = true := by kernel_rfl
theorem RoundE.closed : joinedFacts Try.prog 10 Try.f10 Rows.fnExactRoundExpansionSpec Rows.fnExactRoundExpansionRow = true := by
  unfold joinedFacts
  simp only [Bool.and_eq_true]
  exact ⟨⟨⟨⟨⟨⟨⟨⟨⟨⟨⟨⟨⟨⟨⟨⟨⟨⟨⟨⟨⟨⟨⟨⟨⟨⟨⟨⟨⟨⟨⟨by kernel_rfl, laidOut⟩, fact_maps⟩, by kernel_rfl⟩, by kernel_rfl⟩, by kernel_rfl⟩, by kernel_rfl⟩, by kernel_rfl⟩, by kernel_rfl⟩, RoundE.k10⟩, RoundE.k11⟩, RoundE.k12⟩, RoundE.k13⟩, by kernel_rfl⟩, by kernel_rfl⟩, by kernel_rfl⟩, by kernel_rfl⟩, by kernel_rfl⟩, by kernel_rfl⟩, by kernel_rfl⟩, by kernel_rfl⟩, by kernel_rfl⟩, by kernel_rfl⟩, by kernel_rfl⟩, fact_stops⟩, fact_enter⟩, lifts_eq rfl⟩, by kernel_rfl⟩, by kernel_rfl⟩, by kernel_rfl⟩, by kernel_rfl⟩, by kernel_rfl⟩
theorem RoundE.holds : Rows.FnExactRoundExpansionSaid :=
  OpenClaim.holds_of_wide 10 Try.f10 rfl rfl rfl rfl rfl rfl rfl ⟨rfl, rfl, rfl, rfl, rfl⟩ rfl rfl rfl rfl rfl (by kernel_rfl) Try.func10 RoundE.closed
    (of_decide_eq_true (by kernel_rfl)) (by unfold Func.isWrapper; first | (rw [if_pos (by decide +kernel)]; kernel_rfl) | (rw [if_neg (by decide +kernel)]; exact ⟨rfl, rfl⟩))
    (fun os started H enc _ => RoundE.lifted os started H enc)
#print axioms RoundE.holds
end Go.Proofs.Ytmiafbbndonpaaa
