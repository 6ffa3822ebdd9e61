/- Contracts: the exported DivideIn, both sides. -/
import Derived.Test.YtlaaielopcphiaaD12
set_option linter.unusedVariables false
set_option linter.unusedSimpArgs false
namespace Go.Proofs.Ytlaaielopcphiaa
open Go.RowKit Num Flt
def diC (x y : Nat) (mode : Int) : Int := if fin x ∧ fin y then (if modeB mode = true then (if zr y then 5 else 0) else 2) else 1
def diF (x y : Nat) (mode : Int) : Nat := if diC x y mode = 0 then dvF x y mode else 0
def diL (x y : Nat) (mode : Int) : Int := if diC x y mode = 0 then dvL x y mode else 0
theorem di_no {x y : Nat} {mode c : Int} (h : diC x y mode = c) (hc : c ≠ 0) : diF x y mode = 0 ∧ diL x y mode = 0 := by
  unfold diF diL; rw [h, if_neg hc, if_neg hc]; exact ⟨rfl, rfl⟩
theorem di_yes {x y : Nat} {mode : Int} (h : diC x y mode = 0) : diF x y mode = dvF x y mode ∧ diL x y mode = dvL x y mode := by
  unfold diF diL; rw [if_pos h, if_pos h]; exact ⟨rfl, rfl⟩
theorem di_num (x y : Nat) (mode : Int) : ¬ nan (diF x y mode) := by
  unfold diF dvF
  split
  · split
    · exact (szF_num _).2
    · exact (rF_num _ _).2
  · decide
set_option maxHeartbeats 4000000 in
theorem s_DivideIn (x y : Nat) (mode : Int) (w : World) (hx : W x) (hy : W y) : Calls Try.prog 14 #[.float .f32 x, .float .f32 y, .int .i64 mode] w (RetV (.tuple #[.float .f32 (diF x y mode), .int .i64 (diL x y mode), .int .i64 (diC x y mode)]) w) := by
  have HT := Hd.mk (fun w => s_Two4 x y mode w)
  have h0 := o_eq0 y hy
  by_cases h12 : fin x ∧ fin y
  · cases hm : modeB mode
    · rw [tw_mode h12 hm] at HT
      have hc : diC x y mode = 2 := by unfold diC; rw [if_pos h12, hm]; rfl
      rw [(di_no hc (by decide)).1, (di_no hc (by decide)).2, hc]
      clear h12 hm hx hy hc h0
      go_enter Try.func14, Try.ntmps14
      go_wp2_with (go_at_call 35; (with_reducible refine (HT.out _).mono ?_); rintro e w' ⟨rfl, ⟨nd, rfl⟩⟩)
      refine bodyPost_ret (v := .tuple #[.float .f32 0, .int .i64 0, .int .i64 2]) (by simp (maxDischargeDepth := 7) [results, Try.results14, go_sem]) rfl ⟨rfl, ?_⟩
      (repeat (first | exact Below.refl _ _ | assumption | refine Below.drew ?_ | refine bdn ?_ | refine ba _ ?_ | refine bs0 _ _ ?_ ?_ | refine bs1 _ _ _ ?_ ?_ | refine bs2 _ _ _ _ ?_ ?_ | refine bs3 _ _ _ _ _ ?_ ?_ | refine bt3 (by assumption) ?_))
    · rw [tw_good h12 hm] at HT
      by_cases hz : zr y
      · have hc : diC x y mode = 5 := by unfold diC; rw [if_pos h12, hm, if_pos hz]; rfl
        rw [(di_no hc (by decide)).1, (di_no hc (by decide)).2, hc]
        have hzd : decide (y = 0 ∨ y = 2147483648) = true := decide_eq_true hz
        rw [hzd] at h0
        clear h12 hm hx hy hc hz hzd
        go_enter Try.func14, Try.ntmps14
        go_wp2_with (go_at_call 35; (with_reducible refine (HT.out _).mono ?_); rintro e w' ⟨rfl, ⟨nd, rfl⟩⟩)
        refine bodyPost_ret (v := .tuple #[.float .f32 0, .int .i64 0, .int .i64 5]) (by simp (maxDischargeDepth := 7) [results, Try.results14, go_sem]) rfl ⟨rfl, ?_⟩
        (repeat (first | exact Below.refl _ _ | assumption | refine Below.drew ?_ | refine bdn ?_ | refine ba _ ?_ | refine bs0 _ _ ?_ ?_ | refine bs1 _ _ _ ?_ ?_ | refine bs2 _ _ _ _ ?_ ?_ | refine bs3 _ _ _ _ _ ?_ ?_ | refine bt3 (by assumption) ?_))
      · have hc : diC x y mode = 0 := by unfold diC; rw [if_pos h12, hm, if_neg hz]; rfl
        rw [(di_yes hc).1, (di_yes hc).2, hc]
        have HD := Hd.mk (fun w => s_Divide x y mode w hx hy h12.1 h12.2 hz (modeB_of hm))
        have hzd : decide (y = 0 ∨ y = 2147483648) = false := decide_eq_false hz
        rw [hzd] at h0
        clear h12 hm hx hy hc hz hzd
        generalize dvF x y mode = p at *
        generalize dvL x y mode = f at *
        go_enter Try.func14, Try.ntmps14
        go_wp2_with (first | (go_at_call 35; (with_reducible refine (HT.out _).mono ?_); rintro e w' ⟨rfl, ⟨nd, rfl⟩⟩) | (go_at_call 36; (with_reducible refine (HD.out _).mono ?_); rintro e w' ⟨rfl, hb⟩; (try replace hb := bt3 hb (by assumption)); obtain ⟨hc, hf, hz, hy⟩ := bcell hb; have hs := hb.size; (try simp at hs); (try have h0 : w.heap.size < w'.heap.size := by omega); (try have h1 : w.heap.size + 1 < w'.heap.size := by omega); (try have h2 : w.heap.size + 1 + 1 < w'.heap.size := by omega); (try have h3 : w.heap.size + 1 + 1 + 1 < w'.heap.size := by omega); clear hs))
        refine bodyPost_ret (v := .tuple #[.float .f32 p, .int .i64 f, .int .i64 0]) (by simp (maxDischargeDepth := 7) [results, Try.results14, go_sem]) rfl ⟨rfl, ?_⟩
        (repeat (first | exact Below.refl _ _ | assumption | refine Below.drew ?_ | refine bdn ?_ | refine ba _ ?_ | refine bs0 _ _ ?_ ?_ | refine bs1 _ _ _ ?_ ?_ | refine bs2 _ _ _ _ ?_ ?_ | refine bs3 _ _ _ _ _ ?_ ?_ | refine bt3 (by assumption) ?_))
  · rw [tw_bad mode h12] at HT
    have hc : diC x y mode = 1 := by unfold diC; rw [if_neg h12]
    rw [(di_no hc (by decide)).1, (di_no hc (by decide)).2, hc]
    clear h12 hx hy hc h0
    go_enter Try.func14, Try.ntmps14
    go_wp2_with (go_at_call 35; (with_reducible refine (HT.out _).mono ?_); rintro e w' ⟨rfl, ⟨nd, rfl⟩⟩)
    refine bodyPost_ret (v := .tuple #[.float .f32 0, .int .i64 0, .int .i64 1]) (by simp (maxDischargeDepth := 7) [results, Try.results14, go_sem]) rfl ⟨rfl, ?_⟩
    (repeat (first | exact Below.refl _ _ | assumption | refine Below.drew ?_ | refine bdn ?_ | refine ba _ ?_ | refine bs0 _ _ ?_ ?_ | refine bs1 _ _ _ ?_ ?_ | refine bs2 _ _ _ _ ?_ ?_ | refine bs3 _ _ _ _ _ ?_ ?_ | refine bt3 (by assumption) ?_))
set_option maxHeartbeats 4000000 in
theorem i_DivideIn (x y : Nat) (mode : Int) (w : World) (hx : W x) (hy : W y) : Calls Try.prog 15 #[.float .f32 x, .float .f32 y, .int .i64 mode] w (RetV (.tuple #[.float .f32 (diF x y mode), .int .i64 (diL x y mode), .int .i64 (diC x y mode)]) w) := by
  have HM := Hd.mk (fun w => i_Mode mode w)
  have h0 := o_eq0 y hy
  have HX := Hd.mk (And.intro hx hy)
  by_cases h12 : fin x ∧ fin y
  · have p1 : decide (fin x) = true := decide_eq_true h12.1
    have p2 : decide (fin y) = true := decide_eq_true h12.2
    cases hm : modeB mode
    · rw [hm] at HM
      have hc : diC x y mode = 2 := by unfold diC; rw [if_pos h12, hm]; rfl
      rw [(di_no hc (by decide)).1, (di_no hc (by decide)).2, hc]
      clear h12 hm hx hy hc h0
      go_enter Try.func15, Try.ntmps15
      go_wp2_with (first | (go_at_call 37; (with_reducible refine (i_areFinite2 w.heap.size 2 x y _ HX.out.1 HX.out.2 (by go_simp) (by go_simp)).mono ?_); rintro e w' ⟨rfl, rfl⟩) | (go_at_call 38; (with_reducible refine (HM.out _).mono ?_); rintro e w' ⟨rfl, rfl⟩))
      refine bodyPost_ret (v := .tuple #[.float .f32 0, .int .i64 0, .int .i64 2]) (by simp (maxDischargeDepth := 7) [results, Try.results15, go_sem]) rfl ⟨rfl, ?_⟩
      (repeat (first | exact Below.refl _ _ | assumption | refine Below.drew ?_ | refine bdn ?_ | refine ba _ ?_ | refine bs0 _ _ ?_ ?_ | refine bs1 _ _ _ ?_ ?_ | refine bs2 _ _ _ _ ?_ ?_ | refine bs3 _ _ _ _ _ ?_ ?_ | refine bt3 (by assumption) ?_))
    · rw [hm] at HM
      by_cases hz : zr y
      · have hc : diC x y mode = 5 := by unfold diC; rw [if_pos h12, hm, if_pos hz]; rfl
        rw [(di_no hc (by decide)).1, (di_no hc (by decide)).2, hc]
        have hzd : decide (y = 0 ∨ y = 2147483648) = true := decide_eq_true hz
        rw [hzd] at h0
        clear h12 hm hx hy hc hz hzd
        go_enter Try.func15, Try.ntmps15
        go_wp2_with (first | (go_at_call 37; (with_reducible refine (i_areFinite2 w.heap.size 2 x y _ HX.out.1 HX.out.2 (by go_simp) (by go_simp)).mono ?_); rintro e w' ⟨rfl, rfl⟩) | (go_at_call 38; (with_reducible refine (HM.out _).mono ?_); rintro e w' ⟨rfl, rfl⟩))
        refine bodyPost_ret (v := .tuple #[.float .f32 0, .int .i64 0, .int .i64 5]) (by simp (maxDischargeDepth := 7) [results, Try.results15, go_sem]) rfl ⟨rfl, ?_⟩
        (repeat (first | exact Below.refl _ _ | assumption | refine Below.drew ?_ | refine bdn ?_ | refine ba _ ?_ | refine bs0 _ _ ?_ ?_ | refine bs1 _ _ _ ?_ ?_ | refine bs2 _ _ _ _ ?_ ?_ | refine bs3 _ _ _ _ _ ?_ ?_ | refine bt3 (by assumption) ?_))
      · have hc : diC x y mode = 0 := by unfold diC; rw [if_pos h12, hm, if_neg hz]; rfl
        rw [(di_yes hc).1, (di_yes hc).2, hc]
        have HD := Hd.mk (fun w => i_divIn x y mode w hx hy h12.1 h12.2 hz (modeB_of hm))
        have hzd : decide (y = 0 ∨ y = 2147483648) = false := decide_eq_false hz
        rw [hzd] at h0
        clear h12 hm hx hy hc hz hzd
        generalize dvF x y mode = p at *
        generalize dvL x y mode = f at *
        go_enter Try.func15, Try.ntmps15
        go_wp2_with (first | (go_at_call 37; (with_reducible refine (i_areFinite2 w.heap.size 2 x y _ HX.out.1 HX.out.2 (by go_simp) (by go_simp)).mono ?_); rintro e w' ⟨rfl, rfl⟩) | (go_at_call 38; (with_reducible refine (HM.out _).mono ?_); rintro e w' ⟨rfl, rfl⟩) | (go_at_call 39; (with_reducible refine (HD.out _).mono ?_); rintro e w' ⟨rfl, hb⟩; (try replace hb := bt3 hb (by assumption)); obtain ⟨hc, hf, hz, hy⟩ := bcell hb; have hs := hb.size; (try simp at hs); (try have h0 : w.heap.size < w'.heap.size := by omega); (try have h1 : w.heap.size + 1 < w'.heap.size := by omega); (try have h2 : w.heap.size + 1 + 1 < w'.heap.size := by omega); (try have h3 : w.heap.size + 1 + 1 + 1 < w'.heap.size := by omega); clear hs))
        refine bodyPost_ret (v := .tuple #[.float .f32 p, .int .i64 f, .int .i64 0]) (by simp (maxDischargeDepth := 7) [results, Try.results15, go_sem]) rfl ⟨rfl, ?_⟩
        (repeat (first | exact Below.refl _ _ | assumption | refine Below.drew ?_ | refine bdn ?_ | refine ba _ ?_ | refine bs0 _ _ ?_ ?_ | refine bs1 _ _ _ ?_ ?_ | refine bs2 _ _ _ _ ?_ ?_ | refine bs3 _ _ _ _ _ ?_ ?_ | refine bt3 (by assumption) ?_))
  · have hc : diC x y mode = 1 := by unfold diC; rw [if_neg h12]
    rw [(di_no hc (by decide)).1, (di_no hc (by decide)).2, hc]
    have p1 : (decide (fin x) && decide (fin y)) = false := by
      cases h1 : decide (fin x)
      · rfl
      · cases h2 : decide (fin y)
        · rfl
        · exact absurd ⟨of_decide_eq_true h1, of_decide_eq_true h2⟩ h12
    have HA := Hd.mk (fun (g c : Nat) (w : World) c0 c1 => i_areFinite2 g c x y w hx hy c0 c1)
    rw [p1] at HA
    clear h12 hx hy hc h0 p1
    go_enter Try.func15, Try.ntmps15
    go_wp2_with (go_at_call 37; (with_reducible refine (HA.out w.heap.size 2 _ (by go_simp) (by go_simp)).mono ?_); rintro e w' ⟨rfl, rfl⟩)
    refine bodyPost_ret (v := .tuple #[.float .f32 0, .int .i64 0, .int .i64 1]) (by simp (maxDischargeDepth := 7) [results, Try.results15, go_sem]) rfl ⟨rfl, ?_⟩
    (repeat (first | exact Below.refl _ _ | assumption | refine Below.drew ?_ | refine bdn ?_ | refine ba _ ?_ | refine bs0 _ _ ?_ ?_ | refine bs1 _ _ _ ?_ ?_ | refine bs2 _ _ _ _ ?_ ?_ | refine bs3 _ _ _ _ _ ?_ ?_ | refine bt3 (by assumption) ?_))
end Go.Proofs.Ytlaaielopcphiaa
