/- Contracts: the exported sums, differences and products in a mode, both sides (printed by gen_a1.py). -/
import Derived.Test.YtflgjecpjaiecaaGreatE2q3
import Derived.Test.YtflgjecpjaiecaaGreatHfq3
set_option linter.unusedVariables false
set_option linter.unusedSimpArgs false
namespace Go.Proofs.YtflgjecpjaiecaaGreat
open Go.RowKit Num Flt
/-- the code of an operation of two floats in a mode; its answer -/
def bnC (x y : Nat) (mode : Int) : Int := if fin x ∧ fin y then (if modeB mode = true then 0 else 2) else 1
def bnF (x y : Nat) (mode : Int) (F : Nat) : Nat := if bnC x y mode = 0 then F else 0
def bnL (x y : Nat) (mode L : Int) : Int := if bnC x y mode = 0 then L else 0
theorem bn_no {x y : Nat} {mode c : Int} (F : Nat) (L : Int) (h : bnC x y mode = c) (hc : c ≠ 0) : bnF x y mode F = 0 ∧ bnL x y mode L = 0 := by
  unfold bnF bnL; rw [h, if_neg hc, if_neg hc]; exact ⟨rfl, rfl⟩
theorem bn_yes {x y : Nat} {mode : Int} (F : Nat) (L : Int) (h : bnC x y mode = 0) : bnF x y mode F = F ∧ bnL x y mode L = L := by
  unfold bnF bnL; rw [if_pos h, if_pos h]; exact ⟨rfl, rfl⟩
theorem bnC_1 {x y : Nat} {mode : Int} (h : ¬ (fin x ∧ fin y)) : bnC x y mode = 1 := by unfold bnC; rw [if_neg h]
theorem bnC_2 {x y : Nat} {mode : Int} (h : fin x ∧ fin y) (hm : modeB mode = false) : bnC x y mode = 2 := by unfold bnC; rw [if_pos h, hm]; rfl
theorem bnC_0 {x y : Nat} {mode : Int} (h : fin x ∧ fin y) (hm : modeB mode = true) : bnC x y mode = 0 := by unfold bnC; rw [if_pos h, hm]; rfl
theorem bnF_num {x y : Nat} {mode : Int} {F : Nat} (h : ¬ nan F) : ¬ nan (bnF x y mode F) := by
  unfold bnF; split
  · exact h
  · decide
theorem bnF_W {x y : Nat} {mode : Int} {F : Nat} (h : W F) : W (bnF x y mode F) := by
  unfold bnF; split
  · exact h
  · unfold W; decide
theorem and_no' {a b : Bool} (h : ¬ (a = true ∧ b = true)) : (a && b) = false := by cases a <;> cases b <;> simp_all
set_option maxHeartbeats 4000000 in
theorem s_MulInE (x y : Nat) (mode : Int) (w : World) (hx : W x) (hy : W y) : Calls Tryz.prog 37 #[.float .f32 x, .float .f32 y, .int .i64 mode] w (RetV (.tuple #[.float .f32 (bnF x y mode (mlF x y mode)), .int .i64 (bnL x y mode (mlL x y mode)), .int .i64 (bnC x y mode)]) w) := by
  have HT := Hd.mk (fun w => s_Two4 x y mode w)
  by_cases h12 : fin x ∧ fin y
  · cases hm : modeB mode
    · rw [tw_mode h12 hm] at HT
      rw [(bn_no _ _ (bnC_2 h12 hm) (by decide)).1, (bn_no _ _ (bnC_2 h12 hm) (by decide)).2, bnC_2 h12 hm]
      clear h12 hm hx hy
      go_enter Tryz.func37, Tryz.ntmps37
      go_wp2_with (go_at_call 85; (with_reducible refine (HT.out _).mono ?_); rintro e w' ⟨rfl, ⟨nd, rfl⟩⟩)
      refine bodyPost_ret (v := .tuple #[.float .f32 0, .int .i64 0, .int .i64 2]) (by simp (maxDischargeDepth := 7) [results, Tryz.results37, go_sem]) rfl ⟨rfl, ?_⟩
      (repeat (first | exact Below.refl _ _ | assumption | refine Below.drew ?_ | refine bdn ?_ | refine ba _ ?_ | refine bs0 _ _ ?_ ?_ | refine bs1 _ _ _ ?_ ?_ | refine bs2 _ _ _ _ ?_ ?_ | refine bs3 _ _ _ _ _ ?_ ?_ | refine bt3 (by assumption) ?_))
    · rw [tw_good h12 hm] at HT
      rw [(bn_yes _ _ (bnC_0 h12 hm)).1, (bn_yes _ _ (bnC_0 h12 hm)).2, bnC_0 h12 hm]
      have HD := Hd.mk (fun w => s_MulF x y mode w hx hy h12.1 h12.2 (modeB_of hm))
      clear h12 hm hx hy
      generalize mlF x y mode = p at *
      generalize mlL x y mode = f at *
      go_enter Tryz.func37, Tryz.ntmps37
      go_wp2_with (first | (go_at_call 85; (with_reducible refine (HT.out _).mono ?_); rintro e w' ⟨rfl, ⟨nd, rfl⟩⟩) | (go_at_call 106; (with_reducible refine (HD.out _).mono ?_); rintro e w' ⟨rfl, hb⟩; (try replace hb := bt3 hb (by assumption)); obtain ⟨hc, hf, hz, hy⟩ := bcell hb; have hs := hb.size; (try simp at hs); (try have h0 : w.heap.size < w'.heap.size := by omega); (try have h1 : w.heap.size + 1 < w'.heap.size := by omega); (try have h2 : w.heap.size + 1 + 1 < w'.heap.size := by omega); (try have h3 : w.heap.size + 1 + 1 + 1 < w'.heap.size := by omega); clear hs))
      refine bodyPost_ret (v := .tuple #[.float .f32 p, .int .i64 f, .int .i64 0]) (by simp (maxDischargeDepth := 7) [results, Tryz.results37, go_sem]) rfl ⟨rfl, ?_⟩
      (repeat (first | exact Below.refl _ _ | assumption | refine Below.drew ?_ | refine bdn ?_ | refine ba _ ?_ | refine bs0 _ _ ?_ ?_ | refine bs1 _ _ _ ?_ ?_ | refine bs2 _ _ _ _ ?_ ?_ | refine bs3 _ _ _ _ _ ?_ ?_ | refine bt3 (by assumption) ?_))
  · rw [tw_bad mode h12] at HT
    rw [(bn_no _ _ (bnC_1 h12) (by decide)).1, (bn_no _ _ (bnC_1 h12) (by decide)).2, bnC_1 h12]
    clear h12 hx hy
    go_enter Tryz.func37, Tryz.ntmps37
    go_wp2_with (go_at_call 85; (with_reducible refine (HT.out _).mono ?_); rintro e w' ⟨rfl, ⟨nd, rfl⟩⟩)
    refine bodyPost_ret (v := .tuple #[.float .f32 0, .int .i64 0, .int .i64 1]) (by simp (maxDischargeDepth := 7) [results, Tryz.results37, go_sem]) rfl ⟨rfl, ?_⟩
    (repeat (first | exact Below.refl _ _ | assumption | refine Below.drew ?_ | refine bdn ?_ | refine ba _ ?_ | refine bs0 _ _ ?_ ?_ | refine bs1 _ _ _ ?_ ?_ | refine bs2 _ _ _ _ ?_ ?_ | refine bs3 _ _ _ _ _ ?_ ?_ | refine bt3 (by assumption) ?_))
set_option maxHeartbeats 4000000 in
theorem i_MulInE (x y : Nat) (mode : Int) (w : World) (hx : W x) (hy : W y) : Calls Tryz.prog 36 #[.float .f32 x, .float .f32 y, .int .i64 mode] w (RetV (.tuple #[.float .f32 (bnF x y mode (mlF x y mode)), .int .i64 (bnL x y mode (mlL x y mode)), .int .i64 (bnC x y mode)]) w) := by
  have HM := Hd.mk (fun w => i_Mode mode w)
  have HA := Hd.mk (fun (g c : Nat) (w : World) c0 c1 => i_areFinite2 g c x y w hx hy c0 c1)
  by_cases h12 : fin x ∧ fin y
  · have p1 : (decide (fin x) && decide (fin y)) = true := by rw [decide_eq_true h12.1, decide_eq_true h12.2]; rfl
    rw [p1] at HA
    cases hm : modeB mode
    · rw [hm] at HM
      rw [(bn_no _ _ (bnC_2 h12 hm) (by decide)).1, (bn_no _ _ (bnC_2 h12 hm) (by decide)).2, bnC_2 h12 hm]
      clear h12 hm hx hy p1
      go_enter Tryz.func36, Tryz.ntmps36
      go_wp2_with (first | (go_at_call 88; (with_reducible refine (HA.out w.heap.size 2 _ (by go_simp) (by go_simp)).mono ?_); rintro e w' ⟨rfl, rfl⟩) | (go_at_call 102; (with_reducible refine (HM.out _).mono ?_); rintro e w' ⟨rfl, rfl⟩))
      refine bodyPost_ret (v := .tuple #[.float .f32 0, .int .i64 0, .int .i64 2]) (by simp (maxDischargeDepth := 7) [results, Tryz.results36, go_sem]) rfl ⟨rfl, ?_⟩
      (repeat (first | exact Below.refl _ _ | assumption | refine Below.drew ?_ | refine bdn ?_ | refine ba _ ?_ | refine bs0 _ _ ?_ ?_ | refine bs1 _ _ _ ?_ ?_ | refine bs2 _ _ _ _ ?_ ?_ | refine bs3 _ _ _ _ _ ?_ ?_ | refine bt3 (by assumption) ?_))
    · rw [hm] at HM
      rw [(bn_yes _ _ (bnC_0 h12 hm)).1, (bn_yes _ _ (bnC_0 h12 hm)).2, bnC_0 h12 hm]
      have HD := Hd.mk (fun w => i_mulF x y mode w hx hy h12.1 h12.2 (modeB_of hm))
      clear h12 hm hx hy p1
      generalize mlF x y mode = p at *
      generalize mlL x y mode = f at *
      go_enter Tryz.func36, Tryz.ntmps36
      go_wp2_with (first | (go_at_call 88; (with_reducible refine (HA.out w.heap.size 2 _ (by go_simp) (by go_simp)).mono ?_); rintro e w' ⟨rfl, rfl⟩) | (go_at_call 102; (with_reducible refine (HM.out _).mono ?_); rintro e w' ⟨rfl, rfl⟩) | (go_at_call 90; (with_reducible refine (HD.out _).mono ?_); rintro e w' ⟨rfl, hb⟩; (try replace hb := bt3 hb (by assumption)); obtain ⟨hc, hf, hz, hy⟩ := bcell hb; have hs := hb.size; (try simp at hs); (try have h0 : w.heap.size < w'.heap.size := by omega); (try have h1 : w.heap.size + 1 < w'.heap.size := by omega); (try have h2 : w.heap.size + 1 + 1 < w'.heap.size := by omega); (try have h3 : w.heap.size + 1 + 1 + 1 < w'.heap.size := by omega); clear hs))
      refine bodyPost_ret (v := .tuple #[.float .f32 p, .int .i64 f, .int .i64 0]) (by simp (maxDischargeDepth := 7) [results, Tryz.results36, go_sem]) rfl ⟨rfl, ?_⟩
      (repeat (first | exact Below.refl _ _ | assumption | refine Below.drew ?_ | refine bdn ?_ | refine ba _ ?_ | refine bs0 _ _ ?_ ?_ | refine bs1 _ _ _ ?_ ?_ | refine bs2 _ _ _ _ ?_ ?_ | refine bs3 _ _ _ _ _ ?_ ?_ | refine bt3 (by assumption) ?_))
  · have p1 : (decide (fin x) && decide (fin y)) = false := and_no' (fun k => h12 ⟨of_decide_eq_true k.1, of_decide_eq_true k.2⟩)
    rw [p1] at HA
    rw [(bn_no _ _ (bnC_1 h12) (by decide)).1, (bn_no _ _ (bnC_1 h12) (by decide)).2, bnC_1 h12]
    clear h12 hx hy p1
    go_enter Tryz.func36, Tryz.ntmps36
    go_wp2_with (go_at_call 88; (with_reducible refine (HA.out w.heap.size 2 _ (by go_simp) (by go_simp)).mono ?_); rintro e w' ⟨rfl, rfl⟩)
    refine bodyPost_ret (v := .tuple #[.float .f32 0, .int .i64 0, .int .i64 1]) (by simp (maxDischargeDepth := 7) [results, Tryz.results36, go_sem]) rfl ⟨rfl, ?_⟩
    (repeat (first | exact Below.refl _ _ | assumption | refine Below.drew ?_ | refine bdn ?_ | refine ba _ ?_ | refine bs0 _ _ ?_ ?_ | refine bs1 _ _ _ ?_ ?_ | refine bs2 _ _ _ _ ?_ ?_ | refine bs3 _ _ _ _ _ ?_ ?_ | refine bt3 (by assumption) ?_))
end Go.Proofs.YtflgjecpjaiecaaGreat
