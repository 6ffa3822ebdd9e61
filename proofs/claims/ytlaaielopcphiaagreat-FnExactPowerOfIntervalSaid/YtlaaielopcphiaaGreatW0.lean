/- Plain facts: rounding keeps the order. -/
import Derived.Test.YtlaaielopcphiaaGreatGb
import Derived.Test.YtlaaielopcphiaaGreatGa
set_option linter.unusedVariables false
set_option linter.unusedSimpArgs false
namespace Go.Proofs.YtlaaielopcphiaaGreat.Num
theorem up_mono {mode : Int} {neg : Bool} {M M' : Nat} (hq : rqN M = rqN M') (ht : rtN M = rtN M') (h : M ≤ M') : (upB mode neg M).toNat ≤ (upB mode neg M').toNat := by
  have hr : rrN M ≤ rrN M' := by
    have h1 := Nat.div_add_mod M (2 ^ rqN M)
    have h2 := Nat.div_add_mod M' (2 ^ rqN M')
    have e1 : M / 2 ^ rqN M = rtN M := rfl
    have e2 : M' / 2 ^ rqN M' = rtN M' := rfl
    rw [e1] at h1
    rw [e2, ← hq, ← ht] at h2
    unfold rrN
    rw [← hq]
    generalize 2 ^ rqN M * rtN M = z at *
    omega
  unfold upB
  rw [← hq, ← ht]
  by_cases h0 : rrN M = 0
  · rw [if_pos h0]; simp
  · have h0' : rrN M' ≠ 0 := by omega
    rw [if_neg h0, if_neg h0']
    by_cases hm : mode = 0
    · rw [if_pos hm, if_pos hm]
      by_cases k : (decide (2 ^ rqN M < 2 * rrN M) || (decide (2 ^ rqN M = 2 * rrN M) && decide (rtN M % 2 = 1))) = true
      · have k' : (decide (2 ^ rqN M < 2 * rrN M') || (decide (2 ^ rqN M = 2 * rrN M') && decide (rtN M % 2 = 1))) = true := by
          simp only [Bool.or_eq_true, Bool.and_eq_true, decide_eq_true_eq] at k ⊢
          omega
        rw [k, k']; simp
      · rw [Bool.not_eq_true] at k; rw [k]; simp
    · rw [if_neg hm, if_neg hm]; simp
def rlN (mode : Int) (neg : Bool) (M : Nat) : Nat := (rqN M - 19851) * 8388608 + rmN mode neg M
theorem rl_mono {mode : Int} {neg : Bool} {M M' : Nat} (h : M ≤ M') : rlN mode neg M ≤ rlN mode neg M' := by
  have hq : rqN M ≤ rqN M' := by have := bln_mono h; unfold rqN; omega
  have hlo : 19851 ≤ rqN M := by unfold rqN; omega
  unfold rlN
  rcases Nat.lt_or_ge (rqN M) (rqN M') with h1 | h1
  · have h2 := rmN_le mode neg M
    have h3 := rmN_ge (M := M') mode neg (by omega)
    have : (2 : Nat) ^ 24 = 16777216 := by decide
    have : (2 : Nat) ^ 23 = 8388608 := by decide
    omega
  · have e : rqN M = rqN M' := by omega
    have ht : rtN M ≤ rtN M' := by unfold rtN; rw [e]; exact Nat.div_le_div_right h
    have hu : (upB mode neg M).toNat ≤ 1 := by cases upB mode neg M <;> decide
    unfold rmN
    rcases Nat.lt_or_ge (rtN M) (rtN M') with h2 | h2
    · omega
    · have := up_mono (mode := mode) (neg := neg) e (by omega) h
      omega
theorem ov_rl {mode : Int} {neg : Bool} {M : Nat} (h : ovB mode neg M = true) : 2139095040 ≤ rlN mode neg M := by
  have h1 : 20128 < bln (rmN mode neg M) + rqN M := of_decide_eq_true h
  have h2 := rmN_le mode neg M
  have e24 : (2 : Nat) ^ 24 = 16777216 := by decide
  have h3 : bln (rmN mode neg M) ≤ 25 := bln_le (Nat.lt_of_le_of_lt h2 (by decide))
  have h4 := rmN_ge (M := M) mode neg (by omega)
  have e23 : (2 : Nat) ^ 23 = 8388608 := by decide
  unfold rlN
  rcases Nat.lt_or_ge (rqN M) 20105 with h5 | h5
  · have h6 : bln (rmN mode neg M) = 25 := by omega
    have h7 : 2 ^ 24 ≤ rmN mode neg M := by
      rcases Nat.lt_or_ge (rmN mode neg M) (2 ^ 24) with h8 | h8
      · have := bln_le h8; omega
      · exact h8
    omega
  · omega
theorem rgN_mono {mode : Int} {neg : Bool} {M M' : Nat} (h : M ≤ M') : rgN mode neg M ≤ rgN mode neg M' := by
  have h1 := rl_mono (mode := mode) (neg := neg) h
  have e : ∀ K, rgN mode neg K = if ovB mode neg K = true then (if stB mode neg = true then 2139095039 else 2139095040) else rlN mode neg K := fun K => rfl
  rw [e, e]
  by_cases a : ovB mode neg M = true
  · have h2 := ov_rl a
    by_cases b : ovB mode neg M' = true
    · rw [if_pos a, if_pos b]; exact Nat.le_refl _
    · exfalso
      have h3 := rg_fin (Bool.eq_false_iff.2 b)
      have : rlN mode neg M' = (rqN M' - 19851) * 8388608 + rmN mode neg M' := rfl
      omega
  · have h3 := rg_fin (Bool.eq_false_iff.2 a)
    have e3 : rlN mode neg M = (rqN M - 19851) * 8388608 + rmN mode neg M := rfl
    by_cases b : ovB mode neg M' = true
    · rw [if_neg a, if_pos b]; split <;> omega
    · rw [if_neg a, if_neg b]; exact h1
theorem rF_nn {mode V : Int} (h : 0 ≤ V) : rF mode V = if V = 0 then 0 else rgN mode false V.natAbs := by
  unfold rF
  have h1 : ¬ V < 0 := by omega
  have h2 : decide (V < 0) = false := decide_eq_false h1
  rw [if_neg h1, h2]
  split <;> omega
/-- rounding of numbers that are not negative keeps the order -/
theorem rF_mono {mode V U : Int} (h : 0 ≤ V) (h' : V ≤ U) : rF mode V ≤ rF mode U ∧ rF mode U ≤ 2139095040 := by
  rw [rF_nn h, rF_nn (Int.le_trans h h')]
  refine ⟨?_, ?_⟩
  · by_cases h0 : V = 0
    · rw [if_pos h0]; omega
    · rw [if_neg h0, if_neg (by omega)]
      exact rgN_mono (by omega)
  · split
    · omega
    · exact rgN_le _ _ _
end Go.Proofs.YtlaaielopcphiaaGreat.Num
