/- Plain facts: what is rounded down and up is the same or beside, and every mode gives one of both. -/
import Derived.Test.YtflgjecpjaiecaaGreatGiq3
import Derived.Test.YtflgjecpjaiecaaGreatGaq3
set_option linter.unusedVariables false
set_option linter.unusedSimpArgs false
namespace Go.Proofs.YtflgjecpjaiecaaGreat
open Go.RowKit Num Flt
/-- a rounded magnitude by its two choices: is it rounded up, does an overflow stop -/
def rgP (u st : Bool) (M : Nat) : Nat := if 20128 < bln (rtN M + u.toNat) + rqN M then (if st = true then 2139095039 else 2139095040) else (rqN M - 19851) * 8388608 + (rtN M + u.toNat)
theorem rg_P (mode : Int) (neg : Bool) (M : Nat) : rgN mode neg M = rgP (upB mode neg M) (stB mode neg) M := by
  unfold rgN rgP ovB rmN
  simp only [decide_eq_true_eq]
def rnz (M : Nat) : Bool := decide (rrN M ≠ 0)
theorem rt_edge {M : Nat} (h1 : ¬ 20128 < bln (rtN M) + rqN M) (h2 : 20128 < bln (rtN M + 1) + rqN M) : (rqN M - 19851) * 8388608 + rtN M = 2139095039 := by
  have h3 := rtN_lt M
  have h4 := @rtN_ge M
  have h24 : (2 : Nat) ^ 24 = 16777216 := by decide
  have h23 : (2 : Nat) ^ 23 = 8388608 := by decide
  have h5 : bln (rtN M + 1) ≤ 25 := bln_le (by rw [show (2 : Nat) ^ 25 = 33554432 by decide]; omega)
  have h6 : 20104 ≤ rqN M := by omega
  have h7 := h4 (by omega)
  have h8 : 24 ≤ bln (rtN M) := by have := le_bln h7; omega
  have h9 : rqN M = 20104 := by omega
  have h10 : 24 < bln (rtN M + 1) := by omega
  have h11 : 2 ^ 24 ≤ rtN M + 1 := by
    rcases Nat.lt_or_ge (rtN M + 1) (2 ^ 24) with k | k
    · have := bln_le k; omega
    · exact k
  rw [h9]; omega
theorem rg_away (M : Nat) : rgP (rnz M) false M = rgP false true M ∨ rgP (rnz M) false M = rgP false true M + 1 := by
  unfold rgP
  simp only [Bool.toNat_false, Nat.add_zero, Bool.false_eq_true, if_false, if_true]
  cases hr : rnz M
  · simp only [Bool.toNat_false, Nat.add_zero]
    split
    · exact Or.inr rfl
    · exact Or.inl rfl
  · simp only [Bool.toNat_true]
    by_cases h1 : 20128 < bln (rtN M) + rqN M
    · have h2 : 20128 < bln (rtN M + 1) + rqN M := by have := bln_mono (show rtN M ≤ rtN M + 1 by omega); omega
      rw [if_pos h1, if_pos h2]; exact Or.inr rfl
    · rw [if_neg h1]
      by_cases h2 : 20128 < bln (rtN M + 1) + rqN M
      · rw [if_pos h2, rt_edge h1 h2]; exact Or.inr rfl
      · rw [if_neg h2]; exact Or.inr (by omega)
theorem rg_one {u : Bool} (M : Nat) (hu : u = true → rnz M = true) : rgP u false M = rgP false true M ∨ rgP u false M = rgP (rnz M) false M := by
  cases u
  · by_cases h1 : 20128 < bln (rtN M) + rqN M
    · right
      have h2 : 20128 < bln (rtN M + (rnz M).toNat) + rqN M := by have := bln_mono (show rtN M ≤ rtN M + (rnz M).toNat by omega); omega
      unfold rgP
      rw [if_pos h2]
      simp only [Bool.toNat_false, Nat.add_zero]
      rw [if_pos h1]
    · left
      unfold rgP
      simp only [Bool.toNat_false, Nat.add_zero]
      rw [if_neg h1, if_neg h1]
  · right; rw [hu rfl]
theorem up_rnz {mode : Int} {neg : Bool} {M : Nat} (h : upB mode neg M = true) : rnz M = true := by
  unfold upB at h
  unfold rnz
  by_cases k : rrN M = 0
  · rw [if_pos k] at h; cases h
  · exact decide_eq_true k
theorem up_dn (neg : Bool) (M : Nat) : upB 1 neg M = (neg && rnz M) ∧ upB 2 neg M = (!neg && rnz M) ∧ upB 3 neg M = false ∧ upB 4 neg M = rnz M := by
  unfold upB rnz
  by_cases k : rrN M = 0
  · simp [k]
  · simp [k]
theorem st_dn (neg : Bool) : stB 0 neg = false ∧ stB 1 neg = !neg ∧ stB 2 neg = neg ∧ stB 3 neg = true ∧ stB 4 neg = false := by
  cases neg <;> decide
/-- every mode rounds as Down or as Up -/
theorem two_modes {mode : Int} (V : Int) (hm : 0 ≤ mode ∧ mode ≤ 4) : rF mode V = rF 1 V ∨ rF mode V = rF 2 V := by
  unfold rF
  by_cases h0 : V = 0
  · simp [h0]
  · simp only [if_neg h0]
    generalize V.natAbs = M
    have key : rgN mode (decide (V < 0)) M = rgN 1 (decide (V < 0)) M ∨ rgN mode (decide (V < 0)) M = rgN 2 (decide (V < 0)) M := by
      generalize decide (V < 0) = neg
      obtain ⟨u1, u2, u3, u4⟩ := up_dn neg M
      obtain ⟨s0, s1, s2, s3, s4⟩ := st_dn neg
      rcases (show mode = 0 ∨ mode = 1 ∨ mode = 2 ∨ mode = 3 ∨ mode = 4 by omega) with rfl | rfl | rfl | rfl | rfl
      · rw [rg_P 0, rg_P 1, rg_P 2, u1, u2, s0, s1, s2]
        have h1 := rg_one (u := upB 0 neg M) M up_rnz
        cases neg
        · simpa using h1
        · simpa using h1.symm
      · exact Or.inl rfl
      · exact Or.inr rfl
      · rw [rg_P 3, rg_P 1, rg_P 2, u1, u2, u3, s3, s1, s2]
        cases neg
        · left; rfl
        · right; rfl
      · rw [rg_P 4, rg_P 1, rg_P 2, u1, u2, u4, s4, s1, s2]
        cases neg
        · right; rfl
        · left; rfl
    rcases key with k | k
    · left; rw [k]
    · right; rw [k]
theorem pl_word (neg : Bool) {r : Nat} (hr : r ≤ 2139095040) : pl ((if neg = true then 2147483648 else 0) + r) = sv neg r := by
  unfold pl sv
  cases neg
  · simp only [Bool.false_eq_true, if_false]
    rw [if_neg (by omega)]; omega
  · simp only [if_true]
    rw [if_pos (by omega)]; omega
theorem pl_rF {mode V : Int} (h : V ≠ 0) : pl (rF mode V) = sv (decide (V < 0)) (rgN mode (decide (V < 0)) V.natAbs) := by
  rw [← pl_word _ (rgN_le _ _ _)]
  unfold rF
  rw [if_neg h]
  by_cases k : V < 0 <;> simp [k]
/-- what is rounded up is what is rounded down, or the next float -/
theorem step_rF (V : Int) : pl (rF 2 V) = pl (rF 1 V) ∨ pl (rF 2 V) = pl (rF 1 V) + 1 := by
  by_cases h0 : V = 0
  · left; have e : ∀ m, rF m V = 0 := fun m => by unfold rF; rw [if_pos h0]
    rw [e, e]
  · rw [pl_rF h0, pl_rF h0]
    generalize V.natAbs = M
    generalize decide (V < 0) = neg
    obtain ⟨u1, u2, u3, u4⟩ := up_dn neg M
    obtain ⟨s0, s1, s2, s3, s4⟩ := st_dn neg
    rw [rg_P 1, rg_P 2, u1, u2, s1, s2]
    have h1 := rg_away M
    cases neg
    · simp only [Bool.not_false, Bool.false_and, Bool.true_and]
      unfold sv
      simp only [Bool.false_eq_true, if_false]
      omega
    · simp only [Bool.not_true, Bool.false_and, Bool.true_and]
      unfold sv
      simp only [if_true]
      omega
theorem pl_atP {n : Int} (h0 : -2139095040 ≤ n) (h1 : n ≤ 2139095040) : pl (atP n) = n := by
  unfold atP
  by_cases k : n < 0
  · rw [if_pos k]
    have := pl_word true (r := n.natAbs) (by omega)
    simp only [if_true] at this
    rw [this]; unfold sv; simp; omega
  · rw [if_neg k]
    have := pl_word false (r := n.natAbs) (by omega)
    simp only [Bool.false_eq_true, if_false, Nat.zero_add] at this
    rw [this]; unfold sv; simp; omega
theorem nan_atP {n : Int} (h0 : -2139095040 ≤ n) (h1 : n ≤ 2139095040) : ¬ nan (atP n) := by unfold nan atP; split <;> omega
theorem pl_le {x : Nat} (h : ¬ nan x) : -2139095040 ≤ pl x ∧ pl x ≤ 2139095040 := by
  have h1 := pl_hi x
  have h2 := pl_lo x
  unfold nan at h
  omega
end Go.Proofs.YtflgjecpjaiecaaGreat
