/- Plain facts: powers of floats, rounded, and the ends of powers of intervals. -/
import Derived.Test.YtlaaielopcphiaaGreatW0
import Derived.Test.YtlaaielopcphiaaGreatGk
import Derived.Test.YtlaaielopcphiaaGreatGa
set_option linter.unusedVariables false
set_option linter.unusedSimpArgs false
set_option exponentiation.threshold 40000
namespace Go.Proofs.YtlaaielopcphiaaGreat
open Go.RowKit Num Flt
/-- the power of a float's value -/
def pw (x n : Nat) : Int := dv (mv x ^ n) ((n : Int) * (-149 + (pe x : Int)))
theorem pw_zero (x : Nat) : pw x 0 = dv 1 0 := by unfold pw; simp
theorem pw_exp {x n : Nat} (h : fin x) (hn : n ≤ 21) : -3129 ≤ (n : Int) * (-149 + (pe x : Int)) ∧ (n : Int) * (-149 + (pe x : Int)) ≤ 2184 := by
  have h1 := pe_le h
  rcases Int.le_total 0 (-149 + (pe x : Int)) with k | k
  · exact ⟨by have := Int.mul_nonneg (show (0 : Int) ≤ n by omega) k; omega, by
      have := Int.mul_le_mul (show (n : Int) ≤ 21 by omega) (show -149 + (pe x : Int) ≤ 104 by omega) k (by omega)
      omega⟩
  · have h2 : (n : Int) * -(-149 + (pe x : Int)) ≤ 21 * 149 := Int.mul_le_mul (by omega) (by omega) (by omega) (by omega)
    have h3 : 0 ≤ (n : Int) * -(-149 + (pe x : Int)) := Int.mul_nonneg (by omega) (by omega)
    rw [Int.mul_neg] at h2 h3
    omega
theorem pw_succ {x n : Nat} (h : fin x) (hn : n ≤ 20) : mulV (pw x n) (fv x) = pw x (n + 1) := by
  have h1 := pw_exp h (show n ≤ 21 by omega)
  have h2 := pw_exp h (show n + 1 ≤ 21 by omega)
  have h3 := pe_le h
  have e : ((n + 1 : Nat) : Int) * (-149 + (pe x : Int)) = (n : Int) * (-149 + (pe x : Int)) + (-149 + (pe x : Int)) := by rw [Int.natCast_add, Int.add_mul]; simp
  unfold pw fv
  rw [dv_mul (by omega) (by omega) (by omega), e, Int.pow_succ]
theorem mv_pow_lt (x n : Nat) : (mv x ^ n).natAbs ≤ 16777216 ^ n := by
  rw [Int.natAbs_pow]
  exact Nat.pow_le_pow_left (by have := mv_lt x; omega) n
theorem pw_abs {x n : Nat} (h : fin x) (hn : n ≤ 21) : ((pw x n).natAbs : Int) ≤ 2 ^ 504 * 2 ^ 30000 := by
  have h1 := mv_pow_lt x n
  have h2 := (pw_exp h hn).2
  have h3 : (16777216 : Nat) ^ n ≤ 16777216 ^ 21 := Nat.pow_le_pow_right (by decide) hn
  have h4 : (2 : Int) ^ ((n : Int) * (-149 + (pe x : Int)) + SC).toNat ≤ 2 ^ 30000 := pow_le (by decide) (by unfold SC; omega)
  have h5 := pow2_pos ((n : Int) * (-149 + (pe x : Int)) + SC).toNat
  have k3 : ((16777216 ^ 21 : Nat) : Int) = 2 ^ 504 := by decide
  have h6 : ((mv x ^ n).natAbs : Int) ≤ 2 ^ 504 := by rw [← k3]; exact Int.ofNat_le.2 (Nat.le_trans h1 h3)
  have h7 : ((mv x ^ n).natAbs : Int) * 2 ^ ((n : Int) * (-149 + (pe x : Int)) + SC).toNat ≤ 2 ^ 504 * 2 ^ 30000 := Int.mul_le_mul h6 h4 (Int.le_of_lt h5) (Int.le_of_lt (pow2_pos 504))
  unfold pw dv
  rw [Int.natAbs_mul, Int.natCast_mul]
  have e : ((((2 : Int) ^ ((n : Int) * (-149 + (pe x : Int)) + SC).toNat).natAbs : Nat) : Int) = 2 ^ ((n : Int) * (-149 + (pe x : Int)) + SC).toNat := by omega
  rw [e]
  exact h7
theorem pw_bd {x n : Nat} (h : fin x) (hn : n ≤ 21) : Bd (pw x n) := by
  have h1 := pw_abs h hn
  have k1 : TOP = 2 ^ (24 * 100000) := p24 100000
  have k2 : (2 : Int) ^ (504 + 30001) ≤ 2 ^ (24 * 100000) := pow_le (by decide) (by decide)
  rw [← k1] at k2
  have k5 : (2 : Int) ^ 30001 = 2 ^ 30000 * 2 := Int.pow_succ _ _
  rw [Int.pow_add, k5, ← Int.mul_assoc] at k2
  have h8 := Int.mul_pos (pow2_pos 504) (pow2_pos 30000)
  unfold Bd
  generalize (2 : Int) ^ 504 * 2 ^ 30000 = Q at *
  generalize TOP = T at *
  omega
/-- the exponent of a small number is small -/
theorem dyF_small {m e V : Int} {l : Nat} (h : DyF m e V l) (hV : (V.natAbs : Int) ≤ 2 ^ 504 * 2 ^ 30000) : e ≤ 20000 := by
  by_cases hm : m = 0
  · have := h.zer hm; omega
  · rcases Int.lt_or_le 20000 e with k | k
    · exfalso
      have h1 : (2 : Int) ^ 40000 ≤ 2 ^ (e + SC).toNat := pow_le (by decide) (by unfold SC; omega)
      have h2 : (2 : Int) ^ (504 + 30001) ≤ 2 ^ 40000 := pow_le (by decide) (by decide)
      have k5 : (2 : Int) ^ 30001 = 2 ^ 30000 * 2 := Int.pow_succ _ _
      rw [Int.pow_add, k5, ← Int.mul_assoc] at h2
      have h8 := Int.mul_pos (pow2_pos 504) (pow2_pos 30000)
      have h3 : (V.natAbs : Int) = (m.natAbs : Int) * 2 ^ (e + SC).toNat := by
        rw [h.val]; unfold dv
        rw [Int.natAbs_mul, Int.natCast_mul]
        have := pow2_pos (e + SC).toNat
        generalize (2 : Int) ^ (e + SC).toNat = P at *
        rw [show ((P.natAbs : Nat) : Int) = P by omega]
      have h4 : 1 * (2 : Int) ^ (e + SC).toNat ≤ (m.natAbs : Int) * 2 ^ (e + SC).toNat := Int.mul_le_mul_of_nonneg_right (by omega) (Int.le_of_lt (pow2_pos _))
      generalize (2 : Int) ^ (e + SC).toNat = P at *
      generalize (2 : Int) ^ 504 * 2 ^ 30000 = Q at *
      generalize (2 : Int) ^ 40000 = R at *
      omega
    · exact k
theorem pw_one (x : Nat) : pw x 1 = fv x := by unfold pw fv; rw [Int.pow_succ, Int.pow_zero, Int.one_mul]; simp
/-- even powers -/
theorem pw_even {x n : Nat} (hn : n ≤ 20) (he : n % 2 = 0) : pw x n = ((V 8388608 (x % 2147483648) ^ n * 2 ^ (20000 - 149 * n) : Nat) : Int) := by
  have h1 : mv x ^ n = ((pm x ^ n : Nat) : Int) := by
    obtain ⟨k, rfl⟩ : ∃ k, n = 2 * k := ⟨n / 2, by omega⟩
    rw [Int.pow_mul, Nat.pow_mul, Int.natCast_pow]
    congr 1
    unfold mv
    split
    · rw [Int.pow_succ, Int.pow_succ, Int.pow_zero, Nat.pow_two, Int.one_mul, Int.neg_mul_neg, Int.natCast_mul]
    · rw [Int.pow_succ, Int.pow_succ, Int.pow_zero, Nat.pow_two, Int.one_mul, Int.natCast_mul]
  have e2 : ((n : Int) * (-149 + (pe x : Int)) + SC).toNat = n * pe x + (20000 - 149 * n) := by
    have : (n : Int) * (-149 + (pe x : Int)) = (n * pe x : Nat) - 149 * (n : Int) := by rw [Int.mul_add, Int.natCast_mul]; omega
    rw [this]; unfold SC; omega
  unfold pw dv
  rw [h1, e2, V_eq]
  show ((pm x ^ n : Nat) : Int) * 2 ^ (n * pe x + (20000 - 149 * n)) = (((pm x * 2 ^ pe x) ^ n * 2 ^ (20000 - 149 * n) : Nat) : Int)
  rw [Nat.mul_pow, ← Nat.pow_mul, Nat.mul_comm (pe x) n, Nat.mul_assoc, ← Nat.pow_add, Int.natCast_mul, Int.natCast_pow 2]
  rfl
theorem pw_mono {x y n : Nat} (hn : n ≤ 20) (he : n % 2 = 0) (h : x % 2147483648 ≤ y % 2147483648) : 0 ≤ pw x n ∧ pw x n ≤ pw y n := by
  rw [pw_even hn he, pw_even hn he]
  have hV : V 8388608 (x % 2147483648) ≤ V 8388608 (y % 2147483648) := by
    rcases Nat.lt_or_eq_of_le h with k | k
    · exact Nat.le_of_lt ((V_lt_iff (by decide)).2 k)
    · rw [k]; exact Nat.le_refl _
  exact ⟨Int.natCast_nonneg _, Int.ofNat_le.2 (Nat.mul_le_mul_right _ (Nat.pow_le_pow_left hV n))⟩
/-- the rounded power, for all floats that are numbers -/
def ra (mode : Int) (x n : Nat) : Nat := if fin x then rF mode (pw x n) else if n % 2 = 0 then 2139095040 else x
theorem ra_num (mode : Int) {x n : Nat} (hx : W x) (h : ¬ nan x) : W (ra mode x n) ∧ ¬ nan (ra mode x n) := by
  unfold ra
  split
  · exact rF_num _ _
  · split
    · exact ⟨by unfold W; omega, by decide⟩
    · exact ⟨hx, h⟩
theorem ra_mono {mode : Int} {x y n : Nat} (hy : ¬ nan y) (hn : n ≤ 20) (he : n % 2 = 0) (h : x % 2147483648 ≤ y % 2147483648) : ra mode x n ≤ ra mode y n ∧ ra mode y n ≤ 2139095040 := by
  have hp := pw_mono hn he h
  unfold ra
  by_cases fy : fin y
  · have fx : fin x := by unfold fin at *; omega
    rw [if_pos fx, if_pos fy]
    exact rF_mono hp.1 hp.2
  · simp only [if_neg fy, if_pos he]
    by_cases fx : fin x
    · rw [if_pos fx]
      exact ⟨(rF_mono hp.1 (Int.le_refl _)).2, Nat.le_refl _⟩
    · simp only [if_neg fx]; exact ⟨Nat.le_refl _, Nat.le_refl _⟩
theorem ra_zero {mode : Int} {x n : Nat} (h : x % 2147483648 = 0) (hn : 0 < n) : ra mode x n = 0 := by
  have fx : fin x := by unfold fin; omega
  have hm : mv x = 0 := by
    have : pm x = 0 := by unfold pm mg; rw [h]; rfl
    unfold mv; rw [this]; split <;> rfl
  unfold ra
  rw [if_pos fx]
  have : pw x n = 0 := by unfold pw dv; rw [hm, Int.zero_pow (by omega)]; simp
  rw [this]; rfl
/-- the ends of a power of an interval -/
def rpL (a b n : Nat) : Nat := if n = 0 then 1065353216 else if n % 2 = 1 then zp (ra 1 a n) else if pl a ≤ 0 ∧ 0 ≤ pl b then 0 else zp (if ra 1 b n < ra 1 a n then ra 1 b n else ra 1 a n)
def rpH (a b n : Nat) : Nat := if n = 0 then 1065353216 else if n % 2 = 1 then zp (ra 2 b n) else zp (if ra 2 b n < ra 2 a n then ra 2 a n else ra 2 b n)
theorem pl_small {x : Nat} (h : x ≤ 2139095040) : pl x = x := by unfold pl; rw [if_neg (by omega)]; omega
theorem nan_small {x : Nat} (h : x ≤ 2139095040) : ¬ nan x := by unfold nan; omega
theorem zp_small {x : Nat} (h : x ≤ 2139095040) : zp x = x := by unfold zp; rw [if_neg (by omega)]
/-- the even cases -/
theorem rp_pos {a b n : Nat} (hI : IsIv a b) (hn : n ≤ 20) (h0 : 0 < n) (he : n % 2 = 0) (h : 0 ≤ pl a) : rpL a b n = zp (ra 1 a n) ∧ rpH a b n = zp (ra 2 b n) := by
  have hab : a % 2147483648 ≤ b % 2147483648 := by
    have := hI.2.2.2.2.2
    unfold IsIv at hI
    have h1 := pl_hi b
    have : pl a = (a % 2147483648 : Nat) ∨ a % 2147483648 = 0 := by unfold pl at h ⊢; split at h <;> omega
    omega
  have m1 := ra_mono (mode := 1) (n := n) (x := a) (y := b) hI.2.1 hn he hab
  have m2 := ra_mono (mode := 2) (n := n) (x := a) (y := b) hI.2.1 hn he hab
  have n0 : ¬ n = 0 := by omega
  have n1 : ¬ n % 2 = 1 := by omega
  have hL : ¬ ra 1 b n < ra 1 a n := by omega
  have hH : ¬ ra 2 b n < ra 2 a n := by omega
  unfold rpL rpH
  simp only [if_neg n0, if_neg n1, if_neg hL, if_neg hH]
  refine ⟨?_, trivial⟩
  split
  · rename_i k
    have : a % 2147483648 = 0 := by unfold pl at *; split at h <;> omega
    rw [ra_zero this h0]; rfl
  · rfl
theorem rp_neg {a b n : Nat} (hI : IsIv a b) (hn : n ≤ 20) (h0 : 0 < n) (he : n % 2 = 0) (h : pl b ≤ 0) : rpL a b n = zp (ra 1 b n) ∧ rpH a b n = zp (ra 2 a n) := by
  have hab : b % 2147483648 ≤ a % 2147483648 := by
    unfold IsIv at hI
    have h1 := pl_lo a
    have : pl b = -((b % 2147483648 : Nat) : Int) ∨ b % 2147483648 = 0 := by unfold pl at h ⊢; split at h <;> omega
    omega
  have m1 := ra_mono (mode := 1) (n := n) (x := b) (y := a) hI.1 hn he hab
  have m2 := ra_mono (mode := 2) (n := n) (x := b) (y := a) hI.1 hn he hab
  have n0 : ¬ n = 0 := by omega
  have n1 : ¬ n % 2 = 1 := by omega
  unfold rpL rpH
  simp only [if_neg n0, if_neg n1]
  refine ⟨?_, ?_⟩
  · split
    · rename_i k
      have : b % 2147483648 = 0 := by unfold pl at *; split at h <;> omega
      rw [ra_zero this h0]; rfl
    · split
      · rfl
      · congr 1; omega
  · split
    · rfl
    · congr 1; omega
theorem rp_mix {a b n : Nat} (hI : IsIv a b) (hn : n ≤ 20) (h0 : 0 < n) (he : n % 2 = 0) (h : pl a < 0) (h' : 0 < pl b) : rpL a b n = 0 ∧ rpH a b n = mxW (zp (ra 2 a n)) (zp (ra 2 b n)) := by
  have m1 := (ra_mono (mode := 2) (n := n) (x := a) (y := a) hI.1 hn he (Nat.le_refl _)).2
  have m2 := (ra_mono (mode := 2) (n := n) (x := b) (y := b) hI.2.1 hn he (Nat.le_refl _)).2
  have n0 : ¬ n = 0 := by omega
  have n1 : ¬ n % 2 = 1 := by omega
  have hp : pl a ≤ 0 ∧ 0 ≤ pl b := by omega
  unfold rpL rpH mxW
  simp only [if_neg n0, if_neg n1, if_pos hp]
  rw [zp_small m1, zp_small m2, pl_small m1, pl_small m2]
  refine ⟨trivial, ?_⟩
  split
  · rename_i k
    rw [if_neg (by omega), zp_small m1]
  · rename_i k
    rw [zp_small m2]
    split
    · rfl
    · omega
end Go.Proofs.YtlaaielopcphiaaGreat
