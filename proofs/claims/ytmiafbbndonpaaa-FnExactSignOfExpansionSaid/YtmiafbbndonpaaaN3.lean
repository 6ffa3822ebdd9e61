/- Plain facts: shifts to the right of numbers as lists of digits, and rounding of a magnitude. -/
import Derived.Test.YtmiafbbndonpaaaN2
set_option linter.unusedVariables false
set_option linter.unusedSimpArgs false
namespace Go.Proofs.Ytmiafbbndonpaaa.Num
/-- a digit of a shifted number -/
theorem shr_digit {B : Int} {p : Nat} (hB : B = 2 ^ p) {ys : List Int} (h : Rng B ys) (r j : Nat) (hr : r < p) : val B ys / 2 ^ r / B ^ j % B = (ys.getD j 0 + B * ys.getD (j + 1) 0) / 2 ^ r % B := by
  have hB0 : 0 < B := by rw [hB]; exact pow_pos' (by decide) p
  have hp : (0 : Int) < B ^ j := pow_pos' hB0 _
  have hp2 : (0 : Int) < 2 ^ r := pow_pos' (by decide) _
  rw [Int.ediv_ediv_of_nonneg (Int.le_of_lt hp2), Int.mul_comm, ← Int.ediv_ediv_of_nonneg (Int.le_of_lt hp), val_div_pow hB0 h, val_drop, val_drop _ _ (j + 1)]
  generalize ys.getD j 0 = x
  generalize ys.getD (j + 1) 0 = y
  generalize val B (ys.drop (j + 1 + 1)) = D
  have e2 : B = 2 ^ r * 2 ^ (p - r) := by rw [← Int.pow_add, show r + (p - r) = p by omega]; exact hB
  have e3 : x + B * (y + B * D) = (x + B * y) + 2 ^ r * (2 ^ (p - r) * (B * D)) := by rw [← Int.mul_assoc (2 ^ r), ← e2, Int.mul_add]; omega
  rw [e3, Int.add_mul_ediv_left _ _ (by omega), Int.mul_left_comm, Int.add_mul_emod_self_left]
theorem mod_next' (u B : Int) (hB : 0 < B) (j : Nat) : u % B ^ j + B ^ j * (u / B ^ j % B) = u % B ^ (j + 1) := by
  have hp := pow_pos' hB j
  have e1 := Int.mul_ediv_add_emod u (B ^ j)
  have e2 := Int.mul_ediv_add_emod (u / B ^ j) B
  have h1 := Int.emod_nonneg u (show B ^ j ≠ 0 by omega)
  have h2 := Int.emod_lt_of_pos u hp
  have h3 := Int.emod_nonneg (u / B ^ j) (show B ≠ 0 by omega)
  have h4 := Int.emod_lt_of_pos (u / B ^ j) hB
  generalize u % B ^ j = r at *
  generalize hd : u / B ^ j % B = d at *
  generalize u / B ^ j / B = Q at *
  have e3 : u = (r + B ^ j * d) + B ^ (j + 1) * Q := by
    rw [Int.pow_succ, Int.mul_assoc]
    have := congrArg (B ^ j * ·) e2
    simp only [Int.mul_add] at this
    omega
  have h5 : B ^ j * d ≤ B ^ j * (B - 1) := Int.mul_le_mul_of_nonneg_left (by omega) (Int.le_of_lt hp)
  have h6 : 0 ≤ B ^ j * d := Int.mul_nonneg (Int.le_of_lt hp) h3
  rw [Int.mul_sub, Int.mul_one] at h5
  rw [e3, Int.add_mul_emod_self_left, Int.emod_eq_of_lt (by omega) (by rw [Int.pow_succ]; omega)]
/-- shifts to the right by r bits -/
def ShrR (B : Int) (ys : List Int) (r N j : Nat) (zs : List Int) : Prop := zs.length = N ∧ Rng B (zs.take j) ∧ val B (zs.take j) = val B ys / 2 ^ r % B ^ j
theorem ShrR.start (B : Int) (ys : List Int) (r N : Nat) : ShrR B ys r N 0 (List.replicate N 0) := ⟨by simp, by simp [Rng.nil], by simp [val, Int.emod_one]⟩
theorem ShrR.next {B : Int} {p : Nat} (hB : B = 2 ^ p) {ys zs : List Int} {r N j : Nat} {d : Int} (hy : Rng B ys) (hr : r < p) (h : ShrR B ys r N j zs) (hj : j < N) (hd : d = (ys.getD j 0 + B * ys.getD (j + 1) 0) / 2 ^ r % B) : ShrR B ys r N (j + 1) (zs.set j d) := by
  have hB0 : 0 < B := by rw [hB]; exact pow_pos' (by decide) p
  obtain ⟨h1, h2, h3⟩ := h
  have h0 : 0 ≤ d := by rw [hd]; exact Int.emod_nonneg _ (by omega)
  have h5 : d < B := by rw [hd]; exact Int.emod_lt_of_pos _ hB0
  refine ⟨by simpa using h1, ?_, ?_⟩
  · rw [take_set_succ' _ _ _ (by omega)]; exact h2.snoc h0 h5
  · rw [take_set_succ' _ _ _ (by omega), val_snoc, List.length_take, Nat.min_eq_left (by omega), h3, hd, ← shr_digit hB hy _ _ hr, mod_next' _ _ hB0]
theorem ShrR.done {B : Int} (hB : 0 < B) {ys zs : List Int} {r N : Nat} (hy : Rng B ys) (h : ShrR B ys r N N zs) (hN : ys.length = N) : zs.length = N ∧ Rng B zs ∧ val B zs = val B ys / 2 ^ r := by
  obtain ⟨h1, h2, h3⟩ := h
  rw [List.take_of_length_le (by omega)] at h2 h3
  refine ⟨h1, h2, ?_⟩
  have h4 := val_lt hB hy
  have h5 := val_nonneg hB hy
  have hp : (0 : Int) < 2 ^ r := pow_pos' (by decide) _
  rw [h3, Int.emod_eq_of_lt (Int.ediv_nonneg h5 (Int.le_of_lt hp)) (by rw [← hN]; exact Int.lt_of_le_of_lt (Int.ediv_le_self _ h5) h4)]
/-- bits -/
theorem bit_dig {B : Int} {p : Nat} (hB : B = 2 ^ p) {xs : List Int} (h : Rng B xs) (k : Nat) (hp : 0 < p) : val B xs / 2 ^ k % 2 = xs.getD (k / p) 0 / 2 ^ (k % p) % 2 := by
  have hB0 : 0 < B := by rw [hB]; exact pow_pos' (by decide) p
  have e : (2 : Int) ^ k = B ^ (k / p) * 2 ^ (k % p) := by rw [hB, ← Int.pow_mul, ← Int.pow_add, Nat.div_add_mod]
  have hq : (0 : Int) < B ^ (k / p) := pow_pos' hB0 _
  rw [e, ← Int.ediv_ediv_of_nonneg (Int.le_of_lt hq), val_div_pow hB0 h, val_drop]
  have hr : k % p < p := Nat.mod_lt _ hp
  generalize k % p = r at *
  have e2 : B = 2 ^ r * (2 * 2 ^ (p - 1 - r)) := by rw [← Int.mul_assoc, Int.mul_comm (2 ^ r) 2, Int.mul_assoc, ← Int.pow_add, show r + (p - 1 - r) = p - 1 by omega, Int.mul_comm, ← Int.pow_succ, show (p - 1).succ = p by omega]; exact hB
  generalize hD : val B (xs.drop (k / p + 1)) = D
  have e3 : xs.getD (k / p) 0 + B * D = xs.getD (k / p) 0 + 2 ^ r * (2 * (2 ^ (p - 1 - r) * D)) := by
    conv => lhs; rw [e2]
    rw [Int.mul_assoc, Int.mul_assoc]
  rw [e3, Int.add_mul_ediv_left _ _ (by have := pow_pos' (B := 2) (by decide) r; omega), Int.add_mul_emod_self_left]
/-- rounding: the magnitude is told in units of 2^-20000 -/
def rqN (M : Nat) : Nat := max (bln M - 24) 19851
def rtN (M : Nat) : Nat := M / 2 ^ rqN M
def rrN (M : Nat) : Nat := M % 2 ^ rqN M
def upB (mode : Int) (neg : Bool) (M : Nat) : Bool :=
  if rrN M = 0 then false
  else if mode = 0 then decide (2 ^ rqN M < 2 * rrN M) || (decide (2 ^ rqN M = 2 * rrN M) && decide (rtN M % 2 = 1))
  else if mode = 1 then neg else if mode = 2 then !neg else decide (mode = 4)
def rmN (mode : Int) (neg : Bool) (M : Nat) : Nat := rtN M + (upB mode neg M).toNat
def ovB (mode : Int) (neg : Bool) (M : Nat) : Bool := decide (20128 < bln (rmN mode neg M) + rqN M)
/-- does an overflow stop at the greatest float -/
def stB (mode : Int) (neg : Bool) : Bool := decide (mode = 3) || (decide (mode = 1) && !neg) || (decide (mode = 2) && neg)
def rgN (mode : Int) (neg : Bool) (M : Nat) : Nat :=
  if ovB mode neg M = true then (if stB mode neg = true then 2139095039 else 2139095040) else (rqN M - 19851) * 8388608 + rmN mode neg M
def flF (mode : Int) (neg : Bool) (M : Nat) : Int := if ovB mode neg M = true then 5 else if rrN M = 0 then 0 else if bln M ≤ 19874 then 3 else 1
/-- the rounded float of a value in the scale, its flags -/
def rF (mode : Int) (V : Int) : Nat := if V = 0 then 0 else (if V < 0 then 2147483648 else 0) + rgN mode (decide (V < 0)) V.natAbs
def rFl (mode : Int) (V : Int) : Int := if V = 0 then 0 else flF mode (decide (V < 0)) V.natAbs
theorem rtN_lt (M : Nat) : rtN M < 2 ^ 24 := by
  unfold rtN
  have h1 := bln_lt M
  have h2 : 2 ^ bln M ≤ 2 ^ (rqN M + 24) := Nat.pow_le_pow_right (by decide) (by unfold rqN; omega)
  rw [Nat.pow_add] at h2
  exact Nat.div_lt_of_lt_mul (by omega)
theorem rtN_ge {M : Nat} (h : 19851 < rqN M) : 2 ^ 23 ≤ rtN M := by
  have h0 : M ≠ 0 := by rintro rfl; simp [rqN, bln] at h
  have h1 := (bln_spec h0).1
  have e : rqN M = bln M - 24 := by unfold rqN at *; omega
  unfold rtN
  rw [Nat.le_div_iff_mul_le (Nat.two_pow_pos _), ← Nat.pow_add]
  refine Nat.le_trans (Nat.pow_le_pow_right (by decide) ?_) h1
  rw [e]; unfold rqN at h; omega
theorem rmN_le (mode : Int) (neg : Bool) (M : Nat) : rmN mode neg M ≤ 2 ^ 24 := by
  have := rtN_lt M
  have h2 : (upB mode neg M).toNat ≤ 1 := by cases upB mode neg M <;> decide
  unfold rmN; omega
theorem rmN_ge {M : Nat} (mode : Int) (neg : Bool) (h : 19851 < rqN M) : 2 ^ 23 ≤ rmN mode neg M := by
  have := rtN_ge h; unfold rmN; omega
/-- what is longer than 128 bits overflows -/
theorem ov_long {M : Nat} (mode : Int) (neg : Bool) (h : 20128 < bln M) : ovB mode neg M = true := by
  have e : rqN M = bln M - 24 := by unfold rqN; omega
  have h1 := rmN_ge (M := M) mode neg (by omega)
  have h2 := le_bln h1
  unfold ovB; apply decide_eq_true; omega
theorem ov_not {M : Nat} {mode : Int} {neg : Bool} (h : ovB mode neg M = false) : bln (rmN mode neg M) + rqN M ≤ 20128 ∧ bln M ≤ 20128 := by
  refine ⟨by unfold ovB at h; have := of_decide_eq_false h; omega, ?_⟩
  rcases Nat.lt_or_ge 20128 (bln M) with h1 | h1
  · rw [ov_long mode neg h1] at h; cases h
  · exact h1
theorem rg_fin {M : Nat} {mode : Int} {neg : Bool} (h : ovB mode neg M = false) : (rqN M - 19851) * 8388608 + rmN mode neg M < 2139095040 := by
  have h1 := (ov_not h).1
  have h2 := rmN_le mode neg M
  have h3 : rqN M ≤ 20128 := by omega
  have h4 := bln_lt (rmN mode neg M)
  rcases Nat.lt_or_ge (rqN M) 20104 with h5 | h5
  · have : (2 : Nat) ^ 24 = 16777216 := by decide
    omega
  · have h6 := rmN_ge (M := M) mode neg (by omega)
    have h7 := le_bln h6
    have h8 : rqN M = 20104 := by omega
    have h9 : bln (rmN mode neg M) ≤ 24 := by omega
    have h10 := Nat.pow_le_pow_right (show 0 < 2 by decide) h9
    have : (2 : Nat) ^ 24 = 16777216 := by decide
    omega
theorem rgN_le (mode : Int) (neg : Bool) (M : Nat) : rgN mode neg M ≤ 2139095040 := by
  unfold rgN
  split
  · split <;> omega
  · rename_i h
    have := rg_fin (Bool.eq_false_iff.2 h); omega
theorem rF_lt (mode V : Int) : rF mode V < 4294967296 := by
  unfold rF
  split
  · omega
  · have := rgN_le mode (decide (V < 0)) V.natAbs
    split <;> omega
/-- the parts of a magnitude m 2^e -/
theorem rq_of {m : Nat} {e : Int} (hm : m ≠ 0) (he : -20000 ≤ e) : (rqN (m * 2 ^ (e + 20000).toNat) : Int) = max ((bln m : Int) + e - 24) (-149) + 20000 ∧ (bln (m * 2 ^ (e + 20000).toNat) : Int) = bln m + e + 20000 := by
  have h := bln_mul (e + 20000).toNat hm
  unfold rqN
  rw [h]
  omega
theorem rt_left {m : Nat} {e : Int} (he : -20000 ≤ e) (h : (rqN (m * 2 ^ (e + 20000).toNat) : Int) ≤ e + 20000) :
    rtN (m * 2 ^ (e + 20000).toNat) = m * 2 ^ (e + 20000 - rqN (m * 2 ^ (e + 20000).toNat)).toNat ∧ rrN (m * 2 ^ (e + 20000).toNat) = 0 := by
  unfold rtN rrN
  generalize rqN (m * 2 ^ (e + 20000).toNat) = q at *
  have e1 : (e + 20000).toNat = (e + 20000 - q).toNat + q := by omega
  rw [e1, Nat.pow_add, ← Nat.mul_assoc]
  exact ⟨Nat.mul_div_cancel _ (Nat.two_pow_pos _), Nat.mul_mod_left _ _⟩
theorem rt_right {m : Nat} {e : Int} (he : -20000 ≤ e) {k : Nat} (hk : 0 < k) (h : (rqN (m * 2 ^ (e + 20000).toNat) : Int) = e + 20000 + k) :
    rtN (m * 2 ^ (e + 20000).toNat) = m / 2 ^ k ∧ (rrN (m * 2 ^ (e + 20000).toNat) = 0 ↔ m % 2 ^ k = 0) ∧
    (2 ^ rqN (m * 2 ^ (e + 20000).toNat) < 2 * rrN (m * 2 ^ (e + 20000).toNat) ↔ 2 ^ (k - 1) < m % 2 ^ k) ∧ (2 ^ rqN (m * 2 ^ (e + 20000).toNat) = 2 * rrN (m * 2 ^ (e + 20000).toNat) ↔ 2 ^ (k - 1) = m % 2 ^ k) := by
  unfold rtN rrN
  generalize rqN (m * 2 ^ (e + 20000).toNat) = q at *
  have e1 : q = k + (e + 20000).toNat := by omega
  have hp := Nat.two_pow_pos (e + 20000).toNat
  generalize (e + 20000).toNat = f at *
  subst e1
  rw [Nat.pow_add]
  have e2 : (2 : Nat) ^ k = 2 * 2 ^ (k - 1) := by rw [Nat.mul_comm, ← Nat.pow_succ, show (k - 1).succ = k by omega]
  have e3 : m * 2 ^ f % (2 ^ k * 2 ^ f) = m % 2 ^ k * 2 ^ f := Nat.mul_mod_mul_right _ _ _
  rw [e3]
  generalize m % 2 ^ k = s at *
  generalize 2 ^ (k - 1) = a at *
  refine ⟨Nat.mul_div_mul_right _ _ hp, ?_, ?_, ?_⟩
  · constructor
    · intro h; rcases Nat.mul_eq_zero.1 h with h | h
      · exact h
      · omega
    · rintro rfl; simp
  · rw [e2, ← Nat.mul_assoc, Nat.mul_lt_mul_right hp]; omega
  · rw [e2, ← Nat.mul_assoc]
    constructor
    · intro h; have := Nat.eq_of_mul_eq_mul_right hp h; omega
    · intro h; rw [h]
end Go.Proofs.Ytmiafbbndonpaaa.Num
