/- Plain facts on the conversion of a single word to a double one. -/
import Derived.Test.YtmiafbbndonpaaaFs
import Derived.Laws.FloatArith
set_option linter.unusedVariables false
set_option linter.unusedSimpArgs false
namespace Go.Proofs.Ytmiafbbndonpaaa.Flt
open Ieee

/-- the rung of a number with a magnitude below 2^53 in the wide format, at a place above -1022 -/
def drung (m : Nat) (place : Int) : Nat := (place + m.log2 + 1022).toNat * 4503599627370496 + m * 2 ^ (52 - m.log2)
theorem log2_lt53 {m : Nat} (hm : m ≠ 0) (h : m < 9007199254740992) : m.log2 ≤ 52 := by
  have := (Nat.log2_lt hm (k := 53)).2 (by simpa using h)
  omega
theorem kept_bounds {m : Nat} (hm : m ≠ 0) (h : m < 9007199254740992) : 4503599627370496 ≤ m * 2 ^ (52 - m.log2) ∧ m * 2 ^ (52 - m.log2) < 9007199254740992 := by
  have hl := log2_lt53 hm h
  have h1 : 2 ^ m.log2 ≤ m := Nat.log2_self_le hm
  have h2 : m < 2 ^ (m.log2 + 1) := Nat.lt_log2_self
  have e1 : 2 ^ m.log2 * 2 ^ (52 - m.log2) = 4503599627370496 := by rw [← Nat.pow_add, show m.log2 + (52 - m.log2) = 52 by omega]
  have e2 : 2 ^ (m.log2 + 1) * 2 ^ (52 - m.log2) = 9007199254740992 := by rw [← Nat.pow_add, show m.log2 + 1 + (52 - m.log2) = 53 by omega]
  have hp : 0 < 2 ^ (52 - m.log2) := Nat.two_pow_pos _
  constructor
  · rw [← e1]; exact Nat.mul_le_mul_right _ h1
  · rw [← e2]; exact Nat.mul_lt_mul_of_pos_right h2 hp
/-- WRITING A NUMBER IN THE WIDE FORMAT, WITHOUT ROUNDING -/
theorem double_write (s : Bool) {m : Nat} {place : Int} (hm : m ≠ 0) (h : m < 9007199254740992) (h1 : -1022 ≤ place + m.log2) (h2 : place + m.log2 ≤ 1023) :
    double.nearest s m place = double.word s (drung m place) := by
  have hk := kept_bounds hm h
  have hl := log2_lt53 hm h
  apply nearest_exact
  · show drung m place ≤ 2047 * 4503599627370496
    unfold drung
    generalize m * 2 ^ (52 - m.log2) = K at *
    have : (place + m.log2 + 1022).toNat ≤ 2045 := by omega
    omega
  · rfl
  · refine ⟨52, by show 0 ≤ place - (-1074) + (52 : Nat); omega, ?_⟩
    show m * 2 ^ (place - (-1074) + (52 : Nat)).toNat = V 4503599627370496 (drung m place) * 2 ^ 52
    unfold drung
    rw [V_rung (by decide) _ _ (by omega) (.inr hk.1), Nat.mul_assoc, Nat.mul_assoc, ← Nat.pow_add, ← Nat.pow_add]
    congr 2; omega
theorem drung_le {m : Nat} {place : Int} (hm : m ≠ 0) (h : m < 9007199254740992) (h2 : place + m.log2 ≤ 1023) : drung m place < 2047 * 4503599627370496 := by
  have hk := kept_bounds hm h
  unfold drung
  generalize m * 2 ^ (52 - m.log2) = K at *
  have : (place + m.log2 + 1022).toNat ≤ 2045 := by omega
  omega

/-- a float of single precision in the wide format -/
def wide (x : Nat) : Nat := (floatToFloatBits .f32 x .f64).getD 0
theorem mg_lt (r : Nat) : mg 8388608 r < 16777216 := by unfold mg; split <;> omega
theorem mg_zero (r : Nat) : mg 8388608 r = 0 ↔ r = 0 := by unfold mg; split <;> omega
theorem ex_le {r : Nat} (h : r < 2139095040) : ex 8388608 r ≤ 253 := by unfold ex; split <;> omega
theorem wide_zero {x : Nat} (h : x % 2147483648 = 0) : floatToFloatBits .f32 x .f64 = some (double.word (sgf single x) 0) := by
  unfold floatToFloatBits
  rw [if_neg (by decide)]
  have : FloatKind.f32.decode x = .number (sgf single x) 0 (-149) := by
    have := read_fin single (x := x) (by decide) (by show x % 2147483648 < 2139095040; omega)
    show single.read x = _
    rw [this]
    show Datum.number _ (mg 8388608 (x % 2147483648)) (-149 + (ex 8388608 (x % 2147483648) : Nat)) = _
    rw [h]; rfl
  rw [this]
  cases sgf single x <;> rfl
theorem isInf_word {r : Nat} (s : Bool) (h : r < 2047 * 4503599627370496) : (double.read (double.word s r)).isInfinity = false := by
  have e : double.word s r % double.signWeight = r := by
    unfold Format.word
    show (if s = true then 9223372036854775808 + r else r) % 9223372036854775808 = r
    split <;> omega
  rw [read_fin double (by decide) (by rw [e]; exact h)]; rfl
theorem wide_num {x : Nat} (h0 : x % 2147483648 ≠ 0) (h : fin x) :
    floatToFloatBits .f32 x .f64 = some (double.word (sgf single x) (drung (mg 8388608 (x % 2147483648)) (-149 + (ex 8388608 (x % 2147483648) : Nat)))) := by
  unfold floatToFloatBits
  rw [if_neg (by decide)]
  have hd : FloatKind.f32.decode x = .number (sgf single x) (mg 8388608 (x % 2147483648)) (-149 + (ex 8388608 (x % 2147483648) : Nat)) :=
    read_fin single (x := x) (by decide) h
  rw [hd]
  have hm : mg 8388608 (x % 2147483648) ≠ 0 := fun k => h0 ((mg_zero _).1 k)
  have hlt := mg_lt (x % 2147483648)
  have he := ex_le (r := x % 2147483648) h
  generalize mg 8388608 (x % 2147483648) = m at *
  generalize ex 8388608 (x % 2147483648) = e at *
  have hl : m.log2 ≤ 23 := by have := (Nat.log2_lt hm (k := 24)).2 (by simpa using hlt); omega
  have hw : FloatKind.f64.encode (.number (sgf single x) m (-149 + (e : Nat))) = double.word (sgf single x) (drung m (-149 + (e : Nat))) :=
    double_write _ hm (by omega) (by omega) (by omega)
  simp only [hw]
  have hi := isInf_word (sgf single x) (drung_le (place := -149 + (e : Nat)) hm (by omega) (by omega))
  rw [show (FloatKind.f64.decode (double.word (sgf single x) (drung m (-149 + (e : Nat))))).isInfinity = false from hi]
  rfl
theorem wide_inf {x : Nat} (h : x % 2147483648 = 2139095040) : floatToFloatBits .f32 x .f64 = some (double.word (sgf single x) double.infRung) := by
  unfold floatToFloatBits
  rw [if_neg (by decide)]
  rw [show FloatKind.f32.decode x = .infinity (sgf single x) from read_inf single (by decide) h]
  rfl
theorem wide_some {x : Nat} (hn : ¬ nan x) : floatToFloatBits .f32 x .f64 = some (wide x) := by
  unfold wide
  by_cases h : x % 2147483648 = 0
  · rw [wide_zero h]; rfl
  · by_cases h2 : fin x
    · rw [wide_num h h2]; rfl
    · rw [wide_inf (by unfold fin at h2; unfold nan at hn; omega)]; rfl
theorem word_mod (s : Bool) {r : Nat} (h : r < 9223372036854775808) : double.word s r % double.signWeight = r := by
  unfold Format.word
  show (if s = true then 9223372036854775808 + r else r) % 9223372036854775808 = r
  split <;> omega
/-- not NaN in the wide format -/
def dnum (a : Nat) : Prop := a % double.signWeight ≤ double.infRung
theorem wide_dnum {x : Nat} (hn : ¬ nan x) : dnum (wide x) := by
  unfold dnum wide
  by_cases h : x % 2147483648 = 0
  · rw [wide_zero h, Option.getD_some, word_mod _ (by decide)]; decide
  · by_cases h2 : fin x
    · rw [wide_num h h2, Option.getD_some]
      have hm : mg 8388608 (x % 2147483648) ≠ 0 := fun k => h ((mg_zero _).1 k)
      have hlt := mg_lt (x % 2147483648)
      have he := ex_le (r := x % 2147483648) h2
      have hl : (mg 8388608 (x % 2147483648)).log2 ≤ 23 := by have := (Nat.log2_lt hm (k := 24)).2 (by simpa using hlt); omega
      have hd := drung_le (place := -149 + (ex 8388608 (x % 2147483648) : Nat)) hm (by omega) (by omega)
      rw [word_mod _ (by omega)]
      show _ ≤ 2047 * 4503599627370496
      omega
    · rw [wide_inf (by unfold fin at h2; unfold nan at hn; omega), Option.getD_some, word_mod _ (by decide)]; exact Nat.le_refl _
theorem d_self {a : Nat} (h : dnum a) : FloatKind.f64.format.order a a = some .eq := by
  show double.order a a = _
  rw [order_eq double (by decide) (by decide) h h]; simp
theorem d_inv {a : Nat} (h : dnum a) : ∃ r, floatBits .quo .f64 4607182418800017408 a = some r := by
  have h1 : double.read 4607182418800017408 = .number false 4503599627370496 (-52) := by decide
  show ∃ r, double.div 4607182418800017408 a = some r
  unfold Format.div
  rw [h1]
  rcases Nat.lt_or_eq_of_le h with k | k
  · rw [read_fin double (by decide) k]
    unfold Datum.quotient
    dsimp only
    split
    · rw [if_neg (by decide)]; exact ⟨_, rfl⟩
    · exact ⟨_, rfl⟩
  · rw [read_inf double (by decide) k]; exact ⟨_, rfl⟩
end Go.Proofs.Ytmiafbbndonpaaa.Flt
