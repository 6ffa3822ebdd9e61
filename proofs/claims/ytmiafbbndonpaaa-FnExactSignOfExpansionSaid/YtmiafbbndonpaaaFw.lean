/- Plain facts on the wide format: doubling, halving, to and from integers and single words, without rounding. -/
import Derived.Test.YtmiafbbndonpaaaFd
set_option linter.unusedVariables false
set_option linter.unusedSimpArgs false
set_option exponentiation.threshold 3000
namespace Go.Proofs.Ytmiafbbndonpaaa.Flt
open Ieee

theorem V_drung {m : Nat} {q : Int} (hm : m ≠ 0) (h : m < 9007199254740992) (h1 : -1022 ≤ q + m.log2) : V 4503599627370496 (drung m q) = m * 2 ^ (q + 1074).toNat := by
  have hk := kept_bounds hm h
  have hl := log2_lt53 hm h
  unfold drung
  rw [V_rung (by decide) _ _ (by omega) (.inr hk.1), Nat.mul_assoc, ← Nat.pow_add]
  congr 2; omega
/-- writing a number whose value in units of the least place is that of a rung -/
theorem dnearest (s : Bool) (mag : Nat) (place : Int) (r : Nat) (hr : r ≤ double.infRung) (h : ∃ c : Nat, 0 ≤ place + 1074 + c ∧ mag * 2 ^ (place + 1074 + c).toNat = V 4503599627370496 r * 2 ^ c) : double.nearest s mag place = double.word s r := by
  apply nearest_exact double s mag place r hr rfl
  obtain ⟨c, h0, h1⟩ := h
  refine ⟨c, ?_, ?_⟩
  · show 0 ≤ place - (-1074) + (c : Int); omega
  · show mag * 2 ^ (place - (-1074) + (c : Int)).toNat = _
    rw [show place - (-1074) + (c : Int) = place + 1074 + c by omega]; exact h1
theorem snearest (s : Bool) (mag : Nat) (place : Int) (r : Nat) (hr : r ≤ single.infRung) (h : ∃ c : Nat, 0 ≤ place + 149 + c ∧ mag * 2 ^ (place + 149 + c).toNat = V 8388608 r * 2 ^ c) : single.nearest s mag place = single.word s r := by
  apply nearest_exact single s mag place r hr rfl
  obtain ⟨c, h0, h1⟩ := h
  refine ⟨c, ?_, ?_⟩
  · show 0 ≤ place - (-149) + (c : Int); omega
  · show mag * 2 ^ (place - (-149) + (c : Int)).toNat = _
    rw [show place - (-149) + (c : Int) = place + 149 + c by omega]; exact h1
theorem sg_word (s : Bool) {r : Nat} (h : r < 9223372036854775808) : sgf double (double.word s r) = s := by
  unfold sgf Format.word
  show ((if s = true then 9223372036854775808 + r else r) / 9223372036854775808 % 2 == 1) = s
  cases s
  · rw [if_neg (by decide), Nat.div_eq_of_lt h]; rfl
  · rw [if_pos rfl, show (9223372036854775808 + r) / 9223372036854775808 = 1 by omega]; rfl
theorem read_word (s : Bool) {r : Nat} (h : r < 9218868437227405312) : double.read (double.word s r) = .number s (mg 4503599627370496 r) (-1074 + (ex 4503599627370496 r : Nat)) := by
  have e := word_mod s (r := r) (by omega)
  have := read_fin double (x := double.word s r) (by decide) (by rw [e]; exact h)
  rw [e, sg_word s (by omega)] at this
  exact this
theorem mg_lt53 (r : Nat) : mg 4503599627370496 r < 9007199254740992 := by unfold mg; split <;> omega
theorem two_word : double.read 4611686018427387904 = .number false 4503599627370496 (-51) := by decide
theorem d_mul2 (s : Bool) {r r' : Nat} (h : r < 9218868437227405312) (h' : r' ≤ 9218868437227405312) (hv : V 4503599627370496 r' = 2 * V 4503599627370496 r) :
    floatBits .mul .f64 (double.word s r) 4611686018427387904 = some (double.word s r') := by
  show double.mul _ _ = _
  unfold Format.mul
  rw [read_word s h, two_word]
  simp only [Datum.product, Option.map, Format.write, Bool.xor_false]
  congr 1
  apply dnearest s _ _ r' h'
  refine ⟨51, by omega, ?_⟩
  rw [hv, V_eq, show (-1074 + ((ex 4503599627370496 r : Nat) : Int) + -51 + 1074 + ((51 : Nat) : Int)).toNat = ex 4503599627370496 r by omega]
  generalize mg 4503599627370496 r = A
  generalize 2 ^ ex 4503599627370496 r = E
  rw [Nat.mul_assoc, Nat.mul_left_comm]
  generalize A * E = P
  show 4503599627370496 * P = 2 * P * 2251799813685248
  omega
theorem d_div2 (s : Bool) {r r' : Nat} (h : r < 9218868437227405312) (h' : r' ≤ 9218868437227405312) (hv : V 4503599627370496 r = 2 * V 4503599627370496 r') :
    floatBits .quo .f64 (double.word s r) 4611686018427387904 = some (double.word s r') := by
  show double.div _ _ = _
  unfold Format.div
  rw [read_word s h, two_word]
  have hm := mg_lt53 r
  have hV := V_eq 4503599627370496 r
  generalize mg 4503599627370496 r = m at *
  generalize ex 4503599627370496 r = e at *
  have hl : m.log2 ≤ 52 := by
    by_cases h0 : m = 0
    · subst h0; decide
    · exact log2_lt53 h0 hm
  have e1 : (4503599627370496 : Nat).log2 = 52 := by decide
  simp only [Datum.quotient, if_neg (show ¬ (4503599627370496 : Nat) = 0 by decide), Option.map, Format.write, Bool.xor_false, e1]
  have e2 : double.fractionBits + 2 + 52 - m.log2 = (54 - m.log2) + 52 := by show 52 + 2 + 52 - m.log2 = _; omega
  rw [e2, Nat.shiftLeft_eq, Nat.pow_add, ← Nat.mul_assoc, show (2 : Nat) ^ 52 = 4503599627370496 by rfl, Nat.mul_div_cancel _ (by decide), Nat.mul_mod_left]
  congr 1
  apply dnearest s _ _ r' h'
  refine ⟨106, by omega, ?_⟩
  have e3 : (-1074 + (e : Int) - -51 - (((54 - m.log2) + 52 : Nat) : Int) - 1 + 1074 + ((106 : Nat) : Int)).toNat = e + m.log2 + 50 := by omega
  rw [e3]
  show (2 * (m * 2 ^ (54 - m.log2)) + 0) * 2 ^ (e + m.log2 + 50) = _
  have e4 : 2 * (m * 2 ^ (54 - m.log2)) * 2 ^ (e + m.log2 + 50) = 2 * m * 2 ^ e * 2 ^ 104 := by
    rw [Nat.mul_assoc, Nat.mul_assoc m, ← Nat.pow_add, Nat.mul_assoc, Nat.mul_assoc, ← Nat.pow_add]
    congr 3; omega
  rw [Nat.add_zero, e4]
  rw [hV] at hv
  rw [show 2 * m * 2 ^ e = 2 * (m * 2 ^ e) by rw [Nat.mul_assoc], hv, show (2 : Nat) ^ 106 = 2 * 2 * 2 ^ 104 by rfl]
  generalize V 4503599627370496 r' = v
  rw [Nat.mul_comm 2 (2 * v), Nat.mul_comm 2 v, Nat.mul_assoc, Nat.mul_assoc, Nat.mul_assoc]
/-- 'float64(n)' -/
theorem d_ofInt (n : Int) (h0 : n ≠ 0) (h : n.natAbs < 9007199254740992) : floatOfInt .f64 n = double.word (decide (n < 0)) (drung n.natAbs 0) := by
  have hl := log2_lt53 (m := n.natAbs) (by omega) h
  show double.nearest _ _ _ = _
  exact double_write _ (by omega) h (by omega) (by omega)
theorem d_ofInt0 : floatOfInt .f64 0 = double.word false 0 := by decide
/-- 'float32(x)' of a wide word whose value a single word has -/
theorem d_toSingle (s : Bool) {r r32 : Nat} (h : r < 9218868437227405312) (h32 : r32 < 2139095040) (hv : V 4503599627370496 r = V 8388608 r32 * 2 ^ 925) :
    floatToFloatBits .f64 (double.word s r) .f32 = some (single.word s r32) := by
  unfold floatToFloatBits
  rw [if_neg (by decide)]
  rw [show FloatKind.f64.decode (double.word s r) = .number s (mg 4503599627370496 r) (-1074 + (ex 4503599627370496 r : Nat)) from read_word s h]
  have hw : FloatKind.f32.encode (.number s (mg 4503599627370496 r) (-1074 + (ex 4503599627370496 r : Nat))) = single.word s r32 := by
    show single.nearest _ _ _ = _
    apply snearest s _ _ r32 (Nat.le_of_lt h32)
    refine ⟨925, by omega, ?_⟩
    rw [← hv, V_eq]; congr 2; omega
  simp only [hw]
  have e : single.word s r32 % single.signWeight = r32 := by
    unfold Format.word
    show (if s = true then 2147483648 + r32 else r32) % 2147483648 = r32
    split <;> omega
  have hi : (FloatKind.f32.decode (single.word s r32)).isInfinity = false := by
    show (single.read _).isInfinity = false
    rw [read_fin single (by decide) (by rw [e]; exact h32)]; rfl
  rw [hi]; rfl
/-- the wide word of a finite single one -/
theorem wide_val {x : Nat} (h : fin x) : ∃ r, wide x = double.word (sgf single x) r ∧ r < 9218868437227405312 ∧ V 4503599627370496 r = V 8388608 (x % 2147483648) * 2 ^ 925 := by
  by_cases h0 : x % 2147483648 = 0
  · exact ⟨0, by unfold wide; rw [wide_zero h0]; rfl, by decide, by rw [h0]; simp [V]⟩
  · refine ⟨_, by unfold wide; rw [wide_num h0 h]; rfl, ?_, ?_⟩
    · have hm : mg 8388608 (x % 2147483648) ≠ 0 := fun k => h0 ((mg_zero _).1 k)
      have hlt := mg_lt (x % 2147483648)
      have he := ex_le (r := x % 2147483648) h
      have hl : (mg 8388608 (x % 2147483648)).log2 ≤ 23 := by have := (Nat.log2_lt hm (k := 24)).2 (by simpa using hlt); omega
      exact drung_le (place := -149 + (ex 8388608 (x % 2147483648) : Nat)) hm (by omega) (by omega)
    · have hm : mg 8388608 (x % 2147483648) ≠ 0 := fun k => h0 ((mg_zero _).1 k)
      have hlt := mg_lt (x % 2147483648)
      rw [V_drung hm (by omega) (by omega), V_eq, Nat.mul_assoc, ← Nat.pow_add]
      congr 2; omega
theorem cut_zero_exact (neg : Bool) (k d : Nat) : Toward.zero.cut neg (k * 2 ^ d) d = k := by
  by_cases hk : k = 0
  · subst hk; unfold Toward.cut; simp
  · unfold Toward.cut
    have hl := log2_mul_pow k d hk
    have hm : min d ((k * 2 ^ d).log2 + 2) = d := by omega
    have hp : 0 < 2 ^ d := Nat.two_pow_pos d
    simp only [hm, Nat.shiftLeft_eq, Nat.one_mul, Nat.mul_div_cancel _ hp]
    simp
/-- 'int64(x)' of a wide word whose value is a whole number -/
theorem d_toInt {r n : Nat} (h : r < 9218868437227405312) (hn : n < 9007199254740992) (hv : V 4503599627370496 r = n * 2 ^ 1074) :
    floatToIntVal .f64 (double.word false r) .i64 = some (n : Int) := by
  unfold floatToIntVal
  rw [show FloatKind.f64.decode (double.word false r) = .number false (mg 4503599627370496 r) (-1074 + (ex 4503599627370496 r : Nat)) from read_word false h]
  have hV := V_eq 4503599627370496 r
  generalize mg 4503599627370496 r = m at *
  generalize ex 4503599627370496 r = e at *
  have key : (Datum.number false m (-1074 + (e : Nat))).toInt .zero = some (n : Int) := by
    unfold Datum.toInt Datum.integral
    have hc : Toward.zero.cut false (m <<< (-1074 + (e : Int)).toNat) (-(-1074 + (e : Int))).toNat = n := by
      rw [Nat.shiftLeft_eq]
      by_cases he : e ≤ 1074
      · have e1 : (-1074 + (e : Int)).toNat = 0 := by omega
        have e2 : (-(-1074 + (e : Int))).toNat = 1074 - e := by omega
        rw [e1, e2, Nat.pow_zero, Nat.mul_one]
        have : m = n * 2 ^ (1074 - e) := by
          rw [hV] at hv
          have hh : n * 2 ^ 1074 = n * 2 ^ (1074 - e) * 2 ^ e := by rw [Nat.mul_assoc, ← Nat.pow_add]; congr 2; omega
          rw [hh] at hv
          exact Nat.mul_right_cancel (Nat.two_pow_pos e) hv
        rw [this]; exact cut_zero_exact _ _ _
      · have e1 : (-1074 + (e : Int)).toNat = e - 1074 := by omega
        have e2 : (-(-1074 + (e : Int))).toNat = 0 := by omega
        rw [e1, e2]
        have : m * 2 ^ (e - 1074) = n := by
          rw [hV] at hv
          have hh : m * 2 ^ e = m * 2 ^ (e - 1074) * 2 ^ 1074 := by rw [Nat.mul_assoc, ← Nat.pow_add]; congr 2; omega
          rw [hh] at hv
          exact Nat.mul_right_cancel (Nat.two_pow_pos 1074) hv
        rw [this]
        have := cut_zero_exact false n 0
        simpa using this
    simp only [hc]
    unfold signed; simp
  rw [key]
  simp only [IntKind.min, IntKind.max, IntKind.signed, IntKind.bits]
  rw [if_pos (by constructor <;> simp <;> omega)]
end Go.Proofs.Ytmiafbbndonpaaa.Flt
