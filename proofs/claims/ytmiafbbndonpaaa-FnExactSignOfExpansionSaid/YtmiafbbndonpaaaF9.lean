/- Contracts: floats by doubling and halving in the wide format. -/
import Derived.Test.YtmiafbbndonpaaaF4
import Derived.Test.YtmiafbbndonpaaaFw
set_option linter.unusedVariables false
set_option linter.unusedSimpArgs false
set_option exponentiation.threshold 3000
namespace Go.Proofs.Ytmiafbbndonpaaa
open Go.RowKit Flt
/-- the wide word of m 2^q -/
def dw (s : Bool) (m : Nat) (q : Int) : Nat := Ieee.double.word s (drung m q)
theorem dw_mul2 (s : Bool) {m : Nat} {q : Int} (hm : m ≠ 0) (h : m < 9007199254740992) (h1 : -1022 ≤ q + m.log2) (h2 : q + 1 + m.log2 ≤ 1023) : floatBits .mul .f64 (dw s m q) 4611686018427387904 = some (dw s m (q + 1)) := by
  have hl := log2_lt53 hm h
  apply d_mul2 s (drung_le hm h (by omega)) (Nat.le_of_lt (drung_le hm h (by omega)))
  rw [V_drung hm h (by omega), V_drung hm h h1, show (q + 1 + 1074).toNat = (q + 1074).toNat + 1 by omega, Nat.pow_succ, ← Nat.mul_assoc, Nat.mul_comm _ 2]
theorem dw_div2 (s : Bool) {m : Nat} {q : Int} (hm : m ≠ 0) (h : m < 9007199254740992) (h1 : -1022 ≤ q - 1 + m.log2) (h2 : q + m.log2 ≤ 1023) : floatBits .quo .f64 (dw s m q) 4611686018427387904 = some (dw s m (q - 1)) := by
  have hl := log2_lt53 hm h
  apply d_div2 s (drung_le hm h (by omega)) (Nat.le_of_lt (drung_le hm h (by omega)))
  rw [V_drung hm h (by omega), V_drung hm h h1, show (q + 1074).toNat = (q - 1 + 1074).toNat + 1 by omega, Nat.pow_succ, ← Nat.mul_assoc, Nat.mul_comm _ 2]
set_option maxHeartbeats 2000000 in
theorem s_TwosUp (s : Bool) (m : Nat) (q : Int) (n : Nat) (w : World) (hm : m ≠ 0) (h : m < 9007199254740992) (hn : n ≤ 100000) (h1 : -1022 ≤ q + m.log2) (h2 : q + n + m.log2 ≤ 1023) :
    Calls Try.prog 160 #[.float .f64 (dw s m q), .int .i64 (n : Int)] w fun e w' => e = .returned (.float .f64 (dw s m (q + n))) ∧ w = w' := by
  have HH : Hd (m ≠ 0 ∧ m < 9007199254740992 ∧ -1022 ≤ q + m.log2 ∧ q + n + m.log2 ≤ 1023) := ⟨⟨hm, h, h1, h2⟩⟩
  clear hm h h1 h2
  go_enter Try.func160, Try.ntmps160
  go_wp2
  go_loop [0, 1] (fun x k => ∃ j : Nat, j ≤ n ∧ x = .float .f64 (dw s m (q + j)) ∧ k = .int .i64 ((n - j : Nat) : Int)) (fun _ k => (intOf k).toNat)
  case atStart => exact ⟨0, Nat.zero_le _, by simp, by simp⟩
  case round =>
    obtain ⟨j, hj, rfl, rfl⟩ := hrel
    by_cases hlt : j < n
    · have k2 := fun w => run_float_arith (P := Try.prog) w .mul 62 .f64 (dw s m (q + j)) 4611686018427387904 (dw s m (q + j + 1)) (dw_mul2 s HH.out.1 HH.out.2.1 (by have := HH.out; omega) (by have := HH.out; omega))
      obtain ⟨d, hd⟩ : ∃ d, n - j = d + 1 := ⟨n - j - 1, by omega⟩
      rw [hd]
      have HD : Hd (n - j = d + 1) := ⟨hd⟩
      have hd2 : d ≤ 100000 := by omega
      clear hd
      go_wp2
      go_round
      case rel => exact ⟨j + 1, by omega, by rw [show q + ((j + 1 : Nat) : Int) = q + j + 1 by omega], by have := HD.out; rw [show n - (j + 1) = d by omega]⟩
      case measure => simp [intOf]
    · have e : n - j = 0 := by omega
      obtain rfl : j = n := by omega
      rw [e]
      clear e
      go_wp2
      refine wp_loop_rounds 1 ?_
      rw [rounds_succ]
      go_wp2_with fail
      go_ret
      exact ⟨rfl, rfl⟩
set_option maxHeartbeats 2000000 in
theorem s_TwosDown (s : Bool) (m : Nat) (q : Int) (n : Nat) (w : World) (hm : m ≠ 0) (h : m < 9007199254740992) (hn : n ≤ 100000) (h1 : -1022 ≤ q - n + m.log2) (h2 : q + m.log2 ≤ 1023) :
    Calls Try.prog 160 #[.float .f64 (dw s m q), .int .i64 (-(n : Int))] w fun e w' => e = .returned (.float .f64 (dw s m (q - n))) ∧ w = w' := by
  have HH : Hd (m ≠ 0 ∧ m < 9007199254740992 ∧ -1022 ≤ q - n + m.log2 ∧ q + m.log2 ≤ 1023) := ⟨⟨hm, h, h1, h2⟩⟩
  clear hm h h1 h2
  go_enter Try.func160, Try.ntmps160
  go_wp2
  refine wp_loop_rounds 1 ?_
  rw [rounds_succ]
  go_wp2_with fail
  go_loop [0, 1] (fun x k => ∃ j : Nat, j ≤ n ∧ x = .float .f64 (dw s m (q - j)) ∧ k = .int .i64 (-((n - j : Nat) : Int))) (fun _ k => (-(intOf k)).toNat)
  case atStart => exact ⟨0, Nat.zero_le _, by simp, by simp⟩
  case round =>
    obtain ⟨j, hj, rfl, rfl⟩ := hrel
    by_cases hlt : j < n
    · have k2 := fun w => run_float_arith (P := Try.prog) w .quo 62 .f64 (dw s m (q - j)) 4611686018427387904 (dw s m (q - j - 1)) (dw_div2 s HH.out.1 HH.out.2.1 (by have := HH.out; omega) (by have := HH.out; omega))
      obtain ⟨d, hd⟩ : ∃ d, n - j = d + 1 := ⟨n - j - 1, by omega⟩
      rw [hd]
      have HD : Hd (n - j = d + 1) := ⟨hd⟩
      have hd2 : d ≤ 100000 := by omega
      clear hd
      go_wp2
      go_round
      case rel => exact ⟨j + 1, by omega, by rw [show q - ((j + 1 : Nat) : Int) = q - j - 1 by omega], by have := HD.out; rw [show n - (j + 1) = d by omega]; go_num⟩
      case measure => simp [intOf]; omega
    · have e : n - j = 0 := by omega
      obtain rfl : j = n := by omega
      rw [e]
      clear e
      go_wp2
      go_ret
      exact ⟨rfl, rfl⟩

set_option maxHeartbeats 2000000 in
theorem s_Twos0 (n : Nat) (w : World) (hn : n ≤ 100000) :
    Calls Try.prog 160 #[.float .f64 0, .int .i64 (n : Int)] w fun e w' => e = .returned (.float .f64 0) ∧ w = w' := by
  have k2 := fun w => run_float_arith (P := Try.prog) w .mul 62 .f64 0 4611686018427387904 0 (by kernel_rfl)
  go_enter Try.func160, Try.ntmps160
  go_wp2
  go_loop [0, 1] (fun x k => ∃ j : Nat, j ≤ n ∧ x = .float .f64 0 ∧ k = .int .i64 (j : Int)) (fun _ k => (intOf k).toNat)
  case atStart => exact ⟨n, Nat.le_refl _, rfl, rfl⟩
  case round =>
    obtain ⟨j, hj, rfl, rfl⟩ := hrel
    cases j with
    | succ d =>
      go_wp2
      go_round
      case rel => exact ⟨d, by omega, rfl, rfl⟩
      case measure => simp [intOf]
    | zero =>
      go_wp2
      refine wp_loop_rounds 1 ?_
      rw [rounds_succ]
      go_wp2_with fail
      go_ret
      exact ⟨rfl, rfl⟩
set_option maxHeartbeats 2000000 in
theorem s_Twos0D (n : Nat) (w : World) (hn : n ≤ 100000) :
    Calls Try.prog 160 #[.float .f64 0, .int .i64 (-(n : Int))] w fun e w' => e = .returned (.float .f64 0) ∧ w = w' := by
  have k2 := fun w => run_float_arith (P := Try.prog) w .quo 62 .f64 0 4611686018427387904 0 (by kernel_rfl)
  go_enter Try.func160, Try.ntmps160
  go_wp2
  refine wp_loop_rounds 1 ?_
  rw [rounds_succ]
  go_wp2_with fail
  go_loop [0, 1] (fun x k => ∃ j : Nat, j ≤ n ∧ x = .float .f64 0 ∧ k = .int .i64 (-(j : Int))) (fun _ k => (-(intOf k)).toNat)
  case atStart => exact ⟨n, Nat.le_refl _, rfl, rfl⟩
  case round =>
    obtain ⟨j, hj, rfl, rfl⟩ := hrel
    cases j with
    | succ d =>
      go_wp2
      go_round
      case rel => exact ⟨d, by omega, rfl, by go_num⟩
      case measure => simp [intOf]; omega
    | zero =>
      go_wp2
      go_ret
      exact ⟨rfl, rfl⟩
theorem lt0_iff (x : Nat) (hx : W x) (hn : ¬ nan x) : (FloatKind.f32.format.order x 0 == some .lt) = decide (2147483648 < x) := by
  rw [o_lt]; apply decide_eq_decide.2
  have h0 : pl 0 = 0 := by decide
  have hn0 : ¬ nan 0 := by decide
  rw [h0]; unfold W at hx
  constructor
  · rintro ⟨_, _, h⟩; unfold pl at h; split at h <;> omega
  · intro h; refine ⟨hn, hn0, ?_⟩; unfold pl; rw [if_pos (by omega)]; omega
theorem s_Abs1 (x : Nat) (w : World) (hx : W x) (hn : ¬ nan x) :
    Calls Try.prog 212 #[.float .f32 x] w fun e w' => e = .returned (.float .f32 (x % 2147483648)) ∧ w = w' := by
  have h := o_eq0 x hx
  have hl := lt0_iff x hx hn
  have hg := negFloat_eq x hx
  by_cases h1 : 2147483648 < x
  · rw [decide_eq_true h1] at hl
    rw [show x % 2147483648 = ng x by unfold ng; unfold W at hx; rw [if_neg (by omega)]; omega]
    clear h h1 hx hn
    go_enter Try.func212, Try.ntmps212
    go_wp2
    go_ret
    exact ⟨rfl, rfl⟩
  · rw [decide_eq_false h1] at hl
    by_cases h2 : x = 0 ∨ x = 2147483648
    · rw [decide_eq_true h2] at h
      rw [show x % 2147483648 = 0 by omega]
      clear h1 h2 hx hn hg
      go_enter Try.func212, Try.ntmps212
      go_wp2
      go_ret
      exact ⟨rfl, rfl⟩
    · rw [decide_eq_false h2] at h
      rw [show x % 2147483648 = x by unfold W at hx; omega]
      clear h1 h2 hx hn hg
      go_enter Try.func212, Try.ntmps212
      go_wp2
      go_ret
      exact ⟨rfl, rfl⟩
/-- 'y >= 1 << 24' on an integer in the wide format -/
theorem dw_ge {m : Nat} {e : Nat} (hm : m ≠ 0) (h : m < 9007199254740992) (h2 : (e : Int) + m.log2 ≤ 1023) :
    (FloatKind.f64.format.order (dw false m e) 4715268809856909312 == some .gt || FloatKind.f64.format.order (dw false m e) 4715268809856909312 == some .eq) = decide (2 ^ 24 ≤ m * 2 ^ e) := by
  have hd := drung_le hm h h2
  have e1 := word_mod false (r := drung m e) (by omega)
  have e2 : (4715268809856909312 : Nat) = Ieee.double.word false (drung 1 24) := by decide
  have hd2 : drung 1 24 < 2047 * 4503599627370496 := by decide
  have e3 := word_mod false (r := drung 1 24) (by omega)
  have ho : FloatKind.f64.format.order (dw false m e) 4715268809856909312 = some (compare ((drung m e : Nat) : Int) ((drung 1 24 : Nat) : Int)) := by
    rw [e2]
    show Ieee.double.order (Ieee.double.word false (drung m e)) _ = _
    rw [order_eq Ieee.double (by decide) (by decide) (by rw [e1]; exact Nat.le_of_lt hd) (by rw [e3]; exact Nat.le_of_lt hd2), e1, e3, sg_word false (by omega), sg_word false (by omega)]; rfl
  rw [ho, some_beq, some_beq, cmp_gt, cmp_eq, ← Bool.decide_or]
  apply decide_eq_decide.2
  have v1 := V_drung (q := (e : Int)) hm h (by omega)
  have v2 := V_drung (m := 1) (q := 24) (by decide) (by decide) (by decide)
  rw [show ((e : Int) + 1074).toNat = e + 1074 by omega, Nat.pow_add, ← Nat.mul_assoc] at v1
  rw [show ((24 : Int) + 1074).toNat = 24 + 1074 by rfl, Nat.one_mul, Nat.pow_add] at v2
  have hlt := V_lt_iff (B := 4503599627370496) (a := drung m e) (b := drung 1 24) (by decide)
  rw [v1, v2] at hlt
  have hp : 0 < 2 ^ 1074 := Nat.two_pow_pos _
  generalize 2 ^ 1074 = P at *
  have : m * 2 ^ e * P < 2 ^ 24 * P ↔ m * 2 ^ e < 2 ^ 24 := Nat.mul_lt_mul_right hp
  rw [this] at hlt
  omega
end Go.Proofs.Ytmiafbbndonpaaa
