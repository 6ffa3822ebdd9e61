/- Contracts: parts of floats, and floats at places. -/
import Derived.Test.YtmiafbbndonpaaaF9
set_option linter.unusedVariables false
set_option linter.unusedSimpArgs false
set_option exponentiation.threshold 3000
namespace Go.Proofs.Ytmiafbbndonpaaa
open Go.RowKit Flt
/-- magnitude and exponent of a float's parts -/
def pm (x : Nat) : Nat := mg 8388608 (x % 2147483648)
def pe (x : Nat) : Nat := ex 8388608 (x % 2147483648)
theorem pm_lt (x : Nat) : pm x < 16777216 := mg_lt _
theorem pe_le {x : Nat} (h : fin x) : pe x ≤ 253 := ex_le h
theorem pm_big {x : Nat} (h : 0 < pe x) : 8388608 ≤ pm x := by
  unfold pe ex at h; unfold pm mg; split at h
  · omega
  · rename_i k; rw [if_neg k]; omega
/-- the wide word of a magnitude times a power of two -/
def dwn (m n : Nat) : Nat := dw false m (n : Int)
theorem big_ge {m : Nat} (d : Nat) (h : 8388608 ≤ m) : 2 ^ 24 ≤ m * 2 ^ (d + 1) := by
  have hp : 1 ≤ 2 ^ d := Nat.two_pow_pos d
  have h2 := Nat.mul_le_mul h hp
  have e : m * 2 ^ (d + 1) = m * 2 ^ d * 2 := by rw [Nat.pow_succ, Nat.mul_assoc]
  rw [e]; omega
theorem dwn_ge {m e : Nat} (hm : m ≠ 0) (h : m < 16777216) (hl : m.log2 ≤ 23) (he : e ≤ 253) :
    (FloatKind.f64.format.order (dwn m e) 4715268809856909312 == some .gt || FloatKind.f64.format.order (dwn m e) 4715268809856909312 == some .eq) = decide (2 ^ 24 ≤ m * 2 ^ e) := dw_ge hm (by omega) (by omega)
theorem dwn_half {m d : Nat} (hm : m ≠ 0) (h : m < 16777216) (hl : m.log2 ≤ 23) (he : d ≤ 253) : floatBits .quo .f64 (dwn m (d + 1)) 4611686018427387904 = some (dwn m d) := by
  have := dw_div2 false (m := m) (q := ((d + 1 : Nat) : Int)) hm (by omega) (by omega) (by omega)
  rw [show ((d + 1 : Nat) : Int) - 1 = (d : Int) by omega] at this; exact this
theorem wide_abs {x : Nat} (h0 : x % 2147483648 ≠ 0) (h : fin x) : floatToFloatBits .f32 (x % 2147483648) .f64 = some (dw false (pm x) (-149 + (pe x : Nat))) := by
  have e : x % 2147483648 % 2147483648 = x % 2147483648 := by omega
  have := wide_num (x := x % 2147483648) (by omega) (by unfold fin at *; omega)
  rw [e] at this
  rw [this]
  have hs : sgf Ieee.single (x % 2147483648) = false := by
    unfold sgf; show (x % 2147483648 / 2147483648 % 2 == 1) = false; rw [show x % 2147483648 / 2147483648 = 0 by omega]; rfl
  rw [hs]; rfl
theorem s_Twos0_149 (w : World) : Calls Try.prog 160 #[.float .f64 0, .int .i64 149] w fun e w' => e = .returned (.float .f64 0) ∧ w = w' := s_Twos0 149 w (by decide)
theorem s_TwosUp_149 (m e : Nat) (w : World) (hm : m ≠ 0) (h : m < 16777216) (he : e ≤ 253) (hl : m.log2 ≤ 23) :
    Calls Try.prog 160 #[.float .f64 (dw false m (-149 + (e : Int))), .int .i64 149] w fun r w' => r = .returned (.float .f64 (dwn m e)) ∧ w = w' := by
  have := s_TwosUp false m (-149 + (e : Int)) 149 w hm (by omega) (by decide) (by omega) (by omega)
  rw [show -149 + (e : Int) + ((149 : Nat) : Int) = (e : Int) by omega] at this
  exact this
set_option maxHeartbeats 2000000 in
theorem s_Parts (x : Nat) (w : World) (hx : W x) (hf : fin x) :
    Calls Try.prog 171 #[.float .f32 x] w fun e w' => e = .returned (.tuple #[.int .i64 (pm x), .int .i64 (-149 + (pe x : Nat))]) ∧ w = w' := by
  have HX : Hd (W x) := ⟨hx⟩
  have HN : Hd (¬ nan x) := ⟨by unfold nan; unfold fin at hf; omega⟩
  by_cases h0 : x % 2147483648 = 0
  · have e1 : pm x = 0 := by unfold pm; rw [h0]; rfl
    have e2 : pe x = 0 := by unfold pe; rw [h0]; rfl
    rw [e1, e2]
    have k1 := fun w => run_convert_float_float (P := Try.prog) w 28 62 .f32 .f64 0 0 (by kernel_rfl) Try.underlying62 (by kernel_rfl)
    have k2 := fun w => run_convert_float_int (P := Try.prog) w 62 2 .f64 .i64 0 0 (by kernel_rfl) Try.underlying2 (by kernel_rfl)
    have k3 : (FloatKind.f64.format.order 0 4715268809856909312 == some .gt || FloatKind.f64.format.order 0 4715268809856909312 == some .eq) = false := by decide
    clear hx hf e1 e2
    go_enter Try.func171, Try.ntmps171
    go_wp2_with (first | (go_at_call 212; refine (s_Abs1 _ _ HX.out HN.out).mono ?_; rintro e w' ⟨rfl, rfl⟩; rw [h0]) | (go_at_call 160; (with_reducible refine (s_Twos0_149 _).mono ?_); rintro e w' ⟨rfl, rfl⟩))
    refine wp_loop_rounds 1 ?_
    rw [rounds_succ]
    go_wp2_with fail
    go_ret2
    exact ⟨rfl, rfl⟩
  · have hm : pm x ≠ 0 := fun k => h0 ((mg_zero _).1 k)
    have hlt := pm_lt x
    have he := pe_le hf
    have hl : (pm x).log2 ≤ 23 := by have := (Nat.log2_lt hm (k := 24)).2 (by simpa using hlt); omega
    have k1 := fun w => run_convert_float_float (P := Try.prog) w 28 62 .f32 .f64 (x % 2147483648) (dw false (pm x) (-149 + (pe x : Nat))) (by kernel_rfl) Try.underlying62 (wide_abs h0 hf)
    have k2 := fun w => run_convert_float_int (P := Try.prog) w 62 2 .f64 .i64 (dwn (pm x) 0) (pm x) (by kernel_rfl) Try.underlying2
      (d_toInt (drung_le hm (by omega) (by omega)) (by omega) (V_drung hm (by omega) (by omega)))
    have HT : Hd (pm x ≠ 0 ∧ pm x < 16777216 ∧ pe x ≤ 253 ∧ (pm x).log2 ≤ 23) := ⟨⟨hm, hlt, he, hl⟩⟩
    have HB : Hd (0 < pe x → 8388608 ≤ pm x) := ⟨pm_big⟩
    clear hx hf h0 hm hlt hl
    go_enter Try.func171, Try.ntmps171
    go_wp2_with (first | (go_at_call 212; refine (s_Abs1 _ _ HX.out HN.out).mono ?_; rintro e w' ⟨rfl, rfl⟩) | (go_at_call 160; (with_reducible refine (s_TwosUp_149 (pm x) (pe x) _ HT.out.1 HT.out.2.1 HT.out.2.2.1 HT.out.2.2.2).mono ?_); rintro e w' ⟨rfl, rfl⟩))
    go_loop [4, 5] (fun e y => ∃ j : Nat, j ≤ pe x ∧ e = .int .i64 (-149 + (j : Int)) ∧ y = .float .f64 (dwn (pm x) (pe x - j))) (fun e _ => (253 - 149 - intOf e).toNat)
    case atStart => exact ⟨0, Nat.zero_le _, rfl, rfl⟩
    case round =>
      obtain ⟨j, hj, rfl, rfl⟩ := hrel
      have hg := dwn_ge (m := pm x) (e := pe x - j) HT.out.1 HT.out.2.1 HT.out.2.2.2 (by omega)
      by_cases hlt : j < pe x
      · obtain ⟨d, hd⟩ : ∃ d, pe x - j = d + 1 := ⟨pe x - j - 1, by omega⟩
        rw [hd] at hg ⊢
        rw [decide_eq_true (big_ge d (HB.out (by omega)))] at hg
        have k4 := fun w => run_float_arith (P := Try.prog) w .quo 62 .f64 (dwn (pm x) (d + 1)) 4611686018427387904 (dwn (pm x) d) (dwn_half HT.out.1 HT.out.2.1 HT.out.2.2.2 (by omega))
        have HD : Hd (pe x - j = d + 1) := ⟨hd⟩
        clear hd
        go_wp2
        go_round
        case rel => exact ⟨j + 1, by omega, by go_num, by have := HD.out; rw [show pe x - (j + 1) = d by omega]⟩
        case measure => simp [intOf]; omega
      · obtain hje : j = pe x := by omega
        rw [show pe x - j = 0 by omega] at hg ⊢
        rw [decide_eq_false (by have := HT.out; omega)] at hg
        have HJ : Hd (j = pe x) := ⟨hje⟩
        clear hje hlt hj
        go_wp2
        go_ret2
        exact ⟨by rw [← HJ.out]; rfl, rfl⟩

/-! floats at places -/
/-- the word at a place -/
def atP (n : Int) : Nat := if n < 0 then 2147483648 + n.natAbs else n.natAbs
theorem s_TwosDn (m n : Nat) (w : World) (hm : m ≠ 0) (h : m < 16777216) (hn : n ≤ 149) (hl : m.log2 ≤ 23) :
    Calls Try.prog 160 #[.float .f64 (dw false m 0), .int .i64 (-(n : Int))] w fun r w' => r = .returned (.float .f64 (dw false m (-(n : Int)))) ∧ w = w' := by
  have := s_TwosDown false m 0 n w hm (by omega) (by omega) (by omega) (by omega)
  rw [show (0 : Int) - n = -(n : Int) by omega] at this
  exact this
theorem s_TwosU (m n : Nat) (w : World) (hm : m ≠ 0) (h : m < 16777216) (hn : n ≤ 149) (hl : m.log2 ≤ 23) :
    Calls Try.prog 160 #[.float .f64 (dw false m 0), .int .i64 (n : Int)] w fun r w' => r = .returned (.float .f64 (dw false m (n : Int))) ∧ w = w' := by
  have := s_TwosUp false m 0 n w hm (by omega) (by omega) (by omega) (by omega)
  rw [show (0 : Int) + n = (n : Int) by omega] at this
  exact this
/-- 2^k of a number in the wide format, whatever k between -149 and 104 -/
theorem s_TwosI (m : Nat) (k : Int) (w : World) (hm : m ≠ 0) (h : m < 16777216) (h0 : -149 ≤ k) (h1 : k ≤ 149) (hl : m.log2 ≤ 23) :
    Calls Try.prog 160 #[.float .f64 (dw false m 0), .int .i64 k] w fun r w' => r = .returned (.float .f64 (dw false m k)) ∧ w = w' := by
  by_cases hk : 0 ≤ k
  · obtain ⟨n, rfl⟩ := Int.eq_ofNat_of_zero_le hk
    exact s_TwosU m n w hm h (by omega) hl
  · obtain ⟨n, hn⟩ := Int.eq_ofNat_of_zero_le (show 0 ≤ -k by omega)
    obtain rfl : k = -(n : Int) := by omega
    exact s_TwosDn m n w hm h (by omega) hl
theorem i64_and23 (x : Int) (h0 : 0 ≤ x) (h1 : x < 9223372036854775808) : bits .and .i64 x 8388607 = x % 8388608 :=
  bits_mask .i64 63 (by decide) (fun n a b => by rw [IntKind.wrap_i64]; omega) 23 (by decide) x h0 h1
/-- the single word of a magnitude and an exponent, through the wide format -/
theorem conv_place (n : Nat) (h : n < 2139095040) (h0 : n ≠ 0) : floatToFloatBits .f64 (dw false (mg 8388608 n) (-149 + (ex 8388608 n : Nat))) .f32 = some n := by
  have hm : mg 8388608 n ≠ 0 := fun k => h0 ((mg_zero _).1 k)
  have hlt := mg_lt n
  have he := ex_le h
  have hl : (mg 8388608 n).log2 ≤ 23 := by have := (Nat.log2_lt hm (k := 24)).2 (by simpa using hlt); omega
  have := d_toSingle false (r := drung (mg 8388608 n) (-149 + (ex 8388608 n : Nat))) (r32 := n) (drung_le hm (by omega) (by omega)) h (by
    rw [V_drung hm (by omega) (by omega), V_eq, Nat.mul_assoc, ← Nat.pow_add]
    congr 2; omega)
  exact this
set_option maxHeartbeats 2000000 in
theorem s_AtN (n : Nat) (w : World) (h : n ≤ 2139095040) :
    Calls Try.prog 201 #[.int .i64 (n : Int)] w fun e w' => e = .returned (.float .f32 n) ∧ w = w' := by
  have ka := i64_and23 (n : Int) (by omega) (by omega)
  have hn0 : ¬ (n : Int) < 0 := by omega
  have e1 : ((n : Int) % 8388608) = ((n % 8388608 : Nat) : Int) := by omega
  have e2 : ((n : Int) / 8388608) = ((n / 8388608 : Nat) : Int) := by omega
  have hd : n / 8388608 ≤ 255 := by omega
  have hf : n % 8388608 < 8388608 := by omega
  by_cases c1 : n / 8388608 = 255
  · have hn : n = 2139095040 := by omega
    subst hn
    clear e1 e2 hd hf c1 h ka hn0
    have ka : bits .and .i64 2139095040 8388607 = 0 := by decide
    go_enter Try.func201, Try.ntmps201
    go_wp2_with (go_at_call 139; refine (s_Huge _).mono ?_; rintro e w' ⟨rfl, rfl⟩)
    go_ret
    exact ⟨rfl, rfl⟩
  · have q1 : ((n : Int) / 8388608 == 255) = false := by simp; omega
    have HM : mg 8388608 n < 16777216 := mg_lt n
    by_cases c2 : n / 8388608 = 0
    · have q2 : ((n : Int) / 8388608 == 0) = true := by simp; omega
      have q3 : (n : Int) % 8388608 = (n : Int) := by omega
      by_cases c0 : n = 0
      · subst c0
        clear e1 e2 hd hf c1 c2 h ka hn0 q1 q2 q3 HM
        have ka : bits .and .i64 0 8388607 = 0 := by decide
        have k0 : floatOfInt .f64 0 = 0 := by decide
        have k1 := fun w => run_convert_float_float (P := Try.prog) w 62 28 .f64 .f32 0 0 (by kernel_rfl) Try.underlying28 (by kernel_rfl)
        have k3 : ∀ w, Calls Try.prog 160 #[.float .f64 0, .int .i64 (-149)] w fun e w' => e = .returned (.float .f64 0) ∧ w = w' := fun w => s_Twos0D 149 w (by decide)
        have K3 : Hd (∀ w, Calls Try.prog 160 #[.float .f64 0, .int .i64 (-149)] w fun e w' => e = .returned (.float .f64 0) ∧ w = w') := ⟨k3⟩
        clear k3
        go_enter Try.func201, Try.ntmps201
        go_wp2_with (go_at_call 160; refine (K3.out _).mono ?_; rintro e w' ⟨rfl, rfl⟩)
        go_ret
        exact ⟨rfl, rfl⟩
      · have hl : n.log2 ≤ 23 := by have := (Nat.log2_lt c0 (k := 24)).2 (by omega); omega
        have k0 : floatOfInt .f64 (n : Int) = dw false n 0 := by
          have := d_ofInt (n : Int) (by omega) (by simp; omega)
          rw [this]; simp [dw, hn0]
        have e3 : mg 8388608 n = n := by unfold mg; rw [if_pos (by omega)]
        have e4 : ex 8388608 n = 0 := by unfold ex; rw [if_pos (by omega)]
        have kc := conv_place n (by omega) c0
        rw [e3, e4, show (-149 + ((0 : Nat) : Int)) = -149 by decide] at kc
        have k1 := fun w => run_convert_float_float (P := Try.prog) w 62 28 .f64 .f32 (dw false n (-149)) n (by kernel_rfl) Try.underlying28 kc
        have HT : Hd (n ≠ 0 ∧ n < 16777216 ∧ n.log2 ≤ 23) := ⟨⟨c0, by omega, hl⟩⟩
        clear e1 e2 hd hf c1 c2 HM e3 e4 kc c0 hl
        go_enter Try.func201, Try.ntmps201
        go_wp2_with (go_at_call 160; refine (s_TwosI n (-149) _ HT.out.1 HT.out.2.1 (by decide) (by decide) HT.out.2.2).mono ?_; rintro e w' ⟨rfl, rfl⟩)
        go_ret
        exact ⟨rfl, rfl⟩
    · have q2 : ((n : Int) / 8388608 == 0) = false := by simp; omega
      have hm : mg 8388608 n ≠ 0 := fun k => by have := (mg_zero n).1 k; omega
      have hl : (mg 8388608 n).log2 ≤ 23 := by have := (Nat.log2_lt hm (k := 24)).2 (by simpa using HM); omega
      have e3 : (n : Int) % 8388608 + 8388608 = ((mg 8388608 n : Nat) : Int) := by unfold mg; rw [if_neg (by omega)]; omega
      have e4 : (n : Int) / 8388608 - 150 = -149 + ((ex 8388608 n : Nat) : Int) := by unfold ex; rw [if_neg (by omega)]; omega
      have k0 : floatOfInt .f64 ((n : Int) % 8388608 + 8388608) = dw false (mg 8388608 n) 0 := by
        rw [e3]
        have := d_ofInt ((mg 8388608 n : Nat) : Int) (by omega) (by simp; omega)
        rw [this]
        have : ¬ ((mg 8388608 n : Nat) : Int) < 0 := by omega
        simp [dw, this]
      have kc := conv_place n (by omega) (by omega)
      have he := ex_le (r := n) (by omega)
      have k1 := fun w => run_convert_float_float (P := Try.prog) w 62 28 .f64 .f32 (dw false (mg 8388608 n) (-149 + ((ex 8388608 n : Nat) : Int))) n (by kernel_rfl) Try.underlying28 kc
      rw [← e4] at k1
      have HT : Hd (mg 8388608 n ≠ 0 ∧ mg 8388608 n < 16777216 ∧ (mg 8388608 n).log2 ≤ 23) := ⟨⟨hm, HM, hl⟩⟩
      have HK : Hd (-149 ≤ (n : Int) / 8388608 - 150 ∧ (n : Int) / 8388608 - 150 ≤ 149) := ⟨by omega⟩
      clear e1 e2 c1 c2 HM e3 e4 kc hl hm he
      generalize mg 8388608 n = m at *
      go_enter Try.func201, Try.ntmps201
      go_wp2_with (go_at_call 160; refine (s_TwosI m _ _ HT.out.1 HT.out.2.1 HK.out.1 HK.out.2 HT.out.2.2).mono ?_; rintro e w' ⟨rfl, rfl⟩)
      go_ret
      exact ⟨rfl, rfl⟩
end Go.Proofs.Ytmiafbbndonpaaa
