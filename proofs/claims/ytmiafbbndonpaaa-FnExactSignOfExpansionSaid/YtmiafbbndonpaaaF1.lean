/- Contracts of the float functions of chapters 1 and 6, the ones without loops. -/
import Derived.Test.YtmiafbbndonpaaaBase
import Derived.Test.YtmiafbbndonpaaaFs
import Derived.Deep.QuietTactic
import Derived.BigQuiet
set_option linter.unusedVariables false
set_option linter.unusedSimpArgs false
namespace Go.Proofs.Ytmiafbbndonpaaa
open Go.RowKit Flt
theorem run_f32bits (x : Nat) (w : World) : (callFunc 174 #[.float .f32 x]).run Try.prog w = .ok (.value (.int .u32 x)) w := by
  rw [run_callFunc_extern (P := Try.prog) (f := 174) (fn := Try.f174) (e := Extern.MathFloatBits.float32bits) (by kernel_rfl) (by kernel_rfl) (by kernel_rfl) (by kernel_rfl) (by kernel_rfl)]
  rfl
theorem run_f32frombits (x : Int) (w : World) : (callFunc 203 #[.int .u32 x]).run Try.prog w = .ok (.value (.float .f32 x.toNat)) w := by
  rw [run_callFunc_extern (P := Try.prog) (f := 203) (fn := Try.f203) (e := Extern.MathFloatBits.float32frombits) (by kernel_rfl) (by kernel_rfl) (by kernel_rfl) (by kernel_rfl) (by kernel_rfl)]
  rfl
theorem run_f64frombits (x : Int) (w : World) : (callFunc 221 #[.int .u64 x]).run Try.prog w = .ok (.value (.float .f64 x.toNat)) w := by
  rw [run_callFunc_extern (P := Try.prog) (f := 221) (fn := Try.f221) (e := Extern.MathFloatBits.float64frombits) (by kernel_rfl) (by kernel_rfl) (by kernel_rfl) (by kernel_rfl) (by kernel_rfl)]
  rfl
theorem i_isNaN (x : Nat) (w : World) :
    Calls Try.prog 144 #[.float .f32 x] w fun e w' => e = .returned (.bool (decide (nan x))) ∧ w = w' := by
  have h : (FloatKind.f32.format.order x x != some .eq) = decide (nan x) := by rw [o_ne]; by_cases h : nan x <;> simp [h]
  go_enter Try.func144, Try.ntmps144
  go_wp2
  go_ret
  exact ⟨rfl, rfl⟩
theorem s_NaN (x : Nat) (w : World) :
    Calls Try.prog 192 #[.float .f32 x] w fun e w' => e = .returned (.bool (decide (nan x))) ∧ w = w' := by
  have h : (FloatKind.f32.format.order x x != some .eq) = decide (nan x) := by rw [o_ne]; by_cases h : nan x <;> simp [h]
  go_enter Try.func192, Try.ntmps192
  go_wp2
  go_ret
  exact ⟨rfl, rfl⟩
theorem cast_div (x : Nat) : ((x : Int) / 2147483648 != 0) = mB x := by
  unfold mB; rw [Bool.eq_iff_iff]; simp; omega
theorem i_minus (x : Nat) (w : World) :
    Calls Try.prog 110 #[.float .f32 x] w fun e w' => e = .returned (.bool (mB x)) ∧ w = w' := by
  have k := run_f32bits
  have h := cast_div x
  go_enter Try.func110, Try.ntmps110
  go_wp2
  go_ret
  exact ⟨rfl, rfl⟩
theorem i_inf1 (w : World) :
    Calls Try.prog 145 #[.int .i64 1] w fun e w' => e = .returned (.float .f32 2139095040) ∧ w = w' := by
  have k := run_f64frombits
  have k2 := fun w => run_convert_float_float (P := Try.prog) w 62 28 .f64 .f32 9218868437227405312 2139095040 (by kernel_rfl) Try.underlying28 (by kernel_rfl)
  go_enter Try.func145, Try.ntmps145
  go_wp2
  go_ret
  exact ⟨rfl, rfl⟩
theorem i_inf2 (w : World) :
    Calls Try.prog 145 #[.int .i64 (-1)] w fun e w' => e = .returned (.float .f32 4286578688) ∧ w = w' := by
  have k := run_f64frombits
  have k2 := fun w => run_convert_float_float (P := Try.prog) w 62 28 .f64 .f32 18442240474082181120 4286578688 (by kernel_rfl) Try.underlying28 (by kernel_rfl)
  go_enter Try.func145, Try.ntmps145
  go_wp2
  go_ret
  exact ⟨rfl, rfl⟩
theorem s_Huge (w : World) :
    Calls Try.prog 139 #[] w fun e w' => e = .returned (.float .f32 2139095040) ∧ w = w' := by
  have k2 := fun w => run_float_arith (P := Try.prog) w .mul 28 .f32 2137108966 1092616192 2139095040 (by kernel_rfl)
  go_enter Try.func139, Try.ntmps139
  go_wp2
  go_ret
  exact ⟨rfl, rfl⟩
theorem eq0_iff (x : Nat) (hx : W x) : (¬ nan x ∧ ¬ nan 0 ∧ pl x = pl 0) ↔ (x = 0 ∨ x = 2147483648) := by
  have h0 : pl 0 = 0 := by decide
  have hn : ¬ nan 0 := by decide
  rw [h0, pl_zero x hx]
  constructor
  · exact fun h => h.2.2
  · intro h; refine ⟨?_, hn, h⟩; unfold nan; rcases h with rfl | rfl <;> decide
/-- 'x == 0' as the walk has it -/
theorem o_eq0 (x : Nat) (hx : W x) : (FloatKind.f32.format.order x 0 == some .eq) = decide (x = 0 ∨ x = 2147483648) := by
  rw [o_eq]; exact decide_eq_decide.2 (eq0_iff x hx)
theorem i_plain (x : Nat) (w : World) (hx : W x) :
    Calls Try.prog 155 #[.float .f32 x] w fun e w' => e = .returned (.float .f32 (zp x)) ∧ w = w' := by
  have h := o_eq0 x hx
  by_cases hz : x = 0 ∨ x = 2147483648
  · have h' : (FloatKind.f32.format.order x 0 == some .eq) = true := by rw [h]; simpa using hz
    clear h
    have e : zp x = 0 := by unfold zp; rcases hz with rfl | rfl <;> simp
    rw [e]; clear e hz hx
    go_enter Try.func155, Try.ntmps155
    go_wp2
    go_ret
    exact ⟨rfl, rfl⟩
  · have h' : (FloatKind.f32.format.order x 0 == some .eq) = false := by rw [h]; simpa using hz
    clear h
    have e : zp x = x := by unfold zp; rw [if_neg (by omega)]
    rw [e]; clear e hz hx
    go_enter Try.func155, Try.ntmps155
    go_wp2
    go_ret
    exact ⟨rfl, rfl⟩
theorem s_Zero (x : Nat) (w : World) (hx : W x) :
    Calls Try.prog 153 #[.float .f32 x] w fun e w' => e = .returned (.float .f32 (zp x)) ∧ w = w' := by
  have h := o_eq0 x hx
  by_cases hz : x = 0 ∨ x = 2147483648
  · have h' : (FloatKind.f32.format.order x 0 == some .eq) = true := by rw [h]; simpa using hz
    clear h
    have e : zp x = 0 := by unfold zp; rcases hz with rfl | rfl <;> simp
    rw [e]; clear e hz hx
    go_enter Try.func153, Try.ntmps153
    go_wp2
    go_ret
    exact ⟨rfl, rfl⟩
  · have h' : (FloatKind.f32.format.order x 0 == some .eq) = false := by rw [h]; simpa using hz
    clear h
    have e : zp x = x := by unfold zp; rw [if_neg (by omega)]
    rw [e]; clear e hz hx
    go_enter Try.func153, Try.ntmps153
    go_wp2
    go_ret
    exact ⟨rfl, rfl⟩
/-- the sign bit by comparisons: x < 0 || x == 0 && 1/x < 0, x not NaN -/
theorem s_Minus (x : Nat) (w : World) (hx : W x) (hn : ¬ nan x) :
    Calls Try.prog 193 #[.float .f32 x] w fun e w' => e = .returned (.bool (mB x)) ∧ w = w' := by
  have h := o_eq0 x hx
  have hl : (FloatKind.f32.format.order x 0 == some .lt) = decide (2147483648 < x) := by
    rw [o_lt]; apply decide_eq_decide.2
    have h0 : pl 0 = 0 := by decide
    have hn0 : ¬ nan 0 := by decide
    rw [h0]; unfold W at hx
    constructor
    · rintro ⟨_, _, h⟩; unfold pl at h; split at h <;> omega
    · intro h; refine ⟨hn, hn0, ?_⟩; unfold pl; rw [if_pos (by omega)]; omega
  by_cases h1 : 2147483648 < x
  · rw [show decide (2147483648 < x) = true by simpa using h1] at hl
    rw [show mB x = true by simp [mB]; omega]
    clear h h1 hx hn
    go_enter Try.func193, Try.ntmps193
    go_wp2
    go_ret
    exact ⟨rfl, rfl⟩
  · rw [show decide (2147483648 < x) = false by simpa using h1] at hl
    by_cases h2 : x = 0
    · subst h2
      have k2 := fun w => run_float_arith (P := Try.prog) w .quo 28 .f32 1065353216 0 2139095040 (by kernel_rfl)
      have k3 : (FloatKind.f32.format.order 2139095040 0 == some .lt) = false := by decide
      have k4 : (FloatKind.f32.format.order 0 0 == some .eq) = true := by decide
      clear h
      go_enter Try.func193, Try.ntmps193
      go_wp2
      go_ret
      exact ⟨rfl, rfl⟩
    · by_cases h3 : x = 2147483648
      · subst h3
        have k2 := fun w => run_float_arith (P := Try.prog) w .quo 28 .f32 1065353216 2147483648 4286578688 (by kernel_rfl)
        have k3 : (FloatKind.f32.format.order 4286578688 0 == some .lt) = true := by decide
        have k4 : (FloatKind.f32.format.order 2147483648 0 == some .eq) = true := by decide
        clear h
        go_enter Try.func193, Try.ntmps193
        go_wp2
        go_ret
        exact ⟨rfl, rfl⟩
      · have h' : (FloatKind.f32.format.order x 0 == some .eq) = false := by rw [h]; simp; omega
        rw [show mB x = false by simp [mB]; omega]
        clear h h1 h2 h3 hx hn
        go_enter Try.func193, Try.ntmps193
        go_wp2
        go_ret
        exact ⟨rfl, rfl⟩
theorem s_Plain (x : Nat) (w : World) (hx : W x) :
    Calls Try.prog 138 #[.float .f32 x] w fun e w' => e = .returned (.bool (decide (PlainP x))) ∧ w = w' := by
  have hne : (FloatKind.f32.format.order x 0 != some .eq) = !decide (x = 0 ∨ x = 2147483648) := by rw [bne, o_eq0 x hx]
  by_cases hn : nan x
  · have e : decide (PlainP x) = false := by simp [PlainP, hn]
    have e1 : decide (nan x) = true := by simp [hn]
    rw [e]; clear e hne
    go_enter Try.func138, Try.ntmps138
    go_wp2_with (go_at_call 192; refine (s_NaN _ _).mono ?_; rintro e w' ⟨rfl, rfl⟩)
    go_ret
    exact ⟨rfl, rfl⟩
  · have e1 : decide (nan x) = false := by simp [hn]
    have HN : Hd (¬ nan x) := ⟨hn⟩
    have HX : Hd (W x) := ⟨hx⟩
    by_cases hz : x = 0 ∨ x = 2147483648
    · have e2 : (FloatKind.f32.format.order x 0 != some .eq) = false := by rw [hne, decide_eq_true hz]; rfl
      have e3 : decide (PlainP x) = !mB x := by
        rcases hz with rfl | rfl <;> decide
      rw [e3]; clear e3 hne hz hn hx
      go_enter Try.func138, Try.ntmps138
      go_wp2_with (first | (go_at_call 192; refine (s_NaN _ _).mono ?_; rintro e w' ⟨rfl, rfl⟩) | (go_at_call 193; refine (s_Minus _ _ HX.out HN.out).mono ?_; rintro e w' ⟨rfl, rfl⟩))
      go_ret
      exact ⟨rfl, rfl⟩
    · have e2 : (FloatKind.f32.format.order x 0 != some .eq) = true := by rw [hne, decide_eq_false hz]; rfl
      have e3 : decide (PlainP x) = true := by simp [PlainP, hn]; omega
      rw [e3]; clear e3 hne hz hn hx
      go_enter Try.func138, Try.ntmps138
      go_wp2_with (first | (go_at_call 192; refine (s_NaN _ _).mono ?_; rintro e w' ⟨rfl, rfl⟩) | (go_at_call 193; refine (s_Minus _ _ HX.out HN.out).mono ?_; rintro e w' ⟨rfl, rfl⟩))
      go_ret
      exact ⟨rfl, rfl⟩
end Go.Proofs.Ytmiafbbndonpaaa
