/- Gs: N5 S33, merged. -/
import Derived.Test.YtflgjecpjaiecaaGreatGnq3
import Derived.Test.YtflgjecpjaiecaaGreatGaq3
/- Plain facts: the language's float sums and differences. -/
set_option linter.unusedVariables false
set_option linter.unusedSimpArgs false
set_option exponentiation.threshold 30000
namespace Go.Proofs.YtflgjecpjaiecaaGreat
open Go.RowKit Num Flt
theorem fv_base {x : Nat} (hx : W x) {b : Int} (h0 : -20000 ≤ b) (h1 : b ≤ -149 + (pe x : Int)) : fv x = Ieee.signed (sgf Ieee.single x) (pm x) (-149 + (pe x : Int) - b).toNat * 2 ^ (b + 20000).toNat := by
  rw [signed_eq]
  unfold fv dv
  rw [mv_sv hx]
  have hsc : (SC : Nat) = 20000 := rfl
  have e : (-149 + (pe x : Int) + SC).toNat = (-149 + (pe x : Int) - b).toNat + (b + 20000).toNat := by omega
  rw [e, sv_mul, Int.pow_add, ← Int.mul_assoc]
  push_cast
  rfl
/-! differences -/
/-! NaN, drawn -/
theorem cut_W (x y t : Nat) : W ((Question.nanBits .f32 x y).cut t) := by
  show (t % 2 * 2147483648 + 2139095040 + 1 + t / 2 % 8388607) < 4294967296
  rcases Nat.mod_two_eq_zero_or_one t with h | h <;> rw [h] <;> omega
end Go.Proofs.YtflgjecpjaiecaaGreat
/- Contracts: quick sums of two floats, both sides. -/
set_option linter.unusedVariables false
set_option linter.unusedSimpArgs false
namespace Go.Proofs.YtflgjecpjaiecaaGreat
open Go.RowKit Num Flt
/-- a float operation in any case: the value may be drawn -/
theorem fop_any (op : BinOp) (hop : op = .add ∨ op = .sub ∨ op = .mul ∨ op = .quo) (T : TypeId) (x y : Nat) : ∃ (r : World → Nat) (n : Nat), (∀ w, (binOp op T (.float .f32 x) (.float .f32 y)).run Tryz.prog w = .ok (.float .f32 (r w)) (w.drewN n)) ∧ (∀ w, W (r w)) ∧ (∀ s, floatBits op .f32 x y = some s → ∀ w, r w = s) := by
  cases h : floatBits op .f32 x y with
  | none => exact ⟨fun w => (Question.nanBits .f32 x y).cut (w.tape w.drawn (.nanBits .f32 x y)), 1, fun w => run_float_nan w op hop T .f32 x y h, fun w => cut_W _ _ _, fun s hs => by cases hs⟩
  | some s => exact ⟨fun _ => s, 0, fun w => run_float_arith w op T .f32 x y s h, fun w => W_of_wf (floatBits_wf h), fun t ht w => by injection ht⟩
end Go.Proofs.YtflgjecpjaiecaaGreat
