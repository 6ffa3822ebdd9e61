/- Plain facts on the words of single precision: places, orders, signs, finite words. -/
import Derived.Test.YtmiafbbndonpaaaFlt
import Derived.Laws.Cover2
set_option linter.unusedVariables false
set_option linter.unusedSimpArgs false
namespace Go.Proofs.Ytmiafbbndonpaaa.Flt
open Ieee

def nan (x : Nat) : Prop := 2139095040 < x % 2147483648
instance (x : Nat) : Decidable (nan x) := by unfold nan; infer_instance
/-- The place of a word that is not NaN. -/
def pl (x : Nat) : Int := if x / 2147483648 % 2 = 1 then -((x % 2147483648 : Nat) : Int) else ((x % 2147483648 : Nat) : Int)

theorem pl_eq (x : Nat) : pl x = sv (sgf single x) (x % single.signWeight) := by
  unfold pl sv sgf
  show _ = if (x / 2147483648 % 2 == 1) = true then _ else _
  by_cases h : x / 2147483648 % 2 = 1
  · rw [if_pos h, if_pos (by simpa using h)]; rfl
  · rw [if_neg h, if_neg (by simpa using h)]; rfl

theorem ord {x y : Nat} (hx : ¬ nan x) (hy : ¬ nan y) : single.order x y = some (compare (pl x) (pl y)) := by
  rw [pl_eq, pl_eq]
  exact order_eq single (by decide) (by decide) (by unfold nan at hx; show x % 2147483648 ≤ 2139095040; omega) (by unfold nan at hy; show y % 2147483648 ≤ 2139095040; omega)
theorem ord_nan_left {x : Nat} (y : Nat) (hx : nan x) : single.order x y = none := order_nan_left single y (by decide) hx
theorem ord_nan_right (x : Nat) {y : Nat} (hy : nan y) : single.order x y = none := order_nan_right single x (by decide) hy

/-! the six comparisons -/
def ltB (x y : Nat) : Bool := FloatKind.f32.format.order x y == some .lt
def eqB (x y : Nat) : Bool := FloatKind.f32.format.order x y == some .eq
def gtB (x y : Nat) : Bool := FloatKind.f32.format.order x y == some .gt
theorem some_beq (a b : Ordering) : ((some a : Option Ordering) == some b) = (a == b) := rfl
theorem cmp_lt (a b : Int) : (compare a b == Ordering.lt) = decide (a < b) := by
  rcases Int.lt_trichotomy a b with h | h | h
  · rw [Std.compare_eq_lt.2 h]; simp [h]
  · subst h; simp
  · rw [Std.compare_eq_gt.2 h]; simp; omega
theorem cmp_gt (a b : Int) : (compare a b == Ordering.gt) = decide (b < a) := by
  rcases Int.lt_trichotomy a b with h | h | h
  · rw [Std.compare_eq_lt.2 h]; simp; omega
  · subst h; simp
  · rw [Std.compare_eq_gt.2 h]; simp [h]
theorem cmp_eq (a b : Int) : (compare a b == Ordering.eq) = decide (a = b) := by
  rcases Int.lt_trichotomy a b with h | h | h
  · rw [Std.compare_eq_lt.2 h]; simp; omega
  · subst h; simp
  · rw [Std.compare_eq_gt.2 h]; simp; omega
theorem ltB_eq (x y : Nat) : ltB x y = decide (¬ nan x ∧ ¬ nan y ∧ pl x < pl y) := by
  unfold ltB
  by_cases hx : nan x
  · show (single.order x y == _) = _; rw [ord_nan_left y hx]; simp [hx]
  · by_cases hy : nan y
    · show (single.order x y == _) = _; rw [ord_nan_right x hy]; simp [hy]
    · show (single.order x y == _) = _; rw [ord hx hy, some_beq, cmp_lt]; simp [hx, hy]
theorem gtB_eq (x y : Nat) : gtB x y = decide (¬ nan x ∧ ¬ nan y ∧ pl y < pl x) := by
  unfold gtB
  by_cases hx : nan x
  · show (single.order x y == _) = _; rw [ord_nan_left y hx]; simp [hx]
  · by_cases hy : nan y
    · show (single.order x y == _) = _; rw [ord_nan_right x hy]; simp [hy]
    · show (single.order x y == _) = _; rw [ord hx hy, some_beq, cmp_gt]; simp [hx, hy]
theorem eqB_eq (x y : Nat) : eqB x y = decide (¬ nan x ∧ ¬ nan y ∧ pl x = pl y) := by
  unfold eqB
  by_cases hx : nan x
  · show (single.order x y == _) = _; rw [ord_nan_left y hx]; simp [hx]
  · by_cases hy : nan y
    · show (single.order x y == _) = _; rw [ord_nan_right x hy]; simp [hy]
    · show (single.order x y == _) = _; rw [ord hx hy, some_beq, cmp_eq]; simp [hx, hy]
/-- the walk's spelling, read as places -/
theorem o_lt (x y : Nat) : (FloatKind.f32.format.order x y == some .lt) = decide (¬ nan x ∧ ¬ nan y ∧ pl x < pl y) := ltB_eq x y
theorem o_gt (x y : Nat) : (FloatKind.f32.format.order x y == some .gt) = decide (¬ nan x ∧ ¬ nan y ∧ pl y < pl x) := gtB_eq x y
theorem o_eq (x y : Nat) : (FloatKind.f32.format.order x y == some .eq) = decide (¬ nan x ∧ ¬ nan y ∧ pl x = pl y) := eqB_eq x y
theorem o_ne (x y : Nat) : (FloatKind.f32.format.order x y != some .eq) = decide (nan x ∨ nan y ∨ pl x ≠ pl y) := by
  rw [bne, o_eq]; by_cases h1 : nan x <;> by_cases h2 : nan y <;> simp [h1, h2]
theorem o_le (x y : Nat) : (FloatKind.f32.format.order x y == some .lt || FloatKind.f32.format.order x y == some .eq) = decide (¬ nan x ∧ ¬ nan y ∧ pl x ≤ pl y) := by
  rw [o_lt, o_eq, ← Bool.decide_or]; apply decide_eq_decide.2; constructor
  · rintro (⟨a, b, c⟩ | ⟨a, b, c⟩) <;> exact ⟨a, b, by omega⟩
  · rintro ⟨a, b, c⟩
    by_cases h : pl x = pl y
    · exact .inr ⟨a, b, h⟩
    · exact .inl ⟨a, b, by omega⟩
theorem o_ge (x y : Nat) : (FloatKind.f32.format.order x y == some .gt || FloatKind.f32.format.order x y == some .eq) = decide (¬ nan x ∧ ¬ nan y ∧ pl y ≤ pl x) := by
  rw [o_gt, o_eq, ← Bool.decide_or]; apply decide_eq_decide.2; constructor
  · rintro (⟨a, b, c⟩ | ⟨a, b, c⟩) <;> exact ⟨a, b, by omega⟩
  · rintro ⟨a, b, c⟩
    by_cases h : pl x = pl y
    · exact .inr ⟨a, b, h⟩
    · exact .inl ⟨a, b, by omega⟩

/-- has the sign bit -/
def mB (x : Nat) : Bool := decide (2147483648 ≤ x)
/-- words of the kind -/
def W (x : Nat) : Prop := x < 4294967296
theorem W_of_wf {x : Nat} (h : (Lit.float .f32 x).wf = true) : W x := by simpa [Lit.wf, W] using h

/-- the place zero has two words -/
theorem pl_zero (x : Nat) (h : W x) : pl x = 0 ↔ x = 0 ∨ x = 2147483648 := by
  unfold W at h; unfold pl; split <;> omega
theorem pl_inj {x y : Nat} (hx : W x) (hy : W y) (h0 : x ≠ 2147483648) (h1 : y ≠ 2147483648) (h : pl x = pl y) : x = y := by
  unfold W at hx hy; unfold pl at h; split at h <;> split at h <;> omega
/-- an interval -/
def IsIv (lo hi : Nat) : Prop := ¬ nan lo ∧ ¬ nan hi ∧ pl lo ≤ pl hi ∧ lo ≠ 2147483648 ∧ hi ≠ 2147483648 ∧ pl lo < 2139095040 ∧ -2139095040 < pl hi
instance (lo hi : Nat) : Decidable (IsIv lo hi) := by unfold IsIv; infer_instance
/-- a float that is neither NaN nor -0 -/
def PlainP (x : Nat) : Prop := ¬ nan x ∧ x ≠ 2147483648
instance (x : Nat) : Decidable (PlainP x) := by unfold PlainP; infer_instance
/-- a finite float -/
def fin (x : Nat) : Prop := x % 2147483648 < 2139095040
instance (x : Nat) : Decidable (fin x) := by unfold fin; infer_instance
/-- 0 in the place of -0 -/
def zp (x : Nat) : Nat := if x = 2147483648 then 0 else x
/-- the opposite word -/
def ng (x : Nat) : Nat := if x < 2147483648 then x + 2147483648 else x - 2147483648
theorem negFloat_eq (x : Nat) (h : W x) : Op.negFloat .f32 x = ng x := by
  unfold Op.negFloat ng W at *
  show x ^^^ 2 ^ 31 = _
  have h1 : (x ^^^ 2 ^ 31) % 2 ^ 31 = x % 2 ^ 31 := by rw [Nat.xor_mod_two_pow, Nat.mod_self, Nat.xor_zero]
  have h2 : (x ^^^ 2 ^ 31) / 2 ^ 31 = (x / 2 ^ 31) ^^^ 1 := by rw [Nat.xor_div_two_pow, Nat.div_self (by decide)]
  have h3 : x / 2 ^ 31 = 0 ∨ x / 2 ^ 31 = 1 := by omega
  rcases h3 with h3 | h3 <;> rw [h3] at h2
  · have : (0 ^^^ 1 : Nat) = 1 := rfl
    rw [this] at h2
    generalize x ^^^ 2 ^ 31 = y at *
    split <;> omega
  · have : (1 ^^^ 1 : Nat) = 0 := rfl
    rw [this] at h2
    generalize x ^^^ 2 ^ 31 = y at *
    split <;> omega
end Go.Proofs.Ytmiafbbndonpaaa.Flt
