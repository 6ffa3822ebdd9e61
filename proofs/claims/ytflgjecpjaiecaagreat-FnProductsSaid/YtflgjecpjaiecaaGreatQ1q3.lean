/- Contracts: quotients of pairs, both sides. -/
import Derived.Test.YtflgjecpjaiecaaGreatGvq3
import Derived.Test.YtflgjecpjaiecaaGreatGgq3
set_option linter.unusedVariables false
set_option linter.unusedSimpArgs false
namespace Go.Proofs.YtflgjecpjaiecaaGreat
open Go.RowKit Num Flt
/-- the language's quotient -/
def quW (x y : Nat) : Nat := (floatBits .quo .f32 x y).getD 0
theorem pm_nz {y : Nat} (hy : W y) (hz : ¬ (y = 0 ∨ y = 2147483648)) : pm y ≠ 0 := by
  intro h
  have := (mg_zero (y % 2147483648)).1 h
  unfold W at hy
  omega
theorem quo_some {x y : Nat} (hx : fin x) (hy : fin y) (wy : W y) (hz : ¬ (y = 0 ∨ y = 2147483648)) : floatBits .quo .f32 x y = some (quW x y) ∧ W (quW x y) ∧ ¬ nan (quW x y) := by
  have hn := pm_nz wy hz
  have : ∃ a b c, floatBits .quo .f32 x y = some (Ieee.single.nearest a b c) := by
    show ∃ a b c, Ieee.single.div x y = _
    unfold Ieee.Format.div
    rw [read_v hx, read_v hy]
    unfold Ieee.Datum.quotient
    simp only [if_neg hn]
    exact ⟨_, _, _, rfl⟩
  obtain ⟨a, b, c, h⟩ := this
  unfold quW; rw [h]
  exact ⟨rfl, nearest_W a b c⟩
end Go.Proofs.YtflgjecpjaiecaaGreat
