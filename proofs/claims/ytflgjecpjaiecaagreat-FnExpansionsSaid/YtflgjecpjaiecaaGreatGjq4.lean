/- Gj: S23, merged. -/
import Derived.Test.YtflgjecpjaiecaaGreatGiq4
/- Contracts: the middle of an interval, both sides. -/
set_option linter.unusedVariables false
set_option linter.unusedSimpArgs false
namespace Go.Proofs.YtflgjecpjaiecaaGreat
open Go.RowKit Num Flt
theorem DyP.zero {w : World} {s : Int} {A : Option Addr} {n c l : Nat} {e V : Int} (h : DyP w s A n c e V l) (hs : s = 0) : V = 0 := by
  have := dy_sign h; rw [hs] at this
  exact Int.sign_eq_zero_iff_zero.1 this.symm
/-! infinite ends -/
/-! the answers of MiddleOf -/
end Go.Proofs.YtflgjecpjaiecaaGreat
