/- Contracts: sums and products of two floats in a mode, whole answers, both sides. -/
import Derived.Test.YtflgjecpjaiecaaGreatGpq2
import Derived.Test.YtflgjecpjaiecaaGreatGmq2
set_option linter.unusedVariables false
set_option linter.unusedSimpArgs false
namespace Go.Proofs.YtflgjecpjaiecaaGreat
open Go.RowKit Num Flt
/-- the sum of two floats in a mode -/
def sm4 (x y : Nat) (mode : Int) : Nat := sum4 (fv x) (fv y) (mB x) (mB y) mode
end Go.Proofs.YtflgjecpjaiecaaGreat
