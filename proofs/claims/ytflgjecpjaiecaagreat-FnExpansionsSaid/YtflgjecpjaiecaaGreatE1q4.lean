/- Contracts: sums and products of two floats in a mode, whole answers, both sides. -/
import Derived.Test.YtflgjecpjaiecaaGreatGpq4
import Derived.Test.YtflgjecpjaiecaaGreatGmq4
set_option linter.unusedVariables false
set_option linter.unusedSimpArgs false
namespace Go.Proofs.YtflgjecpjaiecaaGreat
open Go.RowKit Num Flt
end Go.Proofs.YtflgjecpjaiecaaGreat
