/- Contracts: products of two floats in a mode, whole answers, both sides. -/
import Derived.Test.YtflgjecpjaiecaaGreatE1q4
import Derived.Test.YtflgjecpjaiecaaGreatHfq4
set_option linter.unusedVariables false
set_option linter.unusedSimpArgs false
set_option exponentiation.threshold 40000
namespace Go.Proofs.YtflgjecpjaiecaaGreat
open Go.RowKit Num Flt
end Go.Proofs.YtflgjecpjaiecaaGreat
