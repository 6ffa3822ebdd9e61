/- He: D11, merged. -/
import Derived.Test.YtflgjecpjaiecaaGreatHdq4
/- Contracts: the reference's quotient of two dyadic numbers. -/
set_option linter.unusedVariables false
set_option linter.unusedSimpArgs false
set_option exponentiation.threshold 40000
namespace Go.Proofs.YtflgjecpjaiecaaGreat
open Go.RowKit Num Flt
end Go.Proofs.YtflgjecpjaiecaaGreat
