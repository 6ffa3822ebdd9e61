/- Gu: S35 S36, merged. -/
import Derived.Test.YtflgjecpjaiecaaGreatGtq3
/- Contracts: sums of pairs, both sides, the rest. -/
set_option linter.unusedVariables false
set_option linter.unusedSimpArgs false
namespace Go.Proofs.YtflgjecpjaiecaaGreat
open Go.RowKit Num Flt
end Go.Proofs.YtflgjecpjaiecaaGreat
/- Contracts: sums of pairs, both sides, the exported functions. -/
set_option linter.unusedVariables false
set_option linter.unusedSimpArgs false
namespace Go.Proofs.YtflgjecpjaiecaaGreat
open Go.RowKit Num Flt
end Go.Proofs.YtflgjecpjaiecaaGreat
