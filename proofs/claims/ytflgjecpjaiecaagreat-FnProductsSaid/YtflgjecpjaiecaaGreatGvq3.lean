/- Gv: S37 S38, merged. -/
import Derived.Test.YtflgjecpjaiecaaGreatGuq3
import Derived.Deep.QuietTactic
import Derived.BigQuiet
/- Contracts: products of pairs, both sides. -/
set_option linter.unusedVariables false
set_option linter.unusedSimpArgs false
namespace Go.Proofs.YtflgjecpjaiecaaGreat
open Go.RowKit Num Flt
end Go.Proofs.YtflgjecpjaiecaaGreat
/- Contracts: products of pairs, both sides, the rest and the exported functions. -/
set_option linter.unusedVariables false
set_option linter.unusedSimpArgs false
namespace Go.Proofs.YtflgjecpjaiecaaGreat
open Go.RowKit Num Flt
end Go.Proofs.YtflgjecpjaiecaaGreat
