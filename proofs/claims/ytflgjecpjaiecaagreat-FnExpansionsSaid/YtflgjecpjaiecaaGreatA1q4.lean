/- Contracts: the exported sums, differences and products in a mode, both sides (printed by gen_a1.py). -/
import Derived.Test.YtflgjecpjaiecaaGreatE2q4
import Derived.Test.YtflgjecpjaiecaaGreatHfq4
set_option linter.unusedVariables false
set_option linter.unusedSimpArgs false
namespace Go.Proofs.YtflgjecpjaiecaaGreat
open Go.RowKit Num Flt
end Go.Proofs.YtflgjecpjaiecaaGreat
