/- Hf: D12 D13, merged. -/
import Derived.Test.YtflgjecpjaiecaaGreatHdq4
import Derived.Test.YtflgjecpjaiecaaGreatHeq4
import Derived.Test.YtflgjecpjaiecaaGreatGmq4
import Derived.Test.YtflgjecpjaiecaaGreatGaq4
/- Contracts: DivideIn, both sides. -/
set_option linter.unusedVariables false
set_option linter.unusedSimpArgs false
set_option exponentiation.threshold 40000
namespace Go.Proofs.YtflgjecpjaiecaaGreat
open Go.RowKit Num Flt
def zr (x : Nat) : Prop := x = 0 ∨ x = 2147483648
instance (x : Nat) : Decidable (zr x) := by unfold zr; infer_instance
end Go.Proofs.YtflgjecpjaiecaaGreat
/- Contracts: the exported DivideIn, both sides. -/
set_option linter.unusedVariables false
set_option linter.unusedSimpArgs false
namespace Go.Proofs.YtflgjecpjaiecaaGreat
open Go.RowKit Num Flt
end Go.Proofs.YtflgjecpjaiecaaGreat
