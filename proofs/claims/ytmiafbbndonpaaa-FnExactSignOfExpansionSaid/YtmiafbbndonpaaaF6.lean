/- Contracts: the exported interval functions without rounding, in the reference and in the program. -/
import Derived.Test.YtmiafbbndonpaaaF5
set_option linter.unusedVariables false
set_option linter.unusedSimpArgs false
namespace Go.Proofs.Ytmiafbbndonpaaa
open Go.RowKit Flt

def partW (a b c d : Nat) : Bool := decide (pl c ≤ pl a ∧ pl b ≤ pl d)
def hasW (a b x : Nat) : Bool := decide (pl a ≤ pl x ∧ pl x ≤ pl b)
def bothC (a b c d : Nat) : Int := if IsIv a b ∧ IsIv c d then 0 else 1












































end Go.Proofs.Ytmiafbbndonpaaa
