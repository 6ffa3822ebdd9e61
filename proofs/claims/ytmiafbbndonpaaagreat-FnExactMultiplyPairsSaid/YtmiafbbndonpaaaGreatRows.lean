/-
  No cell of these rows narrows 'for every input' (looked for: loops, veiled, ifaces, maps, wideKeys, modest, calm, conditions, laid).
  DERIVED. THE GIVEN ROWS OF THIS SEAT. 6 by the template 'for every input the law returns true; each argument reads behind the call as it read before'; 0 by the template 'total and deterministic' (their statements: YtmiafbbndonpaaaGreatTotals.lean).
  GIVEN WITH THE SEED: the statements are not yours to turn. If you find one false, say at which input.
  Laid BY PROGRAM, IN A SANDBOX (cutbox-rows.mjs): the forced cells as the released guide's own fill.sh prints them over the translation b304952949e8928a… (all of the seat's roots in one cut). By AI agents, Wed Nov 11 2026. No macro, syntax, notation, axiom, sorry.
-/
import Derived.Test.YtmiafbbndonpaaaGreatChecked
import GoSem.Claim
import GoSem.ClaimJoined
import GoSem.ClaimMapViews
import Derived.JoinedTies
import Derived.KernelRfl
namespace Go.Proofs.YtmiafbbndonpaaaGreat
/- THE CELL 'sum', in the pinned program and in every row, IS THE sha256 OF THE DUMP (.gsa) THAT YtmiafbbndonpaaaGreatProg.lean LOADS. Nothing in Lean hashes anything: it is a label: what it is worth is what the hold of that sum in a sandbox is worth. -/
noncomputable def Tryz.pinned : Pinned := { name := "ytmiafbbndonpaaagreat", sum := "b304952949e8928a814d37ec0540e8cc01b5f8b2880b89c06855d5921df11a68", checked := Tryz.checked }
namespace Rows
def none {H : Type} : Left H := { results := [], args := [] }

/-- 'laws.FnExactWidthOf': WHATEVER THE INPUT: true; the input reads as it did. -/
def fnExactWidthOfSpec : ChangeSpec := { name := "fnExactWidthOf", fn := fun _ => fun
  | [d] => { results := [.lit (.bool true)], args := [d] }
  | _ => none }
def fnExactWidthOfRow : OpenClaim := { program := "ytmiafbbndonpaaagreat", sum := "b304952949e8928a814d37ec0540e8cc01b5f8b2880b89c06855d5921df11a68", func := "loop.example/g01172/laws.FnExactWidthOf", spec := "fnExactWidthOf", inPlace := ["math.Float64frombits", "math.Float32bits", "math.Float64bits", "math.Float32frombits"], unfollowed := true, recurses := true, apart := false }
def FnExactWidthOfSaid : Prop := fnExactWidthOfRow.holds Tryz.pinned (OpenSpec.ofChange fnExactWidthOfSpec)

/-- ITS FALSE NEIGHBOUR: 'it returns false'. Refute it at one input. -/
def fnExactWidthOfWrong : ChangeSpec := { name := "fnExactWidthOf", fn := fun _ => fun
  | [d] => { results := [.lit (.bool false)], args := [d] }
  | _ => none }
def FnExactWidthOfWrongFalsely : Prop := fnExactWidthOfRow.holds Tryz.pinned (OpenSpec.ofChange fnExactWidthOfWrong)

/-- 'laws.FnExactAddIntervals': WHATEVER THE INPUT: true; the input reads as it did. -/
def fnExactAddIntervalsSpec : ChangeSpec := { name := "fnExactAddIntervals", fn := fun _ => fun
  | [d1, d2] => { results := [.lit (.bool true)], args := [d1, d2] }
  | _ => none }
def fnExactAddIntervalsRow : OpenClaim := { program := "ytmiafbbndonpaaagreat", sum := "b304952949e8928a814d37ec0540e8cc01b5f8b2880b89c06855d5921df11a68", func := "loop.example/g01172/laws.FnExactAddIntervals", spec := "fnExactAddIntervals", inPlace := ["math.Float64frombits", "math.Float32bits", "math.Float64bits", "math.Float32frombits"], unfollowed := true, recurses := true, apart := false }
def FnExactAddIntervalsSaid : Prop := fnExactAddIntervalsRow.holds Tryz.pinned (OpenSpec.ofChange fnExactAddIntervalsSpec)

/-- ITS FALSE NEIGHBOUR: 'it returns false'. Refute it at one input. -/
def fnExactAddIntervalsWrong : ChangeSpec := { name := "fnExactAddIntervals", fn := fun _ => fun
  | [d1, d2] => { results := [.lit (.bool false)], args := [d1, d2] }
  | _ => none }
def FnExactAddIntervalsWrongFalsely : Prop := fnExactAddIntervalsRow.holds Tryz.pinned (OpenSpec.ofChange fnExactAddIntervalsWrong)

/-- 'laws.FnExactSubtractIntervals': WHATEVER THE INPUT: true; the input reads as it did. -/
def fnExactSubtractIntervalsSpec : ChangeSpec := { name := "fnExactSubtractIntervals", fn := fun _ => fun
  | [d1, d2] => { results := [.lit (.bool true)], args := [d1, d2] }
  | _ => none }
def fnExactSubtractIntervalsRow : OpenClaim := { program := "ytmiafbbndonpaaagreat", sum := "b304952949e8928a814d37ec0540e8cc01b5f8b2880b89c06855d5921df11a68", func := "loop.example/g01172/laws.FnExactSubtractIntervals", spec := "fnExactSubtractIntervals", inPlace := ["math.Float64frombits", "math.Float32bits", "math.Float64bits", "math.Float32frombits"], unfollowed := true, recurses := true, apart := false }
def FnExactSubtractIntervalsSaid : Prop := fnExactSubtractIntervalsRow.holds Tryz.pinned (OpenSpec.ofChange fnExactSubtractIntervalsSpec)

/-- ITS FALSE NEIGHBOUR: 'it returns false'. Refute it at one input. -/
def fnExactSubtractIntervalsWrong : ChangeSpec := { name := "fnExactSubtractIntervals", fn := fun _ => fun
  | [d1, d2] => { results := [.lit (.bool false)], args := [d1, d2] }
  | _ => none }
def FnExactSubtractIntervalsWrongFalsely : Prop := fnExactSubtractIntervalsRow.holds Tryz.pinned (OpenSpec.ofChange fnExactSubtractIntervalsWrong)

/-- 'laws.FnExactAddPairs': WHATEVER THE INPUT: true; the input reads as it did. -/
def fnExactAddPairsSpec : ChangeSpec := { name := "fnExactAddPairs", fn := fun _ => fun
  | [d1, d2] => { results := [.lit (.bool true)], args := [d1, d2] }
  | _ => none }
def fnExactAddPairsRow : OpenClaim := { program := "ytmiafbbndonpaaagreat", sum := "b304952949e8928a814d37ec0540e8cc01b5f8b2880b89c06855d5921df11a68", func := "loop.example/g01172/laws.FnExactAddPairs", spec := "fnExactAddPairs", inPlace := ["math.Float32bits", "math.Float32frombits", "math.Float64frombits", "math.Float64bits"], unfollowed := true, recurses := true, apart := false }
def FnExactAddPairsSaid : Prop := fnExactAddPairsRow.holds Tryz.pinned (OpenSpec.ofChange fnExactAddPairsSpec)

/-- ITS FALSE NEIGHBOUR: 'it returns false'. Refute it at one input. -/
def fnExactAddPairsWrong : ChangeSpec := { name := "fnExactAddPairs", fn := fun _ => fun
  | [d1, d2] => { results := [.lit (.bool false)], args := [d1, d2] }
  | _ => none }
def FnExactAddPairsWrongFalsely : Prop := fnExactAddPairsRow.holds Tryz.pinned (OpenSpec.ofChange fnExactAddPairsWrong)

/-- 'laws.FnExactMultiplyPairs': WHATEVER THE INPUT: true; the input reads as it did. -/
def fnExactMultiplyPairsSpec : ChangeSpec := { name := "fnExactMultiplyPairs", fn := fun _ => fun
  | [d1, d2] => { results := [.lit (.bool true)], args := [d1, d2] }
  | _ => none }
def fnExactMultiplyPairsRow : OpenClaim := { program := "ytmiafbbndonpaaagreat", sum := "b304952949e8928a814d37ec0540e8cc01b5f8b2880b89c06855d5921df11a68", func := "loop.example/g01172/laws.FnExactMultiplyPairs", spec := "fnExactMultiplyPairs", inPlace := ["math.Float32bits", "math.Float32frombits", "math.Float64frombits", "math.Float64bits"], unfollowed := true, recurses := true, apart := false }
def FnExactMultiplyPairsSaid : Prop := fnExactMultiplyPairsRow.holds Tryz.pinned (OpenSpec.ofChange fnExactMultiplyPairsSpec)

/-- ITS FALSE NEIGHBOUR: 'it returns false'. Refute it at one input. -/
def fnExactMultiplyPairsWrong : ChangeSpec := { name := "fnExactMultiplyPairs", fn := fun _ => fun
  | [d1, d2] => { results := [.lit (.bool false)], args := [d1, d2] }
  | _ => none }
def FnExactMultiplyPairsWrongFalsely : Prop := fnExactMultiplyPairsRow.holds Tryz.pinned (OpenSpec.ofChange fnExactMultiplyPairsWrong)

/-- 'laws.FnExactMultiplyIntervals': WHATEVER THE INPUT: true; the input reads as it did. -/
def fnExactMultiplyIntervalsSpec : ChangeSpec := { name := "fnExactMultiplyIntervals", fn := fun _ => fun
  | [d1, d2] => { results := [.lit (.bool true)], args := [d1, d2] }
  | _ => none }
def fnExactMultiplyIntervalsRow : OpenClaim := { program := "ytmiafbbndonpaaagreat", sum := "b304952949e8928a814d37ec0540e8cc01b5f8b2880b89c06855d5921df11a68", func := "loop.example/g01172/laws.FnExactMultiplyIntervals", spec := "fnExactMultiplyIntervals", inPlace := ["math.Float64frombits", "math.Float32bits", "math.Float64bits", "math.Float32frombits"], unfollowed := true, recurses := true, apart := false }
def FnExactMultiplyIntervalsSaid : Prop := fnExactMultiplyIntervalsRow.holds Tryz.pinned (OpenSpec.ofChange fnExactMultiplyIntervalsSpec)

/-- ITS FALSE NEIGHBOUR: 'it returns false'. Refute it at one input. -/
def fnExactMultiplyIntervalsWrong : ChangeSpec := { name := "fnExactMultiplyIntervals", fn := fun _ => fun
  | [d1, d2] => { results := [.lit (.bool false)], args := [d1, d2] }
  | _ => none }
def FnExactMultiplyIntervalsWrongFalsely : Prop := fnExactMultiplyIntervalsRow.holds Tryz.pinned (OpenSpec.ofChange fnExactMultiplyIntervalsWrong)

/- THE SECOND FORM. 'bulk': how many values and letters a reading holds, each counted each time it is reached (what is shared counts as often as it is met; a slice's spare places count too). A statement '..UptoSaid' is the law's where the arguments, and the package variables that the reading takes, are together of bulk at most 1048576: NARROWER than '..Said'. Prove '..Said' where nothing that the law and all that it calls make is longer than what came in: it says more and counts as full. Else prove '..UptoSaid'. A law counts once. -/
mutual
def uptoBulk {H : Type} : DataW H → Nat
  | .lit (.string bytes) => bytes.length + 1
  | .lit _ => 1
  | .nil => 1
  | .ptr d => uptoBulk d + 1
  | .slice elems spare => uptoBulkAll elems + uptoBulkAll spare + 1
  | .agg parts => uptoBulkAll parts + 1
  | .iface _ d => uptoBulk d + 1
  | .map entries => uptoBulkEntries entries + 1
  | .held _ => 1
def uptoBulkAll {H : Type} : List (DataW H) → Nat
  | [] => 0
  | d :: r => uptoBulk d + uptoBulkAll r
def uptoBulkEntries {H : Type} : List (Lit × DataW H) → Nat
  | [] => 0
  | x :: r => uptoBulkEntry x + uptoBulkEntries r
def uptoBulkEntry {H : Type} : Lit × DataW H → Nat
  | (.string bytes, d) => bytes.length + uptoBulk d + 1
  | (_, d) => uptoBulk d + 1
 end
def uptoSmall : (H : Type) → List (DataW H) → Bool := fun _ ds => decide (uptoBulkAll ds ≤ 1048576)
def OpenSpec.upto (s : _root_.Go.ChangeSpec) : _root_.Go.OpenSpec := { _root_.Go.OpenSpec.ofChange s with cond := some uptoSmall }

/-- 'laws.FnExactWidthOf', WHERE WHAT IT READS IS OF BULK AT MOST 1048576: true; the input reads as it did. -/
def fnExactWidthOfUptoRow : OpenClaim := { program := "ytmiafbbndonpaaagreat", sum := "b304952949e8928a814d37ec0540e8cc01b5f8b2880b89c06855d5921df11a68", func := "loop.example/g01172/laws.FnExactWidthOf", spec := "fnExactWidthOf", inPlace := ["math.Float64frombits", "math.Float32bits", "math.Float64bits", "math.Float32frombits"], unfollowed := true, recurses := true, apart := false, narrowed := true }
def FnExactWidthOfUptoSaid : Prop := fnExactWidthOfUptoRow.holds Tryz.pinned (OpenSpec.upto fnExactWidthOfSpec)

/-- 'laws.FnExactAddIntervals', WHERE WHAT IT READS IS OF BULK AT MOST 1048576: true; the input reads as it did. -/
def fnExactAddIntervalsUptoRow : OpenClaim := { program := "ytmiafbbndonpaaagreat", sum := "b304952949e8928a814d37ec0540e8cc01b5f8b2880b89c06855d5921df11a68", func := "loop.example/g01172/laws.FnExactAddIntervals", spec := "fnExactAddIntervals", inPlace := ["math.Float64frombits", "math.Float32bits", "math.Float64bits", "math.Float32frombits"], unfollowed := true, recurses := true, apart := false, narrowed := true }
def FnExactAddIntervalsUptoSaid : Prop := fnExactAddIntervalsUptoRow.holds Tryz.pinned (OpenSpec.upto fnExactAddIntervalsSpec)

/-- 'laws.FnExactSubtractIntervals', WHERE WHAT IT READS IS OF BULK AT MOST 1048576: true; the input reads as it did. -/
def fnExactSubtractIntervalsUptoRow : OpenClaim := { program := "ytmiafbbndonpaaagreat", sum := "b304952949e8928a814d37ec0540e8cc01b5f8b2880b89c06855d5921df11a68", func := "loop.example/g01172/laws.FnExactSubtractIntervals", spec := "fnExactSubtractIntervals", inPlace := ["math.Float64frombits", "math.Float32bits", "math.Float64bits", "math.Float32frombits"], unfollowed := true, recurses := true, apart := false, narrowed := true }
def FnExactSubtractIntervalsUptoSaid : Prop := fnExactSubtractIntervalsUptoRow.holds Tryz.pinned (OpenSpec.upto fnExactSubtractIntervalsSpec)

/-- 'laws.FnExactAddPairs', WHERE WHAT IT READS IS OF BULK AT MOST 1048576: true; the input reads as it did. -/
def fnExactAddPairsUptoRow : OpenClaim := { program := "ytmiafbbndonpaaagreat", sum := "b304952949e8928a814d37ec0540e8cc01b5f8b2880b89c06855d5921df11a68", func := "loop.example/g01172/laws.FnExactAddPairs", spec := "fnExactAddPairs", inPlace := ["math.Float32bits", "math.Float32frombits", "math.Float64frombits", "math.Float64bits"], unfollowed := true, recurses := true, apart := false, narrowed := true }
def FnExactAddPairsUptoSaid : Prop := fnExactAddPairsUptoRow.holds Tryz.pinned (OpenSpec.upto fnExactAddPairsSpec)

/-- 'laws.FnExactMultiplyPairs', WHERE WHAT IT READS IS OF BULK AT MOST 1048576: true; the input reads as it did. -/
def fnExactMultiplyPairsUptoRow : OpenClaim := { program := "ytmiafbbndonpaaagreat", sum := "b304952949e8928a814d37ec0540e8cc01b5f8b2880b89c06855d5921df11a68", func := "loop.example/g01172/laws.FnExactMultiplyPairs", spec := "fnExactMultiplyPairs", inPlace := ["math.Float32bits", "math.Float32frombits", "math.Float64frombits", "math.Float64bits"], unfollowed := true, recurses := true, apart := false, narrowed := true }
def FnExactMultiplyPairsUptoSaid : Prop := fnExactMultiplyPairsUptoRow.holds Tryz.pinned (OpenSpec.upto fnExactMultiplyPairsSpec)

/-- 'laws.FnExactMultiplyIntervals', WHERE WHAT IT READS IS OF BULK AT MOST 1048576: true; the input reads as it did. -/
def fnExactMultiplyIntervalsUptoRow : OpenClaim := { program := "ytmiafbbndonpaaagreat", sum := "b304952949e8928a814d37ec0540e8cc01b5f8b2880b89c06855d5921df11a68", func := "loop.example/g01172/laws.FnExactMultiplyIntervals", spec := "fnExactMultiplyIntervals", inPlace := ["math.Float64frombits", "math.Float32bits", "math.Float64bits", "math.Float32frombits"], unfollowed := true, recurses := true, apart := false, narrowed := true }
def FnExactMultiplyIntervalsUptoSaid : Prop := fnExactMultiplyIntervalsUptoRow.holds Tryz.pinned (OpenSpec.upto fnExactMultiplyIntervalsSpec)

end Rows
end Go.Proofs.YtmiafbbndonpaaaGreat
