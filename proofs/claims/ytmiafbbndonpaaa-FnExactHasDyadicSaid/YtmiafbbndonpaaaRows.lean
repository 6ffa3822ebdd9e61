/-
  No cell of these rows narrows 'for every input' (looked for: loops, veiled, ifaces, maps, wideKeys, modest, calm, conditions, laid).
  DERIVED. THE GIVEN ROWS OF THIS SEAT. 15 by the template 'for every input the law returns true; each argument reads behind the call as it read before'; 0 by the template 'total and deterministic' (their statements: YtmiafbbndonpaaaTotals.lean).
  GIVEN WITH THE SEED: the statements are not yours to turn. If you find one false, say at which input.
  Laid BY PROGRAM, IN A SANDBOX (cutbox-rows.mjs): the forced cells as the released guide's own fill.sh prints them over the translation 744704a2594115d4… (all of the seat's roots in one cut). By AI agents, Wed Nov 11 2026. No macro, syntax, notation, axiom, sorry.
-/
import Derived.Test.YtmiafbbndonpaaaChecked
import GoSem.Claim
import GoSem.ClaimJoined
import GoSem.ClaimMapViews
import Derived.JoinedTies
import Derived.KernelRfl
namespace Go.Proofs.Ytmiafbbndonpaaa
/- THE CELL 'sum', in the pinned program and in every row, IS THE sha256 OF THE DUMP (.gsa) THAT YtmiafbbndonpaaaProg.lean LOADS. Nothing in Lean hashes anything: it is a label: what it is worth is what the hold of that sum in a sandbox is worth. -/
noncomputable def Try.pinned : Pinned := { name := "ytmiafbbndonpaaa", sum := "744704a2594115d4ae861e53070f1ffa322305f9da43d4739103fe867d347e22", checked := Try.checked }
namespace Rows
def none {H : Type} : Left H := { results := [], args := [] }

/-- 'laws.FnExactSignOfExpansion': WHATEVER THE INPUT: true; the input reads as it did. -/
def fnExactSignOfExpansionSpec : ChangeSpec := { name := "fnExactSignOfExpansion", fn := fun _ => fun
  | [d] => { results := [.lit (.bool true)], args := [d] }
  | _ => none }
def fnExactSignOfExpansionRow : OpenClaim := { program := "ytmiafbbndonpaaa", sum := "744704a2594115d4ae861e53070f1ffa322305f9da43d4739103fe867d347e22", func := "loop.example/g01172/laws.FnExactSignOfExpansion", spec := "fnExactSignOfExpansion", inPlace := ["math.Float32bits"], apart := false }
def FnExactSignOfExpansionSaid : Prop := fnExactSignOfExpansionRow.holds Try.pinned (OpenSpec.ofChange fnExactSignOfExpansionSpec)

/-- ITS FALSE NEIGHBOUR: 'it returns false'. Refute it at one input. -/
def fnExactSignOfExpansionWrong : ChangeSpec := { name := "fnExactSignOfExpansion", fn := fun _ => fun
  | [d] => { results := [.lit (.bool false)], args := [d] }
  | _ => none }
def FnExactSignOfExpansionWrongFalsely : Prop := fnExactSignOfExpansionRow.holds Try.pinned (OpenSpec.ofChange fnExactSignOfExpansionWrong)

/-- 'laws.FnExactValueOfPair': WHATEVER THE INPUT: true; the input reads as it did. -/
def fnExactValueOfPairSpec : ChangeSpec := { name := "fnExactValueOfPair", fn := fun _ => fun
  | [d] => { results := [.lit (.bool true)], args := [d] }
  | _ => none }
def fnExactValueOfPairRow : OpenClaim := { program := "ytmiafbbndonpaaa", sum := "744704a2594115d4ae861e53070f1ffa322305f9da43d4739103fe867d347e22", func := "loop.example/g01172/laws.FnExactValueOfPair", spec := "fnExactValueOfPair", inPlace := ["math.Float32bits"], apart := false }
def FnExactValueOfPairSaid : Prop := fnExactValueOfPairRow.holds Try.pinned (OpenSpec.ofChange fnExactValueOfPairSpec)

/-- ITS FALSE NEIGHBOUR: 'it returns false'. Refute it at one input. -/
def fnExactValueOfPairWrong : ChangeSpec := { name := "fnExactValueOfPair", fn := fun _ => fun
  | [d] => { results := [.lit (.bool false)], args := [d] }
  | _ => none }
def FnExactValueOfPairWrongFalsely : Prop := fnExactValueOfPairRow.holds Try.pinned (OpenSpec.ofChange fnExactValueOfPairWrong)

/-- 'laws.FnExactHasDyadic': WHATEVER THE INPUT: true; the input reads as it did. -/
def fnExactHasDyadicSpec : ChangeSpec := { name := "fnExactHasDyadic", fn := fun _ => fun
  | [d1, d2] => { results := [.lit (.bool true)], args := [d1, d2] }
  | _ => none }
def fnExactHasDyadicRow : OpenClaim := { program := "ytmiafbbndonpaaa", sum := "744704a2594115d4ae861e53070f1ffa322305f9da43d4739103fe867d347e22", func := "loop.example/g01172/laws.FnExactHasDyadic", spec := "fnExactHasDyadic", inPlace := ["math.Float64frombits", "math.Float32bits", "math.Float64bits"], apart := false }
def FnExactHasDyadicSaid : Prop := fnExactHasDyadicRow.holds Try.pinned (OpenSpec.ofChange fnExactHasDyadicSpec)

/-- ITS FALSE NEIGHBOUR: 'it returns false'. Refute it at one input. -/
def fnExactHasDyadicWrong : ChangeSpec := { name := "fnExactHasDyadic", fn := fun _ => fun
  | [d1, d2] => { results := [.lit (.bool false)], args := [d1, d2] }
  | _ => none }
def FnExactHasDyadicWrongFalsely : Prop := fnExactHasDyadicRow.holds Try.pinned (OpenSpec.ofChange fnExactHasDyadicWrong)

/-- 'laws.FnExactValueOfExpansion': WHATEVER THE INPUT: true; the input reads as it did. -/
def fnExactValueOfExpansionSpec : ChangeSpec := { name := "fnExactValueOfExpansion", fn := fun _ => fun
  | [d] => { results := [.lit (.bool true)], args := [d] }
  | _ => none }
def fnExactValueOfExpansionRow : OpenClaim := { program := "ytmiafbbndonpaaa", sum := "744704a2594115d4ae861e53070f1ffa322305f9da43d4739103fe867d347e22", func := "loop.example/g01172/laws.FnExactValueOfExpansion", spec := "fnExactValueOfExpansion", inPlace := ["math.Float32bits"], apart := false }
def FnExactValueOfExpansionSaid : Prop := fnExactValueOfExpansionRow.holds Try.pinned (OpenSpec.ofChange fnExactValueOfExpansionSpec)

/-- ITS FALSE NEIGHBOUR: 'it returns false'. Refute it at one input. -/
def fnExactValueOfExpansionWrong : ChangeSpec := { name := "fnExactValueOfExpansion", fn := fun _ => fun
  | [d] => { results := [.lit (.bool false)], args := [d] }
  | _ => none }
def FnExactValueOfExpansionWrongFalsely : Prop := fnExactValueOfExpansionRow.holds Try.pinned (OpenSpec.ofChange fnExactValueOfExpansionWrong)

/-- 'laws.FnExactErrorOfPair': WHATEVER THE INPUT: true; the input reads as it did. -/
def fnExactErrorOfPairSpec : ChangeSpec := { name := "fnExactErrorOfPair", fn := fun _ => fun
  | [d1, d2] => { results := [.lit (.bool true)], args := [d1, d2] }
  | _ => none }
def fnExactErrorOfPairRow : OpenClaim := { program := "ytmiafbbndonpaaa", sum := "744704a2594115d4ae861e53070f1ffa322305f9da43d4739103fe867d347e22", func := "loop.example/g01172/laws.FnExactErrorOfPair", spec := "fnExactErrorOfPair", inPlace := ["math.Float32bits"], apart := false }
def FnExactErrorOfPairSaid : Prop := fnExactErrorOfPairRow.holds Try.pinned (OpenSpec.ofChange fnExactErrorOfPairSpec)

/-- ITS FALSE NEIGHBOUR: 'it returns false'. Refute it at one input. -/
def fnExactErrorOfPairWrong : ChangeSpec := { name := "fnExactErrorOfPair", fn := fun _ => fun
  | [d1, d2] => { results := [.lit (.bool false)], args := [d1, d2] }
  | _ => none }
def FnExactErrorOfPairWrongFalsely : Prop := fnExactErrorOfPairRow.holds Try.pinned (OpenSpec.ofChange fnExactErrorOfPairWrong)

/-- 'laws.FnExactMiddleOf': WHATEVER THE INPUT: true; the input reads as it did. -/
def fnExactMiddleOfSpec : ChangeSpec := { name := "fnExactMiddleOf", fn := fun _ => fun
  | [d] => { results := [.lit (.bool true)], args := [d] }
  | _ => none }
def fnExactMiddleOfRow : OpenClaim := { program := "ytmiafbbndonpaaa", sum := "744704a2594115d4ae861e53070f1ffa322305f9da43d4739103fe867d347e22", func := "loop.example/g01172/laws.FnExactMiddleOf", spec := "fnExactMiddleOf", inPlace := ["math.Float64frombits", "math.Float32bits", "math.Float64bits", "math.Float32frombits"], unfollowed := true, recurses := true, apart := false }
def FnExactMiddleOfSaid : Prop := fnExactMiddleOfRow.holds Try.pinned (OpenSpec.ofChange fnExactMiddleOfSpec)

/-- ITS FALSE NEIGHBOUR: 'it returns false'. Refute it at one input. -/
def fnExactMiddleOfWrong : ChangeSpec := { name := "fnExactMiddleOf", fn := fun _ => fun
  | [d] => { results := [.lit (.bool false)], args := [d] }
  | _ => none }
def FnExactMiddleOfWrongFalsely : Prop := fnExactMiddleOfRow.holds Try.pinned (OpenSpec.ofChange fnExactMiddleOfWrong)

/-- 'laws.FnExactExactSum': WHATEVER THE INPUT: true; the input reads as it did. -/
def fnExactExactSumSpec : ChangeSpec := { name := "fnExactExactSum", fn := fun _ => fun
  | [d1, d2] => { results := [.lit (.bool true)], args := [d1, d2] }
  | _ => none }
def fnExactExactSumRow : OpenClaim := { program := "ytmiafbbndonpaaa", sum := "744704a2594115d4ae861e53070f1ffa322305f9da43d4739103fe867d347e22", func := "loop.example/g01172/laws.FnExactExactSum", spec := "fnExactExactSum", inPlace := ["math.Float32bits", "math.Float32frombits", "math.Float64frombits", "math.Float64bits"], unfollowed := true, recurses := true, apart := false }
def FnExactExactSumSaid : Prop := fnExactExactSumRow.holds Try.pinned (OpenSpec.ofChange fnExactExactSumSpec)

/-- ITS FALSE NEIGHBOUR: 'it returns false'. Refute it at one input. -/
def fnExactExactSumWrong : ChangeSpec := { name := "fnExactExactSum", fn := fun _ => fun
  | [d1, d2] => { results := [.lit (.bool false)], args := [d1, d2] }
  | _ => none }
def FnExactExactSumWrongFalsely : Prop := fnExactExactSumRow.holds Try.pinned (OpenSpec.ofChange fnExactExactSumWrong)

/-- 'laws.FnExactRoundExpansion': WHATEVER THE INPUT: true; the input reads as it did. -/
def fnExactRoundExpansionSpec : ChangeSpec := { name := "fnExactRoundExpansion", fn := fun _ => fun
  | [d1, d2] => { results := [.lit (.bool true)], args := [d1, d2] }
  | _ => none }
def fnExactRoundExpansionRow : OpenClaim := { program := "ytmiafbbndonpaaa", sum := "744704a2594115d4ae861e53070f1ffa322305f9da43d4739103fe867d347e22", func := "loop.example/g01172/laws.FnExactRoundExpansion", spec := "fnExactRoundExpansion", inPlace := ["math.Float32bits", "math.Float32frombits", "math.Float64frombits", "math.Float64bits"], unfollowed := true, recurses := true, apart := false }
def FnExactRoundExpansionSaid : Prop := fnExactRoundExpansionRow.holds Try.pinned (OpenSpec.ofChange fnExactRoundExpansionSpec)

/-- ITS FALSE NEIGHBOUR: 'it returns false'. Refute it at one input. -/
def fnExactRoundExpansionWrong : ChangeSpec := { name := "fnExactRoundExpansion", fn := fun _ => fun
  | [d1, d2] => { results := [.lit (.bool false)], args := [d1, d2] }
  | _ => none }
def FnExactRoundExpansionWrongFalsely : Prop := fnExactRoundExpansionRow.holds Try.pinned (OpenSpec.ofChange fnExactRoundExpansionWrong)

/-- 'laws.FnExactHalvesOf': WHATEVER THE INPUT: true; the input reads as it did. -/
def fnExactHalvesOfSpec : ChangeSpec := { name := "fnExactHalvesOf", fn := fun _ => fun
  | [d] => { results := [.lit (.bool true)], args := [d] }
  | _ => none }
def fnExactHalvesOfRow : OpenClaim := { program := "ytmiafbbndonpaaa", sum := "744704a2594115d4ae861e53070f1ffa322305f9da43d4739103fe867d347e22", func := "loop.example/g01172/laws.FnExactHalvesOf", spec := "fnExactHalvesOf", inPlace := ["math.Float64frombits", "math.Float32bits", "math.Float64bits", "math.Float32frombits"], unfollowed := true, recurses := true, apart := false }
def FnExactHalvesOfSaid : Prop := fnExactHalvesOfRow.holds Try.pinned (OpenSpec.ofChange fnExactHalvesOfSpec)

/-- ITS FALSE NEIGHBOUR: 'it returns false'. Refute it at one input. -/
def fnExactHalvesOfWrong : ChangeSpec := { name := "fnExactHalvesOf", fn := fun _ => fun
  | [d] => { results := [.lit (.bool false)], args := [d] }
  | _ => none }
def FnExactHalvesOfWrongFalsely : Prop := fnExactHalvesOfRow.holds Try.pinned (OpenSpec.ofChange fnExactHalvesOfWrong)

/-- 'laws.FnExactFusedIn': WHATEVER THE INPUT: true; the input reads as it did. -/
def fnExactFusedInSpec : ChangeSpec := { name := "fnExactFusedIn", fn := fun _ => fun
  | [d1, d2, d3, d4] => { results := [.lit (.bool true)], args := [d1, d2, d3, d4] }
  | _ => none }
def fnExactFusedInRow : OpenClaim := { program := "ytmiafbbndonpaaa", sum := "744704a2594115d4ae861e53070f1ffa322305f9da43d4739103fe867d347e22", func := "loop.example/g01172/laws.FnExactFusedIn", spec := "fnExactFusedIn", inPlace := ["math.Float32bits", "math.Float32frombits", "math.Float64frombits", "math.Float64bits"], unfollowed := true, recurses := true, apart := false }
def FnExactFusedInSaid : Prop := fnExactFusedInRow.holds Try.pinned (OpenSpec.ofChange fnExactFusedInSpec)

/-- ITS FALSE NEIGHBOUR: 'it returns false'. Refute it at one input. -/
def fnExactFusedInWrong : ChangeSpec := { name := "fnExactFusedIn", fn := fun _ => fun
  | [d1, d2, d3, d4] => { results := [.lit (.bool false)], args := [d1, d2, d3, d4] }
  | _ => none }
def FnExactFusedInWrongFalsely : Prop := fnExactFusedInRow.holds Try.pinned (OpenSpec.ofChange fnExactFusedInWrong)

/-- 'laws.FnExactExactProduct': WHATEVER THE INPUT: true; the input reads as it did. -/
def fnExactExactProductSpec : ChangeSpec := { name := "fnExactExactProduct", fn := fun _ => fun
  | [d1, d2] => { results := [.lit (.bool true)], args := [d1, d2] }
  | _ => none }
def fnExactExactProductRow : OpenClaim := { program := "ytmiafbbndonpaaa", sum := "744704a2594115d4ae861e53070f1ffa322305f9da43d4739103fe867d347e22", func := "loop.example/g01172/laws.FnExactExactProduct", spec := "fnExactExactProduct", inPlace := ["math.Float32bits", "math.Float32frombits", "math.Float64frombits", "math.Float64bits"], unfollowed := true, recurses := true, apart := false }
def FnExactExactProductSaid : Prop := fnExactExactProductRow.holds Try.pinned (OpenSpec.ofChange fnExactExactProductSpec)

/-- ITS FALSE NEIGHBOUR: 'it returns false'. Refute it at one input. -/
def fnExactExactProductWrong : ChangeSpec := { name := "fnExactExactProduct", fn := fun _ => fun
  | [d1, d2] => { results := [.lit (.bool false)], args := [d1, d2] }
  | _ => none }
def FnExactExactProductWrongFalsely : Prop := fnExactExactProductRow.holds Try.pinned (OpenSpec.ofChange fnExactExactProductWrong)

/-- 'laws.FnExactCompressExpansion': WHATEVER THE INPUT: true; the input reads as it did. -/
def fnExactCompressExpansionSpec : ChangeSpec := { name := "fnExactCompressExpansion", fn := fun _ => fun
  | [d] => { results := [.lit (.bool true)], args := [d] }
  | _ => none }
def fnExactCompressExpansionRow : OpenClaim := { program := "ytmiafbbndonpaaa", sum := "744704a2594115d4ae861e53070f1ffa322305f9da43d4739103fe867d347e22", func := "loop.example/g01172/laws.FnExactCompressExpansion", spec := "fnExactCompressExpansion", inPlace := ["math.Float32bits", "math.Float32frombits", "math.Float64frombits", "math.Float64bits"], unfollowed := true, recurses := true, apart := false }
def FnExactCompressExpansionSaid : Prop := fnExactCompressExpansionRow.holds Try.pinned (OpenSpec.ofChange fnExactCompressExpansionSpec)

/-- ITS FALSE NEIGHBOUR: 'it returns false'. Refute it at one input. -/
def fnExactCompressExpansionWrong : ChangeSpec := { name := "fnExactCompressExpansion", fn := fun _ => fun
  | [d] => { results := [.lit (.bool false)], args := [d] }
  | _ => none }
def FnExactCompressExpansionWrongFalsely : Prop := fnExactCompressExpansionRow.holds Try.pinned (OpenSpec.ofChange fnExactCompressExpansionWrong)

/-- 'laws.FnExactGrowExpansion': WHATEVER THE INPUT: true; the input reads as it did. -/
def fnExactGrowExpansionSpec : ChangeSpec := { name := "fnExactGrowExpansion", fn := fun _ => fun
  | [d1, d2] => { results := [.lit (.bool true)], args := [d1, d2] }
  | _ => none }
def fnExactGrowExpansionRow : OpenClaim := { program := "ytmiafbbndonpaaa", sum := "744704a2594115d4ae861e53070f1ffa322305f9da43d4739103fe867d347e22", func := "loop.example/g01172/laws.FnExactGrowExpansion", spec := "fnExactGrowExpansion", inPlace := ["math.Float32bits", "math.Float32frombits", "math.Float64frombits", "math.Float64bits"], unfollowed := true, recurses := true, apart := false }
def FnExactGrowExpansionSaid : Prop := fnExactGrowExpansionRow.holds Try.pinned (OpenSpec.ofChange fnExactGrowExpansionSpec)

/-- ITS FALSE NEIGHBOUR: 'it returns false'. Refute it at one input. -/
def fnExactGrowExpansionWrong : ChangeSpec := { name := "fnExactGrowExpansion", fn := fun _ => fun
  | [d1, d2] => { results := [.lit (.bool false)], args := [d1, d2] }
  | _ => none }
def FnExactGrowExpansionWrongFalsely : Prop := fnExactGrowExpansionRow.holds Try.pinned (OpenSpec.ofChange fnExactGrowExpansionWrong)

/-- 'laws.FnExactDivideIn': WHATEVER THE INPUT: true; the input reads as it did. -/
def fnExactDivideInSpec : ChangeSpec := { name := "fnExactDivideIn", fn := fun _ => fun
  | [d1, d2, d3] => { results := [.lit (.bool true)], args := [d1, d2, d3] }
  | _ => none }
def fnExactDivideInRow : OpenClaim := { program := "ytmiafbbndonpaaa", sum := "744704a2594115d4ae861e53070f1ffa322305f9da43d4739103fe867d347e22", func := "loop.example/g01172/laws.FnExactDivideIn", spec := "fnExactDivideIn", inPlace := ["math.Float32bits", "math.Float32frombits", "math.Float64frombits", "math.Float64bits"], unfollowed := true, recurses := true, apart := false }
def FnExactDivideInSaid : Prop := fnExactDivideInRow.holds Try.pinned (OpenSpec.ofChange fnExactDivideInSpec)

/-- ITS FALSE NEIGHBOUR: 'it returns false'. Refute it at one input. -/
def fnExactDivideInWrong : ChangeSpec := { name := "fnExactDivideIn", fn := fun _ => fun
  | [d1, d2, d3] => { results := [.lit (.bool false)], args := [d1, d2, d3] }
  | _ => none }
def FnExactDivideInWrongFalsely : Prop := fnExactDivideInRow.holds Try.pinned (OpenSpec.ofChange fnExactDivideInWrong)

/-- 'laws.FnExactRemainderOf': WHATEVER THE INPUT: true; the input reads as it did. -/
def fnExactRemainderOfSpec : ChangeSpec := { name := "fnExactRemainderOf", fn := fun _ => fun
  | [d1, d2] => { results := [.lit (.bool true)], args := [d1, d2] }
  | _ => none }
def fnExactRemainderOfRow : OpenClaim := { program := "ytmiafbbndonpaaa", sum := "744704a2594115d4ae861e53070f1ffa322305f9da43d4739103fe867d347e22", func := "loop.example/g01172/laws.FnExactRemainderOf", spec := "fnExactRemainderOf", inPlace := ["math.Float32bits", "math.Float32frombits", "math.Float64frombits", "math.Float64bits"], unfollowed := true, recurses := true, apart := false }
def FnExactRemainderOfSaid : Prop := fnExactRemainderOfRow.holds Try.pinned (OpenSpec.ofChange fnExactRemainderOfSpec)

/-- ITS FALSE NEIGHBOUR: 'it returns false'. Refute it at one input. -/
def fnExactRemainderOfWrong : ChangeSpec := { name := "fnExactRemainderOf", fn := fun _ => fun
  | [d1, d2] => { results := [.lit (.bool false)], args := [d1, d2] }
  | _ => none }
def FnExactRemainderOfWrongFalsely : Prop := fnExactRemainderOfRow.holds Try.pinned (OpenSpec.ofChange fnExactRemainderOfWrong)

/- THE SECOND FORM. 'bulk': how many values and letters a reading holds, each counted each time it is reached (what is shared counts as often as it is met; a slice's spare places count too). A statement '..UptoSaid' is the law's where the arguments, and the package variables that the reading takes, are together of bulk at most 1048576: NARROWER than '..Said'. Prove '..Said' where nothing that the law and all that it calls make is longer than what came in: it says more and counts as full. Else prove '..UptoSaid'. A law counts once. -/
mutual
def uptoBulk {H : Type} : DataW H → Nat
  | .lit (.string bytes) => bytes.length + 1
  | .lit _ => 1
  | .nil => 1
  | .ptr d => uptoBulk d + 1
  | .slice elems spare => uptoBulkAll elems + uptoBulkAll spare + 1
  | .agg parts => uptoBulkAll parts + 1
  | .iface _ d => uptoBulk d + 1
  | .map entries => uptoBulkEntries entries + 1
  | .held _ => 1
def uptoBulkAll {H : Type} : List (DataW H) → Nat
  | [] => 0
  | d :: r => uptoBulk d + uptoBulkAll r
def uptoBulkEntries {H : Type} : List (Lit × DataW H) → Nat
  | [] => 0
  | x :: r => uptoBulkEntry x + uptoBulkEntries r
def uptoBulkEntry {H : Type} : Lit × DataW H → Nat
  | (.string bytes, d) => bytes.length + uptoBulk d + 1
  | (_, d) => uptoBulk d + 1
 end
def uptoSmall : (H : Type) → List (DataW H) → Bool := fun _ ds => decide (uptoBulkAll ds ≤ 1048576)
def OpenSpec.upto (s : _root_.Go.ChangeSpec) : _root_.Go.OpenSpec := { _root_.Go.OpenSpec.ofChange s with cond := some uptoSmall }

/-- 'laws.FnExactSignOfExpansion', WHERE WHAT IT READS IS OF BULK AT MOST 1048576: true; the input reads as it did. -/
def fnExactSignOfExpansionUptoRow : OpenClaim := { program := "ytmiafbbndonpaaa", sum := "744704a2594115d4ae861e53070f1ffa322305f9da43d4739103fe867d347e22", func := "loop.example/g01172/laws.FnExactSignOfExpansion", spec := "fnExactSignOfExpansion", inPlace := ["math.Float32bits"], apart := false, narrowed := true }
def FnExactSignOfExpansionUptoSaid : Prop := fnExactSignOfExpansionUptoRow.holds Try.pinned (OpenSpec.upto fnExactSignOfExpansionSpec)

/-- 'laws.FnExactValueOfPair', WHERE WHAT IT READS IS OF BULK AT MOST 1048576: true; the input reads as it did. -/
def fnExactValueOfPairUptoRow : OpenClaim := { program := "ytmiafbbndonpaaa", sum := "744704a2594115d4ae861e53070f1ffa322305f9da43d4739103fe867d347e22", func := "loop.example/g01172/laws.FnExactValueOfPair", spec := "fnExactValueOfPair", inPlace := ["math.Float32bits"], apart := false, narrowed := true }
def FnExactValueOfPairUptoSaid : Prop := fnExactValueOfPairUptoRow.holds Try.pinned (OpenSpec.upto fnExactValueOfPairSpec)

/-- 'laws.FnExactHasDyadic', WHERE WHAT IT READS IS OF BULK AT MOST 1048576: true; the input reads as it did. -/
def fnExactHasDyadicUptoRow : OpenClaim := { program := "ytmiafbbndonpaaa", sum := "744704a2594115d4ae861e53070f1ffa322305f9da43d4739103fe867d347e22", func := "loop.example/g01172/laws.FnExactHasDyadic", spec := "fnExactHasDyadic", inPlace := ["math.Float64frombits", "math.Float32bits", "math.Float64bits"], apart := false, narrowed := true }
def FnExactHasDyadicUptoSaid : Prop := fnExactHasDyadicUptoRow.holds Try.pinned (OpenSpec.upto fnExactHasDyadicSpec)

/-- 'laws.FnExactValueOfExpansion', WHERE WHAT IT READS IS OF BULK AT MOST 1048576: true; the input reads as it did. -/
def fnExactValueOfExpansionUptoRow : OpenClaim := { program := "ytmiafbbndonpaaa", sum := "744704a2594115d4ae861e53070f1ffa322305f9da43d4739103fe867d347e22", func := "loop.example/g01172/laws.FnExactValueOfExpansion", spec := "fnExactValueOfExpansion", inPlace := ["math.Float32bits"], apart := false, narrowed := true }
def FnExactValueOfExpansionUptoSaid : Prop := fnExactValueOfExpansionUptoRow.holds Try.pinned (OpenSpec.upto fnExactValueOfExpansionSpec)

/-- 'laws.FnExactErrorOfPair', WHERE WHAT IT READS IS OF BULK AT MOST 1048576: true; the input reads as it did. -/
def fnExactErrorOfPairUptoRow : OpenClaim := { program := "ytmiafbbndonpaaa", sum := "744704a2594115d4ae861e53070f1ffa322305f9da43d4739103fe867d347e22", func := "loop.example/g01172/laws.FnExactErrorOfPair", spec := "fnExactErrorOfPair", inPlace := ["math.Float32bits"], apart := false, narrowed := true }
def FnExactErrorOfPairUptoSaid : Prop := fnExactErrorOfPairUptoRow.holds Try.pinned (OpenSpec.upto fnExactErrorOfPairSpec)

/-- 'laws.FnExactMiddleOf', WHERE WHAT IT READS IS OF BULK AT MOST 1048576: true; the input reads as it did. -/
def fnExactMiddleOfUptoRow : OpenClaim := { program := "ytmiafbbndonpaaa", sum := "744704a2594115d4ae861e53070f1ffa322305f9da43d4739103fe867d347e22", func := "loop.example/g01172/laws.FnExactMiddleOf", spec := "fnExactMiddleOf", inPlace := ["math.Float64frombits", "math.Float32bits", "math.Float64bits", "math.Float32frombits"], unfollowed := true, recurses := true, apart := false, narrowed := true }
def FnExactMiddleOfUptoSaid : Prop := fnExactMiddleOfUptoRow.holds Try.pinned (OpenSpec.upto fnExactMiddleOfSpec)

/-- 'laws.FnExactExactSum', WHERE WHAT IT READS IS OF BULK AT MOST 1048576: true; the input reads as it did. -/
def fnExactExactSumUptoRow : OpenClaim := { program := "ytmiafbbndonpaaa", sum := "744704a2594115d4ae861e53070f1ffa322305f9da43d4739103fe867d347e22", func := "loop.example/g01172/laws.FnExactExactSum", spec := "fnExactExactSum", inPlace := ["math.Float32bits", "math.Float32frombits", "math.Float64frombits", "math.Float64bits"], unfollowed := true, recurses := true, apart := false, narrowed := true }
def FnExactExactSumUptoSaid : Prop := fnExactExactSumUptoRow.holds Try.pinned (OpenSpec.upto fnExactExactSumSpec)

/-- 'laws.FnExactRoundExpansion', WHERE WHAT IT READS IS OF BULK AT MOST 1048576: true; the input reads as it did. -/
def fnExactRoundExpansionUptoRow : OpenClaim := { program := "ytmiafbbndonpaaa", sum := "744704a2594115d4ae861e53070f1ffa322305f9da43d4739103fe867d347e22", func := "loop.example/g01172/laws.FnExactRoundExpansion", spec := "fnExactRoundExpansion", inPlace := ["math.Float32bits", "math.Float32frombits", "math.Float64frombits", "math.Float64bits"], unfollowed := true, recurses := true, apart := false, narrowed := true }
def FnExactRoundExpansionUptoSaid : Prop := fnExactRoundExpansionUptoRow.holds Try.pinned (OpenSpec.upto fnExactRoundExpansionSpec)

/-- 'laws.FnExactHalvesOf', WHERE WHAT IT READS IS OF BULK AT MOST 1048576: true; the input reads as it did. -/
def fnExactHalvesOfUptoRow : OpenClaim := { program := "ytmiafbbndonpaaa", sum := "744704a2594115d4ae861e53070f1ffa322305f9da43d4739103fe867d347e22", func := "loop.example/g01172/laws.FnExactHalvesOf", spec := "fnExactHalvesOf", inPlace := ["math.Float64frombits", "math.Float32bits", "math.Float64bits", "math.Float32frombits"], unfollowed := true, recurses := true, apart := false, narrowed := true }
def FnExactHalvesOfUptoSaid : Prop := fnExactHalvesOfUptoRow.holds Try.pinned (OpenSpec.upto fnExactHalvesOfSpec)

/-- 'laws.FnExactFusedIn', WHERE WHAT IT READS IS OF BULK AT MOST 1048576: true; the input reads as it did. -/
def fnExactFusedInUptoRow : OpenClaim := { program := "ytmiafbbndonpaaa", sum := "744704a2594115d4ae861e53070f1ffa322305f9da43d4739103fe867d347e22", func := "loop.example/g01172/laws.FnExactFusedIn", spec := "fnExactFusedIn", inPlace := ["math.Float32bits", "math.Float32frombits", "math.Float64frombits", "math.Float64bits"], unfollowed := true, recurses := true, apart := false, narrowed := true }
def FnExactFusedInUptoSaid : Prop := fnExactFusedInUptoRow.holds Try.pinned (OpenSpec.upto fnExactFusedInSpec)

/-- 'laws.FnExactExactProduct', WHERE WHAT IT READS IS OF BULK AT MOST 1048576: true; the input reads as it did. -/
def fnExactExactProductUptoRow : OpenClaim := { program := "ytmiafbbndonpaaa", sum := "744704a2594115d4ae861e53070f1ffa322305f9da43d4739103fe867d347e22", func := "loop.example/g01172/laws.FnExactExactProduct", spec := "fnExactExactProduct", inPlace := ["math.Float32bits", "math.Float32frombits", "math.Float64frombits", "math.Float64bits"], unfollowed := true, recurses := true, apart := false, narrowed := true }
def FnExactExactProductUptoSaid : Prop := fnExactExactProductUptoRow.holds Try.pinned (OpenSpec.upto fnExactExactProductSpec)

/-- 'laws.FnExactCompressExpansion', WHERE WHAT IT READS IS OF BULK AT MOST 1048576: true; the input reads as it did. -/
def fnExactCompressExpansionUptoRow : OpenClaim := { program := "ytmiafbbndonpaaa", sum := "744704a2594115d4ae861e53070f1ffa322305f9da43d4739103fe867d347e22", func := "loop.example/g01172/laws.FnExactCompressExpansion", spec := "fnExactCompressExpansion", inPlace := ["math.Float32bits", "math.Float32frombits", "math.Float64frombits", "math.Float64bits"], unfollowed := true, recurses := true, apart := false, narrowed := true }
def FnExactCompressExpansionUptoSaid : Prop := fnExactCompressExpansionUptoRow.holds Try.pinned (OpenSpec.upto fnExactCompressExpansionSpec)

/-- 'laws.FnExactGrowExpansion', WHERE WHAT IT READS IS OF BULK AT MOST 1048576: true; the input reads as it did. -/
def fnExactGrowExpansionUptoRow : OpenClaim := { program := "ytmiafbbndonpaaa", sum := "744704a2594115d4ae861e53070f1ffa322305f9da43d4739103fe867d347e22", func := "loop.example/g01172/laws.FnExactGrowExpansion", spec := "fnExactGrowExpansion", inPlace := ["math.Float32bits", "math.Float32frombits", "math.Float64frombits", "math.Float64bits"], unfollowed := true, recurses := true, apart := false, narrowed := true }
def FnExactGrowExpansionUptoSaid : Prop := fnExactGrowExpansionUptoRow.holds Try.pinned (OpenSpec.upto fnExactGrowExpansionSpec)

/-- 'laws.FnExactDivideIn', WHERE WHAT IT READS IS OF BULK AT MOST 1048576: true; the input reads as it did. -/
def fnExactDivideInUptoRow : OpenClaim := { program := "ytmiafbbndonpaaa", sum := "744704a2594115d4ae861e53070f1ffa322305f9da43d4739103fe867d347e22", func := "loop.example/g01172/laws.FnExactDivideIn", spec := "fnExactDivideIn", inPlace := ["math.Float32bits", "math.Float32frombits", "math.Float64frombits", "math.Float64bits"], unfollowed := true, recurses := true, apart := false, narrowed := true }
def FnExactDivideInUptoSaid : Prop := fnExactDivideInUptoRow.holds Try.pinned (OpenSpec.upto fnExactDivideInSpec)

/-- 'laws.FnExactRemainderOf', WHERE WHAT IT READS IS OF BULK AT MOST 1048576: true; the input reads as it did. -/
def fnExactRemainderOfUptoRow : OpenClaim := { program := "ytmiafbbndonpaaa", sum := "744704a2594115d4ae861e53070f1ffa322305f9da43d4739103fe867d347e22", func := "loop.example/g01172/laws.FnExactRemainderOf", spec := "fnExactRemainderOf", inPlace := ["math.Float32bits", "math.Float32frombits", "math.Float64frombits", "math.Float64bits"], unfollowed := true, recurses := true, apart := false, narrowed := true }
def FnExactRemainderOfUptoSaid : Prop := fnExactRemainderOfUptoRow.holds Try.pinned (OpenSpec.upto fnExactRemainderOfSpec)

end Rows
end Go.Proofs.Ytmiafbbndonpaaa
