/-
  No cell of these rows narrows 'for every input' (looked for: loops, veiled, ifaces, maps, wideKeys, modest, calm, conditions, laid).
  DERIVED. THE GIVEN ROWS OF THIS SEAT. 8 by the template 'for every input the law returns true; each argument reads behind the call as it read before'; 0 by the template 'total and deterministic' (their statements: YtflgjecpjaiecaaGreatTotals.lean).
  GIVEN WITH THE SEED: the statements are not yours to turn. If you find one false, say at which input.
  Laid BY PROGRAM, IN A SANDBOX (cutbox-rows.mjs): the forced cells as the released guide's own fill.sh prints them over the translation 5e54b9d754bad9a8… (all of the seat's roots in one cut). By AI agents, Wed Nov 11 2026. No macro, syntax, notation, axiom, sorry.
-/
import Derived.Test.YtflgjecpjaiecaaGreatChecked
import GoSem.Claim
import GoSem.ClaimJoined
import GoSem.ClaimMapViews
import Derived.JoinedTies
import Derived.KernelRfl
namespace Go.Proofs.YtflgjecpjaiecaaGreat
/- THE CELL 'sum', in the pinned program and in every row, IS THE sha256 OF THE DUMP (.gsa) THAT YtflgjecpjaiecaaGreatProg.lean LOADS. Nothing in Lean hashes anything: it is a label: what it is worth is what the hold of that sum in a sandbox is worth. -/
noncomputable def Tryz.pinned : Pinned := { name := "ytflgjecpjaiecaagreat", sum := "5e54b9d754bad9a85725c77efbe97a4aabcbdb5cc43d216bdc43779517aa7275", checked := Tryz.checked }
namespace Rows
def none {H : Type} : Left H := { results := [], args := [] }

/-- 'laws.FnExactSpreadOf': WHATEVER THE INPUT: true; the input reads as it did. -/
def fnExactSpreadOfSpec : ChangeSpec := { name := "fnExactSpreadOf", fn := fun _ => fun
  | [d1, d2, d3] => { results := [.lit (.bool true)], args := [d1, d2, d3] }
  | _ => none }
def fnExactSpreadOfRow : OpenClaim := { program := "ytflgjecpjaiecaagreat", sum := "5e54b9d754bad9a85725c77efbe97a4aabcbdb5cc43d216bdc43779517aa7275", func := "loop.example/g01172/laws.FnExactSpreadOf", spec := "fnExactSpreadOf", inPlace := ["math.Float32bits", "math.Float32frombits", "math.Float64frombits", "math.Float64bits"], unfollowed := true, recurses := true, apart := false }
def FnExactSpreadOfSaid : Prop := fnExactSpreadOfRow.holds Tryz.pinned (OpenSpec.ofChange fnExactSpreadOfSpec)

/-- ITS FALSE NEIGHBOUR: 'it returns false'. Refute it at one input. -/
def fnExactSpreadOfWrong : ChangeSpec := { name := "fnExactSpreadOf", fn := fun _ => fun
  | [d1, d2, d3] => { results := [.lit (.bool false)], args := [d1, d2, d3] }
  | _ => none }
def FnExactSpreadOfWrongFalsely : Prop := fnExactSpreadOfRow.holds Tryz.pinned (OpenSpec.ofChange fnExactSpreadOfWrong)

/-- 'laws.FnExactDividePairs': WHATEVER THE INPUT: true; the input reads as it did. -/
def fnExactDividePairsSpec : ChangeSpec := { name := "fnExactDividePairs", fn := fun _ => fun
  | [d1, d2] => { results := [.lit (.bool true)], args := [d1, d2] }
  | _ => none }
def fnExactDividePairsRow : OpenClaim := { program := "ytflgjecpjaiecaagreat", sum := "5e54b9d754bad9a85725c77efbe97a4aabcbdb5cc43d216bdc43779517aa7275", func := "loop.example/g01172/laws.FnExactDividePairs", spec := "fnExactDividePairs", inPlace := ["math.Float32bits", "math.Float32frombits", "math.Float64frombits", "math.Float64bits"], unfollowed := true, recurses := true, apart := false }
def FnExactDividePairsSaid : Prop := fnExactDividePairsRow.holds Tryz.pinned (OpenSpec.ofChange fnExactDividePairsSpec)

/-- ITS FALSE NEIGHBOUR: 'it returns false'. Refute it at one input. -/
def fnExactDividePairsWrong : ChangeSpec := { name := "fnExactDividePairs", fn := fun _ => fun
  | [d1, d2] => { results := [.lit (.bool false)], args := [d1, d2] }
  | _ => none }
def FnExactDividePairsWrongFalsely : Prop := fnExactDividePairsRow.holds Tryz.pinned (OpenSpec.ofChange fnExactDividePairsWrong)

/-- 'laws.FnExactDivideIntervals': WHATEVER THE INPUT: true; the input reads as it did. -/
def fnExactDivideIntervalsSpec : ChangeSpec := { name := "fnExactDivideIntervals", fn := fun _ => fun
  | [d1, d2] => { results := [.lit (.bool true)], args := [d1, d2] }
  | _ => none }
def fnExactDivideIntervalsRow : OpenClaim := { program := "ytflgjecpjaiecaagreat", sum := "5e54b9d754bad9a85725c77efbe97a4aabcbdb5cc43d216bdc43779517aa7275", func := "loop.example/g01172/laws.FnExactDivideIntervals", spec := "fnExactDivideIntervals", inPlace := ["math.Float64frombits", "math.Float32bits", "math.Float64bits", "math.Float32frombits"], unfollowed := true, recurses := true, apart := false }
def FnExactDivideIntervalsSaid : Prop := fnExactDivideIntervalsRow.holds Tryz.pinned (OpenSpec.ofChange fnExactDivideIntervalsSpec)

/-- ITS FALSE NEIGHBOUR: 'it returns false'. Refute it at one input. -/
def fnExactDivideIntervalsWrong : ChangeSpec := { name := "fnExactDivideIntervals", fn := fun _ => fun
  | [d1, d2] => { results := [.lit (.bool false)], args := [d1, d2] }
  | _ => none }
def FnExactDivideIntervalsWrongFalsely : Prop := fnExactDivideIntervalsRow.holds Tryz.pinned (OpenSpec.ofChange fnExactDivideIntervalsWrong)

/-- 'laws.FnSums': WHATEVER THE INPUT: true; the input reads as it did. -/
def fnSumsSpec : ChangeSpec := { name := "fnSums", fn := fun _ => fun
  | [d] => { results := [.lit (.bool true)], args := [d] }
  | _ => none }
def fnSumsRow : OpenClaim := { program := "ytflgjecpjaiecaagreat", sum := "5e54b9d754bad9a85725c77efbe97a4aabcbdb5cc43d216bdc43779517aa7275", func := "loop.example/g01172/laws.FnSums", spec := "fnSums", inPlace := ["math.Float32bits", "math.Float32frombits", "math.Float64frombits", "math.Float64bits"], unfollowed := true, recurses := true, apart := false }
def FnSumsSaid : Prop := fnSumsRow.holds Tryz.pinned (OpenSpec.ofChange fnSumsSpec)

/-- ITS FALSE NEIGHBOUR: 'it returns false'. Refute it at one input. -/
def fnSumsWrong : ChangeSpec := { name := "fnSums", fn := fun _ => fun
  | [d] => { results := [.lit (.bool false)], args := [d] }
  | _ => none }
def FnSumsWrongFalsely : Prop := fnSumsRow.holds Tryz.pinned (OpenSpec.ofChange fnSumsWrong)

/-- 'laws.FnProducts': WHATEVER THE INPUT: true; the input reads as it did. -/
def fnProductsSpec : ChangeSpec := { name := "fnProducts", fn := fun _ => fun
  | [d] => { results := [.lit (.bool true)], args := [d] }
  | _ => none }
def fnProductsRow : OpenClaim := { program := "ytflgjecpjaiecaagreat", sum := "5e54b9d754bad9a85725c77efbe97a4aabcbdb5cc43d216bdc43779517aa7275", func := "loop.example/g01172/laws.FnProducts", spec := "fnProducts", inPlace := ["math.Float32bits", "math.Float32frombits", "math.Float64frombits", "math.Float64bits"], unfollowed := true, recurses := true, apart := false }
def FnProductsSaid : Prop := fnProductsRow.holds Tryz.pinned (OpenSpec.ofChange fnProductsSpec)

/-- ITS FALSE NEIGHBOUR: 'it returns false'. Refute it at one input. -/
def fnProductsWrong : ChangeSpec := { name := "fnProducts", fn := fun _ => fun
  | [d] => { results := [.lit (.bool false)], args := [d] }
  | _ => none }
def FnProductsWrongFalsely : Prop := fnProductsRow.holds Tryz.pinned (OpenSpec.ofChange fnProductsWrong)

/-- 'laws.FnPairArithmetic': WHATEVER THE INPUT: true; the input reads as it did. -/
def fnPairArithmeticSpec : ChangeSpec := { name := "fnPairArithmetic", fn := fun _ => fun
  | [d] => { results := [.lit (.bool true)], args := [d] }
  | _ => none }
def fnPairArithmeticRow : OpenClaim := { program := "ytflgjecpjaiecaagreat", sum := "5e54b9d754bad9a85725c77efbe97a4aabcbdb5cc43d216bdc43779517aa7275", func := "loop.example/g01172/laws.FnPairArithmetic", spec := "fnPairArithmetic", inPlace := ["math.Float32bits", "math.Float32frombits", "math.Float64frombits", "math.Float64bits"], unfollowed := true, recurses := true, apart := false }
def FnPairArithmeticSaid : Prop := fnPairArithmeticRow.holds Tryz.pinned (OpenSpec.ofChange fnPairArithmeticSpec)

/-- ITS FALSE NEIGHBOUR: 'it returns false'. Refute it at one input. -/
def fnPairArithmeticWrong : ChangeSpec := { name := "fnPairArithmetic", fn := fun _ => fun
  | [d] => { results := [.lit (.bool false)], args := [d] }
  | _ => none }
def FnPairArithmeticWrongFalsely : Prop := fnPairArithmeticRow.holds Tryz.pinned (OpenSpec.ofChange fnPairArithmeticWrong)

/-- 'laws.FnExactPairs': WHATEVER THE INPUT: true; the input reads as it did. -/
def fnExactPairsSpec : ChangeSpec := { name := "fnExactPairs", fn := fun _ => fun
  | [d] => { results := [.lit (.bool true)], args := [d] }
  | _ => none }
def fnExactPairsRow : OpenClaim := { program := "ytflgjecpjaiecaagreat", sum := "5e54b9d754bad9a85725c77efbe97a4aabcbdb5cc43d216bdc43779517aa7275", func := "loop.example/g01172/laws.FnExactPairs", spec := "fnExactPairs", inPlace := ["math.Float32bits", "math.Float32frombits", "math.Float64frombits", "math.Float64bits"], unfollowed := true, recurses := true, apart := false }
def FnExactPairsSaid : Prop := fnExactPairsRow.holds Tryz.pinned (OpenSpec.ofChange fnExactPairsSpec)

/-- ITS FALSE NEIGHBOUR: 'it returns false'. Refute it at one input. -/
def fnExactPairsWrong : ChangeSpec := { name := "fnExactPairs", fn := fun _ => fun
  | [d] => { results := [.lit (.bool false)], args := [d] }
  | _ => none }
def FnExactPairsWrongFalsely : Prop := fnExactPairsRow.holds Tryz.pinned (OpenSpec.ofChange fnExactPairsWrong)

/-- 'laws.FnExpansions': WHATEVER THE INPUT: true; the input reads as it did. -/
def fnExpansionsSpec : ChangeSpec := { name := "fnExpansions", fn := fun _ => fun
  | [d] => { results := [.lit (.bool true)], args := [d] }
  | _ => none }
def fnExpansionsRow : OpenClaim := { program := "ytflgjecpjaiecaagreat", sum := "5e54b9d754bad9a85725c77efbe97a4aabcbdb5cc43d216bdc43779517aa7275", func := "loop.example/g01172/laws.FnExpansions", spec := "fnExpansions", inPlace := ["math.Float32bits", "math.Float32frombits", "math.Float64frombits", "math.Float64bits"], unfollowed := true, recurses := true, apart := false }
def FnExpansionsSaid : Prop := fnExpansionsRow.holds Tryz.pinned (OpenSpec.ofChange fnExpansionsSpec)

/-- ITS FALSE NEIGHBOUR: 'it returns false'. Refute it at one input. -/
def fnExpansionsWrong : ChangeSpec := { name := "fnExpansions", fn := fun _ => fun
  | [d] => { results := [.lit (.bool false)], args := [d] }
  | _ => none }
def FnExpansionsWrongFalsely : Prop := fnExpansionsRow.holds Tryz.pinned (OpenSpec.ofChange fnExpansionsWrong)

/- THE SECOND FORM. 'bulk': how many values and letters a reading holds, each counted each time it is reached (what is shared counts as often as it is met; a slice's spare places count too). A statement '..UptoSaid' is the law's where the arguments, and the package variables that the reading takes, are together of bulk at most 1048576: NARROWER than '..Said'. Prove '..Said' where nothing that the law and all that it calls make is longer than what came in: it says more and counts as full. Else prove '..UptoSaid'. A law counts once. -/
mutual
def uptoBulk {H : Type} : DataW H → Nat
  | .lit (.string bytes) => bytes.length + 1
  | .lit _ => 1
  | .nil => 1
  | .ptr d => uptoBulk d + 1
  | .slice elems spare => uptoBulkAll elems + uptoBulkAll spare + 1
  | .agg parts => uptoBulkAll parts + 1
  | .iface _ d => uptoBulk d + 1
  | .map entries => uptoBulkEntries entries + 1
  | .held _ => 1
def uptoBulkAll {H : Type} : List (DataW H) → Nat
  | [] => 0
  | d :: r => uptoBulk d + uptoBulkAll r
def uptoBulkEntries {H : Type} : List (Lit × DataW H) → Nat
  | [] => 0
  | x :: r => uptoBulkEntry x + uptoBulkEntries r
def uptoBulkEntry {H : Type} : Lit × DataW H → Nat
  | (.string bytes, d) => bytes.length + uptoBulk d + 1
  | (_, d) => uptoBulk d + 1
 end
def uptoSmall : (H : Type) → List (DataW H) → Bool := fun _ ds => decide (uptoBulkAll ds ≤ 1048576)
def OpenSpec.upto (s : _root_.Go.ChangeSpec) : _root_.Go.OpenSpec := { _root_.Go.OpenSpec.ofChange s with cond := some uptoSmall }

/-- 'laws.FnExactSpreadOf', WHERE WHAT IT READS IS OF BULK AT MOST 1048576: true; the input reads as it did. -/
def fnExactSpreadOfUptoRow : OpenClaim := { program := "ytflgjecpjaiecaagreat", sum := "5e54b9d754bad9a85725c77efbe97a4aabcbdb5cc43d216bdc43779517aa7275", func := "loop.example/g01172/laws.FnExactSpreadOf", spec := "fnExactSpreadOf", inPlace := ["math.Float32bits", "math.Float32frombits", "math.Float64frombits", "math.Float64bits"], unfollowed := true, recurses := true, apart := false, narrowed := true }
def FnExactSpreadOfUptoSaid : Prop := fnExactSpreadOfUptoRow.holds Tryz.pinned (OpenSpec.upto fnExactSpreadOfSpec)

/-- 'laws.FnExactDividePairs', WHERE WHAT IT READS IS OF BULK AT MOST 1048576: true; the input reads as it did. -/
def fnExactDividePairsUptoRow : OpenClaim := { program := "ytflgjecpjaiecaagreat", sum := "5e54b9d754bad9a85725c77efbe97a4aabcbdb5cc43d216bdc43779517aa7275", func := "loop.example/g01172/laws.FnExactDividePairs", spec := "fnExactDividePairs", inPlace := ["math.Float32bits", "math.Float32frombits", "math.Float64frombits", "math.Float64bits"], unfollowed := true, recurses := true, apart := false, narrowed := true }
def FnExactDividePairsUptoSaid : Prop := fnExactDividePairsUptoRow.holds Tryz.pinned (OpenSpec.upto fnExactDividePairsSpec)

/-- 'laws.FnExactDivideIntervals', WHERE WHAT IT READS IS OF BULK AT MOST 1048576: true; the input reads as it did. -/
def fnExactDivideIntervalsUptoRow : OpenClaim := { program := "ytflgjecpjaiecaagreat", sum := "5e54b9d754bad9a85725c77efbe97a4aabcbdb5cc43d216bdc43779517aa7275", func := "loop.example/g01172/laws.FnExactDivideIntervals", spec := "fnExactDivideIntervals", inPlace := ["math.Float64frombits", "math.Float32bits", "math.Float64bits", "math.Float32frombits"], unfollowed := true, recurses := true, apart := false, narrowed := true }
def FnExactDivideIntervalsUptoSaid : Prop := fnExactDivideIntervalsUptoRow.holds Tryz.pinned (OpenSpec.upto fnExactDivideIntervalsSpec)

/-- 'laws.FnSums', WHERE WHAT IT READS IS OF BULK AT MOST 1048576: true; the input reads as it did. -/
def fnSumsUptoRow : OpenClaim := { program := "ytflgjecpjaiecaagreat", sum := "5e54b9d754bad9a85725c77efbe97a4aabcbdb5cc43d216bdc43779517aa7275", func := "loop.example/g01172/laws.FnSums", spec := "fnSums", inPlace := ["math.Float32bits", "math.Float32frombits", "math.Float64frombits", "math.Float64bits"], unfollowed := true, recurses := true, apart := false, narrowed := true }
def FnSumsUptoSaid : Prop := fnSumsUptoRow.holds Tryz.pinned (OpenSpec.upto fnSumsSpec)

/-- 'laws.FnProducts', WHERE WHAT IT READS IS OF BULK AT MOST 1048576: true; the input reads as it did. -/
def fnProductsUptoRow : OpenClaim := { program := "ytflgjecpjaiecaagreat", sum := "5e54b9d754bad9a85725c77efbe97a4aabcbdb5cc43d216bdc43779517aa7275", func := "loop.example/g01172/laws.FnProducts", spec := "fnProducts", inPlace := ["math.Float32bits", "math.Float32frombits", "math.Float64frombits", "math.Float64bits"], unfollowed := true, recurses := true, apart := false, narrowed := true }
def FnProductsUptoSaid : Prop := fnProductsUptoRow.holds Tryz.pinned (OpenSpec.upto fnProductsSpec)

/-- 'laws.FnPairArithmetic', WHERE WHAT IT READS IS OF BULK AT MOST 1048576: true; the input reads as it did. -/
def fnPairArithmeticUptoRow : OpenClaim := { program := "ytflgjecpjaiecaagreat", sum := "5e54b9d754bad9a85725c77efbe97a4aabcbdb5cc43d216bdc43779517aa7275", func := "loop.example/g01172/laws.FnPairArithmetic", spec := "fnPairArithmetic", inPlace := ["math.Float32bits", "math.Float32frombits", "math.Float64frombits", "math.Float64bits"], unfollowed := true, recurses := true, apart := false, narrowed := true }
def FnPairArithmeticUptoSaid : Prop := fnPairArithmeticUptoRow.holds Tryz.pinned (OpenSpec.upto fnPairArithmeticSpec)

/-- 'laws.FnExactPairs', WHERE WHAT IT READS IS OF BULK AT MOST 1048576: true; the input reads as it did. -/
def fnExactPairsUptoRow : OpenClaim := { program := "ytflgjecpjaiecaagreat", sum := "5e54b9d754bad9a85725c77efbe97a4aabcbdb5cc43d216bdc43779517aa7275", func := "loop.example/g01172/laws.FnExactPairs", spec := "fnExactPairs", inPlace := ["math.Float32bits", "math.Float32frombits", "math.Float64frombits", "math.Float64bits"], unfollowed := true, recurses := true, apart := false, narrowed := true }
def FnExactPairsUptoSaid : Prop := fnExactPairsUptoRow.holds Tryz.pinned (OpenSpec.upto fnExactPairsSpec)

/-- 'laws.FnExpansions', WHERE WHAT IT READS IS OF BULK AT MOST 1048576: true; the input reads as it did. -/
def fnExpansionsUptoRow : OpenClaim := { program := "ytflgjecpjaiecaagreat", sum := "5e54b9d754bad9a85725c77efbe97a4aabcbdb5cc43d216bdc43779517aa7275", func := "loop.example/g01172/laws.FnExpansions", spec := "fnExpansions", inPlace := ["math.Float32bits", "math.Float32frombits", "math.Float64frombits", "math.Float64bits"], unfollowed := true, recurses := true, apart := false, narrowed := true }
def FnExpansionsUptoSaid : Prop := fnExpansionsUptoRow.holds Tryz.pinned (OpenSpec.upto fnExpansionsSpec)

end Rows
end Go.Proofs.YtflgjecpjaiecaaGreat
