/-
  No cell of these rows narrows 'for every input' (looked for: loops, veiled, ifaces, maps, wideKeys, modest, calm, conditions, laid).
  DERIVED. THE GIVEN ROWS OF THIS SEAT. 5 by the template 'for every input the law returns true; each argument reads behind the call as it read before'; 0 by the template 'total and deterministic' (their statements: YtlaaielopcphiaaGreatTotals.lean).
  GIVEN WITH THE SEED: the statements are not yours to turn. If you find one false, say at which input.
  Laid BY PROGRAM, IN A SANDBOX (cutbox-rows.mjs): the forced cells as the released guide's own fill.sh prints them over the translation 3460574d16ccb788… (all of the seat's roots in one cut). By AI agents, Wed Nov 11 2026. No macro, syntax, notation, axiom, sorry.
-/
import Derived.Test.YtlaaielopcphiaaGreatChecked
import GoSem.Claim
import GoSem.ClaimJoined
import GoSem.ClaimMapViews
import Derived.JoinedTies
import Derived.KernelRfl
namespace Go.Proofs.YtlaaielopcphiaaGreat
/- THE CELL 'sum', in the pinned program and in every row, IS THE sha256 OF THE DUMP (.gsa) THAT YtlaaielopcphiaaGreatProg.lean LOADS. Nothing in Lean hashes anything: it is a label: what it is worth is what the hold of that sum in a sandbox is worth. -/
noncomputable def Tryz.pinned : Pinned := { name := "ytlaaielopcphiaagreat", sum := "3460574d16ccb788d1620e6767aaf97fe07b9fe260c49273b58f6d0735d918e2", checked := Tryz.checked }
namespace Rows
def none {H : Type} : Left H := { results := [], args := [] }

/-- 'laws.FnExactPairOfDyadic': WHATEVER THE INPUT: true; the input reads as it did. -/
def fnExactPairOfDyadicSpec : ChangeSpec := { name := "fnExactPairOfDyadic", fn := fun _ => fun
  | [d] => { results := [.lit (.bool true)], args := [d] }
  | _ => none }
def fnExactPairOfDyadicRow : OpenClaim := { program := "ytlaaielopcphiaagreat", sum := "3460574d16ccb788d1620e6767aaf97fe07b9fe260c49273b58f6d0735d918e2", func := "loop.example/g01172/laws.FnExactPairOfDyadic", spec := "fnExactPairOfDyadic", inPlace := ["math.Float32frombits", "math.Float64frombits", "math.Float64bits", "math.Float32bits"], unfollowed := true, recurses := true, apart := false }
def FnExactPairOfDyadicSaid : Prop := fnExactPairOfDyadicRow.holds Tryz.pinned (OpenSpec.ofChange fnExactPairOfDyadicSpec)

/-- ITS FALSE NEIGHBOUR: 'it returns false'. Refute it at one input. -/
def fnExactPairOfDyadicWrong : ChangeSpec := { name := "fnExactPairOfDyadic", fn := fun _ => fun
  | [d] => { results := [.lit (.bool false)], args := [d] }
  | _ => none }
def FnExactPairOfDyadicWrongFalsely : Prop := fnExactPairOfDyadicRow.holds Tryz.pinned (OpenSpec.ofChange fnExactPairOfDyadicWrong)

/-- 'laws.FnExactPowerOfInterval': WHATEVER THE INPUT: true; the input reads as it did. -/
def fnExactPowerOfIntervalSpec : ChangeSpec := { name := "fnExactPowerOfInterval", fn := fun _ => fun
  | [d1, d2] => { results := [.lit (.bool true)], args := [d1, d2] }
  | _ => none }
def fnExactPowerOfIntervalRow : OpenClaim := { program := "ytlaaielopcphiaagreat", sum := "3460574d16ccb788d1620e6767aaf97fe07b9fe260c49273b58f6d0735d918e2", func := "loop.example/g01172/laws.FnExactPowerOfInterval", spec := "fnExactPowerOfInterval", inPlace := ["math.Float64frombits", "math.Float32bits", "math.Float64bits", "math.Float32frombits"], unfollowed := true, recurses := true, apart := false }
def FnExactPowerOfIntervalSaid : Prop := fnExactPowerOfIntervalRow.holds Tryz.pinned (OpenSpec.ofChange fnExactPowerOfIntervalSpec)

/-- ITS FALSE NEIGHBOUR: 'it returns false'. Refute it at one input. -/
def fnExactPowerOfIntervalWrong : ChangeSpec := { name := "fnExactPowerOfInterval", fn := fun _ => fun
  | [d1, d2] => { results := [.lit (.bool false)], args := [d1, d2] }
  | _ => none }
def FnExactPowerOfIntervalWrongFalsely : Prop := fnExactPowerOfIntervalRow.holds Tryz.pinned (OpenSpec.ofChange fnExactPowerOfIntervalWrong)

/-- 'laws.FnExactPairs': WHATEVER THE INPUT: true; the input reads as it did. -/
def fnExactPairsSpec : ChangeSpec := { name := "fnExactPairs", fn := fun _ => fun
  | [d] => { results := [.lit (.bool true)], args := [d] }
  | _ => none }
def fnExactPairsRow : OpenClaim := { program := "ytlaaielopcphiaagreat", sum := "3460574d16ccb788d1620e6767aaf97fe07b9fe260c49273b58f6d0735d918e2", func := "loop.example/g01172/laws.FnExactPairs", spec := "fnExactPairs", inPlace := ["math.Float32bits", "math.Float32frombits", "math.Float64frombits", "math.Float64bits"], unfollowed := true, recurses := true, apart := false }
def FnExactPairsSaid : Prop := fnExactPairsRow.holds Tryz.pinned (OpenSpec.ofChange fnExactPairsSpec)

/-- ITS FALSE NEIGHBOUR: 'it returns false'. Refute it at one input. -/
def fnExactPairsWrong : ChangeSpec := { name := "fnExactPairs", fn := fun _ => fun
  | [d] => { results := [.lit (.bool false)], args := [d] }
  | _ => none }
def FnExactPairsWrongFalsely : Prop := fnExactPairsRow.holds Tryz.pinned (OpenSpec.ofChange fnExactPairsWrong)

/-- 'laws.FnExpansions': WHATEVER THE INPUT: true; the input reads as it did. -/
def fnExpansionsSpec : ChangeSpec := { name := "fnExpansions", fn := fun _ => fun
  | [d] => { results := [.lit (.bool true)], args := [d] }
  | _ => none }
def fnExpansionsRow : OpenClaim := { program := "ytlaaielopcphiaagreat", sum := "3460574d16ccb788d1620e6767aaf97fe07b9fe260c49273b58f6d0735d918e2", func := "loop.example/g01172/laws.FnExpansions", spec := "fnExpansions", inPlace := ["math.Float32bits", "math.Float32frombits", "math.Float64frombits", "math.Float64bits"], unfollowed := true, recurses := true, apart := false }
def FnExpansionsSaid : Prop := fnExpansionsRow.holds Tryz.pinned (OpenSpec.ofChange fnExpansionsSpec)

/-- ITS FALSE NEIGHBOUR: 'it returns false'. Refute it at one input. -/
def fnExpansionsWrong : ChangeSpec := { name := "fnExpansions", fn := fun _ => fun
  | [d] => { results := [.lit (.bool false)], args := [d] }
  | _ => none }
def FnExpansionsWrongFalsely : Prop := fnExpansionsRow.holds Tryz.pinned (OpenSpec.ofChange fnExpansionsWrong)

/-- 'laws.FnSums': WHATEVER THE INPUT: true; the input reads as it did. -/
def fnSumsSpec : ChangeSpec := { name := "fnSums", fn := fun _ => fun
  | [d] => { results := [.lit (.bool true)], args := [d] }
  | _ => none }
def fnSumsRow : OpenClaim := { program := "ytlaaielopcphiaagreat", sum := "3460574d16ccb788d1620e6767aaf97fe07b9fe260c49273b58f6d0735d918e2", func := "loop.example/g01172/laws.FnSums", spec := "fnSums", inPlace := ["math.Float32bits", "math.Float32frombits", "math.Float64frombits", "math.Float64bits"], unfollowed := true, recurses := true, apart := false }
def FnSumsSaid : Prop := fnSumsRow.holds Tryz.pinned (OpenSpec.ofChange fnSumsSpec)

/-- ITS FALSE NEIGHBOUR: 'it returns false'. Refute it at one input. -/
def fnSumsWrong : ChangeSpec := { name := "fnSums", fn := fun _ => fun
  | [d] => { results := [.lit (.bool false)], args := [d] }
  | _ => none }
def FnSumsWrongFalsely : Prop := fnSumsRow.holds Tryz.pinned (OpenSpec.ofChange fnSumsWrong)

/- THE SECOND FORM. 'bulk': how many values and letters a reading holds, each counted each time it is reached (what is shared counts as often as it is met; a slice's spare places count too). A statement '..UptoSaid' is the law's where the arguments, and the package variables that the reading takes, are together of bulk at most 1048576: NARROWER than '..Said'. Prove '..Said' where nothing that the law and all that it calls make is longer than what came in: it says more and counts as full. Else prove '..UptoSaid'. A law counts once. -/
mutual
def uptoBulk {H : Type} : DataW H → Nat
  | .lit (.string bytes) => bytes.length + 1
  | .lit _ => 1
  | .nil => 1
  | .ptr d => uptoBulk d + 1
  | .slice elems spare => uptoBulkAll elems + uptoBulkAll spare + 1
  | .agg parts => uptoBulkAll parts + 1
  | .iface _ d => uptoBulk d + 1
  | .map entries => uptoBulkEntries entries + 1
  | .held _ => 1
def uptoBulkAll {H : Type} : List (DataW H) → Nat
  | [] => 0
  | d :: r => uptoBulk d + uptoBulkAll r
def uptoBulkEntries {H : Type} : List (Lit × DataW H) → Nat
  | [] => 0
  | x :: r => uptoBulkEntry x + uptoBulkEntries r
def uptoBulkEntry {H : Type} : Lit × DataW H → Nat
  | (.string bytes, d) => bytes.length + uptoBulk d + 1
  | (_, d) => uptoBulk d + 1
 end
def uptoSmall : (H : Type) → List (DataW H) → Bool := fun _ ds => decide (uptoBulkAll ds ≤ 1048576)
def OpenSpec.upto (s : _root_.Go.ChangeSpec) : _root_.Go.OpenSpec := { _root_.Go.OpenSpec.ofChange s with cond := some uptoSmall }

/-- 'laws.FnExactPairOfDyadic', WHERE WHAT IT READS IS OF BULK AT MOST 1048576: true; the input reads as it did. -/
def fnExactPairOfDyadicUptoRow : OpenClaim := { program := "ytlaaielopcphiaagreat", sum := "3460574d16ccb788d1620e6767aaf97fe07b9fe260c49273b58f6d0735d918e2", func := "loop.example/g01172/laws.FnExactPairOfDyadic", spec := "fnExactPairOfDyadic", inPlace := ["math.Float32frombits", "math.Float64frombits", "math.Float64bits", "math.Float32bits"], unfollowed := true, recurses := true, apart := false, narrowed := true }
def FnExactPairOfDyadicUptoSaid : Prop := fnExactPairOfDyadicUptoRow.holds Tryz.pinned (OpenSpec.upto fnExactPairOfDyadicSpec)

/-- 'laws.FnExactPowerOfInterval', WHERE WHAT IT READS IS OF BULK AT MOST 1048576: true; the input reads as it did. -/
def fnExactPowerOfIntervalUptoRow : OpenClaim := { program := "ytlaaielopcphiaagreat", sum := "3460574d16ccb788d1620e6767aaf97fe07b9fe260c49273b58f6d0735d918e2", func := "loop.example/g01172/laws.FnExactPowerOfInterval", spec := "fnExactPowerOfInterval", inPlace := ["math.Float64frombits", "math.Float32bits", "math.Float64bits", "math.Float32frombits"], unfollowed := true, recurses := true, apart := false, narrowed := true }
def FnExactPowerOfIntervalUptoSaid : Prop := fnExactPowerOfIntervalUptoRow.holds Tryz.pinned (OpenSpec.upto fnExactPowerOfIntervalSpec)

/-- 'laws.FnExactPairs', WHERE WHAT IT READS IS OF BULK AT MOST 1048576: true; the input reads as it did. -/
def fnExactPairsUptoRow : OpenClaim := { program := "ytlaaielopcphiaagreat", sum := "3460574d16ccb788d1620e6767aaf97fe07b9fe260c49273b58f6d0735d918e2", func := "loop.example/g01172/laws.FnExactPairs", spec := "fnExactPairs", inPlace := ["math.Float32bits", "math.Float32frombits", "math.Float64frombits", "math.Float64bits"], unfollowed := true, recurses := true, apart := false, narrowed := true }
def FnExactPairsUptoSaid : Prop := fnExactPairsUptoRow.holds Tryz.pinned (OpenSpec.upto fnExactPairsSpec)

/-- 'laws.FnExpansions', WHERE WHAT IT READS IS OF BULK AT MOST 1048576: true; the input reads as it did. -/
def fnExpansionsUptoRow : OpenClaim := { program := "ytlaaielopcphiaagreat", sum := "3460574d16ccb788d1620e6767aaf97fe07b9fe260c49273b58f6d0735d918e2", func := "loop.example/g01172/laws.FnExpansions", spec := "fnExpansions", inPlace := ["math.Float32bits", "math.Float32frombits", "math.Float64frombits", "math.Float64bits"], unfollowed := true, recurses := true, apart := false, narrowed := true }
def FnExpansionsUptoSaid : Prop := fnExpansionsUptoRow.holds Tryz.pinned (OpenSpec.upto fnExpansionsSpec)

/-- 'laws.FnSums', WHERE WHAT IT READS IS OF BULK AT MOST 1048576: true; the input reads as it did. -/
def fnSumsUptoRow : OpenClaim := { program := "ytlaaielopcphiaagreat", sum := "3460574d16ccb788d1620e6767aaf97fe07b9fe260c49273b58f6d0735d918e2", func := "loop.example/g01172/laws.FnSums", spec := "fnSums", inPlace := ["math.Float32bits", "math.Float32frombits", "math.Float64frombits", "math.Float64bits"], unfollowed := true, recurses := true, apart := false, narrowed := true }
def FnSumsUptoSaid : Prop := fnSumsUptoRow.holds Tryz.pinned (OpenSpec.upto fnSumsSpec)

end Rows
end Go.Proofs.YtlaaielopcphiaaGreat
