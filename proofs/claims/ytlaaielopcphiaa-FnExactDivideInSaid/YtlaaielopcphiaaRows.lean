/-
  No cell of these rows narrows 'for every input' (looked for: loops, veiled, ifaces, maps, wideKeys, modest, calm, conditions, laid).
  DERIVED. THE GIVEN ROWS OF THIS SEAT. 3 by the template 'for every input the law returns true; each argument reads behind the call as it read before'; 0 by the template 'total and deterministic' (their statements: YtlaaielopcphiaaTotals.lean).
  GIVEN WITH THE SEED: the statements are not yours to turn. If you find one false, say at which input.
  Laid BY PROGRAM, IN A SANDBOX (cutbox-rows.mjs): the forced cells as the released guide's own fill.sh prints them over the translation 12381a1d7b77408f… (all of the seat's roots in one cut). By AI agents, Wed Nov 11 2026. No macro, syntax, notation, axiom, sorry.
-/
import Derived.Test.YtlaaielopcphiaaChecked
import GoSem.Claim
import GoSem.ClaimJoined
import GoSem.ClaimMapViews
import Derived.JoinedTies
import Derived.KernelRfl
namespace Go.Proofs.Ytlaaielopcphiaa
/- THE CELL 'sum', in the pinned program and in every row, IS THE sha256 OF THE DUMP (.gsa) THAT YtlaaielopcphiaaProg.lean LOADS. Nothing in Lean hashes anything: it is a label: what it is worth is what the hold of that sum in a sandbox is worth. -/
noncomputable def Try.pinned : Pinned := { name := "ytlaaielopcphiaa", sum := "12381a1d7b77408f6e031dddf4b35b57258f5075af1e1453efbec660db87f311", checked := Try.checked }
namespace Rows
def none {H : Type} : Left H := { results := [], args := [] }

/-- 'laws.FnExactErrorOfPair': WHATEVER THE INPUT: true; the input reads as it did. -/
def fnExactErrorOfPairSpec : ChangeSpec := { name := "fnExactErrorOfPair", fn := fun _ => fun
  | [d1, d2] => { results := [.lit (.bool true)], args := [d1, d2] }
  | _ => none }
def fnExactErrorOfPairRow : OpenClaim := { program := "ytlaaielopcphiaa", sum := "12381a1d7b77408f6e031dddf4b35b57258f5075af1e1453efbec660db87f311", func := "loop.example/g01172/laws.FnExactErrorOfPair", spec := "fnExactErrorOfPair", inPlace := ["math.Float32bits"], apart := false }
def FnExactErrorOfPairSaid : Prop := fnExactErrorOfPairRow.holds Try.pinned (OpenSpec.ofChange fnExactErrorOfPairSpec)

/-- ITS FALSE NEIGHBOUR: 'it returns false'. Refute it at one input. -/
def fnExactErrorOfPairWrong : ChangeSpec := { name := "fnExactErrorOfPair", fn := fun _ => fun
  | [d1, d2] => { results := [.lit (.bool false)], args := [d1, d2] }
  | _ => none }
def FnExactErrorOfPairWrongFalsely : Prop := fnExactErrorOfPairRow.holds Try.pinned (OpenSpec.ofChange fnExactErrorOfPairWrong)

/-- 'laws.FnExactDivideIn': WHATEVER THE INPUT: true; the input reads as it did. -/
def fnExactDivideInSpec : ChangeSpec := { name := "fnExactDivideIn", fn := fun _ => fun
  | [d1, d2, d3] => { results := [.lit (.bool true)], args := [d1, d2, d3] }
  | _ => none }
def fnExactDivideInRow : OpenClaim := { program := "ytlaaielopcphiaa", sum := "12381a1d7b77408f6e031dddf4b35b57258f5075af1e1453efbec660db87f311", func := "loop.example/g01172/laws.FnExactDivideIn", spec := "fnExactDivideIn", inPlace := ["math.Float32bits", "math.Float32frombits", "math.Float64frombits", "math.Float64bits"], unfollowed := true, recurses := true, apart := false }
def FnExactDivideInSaid : Prop := fnExactDivideInRow.holds Try.pinned (OpenSpec.ofChange fnExactDivideInSpec)

/-- ITS FALSE NEIGHBOUR: 'it returns false'. Refute it at one input. -/
def fnExactDivideInWrong : ChangeSpec := { name := "fnExactDivideIn", fn := fun _ => fun
  | [d1, d2, d3] => { results := [.lit (.bool false)], args := [d1, d2, d3] }
  | _ => none }
def FnExactDivideInWrongFalsely : Prop := fnExactDivideInRow.holds Try.pinned (OpenSpec.ofChange fnExactDivideInWrong)

/-- 'laws.FnExactRemainderOf': WHATEVER THE INPUT: true; the input reads as it did. -/
def fnExactRemainderOfSpec : ChangeSpec := { name := "fnExactRemainderOf", fn := fun _ => fun
  | [d1, d2] => { results := [.lit (.bool true)], args := [d1, d2] }
  | _ => none }
def fnExactRemainderOfRow : OpenClaim := { program := "ytlaaielopcphiaa", sum := "12381a1d7b77408f6e031dddf4b35b57258f5075af1e1453efbec660db87f311", func := "loop.example/g01172/laws.FnExactRemainderOf", spec := "fnExactRemainderOf", inPlace := ["math.Float32bits", "math.Float32frombits", "math.Float64frombits", "math.Float64bits"], unfollowed := true, recurses := true, apart := false }
def FnExactRemainderOfSaid : Prop := fnExactRemainderOfRow.holds Try.pinned (OpenSpec.ofChange fnExactRemainderOfSpec)

/-- ITS FALSE NEIGHBOUR: 'it returns false'. Refute it at one input. -/
def fnExactRemainderOfWrong : ChangeSpec := { name := "fnExactRemainderOf", fn := fun _ => fun
  | [d1, d2] => { results := [.lit (.bool false)], args := [d1, d2] }
  | _ => none }
def FnExactRemainderOfWrongFalsely : Prop := fnExactRemainderOfRow.holds Try.pinned (OpenSpec.ofChange fnExactRemainderOfWrong)

/- THE SECOND FORM. 'bulk': how many values and letters a reading holds, each counted each time it is reached (what is shared counts as often as it is met; a slice's spare places count too). A statement '..UptoSaid' is the law's where the arguments, and the package variables that the reading takes, are together of bulk at most 1048576: NARROWER than '..Said'. Prove '..Said' where nothing that the law and all that it calls make is longer than what came in: it says more and counts as full. Else prove '..UptoSaid'. A law counts once. -/
mutual
def uptoBulk {H : Type} : DataW H → Nat
  | .lit (.string bytes) => bytes.length + 1
  | .lit _ => 1
  | .nil => 1
  | .ptr d => uptoBulk d + 1
  | .slice elems spare => uptoBulkAll elems + uptoBulkAll spare + 1
  | .agg parts => uptoBulkAll parts + 1
  | .iface _ d => uptoBulk d + 1
  | .map entries => uptoBulkEntries entries + 1
  | .held _ => 1
def uptoBulkAll {H : Type} : List (DataW H) → Nat
  | [] => 0
  | d :: r => uptoBulk d + uptoBulkAll r
def uptoBulkEntries {H : Type} : List (Lit × DataW H) → Nat
  | [] => 0
  | x :: r => uptoBulkEntry x + uptoBulkEntries r
def uptoBulkEntry {H : Type} : Lit × DataW H → Nat
  | (.string bytes, d) => bytes.length + uptoBulk d + 1
  | (_, d) => uptoBulk d + 1
 end
def uptoSmall : (H : Type) → List (DataW H) → Bool := fun _ ds => decide (uptoBulkAll ds ≤ 1048576)
def OpenSpec.upto (s : _root_.Go.ChangeSpec) : _root_.Go.OpenSpec := { _root_.Go.OpenSpec.ofChange s with cond := some uptoSmall }

/-- 'laws.FnExactErrorOfPair', WHERE WHAT IT READS IS OF BULK AT MOST 1048576: true; the input reads as it did. -/
def fnExactErrorOfPairUptoRow : OpenClaim := { program := "ytlaaielopcphiaa", sum := "12381a1d7b77408f6e031dddf4b35b57258f5075af1e1453efbec660db87f311", func := "loop.example/g01172/laws.FnExactErrorOfPair", spec := "fnExactErrorOfPair", inPlace := ["math.Float32bits"], apart := false, narrowed := true }
def FnExactErrorOfPairUptoSaid : Prop := fnExactErrorOfPairUptoRow.holds Try.pinned (OpenSpec.upto fnExactErrorOfPairSpec)

/-- 'laws.FnExactDivideIn', WHERE WHAT IT READS IS OF BULK AT MOST 1048576: true; the input reads as it did. -/
def fnExactDivideInUptoRow : OpenClaim := { program := "ytlaaielopcphiaa", sum := "12381a1d7b77408f6e031dddf4b35b57258f5075af1e1453efbec660db87f311", func := "loop.example/g01172/laws.FnExactDivideIn", spec := "fnExactDivideIn", inPlace := ["math.Float32bits", "math.Float32frombits", "math.Float64frombits", "math.Float64bits"], unfollowed := true, recurses := true, apart := false, narrowed := true }
def FnExactDivideInUptoSaid : Prop := fnExactDivideInUptoRow.holds Try.pinned (OpenSpec.upto fnExactDivideInSpec)

/-- 'laws.FnExactRemainderOf', WHERE WHAT IT READS IS OF BULK AT MOST 1048576: true; the input reads as it did. -/
def fnExactRemainderOfUptoRow : OpenClaim := { program := "ytlaaielopcphiaa", sum := "12381a1d7b77408f6e031dddf4b35b57258f5075af1e1453efbec660db87f311", func := "loop.example/g01172/laws.FnExactRemainderOf", spec := "fnExactRemainderOf", inPlace := ["math.Float32bits", "math.Float32frombits", "math.Float64frombits", "math.Float64bits"], unfollowed := true, recurses := true, apart := false, narrowed := true }
def FnExactRemainderOfUptoSaid : Prop := fnExactRemainderOfUptoRow.holds Try.pinned (OpenSpec.upto fnExactRemainderOfSpec)

end Rows
end Go.Proofs.Ytlaaielopcphiaa
