/-
  No cell of these rows narrows 'for every input' (looked for: loops, veiled, ifaces, maps, wideKeys, modest, calm, conditions, laid).
  DERIVED. THE GIVEN ROWS OF THIS SEAT. 11 by the template 'for every input the law returns true; each argument reads behind the call as it read before'; 0 by the template 'total and deterministic' (their statements: YtlfgefcagjjfkaaTotals.lean).
  GIVEN WITH THE SEED: the statements are not yours to turn. If you find one false, say at which input.
  Laid BY PROGRAM, IN A SANDBOX (cutbox-rows.mjs): the forced cells as the released guide's own fill.sh prints them over the translation 95546701b6993fc4… (all of the seat's roots in one cut). By AI agents, Wed Nov 11 2026. No macro, syntax, notation, axiom, sorry.
-/
import Derived.Test.YtlfgefcagjjfkaaChecked
import GoSem.Claim
import GoSem.ClaimJoined
import GoSem.ClaimMapViews
import Derived.JoinedTies
import Derived.KernelRfl
namespace Go.Proofs.Ytlfgefcagjjfkaa
/- THE CELL 'sum', in the pinned program and in every row, IS THE sha256 OF THE DUMP (.gsa) THAT YtlfgefcagjjfkaaProg.lean LOADS. Nothing in Lean hashes anything: it is a label: what it is worth is what the hold of that sum in a sandbox is worth. -/
noncomputable def Try.pinned : Pinned := { name := "ytlfgefcagjjfkaa", sum := "95546701b6993fc48153188f778c4c5e59439dd73764cc550cc02dd676f2643f", checked := Try.checked }
namespace Rows
def none {H : Type} : Left H := { results := [], args := [] }

/-- 'laws.FnExactIsPair': WHATEVER THE INPUT: true; the input reads as it did. -/
def fnExactIsPairSpec : ChangeSpec := { name := "fnExactIsPair", fn := fun _ => fun
  | [d] => { results := [.lit (.bool true)], args := [d] }
  | _ => none }
def fnExactIsPairRow : OpenClaim := { program := "ytlfgefcagjjfkaa", sum := "95546701b6993fc48153188f778c4c5e59439dd73764cc550cc02dd676f2643f", func := "loop.example/g01172/laws.FnExactIsPair", spec := "fnExactIsPair", inPlace := ["math.Float32bits"], apart := false }
def FnExactIsPairSaid : Prop := fnExactIsPairRow.holds Try.pinned (OpenSpec.ofChange fnExactIsPairSpec)

/-- ITS FALSE NEIGHBOUR: 'it returns false'. Refute it at one input. -/
def fnExactIsPairWrong : ChangeSpec := { name := "fnExactIsPair", fn := fun _ => fun
  | [d] => { results := [.lit (.bool false)], args := [d] }
  | _ => none }
def FnExactIsPairWrongFalsely : Prop := fnExactIsPairRow.holds Try.pinned (OpenSpec.ofChange fnExactIsPairWrong)

/-- 'laws.FnExactIsInterval': WHATEVER THE INPUT: true; the input reads as it did. -/
def fnExactIsIntervalSpec : ChangeSpec := { name := "fnExactIsInterval", fn := fun _ => fun
  | [d] => { results := [.lit (.bool true)], args := [d] }
  | _ => none }
def fnExactIsIntervalRow : OpenClaim := { program := "ytlfgefcagjjfkaa", sum := "95546701b6993fc48153188f778c4c5e59439dd73764cc550cc02dd676f2643f", func := "loop.example/g01172/laws.FnExactIsInterval", spec := "fnExactIsInterval", inPlace := ["math.Float64frombits", "math.Float32bits"], apart := false }
def FnExactIsIntervalSaid : Prop := fnExactIsIntervalRow.holds Try.pinned (OpenSpec.ofChange fnExactIsIntervalSpec)

/-- ITS FALSE NEIGHBOUR: 'it returns false'. Refute it at one input. -/
def fnExactIsIntervalWrong : ChangeSpec := { name := "fnExactIsInterval", fn := fun _ => fun
  | [d] => { results := [.lit (.bool false)], args := [d] }
  | _ => none }
def FnExactIsIntervalWrongFalsely : Prop := fnExactIsIntervalRow.holds Try.pinned (OpenSpec.ofChange fnExactIsIntervalWrong)

/-- 'laws.FnExactHasFloat': WHATEVER THE INPUT: true; the input reads as it did. -/
def fnExactHasFloatSpec : ChangeSpec := { name := "fnExactHasFloat", fn := fun _ => fun
  | [d1, d2] => { results := [.lit (.bool true)], args := [d1, d2] }
  | _ => none }
def fnExactHasFloatRow : OpenClaim := { program := "ytlfgefcagjjfkaa", sum := "95546701b6993fc48153188f778c4c5e59439dd73764cc550cc02dd676f2643f", func := "loop.example/g01172/laws.FnExactHasFloat", spec := "fnExactHasFloat", inPlace := ["math.Float64frombits", "math.Float32bits"], apart := false }
def FnExactHasFloatSaid : Prop := fnExactHasFloatRow.holds Try.pinned (OpenSpec.ofChange fnExactHasFloatSpec)

/-- ITS FALSE NEIGHBOUR: 'it returns false'. Refute it at one input. -/
def fnExactHasFloatWrong : ChangeSpec := { name := "fnExactHasFloat", fn := fun _ => fun
  | [d1, d2] => { results := [.lit (.bool false)], args := [d1, d2] }
  | _ => none }
def FnExactHasFloatWrongFalsely : Prop := fnExactHasFloatRow.holds Try.pinned (OpenSpec.ofChange fnExactHasFloatWrong)

/-- 'laws.FnExactIsPartOf': WHATEVER THE INPUT: true; the input reads as it did. -/
def fnExactIsPartOfSpec : ChangeSpec := { name := "fnExactIsPartOf", fn := fun _ => fun
  | [d1, d2] => { results := [.lit (.bool true)], args := [d1, d2] }
  | _ => none }
def fnExactIsPartOfRow : OpenClaim := { program := "ytlfgefcagjjfkaa", sum := "95546701b6993fc48153188f778c4c5e59439dd73764cc550cc02dd676f2643f", func := "loop.example/g01172/laws.FnExactIsPartOf", spec := "fnExactIsPartOf", inPlace := ["math.Float64frombits", "math.Float32bits"], apart := false }
def FnExactIsPartOfSaid : Prop := fnExactIsPartOfRow.holds Try.pinned (OpenSpec.ofChange fnExactIsPartOfSpec)

/-- ITS FALSE NEIGHBOUR: 'it returns false'. Refute it at one input. -/
def fnExactIsPartOfWrong : ChangeSpec := { name := "fnExactIsPartOf", fn := fun _ => fun
  | [d1, d2] => { results := [.lit (.bool false)], args := [d1, d2] }
  | _ => none }
def FnExactIsPartOfWrongFalsely : Prop := fnExactIsPartOfRow.holds Try.pinned (OpenSpec.ofChange fnExactIsPartOfWrong)

/-- 'laws.FnExactOrderOfIntervals': WHATEVER THE INPUT: true; the input reads as it did. -/
def fnExactOrderOfIntervalsSpec : ChangeSpec := { name := "fnExactOrderOfIntervals", fn := fun _ => fun
  | [d1, d2] => { results := [.lit (.bool true)], args := [d1, d2] }
  | _ => none }
def fnExactOrderOfIntervalsRow : OpenClaim := { program := "ytlfgefcagjjfkaa", sum := "95546701b6993fc48153188f778c4c5e59439dd73764cc550cc02dd676f2643f", func := "loop.example/g01172/laws.FnExactOrderOfIntervals", spec := "fnExactOrderOfIntervals", inPlace := ["math.Float64frombits", "math.Float32bits"], apart := false }
def FnExactOrderOfIntervalsSaid : Prop := fnExactOrderOfIntervalsRow.holds Try.pinned (OpenSpec.ofChange fnExactOrderOfIntervalsSpec)

/-- ITS FALSE NEIGHBOUR: 'it returns false'. Refute it at one input. -/
def fnExactOrderOfIntervalsWrong : ChangeSpec := { name := "fnExactOrderOfIntervals", fn := fun _ => fun
  | [d1, d2] => { results := [.lit (.bool false)], args := [d1, d2] }
  | _ => none }
def FnExactOrderOfIntervalsWrongFalsely : Prop := fnExactOrderOfIntervalsRow.holds Try.pinned (OpenSpec.ofChange fnExactOrderOfIntervalsWrong)

/-- 'laws.FnExactIntervalOf': WHATEVER THE INPUT: true; the input reads as it did. -/
def fnExactIntervalOfSpec : ChangeSpec := { name := "fnExactIntervalOf", fn := fun _ => fun
  | [d1, d2] => { results := [.lit (.bool true)], args := [d1, d2] }
  | _ => none }
def fnExactIntervalOfRow : OpenClaim := { program := "ytlfgefcagjjfkaa", sum := "95546701b6993fc48153188f778c4c5e59439dd73764cc550cc02dd676f2643f", func := "loop.example/g01172/laws.FnExactIntervalOf", spec := "fnExactIntervalOf", inPlace := ["math.Float64frombits", "math.Float32bits"], apart := false }
def FnExactIntervalOfSaid : Prop := fnExactIntervalOfRow.holds Try.pinned (OpenSpec.ofChange fnExactIntervalOfSpec)

/-- ITS FALSE NEIGHBOUR: 'it returns false'. Refute it at one input. -/
def fnExactIntervalOfWrong : ChangeSpec := { name := "fnExactIntervalOf", fn := fun _ => fun
  | [d1, d2] => { results := [.lit (.bool false)], args := [d1, d2] }
  | _ => none }
def FnExactIntervalOfWrongFalsely : Prop := fnExactIntervalOfRow.holds Try.pinned (OpenSpec.ofChange fnExactIntervalOfWrong)

/-- 'laws.FnExactNegateInterval': WHATEVER THE INPUT: true; the input reads as it did. -/
def fnExactNegateIntervalSpec : ChangeSpec := { name := "fnExactNegateInterval", fn := fun _ => fun
  | [d] => { results := [.lit (.bool true)], args := [d] }
  | _ => none }
def fnExactNegateIntervalRow : OpenClaim := { program := "ytlfgefcagjjfkaa", sum := "95546701b6993fc48153188f778c4c5e59439dd73764cc550cc02dd676f2643f", func := "loop.example/g01172/laws.FnExactNegateInterval", spec := "fnExactNegateInterval", inPlace := ["math.Float64frombits", "math.Float32bits"], apart := false }
def FnExactNegateIntervalSaid : Prop := fnExactNegateIntervalRow.holds Try.pinned (OpenSpec.ofChange fnExactNegateIntervalSpec)

/-- ITS FALSE NEIGHBOUR: 'it returns false'. Refute it at one input. -/
def fnExactNegateIntervalWrong : ChangeSpec := { name := "fnExactNegateInterval", fn := fun _ => fun
  | [d] => { results := [.lit (.bool false)], args := [d] }
  | _ => none }
def FnExactNegateIntervalWrongFalsely : Prop := fnExactNegateIntervalRow.holds Try.pinned (OpenSpec.ofChange fnExactNegateIntervalWrong)

/-- 'laws.FnExactHullOfIntervals': WHATEVER THE INPUT: true; the input reads as it did. -/
def fnExactHullOfIntervalsSpec : ChangeSpec := { name := "fnExactHullOfIntervals", fn := fun _ => fun
  | [d1, d2] => { results := [.lit (.bool true)], args := [d1, d2] }
  | _ => none }
def fnExactHullOfIntervalsRow : OpenClaim := { program := "ytlfgefcagjjfkaa", sum := "95546701b6993fc48153188f778c4c5e59439dd73764cc550cc02dd676f2643f", func := "loop.example/g01172/laws.FnExactHullOfIntervals", spec := "fnExactHullOfIntervals", inPlace := ["math.Float64frombits", "math.Float32bits"], apart := false }
def FnExactHullOfIntervalsSaid : Prop := fnExactHullOfIntervalsRow.holds Try.pinned (OpenSpec.ofChange fnExactHullOfIntervalsSpec)

/-- ITS FALSE NEIGHBOUR: 'it returns false'. Refute it at one input. -/
def fnExactHullOfIntervalsWrong : ChangeSpec := { name := "fnExactHullOfIntervals", fn := fun _ => fun
  | [d1, d2] => { results := [.lit (.bool false)], args := [d1, d2] }
  | _ => none }
def FnExactHullOfIntervalsWrongFalsely : Prop := fnExactHullOfIntervalsRow.holds Try.pinned (OpenSpec.ofChange fnExactHullOfIntervalsWrong)

/-- 'laws.FnExactMeetOfIntervals': WHATEVER THE INPUT: true; the input reads as it did. -/
def fnExactMeetOfIntervalsSpec : ChangeSpec := { name := "fnExactMeetOfIntervals", fn := fun _ => fun
  | [d1, d2] => { results := [.lit (.bool true)], args := [d1, d2] }
  | _ => none }
def fnExactMeetOfIntervalsRow : OpenClaim := { program := "ytlfgefcagjjfkaa", sum := "95546701b6993fc48153188f778c4c5e59439dd73764cc550cc02dd676f2643f", func := "loop.example/g01172/laws.FnExactMeetOfIntervals", spec := "fnExactMeetOfIntervals", inPlace := ["math.Float64frombits", "math.Float32bits"], apart := false }
def FnExactMeetOfIntervalsSaid : Prop := fnExactMeetOfIntervalsRow.holds Try.pinned (OpenSpec.ofChange fnExactMeetOfIntervalsSpec)

/-- ITS FALSE NEIGHBOUR: 'it returns false'. Refute it at one input. -/
def fnExactMeetOfIntervalsWrong : ChangeSpec := { name := "fnExactMeetOfIntervals", fn := fun _ => fun
  | [d1, d2] => { results := [.lit (.bool false)], args := [d1, d2] }
  | _ => none }
def FnExactMeetOfIntervalsWrongFalsely : Prop := fnExactMeetOfIntervalsRow.holds Try.pinned (OpenSpec.ofChange fnExactMeetOfIntervalsWrong)

/-- 'laws.FnExactAbsoluteInterval': WHATEVER THE INPUT: true; the input reads as it did. -/
def fnExactAbsoluteIntervalSpec : ChangeSpec := { name := "fnExactAbsoluteInterval", fn := fun _ => fun
  | [d] => { results := [.lit (.bool true)], args := [d] }
  | _ => none }
def fnExactAbsoluteIntervalRow : OpenClaim := { program := "ytlfgefcagjjfkaa", sum := "95546701b6993fc48153188f778c4c5e59439dd73764cc550cc02dd676f2643f", func := "loop.example/g01172/laws.FnExactAbsoluteInterval", spec := "fnExactAbsoluteInterval", inPlace := ["math.Float64frombits", "math.Float32bits"], apart := false }
def FnExactAbsoluteIntervalSaid : Prop := fnExactAbsoluteIntervalRow.holds Try.pinned (OpenSpec.ofChange fnExactAbsoluteIntervalSpec)

/-- ITS FALSE NEIGHBOUR: 'it returns false'. Refute it at one input. -/
def fnExactAbsoluteIntervalWrong : ChangeSpec := { name := "fnExactAbsoluteInterval", fn := fun _ => fun
  | [d] => { results := [.lit (.bool false)], args := [d] }
  | _ => none }
def FnExactAbsoluteIntervalWrongFalsely : Prop := fnExactAbsoluteIntervalRow.holds Try.pinned (OpenSpec.ofChange fnExactAbsoluteIntervalWrong)

/-- 'laws.FnExactWidenInterval': WHATEVER THE INPUT: true; the input reads as it did. -/
def fnExactWidenIntervalSpec : ChangeSpec := { name := "fnExactWidenInterval", fn := fun _ => fun
  | [d] => { results := [.lit (.bool true)], args := [d] }
  | _ => none }
def fnExactWidenIntervalRow : OpenClaim := { program := "ytlfgefcagjjfkaa", sum := "95546701b6993fc48153188f778c4c5e59439dd73764cc550cc02dd676f2643f", func := "loop.example/g01172/laws.FnExactWidenInterval", spec := "fnExactWidenInterval", inPlace := ["math.Float64frombits", "math.Float32bits", "math.Float32frombits"], recurses := true, apart := false }
def FnExactWidenIntervalSaid : Prop := fnExactWidenIntervalRow.holds Try.pinned (OpenSpec.ofChange fnExactWidenIntervalSpec)

/-- ITS FALSE NEIGHBOUR: 'it returns false'. Refute it at one input. -/
def fnExactWidenIntervalWrong : ChangeSpec := { name := "fnExactWidenInterval", fn := fun _ => fun
  | [d] => { results := [.lit (.bool false)], args := [d] }
  | _ => none }
def FnExactWidenIntervalWrongFalsely : Prop := fnExactWidenIntervalRow.holds Try.pinned (OpenSpec.ofChange fnExactWidenIntervalWrong)

/- THE SECOND FORM. 'bulk': how many values and letters a reading holds, each counted each time it is reached (what is shared counts as often as it is met; a slice's spare places count too). A statement '..UptoSaid' is the law's where the arguments, and the package variables that the reading takes, are together of bulk at most 1048576: NARROWER than '..Said'. Prove '..Said' where nothing that the law and all that it calls make is longer than what came in: it says more and counts as full. Else prove '..UptoSaid'. A law counts once. -/
mutual
def uptoBulk {H : Type} : DataW H → Nat
  | .lit (.string bytes) => bytes.length + 1
  | .lit _ => 1
  | .nil => 1
  | .ptr d => uptoBulk d + 1
  | .slice elems spare => uptoBulkAll elems + uptoBulkAll spare + 1
  | .agg parts => uptoBulkAll parts + 1
  | .iface _ d => uptoBulk d + 1
  | .map entries => uptoBulkEntries entries + 1
  | .held _ => 1
def uptoBulkAll {H : Type} : List (DataW H) → Nat
  | [] => 0
  | d :: r => uptoBulk d + uptoBulkAll r
def uptoBulkEntries {H : Type} : List (Lit × DataW H) → Nat
  | [] => 0
  | x :: r => uptoBulkEntry x + uptoBulkEntries r
def uptoBulkEntry {H : Type} : Lit × DataW H → Nat
  | (.string bytes, d) => bytes.length + uptoBulk d + 1
  | (_, d) => uptoBulk d + 1
 end
def uptoSmall : (H : Type) → List (DataW H) → Bool := fun _ ds => decide (uptoBulkAll ds ≤ 1048576)
def OpenSpec.upto (s : _root_.Go.ChangeSpec) : _root_.Go.OpenSpec := { _root_.Go.OpenSpec.ofChange s with cond := some uptoSmall }

/-- 'laws.FnExactIsPair', WHERE WHAT IT READS IS OF BULK AT MOST 1048576: true; the input reads as it did. -/
def fnExactIsPairUptoRow : OpenClaim := { program := "ytlfgefcagjjfkaa", sum := "95546701b6993fc48153188f778c4c5e59439dd73764cc550cc02dd676f2643f", func := "loop.example/g01172/laws.FnExactIsPair", spec := "fnExactIsPair", inPlace := ["math.Float32bits"], apart := false, narrowed := true }
def FnExactIsPairUptoSaid : Prop := fnExactIsPairUptoRow.holds Try.pinned (OpenSpec.upto fnExactIsPairSpec)

/-- 'laws.FnExactIsInterval', WHERE WHAT IT READS IS OF BULK AT MOST 1048576: true; the input reads as it did. -/
def fnExactIsIntervalUptoRow : OpenClaim := { program := "ytlfgefcagjjfkaa", sum := "95546701b6993fc48153188f778c4c5e59439dd73764cc550cc02dd676f2643f", func := "loop.example/g01172/laws.FnExactIsInterval", spec := "fnExactIsInterval", inPlace := ["math.Float64frombits", "math.Float32bits"], apart := false, narrowed := true }
def FnExactIsIntervalUptoSaid : Prop := fnExactIsIntervalUptoRow.holds Try.pinned (OpenSpec.upto fnExactIsIntervalSpec)

/-- 'laws.FnExactHasFloat', WHERE WHAT IT READS IS OF BULK AT MOST 1048576: true; the input reads as it did. -/
def fnExactHasFloatUptoRow : OpenClaim := { program := "ytlfgefcagjjfkaa", sum := "95546701b6993fc48153188f778c4c5e59439dd73764cc550cc02dd676f2643f", func := "loop.example/g01172/laws.FnExactHasFloat", spec := "fnExactHasFloat", inPlace := ["math.Float64frombits", "math.Float32bits"], apart := false, narrowed := true }
def FnExactHasFloatUptoSaid : Prop := fnExactHasFloatUptoRow.holds Try.pinned (OpenSpec.upto fnExactHasFloatSpec)

/-- 'laws.FnExactIsPartOf', WHERE WHAT IT READS IS OF BULK AT MOST 1048576: true; the input reads as it did. -/
def fnExactIsPartOfUptoRow : OpenClaim := { program := "ytlfgefcagjjfkaa", sum := "95546701b6993fc48153188f778c4c5e59439dd73764cc550cc02dd676f2643f", func := "loop.example/g01172/laws.FnExactIsPartOf", spec := "fnExactIsPartOf", inPlace := ["math.Float64frombits", "math.Float32bits"], apart := false, narrowed := true }
def FnExactIsPartOfUptoSaid : Prop := fnExactIsPartOfUptoRow.holds Try.pinned (OpenSpec.upto fnExactIsPartOfSpec)

/-- 'laws.FnExactOrderOfIntervals', WHERE WHAT IT READS IS OF BULK AT MOST 1048576: true; the input reads as it did. -/
def fnExactOrderOfIntervalsUptoRow : OpenClaim := { program := "ytlfgefcagjjfkaa", sum := "95546701b6993fc48153188f778c4c5e59439dd73764cc550cc02dd676f2643f", func := "loop.example/g01172/laws.FnExactOrderOfIntervals", spec := "fnExactOrderOfIntervals", inPlace := ["math.Float64frombits", "math.Float32bits"], apart := false, narrowed := true }
def FnExactOrderOfIntervalsUptoSaid : Prop := fnExactOrderOfIntervalsUptoRow.holds Try.pinned (OpenSpec.upto fnExactOrderOfIntervalsSpec)

/-- 'laws.FnExactIntervalOf', WHERE WHAT IT READS IS OF BULK AT MOST 1048576: true; the input reads as it did. -/
def fnExactIntervalOfUptoRow : OpenClaim := { program := "ytlfgefcagjjfkaa", sum := "95546701b6993fc48153188f778c4c5e59439dd73764cc550cc02dd676f2643f", func := "loop.example/g01172/laws.FnExactIntervalOf", spec := "fnExactIntervalOf", inPlace := ["math.Float64frombits", "math.Float32bits"], apart := false, narrowed := true }
def FnExactIntervalOfUptoSaid : Prop := fnExactIntervalOfUptoRow.holds Try.pinned (OpenSpec.upto fnExactIntervalOfSpec)

/-- 'laws.FnExactNegateInterval', WHERE WHAT IT READS IS OF BULK AT MOST 1048576: true; the input reads as it did. -/
def fnExactNegateIntervalUptoRow : OpenClaim := { program := "ytlfgefcagjjfkaa", sum := "95546701b6993fc48153188f778c4c5e59439dd73764cc550cc02dd676f2643f", func := "loop.example/g01172/laws.FnExactNegateInterval", spec := "fnExactNegateInterval", inPlace := ["math.Float64frombits", "math.Float32bits"], apart := false, narrowed := true }
def FnExactNegateIntervalUptoSaid : Prop := fnExactNegateIntervalUptoRow.holds Try.pinned (OpenSpec.upto fnExactNegateIntervalSpec)

/-- 'laws.FnExactHullOfIntervals', WHERE WHAT IT READS IS OF BULK AT MOST 1048576: true; the input reads as it did. -/
def fnExactHullOfIntervalsUptoRow : OpenClaim := { program := "ytlfgefcagjjfkaa", sum := "95546701b6993fc48153188f778c4c5e59439dd73764cc550cc02dd676f2643f", func := "loop.example/g01172/laws.FnExactHullOfIntervals", spec := "fnExactHullOfIntervals", inPlace := ["math.Float64frombits", "math.Float32bits"], apart := false, narrowed := true }
def FnExactHullOfIntervalsUptoSaid : Prop := fnExactHullOfIntervalsUptoRow.holds Try.pinned (OpenSpec.upto fnExactHullOfIntervalsSpec)

/-- 'laws.FnExactMeetOfIntervals', WHERE WHAT IT READS IS OF BULK AT MOST 1048576: true; the input reads as it did. -/
def fnExactMeetOfIntervalsUptoRow : OpenClaim := { program := "ytlfgefcagjjfkaa", sum := "95546701b6993fc48153188f778c4c5e59439dd73764cc550cc02dd676f2643f", func := "loop.example/g01172/laws.FnExactMeetOfIntervals", spec := "fnExactMeetOfIntervals", inPlace := ["math.Float64frombits", "math.Float32bits"], apart := false, narrowed := true }
def FnExactMeetOfIntervalsUptoSaid : Prop := fnExactMeetOfIntervalsUptoRow.holds Try.pinned (OpenSpec.upto fnExactMeetOfIntervalsSpec)

/-- 'laws.FnExactAbsoluteInterval', WHERE WHAT IT READS IS OF BULK AT MOST 1048576: true; the input reads as it did. -/
def fnExactAbsoluteIntervalUptoRow : OpenClaim := { program := "ytlfgefcagjjfkaa", sum := "95546701b6993fc48153188f778c4c5e59439dd73764cc550cc02dd676f2643f", func := "loop.example/g01172/laws.FnExactAbsoluteInterval", spec := "fnExactAbsoluteInterval", inPlace := ["math.Float64frombits", "math.Float32bits"], apart := false, narrowed := true }
def FnExactAbsoluteIntervalUptoSaid : Prop := fnExactAbsoluteIntervalUptoRow.holds Try.pinned (OpenSpec.upto fnExactAbsoluteIntervalSpec)

/-- 'laws.FnExactWidenInterval', WHERE WHAT IT READS IS OF BULK AT MOST 1048576: true; the input reads as it did. -/
def fnExactWidenIntervalUptoRow : OpenClaim := { program := "ytlfgefcagjjfkaa", sum := "95546701b6993fc48153188f778c4c5e59439dd73764cc550cc02dd676f2643f", func := "loop.example/g01172/laws.FnExactWidenInterval", spec := "fnExactWidenInterval", inPlace := ["math.Float64frombits", "math.Float32bits", "math.Float32frombits"], recurses := true, apart := false, narrowed := true }
def FnExactWidenIntervalUptoSaid : Prop := fnExactWidenIntervalUptoRow.holds Try.pinned (OpenSpec.upto fnExactWidenIntervalSpec)

end Rows
end Go.Proofs.Ytlfgefcagjjfkaa
