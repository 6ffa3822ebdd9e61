/- Gp: S29 S30 S31, merged. -/
import Derived.Test.YtflgjecpjaiecaaGreatGnq4
import Derived.Test.YtflgjecpjaiecaaGreatGjq4
/- Contracts: sums and differences of intervals, widths, both sides. -/
set_option linter.unusedVariables false
set_option linter.unusedSimpArgs false
namespace Go.Proofs.YtflgjecpjaiecaaGreat
open Go.RowKit Num Flt
abbrev Wi3 (w : World) (a b c d : Nat) : World := ((w.alloc (Obj.cells #[.float .f32 a, .float .f32 b] 41)).alloc (Obj.cells #[.float .f32 c, .float .f32 d] 41)).alloc (Obj.cells #[.float .f32 0, .float .f32 0] 41)
theorem Wi3.bel (w : World) (a b c d : Nat) : Below w.heap.size w (Wi3 w a b c d) := ba _ (ba _ (ba _ (Below.refl _ _)))
theorem Wi3.b0 (w : World) (a b c d : Nat) : Blk (Wi3 w a b c d) w.heap.size 41 #[.float .f32 a, .float .f32 b] := ((Blk.new _ _ _).alloc _).alloc _
theorem Wi3.b1 (w : World) (a b c d : Nat) : Blk (Wi3 w a b c d) (w.heap.size + 1) 41 #[.float .f32 c, .float .f32 d] := by
  have := (Blk.new (w.alloc (Obj.cells #[.float .f32 a, .float .f32 b] 41)) 41 #[.float .f32 c, .float .f32 d]).alloc (Obj.cells #[.float .f32 0, .float .f32 0] 41)
  simpa [Wi3] using this
theorem Wi3.b2 (w : World) (a b c d : Nat) : Blk (Wi3 w a b c d) (w.heap.size + 1 + 1) 41 #[.float .f32 0, .float .f32 0] := by
  have := Blk.new ((w.alloc (Obj.cells #[.float .f32 a, .float .f32 b] 41)).alloc (Obj.cells #[.float .f32 c, .float .f32 d] 41)) 41 #[.float .f32 0, .float .f32 0]
  simpa [Wi3] using this
end Go.Proofs.YtflgjecpjaiecaaGreat
/- Contracts: sums and differences of intervals, widths, both sides: the reference's sums, the exported functions. -/
set_option linter.unusedVariables false
set_option linter.unusedSimpArgs false
namespace Go.Proofs.YtflgjecpjaiecaaGreat
open Go.RowKit Num Flt
end Go.Proofs.YtflgjecpjaiecaaGreat
/- Contracts: sums and differences of intervals, widths, both sides: the exported functions. -/
set_option linter.unusedVariables false
set_option linter.unusedSimpArgs false
namespace Go.Proofs.YtflgjecpjaiecaaGreat
open Go.RowKit Num Flt
abbrev Wi1 (w : World) (a b : Nat) : World := w.alloc (Obj.cells #[.float .f32 a, .float .f32 b] 41)
theorem Wi1.blk (w : World) (a b : Nat) : Blk (Wi1 w a b) w.heap.size 41 #[.float .f32 a, .float .f32 b] := Blk.new _ _ _
/-! sums and differences -/
end Go.Proofs.YtflgjecpjaiecaaGreat
