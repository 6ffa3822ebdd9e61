/- Gt: S34, merged. -/
import Derived.Test.YtflgjecpjaiecaaGreatGsq3
/- Contracts: sums of pairs, both sides. -/
set_option linter.unusedVariables false
set_option linter.unusedSimpArgs false
namespace Go.Proofs.YtflgjecpjaiecaaGreat
open Go.RowKit Num Flt
abbrev Wq3 (w : World) (a b c d : Nat) : World := ((w.alloc (Obj.cells #[.float .f32 a, .float .f32 b] 30)).alloc (Obj.cells #[.float .f32 c, .float .f32 d] 30)).alloc (Obj.cells #[.float .f32 0, .float .f32 0] 30)
/-- what a function of two pairs holds: the pairs, and the result -/
structure PW (w wx : World) (a b c d : Nat) : Prop where
  bel : Below w.heap.size w wx
  b0 : Blk wx w.heap.size 30 #[.float .f32 a, .float .f32 b]
  b1 : Blk wx (w.heap.size + 1) 30 #[.float .f32 c, .float .f32 d]
  b2 : Blk wx (w.heap.size + 1 + 1) 30 #[.float .f32 0, .float .f32 0]
theorem PW.start (w : World) (a b c d : Nat) : PW w (Wq3 w a b c d) a b c d := by
  refine ⟨ba _ (ba _ (ba _ (Below.refl _ _))), ((Blk.new _ _ _).alloc _).alloc _, ?_, ?_⟩
  · have := (Blk.new (w.alloc (Obj.cells #[.float .f32 a, .float .f32 b] 30)) 30 #[.float .f32 c, .float .f32 d]).alloc (Obj.cells #[.float .f32 0, .float .f32 0] 30)
    simpa [Wq3] using this
  · have := Blk.new ((w.alloc (Obj.cells #[.float .f32 a, .float .f32 b] 30)).alloc (Obj.cells #[.float .f32 c, .float .f32 d] 30)) 30 #[.float .f32 0, .float .f32 0]
    simpa [Wq3] using this
theorem PW.below {w wx w' : World} {a b c d : Nat} (h : PW w wx a b c d) (hb : Below wx.heap.size wx w') : PW w w' a b c d :=
  ⟨bt3 hb h.bel, h.b0.below hb h.b0.lt, h.b1.below hb h.b1.lt, h.b2.below hb h.b2.lt⟩
end Go.Proofs.YtflgjecpjaiecaaGreat
