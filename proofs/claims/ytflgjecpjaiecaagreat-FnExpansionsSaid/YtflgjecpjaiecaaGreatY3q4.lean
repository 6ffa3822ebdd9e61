/- Contracts: draws of two floats and a mode. -/
import Derived.Test.YtflgjecpjaiecaaGreatY2q4
import Derived.Test.YtflgjecpjaiecaaGreatGhq4
set_option linter.unusedVariables false
set_option linter.unusedSimpArgs false
namespace Go.Proofs.YtflgjecpjaiecaaGreat
open Go.RowKit Num Flt
/-- a source g, made behind w -/
structure SrcAt (w wx : World) (g : Nat) : Prop where
  src : Src wx g
  ge : w.heap.size ≤ g
  bel : Below w.heap.size w wx
theorem SrcAt.grown {w wx w' : World} {g : Nat} (h : SrcAt w wx g) (hs : Src w' g) (hg : wx.grownBy w' (some g)) : SrcAt w w' g := ⟨hs, h.ge, below_grown h.bel h.ge h.bel.size hg⟩
theorem SrcAt.below {w wx w' : World} {g : Nat} (h : SrcAt w wx g) (hb : Below wx.heap.size wx w') : SrcAt w w' g := ⟨h.src.below hb, h.ge, bt3 hb h.bel⟩
theorem CodeP.more' {w w' : World} {A : Option Addr} {n : Nat} {xs : List Nat} (h : CodeP w w.heap.size A n xs) (hb : Below w.heap.size w w') : CodeP w' w'.heap.size A n xs := (h.below hb).more hb.size
end Go.Proofs.YtflgjecpjaiecaaGreat
