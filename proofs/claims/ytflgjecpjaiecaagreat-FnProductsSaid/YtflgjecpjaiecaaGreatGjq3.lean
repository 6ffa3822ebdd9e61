/- Gj: S23, merged. -/
import Derived.Test.YtflgjecpjaiecaaGreatGiq3
/- Contracts: the middle of an interval, both sides. -/
set_option linter.unusedVariables false
set_option linter.unusedSimpArgs false
namespace Go.Proofs.YtflgjecpjaiecaaGreat
open Go.RowKit Num Flt
theorem DyP.bounds {w : World} {s : Int} {A : Option Addr} {n c l : Nat} {e V : Int} (h : DyP w s A n c e V l) : -20000 ≤ e ∧ e ≤ 2400000 := by
  obtain ⟨m, h1, h2⟩ := h
  have hsc : (SC : Nat) = 20000 := rfl
  have := h2.lo; have := h2.lsc; have := h2.hi; omega
theorem DyP.zero {w : World} {s : Int} {A : Option Addr} {n c l : Nat} {e V : Int} (h : DyP w s A n c e V l) (hs : s = 0) : V = 0 := by
  have := dy_sign h; rw [hs] at this
  exact Int.sign_eq_zero_iff_zero.1 this.symm
/-! infinite ends -/
/-- what the reference's middle holds behind the sum -/
structure MidC (w wx : World) (g : Nat) (s : Int) (A : Option Addr) (n c : Nat) (e V : Int) : Prop where
  bel : Below w.heap.size w wx
  c0 : wx.cell? ⟨g, 0, none⟩ = some (.int .i64 s)
  c1 : wx.cell? ⟨g, 1, none⟩ = some (.slice A n c)
  c2 : wx.cell? ⟨g, 2, none⟩ = some (.int .i64 e)
  f2 : wx.frozen? ⟨g, 2, none⟩ = false
  dy : DyP wx s A n c e V 149
  stb : ∀ o u, DyP (wx.setCell ⟨g, o, none⟩ u) s A n c e V 149
  lt : w.heap.size < g
theorem MidC.ofSet {w wx : World} {g B : Nat} {s : Int} {A : Option Addr} {n c : Nat} {e V : Int} (hb : Below w.heap.size w wx) (hD : DyO wx B s A n c e V 149) (hg : g < B) (hB : Blk wx g 66 #[.int .i64 0, .slice none 0 0, .int .i64 0]) (hlt : w.heap.size < g) :
    MidC w (((wx.setCell ⟨g, 0, none⟩ (.int .i64 s)).setCell ⟨g, 1, none⟩ (.slice A n c)).setCell ⟨g, 2, none⟩ (.int .i64 e)) g s A n c e V := by
  have K : Blk (((wx.setCell ⟨g, 0, none⟩ (.int .i64 s)).setCell ⟨g, 1, none⟩ (.slice A n c)).setCell ⟨g, 2, none⟩ (.int .i64 e)) g 66 #[.int .i64 s, .slice A n c, .int .i64 e] := ((hB.set_ 0 _).set_ 1 _).set_ 2 _
  have hs := ((hD.set g 0 hg (.int .i64 s)).set g 1 hg (.slice A n c)).set g 2 hg (.int .i64 e)
  exact ⟨((hb.setCell (by simp; omega) _).setCell (by simp; omega) _).setCell (by simp; omega) _, K.cell 0, K.cell 1, K.cell 2, K.frozen 2, hs.dp, fun o u => (hs.set g o hg u).dp, hlt⟩
theorem MidC.ofNew {w wx : World} {s : Int} {A : Option Addr} {n c : Nat} {e V : Int} (hb : Below w.heap.size w wx) (hD : DyP wx s A n c e V 149) (hlt : w.heap.size < wx.heap.size) :
    MidC w (wx.alloc (Obj.cells #[.int .i64 s, .slice A n c, .int .i64 e] 66)) wx.heap.size s A n c e V := by
  have K := Blk.new wx 66 #[.int .i64 s, .slice A n c, .int .i64 e]
  have hb2 : Below wx.heap.size wx (wx.alloc (Obj.cells #[.int .i64 s, .slice A n c, .int .i64 e] 66)) := ba _ (Below.refl _ _)
  exact ⟨ba _ hb, K.cell 0, K.cell 1, K.cell 2, K.frozen 2, hD.below hb2, fun o u => hD.below (hb2.setCell (Nat.le_refl _) u), hlt⟩
/-! the answers of MiddleOf -/
end Go.Proofs.YtflgjecpjaiecaaGreat
