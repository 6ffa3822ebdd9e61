/- Hd: D8 D9 D10, merged. -/
import Derived.Test.YtflgjecpjaiecaaGreatHcq4
import Derived.Test.YtflgjecpjaiecaaGreatHbq4
/- Contracts: the reference's quotient, cut and marked. -/
set_option linter.unusedVariables false
set_option linter.unusedSimpArgs false
set_option exponentiation.threshold 40000
namespace Go.Proofs.YtflgjecpjaiecaaGreat
open Go.RowKit Num Flt
theorem WhO.setT {w : World} {B G : Nat} {s : Int} {A : Option Addr} {n c : Nat} {a : Int} {t : TypeId} {cs : Array Value} (h : WhO w B s A n c a) (hk : Blk w G t cs) (ht : 2 ≠ t) (o : Nat) (u : Value) : WhO (w.setCell ⟨G, o, none⟩ u) B s A n c a := by
  obtain ⟨xs, h1, h2, h3, h4⟩ := h
  refine ⟨xs, h1, h2, h3, ?_⟩
  refine World.ownsRow.kept h4 (row := some G) ?_ ?_
  · exact ⟨rfl, rfl, rfl, by simp, fun i hi hne => Below.heap_setCell w _ _ i (fun e => hne (by rw [e]))⟩
  · cases hv : (Value.slice A n c).ownBlock with
    | none => exact Or.inl rfl
    | some k =>
      refine Or.inr (fun e => ?_)
      obtain ⟨⟨cs', hb⟩, _⟩ := O64.blk h4 hv
      cases e
      exact (hb.ne_ hk ht) rfl
/-- what the region leaves: both parts of a division in blocks of their own -/
def QmR (w0 : World) (q r : Int) (u v : Value) (wx : World) : Prop := ∃ (g6 g7 : Nat) (s1 : Int) (A1 : Option Addr) (n1 c1 : Nat) (s2 : Int) (A2 : Option Addr) (n2 c2 : Nat), u = .pointer (some ⟨g6, 0, none⟩) ∧ v = .pointer (some ⟨g7, 0, none⟩) ∧
  Hd (Below w0.heap.size w0 wx ∧ Blk wx g6 64 #[.int .i64 s1, .slice A1 n1 c1] ∧ Blk wx g7 64 #[.int .i64 s2, .slice A2 n2 c2] ∧ WhO wx 0 s1 A1 n1 c1 q ∧ WhO wx 0 s2 A2 n2 c2 r)
section
variable {w0 wk : World} {q r s1 s2 : Int} {A1 A2 : Option Addr} {n1 c1 n2 c2 g6 g7 : Nat}
theorem blk_set2 {w : World} {g : Nat} {s : Int} {A : Option Addr} {n c : Nat} {s0 : Int} {A0 : Option Addr} {n0 c0 : Nat} (h : Blk w g 64 #[.int .i64 s0, .slice A0 n0 c0]) : Blk ((w.setCell ⟨g, 0, none⟩ (.int .i64 s)).setCell ⟨g, 1, none⟩ (.slice A n c)) g 64 #[.int .i64 s, .slice A n c] := by
  have := (h.set_ 0 (.int .i64 s)).set_ 1 (.slice A n c)
  simpa using this
theorem WhO.set2 {w : World} {B g : Nat} {s : Int} {A : Option Addr} {n c : Nat} {a : Int} {cs : Array Value} (h : WhO w B s A n c a) (hk : Blk w g 64 cs) (u v : Value) : WhO ((w.setCell ⟨g, 0, none⟩ u).setCell ⟨g, 1, none⟩ v) B s A n c a :=
  (h.setT hk (by decide) 0 u).setT (hk.set_ 0 u) (by decide) 1 v
theorem QmR.e0 (hf : Below w0.heap.size w0 wk) (h6 : Blk wk g6 64 #[.int .i64 0, .slice none 0 0]) (h7 : Blk wk g7 64 #[.int .i64 0, .slice none 0 0]) (l6 : w0.heap.size ≤ g6) (l7 : w0.heap.size ≤ g7) (hne : g6 ≠ g7) (hq : WhO wk 0 s1 A1 n1 c1 q) (hr : WhO wk 0 s2 A2 n2 c2 r) :
    QmR w0 q r (.pointer (some ⟨g6, 0, none⟩)) (.pointer (some ⟨g7, 0, none⟩)) ((((wk.setCell ⟨g6, 0, none⟩ (.int .i64 s1)).setCell ⟨g6, 1, none⟩ (.slice A1 n1 c1)).setCell ⟨g7, 0, none⟩ (.int .i64 s2)).setCell ⟨g7, 1, none⟩ (.slice A2 n2 c2)) := by
  have k7 := (h7.far (p := ⟨g6, 0, none⟩) (by simpa using Ne.symm hne) (.int .i64 s1)).far (p := ⟨g6, 1, none⟩) (by simpa using Ne.symm hne) (.slice A1 n1 c1)
  exact ⟨g6, g7, s1, A1, n1, c1, s2, A2, n2, c2, rfl, rfl, ⟨Below.setCell (Below.setCell (Below.setCell (Below.setCell hf l6 _) l6 _) l7 _) l7 _, ((blk_set2 h6).far (by simpa using hne) _).far (by simpa using hne) _, blk_set2 k7, (hq.set2 h6 _ _).set2 k7 _ _, (hr.set2 h6 _ _).set2 k7 _ _⟩⟩
theorem QmR.ea (hf : Below w0.heap.size w0 wk) (h7 : Blk wk g7 64 #[.int .i64 0, .slice none 0 0]) (l7 : w0.heap.size ≤ g7) (hq : WhO wk 0 s1 A1 n1 c1 q) (hr : WhO wk 0 s2 A2 n2 c2 r) :
    QmR w0 q r (.pointer (some ⟨wk.heap.size, 0, none⟩)) (.pointer (some ⟨g7, 0, none⟩)) (((wk.setCell ⟨g7, 0, none⟩ (.int .i64 s2)).setCell ⟨g7, 1, none⟩ (.slice A2 n2 c2)).alloc (Obj.cells #[.int .i64 s1, .slice A1 n1 c1] 64)) := by
  refine ⟨wk.heap.size, g7, s1, A1, n1, c1, s2, A2, n2, c2, rfl, rfl, ⟨ba _ (Below.setCell (Below.setCell hf l7 _) l7 _), ?_, (blk_set2 h7).alloc _, (hq.set2 h7 _ _).keep (ba _ (Below.refl _ _)), (hr.set2 h7 _ _).keep (ba _ (Below.refl _ _))⟩⟩
  have := Blk.new ((wk.setCell ⟨g7, 0, none⟩ (.int .i64 s2)).setCell ⟨g7, 1, none⟩ (.slice A2 n2 c2)) 64 #[.int .i64 s1, .slice A1 n1 c1]
  simpa using this
theorem QmR.eb (hf : Below w0.heap.size w0 wk) (h6 : Blk wk g6 64 #[.int .i64 0, .slice none 0 0]) (l6 : w0.heap.size ≤ g6) (hq : WhO wk 0 s1 A1 n1 c1 q) (hr : WhO wk 0 s2 A2 n2 c2 r) :
    QmR w0 q r (.pointer (some ⟨g6, 0, none⟩)) (.pointer (some ⟨wk.heap.size, 0, none⟩)) (((wk.setCell ⟨g6, 0, none⟩ (.int .i64 s1)).setCell ⟨g6, 1, none⟩ (.slice A1 n1 c1)).alloc (Obj.cells #[.int .i64 s2, .slice A2 n2 c2] 64)) := by
  refine ⟨g6, wk.heap.size, s1, A1, n1, c1, s2, A2, n2, c2, rfl, rfl, ⟨ba _ (Below.setCell (Below.setCell hf l6 _) l6 _), (blk_set2 h6).alloc _, ?_, (hq.set2 h6 _ _).keep (ba _ (Below.refl _ _)), (hr.set2 h6 _ _).keep (ba _ (Below.refl _ _))⟩⟩
  have := Blk.new ((wk.setCell ⟨g6, 0, none⟩ (.int .i64 s1)).setCell ⟨g6, 1, none⟩ (.slice A1 n1 c1)) 64 #[.int .i64 s2, .slice A2 n2 c2]
  simpa using this
end
structure RtH (w wx : World) (s t e e' : Int) (A A' : Option Addr) (n c c' : Nat) : Prop where
  bel : Below w.heap.size w wx
  b0 : Blk wx w.heap.size 66 #[.int .i64 s, .slice A n c, .int .i64 e]
  b1 : Blk wx (w.heap.size + 1) 66 #[.int .i64 t, .slice A' 1 c', .int .i64 e']
  b2 : Blk wx (w.heap.size + 1 + 1) 66 #[.int .i64 0, .slice none 0 0, .int .i64 0]
theorem RtH.below {w wx w' : World} {s t e e' : Int} {A A' : Option Addr} {n c c' : Nat} (h : RtH w wx s t e e' A A' n c c') (hb : Below wx.heap.size wx w') : RtH w w' s t e e' A A' n c c' :=
  ⟨bt3 hb h.bel, h.b0.below hb h.b0.lt, h.b1.below hb h.b1.lt, h.b2.below hb h.b2.lt⟩
theorem RtH.start (w : World) (s t e e' : Int) (A A' : Option Addr) (n c c' : Nat) : RtH w (((w.alloc (Obj.cells #[.int .i64 s, .slice A n c, .int .i64 e] 66)).alloc (Obj.cells #[.int .i64 t, .slice A' 1 c', .int .i64 e'] 66)).alloc (Obj.cells #[.int .i64 0, .slice none 0 0, .int .i64 0] 66)) s t e e' A A' n c c' := by
  refine ⟨ba _ (ba _ (ba _ (Below.refl _ _))), ((Blk.new _ _ _).alloc _).alloc _, ?_, ?_⟩
  · have := (Blk.new (w.alloc (Obj.cells #[.int .i64 s, .slice A n c, .int .i64 e] 66)) 66 #[.int .i64 t, .slice A' 1 c', .int .i64 e']).alloc (Obj.cells #[.int .i64 0, .slice none 0 0, .int .i64 0] 66)
    simpa using this
  · have := Blk.new ((w.alloc (Obj.cells #[.int .i64 s, .slice A n c, .int .i64 e] 66)).alloc (Obj.cells #[.int .i64 t, .slice A' 1 c', .int .i64 e'] 66)) 66 #[.int .i64 0, .slice none 0 0, .int .i64 0]
    simpa using this
theorem RtH.cells {w wx : World} {s t e e' : Int} {A A' : Option Addr} {n c c' : Nat} (h : RtH w wx s t e e' A A' n c c') : (fun w' => w'.cell? ⟨w.heap.size, 0, none⟩ = some (.int .i64 s) ∧ w'.cell? ⟨w.heap.size, 1, none⟩ = some (.slice A n c) ∧ w'.cell? ⟨w.heap.size + 1, 0, none⟩ = some (.int .i64 t) ∧ w'.cell? ⟨w.heap.size + 1, 1, none⟩ = some (.slice A' 1 c')) wx := ⟨h.b0.cell 0, h.b0.cell 1, h.b1.cell 0, h.b1.cell 1⟩
end Go.Proofs.YtflgjecpjaiecaaGreat
/- Plain facts: both quotients are rounded alike. -/
set_option linter.unusedVariables false
set_option linter.unusedSimpArgs false
set_option exponentiation.threshold 40000
namespace Go.Proofs.YtflgjecpjaiecaaGreat
open Go.RowKit Num Flt
end Go.Proofs.YtflgjecpjaiecaaGreat
/- Plain facts: the reference's quotient and the program's quotient of two floats are rounded alike. -/
set_option linter.unusedVariables false
set_option linter.unusedSimpArgs false
set_option exponentiation.threshold 40000
namespace Go.Proofs.YtflgjecpjaiecaaGreat
open Go.RowKit Num Flt
end Go.Proofs.YtflgjecpjaiecaaGreat
