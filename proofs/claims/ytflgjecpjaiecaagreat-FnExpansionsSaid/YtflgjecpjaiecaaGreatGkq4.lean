/- Gk: S24, merged. -/
import Derived.Test.YtflgjecpjaiecaaGreatGiq4
/- Contracts: products of whole numbers and of dyadic numbers, both sides. -/
set_option linter.unusedVariables false
set_option linter.unusedSimpArgs false
namespace Go.Proofs.YtflgjecpjaiecaaGreat
open Go.RowKit Num Flt
abbrev Wml (w : World) (s : Int) (A : Option Addr) (n c : Nat) (t : Int) (A' : Option Addr) (m c' : Nat) : World := ((w.alloc (Obj.cells #[.int .i64 s, .slice A n c] 64)).alloc (Obj.cells #[.int .i64 t, .slice A' m c'] 64)).alloc (Obj.cells #[.int .i64 0, .slice none 0 0] 64)
/-- what a product of whole numbers holds -/
structure MlH (w wr : World) (s : Int) (A : Option Addr) (n c : Nat) (t : Int) (A' : Option Addr) (m c' : Nat) : Prop where
  bel : Below w.heap.size w wr
  b0 : Blk wr w.heap.size 64 #[.int .i64 s, .slice A n c]
  b1 : Blk wr (w.heap.size + 1) 64 #[.int .i64 t, .slice A' m c']
  b2 : Blk wr (w.heap.size + 1 + 1) 64 #[.int .i64 0, .slice none 0 0]
theorem MlH.start (w : World) (s : Int) (A : Option Addr) (n c : Nat) (t : Int) (A' : Option Addr) (m c' : Nat) : MlH w (Wml w s A n c t A' m c') s A n c t A' m c' := by
  refine ⟨ba _ (ba _ (ba _ (Below.refl _ _))), ((Blk.new _ _ _).alloc _).alloc _, ?_, ?_⟩
  · have := (Blk.new (w.alloc (Obj.cells #[.int .i64 s, .slice A n c] 64)) 64 #[.int .i64 t, .slice A' m c']).alloc (Obj.cells #[.int .i64 0, .slice none 0 0] 64)
    simpa [Wml] using this
  · have := Blk.new ((w.alloc (Obj.cells #[.int .i64 s, .slice A n c] 64)).alloc (Obj.cells #[.int .i64 t, .slice A' m c'] 64)) 64 #[.int .i64 0, .slice none 0 0]
    simpa [Wml] using this
theorem MlH.below {w wb w' : World} {s : Int} {A : Option Addr} {n c : Nat} {t : Int} {A' : Option Addr} {m c' : Nat} (h : MlH w wb s A n c t A' m c') (hb : Below wb.heap.size wb w') : MlH w w' s A n c t A' m c' :=
  ⟨bt3 hb h.bel, h.b0.below hb h.b0.lt, h.b1.below hb h.b1.lt, h.b2.below hb h.b2.lt⟩
theorem MlH.set {w wb : World} {s : Int} {A : Option Addr} {n c : Nat} {t : Int} {A' : Option Addr} {m c' g : Nat} (h : MlH w wb s A n c t A' m c') (hg : w.heap.size + 1 + 1 < g) (o : Nat) (u : Value) : MlH w (wb.setCell ⟨g, o, none⟩ u) s A n c t A' m c' :=
  ⟨h.bel.setCell (by simp; omega) _, h.b0.far (by simp; omega) _, h.b1.far (by simp; omega) _, h.b2.far (by simp; omega) _⟩
theorem MlH.size {w wb : World} {s : Int} {A : Option Addr} {n c : Nat} {t : Int} {A' : Option Addr} {m c' : Nat} (h : MlH w wb s A n c t A' m c') : w.heap.size + 1 + 1 + 1 ≤ wb.heap.size := h.b2.lt
abbrev Wd3 (w : World) (s : Int) (A : Option Addr) (n c : Nat) (e t : Int) (A' : Option Addr) (m c' : Nat) (d : Int) : World := ((w.alloc (Obj.cells #[.int .i64 s, .slice A n c, .int .i64 e] 66)).alloc (Obj.cells #[.int .i64 t, .slice A' m c', .int .i64 d] 66)).alloc (Obj.cells #[.int .i64 0, .slice none 0 0, .int .i64 0] 66)
structure D3H (w wr : World) (s : Int) (A : Option Addr) (n c : Nat) (e t : Int) (A' : Option Addr) (m c' : Nat) (d : Int) : Prop where
  bel : Below w.heap.size w wr
  b0 : Blk wr w.heap.size 66 #[.int .i64 s, .slice A n c, .int .i64 e]
  b1 : Blk wr (w.heap.size + 1) 66 #[.int .i64 t, .slice A' m c', .int .i64 d]
  b2 : Blk wr (w.heap.size + 1 + 1) 66 #[.int .i64 0, .slice none 0 0, .int .i64 0]
theorem D3H.start (w : World) (s : Int) (A : Option Addr) (n c : Nat) (e t : Int) (A' : Option Addr) (m c' : Nat) (d : Int) : D3H w (Wd3 w s A n c e t A' m c' d) s A n c e t A' m c' d := by
  refine ⟨ba _ (ba _ (ba _ (Below.refl _ _))), ((Blk.new _ _ _).alloc _).alloc _, ?_, ?_⟩
  · have := (Blk.new (w.alloc (Obj.cells #[.int .i64 s, .slice A n c, .int .i64 e] 66)) 66 #[.int .i64 t, .slice A' m c', .int .i64 d]).alloc (Obj.cells #[.int .i64 0, .slice none 0 0, .int .i64 0] 66)
    simpa [Wd3] using this
  · have := Blk.new ((w.alloc (Obj.cells #[.int .i64 s, .slice A n c, .int .i64 e] 66)).alloc (Obj.cells #[.int .i64 t, .slice A' m c', .int .i64 d] 66)) 66 #[.int .i64 0, .slice none 0 0, .int .i64 0]
    simpa [Wd3] using this
theorem D3H.below {w wb w' : World} {s : Int} {A : Option Addr} {n c : Nat} {e t : Int} {A' : Option Addr} {m c' : Nat} {d : Int} (h : D3H w wb s A n c e t A' m c' d) (hb : Below wb.heap.size wb w') : D3H w w' s A n c e t A' m c' d :=
  ⟨bt3 hb h.bel, h.b0.below hb h.b0.lt, h.b1.below hb h.b1.lt, h.b2.below hb h.b2.lt⟩
theorem bd_fb {a : Int} {k : Int} (h0 : -(FB * k) < a) (h1 : a < FB * k) (hk : k ≤ 1024) : Bd a := by
  have h3 := FB_top
  have h4 : FB * k ≤ FB * 1024 := Int.mul_le_mul_of_nonneg_left hk (Int.le_of_lt FB_pos)
  unfold Bd; generalize TOP = T at *; generalize FB * k = F at *; generalize FB * 1024 = F2 at *; omega
end Go.Proofs.YtflgjecpjaiecaaGreat
