/- Gi: S21 S22, merged. -/
import Derived.Test.YtflgjecpjaiecaaGreatGhq1
/- Contracts: exact sums of two floats, both sides. -/
set_option linter.unusedVariables false
set_option linter.unusedSimpArgs false
namespace Go.Proofs.YtflgjecpjaiecaaGreat
open Go.RowKit Num Flt
/-! sums and products of finite floats are words that are not NaN -/
theorem word_W (s : Bool) {r : Nat} (h : r ≤ 2139095040) : W (Ieee.single.word s r) ∧ ¬ nan (Ieee.single.word s r) := by
  have hw : Ieee.single.signWeight = 2147483648 := by decide
  unfold Ieee.Format.word W nan
  rw [hw]; cases s <;> simp <;> omega
theorem nearest_W (s : Bool) (m : Nat) (p : Int) : W (Ieee.single.nearest s m p) ∧ ¬ nan (Ieee.single.nearest s m p) := by
  unfold Ieee.Format.nearest
  dsimp only
  split
  · exact word_W _ (by decide)
  · exact word_W _ (Nat.le_trans (Nat.min_le_right ..) (by decide))
theorem rF_num (mode V : Int) : W (rF mode V) ∧ ¬ nan (rF mode V) := by
  unfold rF
  split
  · exact ⟨by unfold W; omega, by decide⟩
  · have := rgN_le mode (decide (V < 0)) V.natAbs
    unfold nan W; split <;> omega
theorem fv_bd2 {x y : Nat} (hx : fin x) (hy : fin y) : Bd (fv x + fv y) := by
  have h1 := fv_lt hx
  have h2 := fv_lt hy
  have h3 := FB_top
  unfold Bd; generalize TOP = T at *; generalize FB = F at *; omega
def RetV (v : Value) (w : World) (e : Ending) (w' : World) : Prop := e = .returned v ∧ Below w.heap.size w w'
end Go.Proofs.YtflgjecpjaiecaaGreat
/- Contracts: exact sums of two floats, both sides. -/
set_option linter.unusedVariables false
set_option linter.unusedSimpArgs false
namespace Go.Proofs.YtflgjecpjaiecaaGreat
open Go.RowKit Num Flt
theorem NuF.neg {m e V : Int} {l : Nat} (h : NuF m e V l) : NuF (-m) e (-V) l :=
  ⟨by rw [h.val]; unfold dv; rw [Int.neg_mul], h.lo, h.lsc, h.hi, h.bd.neg⟩
theorem NuP.more {w : World} {g : Nat} {e V : Int} {l l' : Nat} (h : NuP w g e V l) (hl : l ≤ l') (hs : l' ≤ SC) : NuP w g e V l' := by
  obtain ⟨m, h1, h2⟩ := h; exact ⟨m, h1, h2.more hl hs⟩
/-- what the middle of a function of a number holds -/
structure N1H (w wb : World) (g : Nat) (e : Int) : Prop where
  bel : Below w.heap.size w wb
  siz : w.heap.size + 1 + 1 ≤ wb.heap.size
  b0 : Blk wb w.heap.size 113 #[.pointer (some ⟨g, 0, none⟩), .int .i64 e]
  b1 : Blk wb (w.heap.size + 1) 113 #[.pointer none, .int .i64 0]
abbrev N1 (w : World) (g : Nat) (e : Int) : World := (w.alloc (Obj.cells #[.pointer (some ⟨g, 0, none⟩), .int .i64 e] 113)).alloc (Obj.cells #[.pointer none, .int .i64 0] 113)
theorem N1H.start (w : World) (g : Nat) (e : Int) : N1H w (N1 w g e) g e := by
  refine ⟨ba _ (ba _ (Below.refl _ _)), by simp [N1], (Blk.new _ _ _).alloc _, ?_⟩
  have := Blk.new (w.alloc (Obj.cells #[.pointer (some ⟨g, 0, none⟩), .int .i64 e] 113)) 113 #[.pointer none, .int .i64 0]
  simpa [N1] using this
theorem N1H.below {w wb w' : World} {g : Nat} {e : Int} (h : N1H w wb g e) (hb : Below wb.heap.size wb w') : N1H w w' g e :=
  ⟨bt3 hb h.bel, Nat.le_trans h.siz hb.size, h.b0.below hb h.b0.lt, h.b1.below hb h.b1.lt⟩
abbrev Wp (w : World) : World := w.alloc (Obj.cells #[.float .f32 0, .float .f32 0] 30)
theorem Wp.bel (w : World) : Below w.heap.size w (Wp w) := ba _ (Below.refl _ _)
theorem Wp.blk (w : World) : Blk (Wp w) w.heap.size 30 #[.float .f32 0, .float .f32 0] := Blk.new _ _ _
theorem Wp.lt (w : World) : w.heap.size < (Wp w).heap.size := by simp [Wp]
/-! the answers of ExactSum -/
end Go.Proofs.YtflgjecpjaiecaaGreat
