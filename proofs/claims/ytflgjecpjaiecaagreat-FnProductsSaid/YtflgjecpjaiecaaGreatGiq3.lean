/- Gi: S21 S22, merged. -/
import Derived.Test.YtflgjecpjaiecaaGreatGhq3
/- Contracts: exact sums of two floats, both sides. -/
set_option linter.unusedVariables false
set_option linter.unusedSimpArgs false
namespace Go.Proofs.YtflgjecpjaiecaaGreat
open Go.RowKit Num Flt
/-! sums and products of finite floats are words that are not NaN -/
theorem word_W (s : Bool) {r : Nat} (h : r ≤ 2139095040) : W (Ieee.single.word s r) ∧ ¬ nan (Ieee.single.word s r) := by
  have hw : Ieee.single.signWeight = 2147483648 := by decide
  unfold Ieee.Format.word W nan
  rw [hw]; cases s <;> simp <;> omega
theorem nearest_W (s : Bool) (m : Nat) (p : Int) : W (Ieee.single.nearest s m p) ∧ ¬ nan (Ieee.single.nearest s m p) := by
  unfold Ieee.Format.nearest
  dsimp only
  split
  · exact word_W _ (by decide)
  · exact word_W _ (Nat.le_trans (Nat.min_le_right ..) (by decide))
theorem read_f {x : Nat} (h : fin x) : ∃ s m p, Ieee.single.read x = .number s m p := ⟨_, _, _, read_fin Ieee.single (by decide) (show x % Ieee.single.signWeight < Ieee.single.infRung from h)⟩
def muF (x y : Nat) : Nat := (floatBits .mul .f32 x y).getD 0
theorem mul_some {x y : Nat} (hx : fin x) (hy : fin y) : floatBits .mul .f32 x y = some (muF x y) ∧ W (muF x y) ∧ ¬ nan (muF x y) := by
  obtain ⟨s, m, p, h1⟩ := read_f hx
  obtain ⟨t, n, q, h2⟩ := read_f hy
  have : ∃ a b c, floatBits .mul .f32 x y = some (Ieee.single.nearest a b c) := by
    show ∃ a b c, Ieee.single.mul x y = _
    unfold Ieee.Format.mul
    rw [h1, h2]
    exact ⟨_, _, _, rfl⟩
  obtain ⟨a, b, c, h⟩ := this
  unfold muF
  rw [h]
  exact ⟨rfl, nearest_W a b c⟩
theorem rF_num (mode V : Int) : W (rF mode V) ∧ ¬ nan (rF mode V) := by
  unfold rF
  split
  · exact ⟨by unfold W; omega, by decide⟩
  · have := rgN_le mode (decide (V < 0)) V.natAbs
    unfold nan W; split <;> omega
theorem fv_bd2 {x y : Nat} (hx : fin x) (hy : fin y) : Bd (fv x + fv y) := by
  have h1 := fv_lt hx
  have h2 := fv_lt hy
  have h3 := FB_top
  unfold Bd; generalize TOP = T at *; generalize FB = F at *; omega
theorem s_RoundR (s : Int) (A : Option Addr) (n c : Nat) (e V mode : Int) (l : Nat) (w : World) (y : Nat) (f : Int) (hX : DyP w s A n c e V l) (hmd : 0 ≤ mode ∧ mode ≤ 4) (hy : rF mode V = y) (hf : rFl mode V = f) :
    Calls Tryz.prog 155 #[.agg #[.int .i64 s, .slice A n c, .int .i64 e], .int .i64 mode] w fun e w' => e = .returned (.tuple #[.float .f32 y, .int .i64 f]) ∧ Below w.heap.size w w' := by
  subst hy hf; exact s_Round s A n c e V mode l w hX hmd
theorem n_RoundR (i : Nat) (e V mode : Int) (l : Nat) (w : World) (y : Nat) (f : Int) (hX : NuP w i e V l) (hmd : 0 ≤ mode ∧ mode ≤ 4) (hy : rF mode V = y) (hf : rFl mode V = f) :
    Calls Tryz.prog 117 #[.agg #[.pointer (some ⟨i, 0, none⟩), .int .i64 e], .int .i64 mode] w fun e w' => e = .returned (.tuple #[.float .f32 y, .int .i64 f]) ∧ Below w.heap.size w w' := by
  subst hy hf; exact n_Round i e V mode l w hX hmd
def RetV (v : Value) (w : World) (e : Ending) (w' : World) : Prop := e = .returned v ∧ Below w.heap.size w w'
end Go.Proofs.YtflgjecpjaiecaaGreat
/- Contracts: exact sums of two floats, both sides. -/
set_option linter.unusedVariables false
set_option linter.unusedSimpArgs false
namespace Go.Proofs.YtflgjecpjaiecaaGreat
open Go.RowKit Num Flt
theorem NuF.neg {m e V : Int} {l : Nat} (h : NuF m e V l) : NuF (-m) e (-V) l :=
  ⟨by rw [h.val]; unfold dv; rw [Int.neg_mul], h.lo, h.lsc, h.hi, h.bd.neg⟩
theorem NuF.bdm {m e V : Int} {l : Nat} (h : NuF m e V l) : Bd m := dv_bd (e := e) (by rw [← h.val]; exact h.bd)
theorem NuP.more {w : World} {g : Nat} {e V : Int} {l l' : Nat} (h : NuP w g e V l) (hl : l ≤ l') (hs : l' ≤ SC) : NuP w g e V l' := by
  obtain ⟨m, h1, h2⟩ := h; exact ⟨m, h1, h2.more hl hs⟩
/-- what the middle of a function of a number holds -/
structure N1H (w wb : World) (g : Nat) (e : Int) : Prop where
  bel : Below w.heap.size w wb
  siz : w.heap.size + 1 + 1 ≤ wb.heap.size
  b0 : Blk wb w.heap.size 113 #[.pointer (some ⟨g, 0, none⟩), .int .i64 e]
  b1 : Blk wb (w.heap.size + 1) 113 #[.pointer none, .int .i64 0]
abbrev N1 (w : World) (g : Nat) (e : Int) : World := (w.alloc (Obj.cells #[.pointer (some ⟨g, 0, none⟩), .int .i64 e] 113)).alloc (Obj.cells #[.pointer none, .int .i64 0] 113)
theorem N1H.start (w : World) (g : Nat) (e : Int) : N1H w (N1 w g e) g e := by
  refine ⟨ba _ (ba _ (Below.refl _ _)), by simp [N1], (Blk.new _ _ _).alloc _, ?_⟩
  have := Blk.new (w.alloc (Obj.cells #[.pointer (some ⟨g, 0, none⟩), .int .i64 e] 113)) 113 #[.pointer none, .int .i64 0]
  simpa [N1] using this
theorem N1H.below {w wb w' : World} {g : Nat} {e : Int} (h : N1H w wb g e) (hb : Below wb.heap.size wb w') : N1H w w' g e :=
  ⟨bt3 hb h.bel, Nat.le_trans h.siz hb.size, h.b0.below hb h.b0.lt, h.b1.below hb h.b1.lt⟩
set_option maxHeartbeats 4000000 in
theorem n_Neg (g : Nat) (e V : Int) (l : Nat) (w : World) (hA : NuP w g e V l) :
    Calls Tryz.prog 214 #[.agg #[.pointer (some ⟨g, 0, none⟩), .int .i64 e]] w (RetN (-V) l w) := by
  obtain ⟨m, hB, fB⟩ := hA
  have HNF : Hd (NuF (-m) e (-V) l ∧ Bd (-m)) := ⟨⟨fB.neg, fB.bdm.neg⟩⟩
  have HH : Hd (N1H w (N1 w g e) g e) := ⟨N1H.start ..⟩
  have HB : Hd (Big (N1 w g e) g m) := ⟨hB.below HH.out.bel⟩
  clear hB fB
  go_enter Tryz.func214, Tryz.ntmps214
  go_wp2_with fail
  unfold N1 at HH HB
  generalize hwb : (w.alloc (Obj.cells #[.pointer (some ⟨g, 0, none⟩), .int .i64 e] 113)).alloc (Obj.cells #[.pointer none, .int .i64 0] 113) = wb at *
  clear hwb
  have hs1 := HH.out.siz
  have c0 : wb.cell? _ = some (.pointer (some ⟨g, 0, none⟩)) := HH.out.b0.cell 0
  have c1 : wb.cell? _ = some (.int .i64 e) := HH.out.b0.cell 1
  have n1 : ¬ (w.heap.size + 1 = w.heap.size) := by omega
  have ne0 := World.new_ne wb ⟨w.heap.size, 0, none⟩ c0
  go_region_held3 (fun w' => w'.cell? ⟨w.heap.size, 0, none⟩ = some (.pointer (some ⟨g, 0, none⟩)) ∧ w'.cell? ⟨w.heap.size, 1, none⟩ = some (.int .i64 e)) ((first | assumption | (exact keep2 hq ⟨c0, c1⟩) | go_keep | (refine ⟨?_, ?_⟩ <;> go_simp) | (constructor <;> go_simp)))
    (first | (go_at_call 257; (with_reducible refine (m_NegZ _ g m _ (by first | exact IntB.new _ | exact (IntB.new _).drew) (HB.out.below (by (repeat (first | exact Below.refl _ _ | assumption | refine Below.drew ?_ | refine bdn ?_ | refine ba _ ?_ | refine bs0 _ _ ?_ ?_ | refine bs1 _ _ _ ?_ ?_ | refine bs2 _ _ _ _ ?_ ?_ | refine bs3 _ _ _ _ _ ?_ ?_ | refine bt3 (by assumption) ?_)))) HNF.out.2).mono ?_); rintro e5 w5 ⟨rfl, hB5, hg5⟩; have hq : Below wb.heap.size wb w5 := Below.grown (by (repeat (first | exact Below.refl _ _ | assumption | refine Below.drew ?_ | refine bdn ?_ | refine ba _ ?_ | refine bs0 _ _ ?_ ?_ | refine bs1 _ _ _ ?_ ?_ | refine bs2 _ _ _ _ ?_ ?_ | refine bs3 _ _ _ _ _ ?_ ?_ | refine bt3 (by assumption) ?_))) hg5 (le_alloc _ (Nat.le_refl _)) (fun i hi => by cases hi; exact Nat.le_refl _); have HR : Hd (Big w5 _ (-m)) := ⟨hB5⟩; have HK := Hd.mk (HH.out.below hq); have r0 := HK.out.b1.cell 0; have r1 := HK.out.b1.cell 1; have f0 := HK.out.b1.frozen 0; have f1 := HK.out.b1.frozen 1; clear hB5 hg5))
  go_wp2_with fail
  refine bodyPost_ret (v := .agg #[.pointer (some ⟨wb.heap.size, 0, none⟩), .int .i64 e]) (by simp (maxDischargeDepth := 7) [results, Tryz.results214, go_sem, *]) rfl ⟨_, e, rfl, (NuP.of HR.out HNF.out.1).set2 HK.out.b1 (by decide) (by decide) _ _, ?_⟩
  exact ((bt3 hq HH.out.bel).setCell (by simp) _).setCell (by simp) _
abbrev Wp (w : World) : World := w.alloc (Obj.cells #[.float .f32 0, .float .f32 0] 30)
theorem Wp.bel (w : World) : Below w.heap.size w (Wp w) := ba _ (Below.refl _ _)
theorem Wp.blk (w : World) : Blk (Wp w) w.heap.size 30 #[.float .f32 0, .float .f32 0] := Blk.new _ _ _
theorem Wp.lt (w : World) : w.heap.size < (Wp w).heap.size := by simp [Wp]
/-! the answers of ExactSum -/
end Go.Proofs.YtflgjecpjaiecaaGreat
