/- Gx: P18 P19 P20 P21, merged. -/
import Derived.Test.YtflgjecpjaiecaaGreatGgq3
import Derived.Deep.RegionLaw
/- Contracts: the program's integers: shifts of negative ones, trailing zeros, common bits. -/
set_option linter.unusedVariables false
set_option linter.unusedSimpArgs false
namespace Go.Proofs.YtflgjecpjaiecaaGreat
open Go.RowKit Num
theorem R32_new1 (w : World) (a : Int) : R32 (w.alloc (.cells #[.int .u32 a] 171)) (some ⟨w.heap.size, 0, none⟩) [a] := by
  refine ⟨rfl, fun _ => ⟨_, rfl, by simp, fun j u hu => ?_⟩⟩
  have hb := Blk.new w 171 #[.int .u32 a]
  match j, hu with
  | 0, hu => simp [c32] at hu; subst hu; exact hb.cell 0
theorem canon_1d {B y : Int} (h0 : 0 < y) (h1 : y < B) : Canon B [y] := ⟨Rng.cons (by omega) h1 (Rng.nil _), fun h => by simp; omega⟩
theorem MagP.one (w : World) : MagP (w.alloc (.cells #[.int .u32 1] 171)) (some ⟨w.heap.size, 0, none⟩) 1 1 1 :=
  ⟨[1], rfl, Nat.le_refl _, canon_1d (by decide) (by decide), R32_new1 w 1, fun ad e => by cases e; exact ⟨_, Blk.new _ _ _⟩, rfl⟩
theorem MagP.lim {w : World} {A : Option Addr} {n c : Nat} {v : Int} (h : MagP w A n c v) (hb : Bd v) : n ≤ 1000000 := by
  obtain ⟨xs, h⟩ := h
  have h2 := len32 h.can (by rw [← h.eq]; exact hb)
  have := h.len
  omega
theorem O32.keep {w w' : World} {B : Nat} {v : Value} {xs : List Int} (h : O32 w B v xs) (hb : Below w.heap.size w w') : O32 w' B v xs :=
  World.ownsRow.kept (row := none) h ⟨hb.os, hb.tape, hb.output, hb.size, fun k hk _ => hb.block k hk⟩ (by cases v.ownBlock <;> simp)
end Go.Proofs.YtflgjecpjaiecaaGreat
/- Contracts: odd forms of the program's numbers. -/
set_option linter.unusedVariables false
set_option linter.unusedSimpArgs false
namespace Go.Proofs.YtflgjecpjaiecaaGreat
open Go.RowKit Num
theorem dv_nz {m e : Int} (h : dv m e = 0) : m = 0 := by
  unfold dv at h
  rcases Int.mul_eq_zero.1 h with h | h
  · exact h
  · exact absurd h (Int.ne_of_gt (pow2_pos _))
abbrev O2 (w : World) (g : Nat) (e : Int) : World := (w.alloc (Obj.cells #[.pointer (some ⟨g, 0, none⟩), .int .i64 e] 113)).alloc (Obj.cells #[.pointer none, .int .i64 0] 113)
/-- what odd holds -/
structure O2H (w wx : World) (g : Nat) (e : Int) : Prop where
  bel : Below w.heap.size w wx
  b0 : Blk wx w.heap.size 113 #[.pointer (some ⟨g, 0, none⟩), .int .i64 e]
  b1 : Blk wx (w.heap.size + 1) 113 #[.pointer none, .int .i64 0]
theorem O2H.start (w : World) (g : Nat) (e : Int) : O2H w (O2 w g e) g e := by
  refine ⟨ba _ (ba _ (Below.refl _ _)), (Blk.new _ _ _).alloc _, ?_⟩
  have := Blk.new (w.alloc (Obj.cells #[.pointer (some ⟨g, 0, none⟩), .int .i64 e] 113)) 113 #[.pointer none, .int .i64 0]
  simpa [O2] using this
theorem O2H.below {w wx w' : World} {g : Nat} {e : Int} (h : O2H w wx g e) (hb : Below wx.heap.size wx w') : O2H w w' g e :=
  ⟨bt3 hb h.bel, h.b0.below hb h.b0.lt, h.b1.below hb h.b1.lt⟩
end Go.Proofs.YtflgjecpjaiecaaGreat
/- Contracts: whole numbers out of the program's integers, and its dyadic results. -/
set_option linter.unusedVariables false
set_option linter.unusedSimpArgs false
set_option exponentiation.threshold 30000
namespace Go.Proofs.YtflgjecpjaiecaaGreat
open Go.RowKit Num
theorem O64.far {w w' : World} {B z : Nat} {v : Value} {xs : List Int} (h : O64 w B v xs) (hg : w.grownBy w' (some z)) (hz : z < B) : O64 w' B v xs := by
  refine World.ownsRow.kept h hg ?_
  rcases h.2 with ⟨rfl, _⟩ | ⟨g', cap, cur, rfl, hg', _⟩
  · left; rfl
  · right
    intro k
    have : g' = z := by simpa [Value.ownBlock] using k
    omega
/-- what the digits of a whole number hold, with the rest that is still to be parted -/
structure FbD (m r : Int) (zs : List Int) : Prop where
  rng : Rng 16777216 zs
  eq : val 16777216 zs + 16777216 ^ zs.length * r = m.natAbs
  pos : 0 ≤ r
  lst : r = 0 → Lst zs
theorem FbD.start (m : Int) : FbD m (m.natAbs : Int) [] := ⟨Rng.nil _, by simp [val], by omega, fun _ => Lst.nil⟩
theorem FbD.next {m r : Int} {zs : List Int} (h : FbD m r zs) (hr : 0 < r) : FbD m (r / 16777216) (zs ++ [r % 16777216]) := by
  refine ⟨h.rng.snoc (by omega) (by omega), ?_, by omega, fun h0 => ?_⟩
  · rw [val_snoc, List.length_append, List.length_singleton, Int.pow_succ, ← h.eq]
    have e := Int.mul_ediv_add_emod r 16777216
    conv => rhs; rw [← e]
    rw [Int.mul_add, Int.mul_assoc]
    omega
  · intro hne
    simp
    omega
theorem FbD.num {m : Int} {zs : List Int} (h : FbD m 0 zs) : NumS m.sign zs m := by
  have e : val 16777216 zs = m.natAbs := by have := h.eq; rw [Int.mul_zero, Int.add_zero] at this; exact this
  have hc : Canon 16777216 zs := ⟨h.rng, h.lst rfl⟩
  refine ⟨hc, ?_, by rw [e]; exact (Int.sign_mul_natAbs m).symm⟩
  by_cases hm : m = 0
  · left
    have h0 : val 16777216 zs = 0 := by rw [e, hm]; rfl
    exact ⟨by rw [hm]; rfl, (hc.nil_iff (by decide)).2 h0⟩
  · right
    constructor
    · rcases Int.lt_or_gt_of_ne hm with k | k
      · exact Or.inr (Int.sign_eq_neg_one_of_neg k)
      · exact Or.inl (Int.sign_eq_one_of_pos k)
    · intro k
      rw [k] at e
      simp [val] at e
      omega
/-- what the making of a whole number holds in its loop -/
structure FbH (w wr : World) (B gt gr gm : Nat) (s r : Int) (v : Value) (zs : List Int) : Prop where
  bel : Below w.heap.size w wr
  b0 : Blk wr w.heap.size 64 #[.int .i64 0, .slice none 0 0]
  bt : Blk wr gt 64 #[.int .i64 s, v]
  hr : Big wr gr r
  hm : Big wr gm 16777215
  own : O64 wr B v zs
  oB : B ≤ wr.heap.size
  o1 : w.heap.size < gt ∧ gt < B ∧ w.heap.size < gr ∧ gr < B ∧ gm < B
  o2 : gt ≠ gr ∧ gr ≠ gm ∧ gm ≠ gt
theorem FbH.below {w wr w' : World} {B gt gr gm : Nat} {s r : Int} {v : Value} {zs : List Int} (h : FbH w wr B gt gr gm s r v zs) (hb : Below wr.heap.size wr w') : FbH w w' B gt gr gm s r v zs :=
  ⟨bt3 hb h.bel, h.b0.below hb h.b0.lt, h.bt.below hb h.bt.lt, h.hr.below hb, h.hm.below hb, h.own.keep hb, Nat.le_trans h.oB hb.size, h.o1, h.o2⟩
/-- the length that a whole number's row has in memory -/
def lenAt (w : World) (g : Nat) : Nat := match w.cell? ⟨g, 1, none⟩ with | some (.slice _ n _) => n | _ => 0
theorem O64.blk {w : World} {B : Nat} {v : Value} {xs : List Int} (h : O64 w B v xs) {k : Nat} (hk : v.ownBlock = some k) : (∃ cs, Blk w k 2 cs) ∧ B ≤ k := by
  rcases h.2 with ⟨rfl, _⟩ | ⟨g', cap, cur, rfl, hg, hh, _⟩
  · simp [Value.ownBlock] at hk
  · have : g' = k := by simpa [Value.ownBlock] using hk
    subst this
    exact ⟨⟨_, hh⟩, hg⟩
theorem FbH.len {w wr : World} {B gt gr gm : Nat} {s r : Int} {v : Value} {zs : List Int} (h : FbH w wr B gt gr gm s r v zs) : lenAt wr gt = zs.length := by
  obtain ⟨A, c, rfl, _⟩ := h.own.form
  have e : wr.cell? ⟨gt, 1, none⟩ = some (.slice A zs.length c) := h.bt.cell 1
  unfold lenAt; rw [e]
theorem FbD.bd {m r : Int} {zs : List Int} (h : FbD m r zs) (hm : Bd (m.natAbs : Int)) : Bd r := by
  have h6 := val_nonneg (B := 16777216) (by decide) h.rng
  have h7 : 1 * r ≤ (16777216 : Int) ^ zs.length * r := Int.mul_le_mul_of_nonneg_right (by have := pow_pos' (B := 16777216) (by decide) zs.length; omega) h.pos
  have h8 := h.eq
  have h9 := h.pos
  generalize (16777216 : Int) ^ zs.length * r = q at *
  exact bd_le (by omega) hm
end Go.Proofs.YtflgjecpjaiecaaGreat
/- Contracts: the program's dyadic results. -/
set_option linter.unusedVariables false
set_option linter.unusedSimpArgs false
set_option exponentiation.threshold 30000
namespace Go.Proofs.YtflgjecpjaiecaaGreat
open Go.RowKit Num
/-- what dyadic holds -/
structure DvH (w wx : World) (g : Nat) (e : Int) : Prop where
  bel : Below w.heap.size w wx
  b0 : Blk wx w.heap.size 113 #[.pointer (some ⟨g, 0, none⟩), .int .i64 e]
  b1 : Blk wx (w.heap.size + 1) 66 #[.int .i64 0, .slice none 0 0, .int .i64 0]
abbrev Dv2 (w : World) (g : Nat) (e : Int) : World := (w.alloc (Obj.cells #[.pointer (some ⟨g, 0, none⟩), .int .i64 e] 113)).alloc (Obj.cells #[.int .i64 0, .slice none 0 0, .int .i64 0] 66)
theorem DvH.start (w : World) (g : Nat) (e : Int) : DvH w (Dv2 w g e) g e := by
  refine ⟨ba _ (ba _ (Below.refl _ _)), (Blk.new _ _ _).alloc _, ?_⟩
  have := Blk.new (w.alloc (Obj.cells #[.pointer (some ⟨g, 0, none⟩), .int .i64 e] 113)) 66 #[.int .i64 0, .slice none 0 0, .int .i64 0]
  simpa [Dv2] using this
theorem DvH.below {w wx w' : World} {g : Nat} {e : Int} (h : DvH w wx g e) (hb : Below wx.heap.size wx w') : DvH w w' g e :=
  ⟨bt3 hb h.bel, h.b0.below hb h.b0.lt, h.b1.below hb h.b1.lt⟩
theorem DvH.put {w wx : World} {g g' : Nat} {e e' : Int} (h : DvH w wx g e) : DvH w ((wx.setCell ⟨w.heap.size, 0, none⟩ (.pointer (some ⟨g', 0, none⟩))).setCell ⟨w.heap.size, 1, none⟩ (.int .i64 e')) g' e' :=
  ⟨(h.bel.setCell (by simp) _).setCell (by simp) _, by have := (h.b0.set_ 0 (.pointer (some ⟨g', 0, none⟩))).set_ 1 (.int .i64 e'); exact this, (h.b1.far (by simp) _).far (by simp) _⟩
end Go.Proofs.YtflgjecpjaiecaaGreat
