/- Hd: D8 D9 D10, merged. -/
import Derived.Test.YtflgjecpjaiecaaGreatHcq3
import Derived.Test.YtflgjecpjaiecaaGreatHbq3
/- Contracts: the reference's quotient, cut and marked. -/
set_option linter.unusedVariables false
set_option linter.unusedSimpArgs false
set_option exponentiation.threshold 40000
namespace Go.Proofs.YtflgjecpjaiecaaGreat
open Go.RowKit Num Flt
theorem WhO.setT {w : World} {B G : Nat} {s : Int} {A : Option Addr} {n c : Nat} {a : Int} {t : TypeId} {cs : Array Value} (h : WhO w B s A n c a) (hk : Blk w G t cs) (ht : 2 ≠ t) (o : Nat) (u : Value) : WhO (w.setCell ⟨G, o, none⟩ u) B s A n c a := by
  obtain ⟨xs, h1, h2, h3, h4⟩ := h
  refine ⟨xs, h1, h2, h3, ?_⟩
  refine World.ownsRow.kept h4 (row := some G) ?_ ?_
  · exact ⟨rfl, rfl, rfl, by simp, fun i hi hne => Below.heap_setCell w _ _ i (fun e => hne (by rw [e]))⟩
  · cases hv : (Value.slice A n c).ownBlock with
    | none => exact Or.inl rfl
    | some k =>
      refine Or.inr (fun e => ?_)
      obtain ⟨⟨cs', hb⟩, _⟩ := O64.blk h4 hv
      cases e
      exact (hb.ne_ hk ht) rfl
/-- what the region leaves: both parts of a division in blocks of their own -/
def QmR (w0 : World) (q r : Int) (u v : Value) (wx : World) : Prop := ∃ (g6 g7 : Nat) (s1 : Int) (A1 : Option Addr) (n1 c1 : Nat) (s2 : Int) (A2 : Option Addr) (n2 c2 : Nat), u = .pointer (some ⟨g6, 0, none⟩) ∧ v = .pointer (some ⟨g7, 0, none⟩) ∧
  Hd (Below w0.heap.size w0 wx ∧ Blk wx g6 64 #[.int .i64 s1, .slice A1 n1 c1] ∧ Blk wx g7 64 #[.int .i64 s2, .slice A2 n2 c2] ∧ WhO wx 0 s1 A1 n1 c1 q ∧ WhO wx 0 s2 A2 n2 c2 r)
section
variable {w0 wk : World} {q r s1 s2 : Int} {A1 A2 : Option Addr} {n1 c1 n2 c2 g6 g7 : Nat}
theorem blk_set2 {w : World} {g : Nat} {s : Int} {A : Option Addr} {n c : Nat} {s0 : Int} {A0 : Option Addr} {n0 c0 : Nat} (h : Blk w g 64 #[.int .i64 s0, .slice A0 n0 c0]) : Blk ((w.setCell ⟨g, 0, none⟩ (.int .i64 s)).setCell ⟨g, 1, none⟩ (.slice A n c)) g 64 #[.int .i64 s, .slice A n c] := by
  have := (h.set_ 0 (.int .i64 s)).set_ 1 (.slice A n c)
  simpa using this
theorem WhO.set2 {w : World} {B g : Nat} {s : Int} {A : Option Addr} {n c : Nat} {a : Int} {cs : Array Value} (h : WhO w B s A n c a) (hk : Blk w g 64 cs) (u v : Value) : WhO ((w.setCell ⟨g, 0, none⟩ u).setCell ⟨g, 1, none⟩ v) B s A n c a :=
  (h.setT hk (by decide) 0 u).setT (hk.set_ 0 u) (by decide) 1 v
theorem QmR.e0 (hf : Below w0.heap.size w0 wk) (h6 : Blk wk g6 64 #[.int .i64 0, .slice none 0 0]) (h7 : Blk wk g7 64 #[.int .i64 0, .slice none 0 0]) (l6 : w0.heap.size ≤ g6) (l7 : w0.heap.size ≤ g7) (hne : g6 ≠ g7) (hq : WhO wk 0 s1 A1 n1 c1 q) (hr : WhO wk 0 s2 A2 n2 c2 r) :
    QmR w0 q r (.pointer (some ⟨g6, 0, none⟩)) (.pointer (some ⟨g7, 0, none⟩)) ((((wk.setCell ⟨g6, 0, none⟩ (.int .i64 s1)).setCell ⟨g6, 1, none⟩ (.slice A1 n1 c1)).setCell ⟨g7, 0, none⟩ (.int .i64 s2)).setCell ⟨g7, 1, none⟩ (.slice A2 n2 c2)) := by
  have k7 := (h7.far (p := ⟨g6, 0, none⟩) (by simpa using Ne.symm hne) (.int .i64 s1)).far (p := ⟨g6, 1, none⟩) (by simpa using Ne.symm hne) (.slice A1 n1 c1)
  exact ⟨g6, g7, s1, A1, n1, c1, s2, A2, n2, c2, rfl, rfl, ⟨Below.setCell (Below.setCell (Below.setCell (Below.setCell hf l6 _) l6 _) l7 _) l7 _, ((blk_set2 h6).far (by simpa using hne) _).far (by simpa using hne) _, blk_set2 k7, (hq.set2 h6 _ _).set2 k7 _ _, (hr.set2 h6 _ _).set2 k7 _ _⟩⟩
theorem QmR.ea (hf : Below w0.heap.size w0 wk) (h7 : Blk wk g7 64 #[.int .i64 0, .slice none 0 0]) (l7 : w0.heap.size ≤ g7) (hq : WhO wk 0 s1 A1 n1 c1 q) (hr : WhO wk 0 s2 A2 n2 c2 r) :
    QmR w0 q r (.pointer (some ⟨wk.heap.size, 0, none⟩)) (.pointer (some ⟨g7, 0, none⟩)) (((wk.setCell ⟨g7, 0, none⟩ (.int .i64 s2)).setCell ⟨g7, 1, none⟩ (.slice A2 n2 c2)).alloc (Obj.cells #[.int .i64 s1, .slice A1 n1 c1] 64)) := by
  refine ⟨wk.heap.size, g7, s1, A1, n1, c1, s2, A2, n2, c2, rfl, rfl, ⟨ba _ (Below.setCell (Below.setCell hf l7 _) l7 _), ?_, (blk_set2 h7).alloc _, (hq.set2 h7 _ _).keep (ba _ (Below.refl _ _)), (hr.set2 h7 _ _).keep (ba _ (Below.refl _ _))⟩⟩
  have := Blk.new ((wk.setCell ⟨g7, 0, none⟩ (.int .i64 s2)).setCell ⟨g7, 1, none⟩ (.slice A2 n2 c2)) 64 #[.int .i64 s1, .slice A1 n1 c1]
  simpa using this
theorem QmR.eb (hf : Below w0.heap.size w0 wk) (h6 : Blk wk g6 64 #[.int .i64 0, .slice none 0 0]) (l6 : w0.heap.size ≤ g6) (hq : WhO wk 0 s1 A1 n1 c1 q) (hr : WhO wk 0 s2 A2 n2 c2 r) :
    QmR w0 q r (.pointer (some ⟨g6, 0, none⟩)) (.pointer (some ⟨wk.heap.size, 0, none⟩)) (((wk.setCell ⟨g6, 0, none⟩ (.int .i64 s1)).setCell ⟨g6, 1, none⟩ (.slice A1 n1 c1)).alloc (Obj.cells #[.int .i64 s2, .slice A2 n2 c2] 64)) := by
  refine ⟨g6, wk.heap.size, s1, A1, n1, c1, s2, A2, n2, c2, rfl, rfl, ⟨ba _ (Below.setCell (Below.setCell hf l6 _) l6 _), (blk_set2 h6).alloc _, ?_, (hq.set2 h6 _ _).keep (ba _ (Below.refl _ _)), (hr.set2 h6 _ _).keep (ba _ (Below.refl _ _))⟩⟩
  have := Blk.new ((wk.setCell ⟨g6, 0, none⟩ (.int .i64 s1)).setCell ⟨g6, 1, none⟩ (.slice A1 n1 c1)) 64 #[.int .i64 s2, .slice A2 n2 c2]
  simpa using this
theorem QmR.eab (hf : Below w0.heap.size w0 wk) (hq : WhO wk 0 s1 A1 n1 c1 q) (hr : WhO wk 0 s2 A2 n2 c2 r) :
    QmR w0 q r (.pointer (some ⟨wk.heap.size, 0, none⟩)) (.pointer (some ⟨wk.heap.size + 1, 0, none⟩)) ((wk.alloc (Obj.cells #[.int .i64 s1, .slice A1 n1 c1] 64)).alloc (Obj.cells #[.int .i64 s2, .slice A2 n2 c2] 64)) := by
  refine ⟨wk.heap.size, wk.heap.size + 1, s1, A1, n1, c1, s2, A2, n2, c2, rfl, rfl, ⟨ba _ (ba _ hf), (Blk.new _ _ _).alloc _, ?_, (hq.keep (ba _ (ba _ (Below.refl _ _)))), (hr.keep (ba _ (ba _ (Below.refl _ _))))⟩⟩
  have := Blk.new (wk.alloc (Obj.cells #[.int .i64 s1, .slice A1 n1 c1] 64)) 64 #[.int .i64 s2, .slice A2 n2 c2]
  simpa using this
theorem QmR.eba (hf : Below w0.heap.size w0 wk) (hq : WhO wk 0 s1 A1 n1 c1 q) (hr : WhO wk 0 s2 A2 n2 c2 r) :
    QmR w0 q r (.pointer (some ⟨wk.heap.size + 1, 0, none⟩)) (.pointer (some ⟨wk.heap.size, 0, none⟩)) ((wk.alloc (Obj.cells #[.int .i64 s2, .slice A2 n2 c2] 64)).alloc (Obj.cells #[.int .i64 s1, .slice A1 n1 c1] 64)) := by
  refine ⟨wk.heap.size + 1, wk.heap.size, s1, A1, n1, c1, s2, A2, n2, c2, rfl, rfl, ⟨ba _ (ba _ hf), ?_, (Blk.new _ _ _).alloc _, (hq.keep (ba _ (ba _ (Below.refl _ _)))), (hr.keep (ba _ (ba _ (Below.refl _ _))))⟩⟩
  have := Blk.new (wk.alloc (Obj.cells #[.int .i64 s2, .slice A2 n2 c2] 64)) 64 #[.int .i64 s1, .slice A1 n1 c1]
  simpa using this
theorem fr_w {wy : World} (hf : Below w0.heap.size w0 wk) (hb : Below wk.heap.size wk wy) :
    Below w0.heap.size w0 (wy.alloc (Obj.cells #[.int .i64 0, .slice none 0 0] 64)) ∧ Blk (wy.alloc (Obj.cells #[.int .i64 0, .slice none 0 0] 64)) wy.heap.size 64 #[.int .i64 0, .slice none 0 0] ∧ w0.heap.size ≤ wy.heap.size ∧ Below wk.heap.size wk (wy.alloc (Obj.cells #[.int .i64 0, .slice none 0 0] 64)) :=
  have h := bt3 hb hf
  ⟨ba _ h, Blk.new _ _ _, h.size, ba _ hb⟩
end
structure RtH (w wx : World) (s t e e' : Int) (A A' : Option Addr) (n c c' : Nat) : Prop where
  bel : Below w.heap.size w wx
  b0 : Blk wx w.heap.size 66 #[.int .i64 s, .slice A n c, .int .i64 e]
  b1 : Blk wx (w.heap.size + 1) 66 #[.int .i64 t, .slice A' 1 c', .int .i64 e']
  b2 : Blk wx (w.heap.size + 1 + 1) 66 #[.int .i64 0, .slice none 0 0, .int .i64 0]
theorem RtH.below {w wx w' : World} {s t e e' : Int} {A A' : Option Addr} {n c c' : Nat} (h : RtH w wx s t e e' A A' n c c') (hb : Below wx.heap.size wx w') : RtH w w' s t e e' A A' n c c' :=
  ⟨bt3 hb h.bel, h.b0.below hb h.b0.lt, h.b1.below hb h.b1.lt, h.b2.below hb h.b2.lt⟩
theorem RtH.start (w : World) (s t e e' : Int) (A A' : Option Addr) (n c c' : Nat) : RtH w (((w.alloc (Obj.cells #[.int .i64 s, .slice A n c, .int .i64 e] 66)).alloc (Obj.cells #[.int .i64 t, .slice A' 1 c', .int .i64 e'] 66)).alloc (Obj.cells #[.int .i64 0, .slice none 0 0, .int .i64 0] 66)) s t e e' A A' n c c' := by
  refine ⟨ba _ (ba _ (ba _ (Below.refl _ _))), ((Blk.new _ _ _).alloc _).alloc _, ?_, ?_⟩
  · have := (Blk.new (w.alloc (Obj.cells #[.int .i64 s, .slice A n c, .int .i64 e] 66)) 66 #[.int .i64 t, .slice A' 1 c', .int .i64 e']).alloc (Obj.cells #[.int .i64 0, .slice none 0 0, .int .i64 0] 66)
    simpa using this
  · have := Blk.new ((w.alloc (Obj.cells #[.int .i64 s, .slice A n c, .int .i64 e] 66)).alloc (Obj.cells #[.int .i64 t, .slice A' 1 c', .int .i64 e'] 66)) 66 #[.int .i64 0, .slice none 0 0, .int .i64 0]
    simpa using this
theorem RtH.cells {w wx : World} {s t e e' : Int} {A A' : Option Addr} {n c c' : Nat} (h : RtH w wx s t e e' A A' n c c') : (fun w' => w'.cell? ⟨w.heap.size, 0, none⟩ = some (.int .i64 s) ∧ w'.cell? ⟨w.heap.size, 1, none⟩ = some (.slice A n c) ∧ w'.cell? ⟨w.heap.size + 1, 0, none⟩ = some (.int .i64 t) ∧ w'.cell? ⟨w.heap.size + 1, 1, none⟩ = some (.slice A' 1 c')) wx := ⟨h.b0.cell 0, h.b0.cell 1, h.b1.cell 0, h.b1.cell 1⟩
theorem bd_natA {v : Int} (h : Bd (v.natAbs : Int)) : Bd v := by unfold Bd at *; generalize TOP = T at *; omega
theorem WhO.zero0 {w : World} {B : Nat} {s : Int} {A : Option Addr} {n c : Nat} (h : WhO w B s A n c 0) : s = 0 := by
  obtain ⟨xs, _, _, hN, _⟩ := h
  have he := hN.eq
  rcases hN.sgn with ⟨hs, _⟩ | ⟨hs, hx⟩
  · exact hs
  · have hp := hN.can.pos (by decide) hx
    rcases hs with rfl | rfl <;> omega
/-- by how much the reference lengthens the numerator -/
def rk (a y : Int) : Nat := 64 + bln y.natAbs - bln a.natAbs
abbrev rN (a y : Int) : Int := (a.natAbs : Int) * 2 ^ rk a y
def rQ (a y t : Int) : Int := a.sign * t * (rN a y / y)
def rR (a y : Int) : Int := a.sign * (rN a y % y)
def rtV (a y t e e' : Int) : Int := dv (rQ a y t * 2 + if rN a y % y = 0 then 0 else (rQ a y t).sign) (e - rk a y - e' - 1)
theorem abs_mul_pow (a : Int) (k : Nat) : ((a * 2 ^ k).natAbs : Int) = (a.natAbs : Int) * 2 ^ k := by
  rw [Int.natAbs_mul, Int.natCast_mul]
  have := pow2_pos k
  congr 1
theorem sign_mul_pow {a : Int} (h : a ≠ 0) (k : Nat) : (a * 2 ^ k).sign = a.sign := by
  have hp := pow2_pos k
  rcases Int.lt_or_gt_of_ne h with h | h
  · rw [Int.sign_eq_neg_one_of_neg h, Int.sign_eq_neg_one_of_neg (Int.mul_neg_of_neg_of_pos h hp)]
  · rw [Int.sign_eq_one_of_pos h, Int.sign_eq_one_of_pos (Int.mul_pos h hp)]
theorem s_DivW (t y a : Int) (A' : Option Addr) (c' k : Nat) (s5 : Int) (A5 : Option Addr) (n5 c5 : Nat) (w : World) (hX : WhP w s5 A5 n5 c5 (a * 2 ^ k)) (hY : WhD w t A' 1 c' [y] (t * y)) (ht : t = 1 ∨ t = -1) (hy0 : 0 < y) (ha : a ≠ 0) (hbd : Bd (a * 2 ^ k)) :
    Calls Tryz.prog 235 #[.agg #[.int .i64 s5, .slice A5 n5 c5], .agg #[.int .i64 t, .slice A' 1 c']] w (RetDM (a.sign * t * ((a.natAbs : Int) * 2 ^ k / y)) (a.sign * ((a.natAbs : Int) * 2 ^ k % y)) w) := by
  have h0 : a * 2 ^ k ≠ 0 := Int.mul_ne_zero ha (Int.ne_of_gt (pow2_pos k))
  obtain ⟨h1, h2⟩ := hX.sgn h0
  rw [sign_mul_pow ha] at h1
  obtain ⟨xs, hx⟩ := hX.opened
  have := s_DivMod s5 t A5 A' n5 c5 c' xs (a * 2 ^ k) y w hx hY h2 ht hy0 hbd
  rw [← hx.num.abs, abs_mul_pow] at this
  rw [← h1]
  exact this
theorem rQ_ne {a y t : Int} (hy0 : 0 < y) (ht : t = 1 ∨ t = -1) (ha : bln a.natAbs ≤ 24) (ha0 : a ≠ 0) : rQ a y t ≠ 0 ∧ 0 < rN a y / y := by
  have h1 := bln_spec (show a.natAbs ≠ 0 by omega)
  have h2 := bln_lt y.natAbs
  have h3 : 2 ^ (bln a.natAbs - 1) * 2 ^ rk a y ≤ a.natAbs * 2 ^ rk a y := Nat.mul_le_mul_right _ h1.1
  rw [← Nat.pow_add] at h3
  have h4 : y.natAbs ≤ a.natAbs * 2 ^ rk a y := Nat.le_trans (Nat.le_of_lt h2) (Nat.le_trans (Nat.pow_le_pow_right (by decide) (by unfold rk; omega)) h3)
  have h5 : y ≤ rN a y := by
    have h6 : ((a.natAbs * 2 ^ rk a y : Nat) : Int) = rN a y := by unfold rN; rw [Int.natCast_mul, Int.natCast_pow]; rfl
    omega
  have h7 : 0 < rN a y / y := by
    have := (Int.le_ediv_iff_mul_le hy0).2 (show 1 * y ≤ rN a y by omega)
    omega
  refine ⟨?_, h7⟩
  unfold rQ
  refine Int.mul_ne_zero (Int.mul_ne_zero (by intro k; exact ha0 (Int.sign_eq_zero_iff_zero.1 k)) (by omega)) (by omega)
theorem rq_bd {a y t E : Int} (ht : t = 1 ∨ t = -1) (hy0 : 0 < y) (ha0 : a ≠ 0) (hN0 : 0 ≤ rN a y) (hN1 : rN a y ≤ 2 ^ 112) (hE : E ≤ 1000) : Bd (rQ a y t * 2) ∧ Bd (rQ a y t * 2 + (rQ a y t).sign) ∧ Bd (dv (rQ a y t * 2) E) ∧ Bd (dv (rQ a y t * 2 + (rQ a y t).sign) E) := by
  have h1 : 0 ≤ rN a y / y := Int.ediv_nonneg hN0 (Int.le_of_lt hy0)
  have h2 : rN a y / y ≤ rN a y := Int.ediv_le_self _ hN0
  have hs : a.sign * t = 1 ∨ a.sign * t = -1 := by
    rcases Int.lt_or_gt_of_ne ha0 with h | h
    · rw [Int.sign_eq_neg_one_of_neg h]; omega
    · rw [Int.sign_eq_one_of_pos h]; omega
  have h3 : (rQ a y t).natAbs ≤ 2 ^ 112 := by
    unfold rQ
    generalize rN a y / y = F at *
    have : ((2 ^ 112 : Nat) : Int) = 2 ^ 112 := by decide
    rcases hs with h | h <;> rw [h] <;> omega
  have h4 : (rQ a y t).sign = 1 ∨ (rQ a y t).sign = -1 ∨ (rQ a y t).sign = 0 := by
    rcases Int.lt_trichotomy (rQ a y t) 0 with h | h | h
    · right; left; exact Int.sign_eq_neg_one_of_neg h
    · right; right; rw [h]; rfl
    · left; exact Int.sign_eq_one_of_pos h
  generalize rQ a y t = q at *
  have h5 : (q * 2).natAbs ≤ 2 ^ 114 ∧ (q * 2 + q.sign).natAbs ≤ 2 ^ 114 := by
    have : (2 : Nat) ^ 114 = 2 ^ 112 * 4 := by decide
    have : 0 < (2 : Nat) ^ 112 := by decide
    generalize (2 : Nat) ^ 114 = P at *
    generalize (2 : Nat) ^ 112 = P' at *
    omega
  have small : ∀ z : Int, z.natAbs ≤ 2 ^ 114 → Bd z ∧ Bd (dv z E) := fun z hz => by
    have hz' : (z.natAbs : Int) ≤ 2 ^ 114 := by have : ((2 ^ 114 : Nat) : Int) = 2 ^ 114 := by decide
                                                rw [← this]; exact Int.ofNat_le.2 hz
    refine ⟨bd_natA (bd200 (by omega) (Int.le_trans hz' (pow_le (by decide) (by decide)))), bd_natA ?_⟩
    unfold dv
    rw [abs_mul_pow]
    have h6 : (2 : Int) ^ (E + SC).toNat ≤ 2 ^ 21000 := pow_le (by decide) (by unfold SC; omega)
    refine bd200 (Int.mul_nonneg (by omega) (Int.le_of_lt (pow2_pos _))) (Int.le_trans (Int.mul_le_mul hz' h6 (Int.le_of_lt (pow2_pos _)) (Int.le_of_lt (pow2_pos 114))) ?_)
    rw [← Int.pow_add]; exact pow_le (by decide) (by decide)
  exact ⟨(small _ h5.1).1, (small _ h5.2).1, (small _ h5.1).2, (small _ h5.2).2⟩
end Go.Proofs.YtflgjecpjaiecaaGreat
/- Plain facts: both quotients are rounded alike. -/
set_option linter.unusedVariables false
set_option linter.unusedSimpArgs false
set_option exponentiation.threshold 40000
namespace Go.Proofs.YtflgjecpjaiecaaGreat
open Go.RowKit Num Flt
theorem rF_of {mode V : Int} (h : V ≠ 0) : rF mode V = (if V < 0 then 2147483648 else 0) + rgN mode (decide (V < 0)) V.natAbs ∧ rFl mode V = flF mode (decide (V < 0)) V.natAbs := by
  unfold rF rFl; rw [if_neg h, if_neg h]; exact ⟨rfl, rfl⟩
theorem rF_alike {mode V U : Int} (hV : V ≠ 0) (hU : U ≠ 0) (hs : V < 0 ↔ U < 0) (h : ∀ neg, rgN mode neg V.natAbs = rgN mode neg U.natAbs ∧ flF mode neg V.natAbs = flF mode neg U.natAbs) : rF mode V = rF mode U ∧ rFl mode V = rFl mode U := by
  obtain ⟨e1, e2⟩ := rF_of (mode := mode) hV
  obtain ⟨e3, e4⟩ := rF_of (mode := mode) hU
  have hd : decide (V < 0) = decide (U < 0) := decide_eq_decide.2 hs
  rw [e1, e2, e3, e4, hd, (h _).1, (h _).2]
  refine ⟨?_, rfl⟩
  by_cases k : U < 0
  · rw [if_pos k, if_pos (hs.2 k)]
  · rw [if_neg k, if_neg (fun j => k (hs.1 j))]
/-- a cut quotient in the scale, as a magnitude: m 2^e over n 2^d, lengthened by k, c bits behind the quotient -/
theorem cut_mag {X Y m n k c : Nat} {e d E : Int} (hX : (X : Int) = m * 2 ^ (e + SC).toNat) (hY : (Y : Int) = n * 2 ^ (d + SC).toNat) (hn : 0 < n) (he : -1000 ≤ e ∧ e ≤ 1000) (hd : -1000 ≤ d ∧ d ≤ 1000) (hk : k ≤ 200) (hc : c ≤ 10) (hE : E = e - d - k - c) :
    ∃ p g, c ≤ g ∧ g + p = 30000 ∧ cutM X (Y * 2 ^ 10000) p c g = (2 ^ c * (m * 2 ^ k / n) + (if m * 2 ^ k % n = 0 then 0 else 1)) * 2 ^ (E + SC).toNat ∧ X * 2 ^ p / (Y * 2 ^ 10000) = m * 2 ^ k / n := by
  have hsc : (SC : Int) = 20000 := rfl
  have hX' : X = m * 2 ^ (e + SC).toNat := by exact_mod_cast hX
  have hY' : Y = n * 2 ^ (d + SC).toNat := by exact_mod_cast hY
  refine ⟨((k : Int) + d - e + 10000).toNat, (SC + e - d - (k : Int)).toNat, by omega, by omega, ?_⟩
  have h1 : X * 2 ^ ((k : Int) + d - e + 10000).toNat = m * 2 ^ k * 2 ^ ((d + SC).toNat + 10000) := by
    rw [hX', Nat.mul_assoc, ← Nat.pow_add, Nat.mul_assoc, ← Nat.pow_add]
    congr 2; omega
  have h2 : Y * 2 ^ 10000 = n * 2 ^ ((d + SC).toNat + 10000) := by rw [hY', Nat.mul_assoc, ← Nat.pow_add]
  obtain ⟨h3, h4⟩ := cut_scale (A := m) (B := n) (k := k) (z := (d + SC).toNat + 10000) h1 h2
  refine ⟨?_, h3⟩
  unfold cutM
  rw [h3]
  have e5 : (SC + e - d - (k : Int)).toNat - c = (E + SC).toNat := by omega
  rw [e5]
  by_cases h5 : m * 2 ^ k % n = 0
  · rw [if_pos h5, if_pos (h4.2 h5)]
  · rw [if_neg h5, if_neg (fun j => h5 (h4.1 j))]
/-- a marked quotient as a number -/
def mkQ (m n k c : Nat) (E : Int) : Nat := (2 ^ c * (m * 2 ^ k / n) + (if m * 2 ^ k % n = 0 then 0 else 1)) * 2 ^ (E + SC).toNat
theorem mkQ_pos {m n k c : Nat} {E : Int} (h : 2 ^ 25 ≤ m * 2 ^ k / n) : 0 < mkQ m n k c E := by
  unfold mkQ
  refine Nat.mul_pos ?_ (Nat.two_pow_pos _)
  have h1 := Nat.mul_pos (Nat.two_pow_pos c) (Nat.lt_of_lt_of_le (Nat.two_pow_pos 25) h)
  omega
theorem div_alike {mode sg : Int} {X Y m n k c m' n' k' c' : Nat} {e d E e2 d2 E' : Int} (hs : sg = 1 ∨ sg = -1) (hX : (X : Int) = m * 2 ^ (e + SC).toNat) (hY : (Y : Int) = n * 2 ^ (d + SC).toNat) (hX' : (X : Int) = m' * 2 ^ (e2 + SC).toNat) (hY' : (Y : Int) = n' * 2 ^ (d2 + SC).toNat)
    (hn : 0 < n) (hn' : 0 < n') (he : -1000 ≤ e ∧ e ≤ 1000) (hd : -1000 ≤ d ∧ d ≤ 1000) (he2 : -1000 ≤ e2 ∧ e2 ≤ 1000) (hd2 : -1000 ≤ d2 ∧ d2 ≤ 1000) (hk : k ≤ 200) (hk' : k' ≤ 200) (hc : 1 ≤ c ∧ c ≤ 10) (hc' : 1 ≤ c' ∧ c' ≤ 10)
    (hE : E = e - d - k - c) (hE' : E' = e2 - d2 - k' - c') (hF : 2 ^ 25 ≤ m * 2 ^ k / n) (hF' : 2 ^ 25 ≤ m' * 2 ^ k' / n') :
    rF mode (sg * (mkQ m n k c E : Int)) = rF mode (sg * (mkQ m' n' k' c' E' : Int)) ∧ rFl mode (sg * (mkQ m n k c E : Int)) = rFl mode (sg * (mkQ m' n' k' c' E' : Int)) := by
  obtain ⟨p, g, h1, h2, h3, h4⟩ := cut_mag hX hY hn he hd hk hc.2 hE
  obtain ⟨p', g', k1, k2, k3, k4⟩ := cut_mag hX' hY' hn' he2 hd2 hk' hc'.2 hE'
  have hY0 : 0 < Y * 2 ^ 10000 := by
    refine Nat.mul_pos ?_ (Nat.two_pow_pos _)
    have h5 : 0 < (n : Int) * 2 ^ (d + SC).toNat := Int.mul_pos (by omega) (pow2_pos _)
    rw [← hY] at h5
    exact Int.ofNat_lt.1 h5
  have h := fun neg => cut_eq (mode := mode) (neg := neg) (X := X) (p := p) (p' := p') hY0 hc.1 hc'.1 h1 k1 (by omega) (by rw [h4]; exact hF) (by rw [k4]; exact hF')
  rw [h3, k3] at h
  have p1 := mkQ_pos (c := c) (E := E) hF
  have p2 := mkQ_pos (c := c') (E := E') hF'
  unfold mkQ at *
  generalize (2 ^ c * (m * 2 ^ k / n) + (if m * 2 ^ k % n = 0 then 0 else 1)) * 2 ^ (E + SC).toNat = M at *
  generalize (2 ^ c' * (m' * 2 ^ k' / n') + (if m' * 2 ^ k' % n' = 0 then 0 else 1)) * 2 ^ (E' + SC).toNat = M' at *
  have e1 : (sg * (M : Int)).natAbs = M := by rcases hs with rfl | rfl <;> omega
  have e2 : (sg * (M' : Int)).natAbs = M' := by rcases hs with rfl | rfl <;> omega
  refine rF_alike (by rcases hs with rfl | rfl <;> omega) (by rcases hs with rfl | rfl <;> omega) (by rcases hs with rfl | rfl <;> omega) ?_
  rw [e1, e2]
  exact h
end Go.Proofs.YtflgjecpjaiecaaGreat
/- Plain facts: the reference's quotient and the program's quotient of two floats are rounded alike. -/
set_option linter.unusedVariables false
set_option linter.unusedSimpArgs false
set_option exponentiation.threshold 40000
namespace Go.Proofs.YtflgjecpjaiecaaGreat
open Go.RowKit Num Flt
/-- the odd parts of a float -/
theorem dyf_float {x l : Nat} {a e : Int} (hf : fin x) (h : DyF a e (fv x) l) (h0 : fv x ≠ 0) : a ≠ 0 ∧ bln a.natAbs ≤ 24 ∧ -149 ≤ e ∧ e ≤ 400 := by
  have ha : a ≠ 0 := fun k => h0 (by rw [h.val, k]; unfold dv; simp)
  have hp := pe_le hf
  have hm := mv_lt x
  have hv : a * 2 ^ (e + SC).toNat = mv x * 2 ^ (-149 + (pe x : Int) + SC).toNat := h.val.symm
  have hsc : (SC : Int) = 20000 := rfl
  have ho := h.odd ha
  have hlo := h.lo
  have hls := h.lsc
  rcases Int.lt_or_le e (-149 + (pe x : Int)) with k | k
  · exfalso
    obtain ⟨j, hj⟩ : ∃ j : Nat, (-149 + (pe x : Int) + SC).toNat = (e + SC).toNat + (j + 1) := ⟨(-149 + (pe x : Int) + SC).toNat - (e + SC).toNat - 1, by omega⟩
    rw [hj, Int.pow_add, Int.mul_comm (2 ^ (e + SC).toNat), ← Int.mul_assoc] at hv
    have h2 := Int.eq_of_mul_eq_mul_right (Int.ne_of_gt (pow2_pos _)) hv
    rw [Int.pow_succ, ← Int.mul_assoc] at h2
    generalize mv x * 2 ^ j = z at h2
    omega
  · obtain ⟨j, hj⟩ : ∃ j : Nat, (e + SC).toNat = (-149 + (pe x : Int) + SC).toNat + j := ⟨(e + SC).toNat - (-149 + (pe x : Int) + SC).toNat, by omega⟩
    rw [hj, Int.pow_add, Int.mul_comm (2 ^ (-149 + (pe x : Int) + SC).toNat), ← Int.mul_assoc] at hv
    have h2 := Int.eq_of_mul_eq_mul_right (Int.ne_of_gt (pow2_pos _)) hv
    have h3 : a.natAbs * 2 ^ j = (mv x).natAbs := by
      rw [← h2, Int.natAbs_mul, Int.natAbs_pow]; rfl
    have h4 : (mv x).natAbs < 2 ^ 24 := by have : (2 : Nat) ^ 24 = 16777216 := by decide
                                           omega
    have h5 : a.natAbs ≤ a.natAbs * 2 ^ j := Nat.le_mul_of_pos_right _ (Nat.two_pow_pos j)
    have h6 : 2 ^ j ≤ a.natAbs * 2 ^ j := Nat.le_mul_of_pos_left _ (by omega)
    have h7 : j < 24 := (Nat.pow_lt_pow_iff_right (by decide : 1 < 2)).1 (Nat.lt_of_le_of_lt h6 (by omega))
    refine ⟨ha, bln_le (by omega), by omega, by omega⟩
theorem quo_big {a y : Int} (hy0 : 0 < y) (ha : bln a.natAbs ≤ 24) (ha0 : a ≠ 0) : 2 ^ 25 ≤ a.natAbs * 2 ^ rk a y / y.natAbs := by
  have h1 := bln_spec (show a.natAbs ≠ 0 by omega)
  have h2 := bln_lt y.natAbs
  rw [Nat.le_div_iff_mul_le (by omega)]
  have h3 : 2 ^ (bln a.natAbs - 1) * 2 ^ rk a y ≤ a.natAbs * 2 ^ rk a y := Nat.mul_le_mul_right _ h1.1
  have h4 : 2 ^ 25 * y.natAbs ≤ 2 ^ 25 * 2 ^ bln y.natAbs := Nat.mul_le_mul_left _ (Nat.le_of_lt h2)
  rw [← Nat.pow_add] at h3 h4
  exact Nat.le_trans h4 (Nat.le_trans (Nat.pow_le_pow_right (by decide) (by unfold rk; omega)) h3)
theorem rtV_mk {a y t e e' : Int} (hy0 : 0 < y) (ht : t = 1 ∨ t = -1) (ha : bln a.natAbs ≤ 24) (ha0 : a ≠ 0) : rtV a y t e e' = a.sign * t * (mkQ a.natAbs y.natAbs (rk a y) 1 (e - rk a y - e' - 1) : Int) ∧ (a.sign * t = 1 ∨ a.sign * t = -1) ∧ rQ a y t ≠ 0 := by
  have hs : a.sign * t = 1 ∨ a.sign * t = -1 := by
    rcases Int.lt_or_gt_of_ne ha0 with h | h
    · rw [Int.sign_eq_neg_one_of_neg h]; omega
    · rw [Int.sign_eq_one_of_pos h]; omega
  have hb := quo_big hy0 ha ha0
  have hc : rN a y / y = ((a.natAbs * 2 ^ rk a y / y.natAbs : Nat) : Int) := by
    have e1 : y = (y.natAbs : Int) := by omega
    unfold rN
    conv => lhs; rw [e1]
    rw [Int.natCast_ediv, Int.natCast_mul, Int.natCast_pow]; rfl
  have hm : rN a y % y = ((a.natAbs * 2 ^ rk a y % y.natAbs : Nat) : Int) := by
    have e1 : y = (y.natAbs : Int) := by omega
    unfold rN
    conv => lhs; rw [e1]
    rw [Int.natCast_emod, Int.natCast_mul, Int.natCast_pow]; rfl
  refine ⟨?_, hs, ?_⟩
  · unfold rtV mkQ rQ dv
    rw [hc, hm]
    generalize a.natAbs * 2 ^ rk a y / y.natAbs = F at *
    generalize a.natAbs * 2 ^ rk a y % y.natAbs = r at *
    have hF : 0 < F := Nat.lt_of_lt_of_le (Nat.two_pow_pos 25) hb
    generalize hsg : a.sign * t = sg at *
    have h9 : (sg * (F : Int)).sign = sg := by
      rcases hs with h | h
      · rw [h, Int.one_mul]; exact Int.sign_eq_one_of_pos (by omega)
      · rw [h, Int.neg_mul, Int.one_mul]; exact Int.sign_eq_neg_one_of_neg (by omega)
    rw [h9, Int.natCast_mul, Int.natCast_pow, ← Int.mul_assoc]
    congr 1
    by_cases hr : r = 0
    · subst hr; simp; rw [Int.mul_assoc, Int.mul_comm 2]
    · have : ¬ ((r : Int) = 0) := by omega
      rw [if_neg this, if_neg hr]
      push_cast
      rw [Int.mul_add, Int.mul_one, Int.mul_comm 2 (F : Int), Int.mul_assoc]
  · unfold rQ
    rw [hc]
    have hF : 0 < a.natAbs * 2 ^ rk a y / y.natAbs := Nat.lt_of_lt_of_le (Nat.two_pow_pos 25) hb
    generalize a.natAbs * 2 ^ rk a y / y.natAbs = F at *
    rcases hs with h | h <;> rw [h] <;> omega
theorem qV_mk {ma mb ea eb VA VB : Int} (h : 0 < (mb.natAbs : Int)) : qV ma mb ea eb VA VB = (if VA.sign = VB.sign then 1 else -1) * (mkQ ma.natAbs mb.natAbs (qby ma mb) 2 (ea - eb - qby ma mb - 2) : Int) := by
  have hc : qN ma mb / (mb.natAbs : Int) = ((ma.natAbs * 2 ^ qby ma mb / mb.natAbs : Nat) : Int) := by
    unfold qN; rw [Int.natCast_ediv, Int.natCast_mul, Int.natCast_pow]; rfl
  have hm : qN ma mb % (mb.natAbs : Int) = ((ma.natAbs * 2 ^ qby ma mb % mb.natAbs : Nat) : Int) := by
    unfold qN; rw [Int.natCast_emod, Int.natCast_mul, Int.natCast_pow]; rfl
  have e : dv (qM ma mb) (ea - eb - qby ma mb - 2) = (mkQ ma.natAbs mb.natAbs (qby ma mb) 2 (ea - eb - qby ma mb - 2) : Int) := by
    have hP : ∀ k : Nat, ((2 ^ k : Nat) : Int) = (2 : Int) ^ k := fun k => by rw [Int.natCast_pow]; rfl
    unfold qM mkQ dv
    rw [hc, hm]
    generalize ma.natAbs * 2 ^ qby ma mb / mb.natAbs = F
    generalize ma.natAbs * 2 ^ qby ma mb % mb.natAbs = r
    rw [Int.natCast_mul, hP]
    refine congrArg (fun z => z * (2 : Int) ^ (ea - eb - (qby ma mb : Int) - 2 + SC).toNat) ?_
    by_cases hr : r = 0
    · subst hr; simp; omega
    · have : ¬ ((r : Int) = 0) := by omega
      rw [if_neg this, if_neg hr]; push_cast; omega
  unfold qV
  rw [e]
  split <;> omega
/-- both quotients are rounded alike -/
theorem div_same {mode : Int} {x y l l' : Nat} {a e b e' t yy : Int} (fx : fin x) (fy : fin y) (hA : DyF a e (fv x) l) (hB : DyF b e' (fv y) l') (hx0 : fv x ≠ 0) (hy0 : fv y ≠ 0) (hb : b = t * yy) (ht : t = 1 ∨ t = -1) (hyy : 0 < yy) :
    rF mode (rtV a yy t e e') = rF mode (qV (mv x) (mv y) (-149 + (pe x : Int)) (-149 + (pe y : Int)) (fv x) (fv y)) ∧ rFl mode (rtV a yy t e e') = rFl mode (qV (mv x) (mv y) (-149 + (pe x : Int)) (-149 + (pe y : Int)) (fv x) (fv y)) := by
  obtain ⟨ha0, ha, he1, he2⟩ := dyf_float fx hA hx0
  obtain ⟨hb0, hbl, he3, he4⟩ := dyf_float fy hB hy0
  have hpx := pe_le fx
  have hpy := pe_le fy
  have hmx := mv_lt x
  have hmy := mv_lt y
  have hmx0 : mv x ≠ 0 := fun k => hx0 (by unfold fv; rw [k]; unfold dv; simp)
  have hmy0 : mv y ≠ 0 := fun k => hy0 (by unfold fv; rw [k]; unfold dv; simp)
  have e24 : (2 : Nat) ^ 24 = 16777216 := by decide
  have hbx : bln (mv x).natAbs ≤ 24 := bln_le (by omega)
  have hby : bln (mv y).natAbs ≤ 24 := bln_le (by omega)
  obtain ⟨q1, q2, q3, q4, q5, q6, q7⟩ := q_sizes hbx hby hmx0 hmy0
  obtain ⟨r1, r2, r3⟩ := rtV_mk (e := e) (e' := e') hyy ht ha ha0
  have hyb : yy.natAbs = b.natAbs := by rw [hb]; rcases ht with rfl | rfl <;> simp
  rw [r1, qV_mk q3]
  have hsx : (fv x).sign = a.sign := by rw [hA.val]; unfold dv; exact sign_mul_pow ha0 _
  have hsy : (fv y).sign = t := by
    rw [hB.val]; unfold dv
    rw [sign_mul_pow hb0, hb]
    rcases ht with rfl | rfl
    · rw [Int.one_mul]; exact Int.sign_eq_one_of_pos hyy
    · rw [Int.neg_mul, Int.one_mul]; exact Int.sign_eq_neg_one_of_neg (by omega)
  have hsg : (if (fv x).sign = (fv y).sign then (1 : Int) else -1) = a.sign * t := by
    rw [hsx, hsy]
    have h1 : a.sign = 1 ∨ a.sign = -1 := by
      rcases Int.lt_or_gt_of_ne ha0 with h | h
      · right; exact Int.sign_eq_neg_one_of_neg h
      · left; exact Int.sign_eq_one_of_pos h
    rcases h1 with h1 | h1 <;> rcases ht with rfl | rfl <;> rw [h1] <;> decide
  rw [hsg]
  have abs_dv : ∀ m E : Int, ((dv m E).natAbs : Int) = (m.natAbs : Int) * 2 ^ (E + SC).toNat := fun m E => abs_mul_pow m _
  have hF2 : 2 ^ 25 ≤ (mv x).natAbs * 2 ^ qby (mv x) (mv y) / (mv y).natAbs := by
    rw [Nat.le_div_iff_mul_le (by omega)]
    have h2 : 2 ^ 80 ≤ 2 ^ qby (mv x) (mv y) := Nat.pow_le_pow_right (by decide) q2
    have h3 : 2 ^ qby (mv x) (mv y) ≤ (mv x).natAbs * 2 ^ qby (mv x) (mv y) := Nat.le_mul_of_pos_left _ (by omega)
    have h4 : 2 ^ 25 * (mv y).natAbs ≤ 2 ^ 25 * 16777216 := Nat.mul_le_mul_left _ (by omega)
    have h5 : 2 ^ 25 * 16777216 ≤ 2 ^ 80 := by decide
    exact Nat.le_trans h4 (Nat.le_trans h5 (Nat.le_trans h2 h3))
  refine div_alike (X := (fv x).natAbs) (Y := (fv y).natAbs) r2 (e := e) (d := e') (e2 := -149 + (pe x : Int)) (d2 := -149 + (pe y : Int)) ?_ ?_ ?_ ?_ (by omega) (by omega) (by omega) (by omega) (by omega) (by omega) ?_ (by omega) (by decide) (by decide) (by omega) (by omega) (quo_big hyy ha ha0) hF2
  · rw [hA.val]; exact abs_dv _ _
  · rw [hB.val, hyb]; exact abs_dv _ _
  · exact abs_dv _ _
  · exact abs_dv _ _
  · unfold rk; have := bln_lt yy.natAbs; rw [hyb]; omega
end Go.Proofs.YtflgjecpjaiecaaGreat
