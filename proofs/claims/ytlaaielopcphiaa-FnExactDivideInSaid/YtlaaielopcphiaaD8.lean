/- Contracts: the reference's quotient, cut and marked. -/
import Derived.Test.YtlaaielopcphiaaD7
import Derived.Test.YtlaaielopcphiaaD4
set_option linter.unusedVariables false
set_option linter.unusedSimpArgs false
set_option exponentiation.threshold 40000
namespace Go.Proofs.Ytlaaielopcphiaa
open Go.RowKit Num Flt
theorem WhO.setT {w : World} {B G : Nat} {s : Int} {A : Option Addr} {n c : Nat} {a : Int} {t : TypeId} {cs : Array Value} (h : WhO w B s A n c a) (hk : Blk w G t cs) (ht : 2 ≠ t) (o : Nat) (u : Value) : WhO (w.setCell ⟨G, o, none⟩ u) B s A n c a := by
  obtain ⟨xs, h1, h2, h3, h4⟩ := h
  refine ⟨xs, h1, h2, h3, ?_⟩
  refine World.ownsRow.kept h4 (row := some G) ?_ ?_
  · exact ⟨rfl, rfl, rfl, by simp, fun i hi hne => Below.heap_setCell w _ _ i (fun e => hne (by rw [e]))⟩
  · cases hv : (Value.slice A n c).ownBlock with
    | none => exact Or.inl rfl
    | some k =>
      refine Or.inr (fun e => ?_)
      obtain ⟨⟨cs', hb⟩, _⟩ := O64.blk h4 hv
      cases e
      exact (hb.ne_ hk ht) rfl
/-- what the region leaves: both parts of a division in blocks of their own -/
def QmR (w0 : World) (q r : Int) (u v : Value) (wx : World) : Prop := ∃ (g6 g7 : Nat) (s1 : Int) (A1 : Option Addr) (n1 c1 : Nat) (s2 : Int) (A2 : Option Addr) (n2 c2 : Nat), u = .pointer (some ⟨g6, 0, none⟩) ∧ v = .pointer (some ⟨g7, 0, none⟩) ∧
  Hd (Below w0.heap.size w0 wx ∧ Blk wx g6 31 #[.int .i64 s1, .slice A1 n1 c1] ∧ Blk wx g7 31 #[.int .i64 s2, .slice A2 n2 c2] ∧ WhO wx 0 s1 A1 n1 c1 q ∧ WhO wx 0 s2 A2 n2 c2 r)
section
variable {w0 wk : World} {q r s1 s2 : Int} {A1 A2 : Option Addr} {n1 c1 n2 c2 g6 g7 : Nat}
theorem blk_set2 {w : World} {g : Nat} {s : Int} {A : Option Addr} {n c : Nat} {s0 : Int} {A0 : Option Addr} {n0 c0 : Nat} (h : Blk w g 31 #[.int .i64 s0, .slice A0 n0 c0]) : Blk ((w.setCell ⟨g, 0, none⟩ (.int .i64 s)).setCell ⟨g, 1, none⟩ (.slice A n c)) g 31 #[.int .i64 s, .slice A n c] := by
  have := (h.set_ 0 (.int .i64 s)).set_ 1 (.slice A n c)
  simpa using this
theorem WhO.set2 {w : World} {B g : Nat} {s : Int} {A : Option Addr} {n c : Nat} {a : Int} {cs : Array Value} (h : WhO w B s A n c a) (hk : Blk w g 31 cs) (u v : Value) : WhO ((w.setCell ⟨g, 0, none⟩ u).setCell ⟨g, 1, none⟩ v) B s A n c a :=
  (h.setT hk (by decide) 0 u).setT (hk.set_ 0 u) (by decide) 1 v
theorem QmR.e0 (hf : Below w0.heap.size w0 wk) (h6 : Blk wk g6 31 #[.int .i64 0, .slice none 0 0]) (h7 : Blk wk g7 31 #[.int .i64 0, .slice none 0 0]) (l6 : w0.heap.size ≤ g6) (l7 : w0.heap.size ≤ g7) (hne : g6 ≠ g7) (hq : WhO wk 0 s1 A1 n1 c1 q) (hr : WhO wk 0 s2 A2 n2 c2 r) :
    QmR w0 q r (.pointer (some ⟨g6, 0, none⟩)) (.pointer (some ⟨g7, 0, none⟩)) ((((wk.setCell ⟨g6, 0, none⟩ (.int .i64 s1)).setCell ⟨g6, 1, none⟩ (.slice A1 n1 c1)).setCell ⟨g7, 0, none⟩ (.int .i64 s2)).setCell ⟨g7, 1, none⟩ (.slice A2 n2 c2)) := by
  have k7 := (h7.far (p := ⟨g6, 0, none⟩) (by simpa using Ne.symm hne) (.int .i64 s1)).far (p := ⟨g6, 1, none⟩) (by simpa using Ne.symm hne) (.slice A1 n1 c1)
  exact ⟨g6, g7, s1, A1, n1, c1, s2, A2, n2, c2, rfl, rfl, ⟨Below.setCell (Below.setCell (Below.setCell (Below.setCell hf l6 _) l6 _) l7 _) l7 _, ((blk_set2 h6).far (by simpa using hne) _).far (by simpa using hne) _, blk_set2 k7, (hq.set2 h6 _ _).set2 k7 _ _, (hr.set2 h6 _ _).set2 k7 _ _⟩⟩
theorem QmR.ea (hf : Below w0.heap.size w0 wk) (h7 : Blk wk g7 31 #[.int .i64 0, .slice none 0 0]) (l7 : w0.heap.size ≤ g7) (hq : WhO wk 0 s1 A1 n1 c1 q) (hr : WhO wk 0 s2 A2 n2 c2 r) :
    QmR w0 q r (.pointer (some ⟨wk.heap.size, 0, none⟩)) (.pointer (some ⟨g7, 0, none⟩)) (((wk.setCell ⟨g7, 0, none⟩ (.int .i64 s2)).setCell ⟨g7, 1, none⟩ (.slice A2 n2 c2)).alloc (Obj.cells #[.int .i64 s1, .slice A1 n1 c1] 31)) := by
  refine ⟨wk.heap.size, g7, s1, A1, n1, c1, s2, A2, n2, c2, rfl, rfl, ⟨ba _ (Below.setCell (Below.setCell hf l7 _) l7 _), ?_, (blk_set2 h7).alloc _, (hq.set2 h7 _ _).keep (ba _ (Below.refl _ _)), (hr.set2 h7 _ _).keep (ba _ (Below.refl _ _))⟩⟩
  have := Blk.new ((wk.setCell ⟨g7, 0, none⟩ (.int .i64 s2)).setCell ⟨g7, 1, none⟩ (.slice A2 n2 c2)) 31 #[.int .i64 s1, .slice A1 n1 c1]
  simpa using this
theorem QmR.eb (hf : Below w0.heap.size w0 wk) (h6 : Blk wk g6 31 #[.int .i64 0, .slice none 0 0]) (l6 : w0.heap.size ≤ g6) (hq : WhO wk 0 s1 A1 n1 c1 q) (hr : WhO wk 0 s2 A2 n2 c2 r) :
    QmR w0 q r (.pointer (some ⟨g6, 0, none⟩)) (.pointer (some ⟨wk.heap.size, 0, none⟩)) (((wk.setCell ⟨g6, 0, none⟩ (.int .i64 s1)).setCell ⟨g6, 1, none⟩ (.slice A1 n1 c1)).alloc (Obj.cells #[.int .i64 s2, .slice A2 n2 c2] 31)) := by
  refine ⟨g6, wk.heap.size, s1, A1, n1, c1, s2, A2, n2, c2, rfl, rfl, ⟨ba _ (Below.setCell (Below.setCell hf l6 _) l6 _), (blk_set2 h6).alloc _, ?_, (hq.set2 h6 _ _).keep (ba _ (Below.refl _ _)), (hr.set2 h6 _ _).keep (ba _ (Below.refl _ _))⟩⟩
  have := Blk.new ((wk.setCell ⟨g6, 0, none⟩ (.int .i64 s1)).setCell ⟨g6, 1, none⟩ (.slice A1 n1 c1)) 31 #[.int .i64 s2, .slice A2 n2 c2]
  simpa using this
theorem QmR.eab (hf : Below w0.heap.size w0 wk) (hq : WhO wk 0 s1 A1 n1 c1 q) (hr : WhO wk 0 s2 A2 n2 c2 r) :
    QmR w0 q r (.pointer (some ⟨wk.heap.size, 0, none⟩)) (.pointer (some ⟨wk.heap.size + 1, 0, none⟩)) ((wk.alloc (Obj.cells #[.int .i64 s1, .slice A1 n1 c1] 31)).alloc (Obj.cells #[.int .i64 s2, .slice A2 n2 c2] 31)) := by
  refine ⟨wk.heap.size, wk.heap.size + 1, s1, A1, n1, c1, s2, A2, n2, c2, rfl, rfl, ⟨ba _ (ba _ hf), (Blk.new _ _ _).alloc _, ?_, (hq.keep (ba _ (ba _ (Below.refl _ _)))), (hr.keep (ba _ (ba _ (Below.refl _ _))))⟩⟩
  have := Blk.new (wk.alloc (Obj.cells #[.int .i64 s1, .slice A1 n1 c1] 31)) 31 #[.int .i64 s2, .slice A2 n2 c2]
  simpa using this
theorem QmR.eba (hf : Below w0.heap.size w0 wk) (hq : WhO wk 0 s1 A1 n1 c1 q) (hr : WhO wk 0 s2 A2 n2 c2 r) :
    QmR w0 q r (.pointer (some ⟨wk.heap.size + 1, 0, none⟩)) (.pointer (some ⟨wk.heap.size, 0, none⟩)) ((wk.alloc (Obj.cells #[.int .i64 s2, .slice A2 n2 c2] 31)).alloc (Obj.cells #[.int .i64 s1, .slice A1 n1 c1] 31)) := by
  refine ⟨wk.heap.size + 1, wk.heap.size, s1, A1, n1, c1, s2, A2, n2, c2, rfl, rfl, ⟨ba _ (ba _ hf), ?_, (Blk.new _ _ _).alloc _, (hq.keep (ba _ (ba _ (Below.refl _ _)))), (hr.keep (ba _ (ba _ (Below.refl _ _))))⟩⟩
  have := Blk.new (wk.alloc (Obj.cells #[.int .i64 s2, .slice A2 n2 c2] 31)) 31 #[.int .i64 s1, .slice A1 n1 c1]
  simpa using this
theorem fr_w {wy : World} (hf : Below w0.heap.size w0 wk) (hb : Below wk.heap.size wk wy) :
    Below w0.heap.size w0 (wy.alloc (Obj.cells #[.int .i64 0, .slice none 0 0] 31)) ∧ Blk (wy.alloc (Obj.cells #[.int .i64 0, .slice none 0 0] 31)) wy.heap.size 31 #[.int .i64 0, .slice none 0 0] ∧ w0.heap.size ≤ wy.heap.size ∧ Below wk.heap.size wk (wy.alloc (Obj.cells #[.int .i64 0, .slice none 0 0] 31)) :=
  have h := bt3 hb hf
  ⟨ba _ h, Blk.new _ _ _, h.size, ba _ hb⟩
end
structure RtH (w wx : World) (s t e e' : Int) (A A' : Option Addr) (n c c' : Nat) : Prop where
  bel : Below w.heap.size w wx
  b0 : Blk wx w.heap.size 33 #[.int .i64 s, .slice A n c, .int .i64 e]
  b1 : Blk wx (w.heap.size + 1) 33 #[.int .i64 t, .slice A' 1 c', .int .i64 e']
  b2 : Blk wx (w.heap.size + 1 + 1) 33 #[.int .i64 0, .slice none 0 0, .int .i64 0]
theorem RtH.below {w wx w' : World} {s t e e' : Int} {A A' : Option Addr} {n c c' : Nat} (h : RtH w wx s t e e' A A' n c c') (hb : Below wx.heap.size wx w') : RtH w w' s t e e' A A' n c c' :=
  ⟨bt3 hb h.bel, h.b0.below hb h.b0.lt, h.b1.below hb h.b1.lt, h.b2.below hb h.b2.lt⟩
theorem RtH.start (w : World) (s t e e' : Int) (A A' : Option Addr) (n c c' : Nat) : RtH w (((w.alloc (Obj.cells #[.int .i64 s, .slice A n c, .int .i64 e] 33)).alloc (Obj.cells #[.int .i64 t, .slice A' 1 c', .int .i64 e'] 33)).alloc (Obj.cells #[.int .i64 0, .slice none 0 0, .int .i64 0] 33)) s t e e' A A' n c c' := by
  refine ⟨ba _ (ba _ (ba _ (Below.refl _ _))), ((Blk.new _ _ _).alloc _).alloc _, ?_, ?_⟩
  · have := (Blk.new (w.alloc (Obj.cells #[.int .i64 s, .slice A n c, .int .i64 e] 33)) 33 #[.int .i64 t, .slice A' 1 c', .int .i64 e']).alloc (Obj.cells #[.int .i64 0, .slice none 0 0, .int .i64 0] 33)
    simpa using this
  · have := Blk.new ((w.alloc (Obj.cells #[.int .i64 s, .slice A n c, .int .i64 e] 33)).alloc (Obj.cells #[.int .i64 t, .slice A' 1 c', .int .i64 e'] 33)) 33 #[.int .i64 0, .slice none 0 0, .int .i64 0]
    simpa using this
theorem RtH.cells {w wx : World} {s t e e' : Int} {A A' : Option Addr} {n c c' : Nat} (h : RtH w wx s t e e' A A' n c c') : (fun w' => w'.cell? ⟨w.heap.size, 0, none⟩ = some (.int .i64 s) ∧ w'.cell? ⟨w.heap.size, 1, none⟩ = some (.slice A n c) ∧ w'.cell? ⟨w.heap.size + 1, 0, none⟩ = some (.int .i64 t) ∧ w'.cell? ⟨w.heap.size + 1, 1, none⟩ = some (.slice A' 1 c')) wx := ⟨h.b0.cell 0, h.b0.cell 1, h.b1.cell 0, h.b1.cell 1⟩
theorem bd_natA {v : Int} (h : Bd (v.natAbs : Int)) : Bd v := by unfold Bd at *; generalize TOP = T at *; omega
theorem WhO.zero0 {w : World} {B : Nat} {s : Int} {A : Option Addr} {n c : Nat} (h : WhO w B s A n c 0) : s = 0 := by
  obtain ⟨xs, _, _, hN, _⟩ := h
  have he := hN.eq
  rcases hN.sgn with ⟨hs, _⟩ | ⟨hs, hx⟩
  · exact hs
  · have hp := hN.can.pos (by decide) hx
    rcases hs with rfl | rfl <;> omega
/-- by how much the reference lengthens the numerator -/
def rk (a y : Int) : Nat := 64 + bln y.natAbs - bln a.natAbs
abbrev rN (a y : Int) : Int := (a.natAbs : Int) * 2 ^ rk a y
def rQ (a y t : Int) : Int := a.sign * t * (rN a y / y)
def rR (a y : Int) : Int := a.sign * (rN a y % y)
def rtV (a y t e e' : Int) : Int := dv (rQ a y t * 2 + if rN a y % y = 0 then 0 else (rQ a y t).sign) (e - rk a y - e' - 1)
theorem abs_mul_pow (a : Int) (k : Nat) : ((a * 2 ^ k).natAbs : Int) = (a.natAbs : Int) * 2 ^ k := by
  rw [Int.natAbs_mul, Int.natCast_mul]
  have := pow2_pos k
  congr 1
theorem sign_mul_pow {a : Int} (h : a ≠ 0) (k : Nat) : (a * 2 ^ k).sign = a.sign := by
  have hp := pow2_pos k
  rcases Int.lt_or_gt_of_ne h with h | h
  · rw [Int.sign_eq_neg_one_of_neg h, Int.sign_eq_neg_one_of_neg (Int.mul_neg_of_neg_of_pos h hp)]
  · rw [Int.sign_eq_one_of_pos h, Int.sign_eq_one_of_pos (Int.mul_pos h hp)]
theorem s_DivW (t y a : Int) (A' : Option Addr) (c' k : Nat) (s5 : Int) (A5 : Option Addr) (n5 c5 : Nat) (w : World) (hX : WhP w s5 A5 n5 c5 (a * 2 ^ k)) (hY : WhD w t A' 1 c' [y] (t * y)) (ht : t = 1 ∨ t = -1) (hy0 : 0 < y) (ha : a ≠ 0) (hbd : Bd (a * 2 ^ k)) :
    Calls Try.prog 85 #[.agg #[.int .i64 s5, .slice A5 n5 c5], .agg #[.int .i64 t, .slice A' 1 c']] w (RetDM (a.sign * t * ((a.natAbs : Int) * 2 ^ k / y)) (a.sign * ((a.natAbs : Int) * 2 ^ k % y)) w) := by
  have h0 : a * 2 ^ k ≠ 0 := Int.mul_ne_zero ha (Int.ne_of_gt (pow2_pos k))
  obtain ⟨h1, h2⟩ := hX.sgn h0
  rw [sign_mul_pow ha] at h1
  obtain ⟨xs, hx⟩ := hX.opened
  have := s_DivMod s5 t A5 A' n5 c5 c' xs (a * 2 ^ k) y w hx hY h2 ht hy0 hbd
  rw [← hx.num.abs, abs_mul_pow] at this
  rw [← h1]
  exact this
theorem rQ_ne {a y t : Int} (hy0 : 0 < y) (ht : t = 1 ∨ t = -1) (ha : bln a.natAbs ≤ 24) (ha0 : a ≠ 0) : rQ a y t ≠ 0 ∧ 0 < rN a y / y := by
  have h1 := bln_spec (show a.natAbs ≠ 0 by omega)
  have h2 := bln_lt y.natAbs
  have h3 : 2 ^ (bln a.natAbs - 1) * 2 ^ rk a y ≤ a.natAbs * 2 ^ rk a y := Nat.mul_le_mul_right _ h1.1
  rw [← Nat.pow_add] at h3
  have h4 : y.natAbs ≤ a.natAbs * 2 ^ rk a y := Nat.le_trans (Nat.le_of_lt h2) (Nat.le_trans (Nat.pow_le_pow_right (by decide) (by unfold rk; omega)) h3)
  have h5 : y ≤ rN a y := by
    have h6 : ((a.natAbs * 2 ^ rk a y : Nat) : Int) = rN a y := by unfold rN; rw [Int.natCast_mul, Int.natCast_pow]; rfl
    omega
  have h7 : 0 < rN a y / y := by
    have := (Int.le_ediv_iff_mul_le hy0).2 (show 1 * y ≤ rN a y by omega)
    omega
  refine ⟨?_, h7⟩
  unfold rQ
  refine Int.mul_ne_zero (Int.mul_ne_zero (by intro k; exact ha0 (Int.sign_eq_zero_iff_zero.1 k)) (by omega)) (by omega)
theorem rq_bd {a y t E : Int} (ht : t = 1 ∨ t = -1) (hy0 : 0 < y) (ha0 : a ≠ 0) (hN0 : 0 ≤ rN a y) (hN1 : rN a y ≤ 2 ^ 112) (hE : E ≤ 1000) : Bd (rQ a y t * 2) ∧ Bd (rQ a y t * 2 + (rQ a y t).sign) ∧ Bd (dv (rQ a y t * 2) E) ∧ Bd (dv (rQ a y t * 2 + (rQ a y t).sign) E) := by
  have h1 : 0 ≤ rN a y / y := Int.ediv_nonneg hN0 (Int.le_of_lt hy0)
  have h2 : rN a y / y ≤ rN a y := Int.ediv_le_self _ hN0
  have hs : a.sign * t = 1 ∨ a.sign * t = -1 := by
    rcases Int.lt_or_gt_of_ne ha0 with h | h
    · rw [Int.sign_eq_neg_one_of_neg h]; omega
    · rw [Int.sign_eq_one_of_pos h]; omega
  have h3 : (rQ a y t).natAbs ≤ 2 ^ 112 := by
    unfold rQ
    generalize rN a y / y = F at *
    have : ((2 ^ 112 : Nat) : Int) = 2 ^ 112 := by decide
    rcases hs with h | h <;> rw [h] <;> omega
  have h4 : (rQ a y t).sign = 1 ∨ (rQ a y t).sign = -1 ∨ (rQ a y t).sign = 0 := by
    rcases Int.lt_trichotomy (rQ a y t) 0 with h | h | h
    · right; left; exact Int.sign_eq_neg_one_of_neg h
    · right; right; rw [h]; rfl
    · left; exact Int.sign_eq_one_of_pos h
  generalize rQ a y t = q at *
  have h5 : (q * 2).natAbs ≤ 2 ^ 114 ∧ (q * 2 + q.sign).natAbs ≤ 2 ^ 114 := by
    have : (2 : Nat) ^ 114 = 2 ^ 112 * 4 := by decide
    have : 0 < (2 : Nat) ^ 112 := by decide
    generalize (2 : Nat) ^ 114 = P at *
    generalize (2 : Nat) ^ 112 = P' at *
    omega
  have small : ∀ z : Int, z.natAbs ≤ 2 ^ 114 → Bd z ∧ Bd (dv z E) := fun z hz => by
    have hz' : (z.natAbs : Int) ≤ 2 ^ 114 := by have : ((2 ^ 114 : Nat) : Int) = 2 ^ 114 := by decide
                                                rw [← this]; exact Int.ofNat_le.2 hz
    refine ⟨bd_natA (bd200 (by omega) (Int.le_trans hz' (pow_le (by decide) (by decide)))), bd_natA ?_⟩
    unfold dv
    rw [abs_mul_pow]
    have h6 : (2 : Int) ^ (E + SC).toNat ≤ 2 ^ 21000 := pow_le (by decide) (by unfold SC; omega)
    refine bd200 (Int.mul_nonneg (by omega) (Int.le_of_lt (pow2_pos _))) (Int.le_trans (Int.mul_le_mul hz' h6 (Int.le_of_lt (pow2_pos _)) (Int.le_of_lt (pow2_pos 114))) ?_)
    rw [← Int.pow_add]; exact pow_le (by decide) (by decide)
  exact ⟨(small _ h5.1).1, (small _ h5.2).1, (small _ h5.1).2, (small _ h5.2).2⟩
end Go.Proofs.Ytlaaielopcphiaa
