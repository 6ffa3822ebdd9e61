/- Hb: P22 D1 D2 D3 D4, merged. -/
import Derived.Test.YtflgjecpjaiecaaGreatGeq4
import Derived.Test.YtflgjecpjaiecaaGreatGbq4
import Derived.Test.YtflgjecpjaiecaaGreatGiq4
/- Contracts: division of the program's magnitudes by one digit. -/
set_option linter.unusedVariables false
set_option linter.unusedSimpArgs false
namespace Go.Proofs.YtflgjecpjaiecaaGreat
open Go.RowKit Num
/-- short division, the digits above j done -/
def DivR (xs : List Int) (d : Int) (n j : Nat) (r : Int) (zs : List Int) : Prop :=
  zs.length = n ∧ Rng 4294967296 (zs.drop j) ∧ Rng 4294967296 zs ∧ val 4294967296 (zs.drop j) = val 4294967296 (xs.drop j) / d ∧ r = val 4294967296 (xs.drop j) % d
theorem rng_set {B : Int} {zs : List Int} {x : Int} (h : Rng B zs) (i : Nat) (h0 : 0 ≤ x) (h1 : x < B) : Rng B (zs.set i x) := by
  intro y hy
  rcases List.mem_or_eq_of_mem_set hy with hy | rfl
  · exact h y hy
  · exact ⟨h0, h1⟩
theorem DivR.start (xs : List Int) (d : Int) (n : Nat) (hn : n = xs.length) : DivR xs d n n 0 (List.replicate n 0) := by
  have e1 : (List.replicate n (0 : Int)).drop n = [] := List.drop_eq_nil_of_le (by simp)
  have e2 : xs.drop n = [] := List.drop_eq_nil_of_le (by omega)
  refine ⟨by simp, by rw [e1]; exact Rng.nil _, fun y hy => ?_, by rw [e1, e2]; simp [val], by rw [e2]; simp [val]⟩
  have := List.eq_of_mem_replicate hy
  subst this; exact ⟨by decide, by decide⟩
theorem DivR.next {xs zs : List Int} {d r : Int} {n j : Nat} (hd : 0 < d) (hd1 : d < 4294967296) (hx : Rng 4294967296 xs) (hn : n = xs.length) (h : DivR xs d n (j + 1) r zs) (hj : j < n) :
    0 ≤ r ∧ r < d ∧ 0 ≤ (r * 4294967296 + xs.getD j 0) / d ∧ (r * 4294967296 + xs.getD j 0) / d < 4294967296 ∧ DivR xs d n j ((r * 4294967296 + xs.getD j 0) % d) (zs.set j ((r * 4294967296 + xs.getD j 0) / d)) := by
  obtain ⟨h1, h2, h2', h3, h4⟩ := h
  have hr0 : 0 ≤ r := by rw [h4]; exact Int.emod_nonneg _ (by omega)
  have hr1 : r < d := by rw [h4]; exact Int.emod_lt_of_pos _ hd
  have hg := hx.getD (by decide) j
  have hq0 : 0 ≤ (r * 4294967296 + xs.getD j 0) / d := Int.ediv_nonneg (by omega) (Int.le_of_lt hd)
  have hq1 : (r * 4294967296 + xs.getD j 0) / d < 4294967296 := by
    refine Int.ediv_lt_of_lt_mul hd ?_
    have := Int.mul_le_mul_of_nonneg_right (show r + 1 ≤ d by omega) (show (0 : Int) ≤ 4294967296 by decide)
    rw [Int.add_mul] at this
    rw [Int.mul_comm 4294967296 d]
    omega
  have ex : val 4294967296 (xs.drop j) = xs.getD j 0 + 4294967296 * val 4294967296 (xs.drop (j + 1)) := val_drop _ _ _
  have hD := Int.mul_ediv_add_emod (val 4294967296 (xs.drop (j + 1))) d
  have hD2 := Int.mul_ediv_add_emod (r * 4294967296 + xs.getD j 0) d
  have hm0 := Int.emod_nonneg (r * 4294967296 + xs.getD j 0) (show d ≠ 0 by omega)
  have hm1 := Int.emod_lt_of_pos (r * 4294967296 + xs.getD j 0) hd
  rw [← h4] at hD
  have es : (zs.set j ((r * 4294967296 + xs.getD j 0) / d)).drop j = ((r * 4294967296 + xs.getD j 0) / d) :: zs.drop (j + 1) := by
    rw [List.drop_eq_getElem_cons (by simp; omega)]
    simp
    rw [List.drop_set_of_lt (by omega)]
  generalize hQ : val 4294967296 (xs.drop (j + 1)) / d = Q at *
  generalize hH : val 4294967296 (xs.drop (j + 1)) = H at *
  generalize hy : xs.getD j 0 = y at *
  generalize hq : (r * 4294967296 + y) / d = q at *
  generalize hm : (r * 4294967296 + y) % d = m at *
  have eV : y + 4294967296 * H = m + d * (q + 4294967296 * Q) := by
    have : 4294967296 * H = d * (4294967296 * Q) + r * 4294967296 := by
      rw [← hD, Int.mul_add, Int.mul_left_comm, Int.mul_comm 4294967296 r]
    rw [Int.mul_add]; omega
  refine ⟨hr0, hr1, hq0, hq1, by simpa using h1, ?_, rng_set h2' j hq0 hq1, ?_, ?_⟩
  · rw [es]; intro z hz
    rcases List.mem_cons.1 hz with rfl | hz
    · exact ⟨hq0, hq1⟩
    · exact h2 z hz
  · rw [es, ex, eV, Int.add_mul_ediv_left _ _ (by omega), Int.ediv_eq_zero_of_lt hm0 hm1]
    simp [val, h3]
  · rw [ex, eV, Int.add_mul_emod_self_left, Int.emod_eq_of_lt hm0 hm1]
end Go.Proofs.YtflgjecpjaiecaaGreat
/- Plain facts: a rounded quotient is settled by a cut quotient with a mark for what was cut off. -/
set_option linter.unusedVariables false
set_option linter.unusedSimpArgs false
namespace Go.Proofs.YtflgjecpjaiecaaGreat.Num
theorem bln_cell {K t M : Nat} (hK : 1 ≤ K) (h1 : K * 2 ^ t ≤ M) (h2 : M < (K + 1) * 2 ^ t) : bln M = bln K + t := by
  have h0 := bln_spec (show K ≠ 0 by omega)
  have e : bln K + t = (bln K - 1 + t) + 1 := by omega
  rw [e]
  refine bln_eq ?_ ?_
  · rw [Nat.pow_add]
    exact Nat.le_trans (Nat.mul_le_mul_right _ h0.1) h1
  · rw [show bln K - 1 + t + 1 = bln K + t by omega, Nat.pow_add]
    exact Nat.lt_of_lt_of_le h2 (Nat.mul_le_mul_right _ h0.2.1)
theorem cell_div {K t M : Nat} (h1 : K * 2 ^ t ≤ M) (h2 : M < (K + 1) * 2 ^ t) : M / 2 ^ t = K := by
  have hp := Nat.two_pow_pos t
  refine Nat.le_antisymm ?_ ((Nat.le_div_iff_mul_le hp).2 h1)
  exact Nat.lt_succ_iff.1 ((Nat.div_lt_iff_lt_mul hp).2 h2)
/-- the parts of a number in an open cell -/
theorem cell_parts {K t M q : Nat} (h1 : K * 2 ^ t < M) (h2 : M < (K + 1) * 2 ^ t) (hq : t + 1 ≤ q) :
    M / 2 ^ q = K / 2 ^ (q - t) ∧ M % 2 ^ q ≠ 0 ∧ 2 ^ q ≠ 2 * (M % 2 ^ q) ∧ (2 ^ q < 2 * (M % 2 ^ q) ↔ 2 ^ (q - t) ≤ 2 * (K % 2 ^ (q - t))) := by
  have hd := cell_div (Nat.le_of_lt h1) h2
  have e : 2 ^ q = 2 ^ t * 2 ^ (q - t) := by rw [← Nat.pow_add]; congr 1; omega
  have e2 : 2 ^ (q - t) = 2 * 2 ^ (q - t - 1) := by rw [← Nat.pow_succ']; congr 1; omega
  have hm : M % 2 ^ q = M % 2 ^ t + 2 ^ t * (K % 2 ^ (q - t)) := by rw [e, Nat.mod_mul, hd]
  have hr : 0 < M % 2 ^ t := by
    have h3 := Nat.div_add_mod M (2 ^ t)
    rw [hd, Nat.mul_comm] at h3
    omega
  have hr2 : M % 2 ^ t < 2 ^ t := Nat.mod_lt _ (Nat.two_pow_pos t)
  refine ⟨by rw [e, ← Nat.div_div_eq_div_mul, hd], by rw [hm]; omega, ?_, ?_⟩
  · rw [hm, e, e2]
    generalize M % 2 ^ t = r at *
    generalize K % (2 * 2 ^ (q - t - 1)) = R at *
    generalize 2 ^ (q - t - 1) = H at *
    generalize 2 ^ t = P at *
    intro h
    rcases Nat.lt_or_ge R H with k | k
    · have := Nat.mul_le_mul_left P (show R + 1 ≤ H from k)
      rw [Nat.mul_add] at this
      rw [Nat.mul_left_comm] at h
      omega
    · have := Nat.mul_le_mul_left P k
      rw [Nat.mul_left_comm] at h
      omega
  · rw [hm, e, e2]
    generalize M % 2 ^ t = r at *
    generalize K % (2 * 2 ^ (q - t - 1)) = R at *
    generalize 2 ^ (q - t - 1) = H at *
    generalize 2 ^ t = P at *
    constructor
    · intro h
      rcases Nat.lt_or_ge R H with k | k
      · have := Nat.mul_le_mul_left P (show R + 1 ≤ H from k)
        rw [Nat.mul_add] at this
        rw [Nat.mul_left_comm] at h
        omega
      · omega
    · intro h
      have := Nat.mul_le_mul_left P (show H ≤ R by omega)
      rw [Nat.mul_left_comm]
      omega
/-- two numbers in one open cell are rounded alike -/
theorem rg_cell {mode : Int} {neg : Bool} {K t M M' : Nat} (hK : 2 ^ 25 ≤ K) (h1 : K * 2 ^ t < M) (h2 : M < (K + 1) * 2 ^ t) (h1' : K * 2 ^ t < M') (h2' : M' < (K + 1) * 2 ^ t) :
    rgN mode neg M = rgN mode neg M' ∧ flF mode neg M = flF mode neg M' := by
  have hK1 : 1 ≤ K := Nat.le_trans (Nat.two_pow_pos 25) hK
  have b1 := bln_cell hK1 (Nat.le_of_lt h1) h2
  have b2 := bln_cell hK1 (Nat.le_of_lt h1') h2'
  have hb := le_bln hK
  have eq : rqN M = rqN M' := by unfold rqN; rw [b1, b2]
  have hq : t + 1 ≤ rqN M := by unfold rqN; omega
  obtain ⟨p1, p2, p3, p4⟩ := cell_parts h1 h2 hq
  obtain ⟨q1, q2, q3, q4⟩ := cell_parts h1' h2' hq
  have et : rtN M = rtN M' := by unfold rtN; rw [← eq, p1, q1]
  have eu : upB mode neg M = upB mode neg M' := by
    unfold upB rrN
    rw [← eq, ← et, if_neg p2, if_neg q2]
    by_cases hm : mode = 0
    · rw [if_pos hm, if_pos hm, decide_eq_false p3, decide_eq_false q3]
      simp only [Bool.false_and, Bool.or_false]
      exact decide_eq_decide.2 (p4.trans q4.symm)
    · rw [if_neg hm, if_neg hm]
  have em : rmN mode neg M = rmN mode neg M' := by unfold rmN; rw [et, eu]
  have eo : ovB mode neg M = ovB mode neg M' := by unfold ovB; rw [em, eq]
  refine ⟨by unfold rgN; rw [eo, em, eq], ?_⟩
  have r1 : rrN M ≠ 0 := p2
  have r2 : rrN M' ≠ 0 := by unfold rrN; rw [← eq]; exact q2
  unfold flF
  rw [eo, if_neg r1, if_neg r2, b1, b2]
/-- a cut quotient with a mark, in a scale -/
def cutM (X Y p c g : Nat) : Nat := (2 ^ c * (X * 2 ^ p / Y) + (if X * 2 ^ p % Y = 0 then 0 else 1)) * 2 ^ (g - c)
theorem cut_le {mode : Int} {neg : Bool} {X Y p p' c c' g g' : Nat} (hY : 0 < Y) (hp : p ≤ p') (hc : 1 ≤ c) (hc' : 1 ≤ c') (hg : c ≤ g) (hg' : c' ≤ g') (hgg : g = g' + (p' - p)) (hF : 2 ^ 25 ≤ X * 2 ^ p / Y) :
    rgN mode neg (cutM X Y p c g) = rgN mode neg (cutM X Y p' c' g') ∧ flF mode neg (cutM X Y p c g) = flF mode neg (cutM X Y p' c' g') := by
  obtain ⟨j, rfl⟩ : ∃ j, p' = p + j := ⟨p' - p, by omega⟩
  obtain rfl : g = g' + j := by omega
  have e0 : X * 2 ^ (p + j) = X * 2 ^ p * 2 ^ j := by rw [Nat.pow_add, Nat.mul_assoc]
  have hD := Nat.div_add_mod (X * 2 ^ p) Y
  have hr := Nat.mod_lt (X * 2 ^ p) hY
  unfold cutM
  rw [e0]
  generalize X * 2 ^ p = Z at *
  generalize hFd : Z / Y = F at *
  generalize hrd : Z % Y = r at *
  have hj := Nat.two_pow_pos j
  have ec : 2 ^ (g' + j) = 2 ^ (g' + j - c) * 2 ^ c := by rw [← Nat.pow_add]; congr 1; omega
  have ec' : 2 ^ g' = 2 ^ (g' - c') * 2 ^ c' := by rw [← Nat.pow_add]; congr 1; omega
  by_cases h0 : r = 0
  · subst h0
    have eZ : Z * 2 ^ j = Y * (F * 2 ^ j) := by rw [← Nat.mul_assoc]; congr 1; omega
    have e1 : Z * 2 ^ j / Y = F * 2 ^ j := by rw [eZ]; exact Nat.mul_div_cancel_left _ hY
    have e2 : Z * 2 ^ j % Y = 0 := by rw [eZ]; exact Nat.mul_mod_right _ _
    rw [e1, e2, if_pos rfl]
    have e3 : (2 ^ c * F + 0) * 2 ^ (g' + j - c) = F * 2 ^ (g' + j) := by rw [ec, Nat.add_zero, Nat.mul_comm (2 ^ c) F, Nat.mul_assoc, Nat.mul_comm (2 ^ c)]
    have e4 : (2 ^ c' * (F * 2 ^ j) + 0) * 2 ^ (g' - c') = F * 2 ^ (g' + j) := by rw [Nat.pow_add 2 g' j, ec', Nat.add_zero, Nat.mul_comm (2 ^ c') (F * 2 ^ j), Nat.mul_assoc, Nat.mul_assoc, Nat.mul_comm (2 ^ c'), Nat.mul_comm (2 ^ j)]
    rw [e3, e4]
    exact ⟨rfl, rfl⟩
  · rw [if_neg h0]
    have f1 : F * 2 ^ j ≤ Z * 2 ^ j / Y := by
      rw [Nat.le_div_iff_mul_le hY, Nat.mul_right_comm]
      exact Nat.mul_le_mul_right _ (by rw [Nat.mul_comm]; omega)
    have f2 : Z * 2 ^ j / Y < (F + 1) * 2 ^ j := by
      rw [Nat.div_lt_iff_lt_mul hY, Nat.mul_right_comm]
      exact Nat.mul_lt_mul_of_pos_right (by rw [Nat.add_mul, Nat.one_mul, Nat.mul_comm]; omega) hj
    have f3 : Z * 2 ^ j / Y = F * 2 ^ j → Z * 2 ^ j % Y ≠ 0 := by
      intro h1 h2
      have := Nat.div_add_mod (Z * 2 ^ j) Y
      rw [h1, h2, Nat.add_zero, ← Nat.mul_assoc] at this
      have := Nat.eq_of_mul_eq_mul_right hj this
      omega
    generalize hG : Z * 2 ^ j / Y = G at *
    have hs : (if Z * 2 ^ j % Y = 0 then 0 else 1) ≤ 1 := by split <;> omega
    have f4 : 2 ^ c' * (F * 2 ^ j) < 2 ^ c' * G + (if Z * 2 ^ j % Y = 0 then 0 else 1) := by
      rcases Nat.lt_or_eq_of_le f1 with k | k
      · have := Nat.mul_lt_mul_of_pos_left k (Nat.two_pow_pos c'); omega
      · rw [if_neg (f3 k.symm), k]; omega
    have f5 : 2 ^ c' * G + (if Z * 2 ^ j % Y = 0 then 0 else 1) < 2 ^ c' * ((F + 1) * 2 ^ j) := by
      have h2 : 2 ≤ 2 ^ c' := Nat.le_trans (by decide) (Nat.pow_le_pow_right (show 0 < 2 by decide) hc')
      have := Nat.mul_le_mul_left (2 ^ c') (show G + 1 ≤ (F + 1) * 2 ^ j from f2)
      rw [Nat.mul_add] at this
      omega
    generalize (if Z * 2 ^ j % Y = 0 then 0 else 1) = sg at *
    have hpc := Nat.two_pow_pos (g' + j - c)
    have hpc' := Nat.two_pow_pos (g' - c')
    have h2c : 2 ≤ 2 ^ c := Nat.le_trans (by decide) (Nat.pow_le_pow_right (show 0 < 2 by decide) hc)
    refine rg_cell (t := g' + j) hF ?_ ?_ ?_ ?_
    · rw [ec, ← Nat.mul_assoc, Nat.mul_right_comm]
      exact Nat.mul_lt_mul_of_pos_right (by rw [Nat.mul_comm]; omega) hpc
    · rw [ec, ← Nat.mul_assoc, Nat.mul_right_comm]
      exact Nat.mul_lt_mul_of_pos_right (by rw [Nat.add_mul, Nat.mul_comm F]; omega) hpc
    · have e5 : F * 2 ^ (g' + j) = 2 ^ c' * (F * 2 ^ j) * 2 ^ (g' - c') := by rw [Nat.pow_add 2 g' j, ec']; simp [Nat.mul_assoc, Nat.mul_comm, Nat.mul_left_comm]
      rw [e5]
      exact Nat.mul_lt_mul_of_pos_right f4 hpc'
    · have e5 : (F + 1) * 2 ^ (g' + j) = 2 ^ c' * ((F + 1) * 2 ^ j) * 2 ^ (g' - c') := by rw [Nat.pow_add 2 g' j, ec']; simp [Nat.mul_assoc, Nat.mul_comm, Nat.mul_left_comm]
      rw [e5]
      exact Nat.mul_lt_mul_of_pos_right f5 hpc'
end Go.Proofs.YtflgjecpjaiecaaGreat.Num
/- Contracts: quotient and rest of the program's integers, for a divisor of one digit. -/
set_option linter.unusedVariables false
set_option linter.unusedSimpArgs false
namespace Go.Proofs.YtflgjecpjaiecaaGreat
open Go.RowKit Num
theorem MagP.grown' {w w' : World} {A : Option Addr} {n c z : Nat} {v : Int} (h : MagP w A n c v) (hz : IntB w z) (hg : w.grownBy w' (some z)) : MagP w' A n c v := by
  obtain ⟨xs, h⟩ := h
  obtain ⟨b0, A0, n0, c0, hk⟩ := hz
  have hne : ∀ ad, A = some ad → some ad.block ≠ some z := fun ad e k => by
    obtain ⟨cs, hb⟩ := h.typ ad e
    have : ad.block = z := by simpa using k
    subst this
    exact (hb.ne_ hk (by decide)) rfl
  exact ⟨xs, h.len, h.cap, h.can, h.reads.grown hg hne, fun ad e => by obtain ⟨cs, hb⟩ := h.typ ad e; exact ⟨cs, hb.grown hg (hne ad e)⟩, h.eq⟩
end Go.Proofs.YtflgjecpjaiecaaGreat
/- Contracts: cut quotients with a mark, in the program. -/
set_option linter.unusedVariables false
set_option linter.unusedSimpArgs false
namespace Go.Proofs.YtflgjecpjaiecaaGreat
open Go.RowKit Num Flt
end Go.Proofs.YtflgjecpjaiecaaGreat
/- Contracts: the program's quotient of two floats' numbers, cut and marked. -/
set_option linter.unusedVariables false
set_option linter.unusedSimpArgs false
set_option exponentiation.threshold 40000
namespace Go.Proofs.YtflgjecpjaiecaaGreat
open Go.RowKit Num Flt
abbrev Wqt (w : World) (ga gb : Nat) (ea eb : Int) : World := ((w.alloc (Obj.cells #[.pointer (some ⟨ga, 0, none⟩), .int .i64 ea] 113)).alloc (Obj.cells #[.pointer (some ⟨gb, 0, none⟩), .int .i64 eb] 113)).alloc (Obj.cells #[.pointer none, .int .i64 0] 113)
structure QtH (w wx : World) (ga gb : Nat) (ea eb : Int) : Prop where
  bel : Below w.heap.size w wx
  b0 : Blk wx w.heap.size 113 #[.pointer (some ⟨ga, 0, none⟩), .int .i64 ea]
  b1 : Blk wx (w.heap.size + 1) 113 #[.pointer (some ⟨gb, 0, none⟩), .int .i64 eb]
  b2 : Blk wx (w.heap.size + 1 + 1) 113 #[.pointer none, .int .i64 0]
theorem QtH.below {w wx w' : World} {ga gb : Nat} {ea eb : Int} (h : QtH w wx ga gb ea eb) (hb : Below wx.heap.size wx w') : QtH w w' ga gb ea eb :=
  ⟨bt3 hb h.bel, h.b0.below hb h.b0.lt, h.b1.below hb h.b1.lt, h.b2.below hb h.b2.lt⟩
theorem QtH.start (w : World) (ga gb : Nat) (ea eb : Int) : QtH w (Wqt w ga gb ea eb) ga gb ea eb := by
  refine ⟨ba _ (ba _ (ba _ (Below.refl _ _))), ((Blk.new _ _ _).alloc _).alloc _, ?_, ?_⟩
  · have := (Blk.new (w.alloc (Obj.cells #[.pointer (some ⟨ga, 0, none⟩), .int .i64 ea] 113)) 113 #[.pointer (some ⟨gb, 0, none⟩), .int .i64 eb]).alloc (Obj.cells #[.pointer none, .int .i64 0] 113)
    simpa [Wqt] using this
  · have := Blk.new ((w.alloc (Obj.cells #[.pointer (some ⟨ga, 0, none⟩), .int .i64 ea] 113)).alloc (Obj.cells #[.pointer (some ⟨gb, 0, none⟩), .int .i64 eb] 113)) 113 #[.pointer none, .int .i64 0]
    simpa [Wqt] using this
theorem QtH.cells {w wx : World} {ga gb : Nat} {ea eb : Int} (h : QtH w wx ga gb ea eb) : (fun w' => w'.cell? ⟨w.heap.size, 0, none⟩ = some (.pointer (some ⟨ga, 0, none⟩)) ∧ w'.cell? ⟨w.heap.size, 1, none⟩ = some (.int .i64 ea) ∧ w'.cell? ⟨w.heap.size + 1, 0, none⟩ = some (.pointer (some ⟨gb, 0, none⟩)) ∧ w'.cell? ⟨w.heap.size + 1, 1, none⟩ = some (.int .i64 eb)) wx := ⟨h.b0.cell 0, h.b0.cell 1, h.b1.cell 0, h.b1.cell 1⟩
end Go.Proofs.YtflgjecpjaiecaaGreat
