/- Plain facts: the reference's quotient and the program's quotient of two floats are rounded alike. -/
import Derived.Test.YtlaaielopcphiaaD8
import Derived.Test.YtlaaielopcphiaaD9
set_option linter.unusedVariables false
set_option linter.unusedSimpArgs false
set_option exponentiation.threshold 40000
namespace Go.Proofs.Ytlaaielopcphiaa
open Go.RowKit Num Flt
/-- the odd parts of a float -/
theorem dyf_float {x l : Nat} {a e : Int} (hf : fin x) (h : DyF a e (fv x) l) (h0 : fv x ≠ 0) : a ≠ 0 ∧ bln a.natAbs ≤ 24 ∧ -149 ≤ e ∧ e ≤ 400 := by
  have ha : a ≠ 0 := fun k => h0 (by rw [h.val, k]; unfold dv; simp)
  have hp := pe_le hf
  have hm := mv_lt x
  have hv : a * 2 ^ (e + SC).toNat = mv x * 2 ^ (-149 + (pe x : Int) + SC).toNat := h.val.symm
  have hsc : (SC : Int) = 20000 := rfl
  have ho := h.odd ha
  have hlo := h.lo
  have hls := h.lsc
  rcases Int.lt_or_le e (-149 + (pe x : Int)) with k | k
  · exfalso
    obtain ⟨j, hj⟩ : ∃ j : Nat, (-149 + (pe x : Int) + SC).toNat = (e + SC).toNat + (j + 1) := ⟨(-149 + (pe x : Int) + SC).toNat - (e + SC).toNat - 1, by omega⟩
    rw [hj, Int.pow_add, Int.mul_comm (2 ^ (e + SC).toNat), ← Int.mul_assoc] at hv
    have h2 := Int.eq_of_mul_eq_mul_right (Int.ne_of_gt (pow2_pos _)) hv
    rw [Int.pow_succ, ← Int.mul_assoc] at h2
    generalize mv x * 2 ^ j = z at h2
    omega
  · obtain ⟨j, hj⟩ : ∃ j : Nat, (e + SC).toNat = (-149 + (pe x : Int) + SC).toNat + j := ⟨(e + SC).toNat - (-149 + (pe x : Int) + SC).toNat, by omega⟩
    rw [hj, Int.pow_add, Int.mul_comm (2 ^ (-149 + (pe x : Int) + SC).toNat), ← Int.mul_assoc] at hv
    have h2 := Int.eq_of_mul_eq_mul_right (Int.ne_of_gt (pow2_pos _)) hv
    have h3 : a.natAbs * 2 ^ j = (mv x).natAbs := by
      rw [← h2, Int.natAbs_mul, Int.natAbs_pow]; rfl
    have h4 : (mv x).natAbs < 2 ^ 24 := by have : (2 : Nat) ^ 24 = 16777216 := by decide
                                           omega
    have h5 : a.natAbs ≤ a.natAbs * 2 ^ j := Nat.le_mul_of_pos_right _ (Nat.two_pow_pos j)
    have h6 : 2 ^ j ≤ a.natAbs * 2 ^ j := Nat.le_mul_of_pos_left _ (by omega)
    have h7 : j < 24 := (Nat.pow_lt_pow_iff_right (by decide : 1 < 2)).1 (Nat.lt_of_le_of_lt h6 (by omega))
    refine ⟨ha, bln_le (by omega), by omega, by omega⟩
theorem quo_big {a y : Int} (hy0 : 0 < y) (ha : bln a.natAbs ≤ 24) (ha0 : a ≠ 0) : 2 ^ 25 ≤ a.natAbs * 2 ^ rk a y / y.natAbs := by
  have h1 := bln_spec (show a.natAbs ≠ 0 by omega)
  have h2 := bln_lt y.natAbs
  rw [Nat.le_div_iff_mul_le (by omega)]
  have h3 : 2 ^ (bln a.natAbs - 1) * 2 ^ rk a y ≤ a.natAbs * 2 ^ rk a y := Nat.mul_le_mul_right _ h1.1
  have h4 : 2 ^ 25 * y.natAbs ≤ 2 ^ 25 * 2 ^ bln y.natAbs := Nat.mul_le_mul_left _ (Nat.le_of_lt h2)
  rw [← Nat.pow_add] at h3 h4
  exact Nat.le_trans h4 (Nat.le_trans (Nat.pow_le_pow_right (by decide) (by unfold rk; omega)) h3)
theorem rtV_mk {a y t e e' : Int} (hy0 : 0 < y) (ht : t = 1 ∨ t = -1) (ha : bln a.natAbs ≤ 24) (ha0 : a ≠ 0) : rtV a y t e e' = a.sign * t * (mkQ a.natAbs y.natAbs (rk a y) 1 (e - rk a y - e' - 1) : Int) ∧ (a.sign * t = 1 ∨ a.sign * t = -1) ∧ rQ a y t ≠ 0 := by
  have hs : a.sign * t = 1 ∨ a.sign * t = -1 := by
    rcases Int.lt_or_gt_of_ne ha0 with h | h
    · rw [Int.sign_eq_neg_one_of_neg h]; omega
    · rw [Int.sign_eq_one_of_pos h]; omega
  have hb := quo_big hy0 ha ha0
  have hc : rN a y / y = ((a.natAbs * 2 ^ rk a y / y.natAbs : Nat) : Int) := by
    have e1 : y = (y.natAbs : Int) := by omega
    unfold rN
    conv => lhs; rw [e1]
    rw [Int.natCast_ediv, Int.natCast_mul, Int.natCast_pow]; rfl
  have hm : rN a y % y = ((a.natAbs * 2 ^ rk a y % y.natAbs : Nat) : Int) := by
    have e1 : y = (y.natAbs : Int) := by omega
    unfold rN
    conv => lhs; rw [e1]
    rw [Int.natCast_emod, Int.natCast_mul, Int.natCast_pow]; rfl
  refine ⟨?_, hs, ?_⟩
  · unfold rtV mkQ rQ dv
    rw [hc, hm]
    generalize a.natAbs * 2 ^ rk a y / y.natAbs = F at *
    generalize a.natAbs * 2 ^ rk a y % y.natAbs = r at *
    have hF : 0 < F := Nat.lt_of_lt_of_le (Nat.two_pow_pos 25) hb
    generalize hsg : a.sign * t = sg at *
    have h9 : (sg * (F : Int)).sign = sg := by
      rcases hs with h | h
      · rw [h, Int.one_mul]; exact Int.sign_eq_one_of_pos (by omega)
      · rw [h, Int.neg_mul, Int.one_mul]; exact Int.sign_eq_neg_one_of_neg (by omega)
    rw [h9, Int.natCast_mul, Int.natCast_pow, ← Int.mul_assoc]
    congr 1
    by_cases hr : r = 0
    · subst hr; simp; rw [Int.mul_assoc, Int.mul_comm 2]
    · have : ¬ ((r : Int) = 0) := by omega
      rw [if_neg this, if_neg hr]
      push_cast
      rw [Int.mul_add, Int.mul_one, Int.mul_comm 2 (F : Int), Int.mul_assoc]
  · unfold rQ
    rw [hc]
    have hF : 0 < a.natAbs * 2 ^ rk a y / y.natAbs := Nat.lt_of_lt_of_le (Nat.two_pow_pos 25) hb
    generalize a.natAbs * 2 ^ rk a y / y.natAbs = F at *
    rcases hs with h | h <;> rw [h] <;> omega
theorem qV_mk {ma mb ea eb VA VB : Int} (h : 0 < (mb.natAbs : Int)) : qV ma mb ea eb VA VB = (if VA.sign = VB.sign then 1 else -1) * (mkQ ma.natAbs mb.natAbs (qby ma mb) 2 (ea - eb - qby ma mb - 2) : Int) := by
  have hc : qN ma mb / (mb.natAbs : Int) = ((ma.natAbs * 2 ^ qby ma mb / mb.natAbs : Nat) : Int) := by
    unfold qN; rw [Int.natCast_ediv, Int.natCast_mul, Int.natCast_pow]; rfl
  have hm : qN ma mb % (mb.natAbs : Int) = ((ma.natAbs * 2 ^ qby ma mb % mb.natAbs : Nat) : Int) := by
    unfold qN; rw [Int.natCast_emod, Int.natCast_mul, Int.natCast_pow]; rfl
  have e : dv (qM ma mb) (ea - eb - qby ma mb - 2) = (mkQ ma.natAbs mb.natAbs (qby ma mb) 2 (ea - eb - qby ma mb - 2) : Int) := by
    have hP : ∀ k : Nat, ((2 ^ k : Nat) : Int) = (2 : Int) ^ k := fun k => by rw [Int.natCast_pow]; rfl
    unfold qM mkQ dv
    rw [hc, hm]
    generalize ma.natAbs * 2 ^ qby ma mb / mb.natAbs = F
    generalize ma.natAbs * 2 ^ qby ma mb % mb.natAbs = r
    rw [Int.natCast_mul, hP]
    refine congrArg (fun z => z * (2 : Int) ^ (ea - eb - (qby ma mb : Int) - 2 + SC).toNat) ?_
    by_cases hr : r = 0
    · subst hr; simp; omega
    · have : ¬ ((r : Int) = 0) := by omega
      rw [if_neg this, if_neg hr]; push_cast; omega
  unfold qV
  rw [e]
  split <;> omega
/-- both quotients are rounded alike -/
theorem div_same {mode : Int} {x y l l' : Nat} {a e b e' t yy : Int} (fx : fin x) (fy : fin y) (hA : DyF a e (fv x) l) (hB : DyF b e' (fv y) l') (hx0 : fv x ≠ 0) (hy0 : fv y ≠ 0) (hb : b = t * yy) (ht : t = 1 ∨ t = -1) (hyy : 0 < yy) :
    rF mode (rtV a yy t e e') = rF mode (qV (mv x) (mv y) (-149 + (pe x : Int)) (-149 + (pe y : Int)) (fv x) (fv y)) ∧ rFl mode (rtV a yy t e e') = rFl mode (qV (mv x) (mv y) (-149 + (pe x : Int)) (-149 + (pe y : Int)) (fv x) (fv y)) := by
  obtain ⟨ha0, ha, he1, he2⟩ := dyf_float fx hA hx0
  obtain ⟨hb0, hbl, he3, he4⟩ := dyf_float fy hB hy0
  have hpx := pe_le fx
  have hpy := pe_le fy
  have hmx := mv_lt x
  have hmy := mv_lt y
  have hmx0 : mv x ≠ 0 := fun k => hx0 (by unfold fv; rw [k]; unfold dv; simp)
  have hmy0 : mv y ≠ 0 := fun k => hy0 (by unfold fv; rw [k]; unfold dv; simp)
  have e24 : (2 : Nat) ^ 24 = 16777216 := by decide
  have hbx : bln (mv x).natAbs ≤ 24 := bln_le (by omega)
  have hby : bln (mv y).natAbs ≤ 24 := bln_le (by omega)
  obtain ⟨q1, q2, q3, q4, q5, q6, q7⟩ := q_sizes hbx hby hmx0 hmy0
  obtain ⟨r1, r2, r3⟩ := rtV_mk (e := e) (e' := e') hyy ht ha ha0
  have hyb : yy.natAbs = b.natAbs := by rw [hb]; rcases ht with rfl | rfl <;> simp
  rw [r1, qV_mk q3]
  have hsx : (fv x).sign = a.sign := by rw [hA.val]; unfold dv; exact sign_mul_pow ha0 _
  have hsy : (fv y).sign = t := by
    rw [hB.val]; unfold dv
    rw [sign_mul_pow hb0, hb]
    rcases ht with rfl | rfl
    · rw [Int.one_mul]; exact Int.sign_eq_one_of_pos hyy
    · rw [Int.neg_mul, Int.one_mul]; exact Int.sign_eq_neg_one_of_neg (by omega)
  have hsg : (if (fv x).sign = (fv y).sign then (1 : Int) else -1) = a.sign * t := by
    rw [hsx, hsy]
    have h1 : a.sign = 1 ∨ a.sign = -1 := by
      rcases Int.lt_or_gt_of_ne ha0 with h | h
      · right; exact Int.sign_eq_neg_one_of_neg h
      · left; exact Int.sign_eq_one_of_pos h
    rcases h1 with h1 | h1 <;> rcases ht with rfl | rfl <;> rw [h1] <;> decide
  rw [hsg]
  have abs_dv : ∀ m E : Int, ((dv m E).natAbs : Int) = (m.natAbs : Int) * 2 ^ (E + SC).toNat := fun m E => abs_mul_pow m _
  have hF2 : 2 ^ 25 ≤ (mv x).natAbs * 2 ^ qby (mv x) (mv y) / (mv y).natAbs := by
    rw [Nat.le_div_iff_mul_le (by omega)]
    have h2 : 2 ^ 80 ≤ 2 ^ qby (mv x) (mv y) := Nat.pow_le_pow_right (by decide) q2
    have h3 : 2 ^ qby (mv x) (mv y) ≤ (mv x).natAbs * 2 ^ qby (mv x) (mv y) := Nat.le_mul_of_pos_left _ (by omega)
    have h4 : 2 ^ 25 * (mv y).natAbs ≤ 2 ^ 25 * 16777216 := Nat.mul_le_mul_left _ (by omega)
    have h5 : 2 ^ 25 * 16777216 ≤ 2 ^ 80 := by decide
    exact Nat.le_trans h4 (Nat.le_trans h5 (Nat.le_trans h2 h3))
  refine div_alike (X := (fv x).natAbs) (Y := (fv y).natAbs) r2 (e := e) (d := e') (e2 := -149 + (pe x : Int)) (d2 := -149 + (pe y : Int)) ?_ ?_ ?_ ?_ (by omega) (by omega) (by omega) (by omega) (by omega) (by omega) ?_ (by omega) (by decide) (by decide) (by omega) (by omega) (quo_big hyy ha ha0) hF2
  · rw [hA.val]; exact abs_dv _ _
  · rw [hB.val, hyb]; exact abs_dv _ _
  · exact abs_dv _ _
  · exact abs_dv _ _
  · unfold rk; have := bln_lt yy.natAbs; rw [hyb]; omega
end Go.Proofs.Ytlaaielopcphiaa
