/- Plain facts: a rounded quotient is settled by a cut quotient with a mark for what was cut off. -/
import Derived.Test.YtlaaielopcphiaaGb
set_option linter.unusedVariables false
set_option linter.unusedSimpArgs false
namespace Go.Proofs.Ytlaaielopcphiaa.Num
theorem bln_cell {K t M : Nat} (hK : 1 ≤ K) (h1 : K * 2 ^ t ≤ M) (h2 : M < (K + 1) * 2 ^ t) : bln M = bln K + t := by
  have h0 := bln_spec (show K ≠ 0 by omega)
  have e : bln K + t = (bln K - 1 + t) + 1 := by omega
  rw [e]
  refine bln_eq ?_ ?_
  · rw [Nat.pow_add]
    exact Nat.le_trans (Nat.mul_le_mul_right _ h0.1) h1
  · rw [show bln K - 1 + t + 1 = bln K + t by omega, Nat.pow_add]
    exact Nat.lt_of_lt_of_le h2 (Nat.mul_le_mul_right _ h0.2.1)
theorem cell_div {K t M : Nat} (h1 : K * 2 ^ t ≤ M) (h2 : M < (K + 1) * 2 ^ t) : M / 2 ^ t = K := by
  have hp := Nat.two_pow_pos t
  refine Nat.le_antisymm ?_ ((Nat.le_div_iff_mul_le hp).2 h1)
  exact Nat.lt_succ_iff.1 ((Nat.div_lt_iff_lt_mul hp).2 h2)
/-- the parts of a number in an open cell -/
theorem cell_parts {K t M q : Nat} (h1 : K * 2 ^ t < M) (h2 : M < (K + 1) * 2 ^ t) (hq : t + 1 ≤ q) :
    M / 2 ^ q = K / 2 ^ (q - t) ∧ M % 2 ^ q ≠ 0 ∧ 2 ^ q ≠ 2 * (M % 2 ^ q) ∧ (2 ^ q < 2 * (M % 2 ^ q) ↔ 2 ^ (q - t) ≤ 2 * (K % 2 ^ (q - t))) := by
  have hd := cell_div (Nat.le_of_lt h1) h2
  have e : 2 ^ q = 2 ^ t * 2 ^ (q - t) := by rw [← Nat.pow_add]; congr 1; omega
  have e2 : 2 ^ (q - t) = 2 * 2 ^ (q - t - 1) := by rw [← Nat.pow_succ']; congr 1; omega
  have hm : M % 2 ^ q = M % 2 ^ t + 2 ^ t * (K % 2 ^ (q - t)) := by rw [e, Nat.mod_mul, hd]
  have hr : 0 < M % 2 ^ t := by
    have h3 := Nat.div_add_mod M (2 ^ t)
    rw [hd, Nat.mul_comm] at h3
    omega
  have hr2 : M % 2 ^ t < 2 ^ t := Nat.mod_lt _ (Nat.two_pow_pos t)
  refine ⟨by rw [e, ← Nat.div_div_eq_div_mul, hd], by rw [hm]; omega, ?_, ?_⟩
  · rw [hm, e, e2]
    generalize M % 2 ^ t = r at *
    generalize K % (2 * 2 ^ (q - t - 1)) = R at *
    generalize 2 ^ (q - t - 1) = H at *
    generalize 2 ^ t = P at *
    intro h
    rcases Nat.lt_or_ge R H with k | k
    · have := Nat.mul_le_mul_left P (show R + 1 ≤ H from k)
      rw [Nat.mul_add] at this
      rw [Nat.mul_left_comm] at h
      omega
    · have := Nat.mul_le_mul_left P k
      rw [Nat.mul_left_comm] at h
      omega
  · rw [hm, e, e2]
    generalize M % 2 ^ t = r at *
    generalize K % (2 * 2 ^ (q - t - 1)) = R at *
    generalize 2 ^ (q - t - 1) = H at *
    generalize 2 ^ t = P at *
    constructor
    · intro h
      rcases Nat.lt_or_ge R H with k | k
      · have := Nat.mul_le_mul_left P (show R + 1 ≤ H from k)
        rw [Nat.mul_add] at this
        rw [Nat.mul_left_comm] at h
        omega
      · omega
    · intro h
      have := Nat.mul_le_mul_left P (show H ≤ R by omega)
      rw [Nat.mul_left_comm]
      omega
/-- two numbers in one open cell are rounded alike -/
theorem rg_cell {mode : Int} {neg : Bool} {K t M M' : Nat} (hK : 2 ^ 25 ≤ K) (h1 : K * 2 ^ t < M) (h2 : M < (K + 1) * 2 ^ t) (h1' : K * 2 ^ t < M') (h2' : M' < (K + 1) * 2 ^ t) :
    rgN mode neg M = rgN mode neg M' ∧ flF mode neg M = flF mode neg M' := by
  have hK1 : 1 ≤ K := Nat.le_trans (Nat.two_pow_pos 25) hK
  have b1 := bln_cell hK1 (Nat.le_of_lt h1) h2
  have b2 := bln_cell hK1 (Nat.le_of_lt h1') h2'
  have hb := le_bln hK
  have eq : rqN M = rqN M' := by unfold rqN; rw [b1, b2]
  have hq : t + 1 ≤ rqN M := by unfold rqN; omega
  obtain ⟨p1, p2, p3, p4⟩ := cell_parts h1 h2 hq
  obtain ⟨q1, q2, q3, q4⟩ := cell_parts h1' h2' hq
  have et : rtN M = rtN M' := by unfold rtN; rw [← eq, p1, q1]
  have eu : upB mode neg M = upB mode neg M' := by
    unfold upB rrN
    rw [← eq, ← et, if_neg p2, if_neg q2]
    by_cases hm : mode = 0
    · rw [if_pos hm, if_pos hm, decide_eq_false p3, decide_eq_false q3]
      simp only [Bool.false_and, Bool.or_false]
      exact decide_eq_decide.2 (p4.trans q4.symm)
    · rw [if_neg hm, if_neg hm]
  have em : rmN mode neg M = rmN mode neg M' := by unfold rmN; rw [et, eu]
  have eo : ovB mode neg M = ovB mode neg M' := by unfold ovB; rw [em, eq]
  refine ⟨by unfold rgN; rw [eo, em, eq], ?_⟩
  have r1 : rrN M ≠ 0 := p2
  have r2 : rrN M' ≠ 0 := by unfold rrN; rw [← eq]; exact q2
  unfold flF
  rw [eo, if_neg r1, if_neg r2, b1, b2]
/-- a cut quotient with a mark, in a scale -/
def cutM (X Y p c g : Nat) : Nat := (2 ^ c * (X * 2 ^ p / Y) + (if X * 2 ^ p % Y = 0 then 0 else 1)) * 2 ^ (g - c)
theorem cut_le {mode : Int} {neg : Bool} {X Y p p' c c' g g' : Nat} (hY : 0 < Y) (hp : p ≤ p') (hc : 1 ≤ c) (hc' : 1 ≤ c') (hg : c ≤ g) (hg' : c' ≤ g') (hgg : g = g' + (p' - p)) (hF : 2 ^ 25 ≤ X * 2 ^ p / Y) :
    rgN mode neg (cutM X Y p c g) = rgN mode neg (cutM X Y p' c' g') ∧ flF mode neg (cutM X Y p c g) = flF mode neg (cutM X Y p' c' g') := by
  obtain ⟨j, rfl⟩ : ∃ j, p' = p + j := ⟨p' - p, by omega⟩
  obtain rfl : g = g' + j := by omega
  have e0 : X * 2 ^ (p + j) = X * 2 ^ p * 2 ^ j := by rw [Nat.pow_add, Nat.mul_assoc]
  have hD := Nat.div_add_mod (X * 2 ^ p) Y
  have hr := Nat.mod_lt (X * 2 ^ p) hY
  unfold cutM
  rw [e0]
  generalize X * 2 ^ p = Z at *
  generalize hFd : Z / Y = F at *
  generalize hrd : Z % Y = r at *
  have hj := Nat.two_pow_pos j
  have ec : 2 ^ (g' + j) = 2 ^ (g' + j - c) * 2 ^ c := by rw [← Nat.pow_add]; congr 1; omega
  have ec' : 2 ^ g' = 2 ^ (g' - c') * 2 ^ c' := by rw [← Nat.pow_add]; congr 1; omega
  by_cases h0 : r = 0
  · subst h0
    have eZ : Z * 2 ^ j = Y * (F * 2 ^ j) := by rw [← Nat.mul_assoc]; congr 1; omega
    have e1 : Z * 2 ^ j / Y = F * 2 ^ j := by rw [eZ]; exact Nat.mul_div_cancel_left _ hY
    have e2 : Z * 2 ^ j % Y = 0 := by rw [eZ]; exact Nat.mul_mod_right _ _
    rw [e1, e2, if_pos rfl]
    have e3 : (2 ^ c * F + 0) * 2 ^ (g' + j - c) = F * 2 ^ (g' + j) := by rw [ec, Nat.add_zero, Nat.mul_comm (2 ^ c) F, Nat.mul_assoc, Nat.mul_comm (2 ^ c)]
    have e4 : (2 ^ c' * (F * 2 ^ j) + 0) * 2 ^ (g' - c') = F * 2 ^ (g' + j) := by rw [Nat.pow_add 2 g' j, ec', Nat.add_zero, Nat.mul_comm (2 ^ c') (F * 2 ^ j), Nat.mul_assoc, Nat.mul_assoc, Nat.mul_comm (2 ^ c'), Nat.mul_comm (2 ^ j)]
    rw [e3, e4]
    exact ⟨rfl, rfl⟩
  · rw [if_neg h0]
    have f1 : F * 2 ^ j ≤ Z * 2 ^ j / Y := by
      rw [Nat.le_div_iff_mul_le hY, Nat.mul_right_comm]
      exact Nat.mul_le_mul_right _ (by rw [Nat.mul_comm]; omega)
    have f2 : Z * 2 ^ j / Y < (F + 1) * 2 ^ j := by
      rw [Nat.div_lt_iff_lt_mul hY, Nat.mul_right_comm]
      exact Nat.mul_lt_mul_of_pos_right (by rw [Nat.add_mul, Nat.one_mul, Nat.mul_comm]; omega) hj
    have f3 : Z * 2 ^ j / Y = F * 2 ^ j → Z * 2 ^ j % Y ≠ 0 := by
      intro h1 h2
      have := Nat.div_add_mod (Z * 2 ^ j) Y
      rw [h1, h2, Nat.add_zero, ← Nat.mul_assoc] at this
      have := Nat.eq_of_mul_eq_mul_right hj this
      omega
    generalize hG : Z * 2 ^ j / Y = G at *
    have hs : (if Z * 2 ^ j % Y = 0 then 0 else 1) ≤ 1 := by split <;> omega
    have f4 : 2 ^ c' * (F * 2 ^ j) < 2 ^ c' * G + (if Z * 2 ^ j % Y = 0 then 0 else 1) := by
      rcases Nat.lt_or_eq_of_le f1 with k | k
      · have := Nat.mul_lt_mul_of_pos_left k (Nat.two_pow_pos c'); omega
      · rw [if_neg (f3 k.symm), k]; omega
    have f5 : 2 ^ c' * G + (if Z * 2 ^ j % Y = 0 then 0 else 1) < 2 ^ c' * ((F + 1) * 2 ^ j) := by
      have h2 : 2 ≤ 2 ^ c' := Nat.le_trans (by decide) (Nat.pow_le_pow_right (show 0 < 2 by decide) hc')
      have := Nat.mul_le_mul_left (2 ^ c') (show G + 1 ≤ (F + 1) * 2 ^ j from f2)
      rw [Nat.mul_add] at this
      omega
    generalize (if Z * 2 ^ j % Y = 0 then 0 else 1) = sg at *
    have hpc := Nat.two_pow_pos (g' + j - c)
    have hpc' := Nat.two_pow_pos (g' - c')
    have h2c : 2 ≤ 2 ^ c := Nat.le_trans (by decide) (Nat.pow_le_pow_right (show 0 < 2 by decide) hc)
    refine rg_cell (t := g' + j) hF ?_ ?_ ?_ ?_
    · rw [ec, ← Nat.mul_assoc, Nat.mul_right_comm]
      exact Nat.mul_lt_mul_of_pos_right (by rw [Nat.mul_comm]; omega) hpc
    · rw [ec, ← Nat.mul_assoc, Nat.mul_right_comm]
      exact Nat.mul_lt_mul_of_pos_right (by rw [Nat.add_mul, Nat.mul_comm F]; omega) hpc
    · have e5 : F * 2 ^ (g' + j) = 2 ^ c' * (F * 2 ^ j) * 2 ^ (g' - c') := by rw [Nat.pow_add 2 g' j, ec']; simp [Nat.mul_assoc, Nat.mul_comm, Nat.mul_left_comm]
      rw [e5]
      exact Nat.mul_lt_mul_of_pos_right f4 hpc'
    · have e5 : (F + 1) * 2 ^ (g' + j) = 2 ^ c' * ((F + 1) * 2 ^ j) * 2 ^ (g' - c') := by rw [Nat.pow_add 2 g' j, ec']; simp [Nat.mul_assoc, Nat.mul_comm, Nat.mul_left_comm]
      rw [e5]
      exact Nat.mul_lt_mul_of_pos_right f5 hpc'
/-- two cut quotients of the same numbers are rounded alike -/
theorem cut_eq {mode : Int} {neg : Bool} {X Y p p' c c' g g' : Nat} (hY : 0 < Y) (hc : 1 ≤ c) (hc' : 1 ≤ c') (hg : c ≤ g) (hg' : c' ≤ g') (hgg : g + p = g' + p') (hF : 2 ^ 25 ≤ X * 2 ^ p / Y) (hF' : 2 ^ 25 ≤ X * 2 ^ p' / Y) :
    rgN mode neg (cutM X Y p c g) = rgN mode neg (cutM X Y p' c' g') ∧ flF mode neg (cutM X Y p c g) = flF mode neg (cutM X Y p' c' g') := by
  rcases Nat.le_total p p' with h | h
  · exact cut_le hY h hc hc' hg hg' (by omega) hF
  · have := cut_le (mode := mode) (neg := neg) (c := c') (c' := c) hY h hc' hc hg' hg (by omega) hF'
    exact ⟨this.1.symm, this.2.symm⟩
theorem cut_scale {A B X Y k z : Nat} (hz : X = A * 2 ^ k * 2 ^ z) (hY : Y = B * 2 ^ z) : X / Y = A * 2 ^ k / B ∧ (X % Y = 0 ↔ A * 2 ^ k % B = 0) := by
  subst hz hY
  have hp := Nat.two_pow_pos z
  refine ⟨Nat.mul_div_mul_right _ _ hp, ?_⟩
  rw [Nat.mul_mod_mul_right]
  constructor
  · intro h
    rcases Nat.mul_eq_zero.1 h with h | h
    · exact h
    · omega
  · intro h; rw [h, Nat.zero_mul]
end Go.Proofs.Ytlaaielopcphiaa.Num
