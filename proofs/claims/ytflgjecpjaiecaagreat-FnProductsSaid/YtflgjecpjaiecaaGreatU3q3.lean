/- Plain facts: the language's products and quotients are the program's nearest ones; products and quotients down and up are beside each other (printed by gen_u3.py). -/
import Derived.Test.YtflgjecpjaiecaaGreatHfq3
import Derived.Test.YtflgjecpjaiecaaGreatE2q3
import Derived.Test.YtflgjecpjaiecaaGreatQ1q3
import Derived.Test.YtflgjecpjaiecaaGreatA2q3
import Derived.Test.YtflgjecpjaiecaaGreatE3q3
set_option linter.unusedVariables false
set_option linter.unusedSimpArgs false
set_option exponentiation.threshold 40000
namespace Go.Proofs.YtflgjecpjaiecaaGreat
namespace Num
theorem rg_cell4 {mode : Int} {neg : Bool} {K t M M' : Nat} (hK : 2 ^ 24 ≤ K) (h1 : K * 2 ^ t < M) (h2 : M < (K + 1) * 2 ^ t) (h1' : K * 2 ^ t < M') (h2' : M' < (K + 1) * 2 ^ t) :
    rgN mode neg M = rgN mode neg M' ∧ flF mode neg M = flF mode neg M' := by
  have hK1 : 1 ≤ K := Nat.le_trans (Nat.two_pow_pos 24) hK
  have b1 := bln_cell hK1 (Nat.le_of_lt h1) h2
  have b2 := bln_cell hK1 (Nat.le_of_lt h1') h2'
  have hb := le_bln hK
  have eq : rqN M = rqN M' := by unfold rqN; rw [b1, b2]
  have hq : t + 1 ≤ rqN M := by unfold rqN; omega
  obtain ⟨p1, p2, p3, p4⟩ := cell_parts h1 h2 hq
  obtain ⟨q1, q2, q3, q4⟩ := cell_parts h1' h2' hq
  have et : rtN M = rtN M' := by unfold rtN; rw [← eq, p1, q1]
  have eu : upB mode neg M = upB mode neg M' := by
    unfold upB rrN
    rw [← eq, ← et, if_neg p2, if_neg q2]
    by_cases hm : mode = 0
    · rw [if_pos hm, if_pos hm, decide_eq_false p3, decide_eq_false q3]
      simp only [Bool.false_and, Bool.or_false]
      exact decide_eq_decide.2 (p4.trans q4.symm)
    · rw [if_neg hm, if_neg hm]
  have em : rmN mode neg M = rmN mode neg M' := by unfold rmN; rw [et, eu]
  have eo : ovB mode neg M = ovB mode neg M' := by unfold ovB; rw [em, eq]
  refine ⟨by unfold rgN; rw [eo, em, eq], ?_⟩
  have r1 : rrN M ≠ 0 := p2
  have r2 : rrN M' ≠ 0 := by unfold rrN; rw [← eq]; exact q2
  unfold flF
  rw [eo, if_neg r1, if_neg r2, b1, b2]
theorem cut_le4 {mode : Int} {neg : Bool} {X Y p p' c c' g g' : Nat} (hY : 0 < Y) (hp : p ≤ p') (hc : 1 ≤ c) (hc' : 1 ≤ c') (hg : c ≤ g) (hg' : c' ≤ g') (hgg : g = g' + (p' - p)) (hF : 2 ^ 24 ≤ X * 2 ^ p / Y) :
    rgN mode neg (cutM X Y p c g) = rgN mode neg (cutM X Y p' c' g') ∧ flF mode neg (cutM X Y p c g) = flF mode neg (cutM X Y p' c' g') := by
  obtain ⟨j, rfl⟩ : ∃ j, p' = p + j := ⟨p' - p, by omega⟩
  obtain rfl : g = g' + j := by omega
  have e0 : X * 2 ^ (p + j) = X * 2 ^ p * 2 ^ j := by rw [Nat.pow_add, Nat.mul_assoc]
  have hD := Nat.div_add_mod (X * 2 ^ p) Y
  have hr := Nat.mod_lt (X * 2 ^ p) hY
  unfold cutM
  rw [e0]
  generalize X * 2 ^ p = Z at *
  generalize hFd : Z / Y = F at *
  generalize hrd : Z % Y = r at *
  have hj := Nat.two_pow_pos j
  have ec : 2 ^ (g' + j) = 2 ^ (g' + j - c) * 2 ^ c := by rw [← Nat.pow_add]; congr 1; omega
  have ec' : 2 ^ g' = 2 ^ (g' - c') * 2 ^ c' := by rw [← Nat.pow_add]; congr 1; omega
  by_cases h0 : r = 0
  · subst h0
    have eZ : Z * 2 ^ j = Y * (F * 2 ^ j) := by rw [← Nat.mul_assoc]; congr 1; omega
    have e1 : Z * 2 ^ j / Y = F * 2 ^ j := by rw [eZ]; exact Nat.mul_div_cancel_left _ hY
    have e2 : Z * 2 ^ j % Y = 0 := by rw [eZ]; exact Nat.mul_mod_right _ _
    rw [e1, e2, if_pos rfl]
    have e3 : (2 ^ c * F + 0) * 2 ^ (g' + j - c) = F * 2 ^ (g' + j) := by rw [ec, Nat.add_zero, Nat.mul_comm (2 ^ c) F, Nat.mul_assoc, Nat.mul_comm (2 ^ c)]
    have e4 : (2 ^ c' * (F * 2 ^ j) + 0) * 2 ^ (g' - c') = F * 2 ^ (g' + j) := by rw [Nat.pow_add 2 g' j, ec', Nat.add_zero, Nat.mul_comm (2 ^ c') (F * 2 ^ j), Nat.mul_assoc, Nat.mul_assoc, Nat.mul_comm (2 ^ c'), Nat.mul_comm (2 ^ j)]
    rw [e3, e4]
    exact ⟨rfl, rfl⟩
  · rw [if_neg h0]
    have f1 : F * 2 ^ j ≤ Z * 2 ^ j / Y := by
      rw [Nat.le_div_iff_mul_le hY, Nat.mul_right_comm]
      exact Nat.mul_le_mul_right _ (by rw [Nat.mul_comm]; omega)
    have f2 : Z * 2 ^ j / Y < (F + 1) * 2 ^ j := by
      rw [Nat.div_lt_iff_lt_mul hY, Nat.mul_right_comm]
      exact Nat.mul_lt_mul_of_pos_right (by rw [Nat.add_mul, Nat.one_mul, Nat.mul_comm]; omega) hj
    have f3 : Z * 2 ^ j / Y = F * 2 ^ j → Z * 2 ^ j % Y ≠ 0 := by
      intro h1 h2
      have := Nat.div_add_mod (Z * 2 ^ j) Y
      rw [h1, h2, Nat.add_zero, ← Nat.mul_assoc] at this
      have := Nat.eq_of_mul_eq_mul_right hj this
      omega
    generalize hG : Z * 2 ^ j / Y = G at *
    have hs : (if Z * 2 ^ j % Y = 0 then 0 else 1) ≤ 1 := by split <;> omega
    have f4 : 2 ^ c' * (F * 2 ^ j) < 2 ^ c' * G + (if Z * 2 ^ j % Y = 0 then 0 else 1) := by
      rcases Nat.lt_or_eq_of_le f1 with k | k
      · have := Nat.mul_lt_mul_of_pos_left k (Nat.two_pow_pos c'); omega
      · rw [if_neg (f3 k.symm), k]; omega
    have f5 : 2 ^ c' * G + (if Z * 2 ^ j % Y = 0 then 0 else 1) < 2 ^ c' * ((F + 1) * 2 ^ j) := by
      have h2 : 2 ≤ 2 ^ c' := Nat.le_trans (by decide) (Nat.pow_le_pow_right (show 0 < 2 by decide) hc')
      have := Nat.mul_le_mul_left (2 ^ c') (show G + 1 ≤ (F + 1) * 2 ^ j from f2)
      rw [Nat.mul_add] at this
      omega
    generalize (if Z * 2 ^ j % Y = 0 then 0 else 1) = sg at *
    have hpc := Nat.two_pow_pos (g' + j - c)
    have hpc' := Nat.two_pow_pos (g' - c')
    have h2c : 2 ≤ 2 ^ c := Nat.le_trans (by decide) (Nat.pow_le_pow_right (show 0 < 2 by decide) hc)
    refine rg_cell4 (t := g' + j) hF ?_ ?_ ?_ ?_
    · rw [ec, ← Nat.mul_assoc, Nat.mul_right_comm]
      exact Nat.mul_lt_mul_of_pos_right (by rw [Nat.mul_comm]; omega) hpc
    · rw [ec, ← Nat.mul_assoc, Nat.mul_right_comm]
      exact Nat.mul_lt_mul_of_pos_right (by rw [Nat.add_mul, Nat.mul_comm F]; omega) hpc
    · have e5 : F * 2 ^ (g' + j) = 2 ^ c' * (F * 2 ^ j) * 2 ^ (g' - c') := by rw [Nat.pow_add 2 g' j, ec']; simp [Nat.mul_assoc, Nat.mul_comm, Nat.mul_left_comm]
      rw [e5]
      exact Nat.mul_lt_mul_of_pos_right f4 hpc'
    · have e5 : (F + 1) * 2 ^ (g' + j) = 2 ^ c' * ((F + 1) * 2 ^ j) * 2 ^ (g' - c') := by rw [Nat.pow_add 2 g' j, ec']; simp [Nat.mul_assoc, Nat.mul_comm, Nat.mul_left_comm]
      rw [e5]
      exact Nat.mul_lt_mul_of_pos_right f5 hpc'
theorem cut_eq4 {mode : Int} {neg : Bool} {X Y p p' c c' g g' : Nat} (hY : 0 < Y) (hc : 1 ≤ c) (hc' : 1 ≤ c') (hg : c ≤ g) (hg' : c' ≤ g') (hgg : g + p = g' + p') (hF : 2 ^ 24 ≤ X * 2 ^ p / Y) (hF' : 2 ^ 24 ≤ X * 2 ^ p' / Y) :
    rgN mode neg (cutM X Y p c g) = rgN mode neg (cutM X Y p' c' g') ∧ flF mode neg (cutM X Y p c g) = flF mode neg (cutM X Y p' c' g') := by
  rcases Nat.le_total p p' with h | h
  · exact cut_le4 hY h hc hc' hg hg' (by omega) hF
  · have := cut_le4 (mode := mode) (neg := neg) (c := c') (c' := c) hY h hc' hc hg' hg (by omega) hF'
    exact ⟨this.1.symm, this.2.symm⟩
end Num
open Go.RowKit Num Flt
theorem mkQ_pos4 {m n k c : Nat} {E : Int} (h : 2 ^ 24 ≤ m * 2 ^ k / n) : 0 < mkQ m n k c E := by
  unfold mkQ
  refine Nat.mul_pos ?_ (Nat.two_pow_pos _)
  have h1 := Nat.mul_pos (Nat.two_pow_pos c) (Nat.lt_of_lt_of_le (Nat.two_pow_pos 24) h)
  omega
theorem div_alike4 {mode sg : Int} {X Y m n k c m' n' k' c' : Nat} {e d E e2 d2 E' : Int} (hs : sg = 1 ∨ sg = -1) (hX : (X : Int) = m * 2 ^ (e + SC).toNat) (hY : (Y : Int) = n * 2 ^ (d + SC).toNat) (hX' : (X : Int) = m' * 2 ^ (e2 + SC).toNat) (hY' : (Y : Int) = n' * 2 ^ (d2 + SC).toNat)
    (hn : 0 < n) (hn' : 0 < n') (he : -1000 ≤ e ∧ e ≤ 1000) (hd : -1000 ≤ d ∧ d ≤ 1000) (he2 : -1000 ≤ e2 ∧ e2 ≤ 1000) (hd2 : -1000 ≤ d2 ∧ d2 ≤ 1000) (hk : k ≤ 200) (hk' : k' ≤ 200) (hc : 1 ≤ c ∧ c ≤ 10) (hc' : 1 ≤ c' ∧ c' ≤ 10)
    (hE : E = e - d - k - c) (hE' : E' = e2 - d2 - k' - c') (hF : 2 ^ 24 ≤ m * 2 ^ k / n) (hF' : 2 ^ 24 ≤ m' * 2 ^ k' / n') :
    rF mode (sg * (mkQ m n k c E : Int)) = rF mode (sg * (mkQ m' n' k' c' E' : Int)) ∧ rFl mode (sg * (mkQ m n k c E : Int)) = rFl mode (sg * (mkQ m' n' k' c' E' : Int)) := by
  obtain ⟨p, g, h1, h2, h3, h4⟩ := cut_mag hX hY hn he hd hk hc.2 hE
  obtain ⟨p', g', k1, k2, k3, k4⟩ := cut_mag hX' hY' hn' he2 hd2 hk' hc'.2 hE'
  have hY0 : 0 < Y * 2 ^ 10000 := by
    refine Nat.mul_pos ?_ (Nat.two_pow_pos _)
    have h5 : 0 < (n : Int) * 2 ^ (d + SC).toNat := Int.mul_pos (by omega) (pow2_pos _)
    rw [← hY] at h5
    exact Int.ofNat_lt.1 h5
  have h := fun neg => cut_eq4 (mode := mode) (neg := neg) (X := X) (p := p) (p' := p') hY0 hc.1 hc'.1 h1 k1 (by omega) (by rw [h4]; exact hF) (by rw [k4]; exact hF')
  rw [h3, k3] at h
  have p1 := mkQ_pos4 (c := c) (E := E) hF
  have p2 := mkQ_pos4 (c := c') (E := E') hF'
  unfold mkQ at *
  generalize (2 ^ c * (m * 2 ^ k / n) + (if m * 2 ^ k % n = 0 then 0 else 1)) * 2 ^ (E + SC).toNat = M at *
  generalize (2 ^ c' * (m' * 2 ^ k' / n') + (if m' * 2 ^ k' % n' = 0 then 0 else 1)) * 2 ^ (E' + SC).toNat = M' at *
  have e1 : (sg * (M : Int)).natAbs = M := by rcases hs with rfl | rfl <;> omega
  have e2 : (sg * (M' : Int)).natAbs = M' := by rcases hs with rfl | rfl <;> omega
  refine rF_alike (by rcases hs with rfl | rfl <;> omega) (by rcases hs with rfl | rfl <;> omega) (by rcases hs with rfl | rfl <;> omega) ?_
  rw [e1, e2]
  exact h
theorem mv_abs {x : Nat} (h : W x) : (mv x).natAbs = pm x := by
  rw [mv_sv h]; unfold sv; split <;> simp
theorem szF_word (a b : Bool) : Ieee.single.word (a ^^ b) 0 = szF (a != b) := by cases a <;> cases b <;> decide
theorem quo_word {x y : Nat} (hx : W x) (hy : W y) (fx : fin x) (fy : fin y) (hz : ¬ zr y) : quW x y = Ieee.single.nearest (sgf Ieee.single x ^^ sgf Ieee.single y) (2 * (pm x * 2 ^ (25 + (pm y).log2 - (pm x).log2) / pm y) + (pm x * 2 ^ (25 + (pm y).log2 - (pm x).log2) % pm y != 0).toNat) (-149 + (pe x : Int) - (-149 + (pe y : Int)) - (25 + (pm y).log2 - (pm x).log2 : Nat) - 1) := by
  have hn := pm_nz hy hz
  have : floatBits .quo .f32 x y = some (Ieee.single.nearest (sgf Ieee.single x ^^ sgf Ieee.single y) (2 * (pm x * 2 ^ (25 + (pm y).log2 - (pm x).log2) / pm y) + (pm x * 2 ^ (25 + (pm y).log2 - (pm x).log2) % pm y != 0).toNat) (-149 + (pe x : Int) - (-149 + (pe y : Int)) - (25 + (pm y).log2 - (pm x).log2 : Nat) - 1)) := by
    show Ieee.single.div x y = _
    unfold Ieee.Format.div
    rw [read_v fx, read_v fy]
    unfold Ieee.Datum.quotient
    simp only [if_neg hn, Option.map, Ieee.Format.write]
    rw [Nat.shiftLeft_eq]
    rfl
  unfold quW; rw [this]; rfl
theorem quo_zero {x y : Nat} (hx : W x) (hy : W y) (fx : fin x) (fy : fin y) (hzx : zr x) (hz : ¬ zr y) : quW x y = szF (mB x != mB y) := by
  rw [quo_word hx hy fx fy hz]
  have hm : pm x = 0 := by rcases hzx with rfl | rfl <;> decide
  rw [hm, Nat.zero_mul, Nat.zero_div, Nat.zero_mod]
  have e : (2 * 0 + ((0 : Nat) != 0).toNat) = 0 := by decide
  rw [e]
  have : ∀ s p, Ieee.single.nearest s 0 p = Ieee.single.word s 0 := fun s p => by unfold Ieee.Format.nearest; rw [if_pos rfl]
  rw [this, sgf_mB hx, sgf_mB hy, szF_word]
theorem quo_big4 {m n : Nat} (hm : m ≠ 0) (hn : n ≠ 0) : 2 ^ 24 ≤ m * 2 ^ (25 + n.log2 - m.log2) / n := by
  have h1 := Nat.log2_self_le hm
  have h2 := @Nat.lt_log2_self n
  rw [Nat.le_div_iff_mul_le (by omega)]
  have h3 : 2 ^ m.log2 * 2 ^ (25 + n.log2 - m.log2) ≤ m * 2 ^ (25 + n.log2 - m.log2) := Nat.mul_le_mul_right _ h1
  have h4 : 2 ^ 24 * n ≤ 2 ^ 24 * 2 ^ (n.log2 + 1) := Nat.mul_le_mul_left _ (Nat.le_of_lt h2)
  rw [← Nat.pow_add] at h3 h4
  exact Nat.le_trans h4 (Nat.le_trans (Nat.pow_le_pow_right (by decide) (by omega)) h3)
/-- the language's quotient is the quotient rounded to the nearest -/
theorem quo_rF {x y : Nat} (hx : W x) (hy : W y) (fx : fin x) (fy : fin y) (hzx : ¬ zr x) (hzy : ¬ zr y) : quW x y = rF 0 (dQ x y) := by
  have hmx := pm_nz hx hzx
  have hmy := pm_nz hy hzy
  have hpx := pe_le fx
  have hpy := pe_le fy
  have hlx := pm_lt x
  have hly := pm_lt y
  have e24 : (2 : Nat) ^ 24 = 16777216 := by decide
  have hbx : bln (mv x).natAbs ≤ 24 := bln_le (by rw [mv_abs hx]; omega)
  have hby : bln (mv y).natAbs ≤ 24 := bln_le (by rw [mv_abs hy]; omega)
  have hm0 : mv x ≠ 0 := fun k => hmx (by rw [← mv_abs hx, k]; rfl)
  have hn0 : mv y ≠ 0 := fun k => hmy (by rw [← mv_abs hy, k]; rfl)
  obtain ⟨q1, q2, q3, q4, q5, q6, q7⟩ := q_sizes hbx hby hm0 hn0
  have hlogx : (pm x).log2 < 24 := (Nat.log2_lt hmx).2 (by omega)
  have hlogy : (pm y).log2 < 24 := (Nat.log2_lt hmy).2 (by omega)
  have hlog : 25 + (pm y).log2 - (pm x).log2 ≤ 200 := by omega
  have hF := quo_big4 hmx hmy
  have hqb : qby (mv x) (mv y) ≤ 200 := by unfold qby; omega
  have hF' : 2 ^ 24 ≤ (mv x).natAbs * 2 ^ qby (mv x) (mv y) / (mv y).natAbs := by
    rw [Nat.le_div_iff_mul_le (by omega)]
    have h1 := (bln_spec (show (mv x).natAbs ≠ 0 by omega)).1
    have h2 := bln_lt (mv y).natAbs
    have h3 : 2 ^ (bln (mv x).natAbs - 1) * 2 ^ qby (mv x) (mv y) ≤ (mv x).natAbs * 2 ^ qby (mv x) (mv y) := Nat.mul_le_mul_right _ h1
    have h4 : 2 ^ 24 * (mv y).natAbs ≤ 2 ^ 24 * 2 ^ bln (mv y).natAbs := Nat.mul_le_mul_left _ (Nat.le_of_lt h2)
    rw [← Nat.pow_add] at h3 h4
    exact Nat.le_trans h4 (Nat.le_trans (Nat.pow_le_pow_right (by decide) (by unfold qby; omega)) h3)
  obtain ⟨E, hE⟩ : ∃ E, E = -149 + (pe x : Int) - (-149 + (pe y : Int)) - (25 + (pm y).log2 - (pm x).log2 : Nat) - 1 := ⟨_, rfl⟩
  obtain ⟨k, hk⟩ : ∃ k, k = 25 + (pm y).log2 - (pm x).log2 := ⟨_, rfl⟩
  rw [quo_word hx hy fx fy hzy, ← hE, ← hk]
  rw [← hk] at hF hlog hE
  have hmk : (2 * (pm x * 2 ^ k / pm y) + (pm x * 2 ^ k % pm y != 0).toNat) * 2 ^ (E + 20000).toNat = mkQ (pm x) (pm y) k 1 E := by
    unfold mkQ
    have hsc : (SC : Nat) = 20000 := rfl
    congr 1
    · congr 1
      by_cases h : pm x * 2 ^ k % pm y = 0
      · rw [h]; rfl
      · rw [if_neg h]
        have : (pm x * 2 ^ k % pm y != 0) = true := by simpa using h
        rw [this]; rfl
  have hpos := mkQ_pos4 (c := 1) (E := E) hF
  have hne : 2 * (pm x * 2 ^ k / pm y) + (pm x * 2 ^ k % pm y != 0).toNat ≠ 0 := by
    have h24 : (0 : Nat) < 2 ^ 24 := Nat.two_pow_pos 24
    omega
  rw [nearest_rg _ hne (by omega), hmk]
  generalize hM : mkQ (pm x) (pm y) k 1 E = M at *
  have hsx : (fv x).sign = if sgf Ieee.single x = true then -1 else 1 := by
    unfold fv dv
    rw [sign_mul_pow hm0, mv_sv hx]
    unfold sv
    have : 0 < (pm x : Int) := by omega
    split
    · exact Int.sign_eq_neg_one_of_neg (by omega)
    · exact Int.sign_eq_one_of_pos this
  have hsy : (fv y).sign = if sgf Ieee.single y = true then -1 else 1 := by
    unfold fv dv
    rw [sign_mul_pow hn0, mv_sv hy]
    unfold sv
    have : 0 < (pm y : Int) := by omega
    split
    · exact Int.sign_eq_neg_one_of_neg (by omega)
    · exact Int.sign_eq_one_of_pos this
  obtain ⟨sg, hsg⟩ : ∃ sg : Int, (if (fv x).sign = (fv y).sign then (1 : Int) else -1) = sg := ⟨_, rfl⟩
  have hs1 : sg = 1 ∨ sg = -1 := by rw [← hsg]; split <;> simp
  have hsgb : decide (sg * (M : Int) < 0) = (sgf Ieee.single x ^^ sgf Ieee.single y) := by
    rw [← hsg, hsx, hsy]
    have hMp : (0 : Int) < M := by omega
    cases sgf Ieee.single x <;> cases sgf Ieee.single y
    · simp; try omega
    · simp; try omega
    · simp; try omega
    · simp; try omega
  have hnat : (sg * (M : Int)).natAbs = M := by rcases hs1 with h | h <;> rw [h] <;> omega
  have hw := word_rF (V := sg * (M : Int)) (mode := 0) (by rcases hs1 with h | h <;> rw [h] <;> omega) hsgb
  rw [hnat] at hw
  rw [hw, ← hM]
  unfold dQ
  rw [qV_mk q3, hsg]
  have hX : (((pm x) * 2 ^ (-149 + (pe x : Int) + SC).toNat : Nat) : Int) = (pm x : Nat) * 2 ^ (-149 + (pe x : Int) + SC).toNat := by push_cast; rfl
  have hY : (((pm y) * 2 ^ (-149 + (pe y : Int) + SC).toNat : Nat) : Int) = (pm y : Nat) * 2 ^ (-149 + (pe y : Int) + SC).toNat := by push_cast; rfl
  have hX' : (((pm x) * 2 ^ (-149 + (pe x : Int) + SC).toNat : Nat) : Int) = ((mv x).natAbs : Nat) * 2 ^ (-149 + (pe x : Int) + SC).toNat := by rw [mv_abs hx]; push_cast; rfl
  have hY' : (((pm y) * 2 ^ (-149 + (pe y : Int) + SC).toNat : Nat) : Int) = ((mv y).natAbs : Nat) * 2 ^ (-149 + (pe y : Int) + SC).toNat := by rw [mv_abs hy]; push_cast; rfl
  exact (div_alike4 (mode := 0) hs1 hX hY hX' hY' (by omega) (by omega) (by omega) (by omega) (by omega) (by omega) hlog hqb ⟨by omega, by omega⟩ ⟨by omega, by omega⟩ (by rw [hE]; omega) (by omega) hF hF').1
theorem dvF_near {x y : Nat} (hx : W x) (hy : W y) (fx : fin x) (fy : fin y) (hzy : ¬ zr y) : quW x y = dvF x y 0 := by
  unfold dvF
  by_cases h : zr x
  · rw [if_pos h]; exact quo_zero hx hy fx fy h hzy
  · rw [if_neg h]; exact quo_rF hx hy fx fy h hzy
/-! products -/
theorem mlF_near {x y : Nat} (hx : W x) (hy : W y) (fx : fin x) (fy : fin y) : muF x y = mlF x y 0 := by
  unfold mlF
  by_cases h : zr x ∨ zr y
  · rw [if_pos h]
    have hp : pm x * pm y = 0 := by
      rcases h with h | h
      · have : pm x = 0 := by rcases h with rfl | rfl <;> decide
        rw [this, Nat.zero_mul]
      · have : pm y = 0 := by rcases h with rfl | rfl <;> decide
        rw [this, Nat.mul_zero]
    unfold muF
    have e : floatBits .mul .f32 x y = some (Ieee.single.nearest (sgf Ieee.single x ^^ sgf Ieee.single y) (pm x * pm y) (-149 + (pe x : Int) + (-149 + (pe y : Int)))) := by
      show Ieee.single.mul x y = _
      unfold Ieee.Format.mul
      rw [read_v fx, read_v fy]
      simp only [Ieee.Datum.product, Option.map, Ieee.Format.write]
    rw [e, hp]
    have : ∀ s p, Ieee.single.nearest s 0 p = Ieee.single.word s 0 := fun s p => by unfold Ieee.Format.nearest; rw [if_pos rfl]
    show Ieee.single.nearest _ 0 _ = _
    rw [this, sgf_mB hx, sgf_mB hy, szF_word]
  · rw [if_neg h]
    exact mul_rF hx hy fx fy (mul_nz (fv_nz hx (fun k => h (Or.inl k))) (fv_nz hy (fun k => h (Or.inr k))))
theorem mlF_two {x y : Nat} {mode : Int} (hm : 0 ≤ mode ∧ mode ≤ 4) : pl (mlF x y mode) = pl (mlF x y 1) ∨ pl (mlF x y mode) = pl (mlF x y 2) := by
  unfold mlF
  split
  · exact Or.inl rfl
  · rcases two_modes (mulV (fv x) (fv y)) hm with k | k
    · left; rw [k]
    · right; rw [k]
theorem dvF_two {x y : Nat} {mode : Int} (hm : 0 ≤ mode ∧ mode ≤ 4) : pl (dvF x y mode) = pl (dvF x y 1) ∨ pl (dvF x y mode) = pl (dvF x y 2) := by
  unfold dvF
  split
  · exact Or.inl rfl
  · rcases two_modes (dQ x y) hm with k | k
    · left; rw [k]
    · right; rw [k]
theorem kd_step (x y : Nat) (kind : Int) : pl (kdF x y kind 2) = pl (kdF x y kind 1) ∨ pl (kdF x y kind 2) = pl (kdF x y kind 1) + 1 := by
  unfold kdF
  split
  · exact sm4_step x y
  · split
    · exact sm4_step x (ng y)
    · split
      · unfold mlF
        split
        · exact Or.inl rfl
        · exact step_rF _
      · unfold dvF
        split
        · exact Or.inl rfl
        · exact step_rF _
theorem sp_step {x y : Nat} {kind : Int} (h : spC x y kind = 0) : pl (spF x y kind 2) = pl (spF x y kind 1) ∨ pl (spF x y kind 2) = pl (spF x y kind 1) + 1 := by
  rw [spF_yes h, spF_yes h]; exact kd_step x y kind
theorem mlF_num (x y : Nat) (mode : Int) : W (mlF x y mode) ∧ ¬ nan (mlF x y mode) := by
  unfold mlF; split
  · exact szF_num _
  · exact rF_num _ _
theorem dvF_num (x y : Nat) (mode : Int) : W (dvF x y mode) ∧ ¬ nan (dvF x y mode) := by
  unfold dvF; split
  · exact szF_num _
  · exact rF_num _ _
theorem kdF_W (x y : Nat) (kind mode : Int) : W (kdF x y kind mode) := by
  unfold kdF
  split
  · exact (sm4_W _ _ _).1
  · split
    · exact (sm4_W _ _ _).1
    · split
      · exact (mlF_num _ _ _).1
      · exact (dvF_num _ _ _).1
theorem spF_W (x y : Nat) (kind mode : Int) : W (spF x y kind mode) := by
  unfold spF; split
  · exact kdF_W _ _ _ _
  · unfold W; decide
theorem mlL_cases (x y : Nat) (mode : Int) : mlL x y mode = 0 ∨ mlL x y mode = 1 ∨ mlL x y mode = 3 ∨ mlL x y mode = 5 := by
  unfold mlL; split
  · exact Or.inl rfl
  · exact rFl_cases _ _
theorem dvL_cases (x y : Nat) (mode : Int) : dvL x y mode = 0 ∨ dvL x y mode = 1 ∨ dvL x y mode = 3 ∨ dvL x y mode = 5 := by
  unfold dvL; split
  · exact Or.inl rfl
  · exact rFl_cases _ _
end Go.Proofs.YtflgjecpjaiecaaGreat
