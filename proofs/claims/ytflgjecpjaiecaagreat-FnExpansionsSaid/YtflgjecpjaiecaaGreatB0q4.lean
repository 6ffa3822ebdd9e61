/- Plain facts: what is left of a sum of two floats is a float. -/
import Derived.Test.YtflgjecpjaiecaaGreatGsq4
set_option linter.unusedVariables false
set_option linter.unusedSimpArgs false
set_option exponentiation.threshold 30000
namespace Go.Proofs.YtflgjecpjaiecaaGreat
open Go.RowKit Num Flt
theorem near_half (neg : Bool) (M : Nat) : 2 * ((M : Int) - (rmN 0 neg M * 2 ^ rqN M : Nat)).natAbs ≤ 2 ^ rqN M := by
  have hd : M = rtN M * 2 ^ rqN M + rrN M := by unfold rtN rrN; rw [Nat.mul_comm]; exact (Nat.div_add_mod M _).symm
  have hl : rrN M < 2 ^ rqN M := Nat.mod_lt _ (Nat.two_pow_pos _)
  have hu : upB 0 neg M = true → 2 ^ rqN M ≤ 2 * rrN M := fun h => by
    unfold upB at h
    by_cases k : rrN M = 0
    · rw [if_pos k] at h; cases h
    · rw [if_neg k, if_pos rfl] at h
      simp only [Bool.or_eq_true, Bool.and_eq_true, decide_eq_true_eq] at h
      omega
  have hv : upB 0 neg M = false → 2 * rrN M ≤ 2 ^ rqN M := fun h => by
    unfold upB at h
    by_cases k : rrN M = 0
    · rw [k]; omega
    · rw [if_neg k, if_pos rfl] at h
      rw [Bool.or_eq_false_iff] at h
      have := of_decide_eq_false h.1
      omega
  unfold rmN
  generalize upB 0 neg M = b at *
  generalize rtN M = t at *
  generalize rrN M = r at *
  generalize 2 ^ rqN M = P at *
  cases b
  · have := hv rfl
    simp only [Bool.toNat_false, Nat.add_zero]
    generalize t * P = tp at *
    omega
  · have := hu rfl
    have e : (t + true.toNat) * P = t * P + P := by rw [Bool.toNat_true, Nat.add_mul, Nat.one_mul]
    rw [e]
    generalize t * P = tp at *
    omega
/-- the nearest float of a value: a multiple of its last place, not further than its half -/
theorem near_mult {V : Int} (hV : V ≠ 0) (ho : ovB 0 (decide (V < 0)) V.natAbs = false) : ∃ f : Int, fv (rF 0 V) = f * 2 ^ rqN V.natAbs ∧ 2 * (V - f * 2 ^ rqN V.natAbs).natAbs ≤ 2 ^ rqN V.natAbs := by
  have h1 := (fv_rF hV ho).1
  have h2 := near_half (decide (V < 0)) V.natAbs
  have h6 := sv_neg_abs V
  by_cases hn : V < 0
  · rw [decide_eq_true hn] at *
    refine ⟨-(rmN 0 true V.natAbs : Int), ?_, ?_⟩
    · rw [h1]; unfold sv; simp [Int.neg_mul]
    · have e : V - -(rmN 0 true V.natAbs : Int) * 2 ^ rqN V.natAbs = -((V.natAbs : Int) - (rmN 0 true V.natAbs * 2 ^ rqN V.natAbs : Nat)) := by
        push_cast
        rw [Int.neg_mul]
        have : (V.natAbs : Int) = -V := by omega
        generalize (rmN 0 true V.natAbs : Int) * 2 ^ rqN V.natAbs = z at *
        omega
      rw [e, Int.natAbs_neg]; exact h2
  · rw [decide_eq_false hn] at *
    refine ⟨(rmN 0 false V.natAbs : Int), ?_, ?_⟩
    · rw [h1]; unfold sv; simp
    · have e : V - (rmN 0 false V.natAbs : Int) * 2 ^ rqN V.natAbs = (V.natAbs : Int) - (rmN 0 false V.natAbs * 2 ^ rqN V.natAbs : Nat) := by
        push_cast
        have : ((V.natAbs : Nat) : Int) = V := by omega
        omega
      rw [e]; exact h2
/-- a multiple is not nearer than the nearest one -/
theorem mult_far {V f k P : Int} (hP : 0 < P) (h : 2 * (V - f * P).natAbs ≤ P.natAbs) : (V - f * P).natAbs ≤ (V - k * P).natAbs := by
  by_cases he : k = f
  · rw [he]; exact Nat.le_refl _
  · have h1 : P ≤ ((k - f) * P).natAbs := by
      rw [Int.natAbs_mul]
      have h2 : 1 ≤ (k - f).natAbs := by omega
      have h3 := Nat.mul_le_mul_right P.natAbs h2
      push_cast at *
      omega
    have e : (k - f) * P = (V - f * P) - (V - k * P) := by rw [Int.sub_mul]; omega
    rw [e] at h1
    omega
/-- an exact nearest float -/
theorem exact_mult {R r : Int} {q : Nat} (hq : 19851 ≤ q) (hR : R = r * 2 ^ q) (hr : r.natAbs ≤ 2 ^ 24) (hs : R.natAbs ≤ 2 ^ 20104) : fv (nrF R) = R := by
  refine (near_exact hs).2.1 ?_
  by_cases h0 : R = 0
  · rw [h0]; rfl
  · have ho := ov_small (decide (R < 0)) hs
    unfold rFl flF
    rw [if_neg h0, ho, if_neg (by decide)]
    have hM : R.natAbs = r.natAbs * 2 ^ q := by rw [hR, Int.natAbs_mul, Int.natAbs_pow]; rfl
    have hr0 : r.natAbs ≠ 0 := fun k => h0 (by have : r = 0 := by omega
                                               rw [hR, this, Int.zero_mul])
    have hrr : rrN R.natAbs = 0 := by
      unfold rrN
      refine Nat.mod_eq_zero_of_dvd ?_
      rcases Nat.lt_or_ge r.natAbs (2 ^ 24) with h | h
      · have hb : bln r.natAbs ≤ 24 := bln_le h
        have hb2 : bln R.natAbs = bln r.natAbs + q := by rw [hM]; exact bln_mul q hr0
        have hq2 : rqN R.natAbs ≤ q := by unfold rqN; omega
        obtain ⟨c, hc⟩ := Nat.dvd_trans (Nat.pow_dvd_pow 2 hq2) (Nat.dvd_mul_left (2 ^ q) r.natAbs)
        exact ⟨c, hM.trans hc⟩
      · have e : r.natAbs = 2 ^ 24 := Nat.le_antisymm hr h
        have e2 : R.natAbs = 1 * 2 ^ (24 + q) := by rw [hM, e, ← Nat.pow_add, Nat.one_mul]
        have hb2 : bln R.natAbs = bln 1 + (24 + q) := by rw [e2]; exact bln_mul _ (by decide)
        have hb1 : bln 1 = 1 := by decide
        have hq2 : rqN R.natAbs ≤ 24 + q := by unfold rqN; omega
        obtain ⟨c, hc⟩ := Nat.pow_dvd_pow 2 hq2
        exact ⟨c, (e2.trans (Nat.one_mul _)).trans hc⟩
    rw [if_pos hrr]
/-- the rest of a sum in the scale -/
theorem rest_rep {A B X Y : Int} {ex ey : Nat} (hA : A = X * 2 ^ ex) (hB : B = Y * 2 ^ ey) (hX : X.natAbs < 2 ^ 24) (hY : Y.natAbs < 2 ^ 24) (hy : 19851 ≤ ey) (hxy : ey ≤ ex) (hV : A + B ≠ 0) (ho : ovB 0 (decide (A + B < 0)) (A + B).natAbs = false) :
    ∃ r : Int, A + B - fv (rF 0 (A + B)) = r * 2 ^ ey ∧ r.natAbs ≤ 2 ^ 24 := by
  obtain ⟨f, hf, hh⟩ := near_mult hV ho
  have hPp : (0 : Int) < 2 ^ rqN (A + B).natAbs := pow2_pos _
  have hPn : ((2 : Int) ^ rqN (A + B).natAbs).natAbs = 2 ^ rqN (A + B).natAbs := by rw [Int.natAbs_pow]; rfl
  have hfar := fun k => mult_far (k := k) hPp (by rw [hPn]; exact hh)
  have e24 : (2 : Nat) ^ 24 = 16777216 := by decide
  have hAB : ∃ v : Int, A + B = v * 2 ^ ey := by
    refine ⟨X * 2 ^ (ex - ey) + Y, ?_⟩
    rw [hA, hB, Int.add_mul, Int.mul_assoc, ← Int.pow_add]
    rw [show ex - ey + ey = ex by omega]
  have hBy : B.natAbs < 2 ^ 24 * 2 ^ ey := by
    rw [hB, Int.natAbs_mul, Int.natAbs_pow]
    exact Nat.mul_lt_mul_of_pos_right hY (Nat.two_pow_pos _)
  have hAx : A.natAbs ≤ (2 ^ 24 - 1) * 2 ^ ex := by
    rw [hA, Int.natAbs_mul, Int.natAbs_pow]
    exact Nat.mul_le_mul_right _ (by omega)
  rw [hf]
  obtain ⟨v, hv⟩ := hAB
  by_cases hq : rqN (A + B).natAbs ≤ ey
  · -- the sum itself is a multiple
    have h0 := hfar (v * 2 ^ (ey - rqN (A + B).natAbs))
    have e : v * 2 ^ (ey - rqN (A + B).natAbs) * 2 ^ rqN (A + B).natAbs = A + B := by
      rw [Int.mul_assoc, ← Int.pow_add, show ey - rqN (A + B).natAbs + rqN (A + B).natAbs = ey by omega, hv]
    rw [e] at h0
    refine ⟨0, ?_, by decide⟩
    rw [Int.zero_mul]
    have : (A + B - (A + B)).natAbs = 0 := by rw [Int.sub_self]; rfl
    omega
  · have hmul : ∃ r : Int, A + B - f * 2 ^ rqN (A + B).natAbs = r * 2 ^ ey := by
      refine ⟨v - f * 2 ^ (rqN (A + B).natAbs - ey), ?_⟩
      rw [Int.sub_mul, ← hv, Int.mul_assoc, ← Int.pow_add, show rqN (A + B).natAbs - ey + ey = rqN (A + B).natAbs by omega]
    obtain ⟨r, hr⟩ := hmul
    refine ⟨r, hr, ?_⟩
    have hrn : (A + B - f * 2 ^ rqN (A + B).natAbs).natAbs = r.natAbs * 2 ^ ey := by rw [hr, Int.natAbs_mul, Int.natAbs_pow]; rfl
    have hgoal : r.natAbs * 2 ^ ey ≤ 2 ^ 24 * 2 ^ ey → r.natAbs ≤ 2 ^ 24 := fun h => Nat.le_of_mul_le_mul_right h (Nat.two_pow_pos _)
    apply hgoal
    rw [← hrn]
    by_cases hqx : rqN (A + B).natAbs ≤ ex
    · have h0 := hfar (X * 2 ^ (ex - rqN (A + B).natAbs))
      have e : X * 2 ^ (ex - rqN (A + B).natAbs) * 2 ^ rqN (A + B).natAbs = A := by
        rw [Int.mul_assoc, ← Int.pow_add, show ex - rqN (A + B).natAbs + rqN (A + B).natAbs = ex by omega, hA]
      rw [e] at h0
      have e2 : A + B - A = B := by omega
      rw [e2] at h0
      omega
    · -- the last place is twice that of the greater one
      have hM : (A + B).natAbs ≤ A.natAbs + B.natAbs := Int.natAbs_add_le _ _
      have hpxy : 2 ^ ey ≤ 2 ^ ex := Nat.pow_le_pow_right (by decide) hxy
      have hlt : (A + B).natAbs < 2 ^ (25 + ex) := by
        rw [Nat.pow_add]
        have : (2 : Nat) ^ 25 = 33554432 := by decide
        rw [this, e24] at *
        have := Nat.mul_le_mul_left 16777216 hpxy
        omega
      have hb := bln_le hlt
      have hrq : rqN (A + B).natAbs = ex + 1 := by unfold rqN at *; omega
      have hbig : 2 ^ (24 + ex) ≤ (A + B).natAbs := by
        rcases Nat.lt_or_ge (A + B).natAbs (2 ^ (24 + ex)) with h | h
        · have := bln_le h; unfold rqN at hrq; omega
        · exact h
      have hle : ex ≤ ey + 24 := by
        rcases Nat.lt_or_ge (ey + 24) ex with h | h
        · exfalso
          have h3 : 2 ^ 24 * 2 ^ ey ≤ 2 ^ ex := by rw [← Nat.pow_add]; exact Nat.pow_le_pow_right (by decide) (by omega)
          rw [Nat.pow_add, e24] at hbig
          rw [e24] at hBy hAx h3
          omega
        · exact h
      rw [hrq] at hh ⊢
      have h4 : (2 : Nat) ^ (ex + 1) = 2 * 2 ^ ex := by rw [Nat.pow_succ]; omega
      rw [h4] at hh
      have h5 : 2 ^ ex ≤ 2 ^ 24 * 2 ^ ey := by rw [← Nat.pow_add]; exact Nat.pow_le_pow_right (by decide) (by omega)
      omega
theorem fv_form {x : Nat} (h : W x) : ∃ X : Int, fv x = X * 2 ^ (pe x + 19851) ∧ X.natAbs < 2 ^ 24 := by
  refine ⟨mv x, ?_, ?_⟩
  · unfold fv dv
    have hsc : (SC : Nat) = 20000 := rfl
    congr 2
    omega
  · have := mv_lt x
    rw [show (2 : Nat) ^ 24 = 16777216 by decide]; omega
theorem add_noov {x y : Nat} (hx : W x) (hy : W y) (fx : fin x) (fy : fin y) (fh : fin (addW x y)) (h0 : fv x + fv y ≠ 0) : ovB 0 (decide (fv x + fv y < 0)) (fv x + fv y).natAbs = false := by
  rw [add_rF hx hy fx fy h0] at fh
  cases ho : ovB 0 (decide (fv x + fv y < 0)) (fv x + fv y).natAbs
  · rfl
  · exfalso
    have hst : ∀ b, stB 0 b = false := fun b => by unfold stB; simp
    have hg : rgN 0 (decide (fv x + fv y < 0)) (fv x + fv y).natAbs = 2139095040 := by unfold rgN; rw [ho, if_pos rfl, hst, if_neg (by decide)]
    unfold rF at fh
    rw [if_neg h0, hg] at fh
    unfold fin at fh; split at fh <;> omega
/-- a sum and its rest are the exact sum -/
theorem sum_exact {x y : Nat} (hx : W x) (hy : W y) (fx : fin x) (fy : fin y) (fh : fin (addW x y)) : fv (addW x y) + fv (smF x y) = fv x + fv y := by
  unfold smF
  by_cases h0 : fv x + fv y = 0
  · have hz : fv (addW x y) = 0 := by
      have h1 := sum_rest hx hy fx fy fh
      obtain ⟨b, hb⟩ : ∃ b, b = min (-149 + (pe x : Int)) (-149 + (pe y : Int)) := ⟨_, rfl⟩
      have hx1 := fv_base hx (b := b) (by omega) (by omega)
      have hy1 := fv_base hy (b := b) (by omega) (by omega)
      have hp := pow2_pos (b + 20000).toNat
      have hT : Ieee.signed (sgf Ieee.single x) (pm x) (-149 + (pe x : Int) - b).toNat + Ieee.signed (sgf Ieee.single y) (pm y) (-149 + (pe y : Int) - b).toNat = 0 := by
        have hV : fv x + fv y = (Ieee.signed (sgf Ieee.single x) (pm x) (-149 + (pe x : Int) - b).toNat + Ieee.signed (sgf Ieee.single y) (pm y) (-149 + (pe y : Int) - b).toNat) * 2 ^ (b + 20000).toNat := by rw [Int.add_mul, ← hx1, ← hy1]
        rw [h0] at hV
        rcases Int.mul_eq_zero.1 hV.symm with k | k
        · exact k
        · omega
      have : addW x y = Ieee.single.word (sgf Ieee.single x && sgf Ieee.single y) 0 := by
        unfold addW
        have : floatBits .add .f32 x y = some (Ieee.single.nearest (sgf Ieee.single x && sgf Ieee.single y) 0 b) := by
          show Ieee.single.add x y = _
          unfold Ieee.Format.add
          rw [read_v fx, read_v fy]
          simp only [Ieee.Datum.sum, Option.map, Ieee.Format.write]
          rw [← hb, hT, if_pos rfl]; rfl
        rw [this]; rfl
      rw [this]
      cases (sgf Ieee.single x && sgf Ieee.single y)
      · exact fv_0
      · have h2 : fv 2147483648 = fv 0 := by rw [← fv_zp (x := 2147483648)]; rfl
        exact h2.trans fv_0
    rw [h0, hz, Int.sub_self]
    have : nrF 0 = 0 := rfl
    rw [this, fv_0]; rfl
  · have ho := add_noov hx hy fx fy fh h0
    obtain ⟨X, hX, hXb⟩ := fv_form hx
    obtain ⟨Y, hY, hYb⟩ := fv_form hy
    rw [add_rF hx hy fx fy h0]
    have hs := rest_small h0 ho
    have key : fv (nrF (fv x + fv y - fv (rF 0 (fv x + fv y)))) = fv x + fv y - fv (rF 0 (fv x + fv y)) := by
      rcases Nat.le_total (pe y) (pe x) with h | h
      · obtain ⟨r, hr, hrb⟩ := rest_rep hX hY hXb hYb (by omega) (by omega) h0 ho
        exact exact_mult (by omega) hr hrb hs
      · have h0' : fv y + fv x ≠ 0 := by rw [Int.add_comm]; exact h0
        have ho' : ovB 0 (decide (fv y + fv x < 0)) (fv y + fv x).natAbs = false := by rw [Int.add_comm]; exact ho
        obtain ⟨r, hr, hrb⟩ := rest_rep hY hX hYb hXb (by omega) (by omega) h0' ho'
        rw [Int.add_comm (fv y)] at hr
        exact exact_mult (by omega) hr hrb hs
    rw [key]; omega
end Go.Proofs.YtflgjecpjaiecaaGreat
