/- Plain facts: growing and compressing keep the sum; what compressing leaves falls in size. -/
import Derived.Test.YtflgjecpjaiecaaGreatB0q4
import Derived.Test.YtflgjecpjaiecaaGreatGrq4
set_option linter.unusedVariables false
set_option linter.unusedSimpArgs false
set_option exponentiation.threshold 30000
namespace Go.Proofs.YtflgjecpjaiecaaGreat
open Go.RowKit Num Flt
theorem pm_V (x : Nat) : pm x * 2 ^ pe x = V 8388608 (x % 2147483648) := (V_eq _ _).symm
theorem mv_abs (x : Nat) : (mv x).natAbs = pm x := by unfold mv; split <;> omega
theorem fv_abs (x : Nat) : (fv x).natAbs = V 8388608 (x % 2147483648) * 2 ^ 19851 := by
  have e : (-149 + (pe x : Int) + SC).toNat = pe x + 19851 := by unfold SC; omega
  unfold fv dv
  rw [Int.natAbs_mul, Int.natAbs_pow, mv_abs, e, ← pm_V, Nat.pow_add, ← Nat.mul_assoc]
  rfl
theorem abs_pl (x : Nat) : (pl x).natAbs = x % 2147483648 := by unfold pl; split <;> omega
theorem pl_of_fv {x y : Nat} (h : (fv x).natAbs < (fv y).natAbs) : (pl x).natAbs < (pl y).natAbs := by
  rw [fv_abs, fv_abs] at h
  rw [abs_pl, abs_pl]
  exact (V_lt_iff (by decide)).1 (Nat.lt_of_mul_lt_mul_right h)
theorem pl_nz {x : Nat} (h : fv x ≠ 0) : pl x ≠ 0 := by
  intro k
  have h1 := abs_pl x
  rw [k] at h1
  have h2 := fv_abs x
  rw [← h1] at h2
  have h3 : V 8388608 (Int.natAbs 0) = 0 := by decide
  rw [h3, Nat.zero_mul] at h2
  omega
/-- a multiple of the least place -/
def MU (V : Int) : Prop := ∃ v : Int, V = v * 2 ^ 19851
theorem MU.ofF {x : Nat} (h : W x) : MU (fv x) := by
  obtain ⟨X, hX, _⟩ := fv_form h
  exact ⟨X * 2 ^ pe x, by rw [hX, Int.pow_add, Int.mul_assoc]⟩
theorem MU.add {U V : Int} (h : MU U) (h' : MU V) : MU (U + V) := by
  obtain ⟨u, rfl⟩ := h; obtain ⟨v, rfl⟩ := h'
  exact ⟨u + v, (Int.add_mul _ _ _).symm⟩
theorem MU.sub {U V : Int} (h : MU U) (h' : MU V) : MU (U - V) := by
  obtain ⟨u, rfl⟩ := h; obtain ⟨v, rfl⟩ := h'
  exact ⟨u - v, (Int.sub_mul _ _ _).symm⟩
theorem MU.sum : ∀ (xs : List Nat), (∀ x ∈ xs, W x) → MU (sumv xs)
  | [], _ => ⟨0, by simp [sumv]⟩
  | x :: xs, h => (MU.ofF (h x (List.mem_cons_self ..))).add (MU.sum xs fun y hy => h y (List.mem_cons_of_mem _ hy))
theorem noov {V : Int} (h0 : V ≠ 0) (fh : fin (nrF V)) : ovB 0 (decide (V < 0)) V.natAbs = false := by
  cases ho : ovB 0 (decide (V < 0)) V.natAbs
  · rfl
  · exfalso
    have hst : ∀ b, stB 0 b = false := fun b => by unfold stB; simp
    have hg : rgN 0 (decide (V < 0)) V.natAbs = 2139095040 := by unfold rgN; rw [ho, if_pos rfl, hst, if_neg (by decide)]
    unfold nrF rF at fh
    rw [if_neg h0, hg] at fh
    unfold fin zp at fh; (repeat' split at fh) <;> omega
theorem mult_ge {V : Int} (h : MU V) (h0 : V ≠ 0) : 2 ^ rqN V.natAbs ≤ V.natAbs := by
  obtain ⟨v, hv⟩ := h
  by_cases hq : rqN V.natAbs ≤ 19851
  · have h1 : 2 ^ rqN V.natAbs ≤ 2 ^ 19851 := Nat.pow_le_pow_right (by decide) hq
    have hm : V.natAbs = v.natAbs * 2 ^ 19851 := by rw [hv, Int.natAbs_mul, Int.natAbs_pow]; rfl
    have hv0 : 1 ≤ v.natAbs := by
      rcases Nat.eq_zero_or_pos v.natAbs with k | k
      · exfalso; apply h0; rw [hv]; have : v = 0 := by omega
        rw [this, Int.zero_mul]
      · exact k
    have h2 := Nat.mul_le_mul_right (2 ^ 19851) hv0
    rw [hm] at h1 ⊢
    exact Nat.le_trans h1 (by omega)
  · rcases Nat.lt_or_ge V.natAbs (2 ^ rqN V.natAbs) with k | k
    · exfalso
      have := bln_le k
      unfold rqN at *
      omega
    · exact k
theorem near_facts {V : Int} (hm : MU V) (h0 : V ≠ 0) (fh : fin (nrF V)) : ∃ P : Nat, 0 < P ∧ 2 * (V - fv (nrF V)).natAbs ≤ P ∧ P ≤ (fv (nrF V)).natAbs ∧ 2 * (fv (nrF V)).natAbs ≤ 3 * V.natAbs := by
  have ho := noov h0 fh
  obtain ⟨f, hf, hh⟩ := near_mult h0 ho
  have hg := mult_ge hm h0
  have e : fv (nrF V) = f * 2 ^ rqN V.natAbs := by unfold nrF; rw [fv_zp]; exact hf
  rw [e]
  have hPp := Nat.two_pow_pos (rqN V.natAbs)
  have hA : (f * 2 ^ rqN V.natAbs).natAbs = f.natAbs * 2 ^ rqN V.natAbs := by rw [Int.natAbs_mul, Int.natAbs_pow]; rfl
  refine ⟨2 ^ rqN V.natAbs, hPp, hh, ?_, ?_⟩
  · rcases Nat.eq_zero_or_pos f.natAbs with k | k
    · exfalso
      have : f = 0 := by omega
      rw [this, Int.zero_mul, Int.sub_zero] at hh
      omega
    · rw [hA]; exact Nat.le_mul_of_pos_left _ k
  · generalize f * 2 ^ rqN V.natAbs = Y at *
    omega
theorem head_getD {ys : List Nat} (h : 0 < ys.length) : ys.head? = some (ys.getD 0 0) := by
  cases ys with
  | nil => simp at h
  | cons a t => rfl
/-- what compressing leaves -/
theorem cpr_facts : ∀ (k : Nat) (V : Int) (ys : List Nat), cpr k V = some ys → MU V →
    sumv ys = V ∧ (∀ y ∈ ys, W y ∧ fin y ∧ fv y ≠ 0) ∧ (∀ i, i + 1 < ys.length → (fv (ys.getD (i + 1) 0)).natAbs < (fv (ys.getD i 0)).natAbs) ∧ (∀ y, ys.head? = some y → V ≠ 0 ∧ y = nrF V)
  | 0, V, ys, h, _ => by
    simp only [cpr] at h
    split at h
    · injection h with h; subst h; rename_i hV; exact ⟨hV.symm, by simp, by simp, by simp⟩
    · cases h
  | k + 1, V, ys, h, hm => by
    simp only [cpr] at h
    split at h
    · injection h with h; subst h; rename_i hV; exact ⟨hV.symm, by simp, by simp, by simp⟩
    · rename_i hV
      split at h
      · rename_i hf
        cases hg : cpr k (V - fv (nrF V)) with
        | none => rw [hg] at h; cases h
        | some zs =>
          rw [hg] at h; simp at h; subst h
          have hW := (nrF_num V).1
          obtain ⟨i1, i2, i3, i4⟩ := cpr_facts k _ zs hg (hm.sub (MU.ofF hW))
          obtain ⟨P, p0, p1, p2, p3⟩ := near_facts hm hV hf
          refine ⟨?_, ?_, ?_, ?_⟩
          · show fv (nrF V) + sumv zs = V
            rw [i1]; omega
          · intro y hy
            rcases List.mem_cons.1 hy with rfl | hy
            · exact ⟨hW, hf, by omega⟩
            · exact i2 y hy
          · intro i hi
            cases i with
            | zero =>
              have hz : 0 < zs.length := by simp at hi; omega
              obtain ⟨hR, hy⟩ := i4 _ (head_getD hz)
              have hmem : zs.getD 0 0 ∈ zs := by
                cases zs with
                | nil => simp at hz
                | cons a t => exact List.mem_cons_self ..
              have hfz := (i2 _ hmem).2.1
              rw [hy] at hfz
              obtain ⟨P', q0, q1, q2, q3⟩ := near_facts (hm.sub (MU.ofF hW)) hR hfz
              show (fv (zs.getD 0 0)).natAbs < (fv (nrF V)).natAbs
              rw [hy]
              generalize fv (nrF (V - fv (nrF V))) = y2 at *
              generalize fv (nrF V) = y1 at *
              omega
            | succ j => exact i3 j (by simpa using hi)
          · intro y hy
            simp at hy
            exact ⟨hV, hy.symm⟩
      · cases h
/-- what growing leaves -/
theorem grow_facts : ∀ (xs : List Nat) (q : Nat) (ys : List Nat), grow q xs = some ys → W q → fin q → (∀ x ∈ xs, W x ∧ fin x) →
    sumv ys = sumv xs + fv q ∧ (∀ y ∈ ys, W y ∧ fin y) ∧ ys.length = xs.length + 1
  | [], q, ys, h, hq, fq, _ => by
    simp only [grow] at h
    injection h with h; subst h
    exact ⟨by simp [sumv], by intro y hy; simp at hy; subst hy; exact ⟨hq, fq⟩, rfl⟩
  | x :: xs, q, ys, h, hq, fq, hx => by
    simp only [grow] at h
    split at h
    · rename_i hf
      have hx1 := hx x (List.mem_cons_self ..)
      have hWa : W (addW q x) := (add_some fq hx1.2).2.1
      cases hg : grow (addW q x) xs with
      | none => rw [hg] at h; cases h
      | some zs =>
        rw [hg] at h; simp at h; subst h
        obtain ⟨i1, i2, i3⟩ := grow_facts xs _ zs hg hWa hf (fun y hy => hx y (List.mem_cons_of_mem _ hy))
        have hs := sum_exact hq hx1.1 fq hx1.2 hf
        refine ⟨?_, ?_, by simp; omega⟩
        · show fv (smF q x) + sumv zs = fv x + sumv xs + fv q
          rw [i1]; omega
        · intro y hy
          rcases List.mem_cons.1 hy with rfl | hy
          · exact sum_rest hq hx1.1 fq hx1.2 hf
          · exact i2 y hy
    · cases h
end Go.Proofs.YtflgjecpjaiecaaGreat
