/- Gs: N5 S33, merged. -/
import Derived.Test.YtflgjecpjaiecaaGreatGnq4
import Derived.Test.YtflgjecpjaiecaaGreatGaq4
/- Plain facts: the language's float sums and differences. -/
set_option linter.unusedVariables false
set_option linter.unusedSimpArgs false
set_option exponentiation.threshold 30000
namespace Go.Proofs.YtflgjecpjaiecaaGreat
open Go.RowKit Num Flt
theorem fv_base {x : Nat} (hx : W x) {b : Int} (h0 : -20000 ≤ b) (h1 : b ≤ -149 + (pe x : Int)) : fv x = Ieee.signed (sgf Ieee.single x) (pm x) (-149 + (pe x : Int) - b).toNat * 2 ^ (b + 20000).toNat := by
  rw [signed_eq]
  unfold fv dv
  rw [mv_sv hx]
  have hsc : (SC : Nat) = 20000 := rfl
  have e : (-149 + (pe x : Int) + SC).toNat = (-149 + (pe x : Int) - b).toNat + (b + 20000).toNat := by omega
  rw [e, sv_mul, Int.pow_add, ← Int.mul_assoc]
  push_cast
  rfl
/-- the language's sum is the sum rounded to the nearest -/
theorem add_rF {x y : Nat} (hx : W x) (hy : W y) (fx : fin x) (fy : fin y) (h0 : fv x + fv y ≠ 0) : addW x y = rF 0 (fv x + fv y) := by
  obtain ⟨b, hb⟩ : ∃ b, b = min (-149 + (pe x : Int)) (-149 + (pe y : Int)) := ⟨_, rfl⟩
  have hx1 := fv_base hx (b := b) (by omega) (by omega)
  have hy1 := fv_base hy (b := b) (by omega) (by omega)
  obtain ⟨T, hT⟩ : ∃ T, T = Ieee.signed (sgf Ieee.single x) (pm x) (-149 + (pe x : Int) - b).toNat + Ieee.signed (sgf Ieee.single y) (pm y) (-149 + (pe y : Int) - b).toNat := ⟨_, rfl⟩
  have hV : fv x + fv y = T * 2 ^ (b + 20000).toNat := by rw [hx1, hy1, ← Int.add_mul, ← hT]
  have hp := pow2_pos (b + 20000).toNat
  have hT0 : T ≠ 0 := fun k => h0 (by rw [hV, k, Int.zero_mul])
  have hneg : decide (fv x + fv y < 0) = decide (T < 0) := decide_eq_decide.2 (by
    rw [hV]
    constructor
    · intro h
      by_cases hc : T < 0
      · exact hc
      · have := Int.mul_nonneg (show 0 ≤ T by omega) (Int.le_of_lt hp); omega
    · intro h; exact Int.mul_neg_of_neg_of_pos h hp)
  have hN : (fv x + fv y).natAbs = T.natAbs * 2 ^ (b + 20000).toNat := by rw [hV, Int.natAbs_mul, Int.natAbs_pow]; rfl
  rw [← word_rF h0 hneg, hN, ← nearest_rg _ (by omega) (by omega)]
  unfold addW
  have : floatBits .add .f32 x y = some (Ieee.single.nearest (decide (T < 0)) T.natAbs b) := by
    show Ieee.single.add x y = _
    unfold Ieee.Format.add
    rw [read_v fx, read_v fy]
    simp only [Ieee.Datum.sum, Option.map, Ieee.Format.write]
    rw [← hb, ← hT, if_neg hT0]
  rw [this]; rfl
/-- the rest of a sum of floats -/
theorem sum_rest {x y : Nat} (hx : W x) (hy : W y) (fx : fin x) (fy : fin y) (fh : fin (addW x y)) : W (smF x y) ∧ fin (smF x y) := by
  refine ⟨(nrF_num _).1, ?_⟩
  unfold smF
  by_cases h0 : fv x + fv y = 0
  · have hz : fv (addW x y) = 0 := by
      obtain ⟨b, hb⟩ : ∃ b, b = min (-149 + (pe x : Int)) (-149 + (pe y : Int)) := ⟨_, rfl⟩
      have hx1 := fv_base hx (b := b) (by omega) (by omega)
      have hy1 := fv_base hy (b := b) (by omega) (by omega)
      have hp := pow2_pos (b + 20000).toNat
      have hT : Ieee.signed (sgf Ieee.single x) (pm x) (-149 + (pe x : Int) - b).toNat + Ieee.signed (sgf Ieee.single y) (pm y) (-149 + (pe y : Int) - b).toNat = 0 := by
        have hV : fv x + fv y = (Ieee.signed (sgf Ieee.single x) (pm x) (-149 + (pe x : Int) - b).toNat + Ieee.signed (sgf Ieee.single y) (pm y) (-149 + (pe y : Int) - b).toNat) * 2 ^ (b + 20000).toNat := by rw [Int.add_mul, ← hx1, ← hy1]
        rw [h0] at hV
        rcases Int.mul_eq_zero.1 hV.symm with k | k
        · exact k
        · omega
      have : ∃ s, addW x y = Ieee.single.word s 0 := by
        unfold addW
        refine ⟨sgf Ieee.single x && sgf Ieee.single y, ?_⟩
        have : floatBits .add .f32 x y = some (Ieee.single.nearest (sgf Ieee.single x && sgf Ieee.single y) 0 b) := by
          show Ieee.single.add x y = _
          unfold Ieee.Format.add
          rw [read_v fx, read_v fy]
          simp only [Ieee.Datum.sum, Option.map, Ieee.Format.write]
          rw [← hb, hT, if_pos rfl]; rfl
        rw [this]; rfl
      obtain ⟨s, hs⟩ := this
      rw [hs]
      cases s
      · exact fv_0
      · have h2 : fv 2147483648 = fv 0 := by rw [← fv_zp (x := 2147483648)]; rfl
        exact h2.trans fv_0
    rw [h0, hz]; decide
  · rw [add_rF hx hy fx fy h0] at fh ⊢
    refine (near_exact (rest_small h0 ?_)).1
    cases ho : ovB 0 (decide (fv x + fv y < 0)) (fv x + fv y).natAbs
    · rfl
    · exfalso
      have hst : ∀ b, stB 0 b = false := fun b => by unfold stB; simp
      have hg : rgN 0 (decide (fv x + fv y < 0)) (fv x + fv y).natAbs = 2139095040 := by unfold rgN; rw [ho, if_pos rfl, hst, if_neg (by decide)]
      unfold rF at fh
      rw [if_neg h0, hg] at fh
      unfold fin at fh; split at fh <;> omega
/-! differences -/
/-! NaN, drawn -/
theorem cut_W (x y t : Nat) : W ((Question.nanBits .f32 x y).cut t) := by
  show (t % 2 * 2147483648 + 2139095040 + 1 + t / 2 % 8388607) < 4294967296
  rcases Nat.mod_two_eq_zero_or_one t with h | h <;> rw [h] <;> omega
end Go.Proofs.YtflgjecpjaiecaaGreat
/- Contracts: quick sums of two floats, both sides. -/
set_option linter.unusedVariables false
set_option linter.unusedSimpArgs false
namespace Go.Proofs.YtflgjecpjaiecaaGreat
open Go.RowKit Num Flt
/-- a float operation in any case: the value may be drawn -/
theorem fop_any (op : BinOp) (hop : op = .add ∨ op = .sub ∨ op = .mul ∨ op = .quo) (T : TypeId) (x y : Nat) : ∃ (r : World → Nat) (n : Nat), (∀ w, (binOp op T (.float .f32 x) (.float .f32 y)).run Tryz.prog w = .ok (.float .f32 (r w)) (w.drewN n)) ∧ (∀ w, W (r w)) ∧ (∀ s, floatBits op .f32 x y = some s → ∀ w, r w = s) := by
  cases h : floatBits op .f32 x y with
  | none => exact ⟨fun w => (Question.nanBits .f32 x y).cut (w.tape w.drawn (.nanBits .f32 x y)), 1, fun w => run_float_nan w op hop T .f32 x y h, fun w => cut_W _ _ _, fun s hs => by cases hs⟩
  | some s => exact ⟨fun _ => s, 0, fun w => run_float_arith w op T .f32 x y s h, fun w => W_of_wf (floatBits_wf h), fun t ht w => by injection ht⟩
end Go.Proofs.YtflgjecpjaiecaaGreat
