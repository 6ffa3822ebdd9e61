/- Plain facts: sums of pairs turn round, and a pair and its opposite make 0. -/
import Derived.Test.YtflgjecpjaiecaaGreatGuq2
import Derived.Test.YtflgjecpjaiecaaGreatA2q2
set_option linter.unusedVariables false
set_option linter.unusedSimpArgs false
set_option exponentiation.threshold 30000
namespace Go.Proofs.YtflgjecpjaiecaaGreat
open Go.RowKit Num Flt
theorem addW_comm {x y : Nat} (fx : fin x) (fy : fin y) : addW x y = addW y x := by
  have : floatBits .add .f32 x y = floatBits .add .f32 y x := by
    show Ieee.single.add x y = Ieee.single.add y x
    unfold Ieee.Format.add
    rw [read_v fx, read_v fy]
    simp only [Ieee.Datum.sum]
    rw [Int.min_comm, Int.add_comm, Bool.and_comm]
  unfold addW; rw [this]
theorem smF_comm {x y : Nat} (fx : fin x) (fy : fin y) : smF x y = smF y x := by
  unfold smF; rw [addW_comm fx fy, Int.add_comm]
theorem ap_comm {a b c d : Nat} (fa : fin a) (fb : fin b) (fc : fin c) (fd : fin d) : apOk c d a b = apOk a b c d ∧ apHi c d a b = apHi a b c d ∧ apLo c d a b = apLo a b c d := by
  have h1 := addW_comm fc fa
  have h2 := addW_comm fd fb
  have h3 := smF_comm fc fa
  have h4 := smF_comm fd fb
  unfold apOk apHi apLo
  rw [h1, h2, h3, h4]
  exact ⟨rfl, rfl, rfl⟩
theorem AP_comm {a b c d : Nat} (h1 : prB a b = true) (h2 : prB c d = true) : APh c d a b = APh a b c d ∧ APl c d a b = APl a b c d ∧ APc c d a b = APc a b c d := by
  have h := ap_comm (prB_fin h1).1 (prB_fin h1).2 (prB_fin h2).1 (prB_fin h2).2
  unfold APh APl APc
  rw [h1, h2, h.1, h.2.1, h.2.2]
  exact ⟨rfl, rfl, rfl⟩
theorem pe_ng {x : Nat} (h : W x) : pe (ng x) = pe x ∧ pm (ng x) = pm x ∧ sgf Ieee.single (ng x) = !sgf Ieee.single x := by
  have e : ng x % 2147483648 = x % 2147483648 := by unfold ng; unfold W at h; split <;> omega
  refine ⟨by unfold pe; rw [e], by unfold pm; rw [e], ?_⟩
  rw [sg_eq (W_ng h), sg_eq h]
  unfold ng; unfold W at h
  split
  · rw [decide_eq_true (by omega), decide_eq_false (by omega)]; rfl
  · rw [decide_eq_false (by omega), decide_eq_true (by omega)]; rfl
theorem fv_ngN {x : Nat} (h : W x) : fv (ng x) = -fv x := by
  obtain ⟨e1, e2, e3⟩ := pe_ng h
  unfold fv dv
  rw [mv_sv (W_ng h), mv_sv h, e1, e2, e3, ← Int.neg_mul]
  congr 1
  cases sgf Ieee.single x <;> simp [sv]
theorem rg0_neg (neg : Bool) (M : Nat) : rgN 0 (!neg) M = rgN 0 neg M := by
  rw [rg_P, rg_P, (st_dn neg).1, (st_dn (!neg)).1]
  have : upB 0 (!neg) M = upB 0 neg M := by unfold upB; simp
  rw [this]
theorem pl_rF_neg (V : Int) : pl (rF 0 (-V)) = -pl (rF 0 V) := by
  by_cases h : V = 0
  · subst h; have e : rF 0 0 = 0 := rfl
    rw [Int.neg_zero, e]; decide
  · rw [pl_rF h, pl_rF (show -V ≠ 0 by omega), Int.natAbs_neg]
    have e : decide (-V < 0) = !decide (V < 0) := by
      by_cases k : V < 0
      · rw [decide_eq_true k, decide_eq_false (by omega)]; rfl
      · rw [decide_eq_false k, decide_eq_true (by omega)]; rfl
    rw [e, rg0_neg]
    cases decide (V < 0) <;> simp [sv]
theorem pl_add_ng {a b : Nat} (ha : W a) (hb : W b) (fa : fin a) (fb : fin b) : pl (addW (ng a) (ng b)) = -pl (addW a b) := by
  rw [sm4_near (W_ng ha) (W_ng hb) (fin_ng ha fa) (fin_ng hb fb), sm4_near ha hb fa fb]
  have e : fv (ng a) + fv (ng b) = -(fv a + fv b) := by rw [fv_ngN ha, fv_ngN hb]; omega
  by_cases h : fv a + fv b = 0
  · rw [sm4_zero 0 h, sm4_zero 0 (by rw [e, h]; rfl)]; rfl
  · rw [sm4_nz 0 h, sm4_nz 0 (by rw [e]; omega), e, pl_rF_neg]
theorem prB_ng {a b : Nat} (ha : W a) (hb : W b) (h : prB a b = true) : prB (ng a) (ng b) = true := by
  obtain ⟨fa, fb⟩ := prB_fin h
  have ga := fin_ng ha fa
  have gb := fin_ng hb fb
  unfold prB at h ⊢
  rw [decide_eq_true fa, decide_eq_true fb, q_eqs (add_num fa fb) (nan_fin fa)] at h
  rw [decide_eq_true ga, decide_eq_true gb, q_eqs (add_num ga gb) (nan_fin ga)]
  have h2 : pl (addW a b) = pl a := by simpa using h
  have h3 : pl (addW (ng a) (ng b)) = pl (ng a) := by rw [pl_add_ng ha hb fa fb, pl_ng ha, h2]
  rw [decide_eq_true h3]; rfl
theorem add_opp {x : Nat} (hx : W x) (fx : fin x) : addW x (ng x) = 0 := by
  rw [add_zero hx (W_ng hx) fx (fin_ng hx fx) (by rw [fv_ngN hx]; omega), (pe_ng hx).2.2]
  cases sgf Ieee.single x <;> decide
theorem smF_opp {x : Nat} (hx : W x) (fx : fin x) : smF x (ng x) = 0 := by
  unfold smF
  rw [add_opp hx fx, fv_ngN hx, fv_0]
  have e : fv x + -fv x - 0 = 0 := by omega
  rw [e]; rfl
theorem ap_zero : apK (addW 0 0) 0 0 = true ∧ apH (addW 0 0) 0 0 = 0 ∧ apL (addW 0 0) 0 0 = 0 := by
  refine ⟨?_, ?_, ?_⟩ <;> decide +kernel
theorem AP_opp {a b : Nat} (ha : W a) (hb : W b) (h : prB a b = true) : APh a b (ng a) (ng b) = 0 ∧ APl a b (ng a) (ng b) = 0 ∧ APc a b (ng a) (ng b) = 0 := by
  obtain ⟨fa, fb⟩ := prB_fin h
  have h2 := prB_ng ha hb h
  have hk : apOk a b (ng a) (ng b) = true := by
    unfold apOk
    rw [add_opp ha fa, add_opp hb fb, smF_opp ha fa, smF_opp hb fb, ap_zero.1]
    decide
  have hh : apHi a b (ng a) (ng b) = 0 := by
    unfold apHi
    rw [add_opp ha fa, add_opp hb fb, smF_opp ha fa, smF_opp hb fb]
    exact ap_zero.2.1
  have hl : apLo a b (ng a) (ng b) = 0 := by
    unfold apLo
    rw [add_opp ha fa, add_opp hb fb, smF_opp ha fa, smF_opp hb fb]
    exact ap_zero.2.2
  unfold APh APl APc
  rw [h, h2, hk, hh, hl]
  exact ⟨rfl, rfl, rfl⟩
/-! the answers of exported functions of two pairs -/
theorem AP_pair {a b c d : Nat} (h : APc a b c d = 0) : prB (APh a b c d) (APl a b c d) = true := by
  unfold APc exC at h
  by_cases hP : (prB a b && prB c d) = true
  · rw [if_pos hP] at h
    cases hK : apOk a b c d
    · rw [hK] at h; simp at h
    · unfold APh APl exV
      rw [hP, hK]
      have h3 := hK
      unfold apOk at h3
      rw [Bool.and_eq_true, Bool.and_eq_true] at h3
      have h4 := h3.2
      unfold apK at h4
      rw [Bool.and_eq_true] at h4
      exact h4.2
  · rw [if_neg hP] at h; omega
end Go.Proofs.YtflgjecpjaiecaaGreat
