/- Contracts: dyadic numbers of floats, of the reference. -/
import Derived.Test.YtmiafbbndonpaaaS8
import Derived.Test.YtmiafbbndonpaaaF10
set_option linter.unusedVariables false
set_option linter.unusedSimpArgs false
namespace Go.Proofs.Ytmiafbbndonpaaa
open Go.RowKit Num Flt
/-- the signed mantissa of a float, its value in the scale -/
def mv (x : Nat) : Int := if 2147483648 < x then -(pm x : Int) else pm x
def fv (x : Nat) : Int := dv (mv x) (-149 + (pe x : Int))
theorem mv_lt (x : Nat) : -16777216 < mv x ∧ mv x < 16777216 := by have := pm_lt x; unfold mv; split <;> omega
theorem bd_small {m : Int} (h : -16777216 < m ∧ m < 16777216) : Bd m := by
  have h5 : (16777216 : Int) ^ 1 ≤ TOP := by unfold TOP; exact pow_le (by decide) (by decide)
  simp only [Int.pow_succ, Int.pow_zero, Int.one_mul] at h5
  unfold Bd; generalize TOP = T at *; omega
theorem dv_small {m e : Int} (h : -16777216 < m ∧ m < 16777216) (he : e ≤ 1000000) : Bd (dv m e) := by
  have hp := pow2_pos (e + SC).toNat
  have h1 : (2 : Int) ^ (e + SC).toNat ≤ 2 ^ 2000000 := pow_le (by decide) (by have : (SC : Int) = 20000 := rfl; omega)
  have h2 : TOP = 16777216 * 2 ^ (24 * 99999) := by unfold TOP; rw [← p24]; exact (Int.pow_succ _ _).trans (Int.mul_comm _ _)
  have h3 : (2 : Int) ^ 2000000 ≤ 2 ^ (24 * 99999) := pow_le (by decide) (by decide)
  unfold Bd dv
  rw [h2]
  generalize (2 : Int) ^ (24 * 99999) = T at *
  generalize (2 : Int) ^ 2000000 = T2 at *
  generalize (2 : Int) ^ (e + SC).toNat = p at *
  have h4 : m * p ≤ 16777215 * p := Int.mul_le_mul_of_nonneg_right (by omega) (by omega)
  have h5 : -16777215 * p ≤ m * p := Int.mul_le_mul_of_nonneg_right (by omega) (by omega)
  omega
theorem fv_bd {x : Nat} (h : fin x) : Bd (fv x) := dv_small (mv_lt x) (by have := pe_le h; omega)
set_option maxHeartbeats 4000000 in
theorem s_DOf (x : Nat) (w : World) (hx : W x) (hf : fin x) :
    Calls Try.prog 106 #[.float .f32 x] w (RetD (fv x) 149 w) := by
  have HX : Hd (W x ∧ fin x) := ⟨⟨hx, hf⟩⟩
  have hn : ¬ nan x := by unfold nan; unfold fin at hf; omega
  have hl := lt0_iff x hx hn
  have HE : Hd (-((149 : Nat) : Int) ≤ -149 + (pe x : Int) ∧ 149 ≤ SC ∧ -149 + (pe x : Int) ≤ 2400000) := ⟨⟨by omega, by unfold SC; omega, by have := pe_le hf; omega⟩⟩
  have HM : Hd ((-16777216 < mv x ∧ mv x < 16777216) ∧ Bd (mv x) ∧ Bd (dv (mv x) (-149 + (pe x : Int)))) := ⟨⟨mv_lt x, bd_small (mv_lt x), fv_bd hf⟩⟩
  have hm : (pm x : Int) < 16777216 := by have := pm_lt x; omega
  by_cases h1 : 2147483648 < x
  · rw [decide_eq_true h1] at hl
    have HV : Hd (mv x = -(pm x : Int)) := ⟨by unfold mv; rw [if_pos h1]⟩
    have HM2 := HM.out
    rw [HV.out] at HM2
    have HM3 : Hd _ := ⟨HM2⟩
    have e : fv x = dv (-(pm x : Int)) (-149 + (pe x : Int)) := by unfold fv; rw [HV.out]
    rw [e]
    clear h1 hx hf hn HM HM2 HV e
    go_enter Try.func106, Try.ntmps106
    go_wp2_with (first | (go_at_call 171; refine (s_Parts _ _ HX.out.1 HX.out.2).mono ?_; rintro e w' ⟨rfl, rfl⟩) | (go_at_call 172; (with_reducible refine (s_Of (-(pm x : Int)) _ HM3.out.1 HM3.out.2.1).mono ?_); rintro e w1 ⟨s1, A1, n1, c1, rfl, hW, hq⟩; have HW1 : Hd (WhO w1 (w.heap.size + 1) s1 A1 n1 c1 _) := ⟨hW.mono (by simp)⟩; clear hW; obtain ⟨hc, hf, hz, hy⟩ := bcell hq; have hs := hq.size; (try simp at hs); have HZ : Hd (w.heap.size + 1 ≤ w1.heap.size) := ⟨(by omega)⟩; clear hs) | (go_at_call 118; (with_reducible refine (s_DMake s1 A1 n1 c1 (-(pm x : Int)) (-149 + (pe x : Int)) 149 w1 HW1.out.wh HE.out.1 HE.out.2.1 HE.out.2.2 HM3.out.2.2).mono ?_); rintro e w2 ⟨s2, A2, n2, c2, x2, rfl, hD, hq2⟩; clear hc hf hz hy; replace hq := bt3 hq2 hq; have HD : Hd (DyO w2 (w.heap.size + 1) s2 A2 n2 c2 x2 _ _) := ⟨hD.mono HZ.out⟩; clear hD hq2; obtain ⟨hc, hf, hz, hy⟩ := bcell hq; have hs := hq.size; (try simp at hs); have h0' : w.heap.size < w2.heap.size := (by omega); clear hs))
    refine bodyPost_ret (v := .agg #[.int .i64 s2, .slice A2 n2 c2, .int .i64 x2]) (by simp (maxDischargeDepth := 7) [results, Try.results106, go_sem, *]) rfl ⟨s2, A2, n2, c2, x2, rfl, (((HD.out.set _ _ (by omega) _).set _ _ (by omega) _).set _ _ (by omega) _).mono (by omega), ?_⟩
    (repeat (first | exact Below.refl _ _ | assumption | refine Below.drew ?_ | refine below_drewN ?_ _ | refine ba _ ?_ | refine bs0 _ _ ?_ ?_ | refine bs1 _ _ _ ?_ ?_ | refine bs2 _ _ _ _ ?_ ?_ | refine bt3 (by assumption) ?_))
  · rw [decide_eq_false h1] at hl
    have HV : Hd (mv x = (pm x : Int)) := ⟨by unfold mv; rw [if_neg h1]⟩
    have HM2 := HM.out
    rw [HV.out] at HM2
    have HM3 : Hd _ := ⟨HM2⟩
    have e : fv x = dv (pm x : Int) (-149 + (pe x : Int)) := by unfold fv; rw [HV.out]
    rw [e]
    clear h1 hx hf hn HM HM2 HV e
    go_enter Try.func106, Try.ntmps106
    go_wp2_with (first | (go_at_call 171; refine (s_Parts _ _ HX.out.1 HX.out.2).mono ?_; rintro e w' ⟨rfl, rfl⟩) | (go_at_call 172; (with_reducible refine (s_Of (pm x : Int) _ HM3.out.1 HM3.out.2.1).mono ?_); rintro e w1 ⟨s1, A1, n1, c1, rfl, hW, hq⟩; have HW1 : Hd (WhO w1 (w.heap.size + 1) s1 A1 n1 c1 _) := ⟨hW.mono (by simp)⟩; clear hW; obtain ⟨hc, hf, hz, hy⟩ := bcell hq; have hs := hq.size; (try simp at hs); have HZ : Hd (w.heap.size + 1 ≤ w1.heap.size) := ⟨(by omega)⟩; clear hs) | (go_at_call 118; (with_reducible refine (s_DMake s1 A1 n1 c1 (pm x : Int) (-149 + (pe x : Int)) 149 w1 HW1.out.wh HE.out.1 HE.out.2.1 HE.out.2.2 HM3.out.2.2).mono ?_); rintro e w2 ⟨s2, A2, n2, c2, x2, rfl, hD, hq2⟩; clear hc hf hz hy; replace hq := bt3 hq2 hq; have HD : Hd (DyO w2 (w.heap.size + 1) s2 A2 n2 c2 x2 _ _) := ⟨hD.mono HZ.out⟩; clear hD hq2; obtain ⟨hc, hf, hz, hy⟩ := bcell hq; have hs := hq.size; (try simp at hs); have h0' : w.heap.size < w2.heap.size := (by omega); clear hs))
    refine bodyPost_ret (v := .agg #[.int .i64 s2, .slice A2 n2 c2, .int .i64 x2]) (by simp (maxDischargeDepth := 7) [results, Try.results106, go_sem, *]) rfl ⟨s2, A2, n2, c2, x2, rfl, (((HD.out.set _ _ (by omega) _).set _ _ (by omega) _).set _ _ (by omega) _).mono (by omega), ?_⟩
    (repeat (first | exact Below.refl _ _ | assumption | refine Below.drew ?_ | refine below_drewN ?_ _ | refine ba _ ?_ | refine bs0 _ _ ?_ ?_ | refine bs1 _ _ _ ?_ ?_ | refine bs2 _ _ _ _ ?_ ?_ | refine bt3 (by assumption) ?_))

end Go.Proofs.Ytmiafbbndonpaaa
