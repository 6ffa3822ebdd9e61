/- Gc: S9 S10 S11 S12 S13, merged. -/
import Derived.Test.YtflgjecpjaiecaaGreatGbq4
import Derived.Test.YtflgjecpjaiecaaGreatGaq4
import Derived.Deep.RegionLaw
/- Contracts: dyadic numbers of floats, of the reference. -/
set_option linter.unusedVariables false
set_option linter.unusedSimpArgs false
namespace Go.Proofs.YtflgjecpjaiecaaGreat
open Go.RowKit Num Flt
/-- the signed mantissa of a float, its value in the scale -/
def mv (x : Nat) : Int := if 2147483648 < x then -(pm x : Int) else pm x
def fv (x : Nat) : Int := dv (mv x) (-149 + (pe x : Int))
theorem mv_lt (x : Nat) : -16777216 < mv x ∧ mv x < 16777216 := by have := pm_lt x; unfold mv; split <;> omega
theorem bd_small {m : Int} (h : -16777216 < m ∧ m < 16777216) : Bd m := by
  have h5 : (16777216 : Int) ^ 1 ≤ TOP := by unfold TOP; exact pow_le (by decide) (by decide)
  simp only [Int.pow_succ, Int.pow_zero, Int.one_mul] at h5
  unfold Bd; generalize TOP = T at *; omega
theorem dv_small {m e : Int} (h : -16777216 < m ∧ m < 16777216) (he : e ≤ 1000000) : Bd (dv m e) := by
  have hp := pow2_pos (e + SC).toNat
  have h1 : (2 : Int) ^ (e + SC).toNat ≤ 2 ^ 2000000 := pow_le (by decide) (by have : (SC : Int) = 20000 := rfl; omega)
  have h2 : TOP = 16777216 * 2 ^ (24 * 99999) := by unfold TOP; rw [← p24]; exact (Int.pow_succ _ _).trans (Int.mul_comm _ _)
  have h3 : (2 : Int) ^ 2000000 ≤ 2 ^ (24 * 99999) := pow_le (by decide) (by decide)
  unfold Bd dv
  rw [h2]
  generalize (2 : Int) ^ (24 * 99999) = T at *
  generalize (2 : Int) ^ 2000000 = T2 at *
  generalize (2 : Int) ^ (e + SC).toNat = p at *
  have h4 : m * p ≤ 16777215 * p := Int.mul_le_mul_of_nonneg_right (by omega) (by omega)
  have h5 : -16777215 * p ≤ m * p := Int.mul_le_mul_of_nonneg_right (by omega) (by omega)
  omega
theorem fv_bd {x : Nat} (h : fin x) : Bd (fv x) := dv_small (mv_lt x) (by have := pe_le h; omega)
set_option maxHeartbeats 4000000 in
theorem s_DOf (x : Nat) (w : World) (hx : W x) (hf : fin x) :
    Calls Tryz.prog 153 #[.float .f32 x] w (RetD (fv x) 149 w) := by
  have HX : Hd (W x ∧ fin x) := ⟨⟨hx, hf⟩⟩
  have hn : ¬ nan x := by unfold nan; unfold fin at hf; omega
  have hl := lt0_iff x hx hn
  have HE : Hd (-((149 : Nat) : Int) ≤ -149 + (pe x : Int) ∧ 149 ≤ SC ∧ -149 + (pe x : Int) ≤ 2400000) := ⟨⟨by omega, by unfold SC; omega, by have := pe_le hf; omega⟩⟩
  have HM : Hd ((-16777216 < mv x ∧ mv x < 16777216) ∧ Bd (mv x) ∧ Bd (dv (mv x) (-149 + (pe x : Int)))) := ⟨⟨mv_lt x, bd_small (mv_lt x), fv_bd hf⟩⟩
  have hm : (pm x : Int) < 16777216 := by have := pm_lt x; omega
  by_cases h1 : 2147483648 < x
  · rw [decide_eq_true h1] at hl
    have HV : Hd (mv x = -(pm x : Int)) := ⟨by unfold mv; rw [if_pos h1]⟩
    have HM2 := HM.out
    rw [HV.out] at HM2
    have HM3 : Hd _ := ⟨HM2⟩
    have e : fv x = dv (-(pm x : Int)) (-149 + (pe x : Int)) := by unfold fv; rw [HV.out]
    rw [e]
    clear h1 hx hf hn HM HM2 HV e
    go_enter Tryz.func153, Tryz.ntmps153
    go_wp2_with (first | (go_at_call 219; refine (s_Parts _ _ HX.out.1 HX.out.2).mono ?_; rintro e w' ⟨rfl, rfl⟩) | (go_at_call 213; (with_reducible refine (s_Of (-(pm x : Int)) _ HM3.out.1 HM3.out.2.1).mono ?_); rintro e w1 ⟨s1, A1, n1, c1, rfl, hW, hq⟩; have HW1 : Hd (WhO w1 (w.heap.size + 1) s1 A1 n1 c1 _) := ⟨hW.mono (by simp)⟩; clear hW; obtain ⟨hc, hf, hz, hy⟩ := bcell hq; have hs := hq.size; (try simp at hs); have HZ : Hd (w.heap.size + 1 ≤ w1.heap.size) := ⟨(by omega)⟩; clear hs) | (go_at_call 211; (with_reducible refine (s_DMake s1 A1 n1 c1 (-(pm x : Int)) (-149 + (pe x : Int)) 149 w1 HW1.out.wh HE.out.1 HE.out.2.1 HE.out.2.2 HM3.out.2.2).mono ?_); rintro e w2 ⟨s2, A2, n2, c2, x2, rfl, hD, hq2⟩; clear hc hf hz hy; replace hq := bt3 hq2 hq; have HD : Hd (DyO w2 (w.heap.size + 1) s2 A2 n2 c2 x2 _ _) := ⟨hD.mono HZ.out⟩; clear hD hq2; obtain ⟨hc, hf, hz, hy⟩ := bcell hq; have hs := hq.size; (try simp at hs); have h0' : w.heap.size < w2.heap.size := (by omega); clear hs))
    refine bodyPost_ret (v := .agg #[.int .i64 s2, .slice A2 n2 c2, .int .i64 x2]) (by simp (maxDischargeDepth := 7) [results, Tryz.results153, go_sem, *]) rfl ⟨s2, A2, n2, c2, x2, rfl, (((HD.out.set _ _ (by omega) _).set _ _ (by omega) _).set _ _ (by omega) _).mono (by omega), ?_⟩
    (repeat (first | exact Below.refl _ _ | assumption | refine Below.drew ?_ | refine bdn ?_ | refine ba _ ?_ | refine bs0 _ _ ?_ ?_ | refine bs1 _ _ _ ?_ ?_ | refine bs2 _ _ _ _ ?_ ?_ | refine bt3 (by assumption) ?_))
  · rw [decide_eq_false h1] at hl
    have HV : Hd (mv x = (pm x : Int)) := ⟨by unfold mv; rw [if_neg h1]⟩
    have HM2 := HM.out
    rw [HV.out] at HM2
    have HM3 : Hd _ := ⟨HM2⟩
    have e : fv x = dv (pm x : Int) (-149 + (pe x : Int)) := by unfold fv; rw [HV.out]
    rw [e]
    clear h1 hx hf hn HM HM2 HV e
    go_enter Tryz.func153, Tryz.ntmps153
    go_wp2_with (first | (go_at_call 219; refine (s_Parts _ _ HX.out.1 HX.out.2).mono ?_; rintro e w' ⟨rfl, rfl⟩) | (go_at_call 213; (with_reducible refine (s_Of (pm x : Int) _ HM3.out.1 HM3.out.2.1).mono ?_); rintro e w1 ⟨s1, A1, n1, c1, rfl, hW, hq⟩; have HW1 : Hd (WhO w1 (w.heap.size + 1) s1 A1 n1 c1 _) := ⟨hW.mono (by simp)⟩; clear hW; obtain ⟨hc, hf, hz, hy⟩ := bcell hq; have hs := hq.size; (try simp at hs); have HZ : Hd (w.heap.size + 1 ≤ w1.heap.size) := ⟨(by omega)⟩; clear hs) | (go_at_call 211; (with_reducible refine (s_DMake s1 A1 n1 c1 (pm x : Int) (-149 + (pe x : Int)) 149 w1 HW1.out.wh HE.out.1 HE.out.2.1 HE.out.2.2 HM3.out.2.2).mono ?_); rintro e w2 ⟨s2, A2, n2, c2, x2, rfl, hD, hq2⟩; clear hc hf hz hy; replace hq := bt3 hq2 hq; have HD : Hd (DyO w2 (w.heap.size + 1) s2 A2 n2 c2 x2 _ _) := ⟨hD.mono HZ.out⟩; clear hD hq2; obtain ⟨hc, hf, hz, hy⟩ := bcell hq; have hs := hq.size; (try simp at hs); have h0' : w.heap.size < w2.heap.size := (by omega); clear hs))
    refine bodyPost_ret (v := .agg #[.int .i64 s2, .slice A2 n2 c2, .int .i64 x2]) (by simp (maxDischargeDepth := 7) [results, Tryz.results153, go_sem, *]) rfl ⟨s2, A2, n2, c2, x2, rfl, (((HD.out.set _ _ (by omega) _).set _ _ (by omega) _).set _ _ (by omega) _).mono (by omega), ?_⟩
    (repeat (first | exact Below.refl _ _ | assumption | refine Below.drew ?_ | refine bdn ?_ | refine ba _ ?_ | refine bs0 _ _ ?_ ?_ | refine bs1 _ _ _ ?_ ?_ | refine bs2 _ _ _ _ ?_ ?_ | refine bt3 (by assumption) ?_))
end Go.Proofs.YtflgjecpjaiecaaGreat
/- Contracts: sums of dyadic numbers, of the reference. -/
set_option linter.unusedVariables false
set_option linter.unusedSimpArgs false
namespace Go.Proofs.YtflgjecpjaiecaaGreat
open Go.RowKit Num
theorem s_LeftP (s : Int) (A : Option Addr) (n c : Nat) (a : Int) (k : Nat) (w : World) (hX : WhP w s A n c a) (hk : k ≤ 10000000) (hb0 : Bd (a * 2 ^ k)) :
    Calls Tryz.prog 210 #[.agg #[.int .i64 s, .slice A n c], .int .i64 k] w (RetWh (a * 2 ^ k) w) := by
  obtain ⟨xs, h⟩ := hX.opened
  exact s_Left s A n c xs a k w h hk hb0
theorem s_LeftP0 (s : Int) (A : Option Addr) (n c : Nat) (a : Int) (w : World) (hX : WhP w s A n c a) (hb0 : Bd a) :
    Calls Tryz.prog 210 #[.agg #[.int .i64 s, .slice A n c], .int .i64 0] w (RetWh a w) := by
  have h := s_LeftP s A n c a 0 w hX (by omega) (by simpa using hb0)
  simpa using h
theorem keep6 {W w1 : World} (hb : Below W.heap.size W w1) {a0 a1 a2 a3 a4 a5 : Addr} {v0 v1 v2 v3 v4 v5 : Value} (h : W.cell? a0 = some v0 ∧ W.cell? a1 = some v1 ∧ W.cell? a2 = some v2 ∧ W.cell? a3 = some v3 ∧ W.cell? a4 = some v4 ∧ W.cell? a5 = some v5) :
    w1.cell? a0 = some v0 ∧ w1.cell? a1 = some v1 ∧ w1.cell? a2 = some v2 ∧ w1.cell? a3 = some v3 ∧ w1.cell? a4 = some v4 ∧ w1.cell? a5 = some v5 := ⟨cb hb h.1, cb hb h.2.1, cb hb h.2.2.1, cb hb h.2.2.2.1, cb hb h.2.2.2.2.1, cb hb h.2.2.2.2.2⟩
theorem WhP.zero {w : World} {s : Int} {A : Option Addr} {n c : Nat} {a : Int} (h : WhP w s A n c a) : s = 0 ↔ a = 0 := by
  obtain ⟨xs, h⟩ := h.opened; exact h.num.zero
theorem dv_zero (e : Int) : dv 0 e = 0 := by unfold dv; simp
theorem dv_add (a b e : Int) : dv (a + b) e = dv a e + dv b e := by unfold dv; rw [Int.add_mul]
theorem dv_shift (a e : Int) (k : Nat) (h : -(SC : Int) ≤ e) : dv (a * 2 ^ k) e = dv a (e + k) := by
  unfold dv
  rw [Int.mul_assoc, ← Int.pow_add, show (e + k + SC).toNat = k + (e + SC).toNat by omega]
set_option maxHeartbeats 4000000 in
theorem s_DAdd0 (s t e d V U : Int) (A A' : Option Addr) (n m c c' l : Nat) (w : World) (hC : DyP w s A n c e V l) (hD : DyP w t A' m c' d U l) (hb0 : Bd (V + U)) (h0 : s = 0) :
    Calls Tryz.prog 203 #[.agg #[.int .i64 s, .slice A n c, .int .i64 e], .agg #[.int .i64 t, .slice A' m c', .int .i64 d]] w (RetD (V + U) l w) := by
  obtain ⟨a, hA, fA⟩ := hC
  obtain ⟨b, hB, fB⟩ := hD
  have HA : Hd (WhP w s A n c a) := ⟨hA⟩
  have HB : Hd (WhP w t A' m c' b) := ⟨hB⟩
  have hsc : (SC : Int) = 20000 := rfl
  have he0 : -20000 ≤ e := by have := fA.lo; have := fA.lsc; omega
  have he1 : e ≤ 2400000 := fA.hi
  have hd0 : -20000 ≤ d := by have := fB.lo; have := fB.lsc; omega
  have hd1 : d ≤ 2400000 := fB.hi
  have e1 : V + U = dv b d := by rw [fA.val, hA.zero.1 h0, dv_zero, fB.val]; omega
  have HF : Hd (-(l : Int) ≤ d ∧ l ≤ SC ∧ d ≤ 2400000 ∧ Bd (dv b d)) := ⟨⟨fB.lo, fB.lsc, fB.hi, by rw [← e1]; exact hb0⟩⟩
  rw [e1]
  subst h0
  clear hA hB fA fB hb0 e1
  go_enter Tryz.func203, Tryz.ntmps203
  go_wp2_with (go_at_call 211; (with_reducible refine (s_DMake t A' m c' b d l _ (HB.out.below (by (repeat (first | exact Below.refl _ _ | assumption | refine Below.drew ?_ | refine bdn ?_ | refine ba _ ?_ | refine bs0 _ _ ?_ ?_ | refine bs1 _ _ _ ?_ ?_ | refine bs2 _ _ _ _ ?_ ?_ | refine bt3 (by assumption) ?_)))) HF.out.1 HF.out.2.1 HF.out.2.2.1 HF.out.2.2.2).mono ?_); rintro e' w2 ⟨s2, A2, n2, c2, x2, rfl, hD, hq⟩; have HD : Hd (DyO w2 (w.heap.size + 1 + 1 + 1) s2 A2 n2 c2 x2 _ _) := ⟨hD.mono (by simp)⟩; clear hD; obtain ⟨hc, hf, hz, hy⟩ := bcell hq; have hs := hq.size; (try simp at hs); have h0' : w.heap.size < w2.heap.size := (by omega); have h1' : w.heap.size + 1 < w2.heap.size := (by omega); have h2' : w.heap.size + 1 + 1 < w2.heap.size := (by omega); clear hs)
  refine bodyPost_ret (v := .agg #[.int .i64 s2, .slice A2 n2 c2, .int .i64 x2]) (by simp (maxDischargeDepth := 7) [results, Tryz.results203, go_sem, *]) rfl ⟨s2, A2, n2, c2, x2, rfl, (((HD.out.set _ _ (by omega) _).set _ _ (by omega) _).set _ _ (by omega) _).mono (by omega), ?_⟩
  (repeat (first | exact Below.refl _ _ | assumption | refine Below.drew ?_ | refine bdn ?_ | refine ba _ ?_ | refine bs0 _ _ ?_ ?_ | refine bs1 _ _ _ ?_ ?_ | refine bs2 _ _ _ _ ?_ ?_ | refine bt3 (by assumption) ?_))
set_option maxHeartbeats 4000000 in
theorem s_DAdd1 (s t e d V U : Int) (A A' : Option Addr) (n m c c' l : Nat) (w : World) (hC : DyP w s A n c e V l) (hD : DyP w t A' m c' d U l) (hb0 : Bd (V + U)) (h0 : s ≠ 0) (h1 : t = 0) :
    Calls Tryz.prog 203 #[.agg #[.int .i64 s, .slice A n c, .int .i64 e], .agg #[.int .i64 t, .slice A' m c', .int .i64 d]] w (RetD (V + U) l w) := by
  obtain ⟨a, hA, fA⟩ := hC
  obtain ⟨b, hB, fB⟩ := hD
  have HA : Hd (WhP w s A n c a) := ⟨hA⟩
  have HB : Hd (WhP w t A' m c' b) := ⟨hB⟩
  have hsc : (SC : Int) = 20000 := rfl
  have he0 : -20000 ≤ e := by have := fA.lo; have := fA.lsc; omega
  have he1 : e ≤ 2400000 := fA.hi
  have hd0 : -20000 ≤ d := by have := fB.lo; have := fB.lsc; omega
  have hd1 : d ≤ 2400000 := fB.hi
  have e1 : V + U = dv a e := by rw [fB.val, hB.zero.1 h1, dv_zero, fA.val]; omega
  have HF : Hd (-(l : Int) ≤ e ∧ l ≤ SC ∧ e ≤ 2400000 ∧ Bd (dv a e)) := ⟨⟨fA.lo, fA.lsc, fA.hi, by rw [← e1]; exact hb0⟩⟩
  rw [e1]
  have hd : (s == 0) = false := by simpa using h0
  subst h1
  clear hA hB fA fB hb0 e1 h0
  go_enter Tryz.func203, Tryz.ntmps203
  go_wp2_with (go_at_call 211; (with_reducible refine (s_DMake s A n c a e l _ (HA.out.below (by (repeat (first | exact Below.refl _ _ | assumption | refine Below.drew ?_ | refine bdn ?_ | refine ba _ ?_ | refine bs0 _ _ ?_ ?_ | refine bs1 _ _ _ ?_ ?_ | refine bs2 _ _ _ _ ?_ ?_ | refine bt3 (by assumption) ?_)))) HF.out.1 HF.out.2.1 HF.out.2.2.1 HF.out.2.2.2).mono ?_); rintro e' w2 ⟨s2, A2, n2, c2, x2, rfl, hD, hq⟩; have HD : Hd (DyO w2 (w.heap.size + 1 + 1 + 1) s2 A2 n2 c2 x2 _ _) := ⟨hD.mono (by simp)⟩; clear hD; obtain ⟨hc, hf, hz, hy⟩ := bcell hq; have hs := hq.size; (try simp at hs); have h0' : w.heap.size < w2.heap.size := (by omega); have h1' : w.heap.size + 1 < w2.heap.size := (by omega); have h2' : w.heap.size + 1 + 1 < w2.heap.size := (by omega); clear hs)
  refine bodyPost_ret (v := .agg #[.int .i64 s2, .slice A2 n2 c2, .int .i64 x2]) (by simp (maxDischargeDepth := 7) [results, Tryz.results203, go_sem, *]) rfl ⟨s2, A2, n2, c2, x2, rfl, (((HD.out.set _ _ (by omega) _).set _ _ (by omega) _).set _ _ (by omega) _).mono (by omega), ?_⟩
  (repeat (first | exact Below.refl _ _ | assumption | refine Below.drew ?_ | refine bdn ?_ | refine ba _ ?_ | refine bs0 _ _ ?_ ?_ | refine bs1 _ _ _ ?_ ?_ | refine bs2 _ _ _ _ ?_ ?_ | refine bt3 (by assumption) ?_))
set_option maxHeartbeats 4000000 in
theorem s_DAdd2 (s t e d V U : Int) (A A' : Option Addr) (n m c c' l : Nat) (w : World) (hC : DyP w s A n c e V l) (hD : DyP w t A' m c' d U l) (hb0 : Bd (V + U)) (h0 : s ≠ 0) (h1 : t ≠ 0) (k : Nat) (hk : d = e + k) :
    Calls Tryz.prog 203 #[.agg #[.int .i64 s, .slice A n c, .int .i64 e], .agg #[.int .i64 t, .slice A' m c', .int .i64 d]] w (RetD (V + U) l w) := by
  obtain ⟨a, hA, fA⟩ := hC
  obtain ⟨b, hB, fB⟩ := hD
  have HA : Hd (WhP w s A n c a) := ⟨hA⟩
  have HB : Hd (WhP w t A' m c' b) := ⟨hB⟩
  have hsc : (SC : Int) = 20000 := rfl
  have he0 : -20000 ≤ e := by have := fA.lo; have := fA.lsc; omega
  have he1 : e ≤ 2400000 := fA.hi
  have hd0 : -20000 ≤ d := by have := fB.lo; have := fB.lsc; omega
  have hd1 : d ≤ 2400000 := fB.hi
  have hkI : (k : Int) ≤ 10000000 := by omega
  have e1 : V + U = dv (a + b * 2 ^ k) e := by rw [dv_add, dv_shift _ _ _ (by omega), ← hk, ← fA.val, ← fB.val]
  have HF : Hd (-(l : Int) ≤ e ∧ l ≤ SC ∧ e ≤ 2400000 ∧ Bd (dv (a + b * 2 ^ k) e) ∧ Bd a ∧ Bd (b * 2 ^ k) ∧ k ≤ 10000000 ∧ Bd (a + b * 2 ^ k)) := ⟨⟨fA.lo, fA.lsc, fA.hi, by rw [← e1]; exact hb0, dv_bd (by rw [← fA.val]; exact fA.bd), dv_bd (e := e) (by rw [dv_shift _ _ _ (by omega), ← hk, ← fB.val]; exact fB.bd), by omega, dv_bd (e := e) (by rw [← e1]; exact hb0)⟩⟩
  rw [e1]
  have hd : (s == 0) = false := by simpa using h0
  have hd2 : (t == 0) = false := by simpa using h1
  subst hk
  have hmin : min e (e + (k : Int)) = e := by omega
  have hw0 : IntKind.i64.wrap 0 = 0 := by decide
  have hwk : IntKind.i64.wrap (k : Int) = k := by rw [IntKind.wrap_i64]; omega
  have hek : e + (k : Int) - e = k := by omega
  clear hA hB fA fB hb0 e1 h0 h1
  go_enter Tryz.func203, Tryz.ntmps203
  go_wp2_with fail
  have d1 : ¬ (w.heap.size + 1 + 1 = w.heap.size) := by omega
  have d2 : ¬ (w.heap.size = w.heap.size + 1 + 1) := by omega
  go_region_held3 (fun w' => w'.cell? ⟨w.heap.size, 0, none⟩ = some (.int .i64 s) ∧ w'.cell? ⟨w.heap.size, 1, none⟩ = some (.slice A n c) ∧ w'.cell? ⟨w.heap.size, 2, none⟩ = some (.int .i64 e) ∧ w'.cell? ⟨w.heap.size + 1, 0, none⟩ = some (.int .i64 t) ∧ w'.cell? ⟨w.heap.size + 1, 1, none⟩ = some (.slice A' m c') ∧ w'.cell? ⟨w.heap.size + 1, 2, none⟩ = some (.int .i64 (e + (k : Int)))) ((first | assumption | (exact keep6 hq (by first | assumption | (refine ⟨?_, ?_, ?_, ?_, ?_, ?_⟩ <;> go_simp))) | go_keep | (refine ⟨?_, ?_, ?_, ?_, ?_, ?_⟩ <;> go_simp) | (constructor <;> go_simp)))
    (first | (go_at_call 210; (with_reducible refine (s_LeftP t A' m c' b k _ (HB.out.below (by (repeat (first | exact Below.refl _ _ | assumption | refine Below.drew ?_ | refine bdn ?_ | refine ba _ ?_ | refine bs0 _ _ ?_ ?_ | refine bs1 _ _ _ ?_ ?_ | refine bs2 _ _ _ _ ?_ ?_ | refine bt3 (by assumption) ?_)))) HF.out.2.2.2.2.2.2.1 HF.out.2.2.2.2.2.1).mono ?_); rintro e' w4 ⟨s4, A4, n4, c4, rfl, hW, hq2⟩; replace hq := bt3 hq2 hq; have HW4 : Hd (WhO w4 w3.heap.size s4 A4 n4 c4 _) := ⟨hW⟩; replace HW3 : Hd (WhO w4 (w.heap.size + 1 + 1 + 1) s3 A3 n3 c3 _) := ⟨HW3.out.keep hq2⟩; clear hW hq2) | (go_at_call 210; (with_reducible refine (s_LeftP0 s A n c a _ (HA.out.below (by (repeat (first | exact Below.refl _ _ | assumption | refine Below.drew ?_ | refine bdn ?_ | refine ba _ ?_ | refine bs0 _ _ ?_ ?_ | refine bs1 _ _ _ ?_ ?_ | refine bs2 _ _ _ _ ?_ ?_ | refine bt3 (by assumption) ?_)))) HF.out.2.2.2.2.1).mono ?_); rintro e' w3 ⟨s3, A3, n3, c3, rfl, hW, hq⟩; have HW3 : Hd (WhO w3 (w.heap.size + 1 + 1 + 1) s3 A3 n3 c3 _) := ⟨hW.mono (by simp)⟩; clear hW) | (go_at_call 253; (with_reducible refine (s_AddW s3 s4 A3 A4 n3 n4 c3 c4 a (b * 2 ^ k) w4 HW3.out.wh HW4.out.wh HF.out.2.2.2.2.2.2.2).mono ?_); rintro e' w5 ⟨s5, A5, n5, c5, rfl, hW, hq2⟩; replace hq := bt3 hq2 hq; have HW5 : Hd (WhO w5 w4.heap.size s5 A5 n5 c5 _) := ⟨hW⟩; clear hW hq2) | (go_at_call 211; (with_reducible refine (s_DMake s5 A5 n5 c5 (a + b * 2 ^ k) e l w5 HW5.out.wh HF.out.1 HF.out.2.1 HF.out.2.2.1 HF.out.2.2.2.1).mono ?_); rintro e' w2 ⟨s2, A2, n2, c2, x2, rfl, hD, hq2⟩; have hs5 := hq.size; (try simp at hs5); replace hq := bt3 hq2 hq; have HD : Hd (DyO w2 (w.heap.size + 1 + 1 + 1) s2 A2 n2 c2 x2 _ _) := ⟨hD.mono (by omega)⟩; clear hD hq2 hs5; obtain ⟨hc, hf, hz, hy⟩ := bcell hq; have hs := hq.size; (try simp at hs); have h0' : w.heap.size < w2.heap.size := (by omega); have h1' : w.heap.size + 1 < w2.heap.size := (by omega); have h2' : w.heap.size + 1 + 1 < w2.heap.size := (by omega); clear hs))
  go_wp2_with fail
  refine bodyPost_ret (v := .agg #[.int .i64 s2, .slice A2 n2 c2, .int .i64 x2]) (by simp (maxDischargeDepth := 7) [results, Tryz.results203, go_sem, *]) rfl ⟨s2, A2, n2, c2, x2, rfl, (((HD.out.set _ _ (by omega) _).set _ _ (by omega) _).set _ _ (by omega) _).mono (by omega), ?_⟩
  (repeat (first | exact Below.refl _ _ | assumption | refine Below.drew ?_ | refine bdn ?_ | refine ba _ ?_ | refine bs0 _ _ ?_ ?_ | refine bs1 _ _ _ ?_ ?_ | refine bs2 _ _ _ _ ?_ ?_ | refine bt3 (by assumption) ?_))
set_option maxHeartbeats 4000000 in
theorem s_DAdd3 (s t e d V U : Int) (A A' : Option Addr) (n m c c' l : Nat) (w : World) (hC : DyP w s A n c e V l) (hD : DyP w t A' m c' d U l) (hb0 : Bd (V + U)) (h0 : s ≠ 0) (h1 : t ≠ 0) (k : Nat) (hk : e = d + k) (hkp : 0 < k) :
    Calls Tryz.prog 203 #[.agg #[.int .i64 s, .slice A n c, .int .i64 e], .agg #[.int .i64 t, .slice A' m c', .int .i64 d]] w (RetD (V + U) l w) := by
  obtain ⟨a, hA, fA⟩ := hC
  obtain ⟨b, hB, fB⟩ := hD
  have HA : Hd (WhP w s A n c a) := ⟨hA⟩
  have HB : Hd (WhP w t A' m c' b) := ⟨hB⟩
  have hsc : (SC : Int) = 20000 := rfl
  have he0 : -20000 ≤ e := by have := fA.lo; have := fA.lsc; omega
  have he1 : e ≤ 2400000 := fA.hi
  have hd0 : -20000 ≤ d := by have := fB.lo; have := fB.lsc; omega
  have hd1 : d ≤ 2400000 := fB.hi
  have hkp2 : (0 : Int) < k := by omega
  have hkI : (k : Int) ≤ 10000000 := by omega
  have e1 : V + U = dv (a * 2 ^ k + b) d := by rw [dv_add, dv_shift _ _ _ (by omega), ← hk, ← fA.val, ← fB.val]
  have HF : Hd (-(l : Int) ≤ d ∧ l ≤ SC ∧ d ≤ 2400000 ∧ Bd (dv (a * 2 ^ k + b) d) ∧ Bd b ∧ Bd (a * 2 ^ k) ∧ k ≤ 10000000 ∧ Bd (a * 2 ^ k + b)) := ⟨⟨fB.lo, fB.lsc, fB.hi, by rw [← e1]; exact hb0, dv_bd (by rw [← fB.val]; exact fB.bd), dv_bd (e := d) (by rw [dv_shift _ _ _ (by omega), ← hk, ← fA.val]; exact fA.bd), by omega, dv_bd (e := d) (by rw [← e1]; exact hb0)⟩⟩
  rw [e1]
  have hd : (s == 0) = false := by simpa using h0
  have hd2 : (t == 0) = false := by simpa using h1
  subst hk
  have hmin : min (d + (k : Int)) d = d := by omega
  have hw0 : IntKind.i64.wrap 0 = 0 := by decide
  have hwk : IntKind.i64.wrap (k : Int) = k := by rw [IntKind.wrap_i64]; omega
  have hek : d + (k : Int) - d = k := by omega
  clear hA hB fA fB hb0 e1 h0 h1 hkp
  go_enter Tryz.func203, Tryz.ntmps203
  go_wp2_with fail
  have d1 : ¬ (w.heap.size + 1 + 1 = w.heap.size) := by omega
  have d2 : ¬ (w.heap.size = w.heap.size + 1 + 1) := by omega
  go_region_held3 (fun w' => w'.cell? ⟨w.heap.size, 0, none⟩ = some (.int .i64 s) ∧ w'.cell? ⟨w.heap.size, 1, none⟩ = some (.slice A n c) ∧ w'.cell? ⟨w.heap.size, 2, none⟩ = some (.int .i64 (d + (k : Int))) ∧ w'.cell? ⟨w.heap.size + 1, 0, none⟩ = some (.int .i64 t) ∧ w'.cell? ⟨w.heap.size + 1, 1, none⟩ = some (.slice A' m c') ∧ w'.cell? ⟨w.heap.size + 1, 2, none⟩ = some (.int .i64 d)) ((first | assumption | (exact keep6 hq (by first | assumption | (refine ⟨?_, ?_, ?_, ?_, ?_, ?_⟩ <;> go_simp))) | go_keep | (refine ⟨?_, ?_, ?_, ?_, ?_, ?_⟩ <;> go_simp) | (constructor <;> go_simp)))
    (first | (go_at_call 210; (with_reducible refine (s_LeftP0 t A' m c' b _ (HB.out.below (by (repeat (first | exact Below.refl _ _ | assumption | refine Below.drew ?_ | refine bdn ?_ | refine ba _ ?_ | refine bs0 _ _ ?_ ?_ | refine bs1 _ _ _ ?_ ?_ | refine bs2 _ _ _ _ ?_ ?_ | refine bt3 (by assumption) ?_)))) HF.out.2.2.2.2.1).mono ?_); rintro e' w4 ⟨s4, A4, n4, c4, rfl, hW, hq2⟩; replace hq := bt3 hq2 hq; have HW4 : Hd (WhO w4 w3.heap.size s4 A4 n4 c4 _) := ⟨hW⟩; replace HW3 : Hd (WhO w4 (w.heap.size + 1 + 1 + 1) s3 A3 n3 c3 _) := ⟨HW3.out.keep hq2⟩; clear hW hq2) | (go_at_call 210; (with_reducible refine (s_LeftP s A n c a k _ (HA.out.below (by (repeat (first | exact Below.refl _ _ | assumption | refine Below.drew ?_ | refine bdn ?_ | refine ba _ ?_ | refine bs0 _ _ ?_ ?_ | refine bs1 _ _ _ ?_ ?_ | refine bs2 _ _ _ _ ?_ ?_ | refine bt3 (by assumption) ?_)))) HF.out.2.2.2.2.2.2.1 HF.out.2.2.2.2.2.1).mono ?_); rintro e' w3 ⟨s3, A3, n3, c3, rfl, hW, hq⟩; have HW3 : Hd (WhO w3 (w.heap.size + 1 + 1 + 1) s3 A3 n3 c3 _) := ⟨hW.mono (by simp)⟩; clear hW) | (go_at_call 253; (with_reducible refine (s_AddW s3 s4 A3 A4 n3 n4 c3 c4 (a * 2 ^ k) b w4 HW3.out.wh HW4.out.wh HF.out.2.2.2.2.2.2.2).mono ?_); rintro e' w5 ⟨s5, A5, n5, c5, rfl, hW, hq2⟩; replace hq := bt3 hq2 hq; have HW5 : Hd (WhO w5 w4.heap.size s5 A5 n5 c5 _) := ⟨hW⟩; clear hW hq2) | (go_at_call 211; (with_reducible refine (s_DMake s5 A5 n5 c5 (a * 2 ^ k + b) d l w5 HW5.out.wh HF.out.1 HF.out.2.1 HF.out.2.2.1 HF.out.2.2.2.1).mono ?_); rintro e' w2 ⟨s2, A2, n2, c2, x2, rfl, hD, hq2⟩; have hs5 := hq.size; (try simp at hs5); replace hq := bt3 hq2 hq; have HD : Hd (DyO w2 (w.heap.size + 1 + 1 + 1) s2 A2 n2 c2 x2 _ _) := ⟨hD.mono (by omega)⟩; clear hD hq2 hs5; obtain ⟨hc, hf, hz, hy⟩ := bcell hq; have hs := hq.size; (try simp at hs); have h0' : w.heap.size < w2.heap.size := (by omega); have h1' : w.heap.size + 1 < w2.heap.size := (by omega); have h2' : w.heap.size + 1 + 1 < w2.heap.size := (by omega); clear hs))
  go_wp2_with fail
  refine bodyPost_ret (v := .agg #[.int .i64 s2, .slice A2 n2 c2, .int .i64 x2]) (by simp (maxDischargeDepth := 7) [results, Tryz.results203, go_sem, *]) rfl ⟨s2, A2, n2, c2, x2, rfl, (((HD.out.set _ _ (by omega) _).set _ _ (by omega) _).set _ _ (by omega) _).mono (by omega), ?_⟩
  (repeat (first | exact Below.refl _ _ | assumption | refine Below.drew ?_ | refine bdn ?_ | refine ba _ ?_ | refine bs0 _ _ ?_ ?_ | refine bs1 _ _ _ ?_ ?_ | refine bs2 _ _ _ _ ?_ ?_ | refine bt3 (by assumption) ?_))
/-- the sum of two dyadic numbers -/
theorem s_DAdd (s t e d V U : Int) (A A' : Option Addr) (n m c c' l : Nat) (w : World) (hC : DyP w s A n c e V l) (hD : DyP w t A' m c' d U l) (hb0 : Bd (V + U)) :
    Calls Tryz.prog 203 #[.agg #[.int .i64 s, .slice A n c, .int .i64 e], .agg #[.int .i64 t, .slice A' m c', .int .i64 d]] w (RetD (V + U) l w) := by
  by_cases h0 : s = 0
  · exact s_DAdd0 s t e d V U A A' n m c c' l w hC hD hb0 h0
  · by_cases h1 : t = 0
    · exact s_DAdd1 s t e d V U A A' n m c c' l w hC hD hb0 h0 h1
    · rcases Int.lt_or_le d e with h | h
      · exact s_DAdd3 s t e d V U A A' n m c c' l w hC hD hb0 h0 h1 (e - d).toNat (by omega) (by omega)
      · exact s_DAdd2 s t e d V U A A' n m c c' l w hC hD hb0 h0 h1 (d - e).toNat (by omega)
end Go.Proofs.YtflgjecpjaiecaaGreat
/- Contracts: opposites and differences of dyadic numbers, of the reference. -/
set_option linter.unusedVariables false
set_option linter.unusedSimpArgs false
namespace Go.Proofs.YtflgjecpjaiecaaGreat
open Go.RowKit Num
theorem keep3 {W w1 : World} (hb : Below W.heap.size W w1) {a0 a1 a2 : Addr} {v0 v1 v2 : Value} (h : W.cell? a0 = some v0 ∧ W.cell? a1 = some v1 ∧ W.cell? a2 = some v2) :
    w1.cell? a0 = some v0 ∧ w1.cell? a1 = some v1 ∧ w1.cell? a2 = some v2 := ⟨cb hb h.1, cb hb h.2.1, cb hb h.2.2⟩
theorem Bd.neg {a : Int} (h : Bd a) : Bd (-a) := by unfold Bd at *; generalize TOP = T at *; omega
theorem DyF.neg {m e V : Int} {l : Nat} (h : DyF m e V l) : DyF (-m) e (-V) l :=
  ⟨by rw [h.val]; unfold dv; rw [Int.neg_mul], h.lo, h.lsc, h.hi, fun k => h.zer (by omega), fun k => by have := h.odd (by omega); omega, h.bd.neg⟩
set_option maxHeartbeats 4000000 in
theorem s_DNeg (s e V : Int) (A : Option Addr) (n c l : Nat) (w : World) (hC : DyP w s A n c e V l) :
    Calls Tryz.prog 216 #[.agg #[.int .i64 s, .slice A n c, .int .i64 e]] w (RetD (-V) l w) := by
  obtain ⟨a, hA, fA⟩ := hC
  have HA : Hd (WhP w s A n c a) := ⟨hA⟩
  have HF : Hd (DyF (-a) e (-V) l ∧ Bd (-a)) := ⟨⟨fA.neg, (dv_bd (by rw [← fA.val]; exact fA.bd)).neg⟩⟩
  clear hA fA
  go_enter Tryz.func216, Tryz.ntmps216
  go_wp2_with fail
  go_region_held3 (fun w' => w'.cell? ⟨w.heap.size, 0, none⟩ = some (.int .i64 s) ∧ w'.cell? ⟨w.heap.size, 1, none⟩ = some (.slice A n c) ∧ w'.cell? ⟨w.heap.size, 2, none⟩ = some (.int .i64 e)) ((first | assumption | (exact keep3 hq (by first | assumption | (refine ⟨?_, ?_, ?_⟩ <;> go_simp))) | go_keep | (refine ⟨?_, ?_, ?_⟩ <;> go_simp) | (constructor <;> go_simp)))
    (first | (go_at_call 262; (with_reducible refine (s_NegW s A n c a _ (HA.out.below (by (repeat (first | exact Below.refl _ _ | assumption | refine Below.drew ?_ | refine bdn ?_ | refine ba _ ?_ | refine bs0 _ _ ?_ ?_ | refine bs1 _ _ _ ?_ ?_ | refine bs2 _ _ _ _ ?_ ?_ | refine bt3 (by assumption) ?_)))) HF.out.2).mono ?_); rintro e' w2 ⟨s2, A2, n2, c2, rfl, hW, hq⟩; have HW2 : Hd (WhO w2 (w.heap.size + 1 + 1) s2 A2 n2 c2 (-a)) := ⟨hW.mono (by simp)⟩; clear hW; obtain ⟨hc, hf, hz, hy⟩ := bcell hq; have hs := hq.size; (try simp at hs); have h0' : w.heap.size < w2.heap.size := (by omega); have h1' : w.heap.size + 1 < w2.heap.size := (by omega); clear hs))
  go_wp2_with fail
  refine bodyPost_ret (v := .agg #[.int .i64 s2, .slice A2 n2 c2, .int .i64 e]) (by simp (maxDischargeDepth := 7) [results, Tryz.results216, go_sem, *]) rfl ⟨s2, A2, n2, c2, e, rfl, ⟨_, (((HW2.out.set _ _ (by omega) _).set _ _ (by omega) _).set _ _ (by omega) _).mono (by omega), HF.out.1⟩, ?_⟩
  (repeat (first | exact Below.refl _ _ | assumption | refine Below.drew ?_ | refine bdn ?_ | refine ba _ ?_ | refine bs0 _ _ ?_ ?_ | refine bs1 _ _ _ ?_ ?_ | refine bs2 _ _ _ _ ?_ ?_ | refine bt3 (by assumption) ?_))
set_option maxHeartbeats 4000000 in
theorem s_DSub (s t e d V U : Int) (A A' : Option Addr) (n m c c' l : Nat) (w : World) (hC : DyP w s A n c e V l) (hD : DyP w t A' m c' d U l) (hb0 : Bd (V - U)) :
    Calls Tryz.prog 142 #[.agg #[.int .i64 s, .slice A n c, .int .i64 e], .agg #[.int .i64 t, .slice A' m c', .int .i64 d]] w (RetD (V - U) l w) := by
  have HC : Hd (DyP w s A n c e V l) := ⟨hC⟩
  have HD0 : Hd (DyP w t A' m c' d U l) := ⟨hD⟩
  have HB0 : Hd (Bd (V + -U)) := ⟨by rw [← Int.sub_eq_add_neg]; exact hb0⟩
  rw [Int.sub_eq_add_neg]
  clear hC hD hb0
  go_enter Tryz.func142, Tryz.ntmps142
  go_wp2_with fail
  have d1 : ¬ (w.heap.size + 1 + 1 = w.heap.size) := by omega
  have d2 : ¬ (w.heap.size = w.heap.size + 1 + 1) := by omega
  go_region_held3 (fun w' => w'.cell? ⟨w.heap.size, 0, none⟩ = some (.int .i64 s) ∧ w'.cell? ⟨w.heap.size, 1, none⟩ = some (.slice A n c) ∧ w'.cell? ⟨w.heap.size, 2, none⟩ = some (.int .i64 e) ∧ w'.cell? ⟨w.heap.size + 1, 0, none⟩ = some (.int .i64 t) ∧ w'.cell? ⟨w.heap.size + 1, 1, none⟩ = some (.slice A' m c') ∧ w'.cell? ⟨w.heap.size + 1, 2, none⟩ = some (.int .i64 d)) ((first | assumption | (exact keep6 hq (by first | assumption | (refine ⟨?_, ?_, ?_, ?_, ?_, ?_⟩ <;> go_simp))) | go_keep | (refine ⟨?_, ?_, ?_, ?_, ?_, ?_⟩ <;> go_simp) | (constructor <;> go_simp)))
    (first | (go_at_call 216; (with_reducible refine (s_DNeg t d U A' m c' l _ (HD0.out.below (by (repeat (first | exact Below.refl _ _ | assumption | refine Below.drew ?_ | refine bdn ?_ | refine ba _ ?_ | refine bs0 _ _ ?_ ?_ | refine bs1 _ _ _ ?_ ?_ | refine bs2 _ _ _ _ ?_ ?_ | refine bt3 (by assumption) ?_))))).mono ?_); rintro e' w3 ⟨s3, A3, n3, c3, x3, rfl, hW, hq⟩; have HW3 : Hd (DyO w3 (w.heap.size + 1 + 1 + 1) s3 A3 n3 c3 x3 (-U) l) := ⟨hW.mono (by simp)⟩; clear hW) | (go_at_call 203; (with_reducible refine (s_DAdd s s3 e x3 V (-U) A A3 n n3 c c3 l _ (HC.out.below (by (repeat (first | exact Below.refl _ _ | assumption | refine Below.drew ?_ | refine bdn ?_ | refine ba _ ?_ | refine bs0 _ _ ?_ ?_ | refine bs1 _ _ _ ?_ ?_ | refine bs2 _ _ _ _ ?_ ?_ | refine bt3 (by assumption) ?_)))) HW3.out.dp HB0.out).mono ?_); rintro e' w2 ⟨s2, A2, n2, c2, x2, rfl, hD, hq2⟩; have hs5 := hq.size; (try simp at hs5); replace hq := bt3 hq2 hq; have HD : Hd (DyO w2 (w.heap.size + 1 + 1 + 1) s2 A2 n2 c2 x2 _ _) := ⟨hD.mono (by omega)⟩; clear hD hq2 hs5; obtain ⟨hc, hf, hz, hy⟩ := bcell hq; have hs := hq.size; (try simp at hs); have h0' : w.heap.size < w2.heap.size := (by omega); have h1' : w.heap.size + 1 < w2.heap.size := (by omega); have h2' : w.heap.size + 1 + 1 < w2.heap.size := (by omega); clear hs))
  go_wp2_with fail
  refine bodyPost_ret (v := .agg #[.int .i64 s2, .slice A2 n2 c2, .int .i64 x2]) (by simp (maxDischargeDepth := 7) [results, Tryz.results142, go_sem, *]) rfl ⟨s2, A2, n2, c2, x2, rfl, (((HD.out.set _ _ (by omega) _).set _ _ (by omega) _).set _ _ (by omega) _).mono (by omega), ?_⟩
  (repeat (first | exact Below.refl _ _ | assumption | refine Below.drew ?_ | refine bdn ?_ | refine ba _ ?_ | refine bs0 _ _ ?_ ?_ | refine bs1 _ _ _ ?_ ?_ | refine bs2 _ _ _ _ ?_ ?_ | refine bt3 (by assumption) ?_))
end Go.Proofs.YtflgjecpjaiecaaGreat
/- Contracts: sums of lists of floats, of the reference. -/
set_option linter.unusedVariables false
set_option linter.unusedSimpArgs false
namespace Go.Proofs.YtflgjecpjaiecaaGreat
open Go.RowKit Num Flt
/-- the cells of a list of floats; a slice that reads so -/
def cF (xs : List Nat) : List Value := xs.map fun x => .float .f32 x
def RF (w : World) (A : Option Addr) (xs : List Nat) : Prop := Reads w w.heap.size 1 A xs.length (cF xs)
theorem cF_at (xs : List Nat) (k : Nat) (h : k < xs.length) : (cF xs)[k]? = some (.float .f32 (xs.getD k 0)) := by simp [cF, List.getD_eq_getElem?_getD, List.getElem?_eq_getElem h]
theorem RF.at_ {w : World} {A : Option Addr} {xs : List Nat} (h : RF w A xs) {k : Nat} (hk : k < xs.length) : ∃ ad, A = some ad ∧ w.cell? (ad.add k) = some (.float .f32 (xs.getD k 0)) := by
  obtain ⟨ad, u, e, _, hx, hc⟩ := Reads.at_ h hk
  rw [cF_at xs k hk] at hx; cases hx
  exact ⟨ad, e, hc⟩
theorem RF.below {w w' : World} {A : Option Addr} {xs : List Nat} (h : RF w A xs) (hb : Below w.heap.size w w') : RF w' A xs := (Reads.below h hb).more hb.size
/-- the sum of floats in the scale -/
def sumv : List Nat → Int
  | [] => 0
  | x :: xs => fv x + sumv xs
theorem sumv_snoc (xs : List Nat) (x : Nat) : sumv (xs ++ [x]) = sumv xs + fv x := by
  induction xs with
  | nil => simp [sumv]
  | cons y ys ih => simp [sumv, ih]; omega
theorem sumv_take (xs : List Nat) (k : Nat) (h : k < xs.length) : sumv (xs.take (k + 1)) = sumv (xs.take k) + fv (xs.getD k 0) := by
  rw [List.take_succ_eq_append_getElem h, sumv_snoc, List.getD_eq_getElem?_getD, List.getElem?_eq_getElem h]; rfl
/-- a bound on the value of a float -/
def FB : Int := 16777216 * 2 ^ 2000000
theorem fv_lt {x : Nat} (h : fin x) : -FB < fv x ∧ fv x < FB := by
  have he := pe_le h
  have hm := mv_lt x
  have h1 : (2 : Int) ^ ((-149 + (pe x : Int)) + SC).toNat ≤ 2 ^ 2000000 := pow_le (by decide) (by have : (SC : Int) = 20000 := rfl; omega)
  have hp := pow2_pos ((-149 + (pe x : Int)) + SC).toNat
  unfold FB fv dv
  generalize (2 : Int) ^ 2000000 = T2 at *
  generalize (2 : Int) ^ ((-149 + (pe x : Int)) + SC).toNat = p at *
  have h4 : mv x * p ≤ 16777215 * p := Int.mul_le_mul_of_nonneg_right (by omega) (by omega)
  have h5 : -16777215 * p ≤ mv x * p := Int.mul_le_mul_of_nonneg_right (by omega) (by omega)
  omega
theorem FB_pos : 0 < FB := by have := fv_lt (x := 0) (by decide); omega
theorem sumv_lt (xs : List Nat) (h : ∀ x ∈ xs, fin x) : -(FB * (xs.length + 1)) < sumv xs ∧ sumv xs < FB * (xs.length + 1) := by
  have hf := FB_pos
  induction xs with
  | nil => simp [sumv]; omega
  | cons x xs ih =>
    have h1 := ih (fun y hy => h y (List.mem_cons_of_mem _ hy))
    have h2 := fv_lt (h x (List.mem_cons_self ..))
    have e : FB * (((x :: xs).length : Int) + 1) = FB * ((xs.length : Int) + 1) + FB := by simp [Int.mul_add]
    rw [e]
    show _ < fv x + sumv xs ∧ fv x + sumv xs < _
    omega
theorem FB_top : FB * 1024 ≤ TOP := by
  have h2 : TOP = 16777216 * 2 ^ (24 * 99999) := by unfold TOP; rw [← p24]; exact (Int.pow_succ _ _).trans (Int.mul_comm _ _)
  have h3 : (2 : Int) ^ (2000000 + 10) ≤ 2 ^ (24 * 99999) := pow_le (by decide) (by decide)
  rw [Int.pow_add] at h3
  rw [h2]; unfold FB
  have h4 : (2 : Int) ^ 10 = 1024 := rfl
  rw [h4] at h3
  generalize (2 : Int) ^ (24 * 99999) = T at *
  generalize (2 : Int) ^ 2000000 = T2 at *
  omega
theorem sumv_bd (xs : List Nat) (h : ∀ x ∈ xs, fin x) (hl : xs.length ≤ 1000) : Bd (sumv xs) := by
  have h1 := sumv_lt xs h
  have h2 := FB_top
  have h3 : FB * (xs.length + 1) ≤ FB * 1024 := Int.mul_le_mul_of_nonneg_left (by omega) (Int.le_of_lt FB_pos)
  unfold Bd
  generalize FB * (xs.length + 1) = p at *
  generalize FB * 1024 = q at *
  generalize TOP = T at *
  omega
def Wd (w : World) : World := w.alloc (Obj.cells #[Value.int .i64 0, Value.slice none 0 0, Value.int .i64 0] 66)
set_option maxHeartbeats 4000000 in
theorem s_All (A : Option Addr) (n c : Nat) (xs : List Nat) (w : World) (hn : n = xs.length) (hl : n ≤ 1000) (hR : RF w A xs) (hx : ∀ x ∈ xs, W x ∧ fin x) :
    Calls Tryz.prog 151 #[.slice A n c] w (RetD (sumv xs) 149 w) := by
  have HR : Hd (RF w A xs) := ⟨hR⟩
  have HN : Hd (n = xs.length ∧ n ≤ 1000 ∧ ∀ x ∈ xs, W x ∧ fin x) := ⟨⟨hn, hl, hx⟩⟩
  have hnI : (n : Int) ≤ 1000 := by omega
  have HS : Hd (∀ k, Bd (sumv (xs.take k))) := ⟨fun k => sumv_bd _ (fun x hx' => (hx x (List.mem_of_mem_take hx')).2) (by simp; omega)⟩
  clear hn hl hR hx
  go_enter Tryz.func151, Tryz.ntmps151
  go_wp2
  go_loopw [4] (fun i wr => ∃ (k : Nat) (s : Int) (A1 : Option Addr) (n1 c1 : Nat) (e : Int), i = .int .i64 k ∧ (k : Int) ≤ n ∧ Hd (DyO wr (w.heap.size + 1 + 1) s A1 n1 c1 e (sumv (xs.take k)) 149) ∧ Hd (Blk wr (w.heap.size + 1) 66 #[.int .i64 s, .slice A1 n1 c1, .int .i64 e]) ∧ Hd (Below (Wd w).heap.size (Wd w) wr))
    (fun i _ => n - (intOf i).toNat)
  case atStart =>
    refine ⟨0, 0, none, 0, 0, 0, rfl, by omega, ⟨⟨0, ⟨[], rfl, by omega, ⟨Canon.nil _, .inl ⟨rfl, rfl⟩, rfl⟩, World.ownsRow_nil _ _ _ _⟩, ⟨by simp [sumv, dv], by omega, by unfold SC; omega, by omega, fun _ => rfl, fun h => absurd rfl h, by have := HS.out 0; simpa using this⟩⟩⟩, ⟨?_⟩, ⟨ba _ (Below.refl _ _)⟩⟩
    have := Blk.new (Wd w) 66 #[.int .i64 0, .slice none 0 0, .int .i64 0]
    simpa [Wd] using this
  case round =>
    obtain ⟨k, s, A1, n1, c1, e, rfl, hk, HD0, HK, HB⟩ := hrel
    have c0 : wr.cell? ⟨w.heap.size + 1, 0, none⟩ = some (.int .i64 s) := HK.out.cell 0
    have c1' : wr.cell? ⟨w.heap.size + 1, 1, none⟩ = some (.slice A1 n1 c1) := HK.out.cell 1
    have c2 : wr.cell? ⟨w.heap.size + 1, 2, none⟩ = some (.int .i64 e) := HK.out.cell 2
    have HB2 : Hd (Below w.heap.size w wr) := ⟨bt3 HB.out (ba _ (Below.refl _ _))⟩
    by_cases h1 : k < n
    · obtain ⟨ad, hA, hcx⟩ := HR.out.at_ (k := k) (by have := HN.out; omega)
      subst hA
      have HX : Hd (W (xs.getD k 0) ∧ fin (xs.getD k 0)) := ⟨HN.out.2.2 _ (by have h := HN.out.1; rw [List.getD_eq_getElem?_getD, List.getElem?_eq_getElem (by omega)]; exact List.getElem_mem _)⟩
      have HSU : Hd (sumv (xs.take (k + 1)) = sumv (xs.take k) + fv (xs.getD k 0)) := ⟨sumv_take xs k (by have := HN.out; omega)⟩
      have HBD : Hd (Bd (sumv (xs.take k) + fv (xs.getD k 0))) := ⟨by rw [← HSU.out]; exact HS.out (k + 1)⟩
      replace hcx := (HB2.out.cell (World.block_lt_of_cell? w _ hcx)).trans hcx
      generalize hex : xs.getD k 0 = x at *
      clear hex
      go_wp2_with fail
      go_region_with (first | (go_at_call 153; (with_reducible refine (s_DOf x _ HX.out.1 HX.out.2).mono ?_); rintro e' w3 ⟨s3, A3, n3, c3, x3, rfl, hW, hq⟩; have hq' : Below wr.heap.size wr w3 := Below.trans (Below.drew (Below.refl _ _)) hq; have HW3 : Hd (DyO w3 wr.heap.size s3 A3 n3 c3 x3 (fv x) 149) := ⟨hW⟩; have HD1 : Hd (DyO w3 (w.heap.size + 1 + 1) s A1 n1 c1 e (sumv (xs.take k)) 149) := ⟨HD0.out.keep hq'⟩; have HK1 : Hd (Blk w3 (w.heap.size + 1) 66 #[.int .i64 s, .slice A1 n1 c1, .int .i64 e]) := ⟨HK.out.below hq' HK.out.lt⟩; have HB3 : Hd (Below (Wd w).heap.size (Wd w) w3) := ⟨bt3 hq' HB.out⟩; have d0 := HK1.out.cell 0; have d1 := HK1.out.cell 1; have d2 := HK1.out.cell 2; clear hW hq hq') | (go_at_call 203; (with_reducible refine (s_DAdd s s3 e x3 (sumv (xs.take k)) (fv x) A1 A3 n1 n3 c1 c3 149 _ HD1.out.dp HW3.out.dp HBD.out).mono ?_); rintro e' w4 ⟨s4, A4, n4, c4, x4, rfl, hD, hq2⟩; have HD4 : Hd (DyO w4 (w.heap.size + 1 + 1) s4 A4 n4 c4 x4 (sumv (xs.take k) + fv x) 149) := ⟨hD.mono HK1.out.lt⟩; have HK4 : Hd (Blk w4 (w.heap.size + 1) 66 #[.int .i64 s, .slice A1 n1 c1, .int .i64 e]) := ⟨HK1.out.below hq2 HK1.out.lt⟩; have HB4 : Hd (Below (Wd w).heap.size (Wd w) w4) := ⟨bt3 hq2 HB3.out⟩; have e0 := HK4.out.cell 0; have e1 := HK4.out.cell 1; have e2 := HK4.out.cell 2; have f0 := HK4.out.frozen 0; have f1 := HK4.out.frozen 1; have f2 := HK4.out.frozen 2; clear hD hq2))
      all_goals
        go_wp2_with fail
        go_roundw
        case rel =>
          refine ⟨k + 1, s4, A4, n4, c4, x4, by go_num, by omega, ⟨?_⟩, ⟨?_⟩, ⟨?_⟩⟩
          · rw [HSU.out]
            exact (((HD4.out.set _ _ (Nat.lt_succ_self _) _).set _ _ (Nat.lt_succ_self _) _).set _ _ (Nat.lt_succ_self _) _)
          · have := ((HK4.out.set_ 0 (.int .i64 s4)).set_ 1 (.slice A4 n4 c4)).set_ 2 (.int .i64 x4)
            simpa using this
          · exact ((HB4.out.setCell (by simp [Wd]) _).setCell (by simp [Wd]) _).setCell (by simp [Wd]) _
        case measure => simp [intOf]; omega
    · have HE : Hd (sumv (xs.take k) = sumv xs) := ⟨by rw [List.take_of_length_le (by have := HN.out; omega)]⟩
      have hb := HB.out
      unfold Wd at hb
      obtain ⟨hc, hf, hz, hy⟩ := bcell hb
      have hs := hb.size
      simp at hs
      have h0' : w.heap.size < wr.heap.size := (by omega)
      clear hs
      go_wp2_with fail
      refine bodyPost_ret (v := .agg #[.int .i64 s, .slice A1 n1 c1, .int .i64 e]) (by simp (maxDischargeDepth := 7) [results, Tryz.results151, go_sem, *]) rfl ⟨s, A1, n1, c1, e, rfl, ?_, ?_⟩
      · rw [← HE.out]
        exact (((HD0.out.set _ _ (by omega) _).set _ _ (by omega) _).set _ _ (by omega) _).mono (by omega)
      · (repeat (first | exact Below.refl _ _ | assumption | refine Below.drew ?_ | refine bdn ?_ | refine ba _ ?_ | refine bs0 _ _ ?_ ?_ | refine bs1 _ _ _ ?_ ?_ | refine bs2 _ _ _ _ ?_ ?_ | refine bt3 (by assumption) ?_))
end Go.Proofs.YtflgjecpjaiecaaGreat
/- Contracts: expansions of the reference: their test, their sign. -/
set_option linter.unusedVariables false
set_option linter.unusedSimpArgs false
namespace Go.Proofs.YtflgjecpjaiecaaGreat
open Go.RowKit Num Flt
@[go_sem] theorem run_asAgg {P : Program} (a : Array Value) (w : World) : (asAgg (.agg a)).run P w = .ok a w := rfl
@[go_sem] theorem run_fieldD (s x : Int) (A : Option Addr) (n c : Nat) (w : World) : Sem.run Tryz.prog (Instr.field 66 (.agg #[.int .i64 s, .slice A n c, .int .i64 x]) 0) w = .ok (.agg #[.int .i64 s, .slice A n c]) w := by
  simp [Instr.field, go_sem]
@[go_sem] theorem run_fieldW (s : Int) (A : Option Addr) (n c : Nat) (w : World) : Sem.run Tryz.prog (Instr.field 64 (.agg #[.int .i64 s, .slice A n c]) 0) w = .ok (.int .i64 s) w := by
  simp [Instr.field, go_sem]
def AllFin (xs : List Nat) : Prop := ∀ x ∈ xs, fin x
instance (xs : List Nat) : Decidable (AllFin xs) := by unfold AllFin; infer_instance
/-- the code of a list of floats -/
def lstC (xs : List Nat) : Int := if xs.length < 1 ∨ 8 < xs.length then 2 else if AllFin xs then 0 else 1
set_option maxHeartbeats 4000000 in
theorem s_List (A : Option Addr) (n c : Nat) (xs : List Nat) (w : World) (hn : n = xs.length) (hl : n ≤ LIM) (hR : RF w A xs) (hx : ∀ x ∈ xs, W x) :
    Calls Tryz.prog 147 #[.slice A n c] w fun e w' => e = .returned (.int .i64 (lstC xs)) ∧ ∃ d, w' = w.drewN d := by
  have HR : Hd (RF w A xs) := ⟨hR⟩
  have HN : Hd (n = xs.length ∧ ∀ x ∈ xs, W x) := ⟨⟨hn, hx⟩⟩
  have hnI : (n : Int) ≤ 1099511627776 := by unfold LIM at hl; omega
  clear hl hR hx
  by_cases h1 : n < 1
  · have HV : Hd (lstC xs = 2) := ⟨if_pos (by omega)⟩
    clear hn
    go_enter Tryz.func147, Tryz.ntmps147
    go_wp2
    go_ret
    rw [HV.out]; exact ⟨rfl, 0, rfl⟩
  · by_cases h2 : 8 < n
    · have HV : Hd (lstC xs = 2) := ⟨if_pos (by omega)⟩
      have h2' : (8 : Int) < n := by omega
      clear hn h2
      go_enter Tryz.func147, Tryz.ntmps147
      go_wp2
      go_ret
      rw [HV.out]; exact ⟨rfl, 0, rfl⟩
    · have HV : Hd (lstC xs = if AllFin xs then 0 else 1) := ⟨if_neg (by omega)⟩
      have h2' : (n : Int) ≤ 8 := by omega
      clear hn h2
      go_enter Tryz.func147, Tryz.ntmps147
      go_wp2
      go_loopw [3] (fun i wr => ∃ (k d : Nat), i = .int .i64 k ∧ (k : Int) ≤ n ∧ Hd (AllFin (xs.take k)) ∧ wr = w.drewN d) (fun i _ => n - (intOf i).toNat)
      case atStart => exact ⟨0, 0, rfl, by omega, ⟨by intro x hx; simp at hx⟩, rfl⟩
      case round =>
        obtain ⟨k, d, rfl, hk, HA, rfl⟩ := hrel
        by_cases h3 : k < n
        · obtain ⟨ad, hA, hcx⟩ := HR.out.at_ (k := k) (by have := HN.out; omega)
          subst hA
          generalize hex : xs.getD k 0 = x at *
          have HEx : Hd (xs.getD k 0 = x) := ⟨hex⟩
          have HM : Hd (x ∈ xs) := ⟨by rw [← hex]; have h := HN.out.1; rw [List.getD_eq_getElem?_getD, List.getElem?_eq_getElem (by omega)]; exact List.getElem_mem _⟩
          clear hex
          by_cases h4 : fin x
          · have p4 : decide (fin x) = true := decide_eq_true h4
            have HA1 : Hd (AllFin (xs.take (k + 1))) := ⟨by
              have h := HN.out.1
              rw [List.take_succ_eq_append_getElem (by omega)]
              intro y hy
              rcases List.mem_append.1 hy with hy | hy
              · exact HA.out y hy
              · have h5 : y = xs[k]'(by omega) := by simpa using hy
                have h6 := HEx.out
                rw [List.getD_eq_getElem?_getD, List.getElem?_eq_getElem (show k < xs.length by omega)] at h6
                rw [h5]; simp at h6; rw [h6]; exact h4⟩
            clear h4
            go_wp2_with (go_at_call 125; (with_reducible refine (s_Finite _ _).mono ?_); rintro e w' ⟨rfl, ⟨nd, rfl⟩⟩)
            go_roundw
            case rel => exact ⟨k + 1, _, by go_num, by omega, HA1, rfl⟩
            case measure => simp [intOf]; omega
          · have p4 : decide (fin x) = false := decide_eq_false h4
            have HV1 : Hd (lstC xs = 1) := ⟨by rw [HV.out, if_neg (fun h => h4 (h x HM.out))]⟩
            clear h4
            go_wp2_with (go_at_call 125; (with_reducible refine (s_Finite _ _).mono ?_); rintro e w' ⟨rfl, ⟨nd, rfl⟩⟩)
            go_ret
            rw [HV1.out]; exact ⟨rfl, _, rfl⟩
        · have HV1 : Hd (lstC xs = 0) := ⟨by
            have h := HA.out
            rw [List.take_of_length_le (by have := HN.out; omega)] at h
            rw [HV.out, if_pos h]⟩
          go_wp2
          go_ret
          rw [HV1.out]; exact ⟨rfl, d, rfl⟩
theorem dy_sign {w : World} {s : Int} {A : Option Addr} {n c l : Nat} {e V : Int} (h : DyP w s A n c e V l) : s = V.sign := by
  obtain ⟨m, hw, hd⟩ := h
  obtain ⟨xs, hx⟩ := hw.opened
  have hp := pow2_pos (e + SC).toNat
  rw [hd.val]; unfold dv
  generalize (2 : Int) ^ (e + SC).toNat = p at *
  rw [Int.sign_mul, Int.sign_eq_one_of_pos hp, Int.mul_one]
  by_cases h0 : s = 0
  · rw [hx.num.zero.1 h0, h0]; rfl
  · obtain ⟨h1, h2, _⟩ := hx.num.one h0
    have h3 := hx.num.eq
    rcases h1 with rfl | rfl
    · rw [Int.sign_eq_one_of_pos (by omega)]
    · rw [Int.sign_eq_neg_one_of_neg (by omega)]
theorem lst_fin {xs : List Nat} (h : lstC xs = 0) : xs.length ≤ 8 ∧ AllFin xs := by
  unfold lstC at h
  split at h
  · simp at h
  · split at h
    · rename_i h1 h2; exact ⟨by omega, h2⟩
    · simp at h
set_option maxRecDepth 20000 in
set_option maxHeartbeats 4000000 in
theorem s_SignOfE (A : Option Addr) (n c : Nat) (xs : List Nat) (w : World) (hn : n = xs.length) (hl : n ≤ LIM) (hR : RF w A xs) (hx : ∀ x ∈ xs, W x) :
    Calls Tryz.prog 81 #[.slice A n c] w fun e w' => e = .returned (if lstC xs = 0 then .tuple #[.int .i64 (sumv xs).sign, .int .i64 0] else .tuple #[.int .i64 0, .int .i64 (lstC xs)]) ∧ Below w.heap.size w w' := by
  have HR : Hd (RF w A xs) := ⟨hR⟩
  have HN : Hd (n = xs.length ∧ n ≤ LIM ∧ ∀ x ∈ xs, W x) := ⟨⟨hn, hl, hx⟩⟩
  by_cases h0 : lstC xs = 0
  · have HF : Hd (n ≤ 1000 ∧ ∀ x ∈ xs, W x ∧ fin x) := ⟨⟨by have := (lst_fin h0).1; omega, fun x h => ⟨hx x h, (lst_fin h0).2 x h⟩⟩⟩
    rw [if_pos h0]
    clear hn hl hR hx
    go_enter Tryz.func81, Tryz.ntmps81
    go_wp2_with (first | (go_at_call 147; (with_reducible refine (s_List A n c xs _ HN.out.1 HN.out.2.1 HR.out HN.out.2.2).mono ?_); rintro e w' ⟨rfl, ⟨nd, rfl⟩⟩) | (go_at_call 151; (with_reducible refine (s_All A n c xs _ HN.out.1 HF.out.1 (HR.out.below (by (repeat (first | exact Below.refl _ _ | assumption | refine Below.drew ?_ | refine bdn ?_ | refine ba _ ?_ | refine bs0 _ _ ?_ ?_ | refine bs1 _ _ _ ?_ ?_ | refine bs2 _ _ _ _ ?_ ?_ | refine bt3 (by assumption) ?_)))) HF.out.2).mono ?_); rintro e' w2 ⟨s2, A2, n2, c2, x2, rfl, hD, hq⟩; have HS : Hd (s2 = (sumv xs).sign) := ⟨dy_sign hD.dp⟩; have HB : Hd (Below w.heap.size w w2) := ⟨Below.trans (bdn (Below.refl _ _)) hq⟩; clear hD hq))
    go_ret2
    exact ⟨by rw [← HS.out]; rfl, HB.out⟩
  · have h1 : (lstC xs == 0) = false := by simpa using h0
    rw [if_neg h0]
    clear hn hl hR hx
    go_enter Tryz.func81, Tryz.ntmps81
    go_wp2_with (go_at_call 147; (with_reducible refine (s_List A n c xs _ HN.out.1 HN.out.2.1 HR.out HN.out.2.2).mono ?_); rintro e w' ⟨rfl, ⟨nd, rfl⟩⟩)
    go_ret2
    refine ⟨rfl, ?_⟩
    (repeat (first | exact Below.refl _ _ | assumption | refine Below.drew ?_ | refine bdn ?_ | refine ba _ ?_ | refine bs0 _ _ ?_ ?_ | refine bs1 _ _ _ ?_ ?_ | refine bs2 _ _ _ _ ?_ ?_ | refine bt3 (by assumption) ?_))
end Go.Proofs.YtflgjecpjaiecaaGreat
