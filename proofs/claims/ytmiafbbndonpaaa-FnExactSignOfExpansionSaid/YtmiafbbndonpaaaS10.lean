/- Contracts: sums of dyadic numbers, of the reference. -/
import Derived.Test.YtmiafbbndonpaaaS9
set_option linter.unusedVariables false
set_option linter.unusedSimpArgs false
namespace Go.Proofs.Ytmiafbbndonpaaa
open Go.RowKit Num
theorem s_LeftP (s : Int) (A : Option Addr) (n c : Nat) (a : Int) (k : Nat) (w : World) (hX : WhP w s A n c a) (hk : k ≤ 10000000) (hb0 : Bd (a * 2 ^ k)) :
    Calls Try.prog 180 #[.agg #[.int .i64 s, .slice A n c], .int .i64 k] w (RetWh (a * 2 ^ k) w) := by
  obtain ⟨xs, h⟩ := hX.opened
  exact s_Left s A n c xs a k w h hk hb0
theorem s_LeftP0 (s : Int) (A : Option Addr) (n c : Nat) (a : Int) (w : World) (hX : WhP w s A n c a) (hb0 : Bd a) :
    Calls Try.prog 180 #[.agg #[.int .i64 s, .slice A n c], .int .i64 0] w (RetWh a w) := by
  have h := s_LeftP s A n c a 0 w hX (by omega) (by simpa using hb0)
  simpa using h
theorem keep6 {W w1 : World} (hb : Below W.heap.size W w1) {a0 a1 a2 a3 a4 a5 : Addr} {v0 v1 v2 v3 v4 v5 : Value} (h : W.cell? a0 = some v0 ∧ W.cell? a1 = some v1 ∧ W.cell? a2 = some v2 ∧ W.cell? a3 = some v3 ∧ W.cell? a4 = some v4 ∧ W.cell? a5 = some v5) :
    w1.cell? a0 = some v0 ∧ w1.cell? a1 = some v1 ∧ w1.cell? a2 = some v2 ∧ w1.cell? a3 = some v3 ∧ w1.cell? a4 = some v4 ∧ w1.cell? a5 = some v5 := ⟨cb hb h.1, cb hb h.2.1, cb hb h.2.2.1, cb hb h.2.2.2.1, cb hb h.2.2.2.2.1, cb hb h.2.2.2.2.2⟩
theorem WhP.zero {w : World} {s : Int} {A : Option Addr} {n c : Nat} {a : Int} (h : WhP w s A n c a) : s = 0 ↔ a = 0 := by
  obtain ⟨xs, h⟩ := h.opened; exact h.num.zero
theorem dv_zero (e : Int) : dv 0 e = 0 := by unfold dv; simp
theorem dv_add (a b e : Int) : dv (a + b) e = dv a e + dv b e := by unfold dv; rw [Int.add_mul]
theorem dv_shift (a e : Int) (k : Nat) (h : -(SC : Int) ≤ e) : dv (a * 2 ^ k) e = dv a (e + k) := by
  unfold dv
  rw [Int.mul_assoc, ← Int.pow_add, show (e + k + SC).toNat = k + (e + SC).toNat by omega]

set_option maxHeartbeats 4000000 in
theorem s_DAdd0 (s t e d V U : Int) (A A' : Option Addr) (n m c c' l : Nat) (w : World) (hC : DyP w s A n c e V l) (hD : DyP w t A' m c' d U l) (hb0 : Bd (V + U)) (h0 : s = 0) :
    Calls Try.prog 130 #[.agg #[.int .i64 s, .slice A n c, .int .i64 e], .agg #[.int .i64 t, .slice A' m c', .int .i64 d]] w (RetD (V + U) l w) := by
  obtain ⟨a, hA, fA⟩ := hC
  obtain ⟨b, hB, fB⟩ := hD
  have HA : Hd (WhP w s A n c a) := ⟨hA⟩
  have HB : Hd (WhP w t A' m c' b) := ⟨hB⟩
  have hsc : (SC : Int) = 20000 := rfl
  have he0 : -20000 ≤ e := by have := fA.lo; have := fA.lsc; omega
  have he1 : e ≤ 2400000 := fA.hi
  have hd0 : -20000 ≤ d := by have := fB.lo; have := fB.lsc; omega
  have hd1 : d ≤ 2400000 := fB.hi
  have e1 : V + U = dv b d := by rw [fA.val, hA.zero.1 h0, dv_zero, fB.val]; omega
  have HF : Hd (-(l : Int) ≤ d ∧ l ≤ SC ∧ d ≤ 2400000 ∧ Bd (dv b d)) := ⟨⟨fB.lo, fB.lsc, fB.hi, by rw [← e1]; exact hb0⟩⟩
  rw [e1]
  subst h0
  clear hA hB fA fB hb0 e1
  go_enter Try.func130, Try.ntmps130
  go_wp2_with (go_at_call 118; (with_reducible refine (s_DMake t A' m c' b d l _ (HB.out.below (by (repeat (first | exact Below.refl _ _ | assumption | refine Below.drew ?_ | refine below_drewN ?_ _ | refine ba _ ?_ | refine bs0 _ _ ?_ ?_ | refine bs1 _ _ _ ?_ ?_ | refine bs2 _ _ _ _ ?_ ?_ | refine bt3 (by assumption) ?_)))) HF.out.1 HF.out.2.1 HF.out.2.2.1 HF.out.2.2.2).mono ?_); rintro e' w2 ⟨s2, A2, n2, c2, x2, rfl, hD, hq⟩; have HD : Hd (DyO w2 (w.heap.size + 1 + 1 + 1) s2 A2 n2 c2 x2 _ _) := ⟨hD.mono (by simp)⟩; clear hD; obtain ⟨hc, hf, hz, hy⟩ := bcell hq; have hs := hq.size; (try simp at hs); have h0' : w.heap.size < w2.heap.size := (by omega); have h1' : w.heap.size + 1 < w2.heap.size := (by omega); have h2' : w.heap.size + 1 + 1 < w2.heap.size := (by omega); clear hs)
  refine bodyPost_ret (v := .agg #[.int .i64 s2, .slice A2 n2 c2, .int .i64 x2]) (by simp (maxDischargeDepth := 7) [results, Try.results130, go_sem, *]) rfl ⟨s2, A2, n2, c2, x2, rfl, (((HD.out.set _ _ (by omega) _).set _ _ (by omega) _).set _ _ (by omega) _).mono (by omega), ?_⟩
  (repeat (first | exact Below.refl _ _ | assumption | refine Below.drew ?_ | refine below_drewN ?_ _ | refine ba _ ?_ | refine bs0 _ _ ?_ ?_ | refine bs1 _ _ _ ?_ ?_ | refine bs2 _ _ _ _ ?_ ?_ | refine bt3 (by assumption) ?_))

set_option maxHeartbeats 4000000 in
theorem s_DAdd1 (s t e d V U : Int) (A A' : Option Addr) (n m c c' l : Nat) (w : World) (hC : DyP w s A n c e V l) (hD : DyP w t A' m c' d U l) (hb0 : Bd (V + U)) (h0 : s ≠ 0) (h1 : t = 0) :
    Calls Try.prog 130 #[.agg #[.int .i64 s, .slice A n c, .int .i64 e], .agg #[.int .i64 t, .slice A' m c', .int .i64 d]] w (RetD (V + U) l w) := by
  obtain ⟨a, hA, fA⟩ := hC
  obtain ⟨b, hB, fB⟩ := hD
  have HA : Hd (WhP w s A n c a) := ⟨hA⟩
  have HB : Hd (WhP w t A' m c' b) := ⟨hB⟩
  have hsc : (SC : Int) = 20000 := rfl
  have he0 : -20000 ≤ e := by have := fA.lo; have := fA.lsc; omega
  have he1 : e ≤ 2400000 := fA.hi
  have hd0 : -20000 ≤ d := by have := fB.lo; have := fB.lsc; omega
  have hd1 : d ≤ 2400000 := fB.hi
  have e1 : V + U = dv a e := by rw [fB.val, hB.zero.1 h1, dv_zero, fA.val]; omega
  have HF : Hd (-(l : Int) ≤ e ∧ l ≤ SC ∧ e ≤ 2400000 ∧ Bd (dv a e)) := ⟨⟨fA.lo, fA.lsc, fA.hi, by rw [← e1]; exact hb0⟩⟩
  rw [e1]
  have hd : (s == 0) = false := by simpa using h0
  subst h1
  clear hA hB fA fB hb0 e1 h0
  go_enter Try.func130, Try.ntmps130
  go_wp2_with (go_at_call 118; (with_reducible refine (s_DMake s A n c a e l _ (HA.out.below (by (repeat (first | exact Below.refl _ _ | assumption | refine Below.drew ?_ | refine below_drewN ?_ _ | refine ba _ ?_ | refine bs0 _ _ ?_ ?_ | refine bs1 _ _ _ ?_ ?_ | refine bs2 _ _ _ _ ?_ ?_ | refine bt3 (by assumption) ?_)))) HF.out.1 HF.out.2.1 HF.out.2.2.1 HF.out.2.2.2).mono ?_); rintro e' w2 ⟨s2, A2, n2, c2, x2, rfl, hD, hq⟩; have HD : Hd (DyO w2 (w.heap.size + 1 + 1 + 1) s2 A2 n2 c2 x2 _ _) := ⟨hD.mono (by simp)⟩; clear hD; obtain ⟨hc, hf, hz, hy⟩ := bcell hq; have hs := hq.size; (try simp at hs); have h0' : w.heap.size < w2.heap.size := (by omega); have h1' : w.heap.size + 1 < w2.heap.size := (by omega); have h2' : w.heap.size + 1 + 1 < w2.heap.size := (by omega); clear hs)
  refine bodyPost_ret (v := .agg #[.int .i64 s2, .slice A2 n2 c2, .int .i64 x2]) (by simp (maxDischargeDepth := 7) [results, Try.results130, go_sem, *]) rfl ⟨s2, A2, n2, c2, x2, rfl, (((HD.out.set _ _ (by omega) _).set _ _ (by omega) _).set _ _ (by omega) _).mono (by omega), ?_⟩
  (repeat (first | exact Below.refl _ _ | assumption | refine Below.drew ?_ | refine below_drewN ?_ _ | refine ba _ ?_ | refine bs0 _ _ ?_ ?_ | refine bs1 _ _ _ ?_ ?_ | refine bs2 _ _ _ _ ?_ ?_ | refine bt3 (by assumption) ?_))

set_option maxHeartbeats 4000000 in
theorem s_DAdd2 (s t e d V U : Int) (A A' : Option Addr) (n m c c' l : Nat) (w : World) (hC : DyP w s A n c e V l) (hD : DyP w t A' m c' d U l) (hb0 : Bd (V + U)) (h0 : s ≠ 0) (h1 : t ≠ 0) (k : Nat) (hk : d = e + k) :
    Calls Try.prog 130 #[.agg #[.int .i64 s, .slice A n c, .int .i64 e], .agg #[.int .i64 t, .slice A' m c', .int .i64 d]] w (RetD (V + U) l w) := by
  obtain ⟨a, hA, fA⟩ := hC
  obtain ⟨b, hB, fB⟩ := hD
  have HA : Hd (WhP w s A n c a) := ⟨hA⟩
  have HB : Hd (WhP w t A' m c' b) := ⟨hB⟩
  have hsc : (SC : Int) = 20000 := rfl
  have he0 : -20000 ≤ e := by have := fA.lo; have := fA.lsc; omega
  have he1 : e ≤ 2400000 := fA.hi
  have hd0 : -20000 ≤ d := by have := fB.lo; have := fB.lsc; omega
  have hd1 : d ≤ 2400000 := fB.hi
  have hkI : (k : Int) ≤ 10000000 := by omega
  have e1 : V + U = dv (a + b * 2 ^ k) e := by rw [dv_add, dv_shift _ _ _ (by omega), ← hk, ← fA.val, ← fB.val]
  have HF : Hd (-(l : Int) ≤ e ∧ l ≤ SC ∧ e ≤ 2400000 ∧ Bd (dv (a + b * 2 ^ k) e) ∧ Bd a ∧ Bd (b * 2 ^ k) ∧ k ≤ 10000000 ∧ Bd (a + b * 2 ^ k)) := ⟨⟨fA.lo, fA.lsc, fA.hi, by rw [← e1]; exact hb0, dv_bd (by rw [← fA.val]; exact fA.bd), dv_bd (e := e) (by rw [dv_shift _ _ _ (by omega), ← hk, ← fB.val]; exact fB.bd), by omega, dv_bd (e := e) (by rw [← e1]; exact hb0)⟩⟩
  rw [e1]
  have hd : (s == 0) = false := by simpa using h0
  have hd2 : (t == 0) = false := by simpa using h1
  subst hk
  have hmin : min e (e + (k : Int)) = e := by omega
  have hw0 : IntKind.i64.wrap 0 = 0 := by decide
  have hwk : IntKind.i64.wrap (k : Int) = k := by rw [IntKind.wrap_i64]; omega
  have hek : e + (k : Int) - e = k := by omega
  clear hA hB fA fB hb0 e1 h0 h1
  go_enter Try.func130, Try.ntmps130
  go_wp2_with fail
  have d1 : ¬ (w.heap.size + 1 + 1 = w.heap.size) := by omega
  have d2 : ¬ (w.heap.size = w.heap.size + 1 + 1) := by omega
  go_region_held3 (fun w' => w'.cell? ⟨w.heap.size, 0, none⟩ = some (.int .i64 s) ∧ w'.cell? ⟨w.heap.size, 1, none⟩ = some (.slice A n c) ∧ w'.cell? ⟨w.heap.size, 2, none⟩ = some (.int .i64 e) ∧ w'.cell? ⟨w.heap.size + 1, 0, none⟩ = some (.int .i64 t) ∧ w'.cell? ⟨w.heap.size + 1, 1, none⟩ = some (.slice A' m c') ∧ w'.cell? ⟨w.heap.size + 1, 2, none⟩ = some (.int .i64 (e + (k : Int)))) ((first | assumption | (exact keep6 hq (by first | assumption | (refine ⟨?_, ?_, ?_, ?_, ?_, ?_⟩ <;> go_simp))) | go_keep | (refine ⟨?_, ?_, ?_, ?_, ?_, ?_⟩ <;> go_simp) | (constructor <;> go_simp)))
    (first | (go_at_call 180; (with_reducible refine (s_LeftP t A' m c' b k _ (HB.out.below (by (repeat (first | exact Below.refl _ _ | assumption | refine Below.drew ?_ | refine below_drewN ?_ _ | refine ba _ ?_ | refine bs0 _ _ ?_ ?_ | refine bs1 _ _ _ ?_ ?_ | refine bs2 _ _ _ _ ?_ ?_ | refine bt3 (by assumption) ?_)))) HF.out.2.2.2.2.2.2.1 HF.out.2.2.2.2.2.1).mono ?_); rintro e' w4 ⟨s4, A4, n4, c4, rfl, hW, hq2⟩; replace hq := bt3 hq2 hq; have HW4 : Hd (WhO w4 w3.heap.size s4 A4 n4 c4 _) := ⟨hW⟩; replace HW3 : Hd (WhO w4 (w.heap.size + 1 + 1 + 1) s3 A3 n3 c3 _) := ⟨HW3.out.keep hq2⟩; clear hW hq2) | (go_at_call 180; (with_reducible refine (s_LeftP0 s A n c a _ (HA.out.below (by (repeat (first | exact Below.refl _ _ | assumption | refine Below.drew ?_ | refine below_drewN ?_ _ | refine ba _ ?_ | refine bs0 _ _ ?_ ?_ | refine bs1 _ _ _ ?_ ?_ | refine bs2 _ _ _ _ ?_ ?_ | refine bt3 (by assumption) ?_)))) HF.out.2.2.2.2.1).mono ?_); rintro e' w3 ⟨s3, A3, n3, c3, rfl, hW, hq⟩; have HW3 : Hd (WhO w3 (w.heap.size + 1 + 1 + 1) s3 A3 n3 c3 _) := ⟨hW.mono (by simp)⟩; clear hW) | (go_at_call 184; (with_reducible refine (s_AddW s3 s4 A3 A4 n3 n4 c3 c4 a (b * 2 ^ k) w4 HW3.out.wh HW4.out.wh HF.out.2.2.2.2.2.2.2).mono ?_); rintro e' w5 ⟨s5, A5, n5, c5, rfl, hW, hq2⟩; replace hq := bt3 hq2 hq; have HW5 : Hd (WhO w5 w4.heap.size s5 A5 n5 c5 _) := ⟨hW⟩; clear hW hq2) | (go_at_call 118; (with_reducible refine (s_DMake s5 A5 n5 c5 (a + b * 2 ^ k) e l w5 HW5.out.wh HF.out.1 HF.out.2.1 HF.out.2.2.1 HF.out.2.2.2.1).mono ?_); rintro e' w2 ⟨s2, A2, n2, c2, x2, rfl, hD, hq2⟩; have hs5 := hq.size; (try simp at hs5); replace hq := bt3 hq2 hq; have HD : Hd (DyO w2 (w.heap.size + 1 + 1 + 1) s2 A2 n2 c2 x2 _ _) := ⟨hD.mono (by omega)⟩; clear hD hq2 hs5; obtain ⟨hc, hf, hz, hy⟩ := bcell hq; have hs := hq.size; (try simp at hs); have h0' : w.heap.size < w2.heap.size := (by omega); have h1' : w.heap.size + 1 < w2.heap.size := (by omega); have h2' : w.heap.size + 1 + 1 < w2.heap.size := (by omega); clear hs))
  go_wp2_with fail
  refine bodyPost_ret (v := .agg #[.int .i64 s2, .slice A2 n2 c2, .int .i64 x2]) (by simp (maxDischargeDepth := 7) [results, Try.results130, go_sem, *]) rfl ⟨s2, A2, n2, c2, x2, rfl, (((HD.out.set _ _ (by omega) _).set _ _ (by omega) _).set _ _ (by omega) _).mono (by omega), ?_⟩
  (repeat (first | exact Below.refl _ _ | assumption | refine Below.drew ?_ | refine below_drewN ?_ _ | refine ba _ ?_ | refine bs0 _ _ ?_ ?_ | refine bs1 _ _ _ ?_ ?_ | refine bs2 _ _ _ _ ?_ ?_ | refine bt3 (by assumption) ?_))

set_option maxHeartbeats 4000000 in
theorem s_DAdd3 (s t e d V U : Int) (A A' : Option Addr) (n m c c' l : Nat) (w : World) (hC : DyP w s A n c e V l) (hD : DyP w t A' m c' d U l) (hb0 : Bd (V + U)) (h0 : s ≠ 0) (h1 : t ≠ 0) (k : Nat) (hk : e = d + k) (hkp : 0 < k) :
    Calls Try.prog 130 #[.agg #[.int .i64 s, .slice A n c, .int .i64 e], .agg #[.int .i64 t, .slice A' m c', .int .i64 d]] w (RetD (V + U) l w) := by
  obtain ⟨a, hA, fA⟩ := hC
  obtain ⟨b, hB, fB⟩ := hD
  have HA : Hd (WhP w s A n c a) := ⟨hA⟩
  have HB : Hd (WhP w t A' m c' b) := ⟨hB⟩
  have hsc : (SC : Int) = 20000 := rfl
  have he0 : -20000 ≤ e := by have := fA.lo; have := fA.lsc; omega
  have he1 : e ≤ 2400000 := fA.hi
  have hd0 : -20000 ≤ d := by have := fB.lo; have := fB.lsc; omega
  have hd1 : d ≤ 2400000 := fB.hi
  have hkp2 : (0 : Int) < k := by omega
  have hkI : (k : Int) ≤ 10000000 := by omega
  have e1 : V + U = dv (a * 2 ^ k + b) d := by rw [dv_add, dv_shift _ _ _ (by omega), ← hk, ← fA.val, ← fB.val]
  have HF : Hd (-(l : Int) ≤ d ∧ l ≤ SC ∧ d ≤ 2400000 ∧ Bd (dv (a * 2 ^ k + b) d) ∧ Bd b ∧ Bd (a * 2 ^ k) ∧ k ≤ 10000000 ∧ Bd (a * 2 ^ k + b)) := ⟨⟨fB.lo, fB.lsc, fB.hi, by rw [← e1]; exact hb0, dv_bd (by rw [← fB.val]; exact fB.bd), dv_bd (e := d) (by rw [dv_shift _ _ _ (by omega), ← hk, ← fA.val]; exact fA.bd), by omega, dv_bd (e := d) (by rw [← e1]; exact hb0)⟩⟩
  rw [e1]
  have hd : (s == 0) = false := by simpa using h0
  have hd2 : (t == 0) = false := by simpa using h1
  subst hk
  have hmin : min (d + (k : Int)) d = d := by omega
  have hw0 : IntKind.i64.wrap 0 = 0 := by decide
  have hwk : IntKind.i64.wrap (k : Int) = k := by rw [IntKind.wrap_i64]; omega
  have hek : d + (k : Int) - d = k := by omega
  clear hA hB fA fB hb0 e1 h0 h1 hkp
  go_enter Try.func130, Try.ntmps130
  go_wp2_with fail
  have d1 : ¬ (w.heap.size + 1 + 1 = w.heap.size) := by omega
  have d2 : ¬ (w.heap.size = w.heap.size + 1 + 1) := by omega
  go_region_held3 (fun w' => w'.cell? ⟨w.heap.size, 0, none⟩ = some (.int .i64 s) ∧ w'.cell? ⟨w.heap.size, 1, none⟩ = some (.slice A n c) ∧ w'.cell? ⟨w.heap.size, 2, none⟩ = some (.int .i64 (d + (k : Int))) ∧ w'.cell? ⟨w.heap.size + 1, 0, none⟩ = some (.int .i64 t) ∧ w'.cell? ⟨w.heap.size + 1, 1, none⟩ = some (.slice A' m c') ∧ w'.cell? ⟨w.heap.size + 1, 2, none⟩ = some (.int .i64 d)) ((first | assumption | (exact keep6 hq (by first | assumption | (refine ⟨?_, ?_, ?_, ?_, ?_, ?_⟩ <;> go_simp))) | go_keep | (refine ⟨?_, ?_, ?_, ?_, ?_, ?_⟩ <;> go_simp) | (constructor <;> go_simp)))
    (first | (go_at_call 180; (with_reducible refine (s_LeftP0 t A' m c' b _ (HB.out.below (by (repeat (first | exact Below.refl _ _ | assumption | refine Below.drew ?_ | refine below_drewN ?_ _ | refine ba _ ?_ | refine bs0 _ _ ?_ ?_ | refine bs1 _ _ _ ?_ ?_ | refine bs2 _ _ _ _ ?_ ?_ | refine bt3 (by assumption) ?_)))) HF.out.2.2.2.2.1).mono ?_); rintro e' w4 ⟨s4, A4, n4, c4, rfl, hW, hq2⟩; replace hq := bt3 hq2 hq; have HW4 : Hd (WhO w4 w3.heap.size s4 A4 n4 c4 _) := ⟨hW⟩; replace HW3 : Hd (WhO w4 (w.heap.size + 1 + 1 + 1) s3 A3 n3 c3 _) := ⟨HW3.out.keep hq2⟩; clear hW hq2) | (go_at_call 180; (with_reducible refine (s_LeftP s A n c a k _ (HA.out.below (by (repeat (first | exact Below.refl _ _ | assumption | refine Below.drew ?_ | refine below_drewN ?_ _ | refine ba _ ?_ | refine bs0 _ _ ?_ ?_ | refine bs1 _ _ _ ?_ ?_ | refine bs2 _ _ _ _ ?_ ?_ | refine bt3 (by assumption) ?_)))) HF.out.2.2.2.2.2.2.1 HF.out.2.2.2.2.2.1).mono ?_); rintro e' w3 ⟨s3, A3, n3, c3, rfl, hW, hq⟩; have HW3 : Hd (WhO w3 (w.heap.size + 1 + 1 + 1) s3 A3 n3 c3 _) := ⟨hW.mono (by simp)⟩; clear hW) | (go_at_call 184; (with_reducible refine (s_AddW s3 s4 A3 A4 n3 n4 c3 c4 (a * 2 ^ k) b w4 HW3.out.wh HW4.out.wh HF.out.2.2.2.2.2.2.2).mono ?_); rintro e' w5 ⟨s5, A5, n5, c5, rfl, hW, hq2⟩; replace hq := bt3 hq2 hq; have HW5 : Hd (WhO w5 w4.heap.size s5 A5 n5 c5 _) := ⟨hW⟩; clear hW hq2) | (go_at_call 118; (with_reducible refine (s_DMake s5 A5 n5 c5 (a * 2 ^ k + b) d l w5 HW5.out.wh HF.out.1 HF.out.2.1 HF.out.2.2.1 HF.out.2.2.2.1).mono ?_); rintro e' w2 ⟨s2, A2, n2, c2, x2, rfl, hD, hq2⟩; have hs5 := hq.size; (try simp at hs5); replace hq := bt3 hq2 hq; have HD : Hd (DyO w2 (w.heap.size + 1 + 1 + 1) s2 A2 n2 c2 x2 _ _) := ⟨hD.mono (by omega)⟩; clear hD hq2 hs5; obtain ⟨hc, hf, hz, hy⟩ := bcell hq; have hs := hq.size; (try simp at hs); have h0' : w.heap.size < w2.heap.size := (by omega); have h1' : w.heap.size + 1 < w2.heap.size := (by omega); have h2' : w.heap.size + 1 + 1 < w2.heap.size := (by omega); clear hs))
  go_wp2_with fail
  refine bodyPost_ret (v := .agg #[.int .i64 s2, .slice A2 n2 c2, .int .i64 x2]) (by simp (maxDischargeDepth := 7) [results, Try.results130, go_sem, *]) rfl ⟨s2, A2, n2, c2, x2, rfl, (((HD.out.set _ _ (by omega) _).set _ _ (by omega) _).set _ _ (by omega) _).mono (by omega), ?_⟩
  (repeat (first | exact Below.refl _ _ | assumption | refine Below.drew ?_ | refine below_drewN ?_ _ | refine ba _ ?_ | refine bs0 _ _ ?_ ?_ | refine bs1 _ _ _ ?_ ?_ | refine bs2 _ _ _ _ ?_ ?_ | refine bt3 (by assumption) ?_))

/-- the sum of two dyadic numbers -/
theorem s_DAdd (s t e d V U : Int) (A A' : Option Addr) (n m c c' l : Nat) (w : World) (hC : DyP w s A n c e V l) (hD : DyP w t A' m c' d U l) (hb0 : Bd (V + U)) :
    Calls Try.prog 130 #[.agg #[.int .i64 s, .slice A n c, .int .i64 e], .agg #[.int .i64 t, .slice A' m c', .int .i64 d]] w (RetD (V + U) l w) := by
  by_cases h0 : s = 0
  · exact s_DAdd0 s t e d V U A A' n m c c' l w hC hD hb0 h0
  · by_cases h1 : t = 0
    · exact s_DAdd1 s t e d V U A A' n m c c' l w hC hD hb0 h0 h1
    · rcases Int.lt_or_le d e with h | h
      · exact s_DAdd3 s t e d V U A A' n m c c' l w hC hD hb0 h0 h1 (e - d).toNat (by omega) (by omega)
      · exact s_DAdd2 s t e d V U A A' n m c c' l w hC hD hb0 h0 h1 (d - e).toNat (by omega)

end Go.Proofs.Ytmiafbbndonpaaa
