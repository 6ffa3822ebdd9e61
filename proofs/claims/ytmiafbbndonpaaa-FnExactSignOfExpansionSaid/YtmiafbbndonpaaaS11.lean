/- Contracts: opposites and differences of dyadic numbers, of the reference. -/
import Derived.Test.YtmiafbbndonpaaaS10
set_option linter.unusedVariables false
set_option linter.unusedSimpArgs false
namespace Go.Proofs.Ytmiafbbndonpaaa
open Go.RowKit Num
theorem keep3 {W w1 : World} (hb : Below W.heap.size W w1) {a0 a1 a2 : Addr} {v0 v1 v2 : Value} (h : W.cell? a0 = some v0 ∧ W.cell? a1 = some v1 ∧ W.cell? a2 = some v2) :
    w1.cell? a0 = some v0 ∧ w1.cell? a1 = some v1 ∧ w1.cell? a2 = some v2 := ⟨cb hb h.1, cb hb h.2.1, cb hb h.2.2⟩
theorem Bd.neg {a : Int} (h : Bd a) : Bd (-a) := by unfold Bd at *; generalize TOP = T at *; omega
theorem DyF.neg {m e V : Int} {l : Nat} (h : DyF m e V l) : DyF (-m) e (-V) l :=
  ⟨by rw [h.val]; unfold dv; rw [Int.neg_mul], h.lo, h.lsc, h.hi, fun k => h.zer (by omega), fun k => by have := h.odd (by omega); omega, h.bd.neg⟩

set_option maxHeartbeats 4000000 in
theorem s_DNeg (s e V : Int) (A : Option Addr) (n c l : Nat) (w : World) (hC : DyP w s A n c e V l) :
    Calls Try.prog 151 #[.agg #[.int .i64 s, .slice A n c, .int .i64 e]] w (RetD (-V) l w) := by
  obtain ⟨a, hA, fA⟩ := hC
  have HA : Hd (WhP w s A n c a) := ⟨hA⟩
  have HF : Hd (DyF (-a) e (-V) l ∧ Bd (-a)) := ⟨⟨fA.neg, (dv_bd (by rw [← fA.val]; exact fA.bd)).neg⟩⟩
  clear hA fA
  go_enter Try.func151, Try.ntmps151
  go_wp2_with fail
  go_region_held3 (fun w' => w'.cell? ⟨w.heap.size, 0, none⟩ = some (.int .i64 s) ∧ w'.cell? ⟨w.heap.size, 1, none⟩ = some (.slice A n c) ∧ w'.cell? ⟨w.heap.size, 2, none⟩ = some (.int .i64 e)) ((first | assumption | (exact keep3 hq (by first | assumption | (refine ⟨?_, ?_, ?_⟩ <;> go_simp))) | go_keep | (refine ⟨?_, ?_, ?_⟩ <;> go_simp) | (constructor <;> go_simp)))
    (first | (go_at_call 199; (with_reducible refine (s_NegW s A n c a _ (HA.out.below (by (repeat (first | exact Below.refl _ _ | assumption | refine Below.drew ?_ | refine below_drewN ?_ _ | refine ba _ ?_ | refine bs0 _ _ ?_ ?_ | refine bs1 _ _ _ ?_ ?_ | refine bs2 _ _ _ _ ?_ ?_ | refine bt3 (by assumption) ?_)))) HF.out.2).mono ?_); rintro e' w2 ⟨s2, A2, n2, c2, rfl, hW, hq⟩; have HW2 : Hd (WhO w2 (w.heap.size + 1 + 1) s2 A2 n2 c2 (-a)) := ⟨hW.mono (by simp)⟩; clear hW; obtain ⟨hc, hf, hz, hy⟩ := bcell hq; have hs := hq.size; (try simp at hs); have h0' : w.heap.size < w2.heap.size := (by omega); have h1' : w.heap.size + 1 < w2.heap.size := (by omega); clear hs))
  go_wp2_with fail
  refine bodyPost_ret (v := .agg #[.int .i64 s2, .slice A2 n2 c2, .int .i64 e]) (by simp (maxDischargeDepth := 7) [results, Try.results151, go_sem, *]) rfl ⟨s2, A2, n2, c2, e, rfl, ⟨_, (((HW2.out.set _ _ (by omega) _).set _ _ (by omega) _).set _ _ (by omega) _).mono (by omega), HF.out.1⟩, ?_⟩
  (repeat (first | exact Below.refl _ _ | assumption | refine Below.drew ?_ | refine below_drewN ?_ _ | refine ba _ ?_ | refine bs0 _ _ ?_ ?_ | refine bs1 _ _ _ ?_ ?_ | refine bs2 _ _ _ _ ?_ ?_ | refine bt3 (by assumption) ?_))

set_option maxHeartbeats 4000000 in
theorem s_DSub (s t e d V U : Int) (A A' : Option Addr) (n m c c' l : Nat) (w : World) (hC : DyP w s A n c e V l) (hD : DyP w t A' m c' d U l) (hb0 : Bd (V - U)) :
    Calls Try.prog 87 #[.agg #[.int .i64 s, .slice A n c, .int .i64 e], .agg #[.int .i64 t, .slice A' m c', .int .i64 d]] w (RetD (V - U) l w) := by
  have HC : Hd (DyP w s A n c e V l) := ⟨hC⟩
  have HD0 : Hd (DyP w t A' m c' d U l) := ⟨hD⟩
  have HB0 : Hd (Bd (V + -U)) := ⟨by rw [← Int.sub_eq_add_neg]; exact hb0⟩
  rw [Int.sub_eq_add_neg]
  clear hC hD hb0
  go_enter Try.func87, Try.ntmps87
  go_wp2_with fail
  have d1 : ¬ (w.heap.size + 1 + 1 = w.heap.size) := by omega
  have d2 : ¬ (w.heap.size = w.heap.size + 1 + 1) := by omega
  go_region_held3 (fun w' => w'.cell? ⟨w.heap.size, 0, none⟩ = some (.int .i64 s) ∧ w'.cell? ⟨w.heap.size, 1, none⟩ = some (.slice A n c) ∧ w'.cell? ⟨w.heap.size, 2, none⟩ = some (.int .i64 e) ∧ w'.cell? ⟨w.heap.size + 1, 0, none⟩ = some (.int .i64 t) ∧ w'.cell? ⟨w.heap.size + 1, 1, none⟩ = some (.slice A' m c') ∧ w'.cell? ⟨w.heap.size + 1, 2, none⟩ = some (.int .i64 d)) ((first | assumption | (exact keep6 hq (by first | assumption | (refine ⟨?_, ?_, ?_, ?_, ?_, ?_⟩ <;> go_simp))) | go_keep | (refine ⟨?_, ?_, ?_, ?_, ?_, ?_⟩ <;> go_simp) | (constructor <;> go_simp)))
    (first | (go_at_call 151; (with_reducible refine (s_DNeg t d U A' m c' l _ (HD0.out.below (by (repeat (first | exact Below.refl _ _ | assumption | refine Below.drew ?_ | refine below_drewN ?_ _ | refine ba _ ?_ | refine bs0 _ _ ?_ ?_ | refine bs1 _ _ _ ?_ ?_ | refine bs2 _ _ _ _ ?_ ?_ | refine bt3 (by assumption) ?_))))).mono ?_); rintro e' w3 ⟨s3, A3, n3, c3, x3, rfl, hW, hq⟩; have HW3 : Hd (DyO w3 (w.heap.size + 1 + 1 + 1) s3 A3 n3 c3 x3 (-U) l) := ⟨hW.mono (by simp)⟩; clear hW) | (go_at_call 130; (with_reducible refine (s_DAdd s s3 e x3 V (-U) A A3 n n3 c c3 l _ (HC.out.below (by (repeat (first | exact Below.refl _ _ | assumption | refine Below.drew ?_ | refine below_drewN ?_ _ | refine ba _ ?_ | refine bs0 _ _ ?_ ?_ | refine bs1 _ _ _ ?_ ?_ | refine bs2 _ _ _ _ ?_ ?_ | refine bt3 (by assumption) ?_)))) HW3.out.dp HB0.out).mono ?_); rintro e' w2 ⟨s2, A2, n2, c2, x2, rfl, hD, hq2⟩; have hs5 := hq.size; (try simp at hs5); replace hq := bt3 hq2 hq; have HD : Hd (DyO w2 (w.heap.size + 1 + 1 + 1) s2 A2 n2 c2 x2 _ _) := ⟨hD.mono (by omega)⟩; clear hD hq2 hs5; obtain ⟨hc, hf, hz, hy⟩ := bcell hq; have hs := hq.size; (try simp at hs); have h0' : w.heap.size < w2.heap.size := (by omega); have h1' : w.heap.size + 1 < w2.heap.size := (by omega); have h2' : w.heap.size + 1 + 1 < w2.heap.size := (by omega); clear hs))
  go_wp2_with fail
  refine bodyPost_ret (v := .agg #[.int .i64 s2, .slice A2 n2 c2, .int .i64 x2]) (by simp (maxDischargeDepth := 7) [results, Try.results87, go_sem, *]) rfl ⟨s2, A2, n2, c2, x2, rfl, (((HD.out.set _ _ (by omega) _).set _ _ (by omega) _).set _ _ (by omega) _).mono (by omega), ?_⟩
  (repeat (first | exact Below.refl _ _ | assumption | refine Below.drew ?_ | refine below_drewN ?_ _ | refine ba _ ?_ | refine bs0 _ _ ?_ ?_ | refine bs1 _ _ _ ?_ ?_ | refine bs2 _ _ _ _ ?_ ?_ | refine bt3 (by assumption) ?_))

end Go.Proofs.Ytmiafbbndonpaaa
