/- Gq: S32, merged. -/
import Derived.Test.YtmiafbbndonpaaaGreatGp
/- Contracts: differences of intervals, both sides. -/
set_option linter.unusedVariables false
set_option linter.unusedSimpArgs false
namespace Go.Proofs.YtmiafbbndonpaaaGreat
open Go.RowKit Num Flt
theorem nlo_inf {c d : Nat} (hd : W d) (h : IsIv c d) (hn : ¬ fin (zp (ng d))) : (zp (ng d)) = 4286578688 := by
  by_cases hf : fin d
  · exact absurd (fin_zp (fin_ng hd hf)) hn
  · rw [iv_hi_inf hd h hf]; decide
theorem nhi_inf {c d : Nat} (hc : W c) (h : IsIv c d) (hn : ¬ fin (zp (ng c))) : (zp (ng c)) = 2139095040 := by
  by_cases hf : fin c
  · exact absurd (fin_zp (fin_ng hc hf)) hn
  · rw [iv_lo_inf hc h hf]; decide
theorem nan_zng {x : Nat} (h : W x) (hn : ¬ nan x) : ¬ nan (zp (ng x)) := fun k => hn ((nan_ng h).1 ((nan_zp _).1 k))
set_option maxHeartbeats 4000000 in
theorem s_SubI (a b c d : Nat) (w : World) (ha : W a) (hb : W b) (hc : W c) (hd : W d) : Calls Tryz.prog 34 #[.agg #[.float .f32 a, .float .f32 b], .agg #[.float .f32 c, .float .f32 d]] w (RetV (.agg #[.float .f32 (zp (slF a (zp (ng d)))), .float .f32 (zp (shF b (zp (ng c))))]) w) := by
  have H1 := Hd.mk (fun w => s_Neg c d w hc hd)
  have H2 := Hd.mk (fun w => s_AddI a b (zp (ng d)) (zp (ng c)) w ha hb (W_zp (W_ng hd)) (W_zp (W_ng hc)))
  generalize zp (slF a (zp (ng d))) = lo at *
  generalize zp (shF b (zp (ng c))) = hi at *
  generalize (zp (ng d)) = x at *
  generalize (zp (ng c)) = y at *
  clear ha hb hc hd
  have d0 : (Wi3 w a b c d).cell? _ = some (.float .f32 a) := (Wi3.b0 w a b c d).cell 0; have d1 : (Wi3 w a b c d).cell? _ = some (.float .f32 b) := (Wi3.b0 w a b c d).cell 1; have d2 : (Wi3 w a b c d).cell? _ = some (.float .f32 c) := (Wi3.b1 w a b c d).cell 0; have d3 : (Wi3 w a b c d).cell? _ = some (.float .f32 d) := (Wi3.b1 w a b c d).cell 1; have n1 : ¬ (w.heap.size + 1 + 1 = w.heap.size) := (by omega); have n2 : ¬ (w.heap.size + 1 + 1 = w.heap.size + 1) := (by omega)
  go_enter Tryz.func34, Tryz.ntmps34
  go_wp2_with fail
  go_region_held3 (fun w' => w'.cell? ⟨w.heap.size, 0, none⟩ = some (.float .f32 a) ∧ w'.cell? ⟨w.heap.size, 1, none⟩ = some (.float .f32 b) ∧ w'.cell? ⟨w.heap.size + 1, 0, none⟩ = some (.float .f32 c) ∧ w'.cell? ⟨w.heap.size + 1, 1, none⟩ = some (.float .f32 d)) ((first | assumption | (refine keep4 (W := (Wi3 w a b c d)) ?_ ⟨d0, d1, d2, d3⟩; (repeat (first | exact Below.refl _ _ | assumption | refine Below.drew ?_ | refine bdn ?_ | refine ba _ ?_ | refine bs0 _ _ ?_ ?_ | refine bs1 _ _ _ ?_ ?_ | refine bs2 _ _ _ _ ?_ ?_ | refine bs3 _ _ _ _ _ ?_ ?_ | refine bt3 (by assumption) ?_)); done) | go_keep | (refine ⟨?_, ?_, ?_, ?_⟩ <;> go_simp) | (constructor <;> go_simp)))
    (first | (go_at_call 62; (with_reducible refine (H1.out _).mono ?_); rintro e3 w3 ⟨rfl, hb⟩; have hq3 : Below (Wi3 w a b c d).heap.size (Wi3 w a b c d) w3 := bt3 hb (by (repeat (first | exact Below.refl _ _ | assumption | refine Below.drew ?_ | refine bdn ?_ | refine ba _ ?_ | refine bs0 _ _ ?_ ?_ | refine bs1 _ _ _ ?_ ?_ | refine bs2 _ _ _ _ ?_ ?_ | refine bs3 _ _ _ _ _ ?_ ?_ | refine bt3 (by assumption) ?_))); clear hb) | (go_at_call 31; (with_reducible refine (H2.out _).mono ?_); rintro e9 w9 ⟨rfl, hb⟩; have hq9 : Below (Wi3 w a b c d).heap.size (Wi3 w a b c d) w9 := bt3 hb (by (repeat (first | exact Below.refl _ _ | assumption | refine Below.drew ?_ | refine bdn ?_ | refine ba _ ?_ | refine bs0 _ _ ?_ ?_ | refine bs1 _ _ _ ?_ ?_ | refine bs2 _ _ _ _ ?_ ?_ | refine bs3 _ _ _ _ _ ?_ ?_ | refine bt3 (by assumption) ?_))); clear hb; have HK := Hd.mk ((Wi3.b2 w a b c d).below hq9 (Wi3.b2 w a b c d).lt); have r0 : w9.cell? _ = some (.float .f32 0) := HK.out.cell 0; have r1 : w9.cell? _ = some (.float .f32 0) := HK.out.cell 1; have q0 := HK.out.frozen 0; have q1 := HK.out.frozen 1; have HKa := Hd.mk ((Wi3.b0 w a b c d).below hq9 (Wi3.b0 w a b c d).lt); have HKb := Hd.mk ((Wi3.b1 w a b c d).below hq9 (Wi3.b1 w a b c d).lt); have u0 : w9.cell? _ = some (.float .f32 a) := HKa.out.cell 0; have u1 : w9.cell? _ = some (.float .f32 b) := HKa.out.cell 1; have u2 : w9.cell? _ = some (.float .f32 c) := HKb.out.cell 0; have u3 : w9.cell? _ = some (.float .f32 d) := HKb.out.cell 1))
  all_goals
    go_wp2_with fail
    refine bodyPost_ret (v := .agg #[.float .f32 (lo), .float .f32 (hi)]) (by simp (maxDischargeDepth := 7) [results, Tryz.results34, go_sem, *]) rfl ⟨rfl, (by have hbb : Below w.heap.size w w9 := bt3 hq9 (Wi3.bel w a b c d); (repeat (first | exact Below.refl _ _ | assumption | refine Below.drew ?_ | refine bdn ?_ | refine ba _ ?_ | refine bs0 _ _ ?_ ?_ | refine bs1 _ _ _ ?_ ?_ | refine bs2 _ _ _ _ ?_ ?_ | refine bs3 _ _ _ _ _ ?_ ?_ | refine bt3 (by assumption) ?_)))⟩
set_option maxHeartbeats 4000000 in
theorem i_subI (a b c d : Nat) (w : World) (ha : W a) (hb : W b) (hc : W c) (hd : W d) (na : ¬ nan a) (nb : ¬ nan b) (nc : ¬ nan c) (nd : ¬ nan d) : Calls Tryz.prog 35 #[.agg #[.float .f32 a, .float .f32 b], .agg #[.float .f32 c, .float .f32 d]] w (RetV (.agg #[.float .f32 (seF a (zp (ng d)) 1), .float .f32 (seF b (zp (ng c)) 2)]) w) := by
  have H1 := Hd.mk (fun w => i_negI c d w hc hd)
  have H2 := Hd.mk (fun w => i_addI a b (zp (ng d)) (zp (ng c)) w ha hb (W_zp (W_ng hd)) (W_zp (W_ng hc)) na nb (nan_zng hd nd) (nan_zng hc nc))
  generalize seF a (zp (ng d)) 1 = lo at *
  generalize seF b (zp (ng c)) 2 = hi at *
  generalize (zp (ng d)) = x at *
  generalize (zp (ng c)) = y at *
  clear ha hb hc hd na nb nc nd
  have d0 : (Wi3 w a b c d).cell? _ = some (.float .f32 a) := (Wi3.b0 w a b c d).cell 0; have d1 : (Wi3 w a b c d).cell? _ = some (.float .f32 b) := (Wi3.b0 w a b c d).cell 1; have d2 : (Wi3 w a b c d).cell? _ = some (.float .f32 c) := (Wi3.b1 w a b c d).cell 0; have d3 : (Wi3 w a b c d).cell? _ = some (.float .f32 d) := (Wi3.b1 w a b c d).cell 1; have n1 : ¬ (w.heap.size + 1 + 1 = w.heap.size) := (by omega); have n2 : ¬ (w.heap.size + 1 + 1 = w.heap.size + 1) := (by omega)
  go_enter Tryz.func35, Tryz.ntmps35
  go_wp2_with fail
  go_region_held3 (fun w' => w'.cell? ⟨w.heap.size, 0, none⟩ = some (.float .f32 a) ∧ w'.cell? ⟨w.heap.size, 1, none⟩ = some (.float .f32 b) ∧ w'.cell? ⟨w.heap.size + 1, 0, none⟩ = some (.float .f32 c) ∧ w'.cell? ⟨w.heap.size + 1, 1, none⟩ = some (.float .f32 d)) ((first | assumption | (refine keep4 (W := (Wi3 w a b c d)) ?_ ⟨d0, d1, d2, d3⟩; (repeat (first | exact Below.refl _ _ | assumption | refine Below.drew ?_ | refine bdn ?_ | refine ba _ ?_ | refine bs0 _ _ ?_ ?_ | refine bs1 _ _ _ ?_ ?_ | refine bs2 _ _ _ _ ?_ ?_ | refine bs3 _ _ _ _ _ ?_ ?_ | refine bt3 (by assumption) ?_)); done) | go_keep | (refine ⟨?_, ?_, ?_, ?_⟩ <;> go_simp) | (constructor <;> go_simp)))
    (first | (go_at_call 63; (with_reducible refine (H1.out _).mono ?_); rintro e3 w3 ⟨rfl, hb⟩; have hq3 : Below (Wi3 w a b c d).heap.size (Wi3 w a b c d) w3 := bt3 hb (by (repeat (first | exact Below.refl _ _ | assumption | refine Below.drew ?_ | refine bdn ?_ | refine ba _ ?_ | refine bs0 _ _ ?_ ?_ | refine bs1 _ _ _ ?_ ?_ | refine bs2 _ _ _ _ ?_ ?_ | refine bs3 _ _ _ _ _ ?_ ?_ | refine bt3 (by assumption) ?_))); clear hb) | (go_at_call 33; (with_reducible refine (H2.out _).mono ?_); rintro e9 w9 ⟨rfl, hb⟩; have hq9 : Below (Wi3 w a b c d).heap.size (Wi3 w a b c d) w9 := bt3 hb (by (repeat (first | exact Below.refl _ _ | assumption | refine Below.drew ?_ | refine bdn ?_ | refine ba _ ?_ | refine bs0 _ _ ?_ ?_ | refine bs1 _ _ _ ?_ ?_ | refine bs2 _ _ _ _ ?_ ?_ | refine bs3 _ _ _ _ _ ?_ ?_ | refine bt3 (by assumption) ?_))); clear hb; have HK := Hd.mk ((Wi3.b2 w a b c d).below hq9 (Wi3.b2 w a b c d).lt); have r0 : w9.cell? _ = some (.float .f32 0) := HK.out.cell 0; have r1 : w9.cell? _ = some (.float .f32 0) := HK.out.cell 1; have q0 := HK.out.frozen 0; have q1 := HK.out.frozen 1; have HKa := Hd.mk ((Wi3.b0 w a b c d).below hq9 (Wi3.b0 w a b c d).lt); have HKb := Hd.mk ((Wi3.b1 w a b c d).below hq9 (Wi3.b1 w a b c d).lt); have u0 : w9.cell? _ = some (.float .f32 a) := HKa.out.cell 0; have u1 : w9.cell? _ = some (.float .f32 b) := HKa.out.cell 1; have u2 : w9.cell? _ = some (.float .f32 c) := HKb.out.cell 0; have u3 : w9.cell? _ = some (.float .f32 d) := HKb.out.cell 1))
  all_goals
    go_wp2_with fail
    refine bodyPost_ret (v := .agg #[.float .f32 (lo), .float .f32 (hi)]) (by simp (maxDischargeDepth := 7) [results, Tryz.results35, go_sem, *]) rfl ⟨rfl, (by have hbb : Below w.heap.size w w9 := bt3 hq9 (Wi3.bel w a b c d); (repeat (first | exact Below.refl _ _ | assumption | refine Below.drew ?_ | refine bdn ?_ | refine ba _ ?_ | refine bs0 _ _ ?_ ?_ | refine bs1 _ _ _ ?_ ?_ | refine bs2 _ _ _ _ ?_ ?_ | refine bs3 _ _ _ _ _ ?_ ?_ | refine bt3 (by assumption) ?_)))⟩
set_option maxHeartbeats 4000000 in
theorem s_SubIvG (a b c d : Nat) (w : World) (ha : W a) (hb : W b) (hc : W c) (hd : W d) (h : bothC a b c d = 0) : Calls Tryz.prog 16 #[.agg #[.float .f32 a, .float .f32 b], .agg #[.float .f32 c, .float .f32 d]] w (RetI2 0 (zp (slF a (zp (ng d)))) (zp (shF b (zp (ng c)))) w) := by
  have HI := Hd.mk (fun w => s_Both a b c d w ha hb hc hd)
  rw [h] at HI
  have HC := Hd.mk (fun w => s_SubI a b c d w ha hb hc hd)
  generalize zp (slF a (zp (ng d))) = lo at *
  generalize zp (shF b (zp (ng c))) = hi at *
  clear ha hb hc hd h
  have d0 : (Wi3 w a b c d).cell? _ = some (.float .f32 a) := (Wi3.b0 w a b c d).cell 0; have d1 : (Wi3 w a b c d).cell? _ = some (.float .f32 b) := (Wi3.b0 w a b c d).cell 1; have d2 : (Wi3 w a b c d).cell? _ = some (.float .f32 c) := (Wi3.b1 w a b c d).cell 0; have d3 : (Wi3 w a b c d).cell? _ = some (.float .f32 d) := (Wi3.b1 w a b c d).cell 1; have n1 : ¬ (w.heap.size + 1 + 1 = w.heap.size) := (by omega); have n2 : ¬ (w.heap.size + 1 + 1 = w.heap.size + 1) := (by omega)
  go_enter Tryz.func16, Tryz.ntmps16
  go_wp2_with (first | (go_at_call 30; (with_reducible refine (HI.out _).mono ?_); rintro e w9 ⟨rfl, hb⟩; have hq9 : Below (Wi3 w a b c d).heap.size (Wi3 w a b c d) w9 := bt3 hb (by (repeat (first | exact Below.refl _ _ | assumption | refine Below.drew ?_ | refine bdn ?_ | refine ba _ ?_ | refine bs0 _ _ ?_ ?_ | refine bs1 _ _ _ ?_ ?_ | refine bs2 _ _ _ _ ?_ ?_ | refine bs3 _ _ _ _ _ ?_ ?_ | refine bt3 (by assumption) ?_))); clear hb; have HK := Hd.mk ((Wi3.b2 w a b c d).below hq9 (Wi3.b2 w a b c d).lt); have r0 : w9.cell? _ = some (.float .f32 0) := HK.out.cell 0; have r1 : w9.cell? _ = some (.float .f32 0) := HK.out.cell 1; have q0 := HK.out.frozen 0; have q1 := HK.out.frozen 1; have HKa := Hd.mk ((Wi3.b0 w a b c d).below hq9 (Wi3.b0 w a b c d).lt); have HKb := Hd.mk ((Wi3.b1 w a b c d).below hq9 (Wi3.b1 w a b c d).lt); have u0 : w9.cell? _ = some (.float .f32 a) := HKa.out.cell 0; have u1 : w9.cell? _ = some (.float .f32 b) := HKa.out.cell 1; have u2 : w9.cell? _ = some (.float .f32 c) := HKb.out.cell 0; have u3 : w9.cell? _ = some (.float .f32 d) := HKb.out.cell 1) | (go_at_call 34; (with_reducible refine (HC.out _).mono ?_); rintro e w9 ⟨rfl, hb⟩; have hq9 : Below (Wi3 w a b c d).heap.size (Wi3 w a b c d) w9 := bt3 hb (by (repeat (first | exact Below.refl _ _ | assumption | refine Below.drew ?_ | refine bdn ?_ | refine ba _ ?_ | refine bs0 _ _ ?_ ?_ | refine bs1 _ _ _ ?_ ?_ | refine bs2 _ _ _ _ ?_ ?_ | refine bs3 _ _ _ _ _ ?_ ?_ | refine bt3 (by assumption) ?_))); clear hb; have HK := Hd.mk ((Wi3.b2 w a b c d).below hq9 (Wi3.b2 w a b c d).lt); have r0 : w9.cell? _ = some (.float .f32 0) := HK.out.cell 0; have r1 : w9.cell? _ = some (.float .f32 0) := HK.out.cell 1; have q0 := HK.out.frozen 0; have q1 := HK.out.frozen 1; have HKa := Hd.mk ((Wi3.b0 w a b c d).below hq9 (Wi3.b0 w a b c d).lt); have HKb := Hd.mk ((Wi3.b1 w a b c d).below hq9 (Wi3.b1 w a b c d).lt); have u0 : w9.cell? _ = some (.float .f32 a) := HKa.out.cell 0; have u1 : w9.cell? _ = some (.float .f32 b) := HKa.out.cell 1; have u2 : w9.cell? _ = some (.float .f32 c) := HKb.out.cell 0; have u3 : w9.cell? _ = some (.float .f32 d) := HKb.out.cell 1))
  refine bodyPost_ret (v := .tuple #[.agg #[.float .f32 (lo), .float .f32 (hi)], .int .i64 0]) (by simp (maxDischargeDepth := 7) [results, Tryz.results16, go_sem, *]) rfl ⟨rfl, (by have hbb : Below w.heap.size w w9 := bt3 hq9 (Wi3.bel w a b c d); (repeat (first | exact Below.refl _ _ | assumption | refine Below.drew ?_ | refine bdn ?_ | refine ba _ ?_ | refine bs0 _ _ ?_ ?_ | refine bs1 _ _ _ ?_ ?_ | refine bs2 _ _ _ _ ?_ ?_ | refine bs3 _ _ _ _ _ ?_ ?_ | refine bt3 (by assumption) ?_)))⟩
set_option maxHeartbeats 4000000 in
theorem s_SubIvN (a b c d : Nat) (w : World) (ha : W a) (hb : W b) (hc : W c) (hd : W d) (h : bothC a b c d = 1) : Calls Tryz.prog 16 #[.agg #[.float .f32 a, .float .f32 b], .agg #[.float .f32 c, .float .f32 d]] w (RetI2 1 0 0 w) := by
  have HI := Hd.mk (fun w => s_Both a b c d w ha hb hc hd)
  rw [h] at HI
  clear ha hb hc hd h
  have d0 : (Wi3 w a b c d).cell? _ = some (.float .f32 a) := (Wi3.b0 w a b c d).cell 0; have d1 : (Wi3 w a b c d).cell? _ = some (.float .f32 b) := (Wi3.b0 w a b c d).cell 1; have d2 : (Wi3 w a b c d).cell? _ = some (.float .f32 c) := (Wi3.b1 w a b c d).cell 0; have d3 : (Wi3 w a b c d).cell? _ = some (.float .f32 d) := (Wi3.b1 w a b c d).cell 1; have n1 : ¬ (w.heap.size + 1 + 1 = w.heap.size) := (by omega); have n2 : ¬ (w.heap.size + 1 + 1 = w.heap.size + 1) := (by omega)
  go_enter Tryz.func16, Tryz.ntmps16
  go_wp2_with (first | (go_at_call 30; (with_reducible refine (HI.out _).mono ?_); rintro e w9 ⟨rfl, hb⟩; have hq9 : Below (Wi3 w a b c d).heap.size (Wi3 w a b c d) w9 := bt3 hb (by (repeat (first | exact Below.refl _ _ | assumption | refine Below.drew ?_ | refine bdn ?_ | refine ba _ ?_ | refine bs0 _ _ ?_ ?_ | refine bs1 _ _ _ ?_ ?_ | refine bs2 _ _ _ _ ?_ ?_ | refine bs3 _ _ _ _ _ ?_ ?_ | refine bt3 (by assumption) ?_))); clear hb; have HK := Hd.mk ((Wi3.b2 w a b c d).below hq9 (Wi3.b2 w a b c d).lt); have r0 : w9.cell? _ = some (.float .f32 0) := HK.out.cell 0; have r1 : w9.cell? _ = some (.float .f32 0) := HK.out.cell 1; have q0 := HK.out.frozen 0; have q1 := HK.out.frozen 1; have HKa := Hd.mk ((Wi3.b0 w a b c d).below hq9 (Wi3.b0 w a b c d).lt); have HKb := Hd.mk ((Wi3.b1 w a b c d).below hq9 (Wi3.b1 w a b c d).lt); have u0 : w9.cell? _ = some (.float .f32 a) := HKa.out.cell 0; have u1 : w9.cell? _ = some (.float .f32 b) := HKa.out.cell 1; have u2 : w9.cell? _ = some (.float .f32 c) := HKb.out.cell 0; have u3 : w9.cell? _ = some (.float .f32 d) := HKb.out.cell 1))
  refine bodyPost_ret (v := .tuple #[.agg #[.float .f32 (0), .float .f32 (0)], .int .i64 1]) (by simp (maxDischargeDepth := 7) [results, Tryz.results16, go_sem, *]) rfl ⟨rfl, (by have hbb : Below w.heap.size w w9 := bt3 hq9 (Wi3.bel w a b c d); (repeat (first | exact Below.refl _ _ | assumption | refine Below.drew ?_ | refine bdn ?_ | refine ba _ ?_ | refine bs0 _ _ ?_ ?_ | refine bs1 _ _ _ ?_ ?_ | refine bs2 _ _ _ _ ?_ ?_ | refine bs3 _ _ _ _ _ ?_ ?_ | refine bt3 (by assumption) ?_)))⟩
set_option maxHeartbeats 4000000 in
theorem i_SubIvG (a b c d : Nat) (w : World) (ha : W a) (hb : W b) (hc : W c) (hd : W d) (h1 : IsIv a b) (h2 : IsIv c d) : Calls Tryz.prog 17 #[.agg #[.float .f32 a, .float .f32 b], .agg #[.float .f32 c, .float .f32 d]] w (RetI2 0 (seF a (zp (ng d)) 1) (seF b (zp (ng c)) 2) w) := by
  have HI := Hd.mk (fun (g k : Nat) (w : World) => i_areIntervals g k a b c d w ha hb hc hd)
  rw [show (decide (IsIv a b) && decide (IsIv c d)) = true by simp [h1, h2]] at HI
  have HC := Hd.mk (fun w => i_subI a b c d w ha hb hc hd h1.1 h1.2.1 h2.1 h2.2.1)
  generalize seF a (zp (ng d)) 1 = lo at *
  generalize seF b (zp (ng c)) 2 = hi at *
  clear ha hb hc hd h1 h2
  have d0 : (Wi3 w a b c d).cell? _ = some (.float .f32 a) := (Wi3.b0 w a b c d).cell 0; have d1 : (Wi3 w a b c d).cell? _ = some (.float .f32 b) := (Wi3.b0 w a b c d).cell 1; have d2 : (Wi3 w a b c d).cell? _ = some (.float .f32 c) := (Wi3.b1 w a b c d).cell 0; have d3 : (Wi3 w a b c d).cell? _ = some (.float .f32 d) := (Wi3.b1 w a b c d).cell 1; have n1 : ¬ (w.heap.size + 1 + 1 = w.heap.size) := (by omega); have n2 : ¬ (w.heap.size + 1 + 1 = w.heap.size + 1) := (by omega)
  go_enter Tryz.func17, Tryz.ntmps17
  go_wp2_with (first | (go_at_call 32; (with_reducible refine (HI.out _ _ _ (by go_simp) (by go_simp) (by go_simp) (by go_simp)).mono ?_); rintro e w9 ⟨rfl, hb⟩; have hq9 : Below (Wi3 w a b c d).heap.size (Wi3 w a b c d) w9 := bt3 hb (by (repeat (first | exact Below.refl _ _ | assumption | refine Below.drew ?_ | refine bdn ?_ | refine ba _ ?_ | refine bs0 _ _ ?_ ?_ | refine bs1 _ _ _ ?_ ?_ | refine bs2 _ _ _ _ ?_ ?_ | refine bs3 _ _ _ _ _ ?_ ?_ | refine bt3 (by assumption) ?_))); clear hb; have HK := Hd.mk ((Wi3.b2 w a b c d).below hq9 (Wi3.b2 w a b c d).lt); have r0 : w9.cell? _ = some (.float .f32 0) := HK.out.cell 0; have r1 : w9.cell? _ = some (.float .f32 0) := HK.out.cell 1; have q0 := HK.out.frozen 0; have q1 := HK.out.frozen 1; have HKa := Hd.mk ((Wi3.b0 w a b c d).below hq9 (Wi3.b0 w a b c d).lt); have HKb := Hd.mk ((Wi3.b1 w a b c d).below hq9 (Wi3.b1 w a b c d).lt); have u0 : w9.cell? _ = some (.float .f32 a) := HKa.out.cell 0; have u1 : w9.cell? _ = some (.float .f32 b) := HKa.out.cell 1; have u2 : w9.cell? _ = some (.float .f32 c) := HKb.out.cell 0; have u3 : w9.cell? _ = some (.float .f32 d) := HKb.out.cell 1) | (go_at_call 35; (with_reducible refine (HC.out _).mono ?_); rintro e w9 ⟨rfl, hb⟩; have hq9 : Below (Wi3 w a b c d).heap.size (Wi3 w a b c d) w9 := bt3 hb (by (repeat (first | exact Below.refl _ _ | assumption | refine Below.drew ?_ | refine bdn ?_ | refine ba _ ?_ | refine bs0 _ _ ?_ ?_ | refine bs1 _ _ _ ?_ ?_ | refine bs2 _ _ _ _ ?_ ?_ | refine bs3 _ _ _ _ _ ?_ ?_ | refine bt3 (by assumption) ?_))); clear hb; have HK := Hd.mk ((Wi3.b2 w a b c d).below hq9 (Wi3.b2 w a b c d).lt); have r0 : w9.cell? _ = some (.float .f32 0) := HK.out.cell 0; have r1 : w9.cell? _ = some (.float .f32 0) := HK.out.cell 1; have q0 := HK.out.frozen 0; have q1 := HK.out.frozen 1; have HKa := Hd.mk ((Wi3.b0 w a b c d).below hq9 (Wi3.b0 w a b c d).lt); have HKb := Hd.mk ((Wi3.b1 w a b c d).below hq9 (Wi3.b1 w a b c d).lt); have u0 : w9.cell? _ = some (.float .f32 a) := HKa.out.cell 0; have u1 : w9.cell? _ = some (.float .f32 b) := HKa.out.cell 1; have u2 : w9.cell? _ = some (.float .f32 c) := HKb.out.cell 0; have u3 : w9.cell? _ = some (.float .f32 d) := HKb.out.cell 1))
  refine bodyPost_ret (v := .tuple #[.agg #[.float .f32 (lo), .float .f32 (hi)], .int .i64 0]) (by simp (maxDischargeDepth := 7) [results, Tryz.results17, go_sem, *]) rfl ⟨rfl, (by have hbb : Below w.heap.size w w9 := bt3 hq9 (Wi3.bel w a b c d); (repeat (first | exact Below.refl _ _ | assumption | refine Below.drew ?_ | refine bdn ?_ | refine ba _ ?_ | refine bs0 _ _ ?_ ?_ | refine bs1 _ _ _ ?_ ?_ | refine bs2 _ _ _ _ ?_ ?_ | refine bs3 _ _ _ _ _ ?_ ?_ | refine bt3 (by assumption) ?_)))⟩
set_option maxHeartbeats 4000000 in
theorem i_SubIvN (a b c d : Nat) (w : World) (ha : W a) (hb : W b) (hc : W c) (hd : W d) (h : ¬ (IsIv a b ∧ IsIv c d)) : Calls Tryz.prog 17 #[.agg #[.float .f32 a, .float .f32 b], .agg #[.float .f32 c, .float .f32 d]] w (RetI2 1 0 0 w) := by
  have HI := Hd.mk (fun (g k : Nat) (w : World) => i_areIntervals g k a b c d w ha hb hc hd)
  rw [show (decide (IsIv a b) && decide (IsIv c d)) = false by simpa using h] at HI
  clear ha hb hc hd h
  have d0 : (Wi3 w a b c d).cell? _ = some (.float .f32 a) := (Wi3.b0 w a b c d).cell 0; have d1 : (Wi3 w a b c d).cell? _ = some (.float .f32 b) := (Wi3.b0 w a b c d).cell 1; have d2 : (Wi3 w a b c d).cell? _ = some (.float .f32 c) := (Wi3.b1 w a b c d).cell 0; have d3 : (Wi3 w a b c d).cell? _ = some (.float .f32 d) := (Wi3.b1 w a b c d).cell 1; have n1 : ¬ (w.heap.size + 1 + 1 = w.heap.size) := (by omega); have n2 : ¬ (w.heap.size + 1 + 1 = w.heap.size + 1) := (by omega)
  go_enter Tryz.func17, Tryz.ntmps17
  go_wp2_with (first | (go_at_call 32; (with_reducible refine (HI.out _ _ _ (by go_simp) (by go_simp) (by go_simp) (by go_simp)).mono ?_); rintro e w9 ⟨rfl, hb⟩; have hq9 : Below (Wi3 w a b c d).heap.size (Wi3 w a b c d) w9 := bt3 hb (by (repeat (first | exact Below.refl _ _ | assumption | refine Below.drew ?_ | refine bdn ?_ | refine ba _ ?_ | refine bs0 _ _ ?_ ?_ | refine bs1 _ _ _ ?_ ?_ | refine bs2 _ _ _ _ ?_ ?_ | refine bs3 _ _ _ _ _ ?_ ?_ | refine bt3 (by assumption) ?_))); clear hb; have HK := Hd.mk ((Wi3.b2 w a b c d).below hq9 (Wi3.b2 w a b c d).lt); have r0 : w9.cell? _ = some (.float .f32 0) := HK.out.cell 0; have r1 : w9.cell? _ = some (.float .f32 0) := HK.out.cell 1; have q0 := HK.out.frozen 0; have q1 := HK.out.frozen 1; have HKa := Hd.mk ((Wi3.b0 w a b c d).below hq9 (Wi3.b0 w a b c d).lt); have HKb := Hd.mk ((Wi3.b1 w a b c d).below hq9 (Wi3.b1 w a b c d).lt); have u0 : w9.cell? _ = some (.float .f32 a) := HKa.out.cell 0; have u1 : w9.cell? _ = some (.float .f32 b) := HKa.out.cell 1; have u2 : w9.cell? _ = some (.float .f32 c) := HKb.out.cell 0; have u3 : w9.cell? _ = some (.float .f32 d) := HKb.out.cell 1))
  refine bodyPost_ret (v := .tuple #[.agg #[.float .f32 (0), .float .f32 (0)], .int .i64 1]) (by simp (maxDischargeDepth := 7) [results, Tryz.results17, go_sem, *]) rfl ⟨rfl, (by have hbb : Below w.heap.size w w9 := bt3 hq9 (Wi3.bel w a b c d); (repeat (first | exact Below.refl _ _ | assumption | refine Below.drew ?_ | refine bdn ?_ | refine ba _ ?_ | refine bs0 _ _ ?_ ?_ | refine bs1 _ _ _ ?_ ?_ | refine bs2 _ _ _ _ ?_ ?_ | refine bs3 _ _ _ _ _ ?_ ?_ | refine bt3 (by assumption) ?_)))⟩
def siL (a b c d : Nat) : Nat := if bothC a b c d = 0 then seF a (zp (ng d)) 1 else 0
def siH (a b c d : Nat) : Nat := if bothC a b c d = 0 then seF b (zp (ng c)) 2 else 0
theorem nan_zngN {x : Nat} (hn : ¬ nan x) : ¬ nan (zp (ng x)) := by
  intro h; apply hn; unfold nan zp ng at *; split at h <;> (try split at h) <;> omega
theorem si_num (a b c d : Nat) : ¬ nan (siL a b c d) ∧ ¬ nan (siH a b c d) := by
  by_cases h : IsIv a b ∧ IsIv c d
  · unfold siL siH; rw [both_of h, if_pos rfl, if_pos rfl]
    exact ⟨se_num _ _ _ h.1.1 (nan_zngN h.2.2.1), se_num _ _ _ h.1.2.1 (nan_zngN h.2.1)⟩
  · unfold siL siH; rw [both_no h, if_neg (by decide), if_neg (by decide)]; decide
theorem s_SubIv (a b c d : Nat) (w : World) (ha : W a) (hb : W b) (hc : W c) (hd : W d) : Calls Tryz.prog 16 #[.agg #[.float .f32 a, .float .f32 b], .agg #[.float .f32 c, .float .f32 d]] w (RetI2 (bothC a b c d) (siL a b c d) (siH a b c d) w) := by
  unfold siL siH
  by_cases h : IsIv a b ∧ IsIv c d
  · have hb0 := both_of h
    have := s_SubIvG a b c d w ha hb hc hd hb0
    rw [hb0, if_pos rfl, if_pos rfl, se_lo (iv_lo_inf ha h.1) (nlo_inf hd h.2), se_hi (iv_hi_inf hb h.1) (nhi_inf hc h.2)]
    exact this
  · have hb0 := both_no h
    have := s_SubIvN a b c d w ha hb hc hd hb0
    rw [hb0, if_neg (by decide), if_neg (by decide)]
    exact this
theorem i_SubIv (a b c d : Nat) (w : World) (ha : W a) (hb : W b) (hc : W c) (hd : W d) : Calls Tryz.prog 17 #[.agg #[.float .f32 a, .float .f32 b], .agg #[.float .f32 c, .float .f32 d]] w (RetI2 (bothC a b c d) (siL a b c d) (siH a b c d) w) := by
  unfold siL siH
  by_cases h : IsIv a b ∧ IsIv c d
  · rw [both_of h, if_pos rfl, if_pos rfl]; exact i_SubIvG a b c d w ha hb hc hd h.1 h.2
  · rw [both_no h, if_neg (by decide), if_neg (by decide)]; exact i_SubIvN a b c d w ha hb hc hd h
end Go.Proofs.YtmiafbbndonpaaaGreat
