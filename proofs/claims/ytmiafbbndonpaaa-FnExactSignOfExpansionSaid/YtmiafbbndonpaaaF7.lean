/- Contracts: equality of results as the statements ask it; copies of arguments. -/
import Derived.Test.YtmiafbbndonpaaaF6
import Derived.Test.YtmiafbbndonpaaaFd
set_option linter.unusedVariables false
set_option linter.unusedSimpArgs false
namespace Go.Proofs.Ytmiafbbndonpaaa
open Go.RowKit Flt

set_option maxHeartbeats 1000000 in
theorem l_same (a : Nat) (w : World) (h : dnum a) :
    Calls Try.prog 40 #[.float .f64 a, .float .f64 a] w fun e w' => e = .returned (.bool true) ∧ w = w' := by
  have q1 : (FloatKind.f64.format.order a a != some .eq) = false := by rw [d_self h]; rfl
  have q2 : (FloatKind.f64.format.order a a == some .eq) = true := by rw [d_self h]; rfl
  obtain ⟨r, hr⟩ := d_inv h
  have k := fun w => run_float_arith (P := Try.prog) w .quo 62 .f64 4607182418800017408 a r hr
  clear h hr
  by_cases h1 : (FloatKind.f64.format.order a 0 == some .eq) = true
  · go_enter Try.func40, Try.ntmps40
    go_wp2_with fail
    go_ret
    exact ⟨rfl, rfl⟩
  · have h2 : (FloatKind.f64.format.order a 0 == some .eq) = false := by simpa using h1
    clear h1
    go_enter Try.func40, Try.ntmps40
    go_wp2_with fail
    go_ret
    exact ⟨rfl, rfl⟩

set_option maxHeartbeats 1000000 in
theorem l_eqInterval (a b : Nat) (w : World) (ha : ¬ nan a) (hb : ¬ nan b) :
    Calls Try.prog 48 #[.agg #[.float .f32 a, .float .f32 b], .agg #[.float .f32 a, .float .f32 b]] w fun e w' => e = .returned (.bool true) ∧ Below w.heap.size w w' := by
  have k1 := fun w => run_convert_float_float (P := Try.prog) w 28 62 .f32 .f64 a (wide a) (by kernel_rfl) Try.underlying62 (wide_some ha)
  have k2 := fun w => run_convert_float_float (P := Try.prog) w 28 62 .f32 .f64 b (wide b) (by kernel_rfl) Try.underlying62 (wide_some hb)
  have HA : Hd (dnum (wide a)) := ⟨wide_dnum ha⟩
  have HB : Hd (dnum (wide b)) := ⟨wide_dnum hb⟩
  clear ha hb
  go_enter Try.func48, Try.ntmps48
  go_wp2_with (first | (go_at_call 40; (with_reducible refine (l_same _ _ HA.out).mono ?_); rintro e w' ⟨rfl, rfl⟩) | (go_at_call 40; (with_reducible refine (l_same _ _ HB.out).mono ?_); rintro e w' ⟨rfl, rfl⟩))
  go_ret
  refine ⟨rfl, ?_⟩
  (repeat (first | exact Below.refl _ _ | refine Below.drew ?_ | refine below_drewN _ ?_ | refine ba _ ?_ | refine bs0 _ _ ?_ ?_ | refine bs1 _ _ _ ?_ ?_ | refine bs2 _ _ _ _ ?_ ?_ | refine bs3 _ _ _ _ _ ?_ ?_ | refine bt3 (by assumption) ?_))
set_option maxHeartbeats 1000000 in
theorem l_eqPair (a b : Nat) (w : World) (ha : ¬ nan a) (hb : ¬ nan b) :
    Calls Try.prog 43 #[.agg #[.float .f32 a, .float .f32 b], .agg #[.float .f32 a, .float .f32 b]] w fun e w' => e = .returned (.bool true) ∧ Below w.heap.size w w' := by
  have k1 := fun w => run_convert_float_float (P := Try.prog) w 28 62 .f32 .f64 a (wide a) (by kernel_rfl) Try.underlying62 (wide_some ha)
  have k2 := fun w => run_convert_float_float (P := Try.prog) w 28 62 .f32 .f64 b (wide b) (by kernel_rfl) Try.underlying62 (wide_some hb)
  have HA : Hd (dnum (wide a)) := ⟨wide_dnum ha⟩
  have HB : Hd (dnum (wide b)) := ⟨wide_dnum hb⟩
  clear ha hb
  go_enter Try.func43, Try.ntmps43
  go_wp2_with (first | (go_at_call 40; (with_reducible refine (l_same _ _ HA.out).mono ?_); rintro e w' ⟨rfl, rfl⟩) | (go_at_call 40; (with_reducible refine (l_same _ _ HB.out).mono ?_); rintro e w' ⟨rfl, rfl⟩))
  go_ret
  refine ⟨rfl, ?_⟩
  (repeat (first | exact Below.refl _ _ | refine Below.drew ?_ | refine below_drewN _ ?_ | refine ba _ ?_ | refine bs0 _ _ ?_ ?_ | refine bs1 _ _ _ ?_ ?_ | refine bs2 _ _ _ _ ?_ ?_ | refine bs3 _ _ _ _ _ ?_ ?_ | refine bt3 (by assumption) ?_))
theorem l_toInterval (a b : Nat) (w : World) :
    Calls Try.prog 30 #[.agg #[.float .f32 a, .float .f32 b]] w fun e w' => e = .returned (.agg #[.float .f32 a, .float .f32 b]) ∧ Below w.heap.size w w' := by
  go_enter Try.func30, Try.ntmps30
  go_wp2
  refine bodyPost_ret (v := .agg #[.float .f32 a, .float .f32 b]) (by simp (maxDischargeDepth := 7) [results, Try.results30, go_sem, *]) rfl ⟨rfl, ?_⟩
  (repeat (first | exact Below.refl _ _ | refine Below.drew ?_ | refine below_drewN _ ?_ | refine ba _ ?_ | refine bs0 _ _ ?_ ?_ | refine bs1 _ _ _ ?_ ?_ | refine bs2 _ _ _ _ ?_ ?_ | refine bs3 _ _ _ _ _ ?_ ?_ | refine bt3 (by assumption) ?_))
theorem l_toPair (a b : Nat) (w : World) :
    Calls Try.prog 23 #[.agg #[.float .f32 a, .float .f32 b]] w fun e w' => e = .returned (.agg #[.float .f32 a, .float .f32 b]) ∧ Below w.heap.size w w' := by
  go_enter Try.func23, Try.ntmps23
  go_wp2
  refine bodyPost_ret (v := .agg #[.float .f32 a, .float .f32 b]) (by simp (maxDischargeDepth := 7) [results, Try.results23, go_sem, *]) rfl ⟨rfl, ?_⟩
  (repeat (first | exact Below.refl _ _ | refine Below.drew ?_ | refine below_drewN _ ?_ | refine ba _ ?_ | refine bs0 _ _ ?_ ?_ | refine bs1 _ _ _ ?_ ?_ | refine bs2 _ _ _ _ ?_ ?_ | refine bs3 _ _ _ _ _ ?_ ?_ | refine bt3 (by assumption) ?_))
end Go.Proofs.Ytmiafbbndonpaaa
