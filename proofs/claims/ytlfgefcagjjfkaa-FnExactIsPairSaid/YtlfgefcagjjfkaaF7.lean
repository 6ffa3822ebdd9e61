/- Contracts: equality of results as the statements ask it; copies of arguments. -/
import Derived.Test.YtlfgefcagjjfkaaF6
import Derived.Test.YtlfgefcagjjfkaaFd
set_option linter.unusedVariables false
set_option linter.unusedSimpArgs false
namespace Go.Proofs.Ytlfgefcagjjfkaa
open Go.RowKit Flt

set_option maxHeartbeats 1000000 in
theorem l_same (a : Nat) (w : World) (h : dnum a) :
    Calls Try.prog 54 #[.float .f64 a, .float .f64 a] w fun e w' => e = .returned (.bool true) ∧ w = w' := by
  have q1 : (FloatKind.f64.format.order a a != some .eq) = false := by rw [d_self h]; rfl
  have q2 : (FloatKind.f64.format.order a a == some .eq) = true := by rw [d_self h]; rfl
  obtain ⟨r, hr⟩ := d_inv h
  have k := fun w => run_float_arith (P := Try.prog) w .quo 57 .f64 4607182418800017408 a r hr
  clear h hr
  by_cases h1 : (FloatKind.f64.format.order a 0 == some .eq) = true
  · go_enter Try.func54, Try.ntmps54
    go_wp2_with fail
    go_ret
    exact ⟨rfl, rfl⟩
  · have h2 : (FloatKind.f64.format.order a 0 == some .eq) = false := by simpa using h1
    clear h1
    go_enter Try.func54, Try.ntmps54
    go_wp2_with fail
    go_ret
    exact ⟨rfl, rfl⟩

set_option maxHeartbeats 1000000 in
theorem l_eqInterval (a b : Nat) (w : World) (ha : ¬ nan a) (hb : ¬ nan b) :
    Calls Try.prog 28 #[.agg #[.float .f32 a, .float .f32 b], .agg #[.float .f32 a, .float .f32 b]] w fun e w' => e = .returned (.bool true) ∧ Below w.heap.size w w' := by
  have k1 := fun w => run_convert_float_float (P := Try.prog) w 22 57 .f32 .f64 a (wide a) (by kernel_rfl) Try.underlying57 (wide_some ha)
  have k2 := fun w => run_convert_float_float (P := Try.prog) w 22 57 .f32 .f64 b (wide b) (by kernel_rfl) Try.underlying57 (wide_some hb)
  have HA : Hd (dnum (wide a)) := ⟨wide_dnum ha⟩
  have HB : Hd (dnum (wide b)) := ⟨wide_dnum hb⟩
  clear ha hb
  go_enter Try.func28, Try.ntmps28
  go_wp2_with (first | (go_at_call 54; (with_reducible refine (l_same _ _ HA.out).mono ?_); rintro e w' ⟨rfl, rfl⟩) | (go_at_call 54; (with_reducible refine (l_same _ _ HB.out).mono ?_); rintro e w' ⟨rfl, rfl⟩))
  go_ret
  refine ⟨rfl, ?_⟩
  (repeat (first | exact Below.refl _ _ | refine Below.drew ?_ | refine below_drewN _ ?_ | refine ba _ ?_ | refine bs0 _ _ ?_ ?_ | refine bs1 _ _ _ ?_ ?_ | refine bs2 _ _ _ _ ?_ ?_ | refine bs3 _ _ _ _ _ ?_ ?_ | refine bt3 (by assumption) ?_))
theorem l_toInterval (a b : Nat) (w : World) :
    Calls Try.prog 18 #[.agg #[.float .f32 a, .float .f32 b]] w fun e w' => e = .returned (.agg #[.float .f32 a, .float .f32 b]) ∧ Below w.heap.size w w' := by
  go_enter Try.func18, Try.ntmps18
  go_wp2
  refine bodyPost_ret (v := .agg #[.float .f32 a, .float .f32 b]) (by simp (maxDischargeDepth := 7) [results, Try.results18, go_sem, *]) rfl ⟨rfl, ?_⟩
  (repeat (first | exact Below.refl _ _ | refine Below.drew ?_ | refine below_drewN _ ?_ | refine ba _ ?_ | refine bs0 _ _ ?_ ?_ | refine bs1 _ _ _ ?_ ?_ | refine bs2 _ _ _ _ ?_ ?_ | refine bs3 _ _ _ _ _ ?_ ?_ | refine bt3 (by assumption) ?_))
theorem l_toPair (a b : Nat) (w : World) :
    Calls Try.prog 15 #[.agg #[.float .f32 a, .float .f32 b]] w fun e w' => e = .returned (.agg #[.float .f32 a, .float .f32 b]) ∧ Below w.heap.size w w' := by
  go_enter Try.func15, Try.ntmps15
  go_wp2
  refine bodyPost_ret (v := .agg #[.float .f32 a, .float .f32 b]) (by simp (maxDischargeDepth := 7) [results, Try.results15, go_sem, *]) rfl ⟨rfl, ?_⟩
  (repeat (first | exact Below.refl _ _ | refine Below.drew ?_ | refine below_drewN _ ?_ | refine ba _ ?_ | refine bs0 _ _ ?_ ?_ | refine bs1 _ _ _ ?_ ?_ | refine bs2 _ _ _ _ ?_ ?_ | refine bs3 _ _ _ _ _ ?_ ?_ | refine bt3 (by assumption) ?_))
end Go.Proofs.Ytlfgefcagjjfkaa
