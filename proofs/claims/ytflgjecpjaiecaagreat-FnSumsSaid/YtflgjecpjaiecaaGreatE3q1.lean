/- Contracts: SpreadOf, both sides. -/
import Derived.Test.YtflgjecpjaiecaaGreatE2q1
import Derived.Test.YtflgjecpjaiecaaGreatGzq1
set_option linter.unusedVariables false
set_option linter.unusedSimpArgs false
namespace Go.Proofs.YtflgjecpjaiecaaGreat
open Go.RowKit Num Flt
set_option maxHeartbeats 4000000 in
theorem i_Spread0 (x y : Nat) (w : World) (hx : W x) (hy : W y) (h12 : fin x ∧ fin y) : Calls Tryz.prog 12 #[.float .f32 x, .float .f32 y, .int .i64 0] w (RetV (.tuple #[.float .f32 (sm4 x y 1), .float .f32 (sm4 x y 2), .int .i64 0]) w) := by
  have HA := Hd.mk (fun (g c : Nat) (w : World) c0 c1 => i_areFinite2 g c x y w hx hy c0 c1)
  have p1 : (decide (fin x) && decide (fin y)) = true := by rw [decide_eq_true h12.1, decide_eq_true h12.2]; rfl
  rw [p1] at HA
  have HC1 := Hd.mk (fun w => i_addF x y 1 w hx hy h12.1 h12.2 (by omega))
  have HC2 := Hd.mk (fun w => i_addF x y 2 w hx hy h12.1 h12.2 (by omega))
  clear hx hy h12 p1
  generalize sm4 x y 1 = p at *
  generalize sm4 x y 2 = q at *
  go_enter Tryz.func12, Tryz.ntmps12
  go_wp2_with (first | (go_at_call 88; (with_reducible refine (HA.out w.heap.size 2 _ (by go_simp) (by go_simp)).mono ?_); rintro e w' ⟨rfl, rfl⟩) | (go_at_call 89; (with_reducible refine (HC1.out _).mono ?_); rintro e6 w6 ⟨rfl, hb⟩; have hq6 := bt3 hb (by (repeat (first | exact Below.refl _ _ | assumption | refine Below.drew ?_ | refine bdn ?_ | refine ba _ ?_ | refine bs0 _ _ ?_ ?_ | refine bs1 _ _ _ ?_ ?_ | refine bs2 _ _ _ _ ?_ ?_ | refine bs3 _ _ _ _ _ ?_ ?_ | refine bt3 (by assumption) ?_)) : Below w.heap.size w _); clear hb) | (go_at_call 89; (with_reducible refine (HC2.out _).mono ?_); rintro e7 w7 ⟨rfl, hb⟩; have hq7 := bt3 hb hq6; clear hb))
  refine bodyPost_ret (v := .tuple #[.float .f32 p, .float .f32 q, .int .i64 0]) (by simp (maxDischargeDepth := 7) [results, Tryz.results12, go_sem]) rfl ⟨rfl, ?_⟩
  exact hq7
end Go.Proofs.YtflgjecpjaiecaaGreat
