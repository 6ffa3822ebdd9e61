/- Contracts: products of two floats in a mode, whole answers, both sides. -/
import Derived.Test.YtflgjecpjaiecaaGreatE1q3
import Derived.Test.YtflgjecpjaiecaaGreatHfq3
set_option linter.unusedVariables false
set_option linter.unusedSimpArgs false
set_option exponentiation.threshold 40000
namespace Go.Proofs.YtflgjecpjaiecaaGreat
open Go.RowKit Num Flt
/-- the product of two floats in a mode, and its flags -/
def mlF (x y : Nat) (mode : Int) : Nat := if zr x ∨ zr y then szF (mB x != mB y) else rF mode (mulV (fv x) (fv y))
def mlL (x y : Nat) (mode : Int) : Int := if zr x ∨ zr y then 0 else rFl mode (mulV (fv x) (fv y))
theorem mul_nz {x y : Nat} (hx : fv x ≠ 0) (hy : fv y ≠ 0) : mulV (fv x) (fv y) ≠ 0 := by
  intro h
  unfold fv at *
  rw [dv_mul (by omega) (by omega) (by omega)] at h
  have h1 := dv_nz h
  rcases Int.mul_eq_zero.1 h1 with k | k
  · exact hx (by rw [k]; unfold dv; simp)
  · exact hy (by rw [k]; unfold dv; simp)
theorem mul_z {x y : Nat} (hx : W x) (hy : W y) (h : zr x ∨ zr y) : mulV (fv x) (fv y) = 0 := by
  unfold mulV
  rcases h with h | h
  · rw [(fv_zero hx).2 h]; simp
  · rw [(fv_zero hy).2 h]; simp
set_option maxHeartbeats 4000000 in
theorem i_mulF (x y : Nat) (mode : Int) (w : World) (hx : W x) (hy : W y) (fx : fin x) (fy : fin y) (hmd : 0 ≤ mode ∧ mode ≤ 4) : Calls Tryz.prog 90 #[.float .f32 x, .float .f32 y, .int .i64 mode] w (RetV (.tuple #[.float .f32 (mlF x y mode), .int .i64 (mlL x y mode)]) w) := by
  have ex := o_eq0 x hx
  have ey := o_eq0 y hy
  by_cases h : zr x ∨ zr y
  · have eF : mlF x y mode = szF (mB x != mB y) := if_pos h
    have eL : mlL x y mode = 0 := if_pos h
    rw [eF, eL]
    have HX := Hd.mk (And.intro hx hy)
    by_cases h0 : zr x
    · have h1 : decide (x = 0 ∨ x = 2147483648) = true := decide_eq_true h0
      rw [h1] at ex
      clear hx hy fx fy hmd h eF eL h0 h1 ey
      go_enter Tryz.func90, Tryz.ntmps90
      go_wp2_with (first | (go_at_call 115; (with_reducible refine (i_minus x _).mono ?_); rintro e w' ⟨rfl, rfl⟩) | (go_at_call 115; (with_reducible refine (i_minus y _).mono ?_); rintro e w' ⟨rfl, rfl⟩) | (go_at_call 156; (with_reducible refine (i_sZero _ _).mono ?_); rintro e w' ⟨rfl, rfl⟩))
      go_ret2
      exact ⟨rfl, by (repeat (first | exact Below.refl _ _ | assumption | refine Below.drew ?_ | refine bdn ?_ | refine ba _ ?_ | refine bs0 _ _ ?_ ?_ | refine bs1 _ _ _ ?_ ?_ | refine bs2 _ _ _ _ ?_ ?_ | refine bs3 _ _ _ _ _ ?_ ?_ | refine bt3 (by assumption) ?_))⟩
    · have h1 : decide (x = 0 ∨ x = 2147483648) = false := decide_eq_false h0
      rw [h1] at ex
      have h2 : decide (y = 0 ∨ y = 2147483648) = true := decide_eq_true (h.resolve_left h0)
      rw [h2] at ey
      clear hx hy fx fy hmd h eF eL h0 h1 h2
      go_enter Tryz.func90, Tryz.ntmps90
      go_wp2_with (first | (go_at_call 115; (with_reducible refine (i_minus x _).mono ?_); rintro e w' ⟨rfl, rfl⟩) | (go_at_call 115; (with_reducible refine (i_minus y _).mono ?_); rintro e w' ⟨rfl, rfl⟩) | (go_at_call 156; (with_reducible refine (i_sZero _ _).mono ?_); rintro e w' ⟨rfl, rfl⟩))
      go_ret2
      exact ⟨rfl, by (repeat (first | exact Below.refl _ _ | assumption | refine Below.drew ?_ | refine bdn ?_ | refine ba _ ?_ | refine bs0 _ _ ?_ ?_ | refine bs1 _ _ _ ?_ ?_ | refine bs2 _ _ _ _ ?_ ?_ | refine bs3 _ _ _ _ _ ?_ ?_ | refine bt3 (by assumption) ?_))⟩
  · have eF : mlF x y mode = rF mode (mulV (fv x) (fv y)) := if_neg h
    have eL : mlL x y mode = rFl mode (mulV (fv x) (fv y)) := if_neg h
    rw [eF, eL]
    have h1 : decide (x = 0 ∨ x = 2147483648) = false := decide_eq_false (fun k => h (Or.inl k))
    have h2 : decide (y = 0 ∨ y = 2147483648) = false := decide_eq_false (fun k => h (Or.inr k))
    rw [h1] at ex
    rw [h2] at ey
    have HX : Hd (W x ∧ fin x ∧ W y ∧ fin y ∧ Bd (mulV (fv x) (fv y)) ∧ (0 ≤ mode ∧ mode ≤ 4)) := ⟨⟨hx, fx, hy, fy, mul_bd fx fy, hmd⟩⟩
    clear hx hy fx fy hmd h eF eL h1 h2
    go_enter Tryz.func90, Tryz.ntmps90
    go_wp2_with (first | (go_at_call 111; (with_reducible refine (n_OfB x _ HX.out.1 HX.out.2.1).mono ?_); rintro e3 w3 ⟨g3, x3, rfl, he3, hN, hb⟩; have hq : Below w.heap.size w w3 := bt3 hb (by (repeat (first | exact Below.refl _ _ | assumption | refine Below.drew ?_ | refine bdn ?_ | refine ba _ ?_ | refine bs0 _ _ ?_ ?_ | refine bs1 _ _ _ ?_ ?_ | refine bs2 _ _ _ _ ?_ ?_ | refine bs3 _ _ _ _ _ ?_ ?_ | refine bt3 (by assumption) ?_))); have H3 := Hd.mk hN; clear hN hb) | (go_at_call 111; (with_reducible refine (n_OfB y _ HX.out.2.2.1 HX.out.2.2.2.1).mono ?_); rintro e4 w4 ⟨g4, x4, rfl, he4, hN, hb⟩; replace hq : Below w.heap.size w w4 := bt3 hb hq; replace H3 := Hd.mk (H3.out.below hb); have H4 := Hd.mk hN; clear hN hb) | (go_at_call 112; (with_reducible refine (n_Mul g3 g4 x3 x4 (fv x) (fv y) 149 149 _ H3.out H4.out sc298 (by omega) HX.out.2.2.2.2.1).mono ?_); rintro e5 w5 ⟨g5, x5, rfl, hN, hb⟩; replace hq : Below w.heap.size w w5 := bt3 hb hq; have H5 := Hd.mk hN; clear hN hb) | (go_at_call 117; (with_reducible refine (n_Round g5 x5 (mulV (fv x) (fv y)) mode (149 + 149) _ H5.out HX.out.2.2.2.2.2).mono ?_); rintro e9 w9 ⟨rfl, hb⟩; replace hq : Below w.heap.size w w9 := bt3 hb hq; clear hb))
    go_ret2
    exact ⟨rfl, hq⟩
set_option maxHeartbeats 4000000 in
theorem s_MulF (x y : Nat) (mode : Int) (w : World) (hx : W x) (hy : W y) (fx : fin x) (fy : fin y) (hmd : 0 ≤ mode ∧ mode ≤ 4) : Calls Tryz.prog 106 #[.float .f32 x, .float .f32 y, .int .i64 mode] w (RetV (.tuple #[.float .f32 (mlF x y mode), .int .i64 (mlL x y mode)]) w) := by
  have HX : Hd (W x ∧ fin x ∧ W y ∧ fin y ∧ Bd (mulV (fv x) (fv y)) ∧ (0 ≤ mode ∧ mode ≤ 4) ∧ ¬ nan x ∧ ¬ nan y) := ⟨⟨hx, fx, hy, fy, mul_bd fx fy, hmd, nan_fin fx, nan_fin fy⟩⟩
  by_cases h : zr x ∨ zr y
  · have eF : mlF x y mode = szF (mB x != mB y) := if_pos h
    have eL : mlL x y mode = 0 := if_pos h
    rw [eF, eL]
    have HZ := Hd.mk (mul_z hx hy h)
    clear hx hy fx fy hmd h eF eL
    go_enter Tryz.func106, Tryz.ntmps106
    go_wp2_with (first | (go_at_call 153; (with_reducible refine (s_DOf x _ HX.out.1 HX.out.2.1).mono ?_); rintro e3 w3 ⟨s3, A3, n3, c3, x3, rfl, hD, hb⟩; have hq : Below w.heap.size w w3 := bt3 hb (by (repeat (first | exact Below.refl _ _ | assumption | refine Below.drew ?_ | refine bdn ?_ | refine ba _ ?_ | refine bs0 _ _ ?_ ?_ | refine bs1 _ _ _ ?_ ?_ | refine bs2 _ _ _ _ ?_ ?_ | refine bs3 _ _ _ _ _ ?_ ?_ | refine bt3 (by assumption) ?_))); have H3 := Hd.mk hD.dp; clear hD hb) | (go_at_call 153; (with_reducible refine (s_DOf y _ HX.out.2.2.1 HX.out.2.2.2.1).mono ?_); rintro e4 w4 ⟨s4, A4, n4, c4, x4, rfl, hD, hb⟩; replace H3 := Hd.mk (H3.out.below (bt3 hb (by (repeat (first | exact Below.refl _ _ | assumption | refine Below.drew ?_ | refine bdn ?_ | refine ba _ ?_ | refine bs0 _ _ ?_ ?_ | refine bs1 _ _ _ ?_ ?_ | refine bs2 _ _ _ _ ?_ ?_ | refine bs3 _ _ _ _ _ ?_ ?_ | refine bt3 (by assumption) ?_))))); replace hq : Below w.heap.size w w4 := bt3 hb hq; have H4 := Hd.mk hD.dp; clear hD hb) | (go_at_call 178; (with_reducible refine (s_DMul s3 s4 x3 x4 (fv x) (fv y) A3 A4 n3 n4 c3 c4 149 149 _ (H3.out.below (by (repeat (first | exact Below.refl _ _ | assumption | refine Below.drew ?_ | refine bdn ?_ | refine ba _ ?_ | refine bs0 _ _ ?_ ?_ | refine bs1 _ _ _ ?_ ?_ | refine bs2 _ _ _ _ ?_ ?_ | refine bs3 _ _ _ _ _ ?_ ?_ | refine bt3 (by assumption) ?_)))) (H4.out.below (by (repeat (first | exact Below.refl _ _ | assumption | refine Below.drew ?_ | refine bdn ?_ | refine ba _ ?_ | refine bs0 _ _ ?_ ?_ | refine bs1 _ _ _ ?_ ?_ | refine bs2 _ _ _ _ ?_ ?_ | refine bs3 _ _ _ _ _ ?_ ?_ | refine bt3 (by assumption) ?_)))) sc298 HX.out.2.2.2.2.1).mono ?_); rintro e5 w5 ⟨s5, A5, n5, c5, x5, rfl, hD, hb⟩; replace hq : Below w.heap.size w w5 := bt3 hb hq; obtain rfl : s5 = 0 := (by rw [dy_sign hD.dp, HZ.out]; rfl); have H5 := Hd.mk hD.dp; clear hD hb) | (go_at_call 174; (with_reducible refine (s_Bit4 x _ HX.out.1 HX.out.2.2.2.2.2.2.1).mono ?_); rintro e w' ⟨rfl, rfl⟩) | (go_at_call 174; (with_reducible refine (s_Bit4 y _ HX.out.2.2.1 HX.out.2.2.2.2.2.2.2).mono ?_); rintro e w' ⟨rfl, rfl⟩) | (go_at_call 179; (with_reducible refine (s_Zero4 _ _).mono ?_); rintro e w' ⟨rfl, rfl⟩))
    go_ret2
    exact ⟨rfl, by (repeat (first | exact Below.refl _ _ | assumption | refine Below.drew ?_ | refine bdn ?_ | refine ba _ ?_ | refine bs0 _ _ ?_ ?_ | refine bs1 _ _ _ ?_ ?_ | refine bs2 _ _ _ _ ?_ ?_ | refine bs3 _ _ _ _ _ ?_ ?_ | refine bt3 (by assumption) ?_))⟩
  · have eF : mlF x y mode = rF mode (mulV (fv x) (fv y)) := if_neg h
    have eL : mlL x y mode = rFl mode (mulV (fv x) (fv y)) := if_neg h
    rw [eF, eL]
    have HZ := Hd.mk (mul_nz (fv_nz hx (fun k => h (Or.inl k))) (fv_nz hy (fun k => h (Or.inr k))))
    clear hx hy fx fy hmd h eF eL
    go_enter Tryz.func106, Tryz.ntmps106
    go_wp2_with (first | (go_at_call 153; (with_reducible refine (s_DOf x _ HX.out.1 HX.out.2.1).mono ?_); rintro e3 w3 ⟨s3, A3, n3, c3, x3, rfl, hD, hb⟩; have hq : Below w.heap.size w w3 := bt3 hb (by (repeat (first | exact Below.refl _ _ | assumption | refine Below.drew ?_ | refine bdn ?_ | refine ba _ ?_ | refine bs0 _ _ ?_ ?_ | refine bs1 _ _ _ ?_ ?_ | refine bs2 _ _ _ _ ?_ ?_ | refine bs3 _ _ _ _ _ ?_ ?_ | refine bt3 (by assumption) ?_))); have H3 := Hd.mk hD.dp; clear hD hb) | (go_at_call 153; (with_reducible refine (s_DOf y _ HX.out.2.2.1 HX.out.2.2.2.1).mono ?_); rintro e4 w4 ⟨s4, A4, n4, c4, x4, rfl, hD, hb⟩; replace H3 := Hd.mk (H3.out.below (bt3 hb (by (repeat (first | exact Below.refl _ _ | assumption | refine Below.drew ?_ | refine bdn ?_ | refine ba _ ?_ | refine bs0 _ _ ?_ ?_ | refine bs1 _ _ _ ?_ ?_ | refine bs2 _ _ _ _ ?_ ?_ | refine bs3 _ _ _ _ _ ?_ ?_ | refine bt3 (by assumption) ?_))))); replace hq : Below w.heap.size w w4 := bt3 hb hq; have H4 := Hd.mk hD.dp; clear hD hb) | (go_at_call 178; (with_reducible refine (s_DMul s3 s4 x3 x4 (fv x) (fv y) A3 A4 n3 n4 c3 c4 149 149 _ (H3.out.below (by (repeat (first | exact Below.refl _ _ | assumption | refine Below.drew ?_ | refine bdn ?_ | refine ba _ ?_ | refine bs0 _ _ ?_ ?_ | refine bs1 _ _ _ ?_ ?_ | refine bs2 _ _ _ _ ?_ ?_ | refine bs3 _ _ _ _ _ ?_ ?_ | refine bt3 (by assumption) ?_)))) (H4.out.below (by (repeat (first | exact Below.refl _ _ | assumption | refine Below.drew ?_ | refine bdn ?_ | refine ba _ ?_ | refine bs0 _ _ ?_ ?_ | refine bs1 _ _ _ ?_ ?_ | refine bs2 _ _ _ _ ?_ ?_ | refine bs3 _ _ _ _ _ ?_ ?_ | refine bt3 (by assumption) ?_)))) sc298 HX.out.2.2.2.2.1).mono ?_); rintro e5 w5 ⟨s5, A5, n5, c5, x5, rfl, hD, hb⟩; replace hq : Below w.heap.size w w5 := bt3 hb hq; have hs5 : (s5 == 0) = false := (by have h := dy_sign hD.dp; have := HZ.out; rw [h]; simpa [Int.sign_eq_zero_iff_zero] using this); have H5 := Hd.mk hD.dp; clear hD hb) | (go_at_call 155; (with_reducible refine (s_Round s5 A5 n5 c5 x5 (mulV (fv x) (fv y)) mode (149 + 149) _ (H5.out.below (by (repeat (first | exact Below.refl _ _ | assumption | refine Below.drew ?_ | refine bdn ?_ | refine ba _ ?_ | refine bs0 _ _ ?_ ?_ | refine bs1 _ _ _ ?_ ?_ | refine bs2 _ _ _ _ ?_ ?_ | refine bs3 _ _ _ _ _ ?_ ?_ | refine bt3 (by assumption) ?_)))) HX.out.2.2.2.2.2.1).mono ?_); rintro e6 w6 ⟨rfl, hb⟩; have HB6 : Hd (Below w.heap.size w w6) := ⟨bt3 hb (by (repeat (first | exact Below.refl _ _ | assumption | refine Below.drew ?_ | refine bdn ?_ | refine ba _ ?_ | refine bs0 _ _ ?_ ?_ | refine bs1 _ _ _ ?_ ?_ | refine bs2 _ _ _ _ ?_ ?_ | refine bs3 _ _ _ _ _ ?_ ?_ | refine bt3 (by assumption) ?_)))⟩; clear hb))
    go_ret2
    exact ⟨rfl, HB6.out⟩
end Go.Proofs.YtflgjecpjaiecaaGreat
