/- Contracts: sums and products of two floats in a mode, whole answers, both sides. -/
import Derived.Test.YtflgjecpjaiecaaGreatGpq3
import Derived.Test.YtflgjecpjaiecaaGreatGmq3
set_option linter.unusedVariables false
set_option linter.unusedSimpArgs false
namespace Go.Proofs.YtflgjecpjaiecaaGreat
open Go.RowKit Num Flt
/-- the sum of two floats in a mode -/
def sm4 (x y : Nat) (mode : Int) : Nat := sum4 (fv x) (fv y) (mB x) (mB y) mode
set_option maxHeartbeats 4000000 in
theorem i_addF (x y : Nat) (mode : Int) (w : World) (hx : W x) (hy : W y) (fx : fin x) (fy : fin y) (hmd : 0 ≤ mode ∧ mode ≤ 4) : Calls Tryz.prog 89 #[.float .f32 x, .float .f32 y, .int .i64 mode] w (RetV (.tuple #[.float .f32 (sm4 x y mode), .int .i64 (rFl mode (fv x + fv y))]) w) := by
  have HX : Hd (W x ∧ fin x ∧ W y ∧ fin y ∧ Bd (fv x + fv y) ∧ (0 ≤ mode ∧ mode ≤ 4)) := ⟨⟨hx, fx, hy, fy, fv_bd2 fx fy, hmd⟩⟩
  have ex := o_eq0 x hx
  have ey := o_eq0 y hy
  have zx := fv_zero hx
  have zy := fv_zero hy
  clear hx hy fx fy hmd
  by_cases hV : fv x + fv y = 0
  · have HSG : Hd ((fv x + fv y).sign = 0) := ⟨by rw [hV]; rfl⟩
    have HFL : Hd (rFl mode (fv x + fv y) = 0) := ⟨by rw [hV]; rfl⟩
    by_cases h0 : x = 0 ∨ x = 2147483648
    · have h1 : y = 0 ∨ y = 2147483648 := zy.1 (by have := zx.2 h0; omega)
      have HS : Hd (sm4 x y mode = zsF (mB x == mB y) (mB x) mode) := ⟨by
        unfold sm4 sum4 zsF
        rw [if_pos hV]
        by_cases hb : mB x = mB y
        · rw [if_pos ⟨zx.2 h0, hb⟩, if_pos (by rw [hb]; simp)]
        · rw [if_neg (fun k => hb k.2), if_neg (by simpa using hb)]⟩
      rw [HFL.out, HS.out]
      rw [decide_eq_true h0] at ex
      rw [decide_eq_true h1] at ey
      clear zx zy hV h0 h1 HS HFL
      go_enter Tryz.func89, Tryz.ntmps89
      go_wp2_with (first | (go_at_call 111; (with_reducible refine (n_Of x _ HX.out.1 HX.out.2.1).mono ?_); rintro e3 w3 ⟨g3, x3, rfl, hN, hb⟩; have hq : Below w.heap.size w w3 := bt3 hb (by (repeat (first | exact Below.refl _ _ | assumption | refine Below.drew ?_ | refine bdn ?_ | refine ba _ ?_ | refine bs0 _ _ ?_ ?_ | refine bs1 _ _ _ ?_ ?_ | refine bs2 _ _ _ _ ?_ ?_ | refine bs3 _ _ _ _ _ ?_ ?_ | refine bt3 (by assumption) ?_))); have H3 := Hd.mk hN; clear hN hb) | (go_at_call 111; (with_reducible refine (n_Of y _ HX.out.2.2.1 HX.out.2.2.2.1).mono ?_); rintro e4 w4 ⟨g4, x4, rfl, hN, hb⟩; replace hq : Below w.heap.size w w4 := bt3 hb hq; replace H3 := Hd.mk (H3.out.below hb); have H4 := Hd.mk hN; clear hN hb) | (go_at_call 113; (with_reducible refine (n_Add g3 g4 x3 x4 (fv x) (fv y) 149 _ H3.out H4.out HX.out.2.2.2.2.1).mono ?_); rintro e7 w7 ⟨g7, x7, rfl, hN, hb⟩; replace hq : Below w.heap.size w w7 := bt3 hb hq; have H7 := Hd.mk hN; clear hN hb) | (go_at_call 114; (with_reducible refine (n_SignR g7 x7 (fv x + fv y) _ 149 _ HSG.out (H7.out.below (by (repeat (first | exact Below.refl _ _ | assumption | refine Below.drew ?_ | refine bdn ?_ | refine ba _ ?_ | refine bs0 _ _ ?_ ?_ | refine bs1 _ _ _ ?_ ?_ | refine bs2 _ _ _ _ ?_ ?_ | refine bs3 _ _ _ _ _ ?_ ?_ | refine bt3 (by assumption) ?_))))).mono ?_); rintro e8 w8 ⟨rfl, hb⟩; obtain ⟨hc, hf, hz, hy⟩ := bcell hb; have hsz := hb.size; (try simp at hsz); have k0 : w7.heap.size < w8.heap.size := (by omega); replace hq : Below w.heap.size w w8 := bt3 hb (by (repeat (first | exact Below.refl _ _ | assumption | refine Below.drew ?_ | refine bdn ?_ | refine ba _ ?_ | refine bs0 _ _ ?_ ?_ | refine bs1 _ _ _ ?_ ?_ | refine bs2 _ _ _ _ ?_ ?_ | refine bs3 _ _ _ _ _ ?_ ?_ | refine bt3 (by assumption) ?_))); replace H7 := Hd.mk (H7.out.below (bt3 hb (by (repeat (first | exact Below.refl _ _ | assumption | refine Below.drew ?_ | refine bdn ?_ | refine ba _ ?_ | refine bs0 _ _ ?_ ?_ | refine bs1 _ _ _ ?_ ?_ | refine bs2 _ _ _ _ ?_ ?_ | refine bs3 _ _ _ _ _ ?_ ?_ | refine bt3 (by assumption) ?_))))); clear hb hsz) | (go_at_call 115; (with_reducible refine (i_minus x _).mono ?_); rintro e w' ⟨rfl, rfl⟩) | (go_at_call 115; (with_reducible refine (i_minus y _).mono ?_); rintro e w' ⟨rfl, rfl⟩) | (go_at_call 116; (with_reducible refine (i_zeroSum _ _ mode _).mono ?_); rintro e w' ⟨rfl, rfl⟩))
      go_ret2
      exact ⟨rfl, by (repeat (first | exact Below.refl _ _ | assumption | refine Below.drew ?_ | refine bdn ?_ | refine ba _ ?_ | refine bs0 _ _ ?_ ?_ | refine bs1 _ _ _ ?_ ?_ | refine bs2 _ _ _ _ ?_ ?_ | refine bs3 _ _ _ _ _ ?_ ?_ | refine bt3 (by assumption) ?_))⟩
    · have h1 : ¬ (y = 0 ∨ y = 2147483648) := fun k => h0 (zx.1 (by have := zy.2 k; omega))
      have HS : Hd (sm4 x y mode = zsF false (mB x) mode) := ⟨by
        unfold sm4 sum4 zsF
        rw [if_pos hV, if_neg (fun k => h0 (zx.1 k.1)), if_neg (by decide)]⟩
      rw [HFL.out, HS.out]
      rw [decide_eq_false h0] at ex
      rw [decide_eq_false h1] at ey
      clear zx zy hV h0 h1 HS HFL
      go_enter Tryz.func89, Tryz.ntmps89
      go_wp2_with (first | (go_at_call 111; (with_reducible refine (n_Of x _ HX.out.1 HX.out.2.1).mono ?_); rintro e3 w3 ⟨g3, x3, rfl, hN, hb⟩; have hq : Below w.heap.size w w3 := bt3 hb (by (repeat (first | exact Below.refl _ _ | assumption | refine Below.drew ?_ | refine bdn ?_ | refine ba _ ?_ | refine bs0 _ _ ?_ ?_ | refine bs1 _ _ _ ?_ ?_ | refine bs2 _ _ _ _ ?_ ?_ | refine bs3 _ _ _ _ _ ?_ ?_ | refine bt3 (by assumption) ?_))); have H3 := Hd.mk hN; clear hN hb) | (go_at_call 111; (with_reducible refine (n_Of y _ HX.out.2.2.1 HX.out.2.2.2.1).mono ?_); rintro e4 w4 ⟨g4, x4, rfl, hN, hb⟩; replace hq : Below w.heap.size w w4 := bt3 hb hq; replace H3 := Hd.mk (H3.out.below hb); have H4 := Hd.mk hN; clear hN hb) | (go_at_call 113; (with_reducible refine (n_Add g3 g4 x3 x4 (fv x) (fv y) 149 _ H3.out H4.out HX.out.2.2.2.2.1).mono ?_); rintro e7 w7 ⟨g7, x7, rfl, hN, hb⟩; replace hq : Below w.heap.size w w7 := bt3 hb hq; have H7 := Hd.mk hN; clear hN hb) | (go_at_call 114; (with_reducible refine (n_SignR g7 x7 (fv x + fv y) _ 149 _ HSG.out (H7.out.below (by (repeat (first | exact Below.refl _ _ | assumption | refine Below.drew ?_ | refine bdn ?_ | refine ba _ ?_ | refine bs0 _ _ ?_ ?_ | refine bs1 _ _ _ ?_ ?_ | refine bs2 _ _ _ _ ?_ ?_ | refine bs3 _ _ _ _ _ ?_ ?_ | refine bt3 (by assumption) ?_))))).mono ?_); rintro e8 w8 ⟨rfl, hb⟩; obtain ⟨hc, hf, hz, hy⟩ := bcell hb; have hsz := hb.size; (try simp at hsz); have k0 : w7.heap.size < w8.heap.size := (by omega); replace hq : Below w.heap.size w w8 := bt3 hb (by (repeat (first | exact Below.refl _ _ | assumption | refine Below.drew ?_ | refine bdn ?_ | refine ba _ ?_ | refine bs0 _ _ ?_ ?_ | refine bs1 _ _ _ ?_ ?_ | refine bs2 _ _ _ _ ?_ ?_ | refine bs3 _ _ _ _ _ ?_ ?_ | refine bt3 (by assumption) ?_))); replace H7 := Hd.mk (H7.out.below (bt3 hb (by (repeat (first | exact Below.refl _ _ | assumption | refine Below.drew ?_ | refine bdn ?_ | refine ba _ ?_ | refine bs0 _ _ ?_ ?_ | refine bs1 _ _ _ ?_ ?_ | refine bs2 _ _ _ _ ?_ ?_ | refine bs3 _ _ _ _ _ ?_ ?_ | refine bt3 (by assumption) ?_))))); clear hb hsz) | (go_at_call 115; (with_reducible refine (i_minus x _).mono ?_); rintro e w' ⟨rfl, rfl⟩) | (go_at_call 115; (with_reducible refine (i_minus y _).mono ?_); rintro e w' ⟨rfl, rfl⟩) | (go_at_call 116; (with_reducible refine (i_zeroSum _ _ mode _).mono ?_); rintro e w' ⟨rfl, rfl⟩))
      go_ret2
      exact ⟨rfl, by (repeat (first | exact Below.refl _ _ | assumption | refine Below.drew ?_ | refine bdn ?_ | refine ba _ ?_ | refine bs0 _ _ ?_ ?_ | refine bs1 _ _ _ ?_ ?_ | refine bs2 _ _ _ _ ?_ ?_ | refine bs3 _ _ _ _ _ ?_ ?_ | refine bt3 (by assumption) ?_))⟩
  · obtain ⟨sg, hsg⟩ : ∃ sg, (fv x + fv y).sign = sg := ⟨_, rfl⟩
    have hs : (sg == 0) = false := by rw [← hsg]; simpa [Int.sign_eq_zero_iff_zero] using hV
    have HS : Hd (sm4 x y mode = rF mode (fv x + fv y)) := ⟨by unfold sm4 sum4; rw [if_neg hV]⟩
    rw [HS.out]
    have HSG := Hd.mk hsg
    clear ex ey zx zy hV hsg HS
    go_enter Tryz.func89, Tryz.ntmps89
    go_wp2_with (first | (go_at_call 111; (with_reducible refine (n_Of x _ HX.out.1 HX.out.2.1).mono ?_); rintro e3 w3 ⟨g3, x3, rfl, hN, hb⟩; have hq : Below w.heap.size w w3 := bt3 hb (by (repeat (first | exact Below.refl _ _ | assumption | refine Below.drew ?_ | refine bdn ?_ | refine ba _ ?_ | refine bs0 _ _ ?_ ?_ | refine bs1 _ _ _ ?_ ?_ | refine bs2 _ _ _ _ ?_ ?_ | refine bs3 _ _ _ _ _ ?_ ?_ | refine bt3 (by assumption) ?_))); have H3 := Hd.mk hN; clear hN hb) | (go_at_call 111; (with_reducible refine (n_Of y _ HX.out.2.2.1 HX.out.2.2.2.1).mono ?_); rintro e4 w4 ⟨g4, x4, rfl, hN, hb⟩; replace hq : Below w.heap.size w w4 := bt3 hb hq; replace H3 := Hd.mk (H3.out.below hb); have H4 := Hd.mk hN; clear hN hb) | (go_at_call 113; (with_reducible refine (n_Add g3 g4 x3 x4 (fv x) (fv y) 149 _ H3.out H4.out HX.out.2.2.2.2.1).mono ?_); rintro e7 w7 ⟨g7, x7, rfl, hN, hb⟩; replace hq : Below w.heap.size w w7 := bt3 hb hq; have H7 := Hd.mk hN; clear hN hb) | (go_at_call 114; (with_reducible refine (n_SignR g7 x7 (fv x + fv y) _ 149 _ HSG.out (H7.out.below (by (repeat (first | exact Below.refl _ _ | assumption | refine Below.drew ?_ | refine bdn ?_ | refine ba _ ?_ | refine bs0 _ _ ?_ ?_ | refine bs1 _ _ _ ?_ ?_ | refine bs2 _ _ _ _ ?_ ?_ | refine bs3 _ _ _ _ _ ?_ ?_ | refine bt3 (by assumption) ?_))))).mono ?_); rintro e8 w8 ⟨rfl, hb⟩; obtain ⟨hc, hf, hz, hy⟩ := bcell hb; have hsz := hb.size; (try simp at hsz); have k0 : w7.heap.size < w8.heap.size := (by omega); replace hq : Below w.heap.size w w8 := bt3 hb (by (repeat (first | exact Below.refl _ _ | assumption | refine Below.drew ?_ | refine bdn ?_ | refine ba _ ?_ | refine bs0 _ _ ?_ ?_ | refine bs1 _ _ _ ?_ ?_ | refine bs2 _ _ _ _ ?_ ?_ | refine bs3 _ _ _ _ _ ?_ ?_ | refine bt3 (by assumption) ?_))); replace H7 := Hd.mk (H7.out.below (bt3 hb (by (repeat (first | exact Below.refl _ _ | assumption | refine Below.drew ?_ | refine bdn ?_ | refine ba _ ?_ | refine bs0 _ _ ?_ ?_ | refine bs1 _ _ _ ?_ ?_ | refine bs2 _ _ _ _ ?_ ?_ | refine bs3 _ _ _ _ _ ?_ ?_ | refine bt3 (by assumption) ?_))))); clear hb hsz) | (go_at_call 117; (with_reducible refine (n_Round g7 x7 (fv x + fv y) mode 149 _ (H7.out.below (by (repeat (first | exact Below.refl _ _ | assumption | refine Below.drew ?_ | refine bdn ?_ | refine ba _ ?_ | refine bs0 _ _ ?_ ?_ | refine bs1 _ _ _ ?_ ?_ | refine bs2 _ _ _ _ ?_ ?_ | refine bs3 _ _ _ _ _ ?_ ?_ | refine bt3 (by assumption) ?_)))) HX.out.2.2.2.2.2).mono ?_); rintro e9 w9 ⟨rfl, hb⟩; have HB9 : Hd (Below w.heap.size w w9) := ⟨bt3 hb (by (repeat (first | exact Below.refl _ _ | assumption | refine Below.drew ?_ | refine bdn ?_ | refine ba _ ?_ | refine bs0 _ _ ?_ ?_ | refine bs1 _ _ _ ?_ ?_ | refine bs2 _ _ _ _ ?_ ?_ | refine bs3 _ _ _ _ _ ?_ ?_ | refine bt3 (by assumption) ?_)))⟩; clear hb))
    go_ret2
    exact ⟨rfl, HB9.out⟩
set_option maxHeartbeats 4000000 in
theorem s_AddF (x y : Nat) (mode : Int) (w : World) (hx : W x) (hy : W y) (fx : fin x) (fy : fin y) (hmd : 0 ≤ mode ∧ mode ≤ 4) : Calls Tryz.prog 103 #[.float .f32 x, .float .f32 y, .int .i64 mode] w (RetV (.tuple #[.float .f32 (sm4 x y mode), .int .i64 (rFl mode (fv x + fv y))]) w) := by
  have HX : Hd (W x ∧ fin x ∧ W y ∧ fin y ∧ Bd (fv x + fv y) ∧ (0 ≤ mode ∧ mode ≤ 4) ∧ ¬ nan x ∧ ¬ nan y) := ⟨⟨hx, fx, hy, fy, fv_bd2 fx fy, hmd, nan_fin fx, nan_fin fy⟩⟩
  clear hx hy fx fy hmd
  unfold sm4
  go_enter Tryz.func103, Tryz.ntmps103
  go_wp2_with (first | (go_at_call 153; (with_reducible refine (s_DOf x _ HX.out.1 HX.out.2.1).mono ?_); rintro e3 w3 ⟨s3, A3, n3, c3, x3, rfl, hD, hb⟩; have hq : Below w.heap.size w w3 := bt3 hb (by (repeat (first | exact Below.refl _ _ | assumption | refine Below.drew ?_ | refine bdn ?_ | refine ba _ ?_ | refine bs0 _ _ ?_ ?_ | refine bs1 _ _ _ ?_ ?_ | refine bs2 _ _ _ _ ?_ ?_ | refine bs3 _ _ _ _ _ ?_ ?_ | refine bt3 (by assumption) ?_))); have H3 := Hd.mk hD.dp; clear hD hb) | (go_at_call 153; (with_reducible refine (s_DOf y _ HX.out.2.2.1 HX.out.2.2.2.1).mono ?_); rintro e4 w4 ⟨s4, A4, n4, c4, x4, rfl, hD, hb⟩; replace H3 := Hd.mk (H3.out.below (bt3 hb (by (repeat (first | exact Below.refl _ _ | assumption | refine Below.drew ?_ | refine bdn ?_ | refine ba _ ?_ | refine bs0 _ _ ?_ ?_ | refine bs1 _ _ _ ?_ ?_ | refine bs2 _ _ _ _ ?_ ?_ | refine bs3 _ _ _ _ _ ?_ ?_ | refine bt3 (by assumption) ?_))))); replace hq : Below w.heap.size w w4 := bt3 hb hq; have H4 := Hd.mk hD.dp; clear hD hb) | (go_at_call 174; (with_reducible refine (s_Bit4 x _ HX.out.1 HX.out.2.2.2.2.2.2.1).mono ?_); rintro e w' ⟨rfl, rfl⟩) | (go_at_call 174; (with_reducible refine (s_Bit4 y _ HX.out.2.2.1 HX.out.2.2.2.2.2.2.2).mono ?_); rintro e w' ⟨rfl, rfl⟩) | (go_at_call 173; (with_reducible refine (s_Sum4 s3 s4 x3 x4 (fv x) (fv y) mode A3 A4 n3 n4 c3 c4 149 (mB x) (mB y) _ (H3.out.below (by (repeat (first | exact Below.refl _ _ | assumption | refine Below.drew ?_ | refine bdn ?_ | refine ba _ ?_ | refine bs0 _ _ ?_ ?_ | refine bs1 _ _ _ ?_ ?_ | refine bs2 _ _ _ _ ?_ ?_ | refine bs3 _ _ _ _ _ ?_ ?_ | refine bt3 (by assumption) ?_)))) (H4.out.below (by (repeat (first | exact Below.refl _ _ | assumption | refine Below.drew ?_ | refine bdn ?_ | refine ba _ ?_ | refine bs0 _ _ ?_ ?_ | refine bs1 _ _ _ ?_ ?_ | refine bs2 _ _ _ _ ?_ ?_ | refine bs3 _ _ _ _ _ ?_ ?_ | refine bt3 (by assumption) ?_)))) HX.out.2.2.2.2.1 HX.out.2.2.2.2.2.1).mono ?_); rintro e7 w7 ⟨rfl, hb⟩; replace hq : Below w.heap.size w w7 := bt3 hb hq; clear hb))
  go_ret2
  exact ⟨rfl, hq⟩
end Go.Proofs.YtflgjecpjaiecaaGreat
