/- Gm: S26 S27, merged. -/
import Derived.Test.YtflgjecpjaiecaaGreatGkq1
/- Contracts: sums of exact numbers with signs of zeros, fused products, both sides. -/
set_option linter.unusedVariables false
set_option linter.unusedSimpArgs false
namespace Go.Proofs.YtflgjecpjaiecaaGreat
open Go.RowKit Num Flt
/-- a zero with a sign -/
def szF (b : Bool) : Nat := if b = true then 2147483648 else 0
theorem szF_num (b : Bool) : W (szF b) ∧ ¬ nan (szF b) := by
  cases b
  · exact ⟨by unfold W szF; simp, by decide⟩
  · exact ⟨by unfold W szF; simp, by decide⟩
theorem s_Zero4 (b : Bool) (w : World) : Calls Tryz.prog 179 #[.bool b] w fun e w' => e = .returned (.float .f32 (szF b)) ∧ w = w' := by
  cases b
  · go_enter Tryz.func179, Tryz.ntmps179
    go_wp2
    go_ret
    exact ⟨rfl, rfl⟩
  · go_enter Tryz.func179, Tryz.ntmps179
    go_wp2_with (go_at_call 104; (with_reducible refine (s_Turned 0 _ (by unfold W; omega) (by decide)).mono ?_); rintro e w' ⟨rfl, rfl⟩)
    go_ret
    exact ⟨by rfl, rfl⟩
theorem s_Bit4 (x : Nat) (w : World) (hx : W x) (hn : ¬ nan x) :
    Calls Tryz.prog 174 #[.float .f32 x] w fun e w' => e = .returned (.bool (mB x)) ∧ w = w' := by
  have h := o_eq0 x hx
  have hl : (FloatKind.f32.format.order x 0 == some .lt) = decide (2147483648 < x) := by
    rw [o_lt]; apply decide_eq_decide.2
    have h0 : pl 0 = 0 := by decide
    have hn0 : ¬ nan 0 := by decide
    rw [h0]; unfold W at hx
    constructor
    · rintro ⟨_, _, h⟩; unfold pl at h; split at h <;> omega
    · intro h; refine ⟨hn, hn0, ?_⟩; unfold pl; rw [if_pos (by omega)]; omega
  by_cases h1 : 2147483648 < x
  · rw [show decide (2147483648 < x) = true by simpa using h1] at hl
    rw [show mB x = true by simp [mB]; omega]
    clear h h1 hx hn
    go_enter Tryz.func174, Tryz.ntmps174
    go_wp2
    go_ret
    exact ⟨rfl, rfl⟩
  · rw [show decide (2147483648 < x) = false by simpa using h1] at hl
    by_cases h2 : x = 0
    · subst h2
      have k2 := fun w => run_float_arith (P := Tryz.prog) w .quo 22 .f32 1065353216 0 2139095040 (by kernel_rfl)
      have k3 : (FloatKind.f32.format.order 2139095040 0 == some .lt) = false := by decide
      have k4 : (FloatKind.f32.format.order 0 0 == some .eq) = true := by decide
      clear h
      go_enter Tryz.func174, Tryz.ntmps174
      go_wp2
      go_ret
      exact ⟨rfl, rfl⟩
    · by_cases h3 : x = 2147483648
      · subst h3
        have k2 := fun w => run_float_arith (P := Tryz.prog) w .quo 22 .f32 1065353216 2147483648 4286578688 (by kernel_rfl)
        have k3 : (FloatKind.f32.format.order 4286578688 0 == some .lt) = true := by decide
        have k4 : (FloatKind.f32.format.order 2147483648 0 == some .eq) = true := by decide
        clear h
        go_enter Tryz.func174, Tryz.ntmps174
        go_wp2
        go_ret
        exact ⟨rfl, rfl⟩
      · have h' : (FloatKind.f32.format.order x 0 == some .eq) = false := by rw [h]; simp; omega
        rw [show mB x = false by simp [mB]; omega]
        clear h h1 h2 h3 hx hn
        go_enter Tryz.func174, Tryz.ntmps174
        go_wp2
        go_ret
        exact ⟨rfl, rfl⟩
/-- a sum of two numbers with signs of zeros, rounded -/
def sum4 (V U : Int) (b1 b2 : Bool) (mode : Int) : Nat := if V + U = 0 then (if V = 0 ∧ b1 = b2 then szF b1 else szF (decide (mode = 1))) else rF mode (V + U)
theorem rFl_zero (mode : Int) : rFl mode 0 = 0 := rfl
def RetF2 (y : Nat) (f : Int) (w : World) : Ending → World → Prop := RetV (.tuple #[.float .f32 y, .int .i64 f]) w
set_option maxHeartbeats 4000000 in
theorem s_Sum4N (s t e d V U mode : Int) (A A' : Option Addr) (n m c c' l : Nat) (b1 b2 : Bool) (w : World) (hC : DyP w s A n c e V l) (hD : DyP w t A' m c' d U l) (hb0 : Bd (V + U)) (hmd : 0 ≤ mode ∧ mode ≤ 4) (hne : V + U ≠ 0) :
    Calls Tryz.prog 173 #[.agg #[.int .i64 s, .slice A n c, .int .i64 e], .agg #[.int .i64 t, .slice A' m c', .int .i64 d], .bool b1, .bool b2, .int .i64 mode] w (RetF2 (rF mode (V + U)) (rFl mode (V + U)) w) := by
  have HC := Hd.mk hC
  have HD := Hd.mk hD
  have HX := Hd.mk (And.intro hb0 (And.intro hmd hne))
  clear hC hD hb0 hmd hne
  go_enter Tryz.func173, Tryz.ntmps173
  go_wp2_with (first | (go_at_call 203; (with_reducible refine (s_DAdd s t e d V U A A' n m c c' l _ (HC.out.below (by (repeat (first | exact Below.refl _ _ | assumption | refine Below.drew ?_ | refine bdn ?_ | refine ba _ ?_ | refine bs0 _ _ ?_ ?_ | refine bs1 _ _ _ ?_ ?_ | refine bs2 _ _ _ _ ?_ ?_ | refine bs3 _ _ _ _ _ ?_ ?_ | refine bt3 (by assumption) ?_)))) (HD.out.below (by (repeat (first | exact Below.refl _ _ | assumption | refine Below.drew ?_ | refine bdn ?_ | refine ba _ ?_ | refine bs0 _ _ ?_ ?_ | refine bs1 _ _ _ ?_ ?_ | refine bs2 _ _ _ _ ?_ ?_ | refine bs3 _ _ _ _ _ ?_ ?_ | refine bt3 (by assumption) ?_)))) HX.out.1).mono ?_); rintro e5 w5 ⟨s5, A5, n5, c5, x5, rfl, hE, hb⟩; have H5 := Hd.mk hE.dp; have hs5 : (s5 == 0) = false := (by have h := dy_sign H5.out; have := HX.out.2.2; rw [h]; simpa [Int.sign_eq_zero_iff_zero] using this); obtain ⟨hc, hf, hz, hy⟩ := bcell hb; have hsz := hb.size; (try simp at hsz); have k0 : w.heap.size < w5.heap.size := (by omega); have k1 : w.heap.size + 1 < w5.heap.size := (by omega); have HB : Hd (Below w.heap.size w w5) := ⟨bt3 hb (by (repeat (first | exact Below.refl _ _ | assumption | refine Below.drew ?_ | refine bdn ?_ | refine ba _ ?_ | refine bs0 _ _ ?_ ?_ | refine bs1 _ _ _ ?_ ?_ | refine bs2 _ _ _ _ ?_ ?_ | refine bs3 _ _ _ _ _ ?_ ?_ | refine bt3 (by assumption) ?_)))⟩; clear hE hb hsz) | (go_at_call 155; (with_reducible refine (s_Round s5 A5 n5 c5 x5 (V + U) mode l _ (H5.out.below (by (repeat (first | exact Below.refl _ _ | assumption | refine Below.drew ?_ | refine bdn ?_ | refine ba _ ?_ | refine bs0 _ _ ?_ ?_ | refine bs1 _ _ _ ?_ ?_ | refine bs2 _ _ _ _ ?_ ?_ | refine bs3 _ _ _ _ _ ?_ ?_ | refine bt3 (by assumption) ?_)))) HX.out.2.1).mono ?_); rintro e6 w6 ⟨rfl, hb⟩; have HB6 : Hd (Below w.heap.size w w6) := ⟨bt3 hb (by have hbb := HB.out; (repeat (first | exact Below.refl _ _ | assumption | refine Below.drew ?_ | refine bdn ?_ | refine ba _ ?_ | refine bs0 _ _ ?_ ?_ | refine bs1 _ _ _ ?_ ?_ | refine bs2 _ _ _ _ ?_ ?_ | refine bs3 _ _ _ _ _ ?_ ?_ | refine bt3 (by assumption) ?_)))⟩; clear hb))
  go_ret2
  exact ⟨rfl, HB6.out⟩
set_option maxHeartbeats 4000000 in
theorem s_Sum4Z (s t e d V U mode : Int) (A A' : Option Addr) (n m c c' l : Nat) (b1 b2 : Bool) (w : World) (hC : DyP w s A n c e V l) (hD : DyP w t A' m c' d U l) (hb0 : Bd (V + U)) (hz0 : V + U = 0) :
    Calls Tryz.prog 173 #[.agg #[.int .i64 s, .slice A n c, .int .i64 e], .agg #[.int .i64 t, .slice A' m c', .int .i64 d], .bool b1, .bool b2, .int .i64 mode] w (RetF2 (if V = 0 ∧ b1 = b2 then szF b1 else szF (decide (mode = 1))) 0 w) := by
  have hs := dy_sign hC
  have HC := Hd.mk hC
  have HD := Hd.mk hD
  have HX := Hd.mk (And.intro hb0 hz0)
  clear hC hD hb0 hz0
  have hm : (mode == 1) = decide (mode = 1) := by
    by_cases h : mode = 1
    · subst h; rfl
    · rw [decide_eq_false h]; simpa using h
  by_cases hV : V = 0
  · obtain rfl : s = 0 := by rw [hs, hV]; rfl
    by_cases hbb : b1 = b2
    · rw [if_pos ⟨hV, hbb⟩]
      have hbq : (b1 == b2) = true := by simpa using hbb
      clear hs hV hbb hm
      go_enter Tryz.func173, Tryz.ntmps173
      go_wp2_with (first | (go_at_call 203; (with_reducible refine (s_DAdd 0 t e d V U A A' n m c c' l _ (HC.out.below (by (repeat (first | exact Below.refl _ _ | assumption | refine Below.drew ?_ | refine bdn ?_ | refine ba _ ?_ | refine bs0 _ _ ?_ ?_ | refine bs1 _ _ _ ?_ ?_ | refine bs2 _ _ _ _ ?_ ?_ | refine bs3 _ _ _ _ _ ?_ ?_ | refine bt3 (by assumption) ?_)))) (HD.out.below (by (repeat (first | exact Below.refl _ _ | assumption | refine Below.drew ?_ | refine bdn ?_ | refine ba _ ?_ | refine bs0 _ _ ?_ ?_ | refine bs1 _ _ _ ?_ ?_ | refine bs2 _ _ _ _ ?_ ?_ | refine bs3 _ _ _ _ _ ?_ ?_ | refine bt3 (by assumption) ?_)))) HX.out.1).mono ?_); rintro e5 w5 ⟨s5, A5, n5, c5, x5, rfl, hE, hb⟩; obtain rfl : s5 = 0 := (by rw [dy_sign hE.dp, HX.out.2]; rfl); obtain ⟨hc, hf, hz, hy⟩ := bcell hb; have hsz := hb.size; (try simp at hsz); have k0 : w.heap.size < w5.heap.size := (by omega); have k1 : w.heap.size + 1 < w5.heap.size := (by omega); have HB : Hd (Below w.heap.size w w5) := ⟨bt3 hb (by (repeat (first | exact Below.refl _ _ | assumption | refine Below.drew ?_ | refine bdn ?_ | refine ba _ ?_ | refine bs0 _ _ ?_ ?_ | refine bs1 _ _ _ ?_ ?_ | refine bs2 _ _ _ _ ?_ ?_ | refine bs3 _ _ _ _ _ ?_ ?_ | refine bt3 (by assumption) ?_)))⟩; clear hE hb hsz) | (go_at_call 179; (with_reducible refine (s_Zero4 _ _).mono ?_); rintro e w' ⟨rfl, rfl⟩))
      go_ret2
      exact ⟨rfl, by have hbb := HB.out; (repeat (first | exact Below.refl _ _ | assumption | refine Below.drew ?_ | refine bdn ?_ | refine ba _ ?_ | refine bs0 _ _ ?_ ?_ | refine bs1 _ _ _ ?_ ?_ | refine bs2 _ _ _ _ ?_ ?_ | refine bs3 _ _ _ _ _ ?_ ?_ | refine bt3 (by assumption) ?_))⟩
    · rw [if_neg (fun k => hbb k.2)]
      have hbq : (b1 == b2) = false := by simpa using hbb
      generalize decide (mode = 1) = bm at *
      clear hs hV hbb
      go_enter Tryz.func173, Tryz.ntmps173
      go_wp2_with (first | (go_at_call 203; (with_reducible refine (s_DAdd 0 t e d V U A A' n m c c' l _ (HC.out.below (by (repeat (first | exact Below.refl _ _ | assumption | refine Below.drew ?_ | refine bdn ?_ | refine ba _ ?_ | refine bs0 _ _ ?_ ?_ | refine bs1 _ _ _ ?_ ?_ | refine bs2 _ _ _ _ ?_ ?_ | refine bs3 _ _ _ _ _ ?_ ?_ | refine bt3 (by assumption) ?_)))) (HD.out.below (by (repeat (first | exact Below.refl _ _ | assumption | refine Below.drew ?_ | refine bdn ?_ | refine ba _ ?_ | refine bs0 _ _ ?_ ?_ | refine bs1 _ _ _ ?_ ?_ | refine bs2 _ _ _ _ ?_ ?_ | refine bs3 _ _ _ _ _ ?_ ?_ | refine bt3 (by assumption) ?_)))) HX.out.1).mono ?_); rintro e5 w5 ⟨s5, A5, n5, c5, x5, rfl, hE, hb⟩; obtain rfl : s5 = 0 := (by rw [dy_sign hE.dp, HX.out.2]; rfl); obtain ⟨hc, hf, hz, hy⟩ := bcell hb; have hsz := hb.size; (try simp at hsz); have k0 : w.heap.size < w5.heap.size := (by omega); have k1 : w.heap.size + 1 < w5.heap.size := (by omega); have HB : Hd (Below w.heap.size w w5) := ⟨bt3 hb (by (repeat (first | exact Below.refl _ _ | assumption | refine Below.drew ?_ | refine bdn ?_ | refine ba _ ?_ | refine bs0 _ _ ?_ ?_ | refine bs1 _ _ _ ?_ ?_ | refine bs2 _ _ _ _ ?_ ?_ | refine bs3 _ _ _ _ _ ?_ ?_ | refine bt3 (by assumption) ?_)))⟩; clear hE hb hsz) | (go_at_call 179; (with_reducible refine (s_Zero4 _ _).mono ?_); rintro e w' ⟨rfl, rfl⟩))
      go_ret2
      exact ⟨rfl, by have hbb := HB.out; (repeat (first | exact Below.refl _ _ | assumption | refine Below.drew ?_ | refine bdn ?_ | refine ba _ ?_ | refine bs0 _ _ ?_ ?_ | refine bs1 _ _ _ ?_ ?_ | refine bs2 _ _ _ _ ?_ ?_ | refine bs3 _ _ _ _ _ ?_ ?_ | refine bt3 (by assumption) ?_))⟩
  · have h1 : (s == 0) = false := by rw [hs]; simpa [Int.sign_eq_zero_iff_zero] using hV
    rw [if_neg (fun k => hV k.1)]
    generalize decide (mode = 1) = bm at *
    clear hs hV
    go_enter Tryz.func173, Tryz.ntmps173
    go_wp2_with (first | (go_at_call 203; (with_reducible refine (s_DAdd s t e d V U A A' n m c c' l _ (HC.out.below (by (repeat (first | exact Below.refl _ _ | assumption | refine Below.drew ?_ | refine bdn ?_ | refine ba _ ?_ | refine bs0 _ _ ?_ ?_ | refine bs1 _ _ _ ?_ ?_ | refine bs2 _ _ _ _ ?_ ?_ | refine bs3 _ _ _ _ _ ?_ ?_ | refine bt3 (by assumption) ?_)))) (HD.out.below (by (repeat (first | exact Below.refl _ _ | assumption | refine Below.drew ?_ | refine bdn ?_ | refine ba _ ?_ | refine bs0 _ _ ?_ ?_ | refine bs1 _ _ _ ?_ ?_ | refine bs2 _ _ _ _ ?_ ?_ | refine bs3 _ _ _ _ _ ?_ ?_ | refine bt3 (by assumption) ?_)))) HX.out.1).mono ?_); rintro e5 w5 ⟨s5, A5, n5, c5, x5, rfl, hE, hb⟩; obtain rfl : s5 = 0 := (by rw [dy_sign hE.dp, HX.out.2]; rfl); obtain ⟨hc, hf, hz, hy⟩ := bcell hb; have hsz := hb.size; (try simp at hsz); have k0 : w.heap.size < w5.heap.size := (by omega); have k1 : w.heap.size + 1 < w5.heap.size := (by omega); have HB : Hd (Below w.heap.size w w5) := ⟨bt3 hb (by (repeat (first | exact Below.refl _ _ | assumption | refine Below.drew ?_ | refine bdn ?_ | refine ba _ ?_ | refine bs0 _ _ ?_ ?_ | refine bs1 _ _ _ ?_ ?_ | refine bs2 _ _ _ _ ?_ ?_ | refine bs3 _ _ _ _ _ ?_ ?_ | refine bt3 (by assumption) ?_)))⟩; clear hE hb hsz) | (go_at_call 179; (with_reducible refine (s_Zero4 _ _).mono ?_); rintro e w' ⟨rfl, rfl⟩))
    go_ret2
    exact ⟨rfl, by have hbb := HB.out; (repeat (first | exact Below.refl _ _ | assumption | refine Below.drew ?_ | refine bdn ?_ | refine ba _ ?_ | refine bs0 _ _ ?_ ?_ | refine bs1 _ _ _ ?_ ?_ | refine bs2 _ _ _ _ ?_ ?_ | refine bs3 _ _ _ _ _ ?_ ?_ | refine bt3 (by assumption) ?_))⟩
theorem s_Sum4 (s t e d V U mode : Int) (A A' : Option Addr) (n m c c' l : Nat) (b1 b2 : Bool) (w : World) (hC : DyP w s A n c e V l) (hD : DyP w t A' m c' d U l) (hb0 : Bd (V + U)) (hmd : 0 ≤ mode ∧ mode ≤ 4) :
    Calls Tryz.prog 173 #[.agg #[.int .i64 s, .slice A n c, .int .i64 e], .agg #[.int .i64 t, .slice A' m c', .int .i64 d], .bool b1, .bool b2, .int .i64 mode] w (RetF2 (sum4 V U b1 b2 mode) (rFl mode (V + U)) w) := by
  unfold sum4
  by_cases h : V + U = 0
  · rw [if_pos h, h, rFl_zero]; exact s_Sum4Z s t e d V U mode A A' n m c c' l b1 b2 w hC hD hb0 h
  · rw [if_neg h]; exact s_Sum4N s t e d V U mode A A' n m c c' l b1 b2 w hC hD hb0 hmd h
end Go.Proofs.YtflgjecpjaiecaaGreat
/- Contracts: fused products, both sides. -/
set_option linter.unusedVariables false
set_option linter.unusedSimpArgs false
namespace Go.Proofs.YtflgjecpjaiecaaGreat
open Go.RowKit Num Flt
theorem DyP.more {w : World} {s : Int} {A : Option Addr} {n c l l' : Nat} {e V : Int} (h : DyP w s A n c e V l) (hl : l ≤ l') (hs : l' ≤ SC) : DyP w s A n c e V l' := by
  obtain ⟨m, h1, h2⟩ := h
  exact ⟨m, h1, ⟨h2.val, by have := h2.lo; omega, hs, h2.hi, h2.zer, h2.odd, h2.bd⟩⟩
theorem nan_fin {x : Nat} (h : fin x) : ¬ nan x := by unfold fin at h; unfold nan; omega
theorem mv_zero {x : Nat} (h : W x) : mv x = 0 ↔ (x = 0 ∨ x = 2147483648) := by
  have h1 := mg_zero (x % 2147483648)
  have h2 : pm x = mg 8388608 (x % 2147483648) := rfl
  unfold W at h
  unfold mv
  split <;> omega
theorem dv_eq0 {m e : Int} : dv m e = 0 ↔ m = 0 := by
  unfold dv
  constructor
  · intro h
    rcases Int.mul_eq_zero.1 h with k | k
    · exact k
    · exact absurd k (Int.ne_of_gt (pow2_pos _))
  · intro h; rw [h, Int.zero_mul]
theorem fv_zero {x : Nat} (h : W x) : fv x = 0 ↔ (x = 0 ∨ x = 2147483648) := by
  unfold fv; rw [dv_eq0, mv_zero h]
/-! the code of two floats and a mode -/
def twC (x y : Nat) (mode : Int) : Int := if fin x ∧ fin y then (if modeB mode = true then 0 else 2) else 1
theorem tw_bad {x y : Nat} (mode : Int) (h : ¬ (fin x ∧ fin y)) : twC x y mode = 1 := by unfold twC; rw [if_neg h]
theorem tw_mode {x y : Nat} {mode : Int} (h : fin x ∧ fin y) (hm : modeB mode = false) : twC x y mode = 2 := by unfold twC; rw [if_pos h, hm]; rfl
theorem tw_good {x y : Nat} {mode : Int} (h : fin x ∧ fin y) (hm : modeB mode = true) : twC x y mode = 0 := by unfold twC; rw [if_pos h, hm]; rfl
set_option maxHeartbeats 4000000 in
theorem s_Two4 (x y : Nat) (mode : Int) (w : World) : Calls Tryz.prog 85 #[.float .f32 x, .float .f32 y, .int .i64 mode] w fun e w' => e = .returned (.int .i64 (twC x y mode)) ∧ ∃ n, w' = w.drewN n := by
  by_cases h1 : fin x
  · have p1 : decide (fin x) = true := decide_eq_true h1
    by_cases h2 : fin y
    · have p2 : decide (fin y) = true := decide_eq_true h2
      cases h3 : modeB mode
      · have HV := Hd.mk (tw_mode ⟨h1, h2⟩ h3)
        clear h1 h2
        go_enter Tryz.func85, Tryz.ntmps85
        go_wp2_with (first | (go_at_call 125; (with_reducible refine (s_Finite _ _).mono ?_); rintro e w' ⟨rfl, ⟨nd, rfl⟩⟩) | (go_at_call 154; (with_reducible refine (s_Mode mode _).mono ?_); rintro e w' ⟨rfl, rfl⟩))
        go_ret
        exact ⟨by rw [HV.out] <;> rfl, _, rfl⟩
      · have HV := Hd.mk (tw_good ⟨h1, h2⟩ h3)
        clear h1 h2
        go_enter Tryz.func85, Tryz.ntmps85
        go_wp2_with (first | (go_at_call 125; (with_reducible refine (s_Finite _ _).mono ?_); rintro e w' ⟨rfl, ⟨nd, rfl⟩⟩) | (go_at_call 154; (with_reducible refine (s_Mode mode _).mono ?_); rintro e w' ⟨rfl, rfl⟩))
        go_ret
        exact ⟨by rw [HV.out] <;> rfl, _, rfl⟩
    · have p2 : decide (fin y) = false := decide_eq_false h2
      have HV := Hd.mk (tw_bad (x := x) (y := y) mode (fun k => h2 k.2))
      clear h1 h2
      go_enter Tryz.func85, Tryz.ntmps85
      go_wp2_with (first | (go_at_call 125; (with_reducible refine (s_Finite _ _).mono ?_); rintro e w' ⟨rfl, ⟨nd, rfl⟩⟩) | (go_at_call 154; (with_reducible refine (s_Mode mode _).mono ?_); rintro e w' ⟨rfl, rfl⟩))
      go_ret
      exact ⟨by rw [HV.out] <;> rfl, _, rfl⟩
  · have p1 : decide (fin x) = false := decide_eq_false h1
    have HV := Hd.mk (tw_bad (x := x) (y := y) mode (fun k => h1 k.1))
    clear h1
    go_enter Tryz.func85, Tryz.ntmps85
    go_wp2_with (first | (go_at_call 125; (with_reducible refine (s_Finite _ _).mono ?_); rintro e w' ⟨rfl, ⟨nd, rfl⟩⟩) | (go_at_call 154; (with_reducible refine (s_Mode mode _).mono ?_); rintro e w' ⟨rfl, rfl⟩))
    go_ret
    exact ⟨by rw [HV.out] <;> rfl, _, rfl⟩
/-! the answers of FusedIn -/
theorem i_minusZero (w : World) : Calls Tryz.prog 190 #[] w fun e w' => e = .returned (.float .f32 2147483648) ∧ w = w' := by
  have k := run_f32frombits
  go_enter Tryz.func190, Tryz.ntmps190
  go_wp2
  go_ret
  exact ⟨rfl, rfl⟩
def zsF (alike neg : Bool) (mode : Int) : Nat := if alike = true then szF neg else szF (decide (mode = 1))
theorem i_zeroSum (alike neg : Bool) (mode : Int) (w : World) : Calls Tryz.prog 116 #[.bool alike, .bool neg, .int .i64 mode] w fun e w' => e = .returned (.float .f32 (zsF alike neg mode)) ∧ w = w' := by
  have hm : (mode == 1) = decide (mode = 1) := by
    by_cases h : mode = 1
    · subst h; rfl
    · rw [decide_eq_false h]; simpa using h
  unfold zsF
  generalize decide (mode = 1) = bm at *
  cases alike
  · cases bm
    · cases neg
      · go_enter Tryz.func116, Tryz.ntmps116
        go_wp2_with (go_at_call 190; (with_reducible refine (i_minusZero _).mono ?_); rintro e w' ⟨rfl, rfl⟩)
        go_ret
        exact ⟨rfl, rfl⟩
      · go_enter Tryz.func116, Tryz.ntmps116
        go_wp2_with (go_at_call 190; (with_reducible refine (i_minusZero _).mono ?_); rintro e w' ⟨rfl, rfl⟩)
        go_ret
        exact ⟨rfl, rfl⟩
    · cases neg
      · go_enter Tryz.func116, Tryz.ntmps116
        go_wp2_with (go_at_call 190; (with_reducible refine (i_minusZero _).mono ?_); rintro e w' ⟨rfl, rfl⟩)
        go_ret
        exact ⟨rfl, rfl⟩
      · go_enter Tryz.func116, Tryz.ntmps116
        go_wp2_with (go_at_call 190; (with_reducible refine (i_minusZero _).mono ?_); rintro e w' ⟨rfl, rfl⟩)
        go_ret
        exact ⟨rfl, rfl⟩
  · cases neg
    · go_enter Tryz.func116, Tryz.ntmps116
      go_wp2_with (go_at_call 190; (with_reducible refine (i_minusZero _).mono ?_); rintro e w' ⟨rfl, rfl⟩)
      go_ret
      exact ⟨rfl, rfl⟩
    · go_enter Tryz.func116, Tryz.ntmps116
      go_wp2_with (go_at_call 190; (with_reducible refine (i_minusZero _).mono ?_); rintro e w' ⟨rfl, rfl⟩)
      go_ret
      exact ⟨rfl, rfl⟩
end Go.Proofs.YtflgjecpjaiecaaGreat
