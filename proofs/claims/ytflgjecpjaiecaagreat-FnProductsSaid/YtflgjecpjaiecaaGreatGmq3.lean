/- Gm: S26 S27, merged. -/
import Derived.Test.YtflgjecpjaiecaaGreatGkq3
/- Contracts: sums of exact numbers with signs of zeros, fused products, both sides. -/
set_option linter.unusedVariables false
set_option linter.unusedSimpArgs false
namespace Go.Proofs.YtflgjecpjaiecaaGreat
open Go.RowKit Num Flt
/-- a zero with a sign -/
def szF (b : Bool) : Nat := if b = true then 2147483648 else 0
theorem szF_num (b : Bool) : W (szF b) ∧ ¬ nan (szF b) := by
  cases b
  · exact ⟨by unfold W szF; simp, by decide⟩
  · exact ⟨by unfold W szF; simp, by decide⟩
theorem s_Zero4 (b : Bool) (w : World) : Calls Tryz.prog 179 #[.bool b] w fun e w' => e = .returned (.float .f32 (szF b)) ∧ w = w' := by
  cases b
  · go_enter Tryz.func179, Tryz.ntmps179
    go_wp2
    go_ret
    exact ⟨rfl, rfl⟩
  · go_enter Tryz.func179, Tryz.ntmps179
    go_wp2_with (go_at_call 104; (with_reducible refine (s_Turned 0 _ (by unfold W; omega) (by decide)).mono ?_); rintro e w' ⟨rfl, rfl⟩)
    go_ret
    exact ⟨by rfl, rfl⟩
theorem s_Bit4 (x : Nat) (w : World) (hx : W x) (hn : ¬ nan x) :
    Calls Tryz.prog 174 #[.float .f32 x] w fun e w' => e = .returned (.bool (mB x)) ∧ w = w' := by
  have h := o_eq0 x hx
  have hl : (FloatKind.f32.format.order x 0 == some .lt) = decide (2147483648 < x) := by
    rw [o_lt]; apply decide_eq_decide.2
    have h0 : pl 0 = 0 := by decide
    have hn0 : ¬ nan 0 := by decide
    rw [h0]; unfold W at hx
    constructor
    · rintro ⟨_, _, h⟩; unfold pl at h; split at h <;> omega
    · intro h; refine ⟨hn, hn0, ?_⟩; unfold pl; rw [if_pos (by omega)]; omega
  by_cases h1 : 2147483648 < x
  · rw [show decide (2147483648 < x) = true by simpa using h1] at hl
    rw [show mB x = true by simp [mB]; omega]
    clear h h1 hx hn
    go_enter Tryz.func174, Tryz.ntmps174
    go_wp2
    go_ret
    exact ⟨rfl, rfl⟩
  · rw [show decide (2147483648 < x) = false by simpa using h1] at hl
    by_cases h2 : x = 0
    · subst h2
      have k2 := fun w => run_float_arith (P := Tryz.prog) w .quo 22 .f32 1065353216 0 2139095040 (by kernel_rfl)
      have k3 : (FloatKind.f32.format.order 2139095040 0 == some .lt) = false := by decide
      have k4 : (FloatKind.f32.format.order 0 0 == some .eq) = true := by decide
      clear h
      go_enter Tryz.func174, Tryz.ntmps174
      go_wp2
      go_ret
      exact ⟨rfl, rfl⟩
    · by_cases h3 : x = 2147483648
      · subst h3
        have k2 := fun w => run_float_arith (P := Tryz.prog) w .quo 22 .f32 1065353216 2147483648 4286578688 (by kernel_rfl)
        have k3 : (FloatKind.f32.format.order 4286578688 0 == some .lt) = true := by decide
        have k4 : (FloatKind.f32.format.order 2147483648 0 == some .eq) = true := by decide
        clear h
        go_enter Tryz.func174, Tryz.ntmps174
        go_wp2
        go_ret
        exact ⟨rfl, rfl⟩
      · have h' : (FloatKind.f32.format.order x 0 == some .eq) = false := by rw [h]; simp; omega
        rw [show mB x = false by simp [mB]; omega]
        clear h h1 h2 h3 hx hn
        go_enter Tryz.func174, Tryz.ntmps174
        go_wp2
        go_ret
        exact ⟨rfl, rfl⟩
/-- a sum of two numbers with signs of zeros, rounded -/
def sum4 (V U : Int) (b1 b2 : Bool) (mode : Int) : Nat := if V + U = 0 then (if V = 0 ∧ b1 = b2 then szF b1 else szF (decide (mode = 1))) else rF mode (V + U)
theorem rFl_zero (mode : Int) : rFl mode 0 = 0 := rfl
def RetF2 (y : Nat) (f : Int) (w : World) : Ending → World → Prop := RetV (.tuple #[.float .f32 y, .int .i64 f]) w
set_option maxHeartbeats 4000000 in
theorem s_Sum4N (s t e d V U mode : Int) (A A' : Option Addr) (n m c c' l : Nat) (b1 b2 : Bool) (w : World) (hC : DyP w s A n c e V l) (hD : DyP w t A' m c' d U l) (hb0 : Bd (V + U)) (hmd : 0 ≤ mode ∧ mode ≤ 4) (hne : V + U ≠ 0) :
    Calls Tryz.prog 173 #[.agg #[.int .i64 s, .slice A n c, .int .i64 e], .agg #[.int .i64 t, .slice A' m c', .int .i64 d], .bool b1, .bool b2, .int .i64 mode] w (RetF2 (rF mode (V + U)) (rFl mode (V + U)) w) := by
  have HC := Hd.mk hC
  have HD := Hd.mk hD
  have HX := Hd.mk (And.intro hb0 (And.intro hmd hne))
  clear hC hD hb0 hmd hne
  go_enter Tryz.func173, Tryz.ntmps173
  go_wp2_with (first | (go_at_call 203; (with_reducible refine (s_DAdd s t e d V U A A' n m c c' l _ (HC.out.below (by (repeat (first | exact Below.refl _ _ | assumption | refine Below.drew ?_ | refine bdn ?_ | refine ba _ ?_ | refine bs0 _ _ ?_ ?_ | refine bs1 _ _ _ ?_ ?_ | refine bs2 _ _ _ _ ?_ ?_ | refine bs3 _ _ _ _ _ ?_ ?_ | refine bt3 (by assumption) ?_)))) (HD.out.below (by (repeat (first | exact Below.refl _ _ | assumption | refine Below.drew ?_ | refine bdn ?_ | refine ba _ ?_ | refine bs0 _ _ ?_ ?_ | refine bs1 _ _ _ ?_ ?_ | refine bs2 _ _ _ _ ?_ ?_ | refine bs3 _ _ _ _ _ ?_ ?_ | refine bt3 (by assumption) ?_)))) HX.out.1).mono ?_); rintro e5 w5 ⟨s5, A5, n5, c5, x5, rfl, hE, hb⟩; have H5 := Hd.mk hE.dp; have hs5 : (s5 == 0) = false := (by have h := dy_sign H5.out; have := HX.out.2.2; rw [h]; simpa [Int.sign_eq_zero_iff_zero] using this); obtain ⟨hc, hf, hz, hy⟩ := bcell hb; have hsz := hb.size; (try simp at hsz); have k0 : w.heap.size < w5.heap.size := (by omega); have k1 : w.heap.size + 1 < w5.heap.size := (by omega); have HB : Hd (Below w.heap.size w w5) := ⟨bt3 hb (by (repeat (first | exact Below.refl _ _ | assumption | refine Below.drew ?_ | refine bdn ?_ | refine ba _ ?_ | refine bs0 _ _ ?_ ?_ | refine bs1 _ _ _ ?_ ?_ | refine bs2 _ _ _ _ ?_ ?_ | refine bs3 _ _ _ _ _ ?_ ?_ | refine bt3 (by assumption) ?_)))⟩; clear hE hb hsz) | (go_at_call 155; (with_reducible refine (s_Round s5 A5 n5 c5 x5 (V + U) mode l _ (H5.out.below (by (repeat (first | exact Below.refl _ _ | assumption | refine Below.drew ?_ | refine bdn ?_ | refine ba _ ?_ | refine bs0 _ _ ?_ ?_ | refine bs1 _ _ _ ?_ ?_ | refine bs2 _ _ _ _ ?_ ?_ | refine bs3 _ _ _ _ _ ?_ ?_ | refine bt3 (by assumption) ?_)))) HX.out.2.1).mono ?_); rintro e6 w6 ⟨rfl, hb⟩; have HB6 : Hd (Below w.heap.size w w6) := ⟨bt3 hb (by have hbb := HB.out; (repeat (first | exact Below.refl _ _ | assumption | refine Below.drew ?_ | refine bdn ?_ | refine ba _ ?_ | refine bs0 _ _ ?_ ?_ | refine bs1 _ _ _ ?_ ?_ | refine bs2 _ _ _ _ ?_ ?_ | refine bs3 _ _ _ _ _ ?_ ?_ | refine bt3 (by assumption) ?_)))⟩; clear hb))
  go_ret2
  exact ⟨rfl, HB6.out⟩
set_option maxHeartbeats 4000000 in
theorem s_Sum4Z (s t e d V U mode : Int) (A A' : Option Addr) (n m c c' l : Nat) (b1 b2 : Bool) (w : World) (hC : DyP w s A n c e V l) (hD : DyP w t A' m c' d U l) (hb0 : Bd (V + U)) (hz0 : V + U = 0) :
    Calls Tryz.prog 173 #[.agg #[.int .i64 s, .slice A n c, .int .i64 e], .agg #[.int .i64 t, .slice A' m c', .int .i64 d], .bool b1, .bool b2, .int .i64 mode] w (RetF2 (if V = 0 ∧ b1 = b2 then szF b1 else szF (decide (mode = 1))) 0 w) := by
  have hs := dy_sign hC
  have HC := Hd.mk hC
  have HD := Hd.mk hD
  have HX := Hd.mk (And.intro hb0 hz0)
  clear hC hD hb0 hz0
  have hm : (mode == 1) = decide (mode = 1) := by
    by_cases h : mode = 1
    · subst h; rfl
    · rw [decide_eq_false h]; simpa using h
  by_cases hV : V = 0
  · obtain rfl : s = 0 := by rw [hs, hV]; rfl
    by_cases hbb : b1 = b2
    · rw [if_pos ⟨hV, hbb⟩]
      have hbq : (b1 == b2) = true := by simpa using hbb
      clear hs hV hbb hm
      go_enter Tryz.func173, Tryz.ntmps173
      go_wp2_with (first | (go_at_call 203; (with_reducible refine (s_DAdd 0 t e d V U A A' n m c c' l _ (HC.out.below (by (repeat (first | exact Below.refl _ _ | assumption | refine Below.drew ?_ | refine bdn ?_ | refine ba _ ?_ | refine bs0 _ _ ?_ ?_ | refine bs1 _ _ _ ?_ ?_ | refine bs2 _ _ _ _ ?_ ?_ | refine bs3 _ _ _ _ _ ?_ ?_ | refine bt3 (by assumption) ?_)))) (HD.out.below (by (repeat (first | exact Below.refl _ _ | assumption | refine Below.drew ?_ | refine bdn ?_ | refine ba _ ?_ | refine bs0 _ _ ?_ ?_ | refine bs1 _ _ _ ?_ ?_ | refine bs2 _ _ _ _ ?_ ?_ | refine bs3 _ _ _ _ _ ?_ ?_ | refine bt3 (by assumption) ?_)))) HX.out.1).mono ?_); rintro e5 w5 ⟨s5, A5, n5, c5, x5, rfl, hE, hb⟩; obtain rfl : s5 = 0 := (by rw [dy_sign hE.dp, HX.out.2]; rfl); obtain ⟨hc, hf, hz, hy⟩ := bcell hb; have hsz := hb.size; (try simp at hsz); have k0 : w.heap.size < w5.heap.size := (by omega); have k1 : w.heap.size + 1 < w5.heap.size := (by omega); have HB : Hd (Below w.heap.size w w5) := ⟨bt3 hb (by (repeat (first | exact Below.refl _ _ | assumption | refine Below.drew ?_ | refine bdn ?_ | refine ba _ ?_ | refine bs0 _ _ ?_ ?_ | refine bs1 _ _ _ ?_ ?_ | refine bs2 _ _ _ _ ?_ ?_ | refine bs3 _ _ _ _ _ ?_ ?_ | refine bt3 (by assumption) ?_)))⟩; clear hE hb hsz) | (go_at_call 179; (with_reducible refine (s_Zero4 _ _).mono ?_); rintro e w' ⟨rfl, rfl⟩))
      go_ret2
      exact ⟨rfl, by have hbb := HB.out; (repeat (first | exact Below.refl _ _ | assumption | refine Below.drew ?_ | refine bdn ?_ | refine ba _ ?_ | refine bs0 _ _ ?_ ?_ | refine bs1 _ _ _ ?_ ?_ | refine bs2 _ _ _ _ ?_ ?_ | refine bs3 _ _ _ _ _ ?_ ?_ | refine bt3 (by assumption) ?_))⟩
    · rw [if_neg (fun k => hbb k.2)]
      have hbq : (b1 == b2) = false := by simpa using hbb
      generalize decide (mode = 1) = bm at *
      clear hs hV hbb
      go_enter Tryz.func173, Tryz.ntmps173
      go_wp2_with (first | (go_at_call 203; (with_reducible refine (s_DAdd 0 t e d V U A A' n m c c' l _ (HC.out.below (by (repeat (first | exact Below.refl _ _ | assumption | refine Below.drew ?_ | refine bdn ?_ | refine ba _ ?_ | refine bs0 _ _ ?_ ?_ | refine bs1 _ _ _ ?_ ?_ | refine bs2 _ _ _ _ ?_ ?_ | refine bs3 _ _ _ _ _ ?_ ?_ | refine bt3 (by assumption) ?_)))) (HD.out.below (by (repeat (first | exact Below.refl _ _ | assumption | refine Below.drew ?_ | refine bdn ?_ | refine ba _ ?_ | refine bs0 _ _ ?_ ?_ | refine bs1 _ _ _ ?_ ?_ | refine bs2 _ _ _ _ ?_ ?_ | refine bs3 _ _ _ _ _ ?_ ?_ | refine bt3 (by assumption) ?_)))) HX.out.1).mono ?_); rintro e5 w5 ⟨s5, A5, n5, c5, x5, rfl, hE, hb⟩; obtain rfl : s5 = 0 := (by rw [dy_sign hE.dp, HX.out.2]; rfl); obtain ⟨hc, hf, hz, hy⟩ := bcell hb; have hsz := hb.size; (try simp at hsz); have k0 : w.heap.size < w5.heap.size := (by omega); have k1 : w.heap.size + 1 < w5.heap.size := (by omega); have HB : Hd (Below w.heap.size w w5) := ⟨bt3 hb (by (repeat (first | exact Below.refl _ _ | assumption | refine Below.drew ?_ | refine bdn ?_ | refine ba _ ?_ | refine bs0 _ _ ?_ ?_ | refine bs1 _ _ _ ?_ ?_ | refine bs2 _ _ _ _ ?_ ?_ | refine bs3 _ _ _ _ _ ?_ ?_ | refine bt3 (by assumption) ?_)))⟩; clear hE hb hsz) | (go_at_call 179; (with_reducible refine (s_Zero4 _ _).mono ?_); rintro e w' ⟨rfl, rfl⟩))
      go_ret2
      exact ⟨rfl, by have hbb := HB.out; (repeat (first | exact Below.refl _ _ | assumption | refine Below.drew ?_ | refine bdn ?_ | refine ba _ ?_ | refine bs0 _ _ ?_ ?_ | refine bs1 _ _ _ ?_ ?_ | refine bs2 _ _ _ _ ?_ ?_ | refine bs3 _ _ _ _ _ ?_ ?_ | refine bt3 (by assumption) ?_))⟩
  · have h1 : (s == 0) = false := by rw [hs]; simpa [Int.sign_eq_zero_iff_zero] using hV
    rw [if_neg (fun k => hV k.1)]
    generalize decide (mode = 1) = bm at *
    clear hs hV
    go_enter Tryz.func173, Tryz.ntmps173
    go_wp2_with (first | (go_at_call 203; (with_reducible refine (s_DAdd s t e d V U A A' n m c c' l _ (HC.out.below (by (repeat (first | exact Below.refl _ _ | assumption | refine Below.drew ?_ | refine bdn ?_ | refine ba _ ?_ | refine bs0 _ _ ?_ ?_ | refine bs1 _ _ _ ?_ ?_ | refine bs2 _ _ _ _ ?_ ?_ | refine bs3 _ _ _ _ _ ?_ ?_ | refine bt3 (by assumption) ?_)))) (HD.out.below (by (repeat (first | exact Below.refl _ _ | assumption | refine Below.drew ?_ | refine bdn ?_ | refine ba _ ?_ | refine bs0 _ _ ?_ ?_ | refine bs1 _ _ _ ?_ ?_ | refine bs2 _ _ _ _ ?_ ?_ | refine bs3 _ _ _ _ _ ?_ ?_ | refine bt3 (by assumption) ?_)))) HX.out.1).mono ?_); rintro e5 w5 ⟨s5, A5, n5, c5, x5, rfl, hE, hb⟩; obtain rfl : s5 = 0 := (by rw [dy_sign hE.dp, HX.out.2]; rfl); obtain ⟨hc, hf, hz, hy⟩ := bcell hb; have hsz := hb.size; (try simp at hsz); have k0 : w.heap.size < w5.heap.size := (by omega); have k1 : w.heap.size + 1 < w5.heap.size := (by omega); have HB : Hd (Below w.heap.size w w5) := ⟨bt3 hb (by (repeat (first | exact Below.refl _ _ | assumption | refine Below.drew ?_ | refine bdn ?_ | refine ba _ ?_ | refine bs0 _ _ ?_ ?_ | refine bs1 _ _ _ ?_ ?_ | refine bs2 _ _ _ _ ?_ ?_ | refine bs3 _ _ _ _ _ ?_ ?_ | refine bt3 (by assumption) ?_)))⟩; clear hE hb hsz) | (go_at_call 179; (with_reducible refine (s_Zero4 _ _).mono ?_); rintro e w' ⟨rfl, rfl⟩))
    go_ret2
    exact ⟨rfl, by have hbb := HB.out; (repeat (first | exact Below.refl _ _ | assumption | refine Below.drew ?_ | refine bdn ?_ | refine ba _ ?_ | refine bs0 _ _ ?_ ?_ | refine bs1 _ _ _ ?_ ?_ | refine bs2 _ _ _ _ ?_ ?_ | refine bs3 _ _ _ _ _ ?_ ?_ | refine bt3 (by assumption) ?_))⟩
theorem s_Sum4 (s t e d V U mode : Int) (A A' : Option Addr) (n m c c' l : Nat) (b1 b2 : Bool) (w : World) (hC : DyP w s A n c e V l) (hD : DyP w t A' m c' d U l) (hb0 : Bd (V + U)) (hmd : 0 ≤ mode ∧ mode ≤ 4) :
    Calls Tryz.prog 173 #[.agg #[.int .i64 s, .slice A n c, .int .i64 e], .agg #[.int .i64 t, .slice A' m c', .int .i64 d], .bool b1, .bool b2, .int .i64 mode] w (RetF2 (sum4 V U b1 b2 mode) (rFl mode (V + U)) w) := by
  unfold sum4
  by_cases h : V + U = 0
  · rw [if_pos h, h, rFl_zero]; exact s_Sum4Z s t e d V U mode A A' n m c c' l b1 b2 w hC hD hb0 h
  · rw [if_neg h]; exact s_Sum4N s t e d V U mode A A' n m c c' l b1 b2 w hC hD hb0 hmd h
end Go.Proofs.YtflgjecpjaiecaaGreat
/- Contracts: fused products, both sides. -/
set_option linter.unusedVariables false
set_option linter.unusedSimpArgs false
namespace Go.Proofs.YtflgjecpjaiecaaGreat
open Go.RowKit Num Flt
theorem DyP.more {w : World} {s : Int} {A : Option Addr} {n c l l' : Nat} {e V : Int} (h : DyP w s A n c e V l) (hl : l ≤ l') (hs : l' ≤ SC) : DyP w s A n c e V l' := by
  obtain ⟨m, h1, h2⟩ := h
  exact ⟨m, h1, ⟨h2.val, by have := h2.lo; omega, hs, h2.hi, h2.zer, h2.odd, h2.bd⟩⟩
theorem nan_fin {x : Nat} (h : fin x) : ¬ nan x := by unfold fin at h; unfold nan; omega
theorem sc298 : 149 + 149 ≤ SC := by unfold SC; omega
theorem sc149 : 149 ≤ 149 + 149 := by omega
theorem mv_zero {x : Nat} (h : W x) : mv x = 0 ↔ (x = 0 ∨ x = 2147483648) := by
  have h1 := mg_zero (x % 2147483648)
  have h2 : pm x = mg 8388608 (x % 2147483648) := rfl
  unfold W at h
  unfold mv
  split <;> omega
theorem dv_eq0 {m e : Int} : dv m e = 0 ↔ m = 0 := by
  unfold dv
  constructor
  · intro h
    rcases Int.mul_eq_zero.1 h with k | k
    · exact k
    · exact absurd k (Int.ne_of_gt (pow2_pos _))
  · intro h; rw [h, Int.zero_mul]
theorem fv_zero {x : Nat} (h : W x) : fv x = 0 ↔ (x = 0 ∨ x = 2147483648) := by
  unfold fv; rw [dv_eq0, mv_zero h]
theorem mulV_zero {x y : Nat} (hx : W x) (hy : W y) (fx : fin x) (fy : fin y) : mulV (fv x) (fv y) = 0 ↔ ((x = 0 ∨ x = 2147483648) ∨ (y = 0 ∨ y = 2147483648)) := by
  have eP : mulV (fv x) (fv y) = dv (mv x * mv y) (-149 + (pe x : Int) + (-149 + (pe y : Int))) := by
    have e1 := pe_le fx
    have e2 := pe_le fy
    exact dv_mul (by omega) (by omega) (by omega)
  rw [eP, dv_eq0, Int.mul_eq_zero, mv_zero hx, mv_zero hy]
/-! the code of two floats and a mode -/
def twC (x y : Nat) (mode : Int) : Int := if fin x ∧ fin y then (if modeB mode = true then 0 else 2) else 1
theorem tw_bad {x y : Nat} (mode : Int) (h : ¬ (fin x ∧ fin y)) : twC x y mode = 1 := by unfold twC; rw [if_neg h]
theorem tw_mode {x y : Nat} {mode : Int} (h : fin x ∧ fin y) (hm : modeB mode = false) : twC x y mode = 2 := by unfold twC; rw [if_pos h, hm]; rfl
theorem tw_good {x y : Nat} {mode : Int} (h : fin x ∧ fin y) (hm : modeB mode = true) : twC x y mode = 0 := by unfold twC; rw [if_pos h, hm]; rfl
set_option maxHeartbeats 4000000 in
theorem s_Two4 (x y : Nat) (mode : Int) (w : World) : Calls Tryz.prog 85 #[.float .f32 x, .float .f32 y, .int .i64 mode] w fun e w' => e = .returned (.int .i64 (twC x y mode)) ∧ ∃ n, w' = w.drewN n := by
  by_cases h1 : fin x
  · have p1 : decide (fin x) = true := decide_eq_true h1
    by_cases h2 : fin y
    · have p2 : decide (fin y) = true := decide_eq_true h2
      cases h3 : modeB mode
      · have HV := Hd.mk (tw_mode ⟨h1, h2⟩ h3)
        clear h1 h2
        go_enter Tryz.func85, Tryz.ntmps85
        go_wp2_with (first | (go_at_call 125; (with_reducible refine (s_Finite _ _).mono ?_); rintro e w' ⟨rfl, ⟨nd, rfl⟩⟩) | (go_at_call 154; (with_reducible refine (s_Mode mode _).mono ?_); rintro e w' ⟨rfl, rfl⟩))
        go_ret
        exact ⟨by rw [HV.out] <;> rfl, _, rfl⟩
      · have HV := Hd.mk (tw_good ⟨h1, h2⟩ h3)
        clear h1 h2
        go_enter Tryz.func85, Tryz.ntmps85
        go_wp2_with (first | (go_at_call 125; (with_reducible refine (s_Finite _ _).mono ?_); rintro e w' ⟨rfl, ⟨nd, rfl⟩⟩) | (go_at_call 154; (with_reducible refine (s_Mode mode _).mono ?_); rintro e w' ⟨rfl, rfl⟩))
        go_ret
        exact ⟨by rw [HV.out] <;> rfl, _, rfl⟩
    · have p2 : decide (fin y) = false := decide_eq_false h2
      have HV := Hd.mk (tw_bad (x := x) (y := y) mode (fun k => h2 k.2))
      clear h1 h2
      go_enter Tryz.func85, Tryz.ntmps85
      go_wp2_with (first | (go_at_call 125; (with_reducible refine (s_Finite _ _).mono ?_); rintro e w' ⟨rfl, ⟨nd, rfl⟩⟩) | (go_at_call 154; (with_reducible refine (s_Mode mode _).mono ?_); rintro e w' ⟨rfl, rfl⟩))
      go_ret
      exact ⟨by rw [HV.out] <;> rfl, _, rfl⟩
  · have p1 : decide (fin x) = false := decide_eq_false h1
    have HV := Hd.mk (tw_bad (x := x) (y := y) mode (fun k => h1 k.1))
    clear h1
    go_enter Tryz.func85, Tryz.ntmps85
    go_wp2_with (first | (go_at_call 125; (with_reducible refine (s_Finite _ _).mono ?_); rintro e w' ⟨rfl, ⟨nd, rfl⟩⟩) | (go_at_call 154; (with_reducible refine (s_Mode mode _).mono ?_); rintro e w' ⟨rfl, rfl⟩))
    go_ret
    exact ⟨by rw [HV.out] <;> rfl, _, rfl⟩
/-! the answers of FusedIn -/
def fuC (x y z : Nat) (mode : Int) : Int := if fin x ∧ fin y ∧ fin z then (if modeB mode = true then 0 else 2) else 1
def fuF (x y z : Nat) (mode : Int) : Nat := if fuC x y z mode = 0 then sum4 (mulV (fv x) (fv y)) (fv z) (mB x != mB y) (mB z) mode else 0
def fuL (x y z : Nat) (mode : Int) : Int := if fuC x y z mode = 0 then rFl mode (mulV (fv x) (fv y) + fv z) else 0
theorem fu_not {x y z : Nat} {mode c : Int} (h : fuC x y z mode = c) (hc : c ≠ 0) : fuC x y z mode = c ∧ fuF x y z mode = 0 ∧ fuL x y z mode = 0 :=
  ⟨h, by unfold fuF; rw [h, if_neg hc], by unfold fuL; rw [h, if_neg hc]⟩
theorem fu_bad {x y z : Nat} (mode : Int) (h : ¬ (fin x ∧ fin y ∧ fin z)) : fuC x y z mode = 1 ∧ fuF x y z mode = 0 ∧ fuL x y z mode = 0 := fu_not (by unfold fuC; rw [if_neg h]) (by omega)
theorem fu_mode {x y z : Nat} {mode : Int} (h : fin x ∧ fin y ∧ fin z) (hm : modeB mode = false) : fuC x y z mode = 2 ∧ fuF x y z mode = 0 ∧ fuL x y z mode = 0 := fu_not (by unfold fuC; rw [if_pos h, hm]; rfl) (by omega)
theorem fu_good {x y z : Nat} {mode : Int} (h : fin x ∧ fin y ∧ fin z) (hm : modeB mode = true) : fuC x y z mode = 0 ∧ fuF x y z mode = sum4 (mulV (fv x) (fv y)) (fv z) (mB x != mB y) (mB z) mode ∧ fuL x y z mode = rFl mode (mulV (fv x) (fv y) + fv z) := by
  have h1 : fuC x y z mode = 0 := by unfold fuC; rw [if_pos h, hm]; rfl
  exact ⟨h1, by unfold fuF; rw [h1]; rfl, by unfold fuL; rw [h1]; rfl⟩
theorem sum4_num (V U : Int) (b1 b2 : Bool) (mode : Int) : W (sum4 V U b1 b2 mode) ∧ ¬ nan (sum4 V U b1 b2 mode) := by
  unfold sum4; split
  · split <;> exact szF_num _
  · exact rF_num _ _
theorem fu_num (x y z : Nat) (mode : Int) : ¬ nan (fuF x y z mode) := by
  unfold fuF; split
  · exact (sum4_num _ _ _ _ _).2
  · decide
def RetFU (x y z : Nat) (mode : Int) (w : World) : Ending → World → Prop := RetV (.tuple #[.float .f32 (fuF x y z mode), .int .i64 (fuL x y z mode), .int .i64 (fuC x y z mode)]) w
theorem i_minusZero (w : World) : Calls Tryz.prog 190 #[] w fun e w' => e = .returned (.float .f32 2147483648) ∧ w = w' := by
  have k := run_f32frombits
  go_enter Tryz.func190, Tryz.ntmps190
  go_wp2
  go_ret
  exact ⟨rfl, rfl⟩
def zsF (alike neg : Bool) (mode : Int) : Nat := if alike = true then szF neg else szF (decide (mode = 1))
theorem i_zeroSum (alike neg : Bool) (mode : Int) (w : World) : Calls Tryz.prog 116 #[.bool alike, .bool neg, .int .i64 mode] w fun e w' => e = .returned (.float .f32 (zsF alike neg mode)) ∧ w = w' := by
  have hm : (mode == 1) = decide (mode = 1) := by
    by_cases h : mode = 1
    · subst h; rfl
    · rw [decide_eq_false h]; simpa using h
  unfold zsF
  generalize decide (mode = 1) = bm at *
  cases alike
  · cases bm
    · cases neg
      · go_enter Tryz.func116, Tryz.ntmps116
        go_wp2_with (go_at_call 190; (with_reducible refine (i_minusZero _).mono ?_); rintro e w' ⟨rfl, rfl⟩)
        go_ret
        exact ⟨rfl, rfl⟩
      · go_enter Tryz.func116, Tryz.ntmps116
        go_wp2_with (go_at_call 190; (with_reducible refine (i_minusZero _).mono ?_); rintro e w' ⟨rfl, rfl⟩)
        go_ret
        exact ⟨rfl, rfl⟩
    · cases neg
      · go_enter Tryz.func116, Tryz.ntmps116
        go_wp2_with (go_at_call 190; (with_reducible refine (i_minusZero _).mono ?_); rintro e w' ⟨rfl, rfl⟩)
        go_ret
        exact ⟨rfl, rfl⟩
      · go_enter Tryz.func116, Tryz.ntmps116
        go_wp2_with (go_at_call 190; (with_reducible refine (i_minusZero _).mono ?_); rintro e w' ⟨rfl, rfl⟩)
        go_ret
        exact ⟨rfl, rfl⟩
  · cases neg
    · go_enter Tryz.func116, Tryz.ntmps116
      go_wp2_with (go_at_call 190; (with_reducible refine (i_minusZero _).mono ?_); rintro e w' ⟨rfl, rfl⟩)
      go_ret
      exact ⟨rfl, rfl⟩
    · go_enter Tryz.func116, Tryz.ntmps116
      go_wp2_with (go_at_call 190; (with_reducible refine (i_minusZero _).mono ?_); rintro e w' ⟨rfl, rfl⟩)
      go_ret
      exact ⟨rfl, rfl⟩
theorem i_areFinite3 (g c a b d : Nat) (w : World) (ha : W a) (hb : W b) (hd : W d) (c0 : w.cell? ⟨g, 0, none⟩ = some (.float .f32 a)) (c1 : w.cell? ⟨g, 1, none⟩ = some (.float .f32 b)) (c2 : w.cell? ⟨g, 2, none⟩ = some (.float .f32 d)) :
    Calls Tryz.prog 88 #[.slice (some ⟨g, 0, none⟩) 3 c] w fun e w' => e = .returned (.bool (decide (fin a ∧ fin b ∧ fin d))) ∧ w = w' := by
  have h := i_areFinite g 0 3 c [a, b, d] w rfl (by decide) (by intro x hx; simp at hx; rcases hx with rfl | rfl | rfl; exact ha; exact hb; exact hd) (by
    intro j hj
    obtain rfl | rfl | rfl : j = 0 ∨ j = 1 ∨ j = 2 := by omega
    · exact c0
    · exact c1
    · exact c2)
  simpa [allFin] using h
set_option maxHeartbeats 4000000 in
theorem i_FusedN (x y z : Nat) (mode sg : Int) (w : World) (hx : W x) (hy : W y) (hz : W z) (h : fin x ∧ fin y ∧ fin z) (hm : modeB mode = true) (hV : (mulV (fv x) (fv y) + fv z).sign = sg) (hs : (sg == 0) = false) :
    Calls Tryz.prog 42 #[.float .f32 x, .float .f32 y, .float .f32 z, .int .i64 mode] w (RetFU x y z mode w) := by
  have HA := Hd.mk (fun (g c : Nat) (w : World) => i_areFinite3 g c x y z w hx hy hz)
  rw [decide_eq_true h] at HA
  have HM := Hd.mk (fun w => i_Mode mode w)
  rw [hm] at HM
  have HV := Hd.mk (fu_good h hm)
  have HSG := Hd.mk hV
  have HNE : Hd (sum4 (mulV (fv x) (fv y)) (fv z) (mB x != mB y) (mB z) mode = rF mode (mulV (fv x) (fv y) + fv z)) := ⟨by
    unfold sum4; rw [if_neg (fun k => by rw [k] at hV; rw [← hV] at hs; cases hs)]⟩
  have HX : Hd (W x ∧ fin x ∧ W y ∧ fin y ∧ W z ∧ fin z ∧ Bd (mulV (fv x) (fv y)) ∧ Bd (mulV (fv x) (fv y) + fv z) ∧ (0 ≤ mode ∧ mode ≤ 4)) := ⟨⟨hx, h.1, hy, h.2.1, hz, h.2.2, mul_bd h.1 h.2.1, mul_bd1 h.1 h.2.1 h.2.2, modeB_of hm⟩⟩
  clear hx hy hz h hm hV
  go_enter Tryz.func42, Tryz.ntmps42
  go_wp2_with (first | (first | (go_at_call 88; (with_reducible refine (HA.out _ _ _ (by go_simp) (by go_simp) (by go_simp)).mono ?_); rintro e w' ⟨rfl, rfl⟩) | (go_at_call 102; (with_reducible refine (HM.out _).mono ?_); rintro e w' ⟨rfl, rfl⟩) | (go_at_call 111; (with_reducible refine (n_OfB x _ HX.out.1 HX.out.2.1).mono ?_); rintro e3 w3 ⟨g3, x3, rfl, hx3, hN, hb⟩; have hq : Below w.heap.size w w3 := bt3 hb (by (repeat (first | exact Below.refl _ _ | assumption | refine Below.drew ?_ | refine bdn ?_ | refine ba _ ?_ | refine bs0 _ _ ?_ ?_ | refine bs1 _ _ _ ?_ ?_ | refine bs2 _ _ _ _ ?_ ?_ | refine bs3 _ _ _ _ _ ?_ ?_ | refine bt3 (by assumption) ?_))); have H3 := Hd.mk hN; clear hN hb) | (go_at_call 111; (with_reducible refine (n_OfB y _ HX.out.2.2.1 HX.out.2.2.2.1).mono ?_); rintro e4 w4 ⟨g4, x4, rfl, hx4, hN, hb⟩; replace hq : Below w.heap.size w w4 := bt3 hb hq; replace H3 := Hd.mk (H3.out.below hb); have H4 := Hd.mk hN; clear hN hb) | (go_at_call 112; (with_reducible refine (n_Mul g3 g4 x3 x4 (fv x) (fv y) 149 149 _ H3.out H4.out sc298 (by omega) HX.out.2.2.2.2.2.2.1).mono ?_); rintro e5 w5 ⟨g5, x5, rfl, hN, hb⟩; replace hq : Below w.heap.size w w5 := bt3 hb hq; have H5 := Hd.mk hN; clear hN hb) | (go_at_call 111; (with_reducible refine (n_OfB z _ HX.out.2.2.2.2.1 HX.out.2.2.2.2.2.1).mono ?_); rintro e6 w6 ⟨g6, x6, rfl, hx6, hN, hb⟩; replace hq : Below w.heap.size w w6 := bt3 hb hq; replace H5 := Hd.mk (H5.out.below hb); have H6 := Hd.mk hN; clear hN hb) | (go_at_call 113; (with_reducible refine (n_Add g5 g6 x5 x6 (mulV (fv x) (fv y)) (fv z) (149 + 149) _ H5.out (H6.out.more sc149 sc298) HX.out.2.2.2.2.2.2.2.1).mono ?_); rintro e7 w7 ⟨g7, x7, rfl, hN, hb⟩; replace hq : Below w.heap.size w w7 := bt3 hb hq; have H7 := Hd.mk hN; clear hN hb) | (go_at_call 114; (with_reducible refine (n_SignR g7 x7 (mulV (fv x) (fv y) + fv z) _ (149 + 149) _ HSG.out (H7.out.below (by (repeat (first | exact Below.refl _ _ | assumption | refine Below.drew ?_ | refine bdn ?_ | refine ba _ ?_ | refine bs0 _ _ ?_ ?_ | refine bs1 _ _ _ ?_ ?_ | refine bs2 _ _ _ _ ?_ ?_ | refine bs3 _ _ _ _ _ ?_ ?_ | refine bt3 (by assumption) ?_))))).mono ?_); rintro e8 w8 ⟨rfl, hb⟩; have hb0 := hb; obtain ⟨hc, hf, hz, hy⟩ := bcell hb; have hsz := hb.size; (try simp at hsz); have k0 : w7.heap.size < w8.heap.size := (by omega); replace hq : Below w.heap.size w w8 := bt3 hb (by (repeat (first | exact Below.refl _ _ | assumption | refine Below.drew ?_ | refine bdn ?_ | refine ba _ ?_ | refine bs0 _ _ ?_ ?_ | refine bs1 _ _ _ ?_ ?_ | refine bs2 _ _ _ _ ?_ ?_ | refine bs3 _ _ _ _ _ ?_ ?_ | refine bt3 (by assumption) ?_))); replace H7 := Hd.mk (H7.out.below (bt3 hb (by (repeat (first | exact Below.refl _ _ | assumption | refine Below.drew ?_ | refine bdn ?_ | refine ba _ ?_ | refine bs0 _ _ ?_ ?_ | refine bs1 _ _ _ ?_ ?_ | refine bs2 _ _ _ _ ?_ ?_ | refine bs3 _ _ _ _ _ ?_ ?_ | refine bt3 (by assumption) ?_))))); clear hb hsz)) | (go_at_call 117; (with_reducible refine (n_Round g7 x7 (mulV (fv x) (fv y) + fv z) mode (149 + 149) _ (H7.out.below (by (repeat (first | exact Below.refl _ _ | assumption | refine Below.drew ?_ | refine bdn ?_ | refine ba _ ?_ | refine bs0 _ _ ?_ ?_ | refine bs1 _ _ _ ?_ ?_ | refine bs2 _ _ _ _ ?_ ?_ | refine bs3 _ _ _ _ _ ?_ ?_ | refine bt3 (by assumption) ?_)))) HX.out.2.2.2.2.2.2.2.2).mono ?_); rintro e9 w9 ⟨rfl, hb⟩; have HB9 : Hd (Below w.heap.size w w9) := ⟨bt3 hb (by (repeat (first | exact Below.refl _ _ | assumption | refine Below.drew ?_ | refine bdn ?_ | refine ba _ ?_ | refine bs0 _ _ ?_ ?_ | refine bs1 _ _ _ ?_ ?_ | refine bs2 _ _ _ _ ?_ ?_ | refine bs3 _ _ _ _ _ ?_ ?_ | refine bt3 (by assumption) ?_)))⟩; clear hb))
  go_ret3
  exact ⟨by rw [HV.out.1, HV.out.2.1, HV.out.2.2, HNE.out] <;> rfl, HB9.out⟩
set_option maxHeartbeats 4000000 in
theorem i_FusedZ (x y z : Nat) (mode : Int) (w : World) (hx : W x) (hy : W y) (hz : W z) (h : fin x ∧ fin y ∧ fin z) (hm : modeB mode = true) (hV : mulV (fv x) (fv y) + fv z = 0) :
    Calls Tryz.prog 42 #[.float .f32 x, .float .f32 y, .float .f32 z, .int .i64 mode] w (RetFU x y z mode w) := by
  have HA := Hd.mk (fun (g c : Nat) (w : World) => i_areFinite3 g c x y z w hx hy hz)
  rw [decide_eq_true h] at HA
  have HM := Hd.mk (fun w => i_Mode mode w)
  rw [hm] at HM
  have HV := Hd.mk (fu_good h hm)
  have HSG : Hd ((mulV (fv x) (fv y) + fv z).sign = 0) := ⟨by rw [hV]; rfl⟩
  have HFL : Hd (rFl mode (mulV (fv x) (fv y) + fv z) = 0) := ⟨by rw [hV]; rfl⟩
  have ex := o_eq0 x hx
  have ey := o_eq0 y hy
  have ez := o_eq0 z hz
  have hP := mulV_zero hx hy h.1 h.2.1
  have hZ := fv_zero hz
  have hS : sum4 (mulV (fv x) (fv y)) (fv z) (mB x != mB y) (mB z) mode = if mulV (fv x) (fv y) = 0 ∧ (mB x != mB y) = mB z then szF (mB x != mB y) else szF (decide (mode = 1)) := by
    unfold sum4; rw [if_pos hV]
  have HX : Hd (W x ∧ fin x ∧ W y ∧ fin y ∧ W z ∧ fin z ∧ Bd (mulV (fv x) (fv y)) ∧ Bd (mulV (fv x) (fv y) + fv z) ∧ (0 ≤ mode ∧ mode ≤ 4)) := ⟨⟨hx, h.1, hy, h.2.1, hz, h.2.2, mul_bd h.1 h.2.1, mul_bd1 h.1 h.2.1 h.2.2, modeB_of hm⟩⟩
  clear hx hy hz h hm
  by_cases h1 : mulV (fv x) (fv y) = 0
  · have hz0 : z = 0 ∨ z = 2147483648 := hZ.1 (by omega)
    rw [decide_eq_true hz0] at ez
    have HS : Hd (sum4 (mulV (fv x) (fv y)) (fv z) (mB x != mB y) (mB z) mode = zsF ((mB x != mB y) == mB z) (mB x != mB y) mode) := ⟨by
      rw [hS]; unfold zsF
      by_cases hb : (mB x != mB y) = mB z
      · rw [if_pos ⟨h1, hb⟩, if_pos (by rw [hb]; simp)]
      · rw [if_neg (fun k => hb k.2), if_neg (by simpa using hb)]⟩
    have hxy := hP.1 h1
    clear hP hZ hS hV h1 hz0
    by_cases hx0 : x = 0 ∨ x = 2147483648
    · rw [decide_eq_true hx0] at ex
      clear hxy hx0
      go_enter Tryz.func42, Tryz.ntmps42
      go_wp2_with (first | (first | (go_at_call 88; (with_reducible refine (HA.out _ _ _ (by go_simp) (by go_simp) (by go_simp)).mono ?_); rintro e w' ⟨rfl, rfl⟩) | (go_at_call 102; (with_reducible refine (HM.out _).mono ?_); rintro e w' ⟨rfl, rfl⟩) | (go_at_call 111; (with_reducible refine (n_OfB x _ HX.out.1 HX.out.2.1).mono ?_); rintro e3 w3 ⟨g3, x3, rfl, hx3, hN, hb⟩; have hq : Below w.heap.size w w3 := bt3 hb (by (repeat (first | exact Below.refl _ _ | assumption | refine Below.drew ?_ | refine bdn ?_ | refine ba _ ?_ | refine bs0 _ _ ?_ ?_ | refine bs1 _ _ _ ?_ ?_ | refine bs2 _ _ _ _ ?_ ?_ | refine bs3 _ _ _ _ _ ?_ ?_ | refine bt3 (by assumption) ?_))); have H3 := Hd.mk hN; clear hN hb) | (go_at_call 111; (with_reducible refine (n_OfB y _ HX.out.2.2.1 HX.out.2.2.2.1).mono ?_); rintro e4 w4 ⟨g4, x4, rfl, hx4, hN, hb⟩; replace hq : Below w.heap.size w w4 := bt3 hb hq; replace H3 := Hd.mk (H3.out.below hb); have H4 := Hd.mk hN; clear hN hb) | (go_at_call 112; (with_reducible refine (n_Mul g3 g4 x3 x4 (fv x) (fv y) 149 149 _ H3.out H4.out sc298 (by omega) HX.out.2.2.2.2.2.2.1).mono ?_); rintro e5 w5 ⟨g5, x5, rfl, hN, hb⟩; replace hq : Below w.heap.size w w5 := bt3 hb hq; have H5 := Hd.mk hN; clear hN hb) | (go_at_call 111; (with_reducible refine (n_OfB z _ HX.out.2.2.2.2.1 HX.out.2.2.2.2.2.1).mono ?_); rintro e6 w6 ⟨g6, x6, rfl, hx6, hN, hb⟩; replace hq : Below w.heap.size w w6 := bt3 hb hq; replace H5 := Hd.mk (H5.out.below hb); have H6 := Hd.mk hN; clear hN hb) | (go_at_call 113; (with_reducible refine (n_Add g5 g6 x5 x6 (mulV (fv x) (fv y)) (fv z) (149 + 149) _ H5.out (H6.out.more sc149 sc298) HX.out.2.2.2.2.2.2.2.1).mono ?_); rintro e7 w7 ⟨g7, x7, rfl, hN, hb⟩; replace hq : Below w.heap.size w w7 := bt3 hb hq; have H7 := Hd.mk hN; clear hN hb) | (go_at_call 114; (with_reducible refine (n_SignR g7 x7 (mulV (fv x) (fv y) + fv z) _ (149 + 149) _ HSG.out (H7.out.below (by (repeat (first | exact Below.refl _ _ | assumption | refine Below.drew ?_ | refine bdn ?_ | refine ba _ ?_ | refine bs0 _ _ ?_ ?_ | refine bs1 _ _ _ ?_ ?_ | refine bs2 _ _ _ _ ?_ ?_ | refine bs3 _ _ _ _ _ ?_ ?_ | refine bt3 (by assumption) ?_))))).mono ?_); rintro e8 w8 ⟨rfl, hb⟩; have hb0 := hb; obtain ⟨hc, hf, hz, hy⟩ := bcell hb; have hsz := hb.size; (try simp at hsz); have k0 : w7.heap.size < w8.heap.size := (by omega); replace hq : Below w.heap.size w w8 := bt3 hb (by (repeat (first | exact Below.refl _ _ | assumption | refine Below.drew ?_ | refine bdn ?_ | refine ba _ ?_ | refine bs0 _ _ ?_ ?_ | refine bs1 _ _ _ ?_ ?_ | refine bs2 _ _ _ _ ?_ ?_ | refine bs3 _ _ _ _ _ ?_ ?_ | refine bt3 (by assumption) ?_))); replace H7 := Hd.mk (H7.out.below (bt3 hb (by (repeat (first | exact Below.refl _ _ | assumption | refine Below.drew ?_ | refine bdn ?_ | refine ba _ ?_ | refine bs0 _ _ ?_ ?_ | refine bs1 _ _ _ ?_ ?_ | refine bs2 _ _ _ _ ?_ ?_ | refine bs3 _ _ _ _ _ ?_ ?_ | refine bt3 (by assumption) ?_))))); clear hb hsz)) | (go_at_call 115; (with_reducible refine (i_minus x _).mono ?_); rintro e w' ⟨rfl, rfl⟩) | (go_at_call 115; (with_reducible refine (i_minus y _).mono ?_); rintro e w' ⟨rfl, rfl⟩) | (go_at_call 115; (with_reducible refine (i_minus z _).mono ?_); rintro e w' ⟨rfl, rfl⟩) | (go_at_call 116; (with_reducible refine (i_zeroSum _ _ mode _).mono ?_); rintro e w' ⟨rfl, rfl⟩))
      go_ret3
      exact ⟨by rw [HV.out.1, HV.out.2.1, HV.out.2.2, HFL.out, HS.out] <;> rfl, by (repeat (first | exact Below.refl _ _ | assumption | refine Below.drew ?_ | refine bdn ?_ | refine ba _ ?_ | refine bs0 _ _ ?_ ?_ | refine bs1 _ _ _ ?_ ?_ | refine bs2 _ _ _ _ ?_ ?_ | refine bs3 _ _ _ _ _ ?_ ?_ | refine bt3 (by assumption) ?_))⟩
    · have hy0 : y = 0 ∨ y = 2147483648 := by rcases hxy with k | k; exact absurd k hx0; exact k
      rw [decide_eq_false hx0] at ex
      rw [decide_eq_true hy0] at ey
      clear hxy hx0 hy0
      go_enter Tryz.func42, Tryz.ntmps42
      go_wp2_with (first | (first | (go_at_call 88; (with_reducible refine (HA.out _ _ _ (by go_simp) (by go_simp) (by go_simp)).mono ?_); rintro e w' ⟨rfl, rfl⟩) | (go_at_call 102; (with_reducible refine (HM.out _).mono ?_); rintro e w' ⟨rfl, rfl⟩) | (go_at_call 111; (with_reducible refine (n_OfB x _ HX.out.1 HX.out.2.1).mono ?_); rintro e3 w3 ⟨g3, x3, rfl, hx3, hN, hb⟩; have hq : Below w.heap.size w w3 := bt3 hb (by (repeat (first | exact Below.refl _ _ | assumption | refine Below.drew ?_ | refine bdn ?_ | refine ba _ ?_ | refine bs0 _ _ ?_ ?_ | refine bs1 _ _ _ ?_ ?_ | refine bs2 _ _ _ _ ?_ ?_ | refine bs3 _ _ _ _ _ ?_ ?_ | refine bt3 (by assumption) ?_))); have H3 := Hd.mk hN; clear hN hb) | (go_at_call 111; (with_reducible refine (n_OfB y _ HX.out.2.2.1 HX.out.2.2.2.1).mono ?_); rintro e4 w4 ⟨g4, x4, rfl, hx4, hN, hb⟩; replace hq : Below w.heap.size w w4 := bt3 hb hq; replace H3 := Hd.mk (H3.out.below hb); have H4 := Hd.mk hN; clear hN hb) | (go_at_call 112; (with_reducible refine (n_Mul g3 g4 x3 x4 (fv x) (fv y) 149 149 _ H3.out H4.out sc298 (by omega) HX.out.2.2.2.2.2.2.1).mono ?_); rintro e5 w5 ⟨g5, x5, rfl, hN, hb⟩; replace hq : Below w.heap.size w w5 := bt3 hb hq; have H5 := Hd.mk hN; clear hN hb) | (go_at_call 111; (with_reducible refine (n_OfB z _ HX.out.2.2.2.2.1 HX.out.2.2.2.2.2.1).mono ?_); rintro e6 w6 ⟨g6, x6, rfl, hx6, hN, hb⟩; replace hq : Below w.heap.size w w6 := bt3 hb hq; replace H5 := Hd.mk (H5.out.below hb); have H6 := Hd.mk hN; clear hN hb) | (go_at_call 113; (with_reducible refine (n_Add g5 g6 x5 x6 (mulV (fv x) (fv y)) (fv z) (149 + 149) _ H5.out (H6.out.more sc149 sc298) HX.out.2.2.2.2.2.2.2.1).mono ?_); rintro e7 w7 ⟨g7, x7, rfl, hN, hb⟩; replace hq : Below w.heap.size w w7 := bt3 hb hq; have H7 := Hd.mk hN; clear hN hb) | (go_at_call 114; (with_reducible refine (n_SignR g7 x7 (mulV (fv x) (fv y) + fv z) _ (149 + 149) _ HSG.out (H7.out.below (by (repeat (first | exact Below.refl _ _ | assumption | refine Below.drew ?_ | refine bdn ?_ | refine ba _ ?_ | refine bs0 _ _ ?_ ?_ | refine bs1 _ _ _ ?_ ?_ | refine bs2 _ _ _ _ ?_ ?_ | refine bs3 _ _ _ _ _ ?_ ?_ | refine bt3 (by assumption) ?_))))).mono ?_); rintro e8 w8 ⟨rfl, hb⟩; have hb0 := hb; obtain ⟨hc, hf, hz, hy⟩ := bcell hb; have hsz := hb.size; (try simp at hsz); have k0 : w7.heap.size < w8.heap.size := (by omega); replace hq : Below w.heap.size w w8 := bt3 hb (by (repeat (first | exact Below.refl _ _ | assumption | refine Below.drew ?_ | refine bdn ?_ | refine ba _ ?_ | refine bs0 _ _ ?_ ?_ | refine bs1 _ _ _ ?_ ?_ | refine bs2 _ _ _ _ ?_ ?_ | refine bs3 _ _ _ _ _ ?_ ?_ | refine bt3 (by assumption) ?_))); replace H7 := Hd.mk (H7.out.below (bt3 hb (by (repeat (first | exact Below.refl _ _ | assumption | refine Below.drew ?_ | refine bdn ?_ | refine ba _ ?_ | refine bs0 _ _ ?_ ?_ | refine bs1 _ _ _ ?_ ?_ | refine bs2 _ _ _ _ ?_ ?_ | refine bs3 _ _ _ _ _ ?_ ?_ | refine bt3 (by assumption) ?_))))); clear hb hsz)) | (go_at_call 115; (with_reducible refine (i_minus x _).mono ?_); rintro e w' ⟨rfl, rfl⟩) | (go_at_call 115; (with_reducible refine (i_minus y _).mono ?_); rintro e w' ⟨rfl, rfl⟩) | (go_at_call 115; (with_reducible refine (i_minus z _).mono ?_); rintro e w' ⟨rfl, rfl⟩) | (go_at_call 116; (with_reducible refine (i_zeroSum _ _ mode _).mono ?_); rintro e w' ⟨rfl, rfl⟩))
      go_ret3
      exact ⟨by rw [HV.out.1, HV.out.2.1, HV.out.2.2, HFL.out, HS.out] <;> rfl, by (repeat (first | exact Below.refl _ _ | assumption | refine Below.drew ?_ | refine bdn ?_ | refine ba _ ?_ | refine bs0 _ _ ?_ ?_ | refine bs1 _ _ _ ?_ ?_ | refine bs2 _ _ _ _ ?_ ?_ | refine bs3 _ _ _ _ _ ?_ ?_ | refine bt3 (by assumption) ?_))⟩
  · have HS : Hd (sum4 (mulV (fv x) (fv y)) (fv z) (mB x != mB y) (mB z) mode = zsF false (mB x != mB y) mode) := ⟨by
      rw [hS, if_neg (fun k => h1 k.1)]; rfl⟩
    have hx0 : ¬ (x = 0 ∨ x = 2147483648) := fun k => h1 (hP.2 (Or.inl k))
    have hy0 : ¬ (y = 0 ∨ y = 2147483648) := fun k => h1 (hP.2 (Or.inr k))
    rw [decide_eq_false hx0] at ex
    rw [decide_eq_false hy0] at ey
    clear hP hZ hS hV h1 hx0 hy0
    go_enter Tryz.func42, Tryz.ntmps42
    go_wp2_with (first | (first | (go_at_call 88; (with_reducible refine (HA.out _ _ _ (by go_simp) (by go_simp) (by go_simp)).mono ?_); rintro e w' ⟨rfl, rfl⟩) | (go_at_call 102; (with_reducible refine (HM.out _).mono ?_); rintro e w' ⟨rfl, rfl⟩) | (go_at_call 111; (with_reducible refine (n_OfB x _ HX.out.1 HX.out.2.1).mono ?_); rintro e3 w3 ⟨g3, x3, rfl, hx3, hN, hb⟩; have hq : Below w.heap.size w w3 := bt3 hb (by (repeat (first | exact Below.refl _ _ | assumption | refine Below.drew ?_ | refine bdn ?_ | refine ba _ ?_ | refine bs0 _ _ ?_ ?_ | refine bs1 _ _ _ ?_ ?_ | refine bs2 _ _ _ _ ?_ ?_ | refine bs3 _ _ _ _ _ ?_ ?_ | refine bt3 (by assumption) ?_))); have H3 := Hd.mk hN; clear hN hb) | (go_at_call 111; (with_reducible refine (n_OfB y _ HX.out.2.2.1 HX.out.2.2.2.1).mono ?_); rintro e4 w4 ⟨g4, x4, rfl, hx4, hN, hb⟩; replace hq : Below w.heap.size w w4 := bt3 hb hq; replace H3 := Hd.mk (H3.out.below hb); have H4 := Hd.mk hN; clear hN hb) | (go_at_call 112; (with_reducible refine (n_Mul g3 g4 x3 x4 (fv x) (fv y) 149 149 _ H3.out H4.out sc298 (by omega) HX.out.2.2.2.2.2.2.1).mono ?_); rintro e5 w5 ⟨g5, x5, rfl, hN, hb⟩; replace hq : Below w.heap.size w w5 := bt3 hb hq; have H5 := Hd.mk hN; clear hN hb) | (go_at_call 111; (with_reducible refine (n_OfB z _ HX.out.2.2.2.2.1 HX.out.2.2.2.2.2.1).mono ?_); rintro e6 w6 ⟨g6, x6, rfl, hx6, hN, hb⟩; replace hq : Below w.heap.size w w6 := bt3 hb hq; replace H5 := Hd.mk (H5.out.below hb); have H6 := Hd.mk hN; clear hN hb) | (go_at_call 113; (with_reducible refine (n_Add g5 g6 x5 x6 (mulV (fv x) (fv y)) (fv z) (149 + 149) _ H5.out (H6.out.more sc149 sc298) HX.out.2.2.2.2.2.2.2.1).mono ?_); rintro e7 w7 ⟨g7, x7, rfl, hN, hb⟩; replace hq : Below w.heap.size w w7 := bt3 hb hq; have H7 := Hd.mk hN; clear hN hb) | (go_at_call 114; (with_reducible refine (n_SignR g7 x7 (mulV (fv x) (fv y) + fv z) _ (149 + 149) _ HSG.out (H7.out.below (by (repeat (first | exact Below.refl _ _ | assumption | refine Below.drew ?_ | refine bdn ?_ | refine ba _ ?_ | refine bs0 _ _ ?_ ?_ | refine bs1 _ _ _ ?_ ?_ | refine bs2 _ _ _ _ ?_ ?_ | refine bs3 _ _ _ _ _ ?_ ?_ | refine bt3 (by assumption) ?_))))).mono ?_); rintro e8 w8 ⟨rfl, hb⟩; have hb0 := hb; obtain ⟨hc, hf, hz, hy⟩ := bcell hb; have hsz := hb.size; (try simp at hsz); have k0 : w7.heap.size < w8.heap.size := (by omega); replace hq : Below w.heap.size w w8 := bt3 hb (by (repeat (first | exact Below.refl _ _ | assumption | refine Below.drew ?_ | refine bdn ?_ | refine ba _ ?_ | refine bs0 _ _ ?_ ?_ | refine bs1 _ _ _ ?_ ?_ | refine bs2 _ _ _ _ ?_ ?_ | refine bs3 _ _ _ _ _ ?_ ?_ | refine bt3 (by assumption) ?_))); replace H7 := Hd.mk (H7.out.below (bt3 hb (by (repeat (first | exact Below.refl _ _ | assumption | refine Below.drew ?_ | refine bdn ?_ | refine ba _ ?_ | refine bs0 _ _ ?_ ?_ | refine bs1 _ _ _ ?_ ?_ | refine bs2 _ _ _ _ ?_ ?_ | refine bs3 _ _ _ _ _ ?_ ?_ | refine bt3 (by assumption) ?_))))); clear hb hsz)) | (go_at_call 115; (with_reducible refine (i_minus x _).mono ?_); rintro e w' ⟨rfl, rfl⟩) | (go_at_call 115; (with_reducible refine (i_minus y _).mono ?_); rintro e w' ⟨rfl, rfl⟩) | (go_at_call 115; (with_reducible refine (i_minus z _).mono ?_); rintro e w' ⟨rfl, rfl⟩) | (go_at_call 116; (with_reducible refine (i_zeroSum _ _ mode _).mono ?_); rintro e w' ⟨rfl, rfl⟩))
    go_ret3
    exact ⟨by rw [HV.out.1, HV.out.2.1, HV.out.2.2, HFL.out, HS.out] <;> rfl, by (repeat (first | exact Below.refl _ _ | assumption | refine Below.drew ?_ | refine bdn ?_ | refine ba _ ?_ | refine bs0 _ _ ?_ ?_ | refine bs1 _ _ _ ?_ ?_ | refine bs2 _ _ _ _ ?_ ?_ | refine bs3 _ _ _ _ _ ?_ ?_ | refine bt3 (by assumption) ?_))⟩
set_option maxHeartbeats 4000000 in
theorem i_FusedIn (x y z : Nat) (mode : Int) (w : World) (hx : W x) (hy : W y) (hz : W z) :
    Calls Tryz.prog 42 #[.float .f32 x, .float .f32 y, .float .f32 z, .int .i64 mode] w (RetFU x y z mode w) := by
  by_cases h : fin x ∧ fin y ∧ fin z
  · cases hm : modeB mode
    · have HA := Hd.mk (fun (g c : Nat) (w : World) => i_areFinite3 g c x y z w hx hy hz)
      rw [decide_eq_true h] at HA
      have HM := Hd.mk (fun w => i_Mode mode w)
      rw [hm] at HM
      have HV := Hd.mk (fu_mode h hm)
      clear hx hy hz h hm
      go_enter Tryz.func42, Tryz.ntmps42
      go_wp2_with (first | (go_at_call 88; (with_reducible refine (HA.out _ _ _ (by go_simp) (by go_simp) (by go_simp)).mono ?_); rintro e w' ⟨rfl, rfl⟩) | (go_at_call 102; (with_reducible refine (HM.out _).mono ?_); rintro e w' ⟨rfl, rfl⟩))
      go_ret3
      exact ⟨by rw [HV.out.1, HV.out.2.1, HV.out.2.2] <;> rfl, by (repeat (first | exact Below.refl _ _ | assumption | refine Below.drew ?_ | refine bdn ?_ | refine ba _ ?_ | refine bs0 _ _ ?_ ?_ | refine bs1 _ _ _ ?_ ?_ | refine bs2 _ _ _ _ ?_ ?_ | refine bs3 _ _ _ _ _ ?_ ?_ | refine bt3 (by assumption) ?_))⟩
    · by_cases hV : mulV (fv x) (fv y) + fv z = 0
      · exact i_FusedZ x y z mode w hx hy hz h hm hV
      · exact i_FusedN x y z mode _ w hx hy hz h hm rfl (by simpa [Int.sign_eq_zero_iff_zero] using hV)
  · have HA := Hd.mk (fun (g c : Nat) (w : World) => i_areFinite3 g c x y z w hx hy hz)
    rw [decide_eq_false h] at HA
    have HV := Hd.mk (fu_bad mode h)
    clear hx hy hz h
    go_enter Tryz.func42, Tryz.ntmps42
    go_wp2_with (first | (go_at_call 88; (with_reducible refine (HA.out _ _ _ (by go_simp) (by go_simp) (by go_simp)).mono ?_); rintro e w' ⟨rfl, rfl⟩))
    go_ret3
    exact ⟨by rw [HV.out.1, HV.out.2.1, HV.out.2.2] <;> rfl, by (repeat (first | exact Below.refl _ _ | assumption | refine Below.drew ?_ | refine bdn ?_ | refine ba _ ?_ | refine bs0 _ _ ?_ ?_ | refine bs1 _ _ _ ?_ ?_ | refine bs2 _ _ _ _ ?_ ?_ | refine bs3 _ _ _ _ _ ?_ ?_ | refine bt3 (by assumption) ?_))⟩
end Go.Proofs.YtflgjecpjaiecaaGreat
