/- Gm: S26 S27, merged. -/
import Derived.Test.YtlaaielopcphiaaGk
/- Contracts: sums of exact numbers with signs of zeros, fused products, both sides. -/
set_option linter.unusedVariables false
set_option linter.unusedSimpArgs false
namespace Go.Proofs.Ytlaaielopcphiaa
open Go.RowKit Num Flt
/-- a zero with a sign -/
def szF (b : Bool) : Nat := if b = true then 2147483648 else 0
theorem szF_num (b : Bool) : W (szF b) ∧ ¬ nan (szF b) := by
  cases b
  · exact ⟨by unfold W szF; simp, by decide⟩
  · exact ⟨by unfold W szF; simp, by decide⟩
theorem s_Zero4 (b : Bool) (w : World) : Calls Try.prog 44 #[.bool b] w fun e w' => e = .returned (.float .f32 (szF b)) ∧ w = w' := by
  cases b
  · go_enter Try.func44, Try.ntmps44
    go_wp2
    go_ret
    exact ⟨rfl, rfl⟩
  · go_enter Try.func44, Try.ntmps44
    go_wp2_with (go_at_call 89; (with_reducible refine (s_Turned 0 _ (by unfold W; omega) (by decide)).mono ?_); rintro e w' ⟨rfl, rfl⟩)
    go_ret
    exact ⟨by rfl, rfl⟩
theorem s_Bit4 (x : Nat) (w : World) (hx : W x) (hn : ¬ nan x) :
    Calls Try.prog 45 #[.float .f32 x] w fun e w' => e = .returned (.bool (mB x)) ∧ w = w' := by
  have h := o_eq0 x hx
  have hl : (FloatKind.f32.format.order x 0 == some .lt) = decide (2147483648 < x) := by
    rw [o_lt]; apply decide_eq_decide.2
    have h0 : pl 0 = 0 := by decide
    have hn0 : ¬ nan 0 := by decide
    rw [h0]; unfold W at hx
    constructor
    · rintro ⟨_, _, h⟩; unfold pl at h; split at h <;> omega
    · intro h; refine ⟨hn, hn0, ?_⟩; unfold pl; rw [if_pos (by omega)]; omega
  by_cases h1 : 2147483648 < x
  · rw [show decide (2147483648 < x) = true by simpa using h1] at hl
    rw [show mB x = true by simp [mB]; omega]
    clear h h1 hx hn
    go_enter Try.func45, Try.ntmps45
    go_wp2
    go_ret
    exact ⟨rfl, rfl⟩
  · rw [show decide (2147483648 < x) = false by simpa using h1] at hl
    by_cases h2 : x = 0
    · subst h2
      have k2 := fun w => run_float_arith (P := Try.prog) w .quo 22 .f32 1065353216 0 2139095040 (by kernel_rfl)
      have k3 : (FloatKind.f32.format.order 2139095040 0 == some .lt) = false := by decide
      have k4 : (FloatKind.f32.format.order 0 0 == some .eq) = true := by decide
      clear h
      go_enter Try.func45, Try.ntmps45
      go_wp2
      go_ret
      exact ⟨rfl, rfl⟩
    · by_cases h3 : x = 2147483648
      · subst h3
        have k2 := fun w => run_float_arith (P := Try.prog) w .quo 22 .f32 1065353216 2147483648 4286578688 (by kernel_rfl)
        have k3 : (FloatKind.f32.format.order 4286578688 0 == some .lt) = true := by decide
        have k4 : (FloatKind.f32.format.order 2147483648 0 == some .eq) = true := by decide
        clear h
        go_enter Try.func45, Try.ntmps45
        go_wp2
        go_ret
        exact ⟨rfl, rfl⟩
      · have h' : (FloatKind.f32.format.order x 0 == some .eq) = false := by rw [h]; simp; omega
        rw [show mB x = false by simp [mB]; omega]
        clear h h1 h2 h3 hx hn
        go_enter Try.func45, Try.ntmps45
        go_wp2
        go_ret
        exact ⟨rfl, rfl⟩
/-- a sum of two numbers with signs of zeros, rounded -/
def sum4 (V U : Int) (b1 b2 : Bool) (mode : Int) : Nat := if V + U = 0 then (if V = 0 ∧ b1 = b2 then szF b1 else szF (decide (mode = 1))) else rF mode (V + U)
theorem rFl_zero (mode : Int) : rFl mode 0 = 0 := rfl
def RetF2 (y : Nat) (f : Int) (w : World) : Ending → World → Prop := RetV (.tuple #[.float .f32 y, .int .i64 f]) w
end Go.Proofs.Ytlaaielopcphiaa

/- Contracts: fused products, both sides. -/
set_option linter.unusedVariables false
set_option linter.unusedSimpArgs false
namespace Go.Proofs.Ytlaaielopcphiaa
open Go.RowKit Num Flt
theorem DyP.more {w : World} {s : Int} {A : Option Addr} {n c l l' : Nat} {e V : Int} (h : DyP w s A n c e V l) (hl : l ≤ l') (hs : l' ≤ SC) : DyP w s A n c e V l' := by
  obtain ⟨m, h1, h2⟩ := h
  exact ⟨m, h1, ⟨h2.val, by have := h2.lo; omega, hs, h2.hi, h2.zer, h2.odd, h2.bd⟩⟩
theorem nan_fin {x : Nat} (h : fin x) : ¬ nan x := by unfold fin at h; unfold nan; omega
theorem sc298 : 149 + 149 ≤ SC := by unfold SC; omega
theorem sc149 : 149 ≤ 149 + 149 := by omega
theorem mv_zero {x : Nat} (h : W x) : mv x = 0 ↔ (x = 0 ∨ x = 2147483648) := by
  have h1 := mg_zero (x % 2147483648)
  have h2 : pm x = mg 8388608 (x % 2147483648) := rfl
  unfold W at h
  unfold mv
  split <;> omega
theorem dv_eq0 {m e : Int} : dv m e = 0 ↔ m = 0 := by
  unfold dv
  constructor
  · intro h
    rcases Int.mul_eq_zero.1 h with k | k
    · exact k
    · exact absurd k (Int.ne_of_gt (pow2_pos _))
  · intro h; rw [h, Int.zero_mul]
theorem fv_zero {x : Nat} (h : W x) : fv x = 0 ↔ (x = 0 ∨ x = 2147483648) := by
  unfold fv; rw [dv_eq0, mv_zero h]
theorem mulV_zero {x y : Nat} (hx : W x) (hy : W y) (fx : fin x) (fy : fin y) : mulV (fv x) (fv y) = 0 ↔ ((x = 0 ∨ x = 2147483648) ∨ (y = 0 ∨ y = 2147483648)) := by
  have eP : mulV (fv x) (fv y) = dv (mv x * mv y) (-149 + (pe x : Int) + (-149 + (pe y : Int))) := by
    have e1 := pe_le fx
    have e2 := pe_le fy
    exact dv_mul (by omega) (by omega) (by omega)
  rw [eP, dv_eq0, Int.mul_eq_zero, mv_zero hx, mv_zero hy]
/-! the code of two floats and a mode -/
def twC (x y : Nat) (mode : Int) : Int := if fin x ∧ fin y then (if modeB mode = true then 0 else 2) else 1
theorem tw_bad {x y : Nat} (mode : Int) (h : ¬ (fin x ∧ fin y)) : twC x y mode = 1 := by unfold twC; rw [if_neg h]
theorem tw_mode {x y : Nat} {mode : Int} (h : fin x ∧ fin y) (hm : modeB mode = false) : twC x y mode = 2 := by unfold twC; rw [if_pos h, hm]; rfl
theorem tw_good {x y : Nat} {mode : Int} (h : fin x ∧ fin y) (hm : modeB mode = true) : twC x y mode = 0 := by unfold twC; rw [if_pos h, hm]; rfl
set_option maxHeartbeats 4000000 in
theorem s_Two4 (x y : Nat) (mode : Int) (w : World) : Calls Try.prog 35 #[.float .f32 x, .float .f32 y, .int .i64 mode] w fun e w' => e = .returned (.int .i64 (twC x y mode)) ∧ ∃ n, w' = w.drewN n := by
  by_cases h1 : fin x
  · have p1 : decide (fin x) = true := decide_eq_true h1
    by_cases h2 : fin y
    · have p2 : decide (fin y) = true := decide_eq_true h2
      cases h3 : modeB mode
      · have HV := Hd.mk (tw_mode ⟨h1, h2⟩ h3)
        clear h1 h2
        go_enter Try.func35, Try.ntmps35
        go_wp2_with (first | (go_at_call 60; (with_reducible refine (s_Finite _ _).mono ?_); rintro e w' ⟨rfl, ⟨nd, rfl⟩⟩) | (go_at_call 75; (with_reducible refine (s_Mode mode _).mono ?_); rintro e w' ⟨rfl, rfl⟩))
        go_ret
        exact ⟨by rw [HV.out] <;> rfl, _, rfl⟩
      · have HV := Hd.mk (tw_good ⟨h1, h2⟩ h3)
        clear h1 h2
        go_enter Try.func35, Try.ntmps35
        go_wp2_with (first | (go_at_call 60; (with_reducible refine (s_Finite _ _).mono ?_); rintro e w' ⟨rfl, ⟨nd, rfl⟩⟩) | (go_at_call 75; (with_reducible refine (s_Mode mode _).mono ?_); rintro e w' ⟨rfl, rfl⟩))
        go_ret
        exact ⟨by rw [HV.out] <;> rfl, _, rfl⟩
    · have p2 : decide (fin y) = false := decide_eq_false h2
      have HV := Hd.mk (tw_bad (x := x) (y := y) mode (fun k => h2 k.2))
      clear h1 h2
      go_enter Try.func35, Try.ntmps35
      go_wp2_with (first | (go_at_call 60; (with_reducible refine (s_Finite _ _).mono ?_); rintro e w' ⟨rfl, ⟨nd, rfl⟩⟩) | (go_at_call 75; (with_reducible refine (s_Mode mode _).mono ?_); rintro e w' ⟨rfl, rfl⟩))
      go_ret
      exact ⟨by rw [HV.out] <;> rfl, _, rfl⟩
  · have p1 : decide (fin x) = false := decide_eq_false h1
    have HV := Hd.mk (tw_bad (x := x) (y := y) mode (fun k => h1 k.1))
    clear h1
    go_enter Try.func35, Try.ntmps35
    go_wp2_with (first | (go_at_call 60; (with_reducible refine (s_Finite _ _).mono ?_); rintro e w' ⟨rfl, ⟨nd, rfl⟩⟩) | (go_at_call 75; (with_reducible refine (s_Mode mode _).mono ?_); rintro e w' ⟨rfl, rfl⟩))
    go_ret
    exact ⟨by rw [HV.out] <;> rfl, _, rfl⟩
/-! the answers of FusedIn -/
def fuC (x y z : Nat) (mode : Int) : Int := if fin x ∧ fin y ∧ fin z then (if modeB mode = true then 0 else 2) else 1
def fuF (x y z : Nat) (mode : Int) : Nat := if fuC x y z mode = 0 then sum4 (mulV (fv x) (fv y)) (fv z) (mB x != mB y) (mB z) mode else 0
def fuL (x y z : Nat) (mode : Int) : Int := if fuC x y z mode = 0 then rFl mode (mulV (fv x) (fv y) + fv z) else 0
theorem fu_not {x y z : Nat} {mode c : Int} (h : fuC x y z mode = c) (hc : c ≠ 0) : fuC x y z mode = c ∧ fuF x y z mode = 0 ∧ fuL x y z mode = 0 :=
  ⟨h, by unfold fuF; rw [h, if_neg hc], by unfold fuL; rw [h, if_neg hc]⟩
theorem fu_bad {x y z : Nat} (mode : Int) (h : ¬ (fin x ∧ fin y ∧ fin z)) : fuC x y z mode = 1 ∧ fuF x y z mode = 0 ∧ fuL x y z mode = 0 := fu_not (by unfold fuC; rw [if_neg h]) (by omega)
theorem fu_mode {x y z : Nat} {mode : Int} (h : fin x ∧ fin y ∧ fin z) (hm : modeB mode = false) : fuC x y z mode = 2 ∧ fuF x y z mode = 0 ∧ fuL x y z mode = 0 := fu_not (by unfold fuC; rw [if_pos h, hm]; rfl) (by omega)
theorem fu_good {x y z : Nat} {mode : Int} (h : fin x ∧ fin y ∧ fin z) (hm : modeB mode = true) : fuC x y z mode = 0 ∧ fuF x y z mode = sum4 (mulV (fv x) (fv y)) (fv z) (mB x != mB y) (mB z) mode ∧ fuL x y z mode = rFl mode (mulV (fv x) (fv y) + fv z) := by
  have h1 : fuC x y z mode = 0 := by unfold fuC; rw [if_pos h, hm]; rfl
  exact ⟨h1, by unfold fuF; rw [h1]; rfl, by unfold fuL; rw [h1]; rfl⟩
theorem sum4_num (V U : Int) (b1 b2 : Bool) (mode : Int) : W (sum4 V U b1 b2 mode) ∧ ¬ nan (sum4 V U b1 b2 mode) := by
  unfold sum4; split
  · split <;> exact szF_num _
  · exact rF_num _ _
theorem fu_num (x y z : Nat) (mode : Int) : ¬ nan (fuF x y z mode) := by
  unfold fuF; split
  · exact (sum4_num _ _ _ _ _).2
  · decide
def RetFU (x y z : Nat) (mode : Int) (w : World) : Ending → World → Prop := RetV (.tuple #[.float .f32 (fuF x y z mode), .int .i64 (fuL x y z mode), .int .i64 (fuC x y z mode)]) w
theorem i_minusZero (w : World) : Calls Try.prog 102 #[] w fun e w' => e = .returned (.float .f32 2147483648) ∧ w = w' := by
  have k := run_f32frombits
  go_enter Try.func102, Try.ntmps102
  go_wp2
  go_ret
  exact ⟨rfl, rfl⟩
def zsF (alike neg : Bool) (mode : Int) : Nat := if alike = true then szF neg else szF (decide (mode = 1))
theorem i_areFinite3 (g c a b d : Nat) (w : World) (ha : W a) (hb : W b) (hd : W d) (c0 : w.cell? ⟨g, 0, none⟩ = some (.float .f32 a)) (c1 : w.cell? ⟨g, 1, none⟩ = some (.float .f32 b)) (c2 : w.cell? ⟨g, 2, none⟩ = some (.float .f32 d)) :
    Calls Try.prog 37 #[.slice (some ⟨g, 0, none⟩) 3 c] w fun e w' => e = .returned (.bool (decide (fin a ∧ fin b ∧ fin d))) ∧ w = w' := by
  have h := i_areFinite g 0 3 c [a, b, d] w rfl (by decide) (by intro x hx; simp at hx; rcases hx with rfl | rfl | rfl; exact ha; exact hb; exact hd) (by
    intro j hj
    obtain rfl | rfl | rfl : j = 0 ∨ j = 1 ∨ j = 2 := by omega
    · exact c0
    · exact c1
    · exact c2)
  simpa [allFin] using h
end Go.Proofs.Ytlaaielopcphiaa
