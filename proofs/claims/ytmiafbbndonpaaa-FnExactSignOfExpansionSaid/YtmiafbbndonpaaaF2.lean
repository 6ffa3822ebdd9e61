/- Contracts: finite floats, intervals' tests. -/
import Derived.Test.YtmiafbbndonpaaaF1
set_option linter.unusedVariables false
set_option linter.unusedSimpArgs false
namespace Go.Proofs.Ytmiafbbndonpaaa
open Go.RowKit Flt
theorem quiet_eq {P : Program} {f : FuncId} {args : Array Value} {w : World} {n : Nat} {v : Value}
    (h : Calls P f args (w.drewN n) fun e w' => e = .returned v ∧ w.drewN n = w') : Calls P f args (w.drewN n) fun e w'' => e = .returned v ∧ ∃ m, w'' = w.drewN m :=
  h.mono fun _ _ ⟨he, hm⟩ => ⟨he, n, hm.symm⟩
theorem below_drewN {B : Nat} {a w : World} (n : Nat) (h : Below B a w) : Below B a (w.drewN n) := ⟨h.os, h.tape, h.output, h.size, h.block⟩
theorem run_float_nan {P : Program} (w : World) (op : BinOp) (hop : op = .add ∨ op = .sub ∨ op = .mul ∨ op = .quo) (t : TypeId) (k : FloatKind) (x y : Nat) (h : floatBits op k x y = none) :
    (binOp op t (.float k x) (.float k y)).run P w = .ok (.float k ((Question.nanBits k x y).cut (w.tape w.drawn (.nanBits k x y)))) w.drew := by
  unfold floatBits at h
  rcases hop with rfl | rfl | rfl | rfl <;> simp only at h <;> (simp [binOp, Op.floatArith, h, choose]; rfl)
theorem nan_cut (x y t : Nat) : nan ((Question.nanBits .f32 x y).cut t) := by
  show 2139095040 < (t % 2 * 2147483648 + 2139095040 + 1 + t / 2 % 8388607) % 2147483648
  rcases Nat.mod_two_eq_zero_or_one t with h | h <;> rw [h] <;> omega
theorem sub_self_fin (x : Nat) (h : fin x) : floatBits .sub .f32 x x = some 0 := by
  show Ieee.single.sub x x = _
  unfold Ieee.Format.sub
  rw [read_fin Ieee.single (by decide) (show x % Ieee.single.signWeight < Ieee.single.infRung from h)]
  simp only [Ieee.Datum.opposite, Ieee.Datum.sum, Option.map]
  have e : ∀ (s : Bool) (m u : Nat), Ieee.signed s m u + Ieee.signed (!s) m u = 0 := by
    intro s m u; unfold Ieee.signed; cases s <;> simp <;> omega
  simp only [e]
  cases sgf Ieee.single x <;> rfl
theorem sub_self_inf (x : Nat) (h : ¬ fin x) : floatBits .sub .f32 x x = none := by
  show Ieee.single.sub x x = _
  unfold Ieee.Format.sub
  by_cases hn : nan x
  · rw [read_nan Ieee.single (by decide) hn]; rfl
  · rw [read_inf Ieee.single (by decide) (show x % 2147483648 = 2139095040 by unfold fin at h; unfold nan at hn; omega)]
    cases sgf Ieee.single x <;> rfl
theorem s_Finite (x : Nat) (w : World) :
    Calls Try.prog 93 #[.float .f32 x] w fun e w' => e = .returned (.bool (decide (fin x))) ∧ ∃ n, w' = w.drewN n := by
  by_cases h : fin x
  · have k := fun w => run_float_arith (P := Try.prog) w .sub 28 .f32 x x 0 (sub_self_fin x h)
    have k4 : (FloatKind.f32.format.order 0 0 == some .eq) = true := by decide
    rw [show decide (fin x) = true by simpa using h]
    go_enter Try.func93, Try.ntmps93
    go_wp2
    go_ret
    exact ⟨rfl, 0, rfl⟩
  · have k := fun w => run_float_nan (P := Try.prog) w .sub (by simp) 28 .f32 x x (sub_self_inf x h)
    have k4 : ∀ t, (FloatKind.f32.format.order ((Question.nanBits .f32 x x).cut t) 0 == some .eq) = false := fun t => by rw [o_eq]; simp [nan_cut]
    rw [show decide (fin x) = false by simpa using h]
    go_enter Try.func93, Try.ntmps93
    go_wp2
    go_ret
    exact ⟨rfl, 1, rfl⟩
theorem wraps_u32 (n : Int) (h₀ : 0 ≤ n) (h₁ : n < 2 ^ 32) : IntKind.u32.wrap n = n := by rw [IntKind.wrap_u32]; omega
theorem u32_and255 (x : Int) (h₀ : 0 ≤ x) (h₁ : x < 4294967296) : bits .and .u32 x 255 = x % 256 := bits_mask .u32 32 (by decide) wraps_u32 8 (by decide) x h₀ h₁
theorem fin_and (x : Nat) (hx : W x) : (bits BinOp.and IntKind.u32 ((x : Int) / 8388608) 255 != 255) = decide (fin x) := by
  have e : bits BinOp.and IntKind.u32 ((x : Int) / 8388608) 255 = ((x / 8388608 % 256 : Nat) : Int) := by
    rw [u32_and255 _ (by omega) (by unfold W at hx; omega)]; omega
  rw [e, Bool.eq_iff_iff]; simp; unfold fin; omega
theorem i_isFinite (x : Nat) (w : World) (hx : W x) :
    Calls Try.prog 115 #[.float .f32 x] w fun e w' => e = .returned (.bool (decide (fin x))) ∧ w = w' := by
  have k := run_f32bits
  have h := fin_and x hx
  go_enter Try.func115, Try.ntmps115
  go_wp2
  go_ret
  exact ⟨rfl, rfl⟩


set_option maxHeartbeats 4000000 in
theorem s_Is (a b : Nat) (w : World) (ha : W a) (hb : W b) :
    Calls Try.prog 76 #[.agg #[.float .f32 a, .float .f32 b]] w fun e w' => e = .returned (.bool (decide (IsIv a b))) ∧ Below w.heap.size w w' := by
  have HA : Hd (W a) := ⟨ha⟩
  have HB : Hd (W b) := ⟨hb⟩
  have hle := o_le a b
  have hlt := o_lt a 2139095040
  have hgt := o_gt b 4286578688
  have hng : Op.negFloat .f32 2139095040 = 4286578688 := by decide
  have hni : ¬ nan 2139095040 := by decide
  have hnn : ¬ nan 4286578688 := by decide
  rw [show pl 2139095040 = 2139095040 by decide] at hlt
  rw [show pl 4286578688 = -2139095040 by decide] at hgt
  by_cases h1 : PlainP a
  · have p1 : decide (PlainP a) = true := decide_eq_true h1
    by_cases h2 : PlainP b
    · have p2 : decide (PlainP b) = true := decide_eq_true h2
      by_cases h3 : pl a ≤ pl b
      · rw [decide_eq_true ⟨h1.1, h2.1, h3⟩] at hle
        by_cases h4 : pl a < 2139095040
        · rw [decide_eq_true ⟨h1.1, hni, h4⟩] at hlt
          by_cases h5 : -2139095040 < pl b
          · rw [decide_eq_true ⟨h2.1, hnn, h5⟩] at hgt
            rw [show decide (IsIv a b) = true from decide_eq_true ⟨h1.1, h2.1, h3, h1.2, h2.2, h4, h5⟩]
            clear h1 h2 h3 h4 h5 hni hnn ha hb
            go_enter Try.func76, Try.ntmps76
            go_wp2_with fail
            go_quiet (first | (go_at_call 138; first | exact quiet_eq (s_Plain _ _ HA.out) | exact quiet_eq (s_Plain _ _ HB.out)) | (go_at_call 139; exact quiet_eq (s_Huge _)))
            go_wp2_with fail
            go_ret
            exact ⟨rfl, below_drewN _ (ba _ (Below.refl _ _))⟩
          · rw [decide_eq_false (fun h => h5 h.2.2)] at hgt
            rw [show decide (IsIv a b) = false from decide_eq_false (fun h => h5 h.2.2.2.2.2.2)]
            clear h1 h2 h3 h4 h5 hni hnn ha hb
            go_enter Try.func76, Try.ntmps76
            go_wp2_with fail
            go_quiet (first | (go_at_call 138; first | exact quiet_eq (s_Plain _ _ HA.out) | exact quiet_eq (s_Plain _ _ HB.out)) | (go_at_call 139; exact quiet_eq (s_Huge _)))
            go_wp2_with fail
            go_ret
            exact ⟨rfl, below_drewN _ (ba _ (Below.refl _ _))⟩
        · rw [decide_eq_false (fun h => h4 h.2.2)] at hlt
          rw [show decide (IsIv a b) = false from decide_eq_false (fun h => h4 h.2.2.2.2.2.1)]
          clear h1 h2 h3 h4 hni hnn ha hb hgt
          go_enter Try.func76, Try.ntmps76
          go_wp2_with fail
          go_quiet (first | (go_at_call 138; first | exact quiet_eq (s_Plain _ _ HA.out) | exact quiet_eq (s_Plain _ _ HB.out)) | (go_at_call 139; exact quiet_eq (s_Huge _)))
          go_wp2_with fail
          go_ret
          exact ⟨rfl, below_drewN _ (ba _ (Below.refl _ _))⟩
      · rw [decide_eq_false (fun h => h3 h.2.2)] at hle
        rw [show decide (IsIv a b) = false from decide_eq_false (fun h => h3 h.2.2.1)]
        clear h1 h2 h3 hni hnn ha hb hgt hlt
        go_enter Try.func76, Try.ntmps76
        go_wp2_with fail
        go_quiet (first | (go_at_call 138; first | exact quiet_eq (s_Plain _ _ HA.out) | exact quiet_eq (s_Plain _ _ HB.out)) | (go_at_call 139; exact quiet_eq (s_Huge _)))
        go_wp2_with fail
        go_ret
        exact ⟨rfl, below_drewN _ (ba _ (Below.refl _ _))⟩
    · have p2 : decide (PlainP b) = false := decide_eq_false h2
      rw [show decide (IsIv a b) = false from decide_eq_false (fun h => h2 ⟨h.2.1, h.2.2.2.2.1⟩)]
      clear h1 h2 hni hnn ha hb hgt hlt hle
      go_enter Try.func76, Try.ntmps76
      go_wp2_with fail
      go_quiet (first | (go_at_call 138; first | exact quiet_eq (s_Plain _ _ HA.out) | exact quiet_eq (s_Plain _ _ HB.out)) | (go_at_call 139; exact quiet_eq (s_Huge _)))
      go_wp2_with fail
      go_ret
      exact ⟨rfl, below_drewN _ (ba _ (Below.refl _ _))⟩
  · have p1 : decide (PlainP a) = false := decide_eq_false h1
    rw [show decide (IsIv a b) = false from decide_eq_false (fun h => h1 ⟨h.1, h.2.2.2.1⟩)]
    clear h1 hni hnn ha hb hgt hlt hle
    go_enter Try.func76, Try.ntmps76
    go_wp2_with fail
    go_quiet (first | (go_at_call 138; first | exact quiet_eq (s_Plain _ _ HA.out) | exact quiet_eq (s_Plain _ _ HB.out)) | (go_at_call 139; exact quiet_eq (s_Huge _)))
    go_wp2_with fail
    go_ret
    exact ⟨rfl, below_drewN _ (ba _ (Below.refl _ _))⟩
end Go.Proofs.Ytmiafbbndonpaaa
