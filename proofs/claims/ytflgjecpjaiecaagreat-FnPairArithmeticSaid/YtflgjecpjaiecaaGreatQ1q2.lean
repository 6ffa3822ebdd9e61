/- Contracts: quotients of pairs, both sides. -/
import Derived.Test.YtflgjecpjaiecaaGreatGvq2
import Derived.Test.YtflgjecpjaiecaaGreatGgq2
set_option linter.unusedVariables false
set_option linter.unusedSimpArgs false
namespace Go.Proofs.YtflgjecpjaiecaaGreat
open Go.RowKit Num Flt
/-- the language's quotient -/
def quW (x y : Nat) : Nat := (floatBits .quo .f32 x y).getD 0
theorem pm_nz {y : Nat} (hy : W y) (hz : ¬ (y = 0 ∨ y = 2147483648)) : pm y ≠ 0 := by
  intro h
  have := (mg_zero (y % 2147483648)).1 h
  unfold W at hy
  omega
theorem quo_some {x y : Nat} (hx : fin x) (hy : fin y) (wy : W y) (hz : ¬ (y = 0 ∨ y = 2147483648)) : floatBits .quo .f32 x y = some (quW x y) ∧ W (quW x y) ∧ ¬ nan (quW x y) := by
  have hn := pm_nz wy hz
  have : ∃ a b c, floatBits .quo .f32 x y = some (Ieee.single.nearest a b c) := by
    show ∃ a b c, Ieee.single.div x y = _
    unfold Ieee.Format.div
    rw [read_v hx, read_v hy]
    unfold Ieee.Datum.quotient
    simp only [if_neg hn]
    exact ⟨_, _, _, rfl⟩
  obtain ⟨a, b, c, h⟩ := this
  unfold quW; rw [h]
  exact ⟨rfl, nearest_W a b c⟩
theorem fin_ngx {x : Nat} (h : W x) (hf : fin x) : fin (ng x) := by
  unfold fin ng at *; unfold W at h; split <;> omega
set_option maxHeartbeats 4000000 in
theorem i_opposite (a b : Nat) (w : World) (ha : W a) (hb : W b) : Calls Tryz.prog 159 #[.agg #[.float .f32 a, .float .f32 b]] w (RetV (.agg #[.float .f32 (ng a), .float .f32 (ng b)]) w) := by
  have n1 := negFloat_eq a ha
  have n2 := negFloat_eq b hb
  clear ha hb
  go_enter Tryz.func159, Tryz.ntmps159
  go_wp2_with fail
  refine bodyPost_ret (v := .agg #[.float .f32 (ng a), .float .f32 (ng b)]) (by simp (maxDischargeDepth := 7) [results, Tryz.results159, go_sem, *]) rfl ⟨rfl, ?_⟩
  (repeat (first | exact Below.refl _ _ | assumption | refine Below.drew ?_ | refine bdn ?_ | refine ba _ ?_ | refine bs0 _ _ ?_ ?_ | refine bs1 _ _ _ ?_ ?_ | refine bs2 _ _ _ _ ?_ ?_ | refine bs3 _ _ _ _ _ ?_ ?_ | refine bt3 (by assumption) ?_))
theorem RetA.yes {H L : Nat} {w w' : World} {e : Ending} (h : RetA true H L w e w') : RetV (.tuple #[.agg #[.float .f32 H, .float .f32 L], .bool true]) w e w' := by
  obtain ⟨x, y, rfl, k, hb⟩ := h
  obtain ⟨rfl, rfl⟩ := k rfl
  exact ⟨rfl, hb⟩
/-- the quotient of pairs, step by step -/
def dpA (a c : Nat) : Nat := quW a c
def dpPh (a c d : Nat) : Nat := mpHi c d (dpA a c) 0
def dpPl (a c d : Nat) : Nat := mpLo c d (dpA a c) 0
def dpRh (a b c d : Nat) : Nat := apHi a b (ng (dpPh a c d)) (ng (dpPl a c d))
def dpB (a b c d : Nat) : Nat := quW (dpRh a b c d) c
def dpHi (a b c d : Nat) : Nat := addW (dpA a c) (dpB a b c d)
def dpLo (a b c d : Nat) : Nat := qkL (dpA a c) (dpB a b c d)
def dpOk (a b c d : Nat) : Bool := decide (fin (dpA a c)) && mpOk c d (dpA a c) 0 && apOk a b (ng (dpPh a c d)) (ng (dpPl a c d)) && decide (fin (dpB a b c d)) && prB (dpHi a b c d) (dpLo a b c d)
/-- what the region with the rest leaves -/
def Cut7 (W0 : World) (P : Nat → Nat → Prop) (k : Bool) (s9 s10 : Value) (wx : World) : Prop :=
  s10 = .bool k ∧ ∃ g x y : Nat, s9 = .pointer (some ⟨g, 0, none⟩) ∧ Hd (P x y) ∧ Hd (wx.cell? ⟨g, 0, none⟩ = some (.float .f32 x)) ∧ Below W0.heap.size W0 wx
set_option maxHeartbeats 4000000 in
theorem s_OverN1 (a b c d : Nat) (w : World) (ha : W a) (hb : W b) (hc : W c) (hd : W d) (fa : fin a) (fb : fin b) (fc : fin c) (fd : fin d) (hz : ¬ (c = 0 ∨ c = 2147483648)) (h1 : ¬ fin (quW a c)) (H L : Nat) : Calls Tryz.prog 93 #[.agg #[.float .f32 a, .float .f32 b], .agg #[.float .f32 c, .float .f32 d]] w (RetA false H L w) := by
  have kq := fun w => run_float_arith (P := Tryz.prog) w .quo 22 .f32 a c _ (quo_some fa fc hc hz).1
  have CA := Hd.mk (fun w => s_Finite (quW a c) w)
  rw [decide_eq_false h1] at CA
  have HP := Hd.mk (PW.start w a b c d)
  clear ha hb hc hd fa fb fc fd hz h1
  generalize quW a c = A at *
  go_enter Tryz.func93, Tryz.ntmps93
  go_wp2_with (go_at_call 125; (with_reducible refine (CA.out _).mono ?_); rintro e w' ⟨rfl, ⟨nd, rfl⟩⟩)
  refine bodyPost_ret (v := .tuple #[.agg #[.float .f32 0, .float .f32 0], .bool false]) (by simp (maxDischargeDepth := 7) [results, Tryz.results93, go_sem, *]) rfl ⟨0, 0, rfl, fun k => (by cases k), (by have hbb := HP.out.bel; (repeat (first | exact Below.refl _ _ | assumption | refine Below.drew ?_ | refine bdn ?_ | refine ba _ ?_ | refine bs0 _ _ ?_ ?_ | refine bs1 _ _ _ ?_ ?_ | refine bs2 _ _ _ _ ?_ ?_ | refine bs3 _ _ _ _ _ ?_ ?_ | refine bt3 (by assumption) ?_)))⟩
set_option maxHeartbeats 4000000 in
theorem i_OverN1 (a b c d : Nat) (w : World) (ha : W a) (hb : W b) (hc : W c) (hd : W d) (fa : fin a) (fb : fin b) (fc : fin c) (fd : fin d) (hz : ¬ (c = 0 ∨ c = 2147483648)) (h1 : ¬ fin (quW a c)) (H L : Nat) : Calls Tryz.prog 95 #[.agg #[.float .f32 a, .float .f32 b], .agg #[.float .f32 c, .float .f32 d]] w (RetA false H L w) := by
  have kq := fun w => run_float_arith (P := Tryz.prog) w .quo 22 .f32 a c _ (quo_some fa fc hc hz).1
  have CA := Hd.mk (fun w => i_isFinite (quW a c) w (quo_some fa fc hc hz).2.1)
  rw [decide_eq_false h1] at CA
  have HP := Hd.mk (PW.start w a b c d)
  clear ha hb hc hd fa fb fc fd hz h1
  generalize quW a c = A at *
  go_enter Tryz.func95, Tryz.ntmps95
  go_wp2_with (go_at_call 129; (with_reducible refine (CA.out _).mono ?_); rintro e w' ⟨rfl, rfl⟩)
  refine bodyPost_ret (v := .tuple #[.agg #[.float .f32 0, .float .f32 0], .bool false]) (by simp (maxDischargeDepth := 7) [results, Tryz.results95, go_sem, *]) rfl ⟨0, 0, rfl, fun k => (by cases k), (by have hbb := HP.out.bel; (repeat (first | exact Below.refl _ _ | assumption | refine Below.drew ?_ | refine bdn ?_ | refine ba _ ?_ | refine bs0 _ _ ?_ ?_ | refine bs1 _ _ _ ?_ ?_ | refine bs2 _ _ _ _ ?_ ?_ | refine bs3 _ _ _ _ _ ?_ ?_ | refine bt3 (by assumption) ?_)))⟩
end Go.Proofs.YtflgjecpjaiecaaGreat
