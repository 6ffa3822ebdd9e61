/- Contracts: pairs. -/
import Derived.Test.YtlfgefcagjjfkaaF4
set_option linter.unusedVariables false
set_option linter.unusedSimpArgs false
namespace Go.Proofs.Ytlfgefcagjjfkaa
open Go.RowKit Flt
theorem add_fin {x y : Nat} (hx : fin x) (hy : fin y) : ∃ r, floatBits .add .f32 x y = some r := by
  show ∃ r, Ieee.single.add x y = some r
  unfold Ieee.Format.add
  rw [read_fin Ieee.single (by decide) (show x % Ieee.single.signWeight < Ieee.single.infRung from hx), read_fin Ieee.single (by decide) (show y % Ieee.single.signWeight < Ieee.single.infRung from hy)]
  exact ⟨_, rfl⟩
/-- the float sum of two finite floats -/
def addW (x y : Nat) : Nat := (floatBits .add .f32 x y).getD 0
theorem addW_eq {x y : Nat} (hx : fin x) (hy : fin y) : floatBits .add .f32 x y = some (addW x y) := by
  obtain ⟨r, h⟩ := add_fin hx hy; unfold addW; rw [h]; rfl
theorem addW_W (x y : Nat) : W (addW x y) := by
  unfold addW
  cases h : floatBits .add .f32 x y with
  | none => show 0 < 4294967296; decide
  | some r => have := W_of_wf (floatBits_wf h); exact this
theorem i_areFinite2 (g c a b : Nat) (w : World) (ha : W a) (hb : W b) (c0 : w.cell? ⟨g, 0, none⟩ = some (.float .f32 a)) (c1 : w.cell? ⟨g, 1, none⟩ = some (.float .f32 b)) :
    Calls Try.prog 40 #[.slice (some ⟨g, 0, none⟩) 2 c] w fun e w' => e = .returned (.bool (decide (fin a) && decide (fin b))) ∧ w = w' := by
  have h := i_areFinite g 0 2 c [a, b] w rfl (by decide) (by intro x hx; simp at hx; rcases hx with rfl | rfl; exact ha; exact hb) (by
    intro j hj
    obtain rfl | rfl : j = 0 ∨ j = 1 := by omega
    · exact c0
    · exact c1)
  simpa [allFin] using h
/-- a pair -/
def prB (h l : Nat) : Bool := decide (fin h) && decide (fin l) && (FloatKind.f32.format.order (addW h l) h == some .eq)

set_option maxHeartbeats 4000000 in
theorem s_l05Is (a b : Nat) (w : World) (ha : W a) (hb : W b) :
    Calls Try.prog 39 #[.agg #[.float .f32 a, .float .f32 b]] w fun e w' => e = .returned (.bool (prB a b)) ∧ Below w.heap.size w w' := by
  have HA : Hd (W a) := ⟨ha⟩
  have HB : Hd (W b) := ⟨hb⟩
  clear ha hb
  by_cases h1 : fin a
  · have p1 : decide (fin a) = true := decide_eq_true h1
    by_cases h2 : fin b
    · have p2 : decide (fin b) = true := decide_eq_true h2
      have k := fun w => run_float_arith (P := Try.prog) w .add 22 .f32 a b (addW a b) (addW_eq h1 h2)
      by_cases h3 : (FloatKind.f32.format.order (addW a b) a == some .eq) = true
      · rw [show prB a b = true by simp only [prB, p1, p2, h3, Bool.and_self]]
        clear h1 h2
        go_enter Try.func39, Try.ntmps39
        go_wp2_with (first | (go_at_call 45; (with_reducible refine (s_Finite _ _).mono ?_); rintro e w' ⟨rfl, ⟨nd, rfl⟩⟩))
        go_ret
        refine ⟨rfl, ?_⟩
        (repeat (first | exact Below.refl _ _ | refine Below.drew ?_ | refine below_drewN _ ?_ | refine ba _ ?_ | refine bs0 _ _ ?_ ?_ | refine bs1 _ _ _ ?_ ?_ | refine bs2 _ _ _ _ ?_ ?_ | refine bs3 _ _ _ _ _ ?_ ?_ | refine bt3 (by assumption) ?_))
      · have h4 : (FloatKind.f32.format.order (addW a b) a == some .eq) = false := by simpa using h3
        clear h3
        rw [show prB a b = false by simp only [prB, h4, Bool.and_false]]
        clear h1 h2
        go_enter Try.func39, Try.ntmps39
        go_wp2_with (first | (go_at_call 45; (with_reducible refine (s_Finite _ _).mono ?_); rintro e w' ⟨rfl, ⟨nd, rfl⟩⟩))
        go_ret
        refine ⟨rfl, ?_⟩
        (repeat (first | exact Below.refl _ _ | refine Below.drew ?_ | refine below_drewN _ ?_ | refine ba _ ?_ | refine bs0 _ _ ?_ ?_ | refine bs1 _ _ _ ?_ ?_ | refine bs2 _ _ _ _ ?_ ?_ | refine bs3 _ _ _ _ _ ?_ ?_ | refine bt3 (by assumption) ?_))
    · have p2 : decide (fin b) = false := decide_eq_false h2
      rw [show prB a b = false by simp only [prB, p2, Bool.and_false, Bool.false_and]]
      clear h1 h2
      go_enter Try.func39, Try.ntmps39
      go_wp2_with (first | (go_at_call 45; (with_reducible refine (s_Finite _ _).mono ?_); rintro e w' ⟨rfl, ⟨nd, rfl⟩⟩))
      go_ret
      refine ⟨rfl, ?_⟩
      (repeat (first | exact Below.refl _ _ | refine Below.drew ?_ | refine below_drewN _ ?_ | refine ba _ ?_ | refine bs0 _ _ ?_ ?_ | refine bs1 _ _ _ ?_ ?_ | refine bs2 _ _ _ _ ?_ ?_ | refine bs3 _ _ _ _ _ ?_ ?_ | refine bt3 (by assumption) ?_))
  · have p1 : decide (fin a) = false := decide_eq_false h1
    rw [show prB a b = false by simp only [prB, p1, Bool.false_and]]
    clear h1
    go_enter Try.func39, Try.ntmps39
    go_wp2_with (first | (go_at_call 45; (with_reducible refine (s_Finite _ _).mono ?_); rintro e w' ⟨rfl, ⟨nd, rfl⟩⟩))
    go_ret
    refine ⟨rfl, ?_⟩
    (repeat (first | exact Below.refl _ _ | refine Below.drew ?_ | refine below_drewN _ ?_ | refine ba _ ?_ | refine bs0 _ _ ?_ ?_ | refine bs1 _ _ _ ?_ ?_ | refine bs2 _ _ _ _ ?_ ?_ | refine bs3 _ _ _ _ _ ?_ ?_ | refine bt3 (by assumption) ?_))

set_option maxHeartbeats 4000000 in
theorem i_IsPair (a b : Nat) (w : World) (ha : W a) (hb : W b) :
    Calls Try.prog 16 #[.agg #[.float .f32 a, .float .f32 b]] w fun e w' => e = .returned (.bool (prB a b)) ∧ Below w.heap.size w w' := by
  have HA : Hd (W a) := ⟨ha⟩
  have HB : Hd (W b) := ⟨hb⟩
  clear ha hb
  by_cases h1 : fin a
  · have p1 : decide (fin a) = true := decide_eq_true h1
    by_cases h2 : fin b
    · have p2 : decide (fin b) = true := decide_eq_true h2
      have k := fun w => run_float_arith (P := Try.prog) w .add 22 .f32 a b (addW a b) (addW_eq h1 h2)
      by_cases h3 : (FloatKind.f32.format.order (addW a b) a == some .eq) = true
      · rw [show prB a b = true by simp only [prB, p1, p2, h3, Bool.and_self]]
        clear h1 h2
        go_enter Try.func16, Try.ntmps16
        go_wp2_with (first | (go_at_call 40; (with_reducible refine (i_areFinite2 _ _ _ _ _ HA.out HB.out (by go_simp) (by go_simp)).mono ?_); rintro e w' ⟨rfl, rfl⟩))
        go_ret
        refine ⟨rfl, ?_⟩
        (repeat (first | exact Below.refl _ _ | refine Below.drew ?_ | refine below_drewN _ ?_ | refine ba _ ?_ | refine bs0 _ _ ?_ ?_ | refine bs1 _ _ _ ?_ ?_ | refine bs2 _ _ _ _ ?_ ?_ | refine bs3 _ _ _ _ _ ?_ ?_ | refine bt3 (by assumption) ?_))
      · have h4 : (FloatKind.f32.format.order (addW a b) a == some .eq) = false := by simpa using h3
        clear h3
        rw [show prB a b = false by simp only [prB, h4, Bool.and_false]]
        clear h1 h2
        go_enter Try.func16, Try.ntmps16
        go_wp2_with (first | (go_at_call 40; (with_reducible refine (i_areFinite2 _ _ _ _ _ HA.out HB.out (by go_simp) (by go_simp)).mono ?_); rintro e w' ⟨rfl, rfl⟩))
        go_ret
        refine ⟨rfl, ?_⟩
        (repeat (first | exact Below.refl _ _ | refine Below.drew ?_ | refine below_drewN _ ?_ | refine ba _ ?_ | refine bs0 _ _ ?_ ?_ | refine bs1 _ _ _ ?_ ?_ | refine bs2 _ _ _ _ ?_ ?_ | refine bs3 _ _ _ _ _ ?_ ?_ | refine bt3 (by assumption) ?_))
    · have p2 : decide (fin b) = false := decide_eq_false h2
      rw [show prB a b = false by simp only [prB, p2, Bool.and_false, Bool.false_and]]
      clear h1 h2
      go_enter Try.func16, Try.ntmps16
      go_wp2_with (first | (go_at_call 40; (with_reducible refine (i_areFinite2 _ _ _ _ _ HA.out HB.out (by go_simp) (by go_simp)).mono ?_); rintro e w' ⟨rfl, rfl⟩))
      go_ret
      refine ⟨rfl, ?_⟩
      (repeat (first | exact Below.refl _ _ | refine Below.drew ?_ | refine below_drewN _ ?_ | refine ba _ ?_ | refine bs0 _ _ ?_ ?_ | refine bs1 _ _ _ ?_ ?_ | refine bs2 _ _ _ _ ?_ ?_ | refine bs3 _ _ _ _ _ ?_ ?_ | refine bt3 (by assumption) ?_))
  · have p1 : decide (fin a) = false := decide_eq_false h1
    rw [show prB a b = false by simp only [prB, p1, Bool.false_and]]
    clear h1
    go_enter Try.func16, Try.ntmps16
    go_wp2_with (first | (go_at_call 40; (with_reducible refine (i_areFinite2 _ _ _ _ _ HA.out HB.out (by go_simp) (by go_simp)).mono ?_); rintro e w' ⟨rfl, rfl⟩))
    go_ret
    refine ⟨rfl, ?_⟩
    (repeat (first | exact Below.refl _ _ | refine Below.drew ?_ | refine below_drewN _ ?_ | refine ba _ ?_ | refine bs0 _ _ ?_ ?_ | refine bs1 _ _ _ ?_ ?_ | refine bs2 _ _ _ _ ?_ ?_ | refine bs3 _ _ _ _ _ ?_ ?_ | refine bt3 (by assumption) ?_))

set_option maxHeartbeats 1000000 in
theorem s_IsPair (a b : Nat) (w : World) (ha : W a) (hb : W b) :
    Calls Try.prog 14 #[.agg #[.float .f32 a, .float .f32 b]] w fun e w' => e = .returned (.bool (prB a b)) ∧ Below w.heap.size w w' := by
  have HA : Hd (W a) := ⟨ha⟩
  have HB : Hd (W b) := ⟨hb⟩
  clear ha hb
  go_enter Try.func14, Try.ntmps14
  go_wp2_with (first | (go_at_call 39; (with_reducible refine (s_l05Is _ _ _ HA.out HB.out).mono ?_); rintro e w' ⟨rfl, hb⟩; (try replace hb := bt3 hb (by assumption)); obtain ⟨hc, hf, hz, hy⟩ := bcell hb; have hs := hb.size; (try simp at hs); (try have h0 : w.heap.size < w'.heap.size := by omega); (try have h1 : w.heap.size + 1 < w'.heap.size := by omega); (try have h2 : w.heap.size + 1 + 1 < w'.heap.size := by omega); clear hs))
  go_ret
  refine ⟨rfl, ?_⟩
  (repeat (first | exact Below.refl _ _ | refine Below.drew ?_ | refine below_drewN _ ?_ | refine ba _ ?_ | refine bs0 _ _ ?_ ?_ | refine bs1 _ _ _ ?_ ?_ | refine bs2 _ _ _ _ ?_ ?_ | refine bs3 _ _ _ _ _ ?_ ?_ | refine bt3 (by assumption) ?_))

end Go.Proofs.Ytlfgefcagjjfkaa
