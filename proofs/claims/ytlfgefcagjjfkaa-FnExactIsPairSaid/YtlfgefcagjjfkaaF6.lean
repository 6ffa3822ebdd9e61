/- Contracts: the exported interval functions without rounding, in the reference and in the program. -/
import Derived.Test.YtlfgefcagjjfkaaF5
set_option linter.unusedVariables false
set_option linter.unusedSimpArgs false
namespace Go.Proofs.Ytlfgefcagjjfkaa
open Go.RowKit Flt

def partW (a b c d : Nat) : Bool := decide (pl c ≤ pl a ∧ pl b ≤ pl d)
def hasW (a b x : Nat) : Bool := decide (pl a ≤ pl x ∧ pl x ≤ pl b)
def bothC (a b c d : Nat) : Int := if IsIv a b ∧ IsIv c d then 0 else 1
set_option maxHeartbeats 1000000 in
theorem s_Both (a b c d : Nat) (w : World) (ha : W a) (hb : W b) (hc : W c) (hd : W d) :
    Calls Try.prog 48 #[.agg #[.float .f32 a, .float .f32 b], .agg #[.float .f32 c, .float .f32 d]] w fun e w' => e = .returned (.int .i64 (bothC a b c d)) ∧ Below w.heap.size w w' := by
  have HA : Hd (W a) := ⟨ha⟩
  have HB : Hd (W b) := ⟨hb⟩
  have HC : Hd (W c) := ⟨hc⟩
  have HD : Hd (W d) := ⟨hd⟩
  clear ha hb hc hd
  by_cases h1 : IsIv a b
  · have p1 : decide (IsIv a b) = true := decide_eq_true h1
    by_cases h2 : IsIv c d
    · have p2 : decide (IsIv c d) = true := decide_eq_true h2
      rw [show bothC a b c d = 0 from if_pos ⟨h1, h2⟩]
      clear h1 h2
      go_enter Try.func48, Try.ntmps48
      go_wp2_with (first | (go_at_call 41; (with_reducible refine (s_Is a b _ HA.out HB.out).mono ?_); rintro e w' ⟨rfl, hb⟩; (try replace hb := bt3 hb (by assumption)); obtain ⟨hc, hf, hz, hy⟩ := bcell hb; have hs := hb.size; (try simp at hs); (try have h0 : w.heap.size < w'.heap.size := by omega); (try have h1 : w.heap.size + 1 < w'.heap.size := by omega); (try have h2 : w.heap.size + 1 + 1 < w'.heap.size := by omega); clear hs) | (go_at_call 41; (with_reducible refine (s_Is c d _ HC.out HD.out).mono ?_); rintro e w' ⟨rfl, hb⟩; (try replace hb := bt3 hb (by assumption)); obtain ⟨hc, hf, hz, hy⟩ := bcell hb; have hs := hb.size; (try simp at hs); (try have h0 : w.heap.size < w'.heap.size := by omega); (try have h1 : w.heap.size + 1 < w'.heap.size := by omega); (try have h2 : w.heap.size + 1 + 1 < w'.heap.size := by omega); clear hs))
      go_ret
      refine ⟨rfl, ?_⟩
      (repeat (first | exact Below.refl _ _ | refine Below.drew ?_ | refine below_drewN _ ?_ | refine ba _ ?_ | refine bs0 _ _ ?_ ?_ | refine bs1 _ _ _ ?_ ?_ | refine bs2 _ _ _ _ ?_ ?_ | refine bs3 _ _ _ _ _ ?_ ?_ | refine bt3 (by assumption) ?_))
    · have p2 : decide (IsIv c d) = false := decide_eq_false h2
      rw [show bothC a b c d = 1 from if_neg (fun k => h2 k.2)]
      clear h1 h2
      go_enter Try.func48, Try.ntmps48
      go_wp2_with (first | (go_at_call 41; (with_reducible refine (s_Is a b _ HA.out HB.out).mono ?_); rintro e w' ⟨rfl, hb⟩; (try replace hb := bt3 hb (by assumption)); obtain ⟨hc, hf, hz, hy⟩ := bcell hb; have hs := hb.size; (try simp at hs); (try have h0 : w.heap.size < w'.heap.size := by omega); (try have h1 : w.heap.size + 1 < w'.heap.size := by omega); (try have h2 : w.heap.size + 1 + 1 < w'.heap.size := by omega); clear hs) | (go_at_call 41; (with_reducible refine (s_Is c d _ HC.out HD.out).mono ?_); rintro e w' ⟨rfl, hb⟩; (try replace hb := bt3 hb (by assumption)); obtain ⟨hc, hf, hz, hy⟩ := bcell hb; have hs := hb.size; (try simp at hs); (try have h0 : w.heap.size < w'.heap.size := by omega); (try have h1 : w.heap.size + 1 < w'.heap.size := by omega); (try have h2 : w.heap.size + 1 + 1 < w'.heap.size := by omega); clear hs))
      go_ret
      refine ⟨rfl, ?_⟩
      (repeat (first | exact Below.refl _ _ | refine Below.drew ?_ | refine below_drewN _ ?_ | refine ba _ ?_ | refine bs0 _ _ ?_ ?_ | refine bs1 _ _ _ ?_ ?_ | refine bs2 _ _ _ _ ?_ ?_ | refine bs3 _ _ _ _ _ ?_ ?_ | refine bt3 (by assumption) ?_))
  · have p1 : decide (IsIv a b) = false := decide_eq_false h1
    rw [show bothC a b c d = 1 from if_neg (fun k => h1 k.1)]
    clear h1
    go_enter Try.func48, Try.ntmps48
    go_wp2_with (first | (go_at_call 41; (with_reducible refine (s_Is a b _ HA.out HB.out).mono ?_); rintro e w' ⟨rfl, hb⟩; (try replace hb := bt3 hb (by assumption)); obtain ⟨hc, hf, hz, hy⟩ := bcell hb; have hs := hb.size; (try simp at hs); (try have h0 : w.heap.size < w'.heap.size := by omega); (try have h1 : w.heap.size + 1 < w'.heap.size := by omega); (try have h2 : w.heap.size + 1 + 1 < w'.heap.size := by omega); clear hs) | (go_at_call 41; (with_reducible refine (s_Is c d _ HC.out HD.out).mono ?_); rintro e w' ⟨rfl, hb⟩; (try replace hb := bt3 hb (by assumption)); obtain ⟨hc, hf, hz, hy⟩ := bcell hb; have hs := hb.size; (try simp at hs); (try have h0 : w.heap.size < w'.heap.size := by omega); (try have h1 : w.heap.size + 1 < w'.heap.size := by omega); (try have h2 : w.heap.size + 1 + 1 < w'.heap.size := by omega); clear hs))
    go_ret
    refine ⟨rfl, ?_⟩
    (repeat (first | exact Below.refl _ _ | refine Below.drew ?_ | refine below_drewN _ ?_ | refine ba _ ?_ | refine bs0 _ _ ?_ ?_ | refine bs1 _ _ _ ?_ ?_ | refine bs2 _ _ _ _ ?_ ?_ | refine bs3 _ _ _ _ _ ?_ ?_ | refine bt3 (by assumption) ?_))

set_option maxHeartbeats 1000000 in
theorem s_Part (a b c d : Nat) (w : World) (ha : W a) (hb : W b) (hc : W c) (hd : W d) (hi : IsIv a b) (hj : IsIv c d) :
    Calls Try.prog 49 #[.agg #[.float .f32 a, .float .f32 b], .agg #[.float .f32 c, .float .f32 d]] w fun e w' => e = .returned (.bool (partW a b c d)) ∧ Below w.heap.size w w' := by
  by_cases h1 : pl c ≤ pl a
  · have q1 : (FloatKind.f32.format.order c a == some .lt || FloatKind.f32.format.order c a == some .eq) = true := by rw [o_le]; exact decide_eq_true ⟨hj.1, hi.1, h1⟩
    by_cases h2 : pl b ≤ pl d
    · have q2 : (FloatKind.f32.format.order b d == some .lt || FloatKind.f32.format.order b d == some .eq) = true := by rw [o_le]; exact decide_eq_true ⟨hi.2.1, hj.2.1, h2⟩
      rw [show (partW a b c d) = true from decide_eq_true ⟨h1, h2⟩]
      clear h2
      clear h1 ha hb hc hd hi hj
      go_enter Try.func49, Try.ntmps49
      go_wp2_with fail
      go_ret
      refine ⟨rfl, ?_⟩
      (repeat (first | exact Below.refl _ _ | refine Below.drew ?_ | refine below_drewN _ ?_ | refine ba _ ?_ | refine bs0 _ _ ?_ ?_ | refine bs1 _ _ _ ?_ ?_ | refine bs2 _ _ _ _ ?_ ?_ | refine bs3 _ _ _ _ _ ?_ ?_ | refine bt3 (by assumption) ?_))
    · have q2 : (FloatKind.f32.format.order b d == some .lt || FloatKind.f32.format.order b d == some .eq) = false := by rw [o_le]; exact decide_eq_false (fun k => h2 k.2.2)
      rw [show (partW a b c d) = false from decide_eq_false (fun k => h2 k.2)]
      clear h2
      clear h1 ha hb hc hd hi hj
      go_enter Try.func49, Try.ntmps49
      go_wp2_with fail
      go_ret
      refine ⟨rfl, ?_⟩
      (repeat (first | exact Below.refl _ _ | refine Below.drew ?_ | refine below_drewN _ ?_ | refine ba _ ?_ | refine bs0 _ _ ?_ ?_ | refine bs1 _ _ _ ?_ ?_ | refine bs2 _ _ _ _ ?_ ?_ | refine bs3 _ _ _ _ _ ?_ ?_ | refine bt3 (by assumption) ?_))
  · have q1 : (FloatKind.f32.format.order c a == some .lt || FloatKind.f32.format.order c a == some .eq) = false := by rw [o_le]; exact decide_eq_false (fun k => h1 k.2.2)
    rw [show (partW a b c d) = false from decide_eq_false (fun k => h1 k.1)]
    clear h1 ha hb hc hd hi hj
    go_enter Try.func49, Try.ntmps49
    go_wp2_with fail
    go_ret
    refine ⟨rfl, ?_⟩
    (repeat (first | exact Below.refl _ _ | refine Below.drew ?_ | refine below_drewN _ ?_ | refine ba _ ?_ | refine bs0 _ _ ?_ ?_ | refine bs1 _ _ _ ?_ ?_ | refine bs2 _ _ _ _ ?_ ?_ | refine bs3 _ _ _ _ _ ?_ ?_ | refine bt3 (by assumption) ?_))

set_option maxHeartbeats 1000000 in
theorem i_partOf (a b c d : Nat) (w : World) (ha : W a) (hb : W b) (hc : W c) (hd : W d) (hi : IsIv a b) (hj : IsIv c d) :
    Calls Try.prog 51 #[.agg #[.float .f32 a, .float .f32 b], .agg #[.float .f32 c, .float .f32 d]] w fun e w' => e = .returned (.bool (partW a b c d)) ∧ Below w.heap.size w w' := by
  by_cases h1 : pl c ≤ pl a
  · have q1 : (FloatKind.f32.format.order a c == some .gt || FloatKind.f32.format.order a c == some .eq) = true := by rw [o_ge]; exact decide_eq_true ⟨hi.1, hj.1, h1⟩
    by_cases h2 : pl b ≤ pl d
    · have q2 : (FloatKind.f32.format.order b d == some .lt || FloatKind.f32.format.order b d == some .eq) = true := by rw [o_le]; exact decide_eq_true ⟨hi.2.1, hj.2.1, h2⟩
      rw [show (partW a b c d) = true from decide_eq_true ⟨h1, h2⟩]
      clear h2
      clear h1 ha hb hc hd hi hj
      go_enter Try.func51, Try.ntmps51
      go_wp2_with fail
      go_ret
      refine ⟨rfl, ?_⟩
      (repeat (first | exact Below.refl _ _ | refine Below.drew ?_ | refine below_drewN _ ?_ | refine ba _ ?_ | refine bs0 _ _ ?_ ?_ | refine bs1 _ _ _ ?_ ?_ | refine bs2 _ _ _ _ ?_ ?_ | refine bs3 _ _ _ _ _ ?_ ?_ | refine bt3 (by assumption) ?_))
    · have q2 : (FloatKind.f32.format.order b d == some .lt || FloatKind.f32.format.order b d == some .eq) = false := by rw [o_le]; exact decide_eq_false (fun k => h2 k.2.2)
      rw [show (partW a b c d) = false from decide_eq_false (fun k => h2 k.2)]
      clear h2
      clear h1 ha hb hc hd hi hj
      go_enter Try.func51, Try.ntmps51
      go_wp2_with fail
      go_ret
      refine ⟨rfl, ?_⟩
      (repeat (first | exact Below.refl _ _ | refine Below.drew ?_ | refine below_drewN _ ?_ | refine ba _ ?_ | refine bs0 _ _ ?_ ?_ | refine bs1 _ _ _ ?_ ?_ | refine bs2 _ _ _ _ ?_ ?_ | refine bs3 _ _ _ _ _ ?_ ?_ | refine bt3 (by assumption) ?_))
  · have q1 : (FloatKind.f32.format.order a c == some .gt || FloatKind.f32.format.order a c == some .eq) = false := by rw [o_ge]; exact decide_eq_false (fun k => h1 k.2.2)
    rw [show (partW a b c d) = false from decide_eq_false (fun k => h1 k.1)]
    clear h1 ha hb hc hd hi hj
    go_enter Try.func51, Try.ntmps51
    go_wp2_with fail
    go_ret
    refine ⟨rfl, ?_⟩
    (repeat (first | exact Below.refl _ _ | refine Below.drew ?_ | refine below_drewN _ ?_ | refine ba _ ?_ | refine bs0 _ _ ?_ ?_ | refine bs1 _ _ _ ?_ ?_ | refine bs2 _ _ _ _ ?_ ?_ | refine bs3 _ _ _ _ _ ?_ ?_ | refine bt3 (by assumption) ?_))

set_option maxHeartbeats 1000000 in
theorem s_Has (a b x : Nat) (w : World) (ha : W a) (hb : W b) (hx : W x) (hi : IsIv a b) (hn : ¬ nan x) :
    Calls Try.prog 46 #[.agg #[.float .f32 a, .float .f32 b], .float .f32 x] w fun e w' => e = .returned (.bool (hasW a b x)) ∧ Below w.heap.size w w' := by
  by_cases h1 : pl a ≤ pl x
  · have q1 : (FloatKind.f32.format.order a x == some .lt || FloatKind.f32.format.order a x == some .eq) = true := by rw [o_le]; exact decide_eq_true ⟨hi.1, hn, h1⟩
    by_cases h2 : pl x ≤ pl b
    · have q2 : (FloatKind.f32.format.order x b == some .lt || FloatKind.f32.format.order x b == some .eq) = true := by rw [o_le]; exact decide_eq_true ⟨hn, hi.2.1, h2⟩
      rw [show (hasW a b x) = true from decide_eq_true ⟨h1, h2⟩]
      clear h2
      clear ha hb hx hn hi h1
      go_enter Try.func46, Try.ntmps46
      go_wp2_with fail
      go_ret
      refine ⟨rfl, ?_⟩
      (repeat (first | exact Below.refl _ _ | refine Below.drew ?_ | refine below_drewN _ ?_ | refine ba _ ?_ | refine bs0 _ _ ?_ ?_ | refine bs1 _ _ _ ?_ ?_ | refine bs2 _ _ _ _ ?_ ?_ | refine bs3 _ _ _ _ _ ?_ ?_ | refine bt3 (by assumption) ?_))
    · have q2 : (FloatKind.f32.format.order x b == some .lt || FloatKind.f32.format.order x b == some .eq) = false := by rw [o_le]; exact decide_eq_false (fun k => h2 k.2.2)
      rw [show (hasW a b x) = false from decide_eq_false (fun k => h2 k.2)]
      clear h2
      clear ha hb hx hn hi h1
      go_enter Try.func46, Try.ntmps46
      go_wp2_with fail
      go_ret
      refine ⟨rfl, ?_⟩
      (repeat (first | exact Below.refl _ _ | refine Below.drew ?_ | refine below_drewN _ ?_ | refine ba _ ?_ | refine bs0 _ _ ?_ ?_ | refine bs1 _ _ _ ?_ ?_ | refine bs2 _ _ _ _ ?_ ?_ | refine bs3 _ _ _ _ _ ?_ ?_ | refine bt3 (by assumption) ?_))
  · have q1 : (FloatKind.f32.format.order a x == some .lt || FloatKind.f32.format.order a x == some .eq) = false := by rw [o_le]; exact decide_eq_false (fun k => h1 k.2.2)
    rw [show (hasW a b x) = false from decide_eq_false (fun k => h1 k.1)]
    clear ha hb hx hn hi h1
    go_enter Try.func46, Try.ntmps46
    go_wp2_with fail
    go_ret
    refine ⟨rfl, ?_⟩
    (repeat (first | exact Below.refl _ _ | refine Below.drew ?_ | refine below_drewN _ ?_ | refine ba _ ?_ | refine bs0 _ _ ?_ ?_ | refine bs1 _ _ _ ?_ ?_ | refine bs2 _ _ _ _ ?_ ?_ | refine bs3 _ _ _ _ _ ?_ ?_ | refine bt3 (by assumption) ?_))

set_option maxHeartbeats 1000000 in
theorem s_HasFloat (a b x : Nat) (w : World) (ha : W a) (hb : W b) (hx : W x) (hi : IsIv a b) (hF : fin x) :
    Calls Try.prog 20 #[.agg #[.float .f32 a, .float .f32 b], .float .f32 x] w fun e w' => e = .returned (.tuple #[.bool (hasW a b x), .int .i64 0]) ∧ Below w.heap.size w w' := by
  have HX : Hd (W x) := ⟨hx⟩
  have HA : Hd (W a) := ⟨ha⟩
  have HB : Hd (W b) := ⟨hb⟩
  have hn : ¬ nan x := by unfold nan; unfold fin at hF; omega
  have HN : Hd (¬ nan x) := ⟨hn⟩
  have HI : Hd (IsIv a b) := ⟨hi⟩
  have pI : decide (IsIv a b) = true := decide_eq_true hi
  have pF : decide (fin x) = true := decide_eq_true hF
  clear ha hb hx hi hF hn
  go_enter Try.func20, Try.ntmps20
  go_wp2_with (first | (go_at_call 41; (with_reducible refine (s_Is a b _ HA.out HB.out).mono ?_); rintro e w' ⟨rfl, hb⟩; (try replace hb := bt3 hb (by assumption)); obtain ⟨hc, hf, hz, hy⟩ := bcell hb; have hs := hb.size; (try simp at hs); (try have h0 : w.heap.size < w'.heap.size := by omega); (try have h1 : w.heap.size + 1 < w'.heap.size := by omega); (try have h2 : w.heap.size + 1 + 1 < w'.heap.size := by omega); clear hs) | (go_at_call 45; (with_reducible refine (s_Finite _ _).mono ?_); rintro e w' ⟨rfl, ⟨nd, rfl⟩⟩) | (go_at_call 46; (with_reducible refine (s_Has _ _ _ _ HA.out HB.out HX.out HI.out HN.out).mono ?_); rintro e w' ⟨rfl, hb⟩; (try replace hb := bt3 hb (by assumption)); obtain ⟨hc, hf, hz, hy⟩ := bcell hb; have hs := hb.size; (try simp at hs); (try have h0 : w.heap.size < w'.heap.size := by omega); (try have h1 : w.heap.size + 1 < w'.heap.size := by omega); (try have h2 : w.heap.size + 1 + 1 < w'.heap.size := by omega); clear hs))
  go_ret2
  refine ⟨rfl, ?_⟩
  (repeat (first | exact Below.refl _ _ | refine Below.drew ?_ | refine below_drewN _ ?_ | refine ba _ ?_ | refine bs0 _ _ ?_ ?_ | refine bs1 _ _ _ ?_ ?_ | refine bs2 _ _ _ _ ?_ ?_ | refine bs3 _ _ _ _ _ ?_ ?_ | refine bt3 (by assumption) ?_))

set_option maxHeartbeats 1000000 in
theorem s_HasFloatI (a b x : Nat) (w : World) (ha : W a) (hb : W b) (hx : W x) (hi : ¬ IsIv a b) :
    Calls Try.prog 20 #[.agg #[.float .f32 a, .float .f32 b], .float .f32 x] w fun e w' => e = .returned (.tuple #[.bool false, .int .i64 1]) ∧ Below w.heap.size w w' := by
  have HX : Hd (W x) := ⟨hx⟩
  have HA : Hd (W a) := ⟨ha⟩
  have HB : Hd (W b) := ⟨hb⟩
  have pI : decide (IsIv a b) = false := decide_eq_false hi
  clear ha hb hx hi
  go_enter Try.func20, Try.ntmps20
  go_wp2_with (first | (go_at_call 41; (with_reducible refine (s_Is a b _ HA.out HB.out).mono ?_); rintro e w' ⟨rfl, hb⟩; (try replace hb := bt3 hb (by assumption)); obtain ⟨hc, hf, hz, hy⟩ := bcell hb; have hs := hb.size; (try simp at hs); (try have h0 : w.heap.size < w'.heap.size := by omega); (try have h1 : w.heap.size + 1 < w'.heap.size := by omega); (try have h2 : w.heap.size + 1 + 1 < w'.heap.size := by omega); clear hs) | (go_at_call 45; (with_reducible refine (s_Finite _ _).mono ?_); rintro e w' ⟨rfl, ⟨nd, rfl⟩⟩))
  go_ret2
  refine ⟨rfl, ?_⟩
  (repeat (first | exact Below.refl _ _ | refine Below.drew ?_ | refine below_drewN _ ?_ | refine ba _ ?_ | refine bs0 _ _ ?_ ?_ | refine bs1 _ _ _ ?_ ?_ | refine bs2 _ _ _ _ ?_ ?_ | refine bs3 _ _ _ _ _ ?_ ?_ | refine bt3 (by assumption) ?_))

set_option maxHeartbeats 1000000 in
theorem s_HasFloatR (a b x : Nat) (w : World) (ha : W a) (hb : W b) (hx : W x) (hi : IsIv a b) (hF : ¬ fin x) :
    Calls Try.prog 20 #[.agg #[.float .f32 a, .float .f32 b], .float .f32 x] w fun e w' => e = .returned (.tuple #[.bool false, .int .i64 2]) ∧ Below w.heap.size w w' := by
  have HX : Hd (W x) := ⟨hx⟩
  have HA : Hd (W a) := ⟨ha⟩
  have HB : Hd (W b) := ⟨hb⟩
  have pI : decide (IsIv a b) = true := decide_eq_true hi
  have pF : decide (fin x) = false := decide_eq_false hF
  clear ha hb hx hi hF
  go_enter Try.func20, Try.ntmps20
  go_wp2_with (first | (go_at_call 41; (with_reducible refine (s_Is a b _ HA.out HB.out).mono ?_); rintro e w' ⟨rfl, hb⟩; (try replace hb := bt3 hb (by assumption)); obtain ⟨hc, hf, hz, hy⟩ := bcell hb; have hs := hb.size; (try simp at hs); (try have h0 : w.heap.size < w'.heap.size := by omega); (try have h1 : w.heap.size + 1 < w'.heap.size := by omega); (try have h2 : w.heap.size + 1 + 1 < w'.heap.size := by omega); clear hs) | (go_at_call 45; (with_reducible refine (s_Finite _ _).mono ?_); rintro e w' ⟨rfl, ⟨nd, rfl⟩⟩))
  go_ret2
  refine ⟨rfl, ?_⟩
  (repeat (first | exact Below.refl _ _ | refine Below.drew ?_ | refine below_drewN _ ?_ | refine ba _ ?_ | refine bs0 _ _ ?_ ?_ | refine bs1 _ _ _ ?_ ?_ | refine bs2 _ _ _ _ ?_ ?_ | refine bs3 _ _ _ _ _ ?_ ?_ | refine bt3 (by assumption) ?_))

set_option maxHeartbeats 1000000 in
theorem i_HasFloat (a b x : Nat) (w : World) (ha : W a) (hb : W b) (hx : W x) (hi : IsIv a b) (hn : ¬ nan x) (hF : fin x) :
    Calls Try.prog 21 #[.agg #[.float .f32 a, .float .f32 b], .float .f32 x] w fun e w' => e = .returned (.tuple #[.bool (hasW a b x), .int .i64 0]) ∧ Below w.heap.size w w' := by
  have HX : Hd (W x) := ⟨hx⟩
  have HA : Hd (W a) := ⟨ha⟩
  have HB : Hd (W b) := ⟨hb⟩
  have pI : decide (IsIv a b) = true := decide_eq_true hi
  have pF : decide (fin x) = true := decide_eq_true hF
  clear hF
  by_cases h1 : pl a ≤ pl x
  · have q1 : (FloatKind.f32.format.order a x == some .lt || FloatKind.f32.format.order a x == some .eq) = true := by rw [o_le]; exact decide_eq_true ⟨hi.1, hn, h1⟩
    by_cases h2 : pl x ≤ pl b
    · have q2 : (FloatKind.f32.format.order x b == some .lt || FloatKind.f32.format.order x b == some .eq) = true := by rw [o_le]; exact decide_eq_true ⟨hn, hi.2.1, h2⟩
      rw [show (hasW a b x) = true from decide_eq_true ⟨h1, h2⟩]
      clear h2
      clear ha hb hx hn hi h1
      go_enter Try.func21, Try.ntmps21
      go_wp2_with (first | (go_at_call 19; (with_reducible refine (i_IsInterval a b _ HA.out HB.out).mono ?_); rintro e w' ⟨rfl, hb⟩; (try replace hb := bt3 hb (by assumption)); obtain ⟨hc, hf, hz, hy⟩ := bcell hb; have hs := hb.size; (try simp at hs); (try have h0 : w.heap.size < w'.heap.size := by omega); (try have h1 : w.heap.size + 1 < w'.heap.size := by omega); (try have h2 : w.heap.size + 1 + 1 < w'.heap.size := by omega); clear hs) | (go_at_call 47; (with_reducible refine (i_isFinite _ _ HX.out).mono ?_); rintro e w' ⟨rfl, rfl⟩))
      go_ret2
      refine ⟨rfl, ?_⟩
      (repeat (first | exact Below.refl _ _ | refine Below.drew ?_ | refine below_drewN _ ?_ | refine ba _ ?_ | refine bs0 _ _ ?_ ?_ | refine bs1 _ _ _ ?_ ?_ | refine bs2 _ _ _ _ ?_ ?_ | refine bs3 _ _ _ _ _ ?_ ?_ | refine bt3 (by assumption) ?_))
    · have q2 : (FloatKind.f32.format.order x b == some .lt || FloatKind.f32.format.order x b == some .eq) = false := by rw [o_le]; exact decide_eq_false (fun k => h2 k.2.2)
      rw [show (hasW a b x) = false from decide_eq_false (fun k => h2 k.2)]
      clear h2
      clear ha hb hx hn hi h1
      go_enter Try.func21, Try.ntmps21
      go_wp2_with (first | (go_at_call 19; (with_reducible refine (i_IsInterval a b _ HA.out HB.out).mono ?_); rintro e w' ⟨rfl, hb⟩; (try replace hb := bt3 hb (by assumption)); obtain ⟨hc, hf, hz, hy⟩ := bcell hb; have hs := hb.size; (try simp at hs); (try have h0 : w.heap.size < w'.heap.size := by omega); (try have h1 : w.heap.size + 1 < w'.heap.size := by omega); (try have h2 : w.heap.size + 1 + 1 < w'.heap.size := by omega); clear hs) | (go_at_call 47; (with_reducible refine (i_isFinite _ _ HX.out).mono ?_); rintro e w' ⟨rfl, rfl⟩))
      go_ret2
      refine ⟨rfl, ?_⟩
      (repeat (first | exact Below.refl _ _ | refine Below.drew ?_ | refine below_drewN _ ?_ | refine ba _ ?_ | refine bs0 _ _ ?_ ?_ | refine bs1 _ _ _ ?_ ?_ | refine bs2 _ _ _ _ ?_ ?_ | refine bs3 _ _ _ _ _ ?_ ?_ | refine bt3 (by assumption) ?_))
  · have q1 : (FloatKind.f32.format.order a x == some .lt || FloatKind.f32.format.order a x == some .eq) = false := by rw [o_le]; exact decide_eq_false (fun k => h1 k.2.2)
    rw [show (hasW a b x) = false from decide_eq_false (fun k => h1 k.1)]
    clear ha hb hx hn hi h1
    go_enter Try.func21, Try.ntmps21
    go_wp2_with (first | (go_at_call 19; (with_reducible refine (i_IsInterval a b _ HA.out HB.out).mono ?_); rintro e w' ⟨rfl, hb⟩; (try replace hb := bt3 hb (by assumption)); obtain ⟨hc, hf, hz, hy⟩ := bcell hb; have hs := hb.size; (try simp at hs); (try have h0 : w.heap.size < w'.heap.size := by omega); (try have h1 : w.heap.size + 1 < w'.heap.size := by omega); (try have h2 : w.heap.size + 1 + 1 < w'.heap.size := by omega); clear hs) | (go_at_call 47; (with_reducible refine (i_isFinite _ _ HX.out).mono ?_); rintro e w' ⟨rfl, rfl⟩))
    go_ret2
    refine ⟨rfl, ?_⟩
    (repeat (first | exact Below.refl _ _ | refine Below.drew ?_ | refine below_drewN _ ?_ | refine ba _ ?_ | refine bs0 _ _ ?_ ?_ | refine bs1 _ _ _ ?_ ?_ | refine bs2 _ _ _ _ ?_ ?_ | refine bs3 _ _ _ _ _ ?_ ?_ | refine bt3 (by assumption) ?_))

set_option maxHeartbeats 1000000 in
theorem i_HasFloatI (a b x : Nat) (w : World) (ha : W a) (hb : W b) (hx : W x) (hi : ¬ IsIv a b) :
    Calls Try.prog 21 #[.agg #[.float .f32 a, .float .f32 b], .float .f32 x] w fun e w' => e = .returned (.tuple #[.bool false, .int .i64 1]) ∧ Below w.heap.size w w' := by
  have HX : Hd (W x) := ⟨hx⟩
  have HA : Hd (W a) := ⟨ha⟩
  have HB : Hd (W b) := ⟨hb⟩
  have pI : decide (IsIv a b) = false := decide_eq_false hi
  clear ha hb hx hi
  go_enter Try.func21, Try.ntmps21
  go_wp2_with (first | (go_at_call 19; (with_reducible refine (i_IsInterval a b _ HA.out HB.out).mono ?_); rintro e w' ⟨rfl, hb⟩; (try replace hb := bt3 hb (by assumption)); obtain ⟨hc, hf, hz, hy⟩ := bcell hb; have hs := hb.size; (try simp at hs); (try have h0 : w.heap.size < w'.heap.size := by omega); (try have h1 : w.heap.size + 1 < w'.heap.size := by omega); (try have h2 : w.heap.size + 1 + 1 < w'.heap.size := by omega); clear hs) | (go_at_call 47; (with_reducible refine (i_isFinite _ _ HX.out).mono ?_); rintro e w' ⟨rfl, rfl⟩))
  go_ret2
  refine ⟨rfl, ?_⟩
  (repeat (first | exact Below.refl _ _ | refine Below.drew ?_ | refine below_drewN _ ?_ | refine ba _ ?_ | refine bs0 _ _ ?_ ?_ | refine bs1 _ _ _ ?_ ?_ | refine bs2 _ _ _ _ ?_ ?_ | refine bs3 _ _ _ _ _ ?_ ?_ | refine bt3 (by assumption) ?_))

set_option maxHeartbeats 1000000 in
theorem i_HasFloatR (a b x : Nat) (w : World) (ha : W a) (hb : W b) (hx : W x) (hi : IsIv a b) (hF : ¬ fin x) :
    Calls Try.prog 21 #[.agg #[.float .f32 a, .float .f32 b], .float .f32 x] w fun e w' => e = .returned (.tuple #[.bool false, .int .i64 2]) ∧ Below w.heap.size w w' := by
  have HX : Hd (W x) := ⟨hx⟩
  have HA : Hd (W a) := ⟨ha⟩
  have HB : Hd (W b) := ⟨hb⟩
  have pI : decide (IsIv a b) = true := decide_eq_true hi
  have pF : decide (fin x) = false := decide_eq_false hF
  clear ha hb hx hi hF
  go_enter Try.func21, Try.ntmps21
  go_wp2_with (first | (go_at_call 19; (with_reducible refine (i_IsInterval a b _ HA.out HB.out).mono ?_); rintro e w' ⟨rfl, hb⟩; (try replace hb := bt3 hb (by assumption)); obtain ⟨hc, hf, hz, hy⟩ := bcell hb; have hs := hb.size; (try simp at hs); (try have h0 : w.heap.size < w'.heap.size := by omega); (try have h1 : w.heap.size + 1 < w'.heap.size := by omega); (try have h2 : w.heap.size + 1 + 1 < w'.heap.size := by omega); clear hs) | (go_at_call 47; (with_reducible refine (i_isFinite _ _ HX.out).mono ?_); rintro e w' ⟨rfl, rfl⟩))
  go_ret2
  refine ⟨rfl, ?_⟩
  (repeat (first | exact Below.refl _ _ | refine Below.drew ?_ | refine below_drewN _ ?_ | refine ba _ ?_ | refine bs0 _ _ ?_ ?_ | refine bs1 _ _ _ ?_ ?_ | refine bs2 _ _ _ _ ?_ ?_ | refine bs3 _ _ _ _ _ ?_ ?_ | refine bt3 (by assumption) ?_))

set_option maxHeartbeats 1000000 in
theorem s_IsPartOf (a b c d : Nat) (w : World) (ha : W a) (hb : W b) (hc : W c) (hd : W d) (hi : IsIv a b) (hj : IsIv c d) :
    Calls Try.prog 22 #[.agg #[.float .f32 a, .float .f32 b], .agg #[.float .f32 c, .float .f32 d]] w fun e w' => e = .returned (.tuple #[.bool (partW a b c d), .int .i64 0]) ∧ Below w.heap.size w w' := by
  have HA : Hd (W a) := ⟨ha⟩
  have HB : Hd (W b) := ⟨hb⟩
  have HC : Hd (W c) := ⟨hc⟩
  have HD : Hd (W d) := ⟨hd⟩
  have HI : Hd (IsIv a b) := ⟨hi⟩
  have HJ : Hd (IsIv c d) := ⟨hj⟩
  have pI : decide (IsIv a b) = true := decide_eq_true hi
  have pJ : decide (IsIv c d) = true := decide_eq_true hj
  have pC : bothC a b c d = 0 := if_pos ⟨hi, hj⟩
  clear ha hb hc hd hi hj
  go_enter Try.func22, Try.ntmps22
  go_wp2_with (first | (go_at_call 48; (with_reducible refine (s_Both _ _ _ _ _ HA.out HB.out HC.out HD.out).mono ?_); rintro e w' ⟨rfl, hb⟩; (try replace hb := bt3 hb (by assumption)); obtain ⟨hc, hf, hz, hy⟩ := bcell hb; have hs := hb.size; (try simp at hs); (try have h0 : w.heap.size < w'.heap.size := by omega); (try have h1 : w.heap.size + 1 < w'.heap.size := by omega); (try have h2 : w.heap.size + 1 + 1 < w'.heap.size := by omega); clear hs) | (go_at_call 49; (with_reducible refine (s_Part _ _ _ _ _ HA.out HB.out HC.out HD.out HI.out HJ.out).mono ?_); rintro e w' ⟨rfl, hb⟩; (try replace hb := bt3 hb (by assumption)); obtain ⟨hc, hf, hz, hy⟩ := bcell hb; have hs := hb.size; (try simp at hs); (try have h0 : w.heap.size < w'.heap.size := by omega); (try have h1 : w.heap.size + 1 < w'.heap.size := by omega); (try have h2 : w.heap.size + 1 + 1 < w'.heap.size := by omega); clear hs))
  go_ret2
  refine ⟨rfl, ?_⟩
  (repeat (first | exact Below.refl _ _ | refine Below.drew ?_ | refine below_drewN _ ?_ | refine ba _ ?_ | refine bs0 _ _ ?_ ?_ | refine bs1 _ _ _ ?_ ?_ | refine bs2 _ _ _ _ ?_ ?_ | refine bs3 _ _ _ _ _ ?_ ?_ | refine bt3 (by assumption) ?_))

set_option maxHeartbeats 1000000 in
theorem s_IsPartOfN (a b c d : Nat) (w : World) (ha : W a) (hb : W b) (hc : W c) (hd : W d) (hn : ¬ (IsIv a b ∧ IsIv c d)) :
    Calls Try.prog 22 #[.agg #[.float .f32 a, .float .f32 b], .agg #[.float .f32 c, .float .f32 d]] w fun e w' => e = .returned (.tuple #[.bool false, .int .i64 1]) ∧ Below w.heap.size w w' := by
  have HA : Hd (W a) := ⟨ha⟩
  have HB : Hd (W b) := ⟨hb⟩
  have HC : Hd (W c) := ⟨hc⟩
  have HD : Hd (W d) := ⟨hd⟩
  have pC : bothC a b c d = 1 := if_neg hn
  clear ha hb hc hd hn
  go_enter Try.func22, Try.ntmps22
  go_wp2_with (first | (go_at_call 48; (with_reducible refine (s_Both _ _ _ _ _ HA.out HB.out HC.out HD.out).mono ?_); rintro e w' ⟨rfl, hb⟩; (try replace hb := bt3 hb (by assumption)); obtain ⟨hc, hf, hz, hy⟩ := bcell hb; have hs := hb.size; (try simp at hs); (try have h0 : w.heap.size < w'.heap.size := by omega); (try have h1 : w.heap.size + 1 < w'.heap.size := by omega); (try have h2 : w.heap.size + 1 + 1 < w'.heap.size := by omega); clear hs))
  go_ret2
  refine ⟨rfl, ?_⟩
  (repeat (first | exact Below.refl _ _ | refine Below.drew ?_ | refine below_drewN _ ?_ | refine ba _ ?_ | refine bs0 _ _ ?_ ?_ | refine bs1 _ _ _ ?_ ?_ | refine bs2 _ _ _ _ ?_ ?_ | refine bs3 _ _ _ _ _ ?_ ?_ | refine bt3 (by assumption) ?_))

set_option maxHeartbeats 1000000 in
theorem s_HullOfIntervals (a b c d : Nat) (w : World) (ha : W a) (hb : W b) (hc : W c) (hd : W d) (hi : IsIv a b) (hj : IsIv c d) :
    Calls Try.prog 31 #[.agg #[.float .f32 a, .float .f32 b], .agg #[.float .f32 c, .float .f32 d]] w fun e w' => e = .returned (.tuple #[.agg #[.float .f32 (mnW a c), .float .f32 (mxW b d)], .int .i64 0]) ∧ Below w.heap.size w w' := by
  have HA : Hd (W a) := ⟨ha⟩
  have HB : Hd (W b) := ⟨hb⟩
  have HC : Hd (W c) := ⟨hc⟩
  have HD : Hd (W d) := ⟨hd⟩
  have HI : Hd (IsIv a b) := ⟨hi⟩
  have HJ : Hd (IsIv c d) := ⟨hj⟩
  have pI : decide (IsIv a b) = true := decide_eq_true hi
  have pJ : decide (IsIv c d) = true := decide_eq_true hj
  have pC : bothC a b c d = 0 := if_pos ⟨hi, hj⟩
  clear ha hb hc hd hi hj
  go_enter Try.func31, Try.ntmps31
  go_wp2_with (first | (go_at_call 48; (with_reducible refine (s_Both _ _ _ _ _ HA.out HB.out HC.out HD.out).mono ?_); rintro e w' ⟨rfl, hb⟩; (try replace hb := bt3 hb (by assumption)); obtain ⟨hc, hf, hz, hy⟩ := bcell hb; have hs := hb.size; (try simp at hs); (try have h0 : w.heap.size < w'.heap.size := by omega); (try have h1 : w.heap.size + 1 < w'.heap.size := by omega); (try have h2 : w.heap.size + 1 + 1 < w'.heap.size := by omega); clear hs) | (go_at_call 57; (with_reducible refine (s_Hull _ _ _ _ _ HA.out HB.out HC.out HD.out HI.out HJ.out).mono ?_); rintro e w' ⟨rfl, hb⟩; (try replace hb := bt3 hb (by assumption)); obtain ⟨hc, hf, hz, hy⟩ := bcell hb; have hs := hb.size; (try simp at hs); (try have h0 : w.heap.size < w'.heap.size := by omega); (try have h1 : w.heap.size + 1 < w'.heap.size := by omega); (try have h2 : w.heap.size + 1 + 1 < w'.heap.size := by omega); clear hs))
  refine bodyPost_ret (v := .tuple #[.agg #[.float .f32 (mnW a c), .float .f32 (mxW b d)], .int .i64 0]) (by simp (maxDischargeDepth := 7) [results, Try.results31, go_sem, *]) rfl ⟨rfl, ?_⟩
  (repeat (first | exact Below.refl _ _ | refine Below.drew ?_ | refine below_drewN _ ?_ | refine ba _ ?_ | refine bs0 _ _ ?_ ?_ | refine bs1 _ _ _ ?_ ?_ | refine bs2 _ _ _ _ ?_ ?_ | refine bs3 _ _ _ _ _ ?_ ?_ | refine bt3 (by assumption) ?_))

set_option maxHeartbeats 1000000 in
theorem s_HullOfIntervalsN (a b c d : Nat) (w : World) (ha : W a) (hb : W b) (hc : W c) (hd : W d) (hn : ¬ (IsIv a b ∧ IsIv c d)) :
    Calls Try.prog 31 #[.agg #[.float .f32 a, .float .f32 b], .agg #[.float .f32 c, .float .f32 d]] w fun e w' => e = .returned (.tuple #[.agg #[.float .f32 0, .float .f32 0], .int .i64 1]) ∧ Below w.heap.size w w' := by
  have HA : Hd (W a) := ⟨ha⟩
  have HB : Hd (W b) := ⟨hb⟩
  have HC : Hd (W c) := ⟨hc⟩
  have HD : Hd (W d) := ⟨hd⟩
  have pC : bothC a b c d = 1 := if_neg hn
  clear ha hb hc hd hn
  go_enter Try.func31, Try.ntmps31
  go_wp2_with (first | (go_at_call 48; (with_reducible refine (s_Both _ _ _ _ _ HA.out HB.out HC.out HD.out).mono ?_); rintro e w' ⟨rfl, hb⟩; (try replace hb := bt3 hb (by assumption)); obtain ⟨hc, hf, hz, hy⟩ := bcell hb; have hs := hb.size; (try simp at hs); (try have h0 : w.heap.size < w'.heap.size := by omega); (try have h1 : w.heap.size + 1 < w'.heap.size := by omega); (try have h2 : w.heap.size + 1 + 1 < w'.heap.size := by omega); clear hs))
  refine bodyPost_ret (v := .tuple #[.agg #[.float .f32 0, .float .f32 0], .int .i64 1]) (by simp (maxDischargeDepth := 7) [results, Try.results31, go_sem, *]) rfl ⟨rfl, ?_⟩
  (repeat (first | exact Below.refl _ _ | refine Below.drew ?_ | refine below_drewN _ ?_ | refine ba _ ?_ | refine bs0 _ _ ?_ ?_ | refine bs1 _ _ _ ?_ ?_ | refine bs2 _ _ _ _ ?_ ?_ | refine bs3 _ _ _ _ _ ?_ ?_ | refine bt3 (by assumption) ?_))

set_option maxHeartbeats 1000000 in
theorem s_MeetOfIntervals (a b c d : Nat) (w : World) (ha : W a) (hb : W b) (hc : W c) (hd : W d) (hi : IsIv a b) (hj : IsIv c d) (hm : pl (mxW a c) ≤ pl (mnW b d)) :
    Calls Try.prog 33 #[.agg #[.float .f32 a, .float .f32 b], .agg #[.float .f32 c, .float .f32 d]] w fun e w' => e = .returned (.tuple #[.agg #[.float .f32 (mxW a c), .float .f32 (mnW b d)], .int .i64 0]) ∧ Below w.heap.size w w' := by
  have HA : Hd (W a) := ⟨ha⟩
  have HB : Hd (W b) := ⟨hb⟩
  have HC : Hd (W c) := ⟨hc⟩
  have HD : Hd (W d) := ⟨hd⟩
  have HI : Hd (IsIv a b) := ⟨hi⟩
  have HJ : Hd (IsIv c d) := ⟨hj⟩
  have pI : decide (IsIv a b) = true := decide_eq_true hi
  have pJ : decide (IsIv c d) = true := decide_eq_true hj
  have pC : bothC a b c d = 0 := if_pos ⟨hi, hj⟩
  have pm : decide (pl (mxW a c) ≤ pl (mnW b d)) = true := decide_eq_true hm
  clear ha hb hc hd hi hj hm
  go_enter Try.func33, Try.ntmps33
  go_wp2_with (first | (go_at_call 48; (with_reducible refine (s_Both _ _ _ _ _ HA.out HB.out HC.out HD.out).mono ?_); rintro e w' ⟨rfl, hb⟩; (try replace hb := bt3 hb (by assumption)); obtain ⟨hc, hf, hz, hy⟩ := bcell hb; have hs := hb.size; (try simp at hs); (try have h0 : w.heap.size < w'.heap.size := by omega); (try have h1 : w.heap.size + 1 < w'.heap.size := by omega); (try have h2 : w.heap.size + 1 + 1 < w'.heap.size := by omega); clear hs) | (go_at_call 59; (with_reducible refine (s_Meet _ _ _ _ _ HA.out HB.out HC.out HD.out HI.out HJ.out).mono ?_); rintro e w' ⟨rfl, hb⟩; (try replace hb := bt3 hb (by assumption)); obtain ⟨hc, hf, hz, hy⟩ := bcell hb; have hs := hb.size; (try simp at hs); (try have h0 : w.heap.size < w'.heap.size := by omega); (try have h1 : w.heap.size + 1 < w'.heap.size := by omega); (try have h2 : w.heap.size + 1 + 1 < w'.heap.size := by omega); clear hs))
  refine bodyPost_ret (v := .tuple #[.agg #[.float .f32 (mxW a c), .float .f32 (mnW b d)], .int .i64 0]) (by simp (maxDischargeDepth := 7) [results, Try.results33, go_sem, *]) rfl ⟨rfl, ?_⟩
  (repeat (first | exact Below.refl _ _ | refine Below.drew ?_ | refine below_drewN _ ?_ | refine ba _ ?_ | refine bs0 _ _ ?_ ?_ | refine bs1 _ _ _ ?_ ?_ | refine bs2 _ _ _ _ ?_ ?_ | refine bs3 _ _ _ _ _ ?_ ?_ | refine bt3 (by assumption) ?_))

set_option maxHeartbeats 1000000 in
theorem s_MeetNone (a b c d : Nat) (w : World) (ha : W a) (hb : W b) (hc : W c) (hd : W d) (hi : IsIv a b) (hj : IsIv c d) (hm : ¬ pl (mxW a c) ≤ pl (mnW b d)) :
    Calls Try.prog 33 #[.agg #[.float .f32 a, .float .f32 b], .agg #[.float .f32 c, .float .f32 d]] w fun e w' => e = .returned (.tuple #[.agg #[.float .f32 0, .float .f32 0], .int .i64 4]) ∧ Below w.heap.size w w' := by
  have HA : Hd (W a) := ⟨ha⟩
  have HB : Hd (W b) := ⟨hb⟩
  have HC : Hd (W c) := ⟨hc⟩
  have HD : Hd (W d) := ⟨hd⟩
  have HI : Hd (IsIv a b) := ⟨hi⟩
  have HJ : Hd (IsIv c d) := ⟨hj⟩
  have pI : decide (IsIv a b) = true := decide_eq_true hi
  have pJ : decide (IsIv c d) = true := decide_eq_true hj
  have pC : bothC a b c d = 0 := if_pos ⟨hi, hj⟩
  have pm : decide (pl (mxW a c) ≤ pl (mnW b d)) = false := decide_eq_false hm
  clear ha hb hc hd hi hj hm
  go_enter Try.func33, Try.ntmps33
  go_wp2_with (first | (go_at_call 48; (with_reducible refine (s_Both _ _ _ _ _ HA.out HB.out HC.out HD.out).mono ?_); rintro e w' ⟨rfl, hb⟩; (try replace hb := bt3 hb (by assumption)); obtain ⟨hc, hf, hz, hy⟩ := bcell hb; have hs := hb.size; (try simp at hs); (try have h0 : w.heap.size < w'.heap.size := by omega); (try have h1 : w.heap.size + 1 < w'.heap.size := by omega); (try have h2 : w.heap.size + 1 + 1 < w'.heap.size := by omega); clear hs) | (go_at_call 59; (with_reducible refine (s_Meet _ _ _ _ _ HA.out HB.out HC.out HD.out HI.out HJ.out).mono ?_); rintro e w' ⟨rfl, hb⟩; (try replace hb := bt3 hb (by assumption)); obtain ⟨hc, hf, hz, hy⟩ := bcell hb; have hs := hb.size; (try simp at hs); (try have h0 : w.heap.size < w'.heap.size := by omega); (try have h1 : w.heap.size + 1 < w'.heap.size := by omega); (try have h2 : w.heap.size + 1 + 1 < w'.heap.size := by omega); clear hs))
  refine bodyPost_ret (v := .tuple #[.agg #[.float .f32 0, .float .f32 0], .int .i64 4]) (by simp (maxDischargeDepth := 7) [results, Try.results33, go_sem, *]) rfl ⟨rfl, ?_⟩
  (repeat (first | exact Below.refl _ _ | refine Below.drew ?_ | refine below_drewN _ ?_ | refine ba _ ?_ | refine bs0 _ _ ?_ ?_ | refine bs1 _ _ _ ?_ ?_ | refine bs2 _ _ _ _ ?_ ?_ | refine bs3 _ _ _ _ _ ?_ ?_ | refine bt3 (by assumption) ?_))

set_option maxHeartbeats 1000000 in
theorem s_MeetOfIntervalsN (a b c d : Nat) (w : World) (ha : W a) (hb : W b) (hc : W c) (hd : W d) (hn : ¬ (IsIv a b ∧ IsIv c d)) :
    Calls Try.prog 33 #[.agg #[.float .f32 a, .float .f32 b], .agg #[.float .f32 c, .float .f32 d]] w fun e w' => e = .returned (.tuple #[.agg #[.float .f32 0, .float .f32 0], .int .i64 1]) ∧ Below w.heap.size w w' := by
  have HA : Hd (W a) := ⟨ha⟩
  have HB : Hd (W b) := ⟨hb⟩
  have HC : Hd (W c) := ⟨hc⟩
  have HD : Hd (W d) := ⟨hd⟩
  have pC : bothC a b c d = 1 := if_neg hn
  clear ha hb hc hd hn
  go_enter Try.func33, Try.ntmps33
  go_wp2_with (first | (go_at_call 48; (with_reducible refine (s_Both _ _ _ _ _ HA.out HB.out HC.out HD.out).mono ?_); rintro e w' ⟨rfl, hb⟩; (try replace hb := bt3 hb (by assumption)); obtain ⟨hc, hf, hz, hy⟩ := bcell hb; have hs := hb.size; (try simp at hs); (try have h0 : w.heap.size < w'.heap.size := by omega); (try have h1 : w.heap.size + 1 < w'.heap.size := by omega); (try have h2 : w.heap.size + 1 + 1 < w'.heap.size := by omega); clear hs))
  refine bodyPost_ret (v := .tuple #[.agg #[.float .f32 0, .float .f32 0], .int .i64 1]) (by simp (maxDischargeDepth := 7) [results, Try.results33, go_sem, *]) rfl ⟨rfl, ?_⟩
  (repeat (first | exact Below.refl _ _ | refine Below.drew ?_ | refine below_drewN _ ?_ | refine ba _ ?_ | refine bs0 _ _ ?_ ?_ | refine bs1 _ _ _ ?_ ?_ | refine bs2 _ _ _ _ ?_ ?_ | refine bs3 _ _ _ _ _ ?_ ?_ | refine bt3 (by assumption) ?_))

set_option maxHeartbeats 1000000 in
theorem s_OrderL (a b c d : Nat) (w : World) (ha : W a) (hb : W b) (hc : W c) (hd : W d) (hi : IsIv a b) (hj : IsIv c d) (hm : pl b < pl c) :
    Calls Try.prog 24 #[.agg #[.float .f32 a, .float .f32 b], .agg #[.float .f32 c, .float .f32 d]] w fun e w' => e = .returned (.tuple #[.int .i64 (-1), .int .i64 0]) ∧ Below w.heap.size w w' := by
  have HA : Hd (W a) := ⟨ha⟩
  have HB : Hd (W b) := ⟨hb⟩
  have HC : Hd (W c) := ⟨hc⟩
  have HD : Hd (W d) := ⟨hd⟩
  have HI : Hd (IsIv a b) := ⟨hi⟩
  have HJ : Hd (IsIv c d) := ⟨hj⟩
  have pI : decide (IsIv a b) = true := decide_eq_true hi
  have pJ : decide (IsIv c d) = true := decide_eq_true hj
  have pC : bothC a b c d = 0 := if_pos ⟨hi, hj⟩
  have q1 : (FloatKind.f32.format.order b c == some .lt) = true := by rw [o_lt]; exact decide_eq_true ⟨hi.2.1, hj.1, hm⟩
  clear ha hb hc hd hi hj hm
  go_enter Try.func24, Try.ntmps24
  go_wp2_with (first | (go_at_call 48; (with_reducible refine (s_Both _ _ _ _ _ HA.out HB.out HC.out HD.out).mono ?_); rintro e w' ⟨rfl, hb⟩; (try replace hb := bt3 hb (by assumption)); obtain ⟨hc, hf, hz, hy⟩ := bcell hb; have hs := hb.size; (try simp at hs); (try have h0 : w.heap.size < w'.heap.size := by omega); (try have h1 : w.heap.size + 1 < w'.heap.size := by omega); (try have h2 : w.heap.size + 1 + 1 < w'.heap.size := by omega); clear hs))
  go_ret2
  refine ⟨rfl, ?_⟩
  (repeat (first | exact Below.refl _ _ | refine Below.drew ?_ | refine below_drewN _ ?_ | refine ba _ ?_ | refine bs0 _ _ ?_ ?_ | refine bs1 _ _ _ ?_ ?_ | refine bs2 _ _ _ _ ?_ ?_ | refine bs3 _ _ _ _ _ ?_ ?_ | refine bt3 (by assumption) ?_))

set_option maxHeartbeats 1000000 in
theorem s_OrderG (a b c d : Nat) (w : World) (ha : W a) (hb : W b) (hc : W c) (hd : W d) (hi : IsIv a b) (hj : IsIv c d) (hm : ¬ pl b < pl c) (hk : pl d < pl a) :
    Calls Try.prog 24 #[.agg #[.float .f32 a, .float .f32 b], .agg #[.float .f32 c, .float .f32 d]] w fun e w' => e = .returned (.tuple #[.int .i64 1, .int .i64 0]) ∧ Below w.heap.size w w' := by
  have HA : Hd (W a) := ⟨ha⟩
  have HB : Hd (W b) := ⟨hb⟩
  have HC : Hd (W c) := ⟨hc⟩
  have HD : Hd (W d) := ⟨hd⟩
  have HI : Hd (IsIv a b) := ⟨hi⟩
  have HJ : Hd (IsIv c d) := ⟨hj⟩
  have pI : decide (IsIv a b) = true := decide_eq_true hi
  have pJ : decide (IsIv c d) = true := decide_eq_true hj
  have pC : bothC a b c d = 0 := if_pos ⟨hi, hj⟩
  have q1 : (FloatKind.f32.format.order b c == some .lt) = false := by rw [o_lt]; exact decide_eq_false (fun k => hm k.2.2)
  have q2 : (FloatKind.f32.format.order a d == some .gt) = true := by rw [o_gt]; exact decide_eq_true ⟨hi.1, hj.2.1, hk⟩
  clear ha hb hc hd hi hj hm hk
  go_enter Try.func24, Try.ntmps24
  go_wp2_with (first | (go_at_call 48; (with_reducible refine (s_Both _ _ _ _ _ HA.out HB.out HC.out HD.out).mono ?_); rintro e w' ⟨rfl, hb⟩; (try replace hb := bt3 hb (by assumption)); obtain ⟨hc, hf, hz, hy⟩ := bcell hb; have hs := hb.size; (try simp at hs); (try have h0 : w.heap.size < w'.heap.size := by omega); (try have h1 : w.heap.size + 1 < w'.heap.size := by omega); (try have h2 : w.heap.size + 1 + 1 < w'.heap.size := by omega); clear hs))
  go_ret2
  refine ⟨rfl, ?_⟩
  (repeat (first | exact Below.refl _ _ | refine Below.drew ?_ | refine below_drewN _ ?_ | refine ba _ ?_ | refine bs0 _ _ ?_ ?_ | refine bs1 _ _ _ ?_ ?_ | refine bs2 _ _ _ _ ?_ ?_ | refine bs3 _ _ _ _ _ ?_ ?_ | refine bt3 (by assumption) ?_))

set_option maxHeartbeats 1000000 in
theorem s_OrderE (a b c d : Nat) (w : World) (ha : W a) (hb : W b) (hc : W c) (hd : W d) (hi : IsIv a b) (hj : IsIv c d) (hm : ¬ pl b < pl c) (hk : ¬ pl d < pl a) :
    Calls Try.prog 24 #[.agg #[.float .f32 a, .float .f32 b], .agg #[.float .f32 c, .float .f32 d]] w fun e w' => e = .returned (.tuple #[.int .i64 0, .int .i64 0]) ∧ Below w.heap.size w w' := by
  have HA : Hd (W a) := ⟨ha⟩
  have HB : Hd (W b) := ⟨hb⟩
  have HC : Hd (W c) := ⟨hc⟩
  have HD : Hd (W d) := ⟨hd⟩
  have HI : Hd (IsIv a b) := ⟨hi⟩
  have HJ : Hd (IsIv c d) := ⟨hj⟩
  have pI : decide (IsIv a b) = true := decide_eq_true hi
  have pJ : decide (IsIv c d) = true := decide_eq_true hj
  have pC : bothC a b c d = 0 := if_pos ⟨hi, hj⟩
  have q1 : (FloatKind.f32.format.order b c == some .lt) = false := by rw [o_lt]; exact decide_eq_false (fun k => hm k.2.2)
  have q2 : (FloatKind.f32.format.order a d == some .gt) = false := by rw [o_gt]; exact decide_eq_false (fun k => hk k.2.2)
  clear ha hb hc hd hi hj hm hk
  go_enter Try.func24, Try.ntmps24
  go_wp2_with (first | (go_at_call 48; (with_reducible refine (s_Both _ _ _ _ _ HA.out HB.out HC.out HD.out).mono ?_); rintro e w' ⟨rfl, hb⟩; (try replace hb := bt3 hb (by assumption)); obtain ⟨hc, hf, hz, hy⟩ := bcell hb; have hs := hb.size; (try simp at hs); (try have h0 : w.heap.size < w'.heap.size := by omega); (try have h1 : w.heap.size + 1 < w'.heap.size := by omega); (try have h2 : w.heap.size + 1 + 1 < w'.heap.size := by omega); clear hs))
  go_ret2
  refine ⟨rfl, ?_⟩
  (repeat (first | exact Below.refl _ _ | refine Below.drew ?_ | refine below_drewN _ ?_ | refine ba _ ?_ | refine bs0 _ _ ?_ ?_ | refine bs1 _ _ _ ?_ ?_ | refine bs2 _ _ _ _ ?_ ?_ | refine bs3 _ _ _ _ _ ?_ ?_ | refine bt3 (by assumption) ?_))

set_option maxHeartbeats 1000000 in
theorem s_OrderOfIntervalsN (a b c d : Nat) (w : World) (ha : W a) (hb : W b) (hc : W c) (hd : W d) (hn : ¬ (IsIv a b ∧ IsIv c d)) :
    Calls Try.prog 24 #[.agg #[.float .f32 a, .float .f32 b], .agg #[.float .f32 c, .float .f32 d]] w fun e w' => e = .returned (.tuple #[.int .i64 0, .int .i64 1]) ∧ Below w.heap.size w w' := by
  have HA : Hd (W a) := ⟨ha⟩
  have HB : Hd (W b) := ⟨hb⟩
  have HC : Hd (W c) := ⟨hc⟩
  have HD : Hd (W d) := ⟨hd⟩
  have pC : bothC a b c d = 1 := if_neg hn
  clear ha hb hc hd hn
  go_enter Try.func24, Try.ntmps24
  go_wp2_with (first | (go_at_call 48; (with_reducible refine (s_Both _ _ _ _ _ HA.out HB.out HC.out HD.out).mono ?_); rintro e w' ⟨rfl, hb⟩; (try replace hb := bt3 hb (by assumption)); obtain ⟨hc, hf, hz, hy⟩ := bcell hb; have hs := hb.size; (try simp at hs); (try have h0 : w.heap.size < w'.heap.size := by omega); (try have h1 : w.heap.size + 1 < w'.heap.size := by omega); (try have h2 : w.heap.size + 1 + 1 < w'.heap.size := by omega); clear hs))
  go_ret2
  refine ⟨rfl, ?_⟩
  (repeat (first | exact Below.refl _ _ | refine Below.drew ?_ | refine below_drewN _ ?_ | refine ba _ ?_ | refine bs0 _ _ ?_ ?_ | refine bs1 _ _ _ ?_ ?_ | refine bs2 _ _ _ _ ?_ ?_ | refine bs3 _ _ _ _ _ ?_ ?_ | refine bt3 (by assumption) ?_))

set_option maxHeartbeats 1000000 in
theorem i_IsPartOf (a b c d : Nat) (w : World) (ha : W a) (hb : W b) (hc : W c) (hd : W d) (hi : IsIv a b) (hj : IsIv c d) :
    Calls Try.prog 23 #[.agg #[.float .f32 a, .float .f32 b], .agg #[.float .f32 c, .float .f32 d]] w fun e w' => e = .returned (.tuple #[.bool (partW a b c d), .int .i64 0]) ∧ Below w.heap.size w w' := by
  have HA : Hd (W a) := ⟨ha⟩
  have HB : Hd (W b) := ⟨hb⟩
  have HC : Hd (W c) := ⟨hc⟩
  have HD : Hd (W d) := ⟨hd⟩
  have HI : Hd (IsIv a b) := ⟨hi⟩
  have HJ : Hd (IsIv c d) := ⟨hj⟩
  have pI : decide (IsIv a b) = true := decide_eq_true hi
  have pJ : decide (IsIv c d) = true := decide_eq_true hj
  clear ha hb hc hd hi hj
  go_enter Try.func23, Try.ntmps23
  go_wp2_with (first | (go_at_call 50; (with_reducible refine (i_areIntervals _ _ _ _ _ _ _ HA.out HB.out HC.out HD.out (by go_simp) (by go_simp) (by go_simp) (by go_simp)).mono ?_); rintro e w' ⟨rfl, hb⟩; (try replace hb := bt3 hb (by assumption)); obtain ⟨hc, hf, hz, hy⟩ := bcell hb; have hs := hb.size; (try simp at hs); (try have h0 : w.heap.size < w'.heap.size := by omega); (try have h1 : w.heap.size + 1 < w'.heap.size := by omega); (try have h2 : w.heap.size + 1 + 1 < w'.heap.size := by omega); clear hs) | (go_at_call 51; (with_reducible refine (i_partOf _ _ _ _ _ HA.out HB.out HC.out HD.out HI.out HJ.out).mono ?_); rintro e w' ⟨rfl, hb⟩; (try replace hb := bt3 hb (by assumption)); obtain ⟨hc, hf, hz, hy⟩ := bcell hb; have hs := hb.size; (try simp at hs); (try have h0 : w.heap.size < w'.heap.size := by omega); (try have h1 : w.heap.size + 1 < w'.heap.size := by omega); (try have h2 : w.heap.size + 1 + 1 < w'.heap.size := by omega); clear hs))
  go_ret2
  refine ⟨rfl, ?_⟩
  (repeat (first | exact Below.refl _ _ | refine Below.drew ?_ | refine below_drewN _ ?_ | refine ba _ ?_ | refine bs0 _ _ ?_ ?_ | refine bs1 _ _ _ ?_ ?_ | refine bs2 _ _ _ _ ?_ ?_ | refine bs3 _ _ _ _ _ ?_ ?_ | refine bt3 (by assumption) ?_))

set_option maxHeartbeats 1000000 in
theorem i_IsPartOfN (a b c d : Nat) (w : World) (ha : W a) (hb : W b) (hc : W c) (hd : W d) (hn : ¬ (IsIv a b ∧ IsIv c d)) :
    Calls Try.prog 23 #[.agg #[.float .f32 a, .float .f32 b], .agg #[.float .f32 c, .float .f32 d]] w fun e w' => e = .returned (.tuple #[.bool false, .int .i64 1]) ∧ Below w.heap.size w w' := by
  have HA : Hd (W a) := ⟨ha⟩
  have HB : Hd (W b) := ⟨hb⟩
  have HC : Hd (W c) := ⟨hc⟩
  have HD : Hd (W d) := ⟨hd⟩
  have pB : (decide (IsIv a b) && decide (IsIv c d)) = false := by rw [← Bool.decide_and]; exact decide_eq_false hn
  clear ha hb hc hd hn
  go_enter Try.func23, Try.ntmps23
  go_wp2_with (first | (go_at_call 50; (with_reducible refine (i_areIntervals _ _ _ _ _ _ _ HA.out HB.out HC.out HD.out (by go_simp) (by go_simp) (by go_simp) (by go_simp)).mono ?_); rintro e w' ⟨rfl, hb⟩; (try replace hb := bt3 hb (by assumption)); obtain ⟨hc, hf, hz, hy⟩ := bcell hb; have hs := hb.size; (try simp at hs); (try have h0 : w.heap.size < w'.heap.size := by omega); (try have h1 : w.heap.size + 1 < w'.heap.size := by omega); (try have h2 : w.heap.size + 1 + 1 < w'.heap.size := by omega); clear hs))
  go_ret2
  refine ⟨rfl, ?_⟩
  (repeat (first | exact Below.refl _ _ | refine Below.drew ?_ | refine below_drewN _ ?_ | refine ba _ ?_ | refine bs0 _ _ ?_ ?_ | refine bs1 _ _ _ ?_ ?_ | refine bs2 _ _ _ _ ?_ ?_ | refine bs3 _ _ _ _ _ ?_ ?_ | refine bt3 (by assumption) ?_))

set_option maxHeartbeats 1000000 in
theorem i_HullOfIntervals (a b c d : Nat) (w : World) (ha : W a) (hb : W b) (hc : W c) (hd : W d) (hi : IsIv a b) (hj : IsIv c d) :
    Calls Try.prog 32 #[.agg #[.float .f32 a, .float .f32 b], .agg #[.float .f32 c, .float .f32 d]] w fun e w' => e = .returned (.tuple #[.agg #[.float .f32 (mnW a c), .float .f32 (mxW b d)], .int .i64 0]) ∧ Below w.heap.size w w' := by
  have HA : Hd (W a) := ⟨ha⟩
  have HB : Hd (W b) := ⟨hb⟩
  have HC : Hd (W c) := ⟨hc⟩
  have HD : Hd (W d) := ⟨hd⟩
  have HI : Hd (IsIv a b) := ⟨hi⟩
  have HJ : Hd (IsIv c d) := ⟨hj⟩
  have pI : decide (IsIv a b) = true := decide_eq_true hi
  have pJ : decide (IsIv c d) = true := decide_eq_true hj
  clear ha hb hc hd hi hj
  go_enter Try.func32, Try.ntmps32
  go_wp2_with (first | (go_at_call 50; (with_reducible refine (i_areIntervals _ _ _ _ _ _ _ HA.out HB.out HC.out HD.out (by go_simp) (by go_simp) (by go_simp) (by go_simp)).mono ?_); rintro e w' ⟨rfl, hb⟩; (try replace hb := bt3 hb (by assumption)); obtain ⟨hc, hf, hz, hy⟩ := bcell hb; have hs := hb.size; (try simp at hs); (try have h0 : w.heap.size < w'.heap.size := by omega); (try have h1 : w.heap.size + 1 < w'.heap.size := by omega); (try have h2 : w.heap.size + 1 + 1 < w'.heap.size := by omega); clear hs) | (go_at_call 58; (with_reducible refine (i_hullI _ _ _ _ _ HA.out HB.out HC.out HD.out HI.out HJ.out).mono ?_); rintro e w' ⟨rfl, hb⟩; (try replace hb := bt3 hb (by assumption)); obtain ⟨hc, hf, hz, hy⟩ := bcell hb; have hs := hb.size; (try simp at hs); (try have h0 : w.heap.size < w'.heap.size := by omega); (try have h1 : w.heap.size + 1 < w'.heap.size := by omega); (try have h2 : w.heap.size + 1 + 1 < w'.heap.size := by omega); clear hs))
  refine bodyPost_ret (v := .tuple #[.agg #[.float .f32 (mnW a c), .float .f32 (mxW b d)], .int .i64 0]) (by simp (maxDischargeDepth := 7) [results, Try.results32, go_sem, *]) rfl ⟨rfl, ?_⟩
  (repeat (first | exact Below.refl _ _ | refine Below.drew ?_ | refine below_drewN _ ?_ | refine ba _ ?_ | refine bs0 _ _ ?_ ?_ | refine bs1 _ _ _ ?_ ?_ | refine bs2 _ _ _ _ ?_ ?_ | refine bs3 _ _ _ _ _ ?_ ?_ | refine bt3 (by assumption) ?_))

set_option maxHeartbeats 1000000 in
theorem i_HullOfIntervalsN (a b c d : Nat) (w : World) (ha : W a) (hb : W b) (hc : W c) (hd : W d) (hn : ¬ (IsIv a b ∧ IsIv c d)) :
    Calls Try.prog 32 #[.agg #[.float .f32 a, .float .f32 b], .agg #[.float .f32 c, .float .f32 d]] w fun e w' => e = .returned (.tuple #[.agg #[.float .f32 0, .float .f32 0], .int .i64 1]) ∧ Below w.heap.size w w' := by
  have HA : Hd (W a) := ⟨ha⟩
  have HB : Hd (W b) := ⟨hb⟩
  have HC : Hd (W c) := ⟨hc⟩
  have HD : Hd (W d) := ⟨hd⟩
  have pB : (decide (IsIv a b) && decide (IsIv c d)) = false := by rw [← Bool.decide_and]; exact decide_eq_false hn
  clear ha hb hc hd hn
  go_enter Try.func32, Try.ntmps32
  go_wp2_with (first | (go_at_call 50; (with_reducible refine (i_areIntervals _ _ _ _ _ _ _ HA.out HB.out HC.out HD.out (by go_simp) (by go_simp) (by go_simp) (by go_simp)).mono ?_); rintro e w' ⟨rfl, hb⟩; (try replace hb := bt3 hb (by assumption)); obtain ⟨hc, hf, hz, hy⟩ := bcell hb; have hs := hb.size; (try simp at hs); (try have h0 : w.heap.size < w'.heap.size := by omega); (try have h1 : w.heap.size + 1 < w'.heap.size := by omega); (try have h2 : w.heap.size + 1 + 1 < w'.heap.size := by omega); clear hs))
  refine bodyPost_ret (v := .tuple #[.agg #[.float .f32 0, .float .f32 0], .int .i64 1]) (by simp (maxDischargeDepth := 7) [results, Try.results32, go_sem, *]) rfl ⟨rfl, ?_⟩
  (repeat (first | exact Below.refl _ _ | refine Below.drew ?_ | refine below_drewN _ ?_ | refine ba _ ?_ | refine bs0 _ _ ?_ ?_ | refine bs1 _ _ _ ?_ ?_ | refine bs2 _ _ _ _ ?_ ?_ | refine bs3 _ _ _ _ _ ?_ ?_ | refine bt3 (by assumption) ?_))

set_option maxHeartbeats 1000000 in
theorem i_MeetOfIntervals (a b c d : Nat) (w : World) (ha : W a) (hb : W b) (hc : W c) (hd : W d) (hi : IsIv a b) (hj : IsIv c d) (hm : pl (mxW a c) ≤ pl (mnW b d)) :
    Calls Try.prog 34 #[.agg #[.float .f32 a, .float .f32 b], .agg #[.float .f32 c, .float .f32 d]] w fun e w' => e = .returned (.tuple #[.agg #[.float .f32 (mxW a c), .float .f32 (mnW b d)], .int .i64 0]) ∧ Below w.heap.size w w' := by
  have HA : Hd (W a) := ⟨ha⟩
  have HB : Hd (W b) := ⟨hb⟩
  have HC : Hd (W c) := ⟨hc⟩
  have HD : Hd (W d) := ⟨hd⟩
  have HI : Hd (IsIv a b) := ⟨hi⟩
  have HJ : Hd (IsIv c d) := ⟨hj⟩
  have pI : decide (IsIv a b) = true := decide_eq_true hi
  have pJ : decide (IsIv c d) = true := decide_eq_true hj
  have HM : Hd (pl (mxW a c) ≤ pl (mnW b d)) := ⟨hm⟩
  clear ha hb hc hd hi hj hm
  go_enter Try.func34, Try.ntmps34
  go_wp2_with (first | (go_at_call 50; (with_reducible refine (i_areIntervals _ _ _ _ _ _ _ HA.out HB.out HC.out HD.out (by go_simp) (by go_simp) (by go_simp) (by go_simp)).mono ?_); rintro e w' ⟨rfl, hb⟩; (try replace hb := bt3 hb (by assumption)); obtain ⟨hc, hf, hz, hy⟩ := bcell hb; have hs := hb.size; (try simp at hs); (try have h0 : w.heap.size < w'.heap.size := by omega); (try have h1 : w.heap.size + 1 < w'.heap.size := by omega); (try have h2 : w.heap.size + 1 + 1 < w'.heap.size := by omega); clear hs) | (go_at_call 60; (with_reducible refine (i_meetY _ _ _ _ _ HA.out HB.out HC.out HD.out HI.out HJ.out HM.out).mono ?_); rintro e w' ⟨rfl, hb⟩; (try replace hb := bt3 hb (by assumption)); obtain ⟨hc, hf, hz, hy⟩ := bcell hb; have hs := hb.size; (try simp at hs); (try have h0 : w.heap.size < w'.heap.size := by omega); (try have h1 : w.heap.size + 1 < w'.heap.size := by omega); (try have h2 : w.heap.size + 1 + 1 < w'.heap.size := by omega); clear hs))
  refine bodyPost_ret (v := .tuple #[.agg #[.float .f32 (mxW a c), .float .f32 (mnW b d)], .int .i64 0]) (by simp (maxDischargeDepth := 7) [results, Try.results34, go_sem, *]) rfl ⟨rfl, ?_⟩
  (repeat (first | exact Below.refl _ _ | refine Below.drew ?_ | refine below_drewN _ ?_ | refine ba _ ?_ | refine bs0 _ _ ?_ ?_ | refine bs1 _ _ _ ?_ ?_ | refine bs2 _ _ _ _ ?_ ?_ | refine bs3 _ _ _ _ _ ?_ ?_ | refine bt3 (by assumption) ?_))

set_option maxHeartbeats 1000000 in
theorem i_MeetNone (a b c d : Nat) (w : World) (ha : W a) (hb : W b) (hc : W c) (hd : W d) (hi : IsIv a b) (hj : IsIv c d) (hm : ¬ pl (mxW a c) ≤ pl (mnW b d)) :
    Calls Try.prog 34 #[.agg #[.float .f32 a, .float .f32 b], .agg #[.float .f32 c, .float .f32 d]] w fun e w' => e = .returned (.tuple #[.agg #[.float .f32 0, .float .f32 0], .int .i64 4]) ∧ Below w.heap.size w w' := by
  have HA : Hd (W a) := ⟨ha⟩
  have HB : Hd (W b) := ⟨hb⟩
  have HC : Hd (W c) := ⟨hc⟩
  have HD : Hd (W d) := ⟨hd⟩
  have HI : Hd (IsIv a b) := ⟨hi⟩
  have HJ : Hd (IsIv c d) := ⟨hj⟩
  have pI : decide (IsIv a b) = true := decide_eq_true hi
  have pJ : decide (IsIv c d) = true := decide_eq_true hj
  have HM : Hd (pl (mnW b d) < pl (mxW a c)) := ⟨by omega⟩
  clear ha hb hc hd hi hj hm
  go_enter Try.func34, Try.ntmps34
  go_wp2_with (first | (go_at_call 50; (with_reducible refine (i_areIntervals _ _ _ _ _ _ _ HA.out HB.out HC.out HD.out (by go_simp) (by go_simp) (by go_simp) (by go_simp)).mono ?_); rintro e w' ⟨rfl, hb⟩; (try replace hb := bt3 hb (by assumption)); obtain ⟨hc, hf, hz, hy⟩ := bcell hb; have hs := hb.size; (try simp at hs); (try have h0 : w.heap.size < w'.heap.size := by omega); (try have h1 : w.heap.size + 1 < w'.heap.size := by omega); (try have h2 : w.heap.size + 1 + 1 < w'.heap.size := by omega); clear hs) | (go_at_call 60; (with_reducible refine (i_meetN _ _ _ _ _ HA.out HB.out HC.out HD.out HI.out HJ.out (by have := HM.out; omega)).mono ?_); rintro e w' ⟨rfl, hb⟩; (try replace hb := bt3 hb (by assumption)); obtain ⟨hc, hf, hz, hy⟩ := bcell hb; have hs := hb.size; (try simp at hs); (try have h0 : w.heap.size < w'.heap.size := by omega); (try have h1 : w.heap.size + 1 < w'.heap.size := by omega); (try have h2 : w.heap.size + 1 + 1 < w'.heap.size := by omega); clear hs))
  refine bodyPost_ret (v := .tuple #[.agg #[.float .f32 0, .float .f32 0], .int .i64 4]) (by simp (maxDischargeDepth := 7) [results, Try.results34, go_sem, *]) rfl ⟨rfl, ?_⟩
  (repeat (first | exact Below.refl _ _ | refine Below.drew ?_ | refine below_drewN _ ?_ | refine ba _ ?_ | refine bs0 _ _ ?_ ?_ | refine bs1 _ _ _ ?_ ?_ | refine bs2 _ _ _ _ ?_ ?_ | refine bs3 _ _ _ _ _ ?_ ?_ | refine bt3 (by assumption) ?_))

set_option maxHeartbeats 1000000 in
theorem i_MeetOfIntervalsN (a b c d : Nat) (w : World) (ha : W a) (hb : W b) (hc : W c) (hd : W d) (hn : ¬ (IsIv a b ∧ IsIv c d)) :
    Calls Try.prog 34 #[.agg #[.float .f32 a, .float .f32 b], .agg #[.float .f32 c, .float .f32 d]] w fun e w' => e = .returned (.tuple #[.agg #[.float .f32 0, .float .f32 0], .int .i64 1]) ∧ Below w.heap.size w w' := by
  have HA : Hd (W a) := ⟨ha⟩
  have HB : Hd (W b) := ⟨hb⟩
  have HC : Hd (W c) := ⟨hc⟩
  have HD : Hd (W d) := ⟨hd⟩
  have pB : (decide (IsIv a b) && decide (IsIv c d)) = false := by rw [← Bool.decide_and]; exact decide_eq_false hn
  clear ha hb hc hd hn
  go_enter Try.func34, Try.ntmps34
  go_wp2_with (first | (go_at_call 50; (with_reducible refine (i_areIntervals _ _ _ _ _ _ _ HA.out HB.out HC.out HD.out (by go_simp) (by go_simp) (by go_simp) (by go_simp)).mono ?_); rintro e w' ⟨rfl, hb⟩; (try replace hb := bt3 hb (by assumption)); obtain ⟨hc, hf, hz, hy⟩ := bcell hb; have hs := hb.size; (try simp at hs); (try have h0 : w.heap.size < w'.heap.size := by omega); (try have h1 : w.heap.size + 1 < w'.heap.size := by omega); (try have h2 : w.heap.size + 1 + 1 < w'.heap.size := by omega); clear hs))
  refine bodyPost_ret (v := .tuple #[.agg #[.float .f32 0, .float .f32 0], .int .i64 1]) (by simp (maxDischargeDepth := 7) [results, Try.results34, go_sem, *]) rfl ⟨rfl, ?_⟩
  (repeat (first | exact Below.refl _ _ | refine Below.drew ?_ | refine below_drewN _ ?_ | refine ba _ ?_ | refine bs0 _ _ ?_ ?_ | refine bs1 _ _ _ ?_ ?_ | refine bs2 _ _ _ _ ?_ ?_ | refine bs3 _ _ _ _ _ ?_ ?_ | refine bt3 (by assumption) ?_))

set_option maxHeartbeats 1000000 in
theorem i_OrderL (a b c d : Nat) (w : World) (ha : W a) (hb : W b) (hc : W c) (hd : W d) (hi : IsIv a b) (hj : IsIv c d) (hm : pl b < pl c) :
    Calls Try.prog 25 #[.agg #[.float .f32 a, .float .f32 b], .agg #[.float .f32 c, .float .f32 d]] w fun e w' => e = .returned (.tuple #[.int .i64 (-1), .int .i64 0]) ∧ Below w.heap.size w w' := by
  have HA : Hd (W a) := ⟨ha⟩
  have HB : Hd (W b) := ⟨hb⟩
  have HC : Hd (W c) := ⟨hc⟩
  have HD : Hd (W d) := ⟨hd⟩
  have HI : Hd (IsIv a b) := ⟨hi⟩
  have HJ : Hd (IsIv c d) := ⟨hj⟩
  have pI : decide (IsIv a b) = true := decide_eq_true hi
  have pJ : decide (IsIv c d) = true := decide_eq_true hj
  have q1 : (FloatKind.f32.format.order b c == some .lt) = true := by rw [o_lt]; exact decide_eq_true ⟨hi.2.1, hj.1, hm⟩
  clear ha hb hc hd hi hj hm
  go_enter Try.func25, Try.ntmps25
  go_wp2_with (first | (go_at_call 50; (with_reducible refine (i_areIntervals _ _ _ _ _ _ _ HA.out HB.out HC.out HD.out (by go_simp) (by go_simp) (by go_simp) (by go_simp)).mono ?_); rintro e w' ⟨rfl, hb⟩; (try replace hb := bt3 hb (by assumption)); obtain ⟨hc, hf, hz, hy⟩ := bcell hb; have hs := hb.size; (try simp at hs); (try have h0 : w.heap.size < w'.heap.size := by omega); (try have h1 : w.heap.size + 1 < w'.heap.size := by omega); (try have h2 : w.heap.size + 1 + 1 < w'.heap.size := by omega); clear hs))
  go_ret2
  refine ⟨rfl, ?_⟩
  (repeat (first | exact Below.refl _ _ | refine Below.drew ?_ | refine below_drewN _ ?_ | refine ba _ ?_ | refine bs0 _ _ ?_ ?_ | refine bs1 _ _ _ ?_ ?_ | refine bs2 _ _ _ _ ?_ ?_ | refine bs3 _ _ _ _ _ ?_ ?_ | refine bt3 (by assumption) ?_))

set_option maxHeartbeats 1000000 in
theorem i_OrderG (a b c d : Nat) (w : World) (ha : W a) (hb : W b) (hc : W c) (hd : W d) (hi : IsIv a b) (hj : IsIv c d) (hm : ¬ pl b < pl c) (hk : pl d < pl a) :
    Calls Try.prog 25 #[.agg #[.float .f32 a, .float .f32 b], .agg #[.float .f32 c, .float .f32 d]] w fun e w' => e = .returned (.tuple #[.int .i64 1, .int .i64 0]) ∧ Below w.heap.size w w' := by
  have HA : Hd (W a) := ⟨ha⟩
  have HB : Hd (W b) := ⟨hb⟩
  have HC : Hd (W c) := ⟨hc⟩
  have HD : Hd (W d) := ⟨hd⟩
  have HI : Hd (IsIv a b) := ⟨hi⟩
  have HJ : Hd (IsIv c d) := ⟨hj⟩
  have pI : decide (IsIv a b) = true := decide_eq_true hi
  have pJ : decide (IsIv c d) = true := decide_eq_true hj
  have q1 : (FloatKind.f32.format.order b c == some .lt) = false := by rw [o_lt]; exact decide_eq_false (fun k => hm k.2.2)
  have q2 : (FloatKind.f32.format.order a d == some .gt) = true := by rw [o_gt]; exact decide_eq_true ⟨hi.1, hj.2.1, hk⟩
  clear ha hb hc hd hi hj hm hk
  go_enter Try.func25, Try.ntmps25
  go_wp2_with (first | (go_at_call 50; (with_reducible refine (i_areIntervals _ _ _ _ _ _ _ HA.out HB.out HC.out HD.out (by go_simp) (by go_simp) (by go_simp) (by go_simp)).mono ?_); rintro e w' ⟨rfl, hb⟩; (try replace hb := bt3 hb (by assumption)); obtain ⟨hc, hf, hz, hy⟩ := bcell hb; have hs := hb.size; (try simp at hs); (try have h0 : w.heap.size < w'.heap.size := by omega); (try have h1 : w.heap.size + 1 < w'.heap.size := by omega); (try have h2 : w.heap.size + 1 + 1 < w'.heap.size := by omega); clear hs))
  go_ret2
  refine ⟨rfl, ?_⟩
  (repeat (first | exact Below.refl _ _ | refine Below.drew ?_ | refine below_drewN _ ?_ | refine ba _ ?_ | refine bs0 _ _ ?_ ?_ | refine bs1 _ _ _ ?_ ?_ | refine bs2 _ _ _ _ ?_ ?_ | refine bs3 _ _ _ _ _ ?_ ?_ | refine bt3 (by assumption) ?_))

set_option maxHeartbeats 1000000 in
theorem i_OrderE (a b c d : Nat) (w : World) (ha : W a) (hb : W b) (hc : W c) (hd : W d) (hi : IsIv a b) (hj : IsIv c d) (hm : ¬ pl b < pl c) (hk : ¬ pl d < pl a) :
    Calls Try.prog 25 #[.agg #[.float .f32 a, .float .f32 b], .agg #[.float .f32 c, .float .f32 d]] w fun e w' => e = .returned (.tuple #[.int .i64 0, .int .i64 0]) ∧ Below w.heap.size w w' := by
  have HA : Hd (W a) := ⟨ha⟩
  have HB : Hd (W b) := ⟨hb⟩
  have HC : Hd (W c) := ⟨hc⟩
  have HD : Hd (W d) := ⟨hd⟩
  have HI : Hd (IsIv a b) := ⟨hi⟩
  have HJ : Hd (IsIv c d) := ⟨hj⟩
  have pI : decide (IsIv a b) = true := decide_eq_true hi
  have pJ : decide (IsIv c d) = true := decide_eq_true hj
  have q1 : (FloatKind.f32.format.order b c == some .lt) = false := by rw [o_lt]; exact decide_eq_false (fun k => hm k.2.2)
  have q2 : (FloatKind.f32.format.order a d == some .gt) = false := by rw [o_gt]; exact decide_eq_false (fun k => hk k.2.2)
  clear ha hb hc hd hi hj hm hk
  go_enter Try.func25, Try.ntmps25
  go_wp2_with (first | (go_at_call 50; (with_reducible refine (i_areIntervals _ _ _ _ _ _ _ HA.out HB.out HC.out HD.out (by go_simp) (by go_simp) (by go_simp) (by go_simp)).mono ?_); rintro e w' ⟨rfl, hb⟩; (try replace hb := bt3 hb (by assumption)); obtain ⟨hc, hf, hz, hy⟩ := bcell hb; have hs := hb.size; (try simp at hs); (try have h0 : w.heap.size < w'.heap.size := by omega); (try have h1 : w.heap.size + 1 < w'.heap.size := by omega); (try have h2 : w.heap.size + 1 + 1 < w'.heap.size := by omega); clear hs))
  go_ret2
  refine ⟨rfl, ?_⟩
  (repeat (first | exact Below.refl _ _ | refine Below.drew ?_ | refine below_drewN _ ?_ | refine ba _ ?_ | refine bs0 _ _ ?_ ?_ | refine bs1 _ _ _ ?_ ?_ | refine bs2 _ _ _ _ ?_ ?_ | refine bs3 _ _ _ _ _ ?_ ?_ | refine bt3 (by assumption) ?_))

set_option maxHeartbeats 1000000 in
theorem i_OrderOfIntervalsN (a b c d : Nat) (w : World) (ha : W a) (hb : W b) (hc : W c) (hd : W d) (hn : ¬ (IsIv a b ∧ IsIv c d)) :
    Calls Try.prog 25 #[.agg #[.float .f32 a, .float .f32 b], .agg #[.float .f32 c, .float .f32 d]] w fun e w' => e = .returned (.tuple #[.int .i64 0, .int .i64 1]) ∧ Below w.heap.size w w' := by
  have HA : Hd (W a) := ⟨ha⟩
  have HB : Hd (W b) := ⟨hb⟩
  have HC : Hd (W c) := ⟨hc⟩
  have HD : Hd (W d) := ⟨hd⟩
  have pB : (decide (IsIv a b) && decide (IsIv c d)) = false := by rw [← Bool.decide_and]; exact decide_eq_false hn
  clear ha hb hc hd hn
  go_enter Try.func25, Try.ntmps25
  go_wp2_with (first | (go_at_call 50; (with_reducible refine (i_areIntervals _ _ _ _ _ _ _ HA.out HB.out HC.out HD.out (by go_simp) (by go_simp) (by go_simp) (by go_simp)).mono ?_); rintro e w' ⟨rfl, hb⟩; (try replace hb := bt3 hb (by assumption)); obtain ⟨hc, hf, hz, hy⟩ := bcell hb; have hs := hb.size; (try simp at hs); (try have h0 : w.heap.size < w'.heap.size := by omega); (try have h1 : w.heap.size + 1 < w'.heap.size := by omega); (try have h2 : w.heap.size + 1 + 1 < w'.heap.size := by omega); clear hs))
  go_ret2
  refine ⟨rfl, ?_⟩
  (repeat (first | exact Below.refl _ _ | refine Below.drew ?_ | refine below_drewN _ ?_ | refine ba _ ?_ | refine bs0 _ _ ?_ ?_ | refine bs1 _ _ _ ?_ ?_ | refine bs2 _ _ _ _ ?_ ?_ | refine bs3 _ _ _ _ _ ?_ ?_ | refine bt3 (by assumption) ?_))

set_option maxHeartbeats 1000000 in
theorem s_NegateInterval (a b : Nat) (w : World) (ha : W a) (hb : W b) (hi : IsIv a b) :
    Calls Try.prog 29 #[.agg #[.float .f32 a, .float .f32 b]] w fun e w' => e = .returned (.tuple #[.agg #[.float .f32 (zp (ng b)), .float .f32 (zp (ng a))], .int .i64 0]) ∧ Below w.heap.size w w' := by
  have HA : Hd (W a) := ⟨ha⟩
  have HB : Hd (W b) := ⟨hb⟩
  have HI : Hd (IsIv a b) := ⟨hi⟩
  have pI : decide (IsIv a b) = true := decide_eq_true hi
  clear ha hb hi
  go_enter Try.func29, Try.ntmps29
  go_wp2_with (first | (go_at_call 41; (with_reducible refine (s_Is a b _ HA.out HB.out).mono ?_); rintro e w' ⟨rfl, hb⟩; (try replace hb := bt3 hb (by assumption)); obtain ⟨hc, hf, hz, hy⟩ := bcell hb; have hs := hb.size; (try simp at hs); (try have h0 : w.heap.size < w'.heap.size := by omega); (try have h1 : w.heap.size + 1 < w'.heap.size := by omega); (try have h2 : w.heap.size + 1 + 1 < w'.heap.size := by omega); clear hs) | (go_at_call 55; (with_reducible refine (s_Neg _ _ _ HA.out HB.out).mono ?_); rintro e w' ⟨rfl, hb⟩; (try replace hb := bt3 hb (by assumption)); obtain ⟨hc, hf, hz, hy⟩ := bcell hb; have hs := hb.size; (try simp at hs); (try have h0 : w.heap.size < w'.heap.size := by omega); (try have h1 : w.heap.size + 1 < w'.heap.size := by omega); (try have h2 : w.heap.size + 1 + 1 < w'.heap.size := by omega); clear hs))
  refine bodyPost_ret (v := .tuple #[.agg #[.float .f32 (zp (ng b)), .float .f32 (zp (ng a))], .int .i64 0]) (by simp (maxDischargeDepth := 7) [results, Try.results29, go_sem, *]) rfl ⟨rfl, ?_⟩
  (repeat (first | exact Below.refl _ _ | refine Below.drew ?_ | refine below_drewN _ ?_ | refine ba _ ?_ | refine bs0 _ _ ?_ ?_ | refine bs1 _ _ _ ?_ ?_ | refine bs2 _ _ _ _ ?_ ?_ | refine bs3 _ _ _ _ _ ?_ ?_ | refine bt3 (by assumption) ?_))

set_option maxHeartbeats 1000000 in
theorem s_NegateIntervalN (a b : Nat) (w : World) (ha : W a) (hb : W b) (hi : ¬ IsIv a b) :
    Calls Try.prog 29 #[.agg #[.float .f32 a, .float .f32 b]] w fun e w' => e = .returned (.tuple #[.agg #[.float .f32 0, .float .f32 0], .int .i64 1]) ∧ Below w.heap.size w w' := by
  have HA : Hd (W a) := ⟨ha⟩
  have HB : Hd (W b) := ⟨hb⟩
  have pI : decide (IsIv a b) = false := decide_eq_false hi
  clear ha hb hi
  go_enter Try.func29, Try.ntmps29
  go_wp2_with (first | (go_at_call 41; (with_reducible refine (s_Is a b _ HA.out HB.out).mono ?_); rintro e w' ⟨rfl, hb⟩; (try replace hb := bt3 hb (by assumption)); obtain ⟨hc, hf, hz, hy⟩ := bcell hb; have hs := hb.size; (try simp at hs); (try have h0 : w.heap.size < w'.heap.size := by omega); (try have h1 : w.heap.size + 1 < w'.heap.size := by omega); (try have h2 : w.heap.size + 1 + 1 < w'.heap.size := by omega); clear hs))
  refine bodyPost_ret (v := .tuple #[.agg #[.float .f32 0, .float .f32 0], .int .i64 1]) (by simp (maxDischargeDepth := 7) [results, Try.results29, go_sem, *]) rfl ⟨rfl, ?_⟩
  (repeat (first | exact Below.refl _ _ | refine Below.drew ?_ | refine below_drewN _ ?_ | refine ba _ ?_ | refine bs0 _ _ ?_ ?_ | refine bs1 _ _ _ ?_ ?_ | refine bs2 _ _ _ _ ?_ ?_ | refine bs3 _ _ _ _ _ ?_ ?_ | refine bt3 (by assumption) ?_))

set_option maxHeartbeats 1000000 in
theorem s_AbsoluteInterval (a b : Nat) (w : World) (ha : W a) (hb : W b) (hi : IsIv a b) :
    Calls Try.prog 35 #[.agg #[.float .f32 a, .float .f32 b]] w fun e w' => e = .returned (.tuple #[.agg #[.float .f32 (abLo a b), .float .f32 (abHi a b)], .int .i64 0]) ∧ Below w.heap.size w w' := by
  have HA : Hd (W a) := ⟨ha⟩
  have HB : Hd (W b) := ⟨hb⟩
  have HI : Hd (IsIv a b) := ⟨hi⟩
  have pI : decide (IsIv a b) = true := decide_eq_true hi
  clear ha hb hi
  go_enter Try.func35, Try.ntmps35
  go_wp2_with (first | (go_at_call 41; (with_reducible refine (s_Is a b _ HA.out HB.out).mono ?_); rintro e w' ⟨rfl, hb⟩; (try replace hb := bt3 hb (by assumption)); obtain ⟨hc, hf, hz, hy⟩ := bcell hb; have hs := hb.size; (try simp at hs); (try have h0 : w.heap.size < w'.heap.size := by omega); (try have h1 : w.heap.size + 1 < w'.heap.size := by omega); (try have h2 : w.heap.size + 1 + 1 < w'.heap.size := by omega); clear hs) | (go_at_call 61; (with_reducible refine (s_Abs _ _ _ HA.out HB.out HI.out).mono ?_); rintro e w' ⟨rfl, hb⟩; (try replace hb := bt3 hb (by assumption)); obtain ⟨hc, hf, hz, hy⟩ := bcell hb; have hs := hb.size; (try simp at hs); (try have h0 : w.heap.size < w'.heap.size := by omega); (try have h1 : w.heap.size + 1 < w'.heap.size := by omega); (try have h2 : w.heap.size + 1 + 1 < w'.heap.size := by omega); clear hs))
  refine bodyPost_ret (v := .tuple #[.agg #[.float .f32 (abLo a b), .float .f32 (abHi a b)], .int .i64 0]) (by simp (maxDischargeDepth := 7) [results, Try.results35, go_sem, *]) rfl ⟨rfl, ?_⟩
  (repeat (first | exact Below.refl _ _ | refine Below.drew ?_ | refine below_drewN _ ?_ | refine ba _ ?_ | refine bs0 _ _ ?_ ?_ | refine bs1 _ _ _ ?_ ?_ | refine bs2 _ _ _ _ ?_ ?_ | refine bs3 _ _ _ _ _ ?_ ?_ | refine bt3 (by assumption) ?_))

set_option maxHeartbeats 1000000 in
theorem s_AbsoluteIntervalN (a b : Nat) (w : World) (ha : W a) (hb : W b) (hi : ¬ IsIv a b) :
    Calls Try.prog 35 #[.agg #[.float .f32 a, .float .f32 b]] w fun e w' => e = .returned (.tuple #[.agg #[.float .f32 0, .float .f32 0], .int .i64 1]) ∧ Below w.heap.size w w' := by
  have HA : Hd (W a) := ⟨ha⟩
  have HB : Hd (W b) := ⟨hb⟩
  have pI : decide (IsIv a b) = false := decide_eq_false hi
  clear ha hb hi
  go_enter Try.func35, Try.ntmps35
  go_wp2_with (first | (go_at_call 41; (with_reducible refine (s_Is a b _ HA.out HB.out).mono ?_); rintro e w' ⟨rfl, hb⟩; (try replace hb := bt3 hb (by assumption)); obtain ⟨hc, hf, hz, hy⟩ := bcell hb; have hs := hb.size; (try simp at hs); (try have h0 : w.heap.size < w'.heap.size := by omega); (try have h1 : w.heap.size + 1 < w'.heap.size := by omega); (try have h2 : w.heap.size + 1 + 1 < w'.heap.size := by omega); clear hs))
  refine bodyPost_ret (v := .tuple #[.agg #[.float .f32 0, .float .f32 0], .int .i64 1]) (by simp (maxDischargeDepth := 7) [results, Try.results35, go_sem, *]) rfl ⟨rfl, ?_⟩
  (repeat (first | exact Below.refl _ _ | refine Below.drew ?_ | refine below_drewN _ ?_ | refine ba _ ?_ | refine bs0 _ _ ?_ ?_ | refine bs1 _ _ _ ?_ ?_ | refine bs2 _ _ _ _ ?_ ?_ | refine bs3 _ _ _ _ _ ?_ ?_ | refine bt3 (by assumption) ?_))

set_option maxHeartbeats 1000000 in
theorem i_NegateInterval (a b : Nat) (w : World) (ha : W a) (hb : W b) (hi : IsIv a b) :
    Calls Try.prog 30 #[.agg #[.float .f32 a, .float .f32 b]] w fun e w' => e = .returned (.tuple #[.agg #[.float .f32 (zp (ng b)), .float .f32 (zp (ng a))], .int .i64 0]) ∧ Below w.heap.size w w' := by
  have HA : Hd (W a) := ⟨ha⟩
  have HB : Hd (W b) := ⟨hb⟩
  have HI : Hd (IsIv a b) := ⟨hi⟩
  have pI : decide (IsIv a b) = true := decide_eq_true hi
  clear ha hb hi
  go_enter Try.func30, Try.ntmps30
  go_wp2_with (first | (go_at_call 19; (with_reducible refine (i_IsInterval a b _ HA.out HB.out).mono ?_); rintro e w' ⟨rfl, hb⟩; (try replace hb := bt3 hb (by assumption)); obtain ⟨hc, hf, hz, hy⟩ := bcell hb; have hs := hb.size; (try simp at hs); (try have h0 : w.heap.size < w'.heap.size := by omega); (try have h1 : w.heap.size + 1 < w'.heap.size := by omega); (try have h2 : w.heap.size + 1 + 1 < w'.heap.size := by omega); clear hs) | (go_at_call 56; (with_reducible refine (i_negI _ _ _ HA.out HB.out).mono ?_); rintro e w' ⟨rfl, hb⟩; (try replace hb := bt3 hb (by assumption)); obtain ⟨hc, hf, hz, hy⟩ := bcell hb; have hs := hb.size; (try simp at hs); (try have h0 : w.heap.size < w'.heap.size := by omega); (try have h1 : w.heap.size + 1 < w'.heap.size := by omega); (try have h2 : w.heap.size + 1 + 1 < w'.heap.size := by omega); clear hs))
  refine bodyPost_ret (v := .tuple #[.agg #[.float .f32 (zp (ng b)), .float .f32 (zp (ng a))], .int .i64 0]) (by simp (maxDischargeDepth := 7) [results, Try.results30, go_sem, *]) rfl ⟨rfl, ?_⟩
  (repeat (first | exact Below.refl _ _ | refine Below.drew ?_ | refine below_drewN _ ?_ | refine ba _ ?_ | refine bs0 _ _ ?_ ?_ | refine bs1 _ _ _ ?_ ?_ | refine bs2 _ _ _ _ ?_ ?_ | refine bs3 _ _ _ _ _ ?_ ?_ | refine bt3 (by assumption) ?_))

set_option maxHeartbeats 1000000 in
theorem i_NegateIntervalN (a b : Nat) (w : World) (ha : W a) (hb : W b) (hi : ¬ IsIv a b) :
    Calls Try.prog 30 #[.agg #[.float .f32 a, .float .f32 b]] w fun e w' => e = .returned (.tuple #[.agg #[.float .f32 0, .float .f32 0], .int .i64 1]) ∧ Below w.heap.size w w' := by
  have HA : Hd (W a) := ⟨ha⟩
  have HB : Hd (W b) := ⟨hb⟩
  have pI : decide (IsIv a b) = false := decide_eq_false hi
  clear ha hb hi
  go_enter Try.func30, Try.ntmps30
  go_wp2_with (first | (go_at_call 19; (with_reducible refine (i_IsInterval a b _ HA.out HB.out).mono ?_); rintro e w' ⟨rfl, hb⟩; (try replace hb := bt3 hb (by assumption)); obtain ⟨hc, hf, hz, hy⟩ := bcell hb; have hs := hb.size; (try simp at hs); (try have h0 : w.heap.size < w'.heap.size := by omega); (try have h1 : w.heap.size + 1 < w'.heap.size := by omega); (try have h2 : w.heap.size + 1 + 1 < w'.heap.size := by omega); clear hs))
  refine bodyPost_ret (v := .tuple #[.agg #[.float .f32 0, .float .f32 0], .int .i64 1]) (by simp (maxDischargeDepth := 7) [results, Try.results30, go_sem, *]) rfl ⟨rfl, ?_⟩
  (repeat (first | exact Below.refl _ _ | refine Below.drew ?_ | refine below_drewN _ ?_ | refine ba _ ?_ | refine bs0 _ _ ?_ ?_ | refine bs1 _ _ _ ?_ ?_ | refine bs2 _ _ _ _ ?_ ?_ | refine bs3 _ _ _ _ _ ?_ ?_ | refine bt3 (by assumption) ?_))

set_option maxHeartbeats 1000000 in
theorem i_AbsoluteInterval (a b : Nat) (w : World) (ha : W a) (hb : W b) (hi : IsIv a b) :
    Calls Try.prog 36 #[.agg #[.float .f32 a, .float .f32 b]] w fun e w' => e = .returned (.tuple #[.agg #[.float .f32 (abLo a b), .float .f32 (abHi a b)], .int .i64 0]) ∧ Below w.heap.size w w' := by
  have HA : Hd (W a) := ⟨ha⟩
  have HB : Hd (W b) := ⟨hb⟩
  have HI : Hd (IsIv a b) := ⟨hi⟩
  have pI : decide (IsIv a b) = true := decide_eq_true hi
  clear ha hb hi
  go_enter Try.func36, Try.ntmps36
  go_wp2_with (first | (go_at_call 19; (with_reducible refine (i_IsInterval a b _ HA.out HB.out).mono ?_); rintro e w' ⟨rfl, hb⟩; (try replace hb := bt3 hb (by assumption)); obtain ⟨hc, hf, hz, hy⟩ := bcell hb; have hs := hb.size; (try simp at hs); (try have h0 : w.heap.size < w'.heap.size := by omega); (try have h1 : w.heap.size + 1 < w'.heap.size := by omega); (try have h2 : w.heap.size + 1 + 1 < w'.heap.size := by omega); clear hs) | (go_at_call 62; (with_reducible refine (i_absI _ _ _ HA.out HB.out HI.out).mono ?_); rintro e w' ⟨rfl, hb⟩; (try replace hb := bt3 hb (by assumption)); obtain ⟨hc, hf, hz, hy⟩ := bcell hb; have hs := hb.size; (try simp at hs); (try have h0 : w.heap.size < w'.heap.size := by omega); (try have h1 : w.heap.size + 1 < w'.heap.size := by omega); (try have h2 : w.heap.size + 1 + 1 < w'.heap.size := by omega); clear hs))
  refine bodyPost_ret (v := .tuple #[.agg #[.float .f32 (abLo a b), .float .f32 (abHi a b)], .int .i64 0]) (by simp (maxDischargeDepth := 7) [results, Try.results36, go_sem, *]) rfl ⟨rfl, ?_⟩
  (repeat (first | exact Below.refl _ _ | refine Below.drew ?_ | refine below_drewN _ ?_ | refine ba _ ?_ | refine bs0 _ _ ?_ ?_ | refine bs1 _ _ _ ?_ ?_ | refine bs2 _ _ _ _ ?_ ?_ | refine bs3 _ _ _ _ _ ?_ ?_ | refine bt3 (by assumption) ?_))

set_option maxHeartbeats 1000000 in
theorem i_AbsoluteIntervalN (a b : Nat) (w : World) (ha : W a) (hb : W b) (hi : ¬ IsIv a b) :
    Calls Try.prog 36 #[.agg #[.float .f32 a, .float .f32 b]] w fun e w' => e = .returned (.tuple #[.agg #[.float .f32 0, .float .f32 0], .int .i64 1]) ∧ Below w.heap.size w w' := by
  have HA : Hd (W a) := ⟨ha⟩
  have HB : Hd (W b) := ⟨hb⟩
  have pI : decide (IsIv a b) = false := decide_eq_false hi
  clear ha hb hi
  go_enter Try.func36, Try.ntmps36
  go_wp2_with (first | (go_at_call 19; (with_reducible refine (i_IsInterval a b _ HA.out HB.out).mono ?_); rintro e w' ⟨rfl, hb⟩; (try replace hb := bt3 hb (by assumption)); obtain ⟨hc, hf, hz, hy⟩ := bcell hb; have hs := hb.size; (try simp at hs); (try have h0 : w.heap.size < w'.heap.size := by omega); (try have h1 : w.heap.size + 1 < w'.heap.size := by omega); (try have h2 : w.heap.size + 1 + 1 < w'.heap.size := by omega); clear hs))
  refine bodyPost_ret (v := .tuple #[.agg #[.float .f32 0, .float .f32 0], .int .i64 1]) (by simp (maxDischargeDepth := 7) [results, Try.results36, go_sem, *]) rfl ⟨rfl, ?_⟩
  (repeat (first | exact Below.refl _ _ | refine Below.drew ?_ | refine below_drewN _ ?_ | refine ba _ ?_ | refine bs0 _ _ ?_ ?_ | refine bs1 _ _ _ ?_ ?_ | refine bs2 _ _ _ _ ?_ ?_ | refine bs3 _ _ _ _ _ ?_ ?_ | refine bt3 (by assumption) ?_))

set_option maxHeartbeats 1000000 in
theorem s_IsInterval (a b : Nat) (w : World) (ha : W a) (hb : W b) :
    Calls Try.prog 17 #[.agg #[.float .f32 a, .float .f32 b]] w fun e w' => e = .returned (.bool (decide (IsIv a b))) ∧ Below w.heap.size w w' := by
  have HA : Hd (W a) := ⟨ha⟩
  have HB : Hd (W b) := ⟨hb⟩
  clear ha hb
  go_enter Try.func17, Try.ntmps17
  go_wp2_with (first | (go_at_call 41; (with_reducible refine (s_Is a b _ HA.out HB.out).mono ?_); rintro e w' ⟨rfl, hb⟩; (try replace hb := bt3 hb (by assumption)); obtain ⟨hc, hf, hz, hy⟩ := bcell hb; have hs := hb.size; (try simp at hs); (try have h0 : w.heap.size < w'.heap.size := by omega); (try have h1 : w.heap.size + 1 < w'.heap.size := by omega); (try have h2 : w.heap.size + 1 + 1 < w'.heap.size := by omega); clear hs))
  go_ret
  refine ⟨rfl, ?_⟩
  (repeat (first | exact Below.refl _ _ | refine Below.drew ?_ | refine below_drewN _ ?_ | refine ba _ ?_ | refine bs0 _ _ ?_ ?_ | refine bs1 _ _ _ ?_ ?_ | refine bs2 _ _ _ _ ?_ ?_ | refine bs3 _ _ _ _ _ ?_ ?_ | refine bt3 (by assumption) ?_))

set_option maxHeartbeats 1000000 in
theorem s_IntervalOf (x y : Nat) (w : World) (hx : W x) (hy : W y) (hi : IsIv (zp x) (zp y)) :
    Calls Try.prog 26 #[.float .f32 x, .float .f32 y] w fun e w' => e = .returned (.tuple #[.agg #[.float .f32 (zp x), .float .f32 (zp y)], .int .i64 0]) ∧ Below w.heap.size w w' := by
  have HX : Hd (W x) := ⟨hx⟩
  have HY : Hd (W y) := ⟨hy⟩
  have HA : Hd (W (zp x)) := ⟨W_zp hx⟩
  have HB : Hd (W (zp y)) := ⟨W_zp hy⟩
  have pI : decide (IsIv (zp x) (zp y)) = true := decide_eq_true hi
  clear hx hy hi
  go_enter Try.func26, Try.ntmps26
  go_wp2_with (first | (go_at_call 52; (with_reducible refine (s_Make _ _ _ HX.out HY.out).mono ?_); rintro e w' ⟨rfl, hb⟩; (try replace hb := bt3 hb (by assumption)); obtain ⟨hc, hf, hz, hy⟩ := bcell hb; have hs := hb.size; (try simp at hs); (try have h0 : w.heap.size < w'.heap.size := by omega); (try have h1 : w.heap.size + 1 < w'.heap.size := by omega); (try have h2 : w.heap.size + 1 + 1 < w'.heap.size := by omega); clear hs) | (go_at_call 41; (with_reducible refine (s_Is (zp x) (zp y) _ HA.out HB.out).mono ?_); rintro e w' ⟨rfl, hb⟩; (try replace hb := bt3 hb (by assumption)); obtain ⟨hc, hf, hz, hy⟩ := bcell hb; have hs := hb.size; (try simp at hs); (try have h0 : w.heap.size < w'.heap.size := by omega); (try have h1 : w.heap.size + 1 < w'.heap.size := by omega); (try have h2 : w.heap.size + 1 + 1 < w'.heap.size := by omega); clear hs))
  refine bodyPost_ret (v := .tuple #[.agg #[.float .f32 (zp x), .float .f32 (zp y)], .int .i64 0]) (by simp (maxDischargeDepth := 7) [results, Try.results26, go_sem, *]) rfl ⟨rfl, ?_⟩
  (repeat (first | exact Below.refl _ _ | refine Below.drew ?_ | refine below_drewN _ ?_ | refine ba _ ?_ | refine bs0 _ _ ?_ ?_ | refine bs1 _ _ _ ?_ ?_ | refine bs2 _ _ _ _ ?_ ?_ | refine bs3 _ _ _ _ _ ?_ ?_ | refine bt3 (by assumption) ?_))

set_option maxHeartbeats 1000000 in
theorem s_IntervalOfN (x y : Nat) (w : World) (hx : W x) (hy : W y) (hi : ¬ IsIv (zp x) (zp y)) :
    Calls Try.prog 26 #[.float .f32 x, .float .f32 y] w fun e w' => e = .returned (.tuple #[.agg #[.float .f32 0, .float .f32 0], .int .i64 2]) ∧ Below w.heap.size w w' := by
  have HX : Hd (W x) := ⟨hx⟩
  have HY : Hd (W y) := ⟨hy⟩
  have HA : Hd (W (zp x)) := ⟨W_zp hx⟩
  have HB : Hd (W (zp y)) := ⟨W_zp hy⟩
  have pI : decide (IsIv (zp x) (zp y)) = false := decide_eq_false hi
  clear hx hy hi
  go_enter Try.func26, Try.ntmps26
  go_wp2_with (first | (go_at_call 52; (with_reducible refine (s_Make _ _ _ HX.out HY.out).mono ?_); rintro e w' ⟨rfl, hb⟩; (try replace hb := bt3 hb (by assumption)); obtain ⟨hc, hf, hz, hy⟩ := bcell hb; have hs := hb.size; (try simp at hs); (try have h0 : w.heap.size < w'.heap.size := by omega); (try have h1 : w.heap.size + 1 < w'.heap.size := by omega); (try have h2 : w.heap.size + 1 + 1 < w'.heap.size := by omega); clear hs) | (go_at_call 41; (with_reducible refine (s_Is (zp x) (zp y) _ HA.out HB.out).mono ?_); rintro e w' ⟨rfl, hb⟩; (try replace hb := bt3 hb (by assumption)); obtain ⟨hc, hf, hz, hy⟩ := bcell hb; have hs := hb.size; (try simp at hs); (try have h0 : w.heap.size < w'.heap.size := by omega); (try have h1 : w.heap.size + 1 < w'.heap.size := by omega); (try have h2 : w.heap.size + 1 + 1 < w'.heap.size := by omega); clear hs))
  refine bodyPost_ret (v := .tuple #[.agg #[.float .f32 0, .float .f32 0], .int .i64 2]) (by simp (maxDischargeDepth := 7) [results, Try.results26, go_sem, *]) rfl ⟨rfl, ?_⟩
  (repeat (first | exact Below.refl _ _ | refine Below.drew ?_ | refine below_drewN _ ?_ | refine ba _ ?_ | refine bs0 _ _ ?_ ?_ | refine bs1 _ _ _ ?_ ?_ | refine bs2 _ _ _ _ ?_ ?_ | refine bs3 _ _ _ _ _ ?_ ?_ | refine bt3 (by assumption) ?_))

set_option maxHeartbeats 1000000 in
theorem i_IntervalOf (x y : Nat) (w : World) (hx : W x) (hy : W y) (hi : IsIv (zp x) (zp y)) :
    Calls Try.prog 27 #[.float .f32 x, .float .f32 y] w fun e w' => e = .returned (.tuple #[.agg #[.float .f32 (zp x), .float .f32 (zp y)], .int .i64 0]) ∧ Below w.heap.size w w' := by
  have HX : Hd (W x) := ⟨hx⟩
  have HY : Hd (W y) := ⟨hy⟩
  have HA : Hd (W (zp x)) := ⟨W_zp hx⟩
  have HB : Hd (W (zp y)) := ⟨W_zp hy⟩
  have pI : decide (IsIv (zp x) (zp y)) = true := decide_eq_true hi
  clear hx hy hi
  go_enter Try.func27, Try.ntmps27
  go_wp2_with (first | (go_at_call 53; (with_reducible refine (i_plain _ _ HX.out).mono ?_); rintro e w' ⟨rfl, rfl⟩) | (go_at_call 53; (with_reducible refine (i_plain _ _ HY.out).mono ?_); rintro e w' ⟨rfl, rfl⟩) | (go_at_call 19; (with_reducible refine (i_IsInterval (zp x) (zp y) _ HA.out HB.out).mono ?_); rintro e w' ⟨rfl, hb⟩; (try replace hb := bt3 hb (by assumption)); obtain ⟨hc, hf, hz, hy⟩ := bcell hb; have hs := hb.size; (try simp at hs); (try have h0 : w.heap.size < w'.heap.size := by omega); (try have h1 : w.heap.size + 1 < w'.heap.size := by omega); (try have h2 : w.heap.size + 1 + 1 < w'.heap.size := by omega); clear hs))
  refine bodyPost_ret (v := .tuple #[.agg #[.float .f32 (zp x), .float .f32 (zp y)], .int .i64 0]) (by simp (maxDischargeDepth := 7) [results, Try.results27, go_sem, *]) rfl ⟨rfl, ?_⟩
  (repeat (first | exact Below.refl _ _ | refine Below.drew ?_ | refine below_drewN _ ?_ | refine ba _ ?_ | refine bs0 _ _ ?_ ?_ | refine bs1 _ _ _ ?_ ?_ | refine bs2 _ _ _ _ ?_ ?_ | refine bs3 _ _ _ _ _ ?_ ?_ | refine bt3 (by assumption) ?_))

set_option maxHeartbeats 1000000 in
theorem i_IntervalOfN (x y : Nat) (w : World) (hx : W x) (hy : W y) (hi : ¬ IsIv (zp x) (zp y)) :
    Calls Try.prog 27 #[.float .f32 x, .float .f32 y] w fun e w' => e = .returned (.tuple #[.agg #[.float .f32 0, .float .f32 0], .int .i64 2]) ∧ Below w.heap.size w w' := by
  have HX : Hd (W x) := ⟨hx⟩
  have HY : Hd (W y) := ⟨hy⟩
  have HA : Hd (W (zp x)) := ⟨W_zp hx⟩
  have HB : Hd (W (zp y)) := ⟨W_zp hy⟩
  have pI : decide (IsIv (zp x) (zp y)) = false := decide_eq_false hi
  clear hx hy hi
  go_enter Try.func27, Try.ntmps27
  go_wp2_with (first | (go_at_call 53; (with_reducible refine (i_plain _ _ HX.out).mono ?_); rintro e w' ⟨rfl, rfl⟩) | (go_at_call 53; (with_reducible refine (i_plain _ _ HY.out).mono ?_); rintro e w' ⟨rfl, rfl⟩) | (go_at_call 19; (with_reducible refine (i_IsInterval (zp x) (zp y) _ HA.out HB.out).mono ?_); rintro e w' ⟨rfl, hb⟩; (try replace hb := bt3 hb (by assumption)); obtain ⟨hc, hf, hz, hy⟩ := bcell hb; have hs := hb.size; (try simp at hs); (try have h0 : w.heap.size < w'.heap.size := by omega); (try have h1 : w.heap.size + 1 < w'.heap.size := by omega); (try have h2 : w.heap.size + 1 + 1 < w'.heap.size := by omega); clear hs))
  refine bodyPost_ret (v := .tuple #[.agg #[.float .f32 0, .float .f32 0], .int .i64 2]) (by simp (maxDischargeDepth := 7) [results, Try.results27, go_sem, *]) rfl ⟨rfl, ?_⟩
  (repeat (first | exact Below.refl _ _ | refine Below.drew ?_ | refine below_drewN _ ?_ | refine ba _ ?_ | refine bs0 _ _ ?_ ?_ | refine bs1 _ _ _ ?_ ?_ | refine bs2 _ _ _ _ ?_ ?_ | refine bs3 _ _ _ _ _ ?_ ?_ | refine bt3 (by assumption) ?_))
end Go.Proofs.Ytlfgefcagjjfkaa
