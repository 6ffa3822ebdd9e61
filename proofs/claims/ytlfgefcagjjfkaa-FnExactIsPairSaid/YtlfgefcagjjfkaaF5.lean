/- Contracts: the interval functions without rounding. -/
import Derived.Test.YtlfgefcagjjfkaaF4
set_option linter.unusedVariables false
set_option linter.unusedSimpArgs false
namespace Go.Proofs.Ytlfgefcagjjfkaa
open Go.RowKit Flt
/-- the lesser, the greater word of two -/
def mnW (a c : Nat) : Nat := if pl c < pl a then c else a
def mxW (b d : Nat) : Nat := if pl b < pl d then d else b
theorem run_minf {P : Program} (w : World) (ts : Array TypeId) (t : TypeId) (a c : Nat) (ha : W a) (hc : W c) (na : PlainP a) (nc : PlainP c) :
    (Builtin.min_ ts t #[.float .f32 a, .float .f32 c]).run P w = .ok (.float .f32 (mnW a c)) w := by
  have h : FloatKind.f32.format.order a c = some (compare (pl a) (pl c)) := ord na.1 nc.1
  unfold mnW
  rcases Int.lt_trichotomy (pl a) (pl c) with k | k | k
  · rw [Std.compare_eq_lt.2 k] at h
    rw [if_neg (by omega)]
    simp [Builtin.min_, Builtin.min2, h]
  · rw [k] at h; simp at h
    obtain rfl := pl_inj ha hc na.2 nc.2 k
    simp [Builtin.min_, Builtin.min2, h]
  · rw [Std.compare_eq_gt.2 k] at h
    rw [if_pos k]
    simp [Builtin.min_, Builtin.min2, h]
theorem run_maxf {P : Program} (w : World) (ts : Array TypeId) (t : TypeId) (a c : Nat) (ha : W a) (hc : W c) (na : PlainP a) (nc : PlainP c) :
    (Builtin.max_ ts t #[.float .f32 a, .float .f32 c]).run P w = .ok (.float .f32 (mxW a c)) w := by
  have h : FloatKind.f32.format.order a c = some (compare (pl a) (pl c)) := ord na.1 nc.1
  unfold mxW
  rcases Int.lt_trichotomy (pl a) (pl c) with k | k | k
  · rw [Std.compare_eq_lt.2 k] at h
    rw [if_pos k]
    simp [Builtin.max_, Builtin.max2, h]
  · rw [k] at h; simp at h
    obtain rfl := pl_inj ha hc na.2 nc.2 k
    simp [Builtin.max_, Builtin.max2, h]
  · rw [Std.compare_eq_gt.2 k] at h
    rw [if_neg (by omega)]
    simp [Builtin.max_, Builtin.max2, h]
theorem iv_lo {a b : Nat} (h : IsIv a b) : PlainP a := ⟨h.1, h.2.2.2.1⟩
theorem iv_hi {a b : Nat} (h : IsIv a b) : PlainP b := ⟨h.2.1, h.2.2.2.2.1⟩
theorem W_ng {x : Nat} (h : W x) : W (ng x) := by unfold W ng at *; split <;> omega
theorem W_zp {x : Nat} (h : W x) : W (zp x) := by unfold W zp at *; split <;> omega
theorem pl_ng {x : Nat} (h : W x) : pl (ng x) = - pl x := by unfold pl ng; unfold W at h; (repeat' split) <;> omega
theorem nan_ng {x : Nat} (h : W x) : nan (ng x) ↔ nan x := by unfold nan ng; unfold W at h; split <;> omega
theorem nan_zp (x : Nat) : nan (zp x) ↔ nan x := by unfold nan zp; split <;> omega
theorem pl_zp (x : Nat) : pl (zp x) = pl x := by
  unfold zp; split
  · rename_i h; rw [h]; decide
  · rfl
theorem zp_ne (x : Nat) : zp x ≠ 2147483648 := by unfold zp; split <;> omega
theorem plain_zp {x : Nat} (h : ¬ nan x) : PlainP (zp x) := ⟨fun k => h ((nan_zp x).1 k), zp_ne x⟩
theorem zp_plain {x : Nat} (h : PlainP x) : zp x = x := by unfold zp; rw [if_neg h.2]
theorem zp_ng_plain {x : Nat} (h : W x) (_h0 : ¬ nan x) (hz : pl x ≠ 0) : zp (ng x) = ng x := by
  unfold zp; rw [if_neg]; intro k; apply hz; rw [pl_zero x h]; left
  unfold ng at k; unfold W at h; split at k <;> omega

set_option maxHeartbeats 1000000 in
theorem s_Make (x y : Nat) (w : World) (hx : W x) (hy : W y) :
    Calls Try.prog 52 #[.float .f32 x, .float .f32 y] w fun e w' => e = .returned (.agg #[.float .f32 (zp x), .float .f32 (zp y)]) ∧ Below w.heap.size w w' := by
  have HX : Hd (W x) := ⟨hx⟩
  have HY : Hd (W y) := ⟨hy⟩
  clear hx hy
  go_enter Try.func52, Try.ntmps52
  go_wp2_with (first | (go_at_call 70; (with_reducible refine (s_Zero _ _ HX.out).mono ?_); rintro e w' ⟨rfl, rfl⟩) | (go_at_call 70; (with_reducible refine (s_Zero _ _ HY.out).mono ?_); rintro e w' ⟨rfl, rfl⟩))
  refine bodyPost_ret (v := .agg #[.float .f32 (zp x), .float .f32 (zp y)]) (by simp (maxDischargeDepth := 7) [results, Try.results52, go_sem, *]) rfl ⟨rfl, ?_⟩
  (repeat (first | exact Below.refl _ _ | refine Below.drew ?_ | refine below_drewN _ ?_ | refine ba _ ?_ | refine bs0 _ _ ?_ ?_ | refine bs1 _ _ _ ?_ ?_ | refine bs2 _ _ _ _ ?_ ?_ | refine bs3 _ _ _ _ _ ?_ ?_ | refine bt3 (by assumption) ?_))

set_option maxHeartbeats 1000000 in
theorem s_Neg (a b : Nat) (w : World) (ha : W a) (hb : W b) :
    Calls Try.prog 55 #[.agg #[.float .f32 a, .float .f32 b]] w fun e w' => e = .returned (.agg #[.float .f32 (zp (ng b)), .float .f32 (zp (ng a))]) ∧ Below w.heap.size w w' := by
  have HNA : Hd (W (ng a)) := ⟨W_ng ha⟩
  have HNB : Hd (W (ng b)) := ⟨W_ng hb⟩
  have n1 := negFloat_eq a ha
  have n2 := negFloat_eq b hb
  clear ha hb
  go_enter Try.func55, Try.ntmps55
  go_wp2_with (first | (go_at_call 52; (with_reducible refine (s_Make _ _ _ HNB.out HNA.out).mono ?_); rintro e w' ⟨rfl, hb⟩; (try replace hb := bt3 hb (by assumption)); obtain ⟨hc, hf, hz, hy⟩ := bcell hb; have hs := hb.size; (try simp at hs); (try have h0 : w.heap.size < w'.heap.size := by omega); (try have h1 : w.heap.size + 1 < w'.heap.size := by omega); (try have h2 : w.heap.size + 1 + 1 < w'.heap.size := by omega); clear hs))
  refine bodyPost_ret (v := .agg #[.float .f32 (zp (ng b)), .float .f32 (zp (ng a))]) (by simp (maxDischargeDepth := 7) [results, Try.results55, go_sem, *]) rfl ⟨rfl, ?_⟩
  (repeat (first | exact Below.refl _ _ | refine Below.drew ?_ | refine below_drewN _ ?_ | refine ba _ ?_ | refine bs0 _ _ ?_ ?_ | refine bs1 _ _ _ ?_ ?_ | refine bs2 _ _ _ _ ?_ ?_ | refine bs3 _ _ _ _ _ ?_ ?_ | refine bt3 (by assumption) ?_))

set_option maxHeartbeats 1000000 in
theorem i_negI (a b : Nat) (w : World) (ha : W a) (hb : W b) :
    Calls Try.prog 56 #[.agg #[.float .f32 a, .float .f32 b]] w fun e w' => e = .returned (.agg #[.float .f32 (zp (ng b)), .float .f32 (zp (ng a))]) ∧ Below w.heap.size w w' := by
  have HNA : Hd (W (ng a)) := ⟨W_ng ha⟩
  have HNB : Hd (W (ng b)) := ⟨W_ng hb⟩
  have n1 := negFloat_eq a ha
  have n2 := negFloat_eq b hb
  clear ha hb
  go_enter Try.func56, Try.ntmps56
  go_wp2_with fail
  go_region_held3 (fun w' => w'.cell? ⟨w.heap.size, 0, none⟩ = some (.float .f32 a) ∧ w'.cell? ⟨w.heap.size, 1, none⟩ = some (.float .f32 b)) ((first | assumption | go_keep | (constructor <;> go_simp)))
    (first | (go_at_call 53; (with_reducible refine (i_plain _ _ HNA.out).mono ?_); rintro e w' ⟨rfl, rfl⟩) | (go_at_call 53; (with_reducible refine (i_plain _ _ HNB.out).mono ?_); rintro e w' ⟨rfl, rfl⟩))
  go_wp2_with fail
  refine bodyPost_ret (v := .agg #[.float .f32 (zp (ng b)), .float .f32 (zp (ng a))]) (by simp (maxDischargeDepth := 7) [results, Try.results56, go_sem, *]) rfl ⟨rfl, ?_⟩
  (repeat (first | exact Below.refl _ _ | refine Below.drew ?_ | refine below_drewN _ ?_ | refine ba _ ?_ | refine bs0 _ _ ?_ ?_ | refine bs1 _ _ _ ?_ ?_ | refine bs2 _ _ _ _ ?_ ?_ | refine bs3 _ _ _ _ _ ?_ ?_ | refine bt3 (by assumption) ?_))

set_option maxHeartbeats 1000000 in
theorem s_Hull (a b c d : Nat) (w : World) (_ha : W a) (_hb : W b) (_hc : W c) (_hd : W d) (hi : IsIv a b) (hj : IsIv c d) :
    Calls Try.prog 57 #[.agg #[.float .f32 a, .float .f32 b], .agg #[.float .f32 c, .float .f32 d]] w fun e w' => e = .returned (.agg #[.float .f32 (mnW a c), .float .f32 (mxW b d)]) ∧ Below w.heap.size w w' := by
  by_cases h1 : pl c < pl a
  · have q1 : (FloatKind.f32.format.order c a == some .lt) = true := by rw [o_lt]; exact decide_eq_true ⟨hj.1, hi.1, h1⟩
    by_cases h2 : pl b < pl d
    · have q2 : (FloatKind.f32.format.order d b == some .gt) = true := by rw [o_gt]; exact decide_eq_true ⟨hj.2.1, hi.2.1, h2⟩
      rw [show mnW a c = c from if_pos h1, show mxW b d = d from if_pos h2]
      clear h1 h2 hi hj
      go_enter Try.func57, Try.ntmps57
      go_wp2_with fail
      refine bodyPost_ret (v := _) (by simp (maxDischargeDepth := 7) [results, Try.results57, go_sem, *]) rfl ⟨rfl, ?_⟩
      (repeat (first | exact Below.refl _ _ | refine Below.drew ?_ | refine below_drewN _ ?_ | refine ba _ ?_ | refine bs0 _ _ ?_ ?_ | refine bs1 _ _ _ ?_ ?_ | refine bs2 _ _ _ _ ?_ ?_ | refine bs3 _ _ _ _ _ ?_ ?_ | refine bt3 (by assumption) ?_))
    · have q2 : (FloatKind.f32.format.order d b == some .gt) = false := by rw [o_gt]; exact decide_eq_false (fun k => h2 k.2.2)
      rw [show mnW a c = c from if_pos h1, show mxW b d = b from if_neg h2]
      clear h1 h2 hi hj
      go_enter Try.func57, Try.ntmps57
      go_wp2_with fail
      refine bodyPost_ret (v := _) (by simp (maxDischargeDepth := 7) [results, Try.results57, go_sem, *]) rfl ⟨rfl, ?_⟩
      (repeat (first | exact Below.refl _ _ | refine Below.drew ?_ | refine below_drewN _ ?_ | refine ba _ ?_ | refine bs0 _ _ ?_ ?_ | refine bs1 _ _ _ ?_ ?_ | refine bs2 _ _ _ _ ?_ ?_ | refine bs3 _ _ _ _ _ ?_ ?_ | refine bt3 (by assumption) ?_))
  · have q1 : (FloatKind.f32.format.order c a == some .lt) = false := by rw [o_lt]; exact decide_eq_false (fun k => h1 k.2.2)
    by_cases h2 : pl b < pl d
    · have q2 : (FloatKind.f32.format.order d b == some .gt) = true := by rw [o_gt]; exact decide_eq_true ⟨hj.2.1, hi.2.1, h2⟩
      rw [show mnW a c = a from if_neg h1, show mxW b d = d from if_pos h2]
      clear h1 h2 hi hj
      go_enter Try.func57, Try.ntmps57
      go_wp2_with fail
      refine bodyPost_ret (v := _) (by simp (maxDischargeDepth := 7) [results, Try.results57, go_sem, *]) rfl ⟨rfl, ?_⟩
      (repeat (first | exact Below.refl _ _ | refine Below.drew ?_ | refine below_drewN _ ?_ | refine ba _ ?_ | refine bs0 _ _ ?_ ?_ | refine bs1 _ _ _ ?_ ?_ | refine bs2 _ _ _ _ ?_ ?_ | refine bs3 _ _ _ _ _ ?_ ?_ | refine bt3 (by assumption) ?_))
    · have q2 : (FloatKind.f32.format.order d b == some .gt) = false := by rw [o_gt]; exact decide_eq_false (fun k => h2 k.2.2)
      rw [show mnW a c = a from if_neg h1, show mxW b d = b from if_neg h2]
      clear h1 h2 hi hj
      go_enter Try.func57, Try.ntmps57
      go_wp2_with fail
      refine bodyPost_ret (v := _) (by simp (maxDischargeDepth := 7) [results, Try.results57, go_sem, *]) rfl ⟨rfl, ?_⟩
      (repeat (first | exact Below.refl _ _ | refine Below.drew ?_ | refine below_drewN _ ?_ | refine ba _ ?_ | refine bs0 _ _ ?_ ?_ | refine bs1 _ _ _ ?_ ?_ | refine bs2 _ _ _ _ ?_ ?_ | refine bs3 _ _ _ _ _ ?_ ?_ | refine bt3 (by assumption) ?_))

set_option maxHeartbeats 1000000 in
theorem i_hullI (a b c d : Nat) (w : World) (ha : W a) (hb : W b) (hc : W c) (hd : W d) (hi : IsIv a b) (hj : IsIv c d) :
    Calls Try.prog 58 #[.agg #[.float .f32 a, .float .f32 b], .agg #[.float .f32 c, .float .f32 d]] w fun e w' => e = .returned (.agg #[.float .f32 (mnW a c), .float .f32 (mxW b d)]) ∧ Below w.heap.size w w' := by
  have kmn := fun ts t w => run_minf (P := Try.prog) w ts t a c ha hc (iv_lo hi) (iv_lo hj)
  have kmx := fun ts t w => run_maxf (P := Try.prog) w ts t b d hb hd (iv_hi hi) (iv_hi hj)
  clear ha hb hc hd hi hj
  go_enter Try.func58, Try.ntmps58
  go_wp2_with fail
  refine bodyPost_ret (v := .agg #[.float .f32 (mnW a c), .float .f32 (mxW b d)]) (by simp (maxDischargeDepth := 7) [results, Try.results58, go_sem, *]) rfl ⟨rfl, ?_⟩
  (repeat (first | exact Below.refl _ _ | refine Below.drew ?_ | refine below_drewN _ ?_ | refine ba _ ?_ | refine bs0 _ _ ?_ ?_ | refine bs1 _ _ _ ?_ ?_ | refine bs2 _ _ _ _ ?_ ?_ | refine bs3 _ _ _ _ _ ?_ ?_ | refine bt3 (by assumption) ?_))

set_option maxHeartbeats 1000000 in
theorem s_Meet (a b c d : Nat) (w : World) (_ha : W a) (_hb : W b) (_hc : W c) (_hd : W d) (hi : IsIv a b) (hj : IsIv c d) :
    Calls Try.prog 59 #[.agg #[.float .f32 a, .float .f32 b], .agg #[.float .f32 c, .float .f32 d]] w fun e w' => e = .returned (.tuple #[.agg #[.float .f32 (mxW a c), .float .f32 (mnW b d)], .bool (decide (pl (mxW a c) ≤ pl (mnW b d)))]) ∧ Below w.heap.size w w' := by
  by_cases h1 : pl a < pl c
  · have q1 : (FloatKind.f32.format.order c a == some .gt) = true := by rw [o_gt]; exact decide_eq_true ⟨hj.1, hi.1, h1⟩
    by_cases h2 : pl d < pl b
    · have q2 : (FloatKind.f32.format.order d b == some .lt) = true := by rw [o_lt]; exact decide_eq_true ⟨hj.2.1, hi.2.1, h2⟩
      rw [show mxW a c = c from if_pos h1, show mnW b d = d from if_pos h2]
      have q3 : (FloatKind.f32.format.order c d == some .lt || FloatKind.f32.format.order c d == some .eq) = decide (pl c ≤ pl d) := by rw [o_le]; exact decide_eq_decide.2 ⟨fun k => k.2.2, fun k => ⟨hj.1, hj.2.1, k⟩⟩
      clear h1 h2 hi hj
      go_enter Try.func59, Try.ntmps59
      go_wp2_with fail
      go_region
      all_goals (go_wp2_with fail; refine bodyPost_ret (v := _) (by simp (maxDischargeDepth := 7) [results, Try.results59, go_sem, *]) rfl ⟨rfl, ?_⟩; (repeat (first | exact Below.refl _ _ | refine Below.drew ?_ | refine below_drewN _ ?_ | refine ba _ ?_ | refine bs0 _ _ ?_ ?_ | refine bs1 _ _ _ ?_ ?_ | refine bs2 _ _ _ _ ?_ ?_ | refine bs3 _ _ _ _ _ ?_ ?_ | refine bt3 (by assumption) ?_)))
    · have q2 : (FloatKind.f32.format.order d b == some .lt) = false := by rw [o_lt]; exact decide_eq_false (fun k => h2 k.2.2)
      rw [show mxW a c = c from if_pos h1, show mnW b d = b from if_neg h2]
      have q3 : (FloatKind.f32.format.order c b == some .lt || FloatKind.f32.format.order c b == some .eq) = decide (pl c ≤ pl b) := by rw [o_le]; exact decide_eq_decide.2 ⟨fun k => k.2.2, fun k => ⟨hj.1, hi.2.1, k⟩⟩
      clear h1 h2 hi hj
      go_enter Try.func59, Try.ntmps59
      go_wp2_with fail
      go_region
      all_goals (go_wp2_with fail; refine bodyPost_ret (v := _) (by simp (maxDischargeDepth := 7) [results, Try.results59, go_sem, *]) rfl ⟨rfl, ?_⟩; (repeat (first | exact Below.refl _ _ | refine Below.drew ?_ | refine below_drewN _ ?_ | refine ba _ ?_ | refine bs0 _ _ ?_ ?_ | refine bs1 _ _ _ ?_ ?_ | refine bs2 _ _ _ _ ?_ ?_ | refine bs3 _ _ _ _ _ ?_ ?_ | refine bt3 (by assumption) ?_)))
  · have q1 : (FloatKind.f32.format.order c a == some .gt) = false := by rw [o_gt]; exact decide_eq_false (fun k => h1 k.2.2)
    by_cases h2 : pl d < pl b
    · have q2 : (FloatKind.f32.format.order d b == some .lt) = true := by rw [o_lt]; exact decide_eq_true ⟨hj.2.1, hi.2.1, h2⟩
      rw [show mxW a c = a from if_neg h1, show mnW b d = d from if_pos h2]
      have q3 : (FloatKind.f32.format.order a d == some .lt || FloatKind.f32.format.order a d == some .eq) = decide (pl a ≤ pl d) := by rw [o_le]; exact decide_eq_decide.2 ⟨fun k => k.2.2, fun k => ⟨hi.1, hj.2.1, k⟩⟩
      clear h1 h2 hi hj
      go_enter Try.func59, Try.ntmps59
      go_wp2_with fail
      go_region
      all_goals (go_wp2_with fail; refine bodyPost_ret (v := _) (by simp (maxDischargeDepth := 7) [results, Try.results59, go_sem, *]) rfl ⟨rfl, ?_⟩; (repeat (first | exact Below.refl _ _ | refine Below.drew ?_ | refine below_drewN _ ?_ | refine ba _ ?_ | refine bs0 _ _ ?_ ?_ | refine bs1 _ _ _ ?_ ?_ | refine bs2 _ _ _ _ ?_ ?_ | refine bs3 _ _ _ _ _ ?_ ?_ | refine bt3 (by assumption) ?_)))
    · have q2 : (FloatKind.f32.format.order d b == some .lt) = false := by rw [o_lt]; exact decide_eq_false (fun k => h2 k.2.2)
      rw [show mxW a c = a from if_neg h1, show mnW b d = b from if_neg h2]
      have q3 : (FloatKind.f32.format.order a b == some .lt || FloatKind.f32.format.order a b == some .eq) = decide (pl a ≤ pl b) := by rw [o_le]; exact decide_eq_decide.2 ⟨fun k => k.2.2, fun k => ⟨hi.1, hi.2.1, k⟩⟩
      clear h1 h2 hi hj
      go_enter Try.func59, Try.ntmps59
      go_wp2_with fail
      go_region
      all_goals (go_wp2_with fail; refine bodyPost_ret (v := _) (by simp (maxDischargeDepth := 7) [results, Try.results59, go_sem, *]) rfl ⟨rfl, ?_⟩; (repeat (first | exact Below.refl _ _ | refine Below.drew ?_ | refine below_drewN _ ?_ | refine ba _ ?_ | refine bs0 _ _ ?_ ?_ | refine bs1 _ _ _ ?_ ?_ | refine bs2 _ _ _ _ ?_ ?_ | refine bs3 _ _ _ _ _ ?_ ?_ | refine bt3 (by assumption) ?_)))

theorem nan_mxW {a c : Nat} (h : ¬ nan a) (k : ¬ nan c) : ¬ nan (mxW a c) := by unfold mxW; split <;> assumption
theorem nan_mnW {a c : Nat} (h : ¬ nan a) (k : ¬ nan c) : ¬ nan (mnW a c) := by unfold mnW; split <;> assumption

set_option maxHeartbeats 1000000 in
theorem i_meetY (a b c d : Nat) (w : World) (ha : W a) (hb : W b) (hc : W c) (hd : W d) (hi : IsIv a b) (hj : IsIv c d) (hm : pl (mxW a c) ≤ pl (mnW b d)) :
    Calls Try.prog 60 #[.agg #[.float .f32 a, .float .f32 b], .agg #[.float .f32 c, .float .f32 d]] w fun e w' => e = .returned (.tuple #[.agg #[.float .f32 (mxW a c), .float .f32 (mnW b d)], .bool true]) ∧ Below w.heap.size w w' := by
  have kmx := fun ts t w => run_maxf (P := Try.prog) w ts t a c ha hc (iv_lo hi) (iv_lo hj)
  have kmn := fun ts t w => run_minf (P := Try.prog) w ts t b d hb hd (iv_hi hi) (iv_hi hj)
  have hx := nan_mxW hi.1 hj.1
  have hy := nan_mnW hi.2.1 hj.2.1
  have q : (FloatKind.f32.format.order (mxW a c) (mnW b d) == some .gt) = false := by rw [o_gt]; exact decide_eq_false (fun k => by have := k.2.2; omega)
  clear hx hy hm ha hb hc hd hi hj
  go_enter Try.func60, Try.ntmps60
  go_wp2_with fail
  refine bodyPost_ret (v := .tuple #[.agg #[.float .f32 (mxW a c), .float .f32 (mnW b d)], .bool true]) (by simp (maxDischargeDepth := 7) [results, Try.results60, go_sem, *]) rfl ⟨rfl, ?_⟩
  (repeat (first | exact Below.refl _ _ | refine Below.drew ?_ | refine below_drewN _ ?_ | refine ba _ ?_ | refine bs0 _ _ ?_ ?_ | refine bs1 _ _ _ ?_ ?_ | refine bs2 _ _ _ _ ?_ ?_ | refine bs3 _ _ _ _ _ ?_ ?_ | refine bt3 (by assumption) ?_))

set_option maxHeartbeats 1000000 in
theorem i_meetN (a b c d : Nat) (w : World) (ha : W a) (hb : W b) (hc : W c) (hd : W d) (hi : IsIv a b) (hj : IsIv c d) (hm : ¬ pl (mxW a c) ≤ pl (mnW b d)) :
    Calls Try.prog 60 #[.agg #[.float .f32 a, .float .f32 b], .agg #[.float .f32 c, .float .f32 d]] w fun e w' => e = .returned (.tuple #[.agg #[.float .f32 0, .float .f32 0], .bool false]) ∧ Below w.heap.size w w' := by
  have kmx := fun ts t w => run_maxf (P := Try.prog) w ts t a c ha hc (iv_lo hi) (iv_lo hj)
  have kmn := fun ts t w => run_minf (P := Try.prog) w ts t b d hb hd (iv_hi hi) (iv_hi hj)
  have hx := nan_mxW hi.1 hj.1
  have hy := nan_mnW hi.2.1 hj.2.1
  have q : (FloatKind.f32.format.order (mxW a c) (mnW b d) == some .gt) = true := by rw [o_gt]; exact decide_eq_true ⟨hx, hy, by omega⟩
  clear hx hy hm ha hb hc hd hi hj
  go_enter Try.func60, Try.ntmps60
  go_wp2_with fail
  refine bodyPost_ret (v := .tuple #[.agg #[.float .f32 0, .float .f32 0], .bool false]) (by simp (maxDischargeDepth := 7) [results, Try.results60, go_sem, *]) rfl ⟨rfl, ?_⟩
  (repeat (first | exact Below.refl _ _ | refine Below.drew ?_ | refine below_drewN _ ?_ | refine ba _ ?_ | refine bs0 _ _ ?_ ?_ | refine bs1 _ _ _ ?_ ?_ | refine bs2 _ _ _ _ ?_ ?_ | refine bs3 _ _ _ _ _ ?_ ?_ | refine bt3 (by assumption) ?_))

def abLo (a b : Nat) : Nat := if 0 ≤ pl a then a else if pl b ≤ 0 then zp (ng b) else 0
def abHi (a b : Nat) : Nat := if 0 ≤ pl a then b else if pl b ≤ 0 then zp (ng a) else mxW (ng a) b

set_option maxHeartbeats 2000000 in
theorem s_Abs (a b : Nat) (w : World) (ha : W a) (hb : W b) (hi : IsIv a b) :
    Calls Try.prog 61 #[.agg #[.float .f32 a, .float .f32 b]] w fun e w' => e = .returned (.agg #[.float .f32 (abLo a b), .float .f32 (abHi a b)]) ∧ Below w.heap.size w w' := by
  have p0 : pl 0 = 0 := by decide
  have n0 : ¬ nan 0 := by decide
  by_cases h1 : 0 ≤ pl a
  · have q1 : (FloatKind.f32.format.order a 0 == some .gt || FloatKind.f32.format.order a 0 == some .eq) = true := by rw [o_ge]; exact decide_eq_true ⟨hi.1, n0, by omega⟩
    rw [show abLo a b = a from if_pos h1, show abHi a b = b from if_pos h1]
    clear h1 hi ha hb p0 n0
    go_enter Try.func61, Try.ntmps61
    go_wp2_with fail
    refine bodyPost_ret (v := .agg #[.float .f32 a, .float .f32 b]) (by simp (maxDischargeDepth := 7) [results, Try.results61, go_sem, *]) rfl ⟨rfl, ?_⟩
    (repeat (first | exact Below.refl _ _ | refine Below.drew ?_ | refine below_drewN _ ?_ | refine ba _ ?_ | refine bs0 _ _ ?_ ?_ | refine bs1 _ _ _ ?_ ?_ | refine bs2 _ _ _ _ ?_ ?_ | refine bs3 _ _ _ _ _ ?_ ?_ | refine bt3 (by assumption) ?_))
  · have q1 : (FloatKind.f32.format.order a 0 == some .gt || FloatKind.f32.format.order a 0 == some .eq) = false := by rw [o_ge]; exact decide_eq_false (fun k => h1 (by have := k.2.2; omega))
    by_cases h2 : pl b ≤ 0
    · have q2 : (FloatKind.f32.format.order b 0 == some .lt || FloatKind.f32.format.order b 0 == some .eq) = true := by rw [o_le]; exact decide_eq_true ⟨hi.2.1, n0, by omega⟩
      rw [show abLo a b = zp (ng b) by unfold abLo; rw [if_neg h1, if_pos h2], show abHi a b = zp (ng a) by unfold abHi; rw [if_neg h1, if_pos h2]]
      have HA : Hd (W a) := ⟨ha⟩
      have HB : Hd (W b) := ⟨hb⟩
      clear h1 h2 hi ha hb p0 n0
      go_enter Try.func61, Try.ntmps61
      go_wp2_with (first | (go_at_call 55; (with_reducible refine (s_Neg _ _ _ HA.out HB.out).mono ?_); rintro e w' ⟨rfl, hb⟩; (try replace hb := bt3 hb (by assumption)); obtain ⟨hc, hf, hz, hy⟩ := bcell hb; have hs := hb.size; (try simp at hs); (try have h0 : w.heap.size < w'.heap.size := by omega); (try have h1 : w.heap.size + 1 < w'.heap.size := by omega); (try have h2 : w.heap.size + 1 + 1 < w'.heap.size := by omega); clear hs))
      refine bodyPost_ret (v := .agg #[.float .f32 (zp (ng b)), .float .f32 (zp (ng a))]) (by simp (maxDischargeDepth := 7) [results, Try.results61, go_sem, *]) rfl ⟨rfl, ?_⟩
      (repeat (first | exact Below.refl _ _ | refine Below.drew ?_ | refine below_drewN _ ?_ | refine ba _ ?_ | refine bs0 _ _ ?_ ?_ | refine bs1 _ _ _ ?_ ?_ | refine bs2 _ _ _ _ ?_ ?_ | refine bs3 _ _ _ _ _ ?_ ?_ | refine bt3 (by assumption) ?_))
    · have q2 : (FloatKind.f32.format.order b 0 == some .lt || FloatKind.f32.format.order b 0 == some .eq) = false := by rw [o_le]; exact decide_eq_false (fun k => h2 (by have := k.2.2; omega))
      by_cases h3 : pl (ng a) < pl b
      · have kng := negFloat_eq a ha
        have hna : ¬ nan (ng a) := fun k => hi.1 ((nan_ng ha).1 k)
        have z0 : zp 0 = 0 := by decide
        have H0 : Hd (W 0) := ⟨by unfold W; decide⟩
        have q3 : (FloatKind.f32.format.order (ng a) b == some .gt) = false := by rw [o_gt]; exact decide_eq_false (fun k => by have := k.2.2; omega)
        have HX : Hd (W b) := ⟨hb⟩
        have z1 := zp_plain (iv_hi hi)
        rw [show abLo a b = 0 by unfold abLo; rw [if_neg h1, if_neg h2], show abHi a b = mxW (ng a) b by unfold abHi; rw [if_neg h1, if_neg h2]]
        rw [show mxW (ng a) b = b from if_pos h3]
        clear h3 hna
        clear h1 h2 hi ha hb p0 n0
        go_enter Try.func61, Try.ntmps61
        go_wp2_with (first | (go_at_call 52; (with_reducible refine (s_Make _ _ _ H0.out HX.out).mono ?_); rintro e w' ⟨rfl, hb⟩; (try replace hb := bt3 hb (by assumption)); obtain ⟨hc, hf, hz, hy⟩ := bcell hb; have hs := hb.size; (try simp at hs); (try have h0 : w.heap.size < w'.heap.size := by omega); (try have h1 : w.heap.size + 1 < w'.heap.size := by omega); (try have h2 : w.heap.size + 1 + 1 < w'.heap.size := by omega); clear hs))
        refine bodyPost_ret (v := .agg #[.float .f32 0, .float .f32 b]) (by simp (maxDischargeDepth := 7) [results, Try.results61, go_sem, *]) rfl ⟨rfl, ?_⟩
        (repeat (first | exact Below.refl _ _ | refine Below.drew ?_ | refine below_drewN _ ?_ | refine ba _ ?_ | refine bs0 _ _ ?_ ?_ | refine bs1 _ _ _ ?_ ?_ | refine bs2 _ _ _ _ ?_ ?_ | refine bs3 _ _ _ _ _ ?_ ?_ | refine bt3 (by assumption) ?_))
      · have kng := negFloat_eq a ha
        have hna : ¬ nan (ng a) := fun k => hi.1 ((nan_ng ha).1 k)
        have z0 : zp 0 = 0 := by decide
        have H0 : Hd (W 0) := ⟨by unfold W; decide⟩
        have HX : Hd (W (ng a)) := ⟨W_ng ha⟩
        have z1 := zp_ng_plain ha hi.1 (by omega)
        by_cases h4 : pl (ng a) = pl b
        · have HY : Hd (W b) := ⟨hb⟩
          have q3 : (FloatKind.f32.format.order (ng a) b == some .gt) = false := by rw [o_gt]; exact decide_eq_false (fun k => by have := k.2.2; omega)
          have e4 : ng a = b := pl_inj HX.out hb (by rw [← z1]; exact zp_ne _) hi.2.2.2.2.1 h4
          have z2 := zp_plain (iv_hi hi)
          rw [show abLo a b = 0 by unfold abLo; rw [if_neg h1, if_neg h2], show abHi a b = mxW (ng a) b by unfold abHi; rw [if_neg h1, if_neg h2]]
          rw [show mxW (ng a) b = ng a from if_neg h3, e4]
          clear h3 h4 hna e4 z1 HX
          clear h1 h2 hi ha hb p0 n0
          go_enter Try.func61, Try.ntmps61
          go_wp2_with (first | (go_at_call 52; (with_reducible refine (s_Make _ _ _ H0.out HY.out).mono ?_); rintro e w' ⟨rfl, hb⟩; (try replace hb := bt3 hb (by assumption)); obtain ⟨hc, hf, hz, hy⟩ := bcell hb; have hs := hb.size; (try simp at hs); (try have h0 : w.heap.size < w'.heap.size := by omega); (try have h1 : w.heap.size + 1 < w'.heap.size := by omega); (try have h2 : w.heap.size + 1 + 1 < w'.heap.size := by omega); clear hs))
          refine bodyPost_ret (v := .agg #[.float .f32 0, .float .f32 b]) (by simp (maxDischargeDepth := 7) [results, Try.results61, go_sem, *]) rfl ⟨rfl, ?_⟩
          (repeat (first | exact Below.refl _ _ | refine Below.drew ?_ | refine below_drewN _ ?_ | refine ba _ ?_ | refine bs0 _ _ ?_ ?_ | refine bs1 _ _ _ ?_ ?_ | refine bs2 _ _ _ _ ?_ ?_ | refine bs3 _ _ _ _ _ ?_ ?_ | refine bt3 (by assumption) ?_))
        · have q3 : (FloatKind.f32.format.order (ng a) b == some .gt) = true := by rw [o_gt]; exact decide_eq_true ⟨hna, hi.2.1, by omega⟩
          rw [show abLo a b = 0 by unfold abLo; rw [if_neg h1, if_neg h2], show abHi a b = mxW (ng a) b by unfold abHi; rw [if_neg h1, if_neg h2]]
          rw [show mxW (ng a) b = ng a from if_neg h3]
          clear h3 h4 hna
          clear h1 h2 hi ha hb p0 n0
          go_enter Try.func61, Try.ntmps61
          go_wp2_with (first | (go_at_call 52; (with_reducible refine (s_Make _ _ _ H0.out HX.out).mono ?_); rintro e w' ⟨rfl, hb⟩; (try replace hb := bt3 hb (by assumption)); obtain ⟨hc, hf, hz, hy⟩ := bcell hb; have hs := hb.size; (try simp at hs); (try have h0 : w.heap.size < w'.heap.size := by omega); (try have h1 : w.heap.size + 1 < w'.heap.size := by omega); (try have h2 : w.heap.size + 1 + 1 < w'.heap.size := by omega); clear hs))
          refine bodyPost_ret (v := .agg #[.float .f32 0, .float .f32 (ng a)]) (by simp (maxDischargeDepth := 7) [results, Try.results61, go_sem, *]) rfl ⟨rfl, ?_⟩
          (repeat (first | exact Below.refl _ _ | refine Below.drew ?_ | refine below_drewN _ ?_ | refine ba _ ?_ | refine bs0 _ _ ?_ ?_ | refine bs1 _ _ _ ?_ ?_ | refine bs2 _ _ _ _ ?_ ?_ | refine bs3 _ _ _ _ _ ?_ ?_ | refine bt3 (by assumption) ?_))

set_option maxHeartbeats 2000000 in
theorem i_absI (a b : Nat) (w : World) (ha : W a) (hb : W b) (hi : IsIv a b) :
    Calls Try.prog 62 #[.agg #[.float .f32 a, .float .f32 b]] w fun e w' => e = .returned (.agg #[.float .f32 (abLo a b), .float .f32 (abHi a b)]) ∧ Below w.heap.size w w' := by
  have p0 : pl 0 = 0 := by decide
  have n0 : ¬ nan 0 := by decide
  by_cases h1 : 0 ≤ pl a
  · have q1 : (FloatKind.f32.format.order a 0 == some .gt || FloatKind.f32.format.order a 0 == some .eq) = true := by rw [o_ge]; exact decide_eq_true ⟨hi.1, n0, by omega⟩
    rw [show abLo a b = a from if_pos h1, show abHi a b = b from if_pos h1]
    clear h1 hi ha hb p0 n0
    go_enter Try.func62, Try.ntmps62
    go_wp2_with fail
    refine bodyPost_ret (v := .agg #[.float .f32 a, .float .f32 b]) (by simp (maxDischargeDepth := 7) [results, Try.results62, go_sem, *]) rfl ⟨rfl, ?_⟩
    (repeat (first | exact Below.refl _ _ | refine Below.drew ?_ | refine below_drewN _ ?_ | refine ba _ ?_ | refine bs0 _ _ ?_ ?_ | refine bs1 _ _ _ ?_ ?_ | refine bs2 _ _ _ _ ?_ ?_ | refine bs3 _ _ _ _ _ ?_ ?_ | refine bt3 (by assumption) ?_))
  · have q1 : (FloatKind.f32.format.order a 0 == some .gt || FloatKind.f32.format.order a 0 == some .eq) = false := by rw [o_ge]; exact decide_eq_false (fun k => h1 (by have := k.2.2; omega))
    by_cases h2 : pl b ≤ 0
    · have q2 : (FloatKind.f32.format.order b 0 == some .lt || FloatKind.f32.format.order b 0 == some .eq) = true := by rw [o_le]; exact decide_eq_true ⟨hi.2.1, n0, by omega⟩
      rw [show abLo a b = zp (ng b) by unfold abLo; rw [if_neg h1, if_pos h2], show abHi a b = zp (ng a) by unfold abHi; rw [if_neg h1, if_pos h2]]
      have HA : Hd (W a) := ⟨ha⟩
      have HB : Hd (W b) := ⟨hb⟩
      clear h1 h2 hi ha hb p0 n0
      go_enter Try.func62, Try.ntmps62
      go_wp2_with (first | (go_at_call 56; (with_reducible refine (i_negI _ _ _ HA.out HB.out).mono ?_); rintro e w' ⟨rfl, hb⟩; (try replace hb := bt3 hb (by assumption)); obtain ⟨hc, hf, hz, hy⟩ := bcell hb; have hs := hb.size; (try simp at hs); (try have h0 : w.heap.size < w'.heap.size := by omega); (try have h1 : w.heap.size + 1 < w'.heap.size := by omega); (try have h2 : w.heap.size + 1 + 1 < w'.heap.size := by omega); clear hs))
      refine bodyPost_ret (v := .agg #[.float .f32 (zp (ng b)), .float .f32 (zp (ng a))]) (by simp (maxDischargeDepth := 7) [results, Try.results62, go_sem, *]) rfl ⟨rfl, ?_⟩
      (repeat (first | exact Below.refl _ _ | refine Below.drew ?_ | refine below_drewN _ ?_ | refine ba _ ?_ | refine bs0 _ _ ?_ ?_ | refine bs1 _ _ _ ?_ ?_ | refine bs2 _ _ _ _ ?_ ?_ | refine bs3 _ _ _ _ _ ?_ ?_ | refine bt3 (by assumption) ?_))
    · have q2 : (FloatKind.f32.format.order b 0 == some .lt || FloatKind.f32.format.order b 0 == some .eq) = false := by rw [o_le]; exact decide_eq_false (fun k => h2 (by have := k.2.2; omega))
      have kng := negFloat_eq a ha
      have hna : ¬ nan (ng a) := fun k => hi.1 ((nan_ng ha).1 k)
      have kmx := fun ts t w => run_maxf (P := Try.prog) w ts t (ng a) b (W_ng ha) hb ⟨hna, by unfold ng; unfold W at ha; unfold pl at h1; split at h1 <;> split <;> omega⟩ (iv_hi hi)
      rw [show abLo a b = 0 by unfold abLo; rw [if_neg h1, if_neg h2], show abHi a b = mxW (ng a) b by unfold abHi; rw [if_neg h1, if_neg h2]]
      clear hna
      clear h1 h2 hi ha hb p0 n0
      go_enter Try.func62, Try.ntmps62
      go_wp2_with fail
      refine bodyPost_ret (v := .agg #[.float .f32 0, .float .f32 (mxW (ng a) b)]) (by simp (maxDischargeDepth := 7) [results, Try.results62, go_sem, *]) rfl ⟨rfl, ?_⟩
      (repeat (first | exact Below.refl _ _ | refine Below.drew ?_ | refine below_drewN _ ?_ | refine ba _ ?_ | refine bs0 _ _ ?_ ?_ | refine bs1 _ _ _ ?_ ?_ | refine bs2 _ _ _ _ ?_ ?_ | refine bs3 _ _ _ _ _ ?_ ?_ | refine bt3 (by assumption) ?_))
end Go.Proofs.Ytlfgefcagjjfkaa
