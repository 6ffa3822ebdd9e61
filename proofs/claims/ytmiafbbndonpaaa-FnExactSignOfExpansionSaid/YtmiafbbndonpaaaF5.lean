/- Contracts: the interval functions without rounding. -/
import Derived.Test.YtmiafbbndonpaaaF4
set_option linter.unusedVariables false
set_option linter.unusedSimpArgs false
namespace Go.Proofs.Ytmiafbbndonpaaa
open Go.RowKit Flt
/-- the lesser, the greater word of two -/
def mnW (a c : Nat) : Nat := if pl c < pl a then c else a
def mxW (b d : Nat) : Nat := if pl b < pl d then d else b
theorem run_minf {P : Program} (w : World) (ts : Array TypeId) (t : TypeId) (a c : Nat) (ha : W a) (hc : W c) (na : PlainP a) (nc : PlainP c) :
    (Builtin.min_ ts t #[.float .f32 a, .float .f32 c]).run P w = .ok (.float .f32 (mnW a c)) w := by
  have h : FloatKind.f32.format.order a c = some (compare (pl a) (pl c)) := ord na.1 nc.1
  unfold mnW
  rcases Int.lt_trichotomy (pl a) (pl c) with k | k | k
  · rw [Std.compare_eq_lt.2 k] at h
    rw [if_neg (by omega)]
    simp [Builtin.min_, Builtin.min2, h]
  · rw [k] at h; simp at h
    obtain rfl := pl_inj ha hc na.2 nc.2 k
    simp [Builtin.min_, Builtin.min2, h]
  · rw [Std.compare_eq_gt.2 k] at h
    rw [if_pos k]
    simp [Builtin.min_, Builtin.min2, h]
theorem run_maxf {P : Program} (w : World) (ts : Array TypeId) (t : TypeId) (a c : Nat) (ha : W a) (hc : W c) (na : PlainP a) (nc : PlainP c) :
    (Builtin.max_ ts t #[.float .f32 a, .float .f32 c]).run P w = .ok (.float .f32 (mxW a c)) w := by
  have h : FloatKind.f32.format.order a c = some (compare (pl a) (pl c)) := ord na.1 nc.1
  unfold mxW
  rcases Int.lt_trichotomy (pl a) (pl c) with k | k | k
  · rw [Std.compare_eq_lt.2 k] at h
    rw [if_pos k]
    simp [Builtin.max_, Builtin.max2, h]
  · rw [k] at h; simp at h
    obtain rfl := pl_inj ha hc na.2 nc.2 k
    simp [Builtin.max_, Builtin.max2, h]
  · rw [Std.compare_eq_gt.2 k] at h
    rw [if_neg (by omega)]
    simp [Builtin.max_, Builtin.max2, h]
theorem iv_lo {a b : Nat} (h : IsIv a b) : PlainP a := ⟨h.1, h.2.2.2.1⟩
theorem iv_hi {a b : Nat} (h : IsIv a b) : PlainP b := ⟨h.2.1, h.2.2.2.2.1⟩
theorem W_ng {x : Nat} (h : W x) : W (ng x) := by unfold W ng at *; split <;> omega
theorem W_zp {x : Nat} (h : W x) : W (zp x) := by unfold W zp at *; split <;> omega
theorem pl_ng {x : Nat} (h : W x) : pl (ng x) = - pl x := by unfold pl ng; unfold W at h; (repeat' split) <;> omega
theorem nan_ng {x : Nat} (h : W x) : nan (ng x) ↔ nan x := by unfold nan ng; unfold W at h; split <;> omega
theorem nan_zp (x : Nat) : nan (zp x) ↔ nan x := by unfold nan zp; split <;> omega
theorem pl_zp (x : Nat) : pl (zp x) = pl x := by
  unfold zp; split
  · rename_i h; rw [h]; decide
  · rfl
theorem zp_ne (x : Nat) : zp x ≠ 2147483648 := by unfold zp; split <;> omega
theorem plain_zp {x : Nat} (h : ¬ nan x) : PlainP (zp x) := ⟨fun k => h ((nan_zp x).1 k), zp_ne x⟩
theorem zp_plain {x : Nat} (h : PlainP x) : zp x = x := by unfold zp; rw [if_neg h.2]
theorem zp_ng_plain {x : Nat} (h : W x) (_h0 : ¬ nan x) (hz : pl x ≠ 0) : zp (ng x) = ng x := by
  unfold zp; rw [if_neg]; intro k; apply hz; rw [pl_zero x h]; left
  unfold ng at k; unfold W at h; split at k <;> omega

set_option maxHeartbeats 1000000 in
theorem s_Make (x y : Nat) (w : World) (hx : W x) (hy : W y) :
    Calls Try.prog 101 #[.float .f32 x, .float .f32 y] w fun e w' => e = .returned (.agg #[.float .f32 (zp x), .float .f32 (zp y)]) ∧ Below w.heap.size w w' := by
  have HX : Hd (W x) := ⟨hx⟩
  have HY : Hd (W y) := ⟨hy⟩
  clear hx hy
  go_enter Try.func101, Try.ntmps101
  go_wp2_with (first | (go_at_call 153; (with_reducible refine (s_Zero _ _ HX.out).mono ?_); rintro e w' ⟨rfl, rfl⟩) | (go_at_call 153; (with_reducible refine (s_Zero _ _ HY.out).mono ?_); rintro e w' ⟨rfl, rfl⟩))
  refine bodyPost_ret (v := .agg #[.float .f32 (zp x), .float .f32 (zp y)]) (by simp (maxDischargeDepth := 7) [results, Try.results101, go_sem, *]) rfl ⟨rfl, ?_⟩
  (repeat (first | exact Below.refl _ _ | refine Below.drew ?_ | refine below_drewN _ ?_ | refine ba _ ?_ | refine bs0 _ _ ?_ ?_ | refine bs1 _ _ _ ?_ ?_ | refine bs2 _ _ _ _ ?_ ?_ | refine bs3 _ _ _ _ _ ?_ ?_ | refine bt3 (by assumption) ?_))






theorem nan_mxW {a c : Nat} (h : ¬ nan a) (k : ¬ nan c) : ¬ nan (mxW a c) := by unfold mxW; split <;> assumption
theorem nan_mnW {a c : Nat} (h : ¬ nan a) (k : ¬ nan c) : ¬ nan (mnW a c) := by unfold mnW; split <;> assumption



def abLo (a b : Nat) : Nat := if 0 ≤ pl a then a else if pl b ≤ 0 then zp (ng b) else 0
def abHi (a b : Nat) : Nat := if 0 ≤ pl a then b else if pl b ≤ 0 then zp (ng a) else mxW (ng a) b


end Go.Proofs.Ytmiafbbndonpaaa
