/- Contracts: places and neighbours in the program; widened intervals. -/
import Derived.Test.YtlfgefcagjjfkaaF6
import Derived.Test.YtlfgefcagjjfkaaF11
set_option linter.unusedVariables false
set_option linter.unusedSimpArgs false
namespace Go.Proofs.Ytlfgefcagjjfkaa
open Go.RowKit Flt
theorem u32_and31 (x : Int) (h0 : 0 ≤ x) (h1 : x < 4294967296) : bits .and .u32 x 2147483647 = x % 2147483648 :=
  bits_mask .u32 32 (by decide) wraps_u32 31 (by decide) x h0 h1
theorem u32_or31 (y : Int) (h0 : 0 ≤ y) (h1 : y < 2147483648) : bits .or .u32 y 2147483648 = 2147483648 + y := by
  have h := bits_join .u32 32 (by decide) wraps_u32 31 2147483648 y (by decide) (by decide) (by decide) h0 h1 (by omega)
  obtain ⟨a, rfl⟩ := Int.eq_ofNat_of_zero_le h0
  have ha : a < 2 ^ 32 := by omega
  have k1 := (bits_nat .u32 32 (by decide) wraps_u32 2147483648 a (by decide) ha).2
  have k2 := (bits_nat .u32 32 (by decide) wraps_u32 a 2147483648 ha (by decide)).2
  rw [Nat.or_comm] at k1
  exact k2.trans (k1.symm.trans h)

set_option maxHeartbeats 2000000 in
theorem i_place (x : Nat) (w : World) (hx : W x) :
    Calls Try.prog 74 #[.float .f32 x] w fun e w' => e = .returned (.int .i64 (pl x)) ∧ w = w' := by
  have k := run_f32bits
  have ha := u32_and31 (x : Int) (by omega) (by unfold W at hx; omega)
  have hr : ((x : Int) % 2147483648) = ((x % 2147483648 : Nat) : Int) := by omega
  rw [hr] at ha
  have hlt : x % 2147483648 < 2147483648 := by omega
  generalize hy : x % 2147483648 = y at *
  have hI : (y : Int) ≤ 2147483647 := by omega
  by_cases h1 : 2147483648 ≤ x
  · have p1 : mB x = true := decide_eq_true h1
    have e : pl x = -(y : Int) := by unfold pl; unfold W at hx; rw [if_pos (by omega), hy]
    rw [e]; clear e h1 hr hx hlt hy
    go_enter Try.func74, Try.ntmps74
    go_wp2_with (first | (go_at_call 44; (with_reducible refine (i_minus _ _).mono ?_); rintro e w' ⟨rfl, rfl⟩))
    go_ret
    exact ⟨rfl, rfl⟩
  · have p1 : mB x = false := decide_eq_false h1
    have e : pl x = (y : Int) := by unfold pl; rw [if_neg (by omega), hy]
    rw [e]; clear e h1 hr hx hlt hy
    go_enter Try.func74, Try.ntmps74
    go_wp2_with (first | (go_at_call 44; (with_reducible refine (i_minus _ _).mono ?_); rintro e w' ⟨rfl, rfl⟩))
    go_ret
    exact ⟨rfl, rfl⟩

set_option maxHeartbeats 2000000 in
theorem i_atPlace (n : Int) (w : World) (h0 : -2139095040 ≤ n) (h1 : n ≤ 2139095040) :
    Calls Try.prog 73 #[.int .i64 n] w fun e w' => e = .returned (.float .f32 (atP n)) ∧ w = w' := by
  have k := run_f32frombits
  by_cases hn : 0 ≤ n
  · obtain ⟨m, rfl⟩ := Int.eq_ofNat_of_zero_le hn
    rw [show atP (m : Int) = m by unfold atP; rw [if_neg (by omega)]; simp]
    have hm : (m : Int) ≤ 2139095040 := h1
    clear hn h0
    go_enter Try.func73, Try.ntmps73
    go_wp2
    go_ret
    exact ⟨by simp, rfl⟩
  · obtain ⟨m, hk⟩ := Int.eq_ofNat_of_zero_le (show 0 ≤ -n by omega)
    obtain rfl : n = -(m : Int) := by omega
    have ho := u32_or31 (m : Int) (by omega) (by omega)
    have e : atP (-(m : Int)) = (2147483648 + (m : Int)).toNat := by unfold atP; rw [if_pos (by omega)]; omega
    rw [e]
    have hm : (m : Int) ≤ 2139095040 := by omega
    have hm0 : (0 : Int) < m := by omega
    clear e hn h0 h1 hk
    go_enter Try.func73, Try.ntmps73
    go_wp2
    go_ret
    exact ⟨by simp; omega, rfl⟩

set_option maxHeartbeats 2000000 in
theorem i_NextUp (x : Nat) (w : World) (hx : W x) (hn : ¬ nan x) :
    Calls Try.prog 65 #[.float .f32 x] w fun e w' => e = .returned (.tuple #[.float .f32 (atP (min (pl x + 1) 2139095040)), .int .i64 0]) ∧ w = w' := by
  have HX : Hd (W x) := ⟨hx⟩
  have pn : decide (nan x) = false := decide_eq_false hn
  have h0 := pl_hi x
  have h1 := pl_lo x
  have h2 : pl x ≤ 2139095040 := by unfold nan at hn; omega
  have h3 : -2139095040 ≤ pl x := by unfold nan at hn; omega
  clear hx hn h0 h1
  have e1 : (if (2139095040 : Int) < pl x + 1 then (2139095040 : Int) else pl x + 1) = min (pl x + 1) 2139095040 := by split <;> omega
  go_enter Try.func65, Try.ntmps65
  go_wp2_with (first | (go_at_call 42; (with_reducible refine (i_isNaN _ _).mono ?_); rintro e w' ⟨rfl, rfl⟩) | (go_at_call 74; (with_reducible refine (i_place _ _ HX.out).mono ?_); rintro e w' ⟨rfl, rfl⟩) | (go_at_call 73; (with_reducible refine (i_atPlace _ _ (by omega) (by omega)).mono ?_); rintro e w' ⟨rfl, rfl⟩))
  go_ret2
  exact ⟨rfl, rfl⟩

set_option maxHeartbeats 2000000 in
theorem i_NextDown (x : Nat) (w : World) (hx : W x) (hn : ¬ nan x) :
    Calls Try.prog 64 #[.float .f32 x] w fun e w' => e = .returned (.tuple #[.float .f32 (atP (max (pl x - 1) (-2139095040))), .int .i64 0]) ∧ w = w' := by
  have HX : Hd (W x) := ⟨hx⟩
  have pn : decide (nan x) = false := decide_eq_false hn
  have h0 := pl_hi x
  have h1 := pl_lo x
  have h2 : pl x ≤ 2139095040 := by unfold nan at hn; omega
  have h3 : -2139095040 ≤ pl x := by unfold nan at hn; omega
  clear hx hn h0 h1
  have e1 : (if (-2139095040 : Int) > pl x - 1 then (-2139095040 : Int) else pl x - 1) = max (pl x - 1) (-2139095040) := by split <;> omega
  go_enter Try.func64, Try.ntmps64
  go_wp2_with (first | (go_at_call 42; (with_reducible refine (i_isNaN _ _).mono ?_); rintro e w' ⟨rfl, rfl⟩) | (go_at_call 74; (with_reducible refine (i_place _ _ HX.out).mono ?_); rintro e w' ⟨rfl, rfl⟩) | (go_at_call 73; (with_reducible refine (i_atPlace _ _ (by omega) (by omega)).mono ?_); rintro e w' ⟨rfl, rfl⟩))
  go_ret2
  exact ⟨rfl, rfl⟩

set_option maxHeartbeats 1000000 in
theorem i_Widen (a b : Nat) (w : World) (ha : W a) (hb : W b) (hi : IsIv a b) :
    Calls Try.prog 38 #[.agg #[.float .f32 a, .float .f32 b]] w fun e w' => e = .returned (.tuple #[.agg #[.float .f32 (atP (max (pl a - 1) (-2139095040))), .float .f32 (atP (min (pl b + 1) 2139095040))], .int .i64 0]) ∧ Below w.heap.size w w' := by
  have HA : Hd (W a) := ⟨ha⟩
  have HB : Hd (W b) := ⟨hb⟩
  have HNa : Hd (¬ nan a) := ⟨hi.1⟩
  have HNb : Hd (¬ nan b) := ⟨hi.2.1⟩
  have pI : decide (IsIv a b) = true := decide_eq_true hi
  clear ha hb hi
  go_enter Try.func38, Try.ntmps38
  go_wp2_with (first | (go_at_call 19; (with_reducible refine (i_IsInterval a b _ HA.out HB.out).mono ?_); rintro e w' ⟨rfl, hb⟩; (try replace hb := bt3 hb (by assumption)); obtain ⟨hc, hf, hz, hy⟩ := bcell hb; have hs := hb.size; (try simp at hs); (try have h0 : w.heap.size < w'.heap.size := by omega); (try have h1 : w.heap.size + 1 < w'.heap.size := by omega); (try have h2 : w.heap.size + 1 + 1 < w'.heap.size := by omega); clear hs) | (go_at_call 64; (with_reducible refine (i_NextDown _ _ HA.out HNa.out).mono ?_); rintro e w' ⟨rfl, rfl⟩) | (go_at_call 65; (with_reducible refine (i_NextUp _ _ HB.out HNb.out).mono ?_); rintro e w' ⟨rfl, rfl⟩))
  refine bodyPost_ret (v := .tuple #[.agg #[.float .f32 (atP (max (pl a - 1) (-2139095040))), .float .f32 (atP (min (pl b + 1) 2139095040))], .int .i64 0]) (by simp (maxDischargeDepth := 7) [results, Try.results38, go_sem, *]) rfl ⟨rfl, ?_⟩
  (repeat (first | exact Below.refl _ _ | refine Below.drew ?_ | refine below_drewN _ ?_ | refine ba _ ?_ | refine bs0 _ _ ?_ ?_ | refine bs1 _ _ _ ?_ ?_ | refine bs2 _ _ _ _ ?_ ?_ | refine bs3 _ _ _ _ _ ?_ ?_ | refine bt3 (by assumption) ?_))

set_option maxHeartbeats 1000000 in
theorem i_WidenN (a b : Nat) (w : World) (ha : W a) (hb : W b) (hi : ¬ IsIv a b) :
    Calls Try.prog 38 #[.agg #[.float .f32 a, .float .f32 b]] w fun e w' => e = .returned (.tuple #[.agg #[.float .f32 0, .float .f32 0], .int .i64 1]) ∧ Below w.heap.size w w' := by
  have HA : Hd (W a) := ⟨ha⟩
  have HB : Hd (W b) := ⟨hb⟩
  have pI : decide (IsIv a b) = false := decide_eq_false hi
  clear ha hb hi
  go_enter Try.func38, Try.ntmps38
  go_wp2_with (first | (go_at_call 19; (with_reducible refine (i_IsInterval a b _ HA.out HB.out).mono ?_); rintro e w' ⟨rfl, hb⟩; (try replace hb := bt3 hb (by assumption)); obtain ⟨hc, hf, hz, hy⟩ := bcell hb; have hs := hb.size; (try simp at hs); (try have h0 : w.heap.size < w'.heap.size := by omega); (try have h1 : w.heap.size + 1 < w'.heap.size := by omega); (try have h2 : w.heap.size + 1 + 1 < w'.heap.size := by omega); clear hs))
  refine bodyPost_ret (v := .tuple #[.agg #[.float .f32 0, .float .f32 0], .int .i64 1]) (by simp (maxDischargeDepth := 7) [results, Try.results38, go_sem, *]) rfl ⟨rfl, ?_⟩
  (repeat (first | exact Below.refl _ _ | refine Below.drew ?_ | refine below_drewN _ ?_ | refine ba _ ?_ | refine bs0 _ _ ?_ ?_ | refine bs1 _ _ _ ?_ ?_ | refine bs2 _ _ _ _ ?_ ?_ | refine bs3 _ _ _ _ _ ?_ ?_ | refine bt3 (by assumption) ?_))

theorem W_atP {n : Int} (h0 : -2139095040 ≤ n) (h1 : n ≤ 2139095040) : W (atP n) := by unfold W atP; split <;> omega
theorem zp_atP (n : Int) (h0 : -2139095040 ≤ n) (h1 : n ≤ 2139095040) : zp (atP n) = atP n := by unfold zp atP; (repeat' split) <;> omega
theorem s_MakeS (a b : Nat) (w : World) (ha : W a) (hb : W b) (na : ¬ nan a) (nb : ¬ nan b) :
    Calls Try.prog 52 #[.float .f32 (atP (max (min (pl a + -1) 2139095040) (-2139095040))), .float .f32 (atP (max (min (pl b + 1) 2139095040) (-2139095040)))] w fun e w' => e = .returned (.agg #[.float .f32 (atP (max (pl a - 1) (-2139095040))), .float .f32 (atP (min (pl b + 1) 2139095040))]) ∧ Below w.heap.size w w' := by
  have h := s_Make (atP (max (min (pl a + -1) 2139095040) (-2139095040))) (atP (max (min (pl b + 1) 2139095040) (-2139095040))) w (W_atP (by omega) (by omega)) (W_atP (by omega) (by omega))
  rw [zp_atP _ (by omega) (by omega), zp_atP _ (by omega) (by omega)] at h
  have p0 : pl a ≤ 2139095040 := by have := pl_hi a; unfold nan at na; omega
  have p1 : -2139095040 ≤ pl b := by have := pl_lo b; unfold nan at nb; omega
  rw [show max (min (pl a + -1) 2139095040) (-2139095040) = max (pl a - 1) (-2139095040) by omega, show max (min (pl b + 1) 2139095040) (-2139095040) = min (pl b + 1) 2139095040 by omega] at h
  rw [show max (min (pl a + -1) 2139095040) (-2139095040) = max (pl a - 1) (-2139095040) by omega, show max (min (pl b + 1) 2139095040) (-2139095040) = min (pl b + 1) 2139095040 by omega]
  exact h

set_option maxHeartbeats 1000000 in
theorem s_WidenN (a b : Nat) (w : World) (ha : W a) (hb : W b) (hi : ¬ IsIv a b) :
    Calls Try.prog 37 #[.agg #[.float .f32 a, .float .f32 b]] w fun e w' => e = .returned (.tuple #[.agg #[.float .f32 0, .float .f32 0], .int .i64 1]) ∧ Below w.heap.size w w' := by
  have HA : Hd (W a) := ⟨ha⟩
  have HB : Hd (W b) := ⟨hb⟩
  have pI : decide (IsIv a b) = false := decide_eq_false hi
  clear ha hb hi
  go_enter Try.func37, Try.ntmps37
  go_wp2_with (first | (go_at_call 41; (with_reducible refine (s_Is a b _ HA.out HB.out).mono ?_); rintro e w' ⟨rfl, hb⟩; (try replace hb := bt3 hb (by assumption)); obtain ⟨hc, hf, hz, hy⟩ := bcell hb; have hs := hb.size; (try simp at hs); (try have h0 : w.heap.size < w'.heap.size := by omega); (try have h1 : w.heap.size + 1 < w'.heap.size := by omega); (try have h2 : w.heap.size + 1 + 1 < w'.heap.size := by omega); clear hs))
  refine bodyPost_ret (v := .tuple #[.agg #[.float .f32 0, .float .f32 0], .int .i64 1]) (by simp (maxDischargeDepth := 7) [results, Try.results37, go_sem, *]) rfl ⟨rfl, ?_⟩
  (repeat (first | exact Below.refl _ _ | refine Below.drew ?_ | refine below_drewN _ ?_ | refine ba _ ?_ | refine bs0 _ _ ?_ ?_ | refine bs1 _ _ _ ?_ ?_ | refine bs2 _ _ _ _ ?_ ?_ | refine bs3 _ _ _ _ _ ?_ ?_ | refine bt3 (by assumption) ?_))

set_option maxHeartbeats 1000000 in
theorem s_Widen (a b : Nat) (w : World) (ha : W a) (hb : W b) (hi : IsIv a b) :
    Calls Try.prog 37 #[.agg #[.float .f32 a, .float .f32 b]] w fun e w' => e = .returned (.tuple #[.agg #[.float .f32 (atP (max (pl a - 1) (-2139095040))), .float .f32 (atP (min (pl b + 1) 2139095040))], .int .i64 0]) ∧ Below w.heap.size w w' := by
  have HA : Hd (W a) := ⟨ha⟩
  have HB : Hd (W b) := ⟨hb⟩
  have HNa : Hd (¬ nan a) := ⟨hi.1⟩
  have HNb : Hd (¬ nan b) := ⟨hi.2.1⟩
  have pI : decide (IsIv a b) = true := decide_eq_true hi
  clear ha hb hi
  go_enter Try.func37, Try.ntmps37
  go_wp2_with (first | (go_at_call 41; (with_reducible refine (s_Is a b _ HA.out HB.out).mono ?_); rintro e w' ⟨rfl, hb⟩; (try replace hb := bt3 hb (by assumption)); obtain ⟨hc, hf, hz, hy⟩ := bcell hb; have hs := hb.size; (try simp at hs); (try have h0 : w.heap.size < w'.heap.size := by omega); (try have h1 : w.heap.size + 1 < w'.heap.size := by omega); (try have h2 : w.heap.size + 1 + 1 < w'.heap.size := by omega); clear hs))
  have c0 : w'.cell? ⟨w.heap.size, 0, none⟩ = some (.float .f32 a) := by go_simp
  have c1 : w'.cell? ⟨w.heap.size, 1, none⟩ = some (.float .f32 b) := by go_simp
  go_region_held3 (fun w' => w'.cell? ⟨w.heap.size, 0, none⟩ = some (.float .f32 a) ∧ w'.cell? ⟨w.heap.size, 1, none⟩ = some (.float .f32 b)) ((first | assumption | (exact keep2 hq (by first | assumption | (constructor <;> go_simp))) | go_keep | (constructor <;> go_simp)))
    (first | (go_at_call 63; (first | (with_reducible refine (s_Step a (-1) _ HA.out HNa.out (Or.inr rfl)).mono ?_) | (with_reducible refine (s_Step b 1 _ HB.out HNb.out (Or.inl rfl)).mono ?_)); rintro e w' ⟨rfl, ⟨nd, rfl⟩⟩) | (go_at_call 52; (with_reducible refine (s_MakeS a b _ HA.out HB.out HNa.out HNb.out).mono ?_); rintro e w' ⟨rfl, hq⟩; have hr := bt3 hq (below_drewN _ hb); obtain ⟨gc, gf, gz, gy⟩ := bcell hr; have hs := hr.size; (try simp at hs); (try have h0 : w.heap.size < w'.heap.size := by omega); (try have h1 : w.heap.size + 1 < w'.heap.size := by omega); clear hs))
  go_wp2_with fail
  refine bodyPost_ret (v := .tuple #[.agg #[.float .f32 (atP (max (pl a - 1) (-2139095040))), .float .f32 (atP (min (pl b + 1) 2139095040))], .int .i64 0]) (by simp (maxDischargeDepth := 7) [results, Try.results37, go_sem, *]) rfl ⟨rfl, ?_⟩
  (repeat (first | exact Below.refl _ _ | refine Below.drew ?_ | refine below_drewN _ ?_ | refine ba _ ?_ | refine bs0 _ _ ?_ ?_ | refine bs1 _ _ _ ?_ ?_ | refine bs2 _ _ _ _ ?_ ?_ | refine bs3 _ _ _ _ _ ?_ ?_ | refine bt3 (by assumption) ?_))

end Go.Proofs.Ytlfgefcagjjfkaa
