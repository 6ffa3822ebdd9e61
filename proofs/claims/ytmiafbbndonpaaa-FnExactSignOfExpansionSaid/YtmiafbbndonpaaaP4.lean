/- Contracts: comparison of the program's digits. -/
import Derived.Test.YtmiafbbndonpaaaP3
import Derived.Test.YtmiafbbndonpaaaS3
set_option linter.unusedVariables false
set_option linter.unusedSimpArgs false
namespace Go.Proofs.Ytmiafbbndonpaaa
open Go.RowKit Num

theorem cI_nan (a : Int) (w : World) : Calls Try.prog 227 #[.int .i64 a] w fun e w' => e = .returned (.bool false) ∧ w = w' := by
  go_enter Try.func227, Try.ntmps227
  go_wp2
  go_ret
  exact ⟨by simp, rfl⟩
theorem cI (a b : Int) (w : World) : Calls Try.prog 219 #[.int .i64 a, .int .i64 b] w fun e w' => e = .returned (.int .i64 (cmpI a b)) ∧ w = w' := by
  rcases Int.lt_trichotomy a b with h | h | h
  · rw [show cmpI a b = -1 from if_pos h]
    go_enter Try.func219, Try.ntmps219
    go_wp2_with (go_at_call 227; (with_reducible refine (cI_nan _ _).mono ?_); rintro e w' ⟨rfl, rfl⟩)
    go_ret
    exact ⟨rfl, rfl⟩
  · subst h
    rw [show cmpI a a = 0 by simp [cmpI]]
    go_enter Try.func219, Try.ntmps219
    go_wp2_with (go_at_call 227; (with_reducible refine (cI_nan _ _).mono ?_); rintro e w' ⟨rfl, rfl⟩)
    go_ret
    exact ⟨rfl, rfl⟩
  · rw [show cmpI a b = 1 by unfold cmpI; rw [if_neg (by omega), if_pos h]]
    have h2 : ¬ a < b := by omega
    go_enter Try.func219, Try.ntmps219
    go_wp2_with (go_at_call 227; (with_reducible refine (cI_nan _ _).mono ?_); rintro e w' ⟨rfl, rfl⟩)
    go_ret
    exact ⟨rfl, rfl⟩

theorem cU_nan (a : Int) (w : World) : Calls Try.prog 228 #[.int .u32 a] w fun e w' => e = .returned (.bool false) ∧ w = w' := by
  go_enter Try.func228, Try.ntmps228
  go_wp2
  go_ret
  exact ⟨by simp, rfl⟩
theorem cU (a b : Int) (w : World) : Calls Try.prog 220 #[.int .u32 a, .int .u32 b] w fun e w' => e = .returned (.int .i64 (cmpI a b)) ∧ w = w' := by
  rcases Int.lt_trichotomy a b with h | h | h
  · rw [show cmpI a b = -1 from if_pos h]
    go_enter Try.func220, Try.ntmps220
    go_wp2_with (go_at_call 228; (with_reducible refine (cU_nan _ _).mono ?_); rintro e w' ⟨rfl, rfl⟩)
    go_ret
    exact ⟨rfl, rfl⟩
  · subst h
    rw [show cmpI a a = 0 by simp [cmpI]]
    go_enter Try.func220, Try.ntmps220
    go_wp2_with (go_at_call 228; (with_reducible refine (cU_nan _ _).mono ?_); rintro e w' ⟨rfl, rfl⟩)
    go_ret
    exact ⟨rfl, rfl⟩
  · rw [show cmpI a b = 1 by unfold cmpI; rw [if_neg (by omega), if_pos h]]
    have h2 : ¬ a < b := by omega
    go_enter Try.func220, Try.ntmps220
    go_wp2_with (go_at_call 228; (with_reducible refine (cU_nan _ _).mono ?_); rintro e w' ⟨rfl, rfl⟩)
    go_ret
    exact ⟨rfl, rfl⟩

theorem cmp_digit32 {xs ys : List Int} {k : Nat} (hr : Rng 4294967296 xs) (hr' : Rng 4294967296 ys) (hk : k < xs.length) (hl : xs.length = ys.length) (hd : xs.drop (k + 1) = ys.drop (k + 1)) (h : xs.getD k 0 < ys.getD k 0) : val 4294967296 xs < val 4294967296 ys := by
  have e1 := val_take_drop 4294967296 xs k (by omega)
  have e2 := val_take_drop 4294967296 ys k (by omega)
  rw [val_drop 4294967296 xs k] at e1
  rw [val_drop 4294967296 ys k, ← hd] at e2
  have h1 := val_lt (by decide) (hr.take k)
  rw [List.length_take, Nat.min_eq_left (by omega)] at h1
  have h2 := val_nonneg (by decide) (hr'.take k)
  have h3 : (4294967296 : Int) ^ k * (xs.getD k 0 + 4294967296 * val 4294967296 (xs.drop (k + 1)) + 1) ≤ 4294967296 ^ k * (ys.getD k 0 + 4294967296 * val 4294967296 (xs.drop (k + 1))) :=
    Int.mul_le_mul_of_nonneg_left (by omega) (Int.le_of_lt (pow_pos' (by decide) k))
  rw [Int.mul_add _ _ 1] at h3
  omega
theorem drop_one32 {xs ys : List Int} {k : Nat} (hk : k < xs.length) (hl : xs.length = ys.length) (hd : xs.drop (k + 1) = ys.drop (k + 1)) (h : xs.getD k 0 = ys.getD k 0) : xs.drop k = ys.drop k := by
  rw [List.drop_eq_getElem_cons hk, List.drop_eq_getElem_cons (show k < ys.length by omega), hd]
  rw [List.getD_eq_getElem?_getD, List.getD_eq_getElem?_getD, List.getElem?_eq_getElem hk, List.getElem?_eq_getElem (show k < ys.length by omega)] at h
  simp at h; rw [h]
set_option maxHeartbeats 4000000 in
theorem m_Cmp (A A' : Option Addr) (n m c c' : Nat) (xs ys : List Int) (w : World) (hn : n = xs.length) (hm : m = ys.length) (h : R32 w A xs) (h' : R32 w A' ys) (hr : Canon 4294967296 xs) (hr' : Canon 4294967296 ys) (hl : n ≤ 1000000) (hl' : m ≤ 1000000) :
    Calls Try.prog 188 #[.slice A n c, .slice A' m c'] w fun e w' => e = .returned (.int .i64 (cmpI (val 4294967296 xs) (val 4294967296 ys))) ∧ ∃ d, w' = w.drewN d := by
  have HX : Hd (R32 w A xs) := ⟨h⟩
  have HY : Hd (R32 w A' ys) := ⟨h'⟩
  have HG : Hd (Canon 4294967296 xs ∧ Canon 4294967296 ys) := ⟨⟨hr, hr'⟩⟩
  have HN : Hd (n = xs.length ∧ m = ys.length) := ⟨⟨hn, hm⟩⟩
  have hnI : (n : Int) ≤ 1000000 := by omega
  have hmI : (m : Int) ≤ 1000000 := by omega
  clear h h' hr hr' hn hm hl hl'
  by_cases h1 : n < m
  · have HV : Hd (cmpI (val 4294967296 xs) (val 4294967296 ys) = -1) := ⟨if_pos (HG.out.1.len_lt (by decide) HG.out.2 (by have := HN.out; omega))⟩
    have hk : cmpI (n : Int) (m : Int) = -1 := if_pos (by omega)
    go_enter Try.func188, Try.ntmps188
    go_wp2_with (go_at_call 219; (with_reducible refine (cI _ _ _).mono ?_); rintro e w' ⟨rfl, rfl⟩)
    go_ret
    rw [HV.out, ← hk]; exact ⟨rfl, 0, rfl⟩
  · by_cases h2 : m < n
    · have HV : Hd (cmpI (val 4294967296 xs) (val 4294967296 ys) = 1) := ⟨by
        have := HG.out.2.len_lt (by decide) HG.out.1 (by have := HN.out; omega)
        unfold cmpI; rw [if_neg (by omega), if_pos this]⟩
      have hk : cmpI (n : Int) (m : Int) = 1 := by unfold cmpI; rw [if_neg (by omega), if_pos (by omega)]
      go_enter Try.func188, Try.ntmps188
      go_wp2_with (go_at_call 219; (with_reducible refine (cI _ _ _).mono ?_); rintro e w' ⟨rfl, rfl⟩)
      go_ret
      rw [HV.out, ← hk]; exact ⟨rfl, 0, rfl⟩
    · obtain rfl : n = m := by omega
      go_enter Try.func188, Try.ntmps188
      go_wp2
      go_loopw [5] (fun i wr => ∃ (k d : Nat), (k : Int) ≤ n ∧ i = .int .i64 ((k : Int) - 1) ∧ Hd (xs.drop k = ys.drop k) ∧ wr = w.drewN d)
        (fun i _ => (intOf i + 1).toNat)
      case atStart => exact ⟨n, 0, Int.le_refl _, by go_num, ⟨by have := HN.out; exact (List.drop_eq_nil_of_le (show xs.length ≤ n by omega)).trans (List.drop_eq_nil_of_le (show ys.length ≤ n by omega)).symm⟩, rfl⟩
      case round =>
        obtain ⟨k, d, hk, rfl, HD, rfl⟩ := hrel
        rcases Nat.eq_zero_or_pos k with h0 | h0
        · subst h0
          have HV : Hd (cmpI (val 4294967296 xs) (val 4294967296 ys) = 0) := ⟨by have := HD.out; simp at this; rw [this]; simp [cmpI]⟩
          go_wp2
          go_ret
          rw [HV.out]; exact ⟨rfl, d, rfl⟩
        · obtain ⟨j, rfl⟩ : ∃ j, k = j + 1 := ⟨k - 1, by omega⟩
          obtain ⟨ad, rfl, hcx⟩ := HX.out.at_ (k := j) (by have := HN.out; omega)
          obtain ⟨ad', rfl, hcy⟩ := HY.out.at_ (k := j) (by have := HN.out; omega)
          generalize hex : xs.getD j 0 = x at *
          have HEx : Hd (xs.getD j 0 = x) := ⟨hex⟩
          generalize hey : ys.getD j 0 = y at *
          have HEy : Hd (ys.getD j 0 = y) := ⟨hey⟩
          clear hex hey
          have hj : j < n := by omega
          have he : ((↑(j + 1) : Int) - 1) = j := by omega
          rw [he]; clear he hk h0
          by_cases hxy : x = y
          · have hd : (x == y) = true := by simpa using hxy
            have HS : Hd (xs.drop j = ys.drop j) := ⟨drop_one32 (by have := HN.out; omega) (by have := HN.out; omega) HD.out (by rw [HEx.out, HEy.out, hxy])⟩
            clear hxy
            go_wp2
            go_region
            go_wp2
            go_roundw
            case rel => exact ⟨j, _, by omega, by go_num, HS, rfl⟩
            case measure => simp [intOf]
          · have hd : (x == y) = false := by simpa using hxy
            by_cases hlt : x < y
            · have HV : Hd (cmpI (val 4294967296 xs) (val 4294967296 ys) = -1) := ⟨if_pos (cmp_digit32 HG.out.1.1 HG.out.2.1 (by have := HN.out; omega) (by have := HN.out; omega) HD.out (by rw [HEx.out, HEy.out]; exact hlt))⟩
              have HQ : Hd (cmpI x y = -1) := ⟨if_pos hlt⟩
              clear hxy
              go_wp2
              go_region
              go_wp2
              go_region_with (go_at_call 220; (with_reducible refine (cU _ _ _).mono ?_); rintro e w' ⟨rfl, rfl⟩)
              all_goals
                go_wp2
                go_ret
                rw [HV.out, ← HQ.out]; exact ⟨rfl, _, rfl⟩
            · have HV : Hd (cmpI (val 4294967296 xs) (val 4294967296 ys) = 1) := ⟨by
                have := cmp_digit32 HG.out.2.1 HG.out.1.1 (by have := HN.out; omega) (by have := HN.out; omega) HD.out.symm (by rw [HEx.out, HEy.out]; omega)
                unfold cmpI; rw [if_neg (by omega), if_pos this]⟩
              have hd2 : decide (x < y) = false := decide_eq_false hlt
              have HQ : Hd (cmpI x y = 1) := ⟨by unfold cmpI; rw [if_neg hlt, if_pos (by omega)]⟩
              clear hxy hlt
              go_wp2
              go_region
              go_wp2
              go_region_with (go_at_call 220; (with_reducible refine (cU _ _ _).mono ?_); rintro e w' ⟨rfl, rfl⟩)
              all_goals
                go_wp2
                go_ret
                rw [HV.out, ← HQ.out]; exact ⟨rfl, _, rfl⟩

end Go.Proofs.Ytmiafbbndonpaaa
