/- Contracts: bits and shifts of whole numbers of the reference. -/
import Derived.Test.YtmiafbbndonpaaaS4
set_option linter.unusedVariables false
set_option linter.unusedSimpArgs false
namespace Go.Proofs.Ytmiafbbndonpaaa
open Go.RowKit Num
theorem p24 (q : Nat) : (16777216 : Int) ^ q = 2 ^ (24 * q) := by
  rw [Int.pow_mul]; rfl
theorem WhD.below {w w' : World} {s : Int} {A : Option Addr} {n c : Nat} {xs : List Int} {a : Int} (h : WhD w s A n c xs a) (hb : Below w.heap.size w w') : WhD w' s A n c xs a :=
  ⟨h.len, h.cap, h.lim, h.lim5, h.num, h.can, h.rng, h.sg, h.reads.below hb⟩
theorem bit_digit {xs : List Int} (h : Rng 16777216 xs) (k : Nat) : val 16777216 xs / 2 ^ k % 2 = xs.getD (k / 24) 0 / 2 ^ (k % 24) % 2 := by
  have e : (2 : Int) ^ k = 16777216 ^ (k / 24) * 2 ^ (k % 24) := by rw [p24, ← Int.pow_add]; congr 1; omega
  have hp : (0 : Int) < 16777216 ^ (k / 24) := pow_pos' (by decide) _
  rw [e, ← Int.ediv_ediv_of_nonneg (Int.le_of_lt hp), val_div_pow (by decide) h, val_drop]
  have hr : k % 24 < 24 := Nat.mod_lt _ (by decide)
  generalize k % 24 = r at *
  have e2 : (16777216 : Int) = 2 ^ r * (2 * 2 ^ (23 - r)) := by rw [← Int.mul_assoc, Int.mul_comm (2 ^ r) 2, Int.mul_assoc, ← Int.pow_add, show r + (23 - r) = 23 by omega]; rfl
  rw [e2, Int.mul_assoc, Int.add_mul_ediv_left _ _ (by have := pow_pos' (B := 2) (by decide) r; omega), Int.mul_assoc, Int.add_mul_emod_self_left]

set_option maxHeartbeats 4000000 in
theorem s_Bit (s : Int) (A : Option Addr) (n c : Nat) (xs : List Int) (a : Int) (k : Nat) (w : World) (hX : WhD w s A n c xs a) (hk : k ≤ 10000000) :
    Calls Try.prog 183 #[.agg #[.int .i64 s, .slice A n c], .int .i64 k] w fun e w' => e = .returned (.int .i64 (val 16777216 xs / 2 ^ k % 2)) ∧ Below w.heap.size w w' := by
  have HX : Hd (WhD w s A n c xs a) := ⟨hX⟩
  have hkI : (k : Int) ≤ 10000000 := by omega
  have hnI : (n : Int) ≤ 100000 := by have := hX.lim5; omega
  have HK : Hd (k ≤ 10000000) := ⟨hk⟩
  clear hX hk
  by_cases h1 : k / 24 < n
  · obtain ⟨ad, rfl, hcx⟩ := HX.out.reads.at_ (k := k / 24) (by have := HX.out.len; omega)
    have hgx := HX.out.rng.getD (by decide) (k / 24)
    generalize hex : xs.getD (k / 24) 0 = x at *
    have HEx : Hd (xs.getD (k / 24) 0 = x) := ⟨hex⟩
    replace hcx : (w.alloc (Obj.cells #[.int .i64 s, .slice (some ad) n c] 33)).cell? (ad.add (k / 24)) = some (.int .i64 x) := cb (ba _ (Below.refl _ _)) hcx
    clear hex
    have hx0 : 0 ≤ x / 2 ^ (k % 24) := Int.ediv_nonneg hgx.1 (Int.le_of_lt (pow_pos' (by decide) _))
    have hx1 : x / 2 ^ (k % 24) < 16777216 := Int.lt_of_le_of_lt (Int.ediv_le_self _ hgx.1) hgx.2
    have HV : Hd (val 16777216 xs / 2 ^ k % 2 = x / 2 ^ (k % 24) % 2) := ⟨by rw [bit_digit HX.out.rng, HEx.out]⟩
    rw [HV.out]
    have HM : Hd (bits .and .i64 (x / 2 ^ (k % 24)) 1 = x / 2 ^ (k % 24) % 2) := ⟨bits_mask .i64 63 (by decide) (fun n a b => by rw [IntKind.wrap_i64]; omega) 1 (by decide) _ hx0 (by omega)⟩
    go_enter Try.func183, Try.ntmps183
    go_wp2
    go_ret
    exact ⟨by rw [← HM.out]; rfl, ba _ (Below.refl _ _)⟩
  · have HV : Hd (val 16777216 xs / 2 ^ k % 2 = 0) := ⟨by rw [bit_digit HX.out.rng, getD_far (by have := HX.out.len; omega)]; simp⟩
    rw [HV.out]
    go_enter Try.func183, Try.ntmps183
    go_wp2
    go_ret
    exact ⟨rfl, ba _ (Below.refl _ _)⟩
/-- the number of twos -/
theorem two_pow_le {v : Int} {k : Nat} (hv : 0 < v) (h : v % 2 ^ k = 0) : (2 : Int) ^ k ≤ v := by
  exact Int.le_of_dvd hv (Int.dvd_of_emod_eq_zero h)
theorem twos_lim {xs : List Int} {n k : Nat} (hr : Rng 16777216 xs) (hn : n = xs.length) (hv : 0 < val 16777216 xs) (h : val 16777216 xs % 2 ^ k = 0) : k < 24 * n := by
  have h1 := two_pow_le hv h
  have h2 := val_lt (by decide) hr
  rcases Nat.lt_or_ge k (24 * n) with h3 | h3
  · exact h3
  · have h4 : (2 : Int) ^ (24 * n) ≤ 2 ^ k := pow_le (by decide) h3
    rw [← p24, hn] at h4
    omega
theorem twos_step {v : Int} {k : Nat} (h : v % 2 ^ k = 0) (h2 : v / 2 ^ k % 2 = 0) : v % 2 ^ (k + 1) = 0 := by
  have e := Int.mul_ediv_add_emod v (2 ^ k)
  have e2 := Int.mul_ediv_add_emod (v / 2 ^ k) 2
  rw [h] at e; rw [h2] at e2
  have : v = 2 ^ (k + 1) * (v / 2 ^ k / 2) := by rw [Int.pow_succ, Int.mul_assoc]; rw [show 2 * (v / 2 ^ k / 2) = v / 2 ^ k by omega]; omega
  rw [this]; exact Int.mul_emod_right _ _
set_option maxHeartbeats 4000000 in
theorem s_Twos (s : Int) (A : Option Addr) (n c : Nat) (xs : List Int) (a : Int) (w : World) (hX : WhD w s A n c xs a) (h0 : s ≠ 0) :
    Calls Try.prog 178 #[.agg #[.int .i64 s, .slice A n c]] w fun e w' => (∃ k : Nat, e = .returned (.int .i64 k) ∧ k < 24 * n ∧ val 16777216 xs % 2 ^ k = 0 ∧ val 16777216 xs / 2 ^ k % 2 = 1) ∧ Below w.heap.size w w' := by
  have HX : Hd (WhD w s A n c xs a) := ⟨hX⟩
  have HP : Hd (0 < val 16777216 xs) := ⟨(hX.num.one h0).2.1⟩
  have hnI : (n : Int) ≤ 100000 := by have := hX.lim5; omega
  clear hX h0
  go_enter Try.func178, Try.ntmps178
  go_wp2
  go_loopw [3] (fun i wr => ∃ k : Nat, i = .int .i64 k ∧ (k : Int) < 24 * n ∧ Hd (val 16777216 xs % 2 ^ k = 0) ∧ Hd (Below w.heap.size w wr) ∧ wr.cell? ⟨w.heap.size, 0, none⟩ = some (.int .i64 s) ∧ wr.cell? ⟨w.heap.size, 1, none⟩ = some (.slice A n c))
    (fun i _ => 24 * n - (intOf i).toNat)
  case atStart => exact ⟨0, rfl, by have := twos_lim (k := 0) HX.out.rng HX.out.len HP.out (by simp); omega, ⟨by simp⟩, ⟨ba _ (Below.refl _ _)⟩, by go_simp, by go_simp⟩
  case round =>
    obtain ⟨k, rfl, hk, HM, HB, hc0, hc1⟩ := hrel
    have HK : Hd (k ≤ 10000000) := ⟨by omega⟩
    by_cases hv : val 16777216 xs / 2 ^ k % 2 = 0
    · have HV : Hd (val 16777216 xs / 2 ^ k % 2 = 0) := ⟨hv⟩
      go_wp2_with (go_at_call 183; (with_reducible refine (s_Bit s A n c xs a k _ (HX.out.below HB.out) HK.out).mono ?_); rintro e w1 ⟨rfl, hb⟩; have d0 := cb hb hc0; have d1 := cb hb hc1; have HB1 : Hd (Below w.heap.size w w1) := ⟨bt3 hb HB.out⟩; clear hb)
      have HM1 : Hd (val 16777216 xs % 2 ^ (k + 1) = 0) := ⟨twos_step HM.out HV.out⟩
      go_roundw
      case rel => exact ⟨k + 1, by go_num, by have := twos_lim (k := k + 1) HX.out.rng HX.out.len HP.out HM1.out; omega, HM1, HB1, d0, d1⟩
      case measure => simp [intOf]; omega
    · have hv1 : val 16777216 xs / 2 ^ k % 2 = 1 := by omega
      have HV : Hd (val 16777216 xs / 2 ^ k % 2 = 1) := ⟨hv1⟩
      clear hv
      go_wp2_with (go_at_call 183; (with_reducible refine (s_Bit s A n c xs a k _ (HX.out.below HB.out) HK.out).mono ?_); rintro e w1 ⟨rfl, hb⟩; have HB1 : Hd (Below w.heap.size w w1) := ⟨bt3 hb HB.out⟩; clear hb)
      go_ret
      exact ⟨⟨k, rfl, by omega, HM.out, HV.out⟩, HB1.out⟩
end Go.Proofs.Ytmiafbbndonpaaa
