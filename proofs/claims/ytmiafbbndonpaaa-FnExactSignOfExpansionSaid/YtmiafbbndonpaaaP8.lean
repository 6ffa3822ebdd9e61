/- Contracts: shifts, lengths, copies and products of the program's digits. -/
import Derived.Test.YtmiafbbndonpaaaP7
import Derived.Laws.BitsAllLaws
set_option linter.unusedVariables false
set_option linter.unusedSimpArgs false
namespace Go.Proofs.Ytmiafbbndonpaaa
open Go.RowKit Num
theorem p32 (q : Nat) : (4294967296 : Int) ^ q = 2 ^ (32 * q) := by
  rw [Int.pow_mul]; rfl
theorem or32 {z x W : Int} {r : Nat} (hz0 : 0 ≤ z) (hz1 : z < 2 ^ r) (hr : r < 32) (hW : W = x * 2 ^ r) (hx0 : 0 ≤ x) (hx1 : x < 4294967296) :
    bits .or .u32 z (W % 4294967296) = z + W % 4294967296 ∧ z + W % 4294967296 < 4294967296 ∧ 0 ≤ W ∧ W < 18446744073709551616 ∧ 0 ≤ W / 4294967296 ∧ W / 4294967296 < 2 ^ r ∧ W / 4294967296 < 4294967296 := by
  have hp := pow_pos' (B := 2) (by decide) r
  have e : (4294967296 : Int) = 2 ^ (32 - r) * 2 ^ r := by rw [← Int.pow_add, show 32 - r + r = 32 by omega]; rfl
  have e1 : W % 4294967296 = x % 2 ^ (32 - r) * 2 ^ r := by
    rw [hW]; conv => lhs; rw [e]
    rw [Int.mul_comm x, Int.mul_comm (2 ^ (32 - r)), Int.mul_emod_mul_of_pos _ _ hp, Int.mul_comm]
  have hq := pow_pos' (B := 2) (by decide) (32 - r)
  have h1 := Int.emod_nonneg x (show (2 : Int) ^ (32 - r) ≠ 0 by omega)
  have h2 := Int.emod_lt_of_pos x hq
  have h3 : x % 2 ^ (32 - r) * 2 ^ r ≤ (2 ^ (32 - r) - 1) * 2 ^ r := Int.mul_le_mul_of_nonneg_right (by omega) (by omega)
  rw [Int.sub_mul, ← e] at h3
  have h4 : 0 ≤ W := by rw [hW]; exact Int.mul_nonneg hx0 (by omega)
  have h5 : W < 4294967296 * 2 ^ r := by rw [hW]; exact Int.mul_lt_mul_of_pos_right hx1 hp
  have h6 : (2 : Int) ^ r ≤ 2 ^ 31 := pow_le (by decide) (by omega)
  have h6' : (2 : Int) ^ 31 = 2147483648 := rfl
  have h7 : W / 4294967296 < 2 ^ r := Int.ediv_lt_of_lt_mul (by decide) (by omega)
  refine ⟨?_, by rw [e1]; omega, h4, by omega, by omega, h7, by omega⟩
  rw [u32_or _ _ hz0 (by omega) (by omega) (by omega), e1]
  obtain ⟨zn, hzn⟩ : ∃ zn : Nat, z = zn := ⟨z.toNat, by omega⟩
  obtain ⟨xn, hxn⟩ : ∃ xn : Nat, x % 2 ^ (32 - r) = xn := ⟨(x % 2 ^ (32 - r)).toNat, by omega⟩
  rw [hxn, hzn]
  have hpn : ((2 : Int) ^ r) = ((2 ^ r : Nat) : Int) := by push_cast; rfl
  rw [hpn]
  have e5 : ((xn : Int) * ((2 ^ r : Nat) : Int)).toNat = xn * 2 ^ r := by rw [← Int.natCast_mul, Int.toNat_natCast]
  rw [e5, Int.toNat_natCast, Nat.or_comm, or_add (by rw [hpn] at hz1; omega)]
  push_cast; omega
theorem or64 {x y : Int} (hx0 : 0 ≤ x) (hx1 : x < 4294967296) (hy0 : 0 ≤ y) (hy1 : y < 4294967296) : bits .or .u64 x (y * 4294967296) = x + y * 4294967296 := by
  rw [u64_or _ _ hx0 (by omega) (by omega) (by omega)]
  obtain ⟨xn, rfl⟩ : ∃ xn : Nat, x = xn := ⟨x.toNat, by omega⟩
  obtain ⟨yn, rfl⟩ : ∃ yn : Nat, y = yn := ⟨y.toNat, by omega⟩
  have h32 : (2 : Nat) ^ 32 = 4294967296 := by decide
  have e5 : ((yn : Int) * 4294967296).toNat = yn * 2 ^ 32 := by rw [h32]; omega
  rw [e5, Int.toNat_natCast, Nat.or_comm, or_add (by omega), h32]
  omega
set_option maxHeartbeats 4000000 in
theorem m_Left (A : Option Addr) (n c : Nat) (v : Int) (k : Nat) (w : World) (hX : MagP w A n c v) (hl : n ≤ 1000000) (hk : k ≤ 10000000) :
    Calls Try.prog 187 #[.slice A n c, .int .u64 k] w (RetM (v * 2 ^ k) w) := by
  obtain ⟨xs, hX⟩ := hX
  have hnI : (n : Int) ≤ 1000000 := by omega
  have hkI : (k : Int) ≤ 10000000 := by omega
  have HX : Hd (MagD w A n c xs v) := ⟨hX⟩
  have HG : Hd (Rng 4294967296 xs) := ⟨hX.can.1⟩
  have HK : Hd (k = 32 * (k / 32) + k % 32 ∧ k ≤ 10000000) := ⟨by omega⟩
  have HL : Hd (k / 32 + n + 1 ≤ LIM) := ⟨by unfold LIM; omega⟩
  clear hX hl hk
  by_cases h0 : n = 0
  · subst h0
    have HV : Hd (v = 0) := ⟨by
      have h1 := HX.out.len
      have h2 : xs = [] := List.eq_nil_of_length_eq_zero h1.symm
      rw [HX.out.eq, h2]; rfl⟩
    go_enter Try.func187, Try.ntmps187
    go_wp2
    go_ret
    exact ⟨_, _, _, rfl, by rw [HV.out, Int.zero_mul]; exact ⟨[], MagD.nil w⟩, Below.refl _ _⟩
  · have HP0 : Hd (0 < n) := ⟨by omega⟩
    have hd : ((n : Int) == 0) = false := by simpa using h0
    have hn0 : 1 ≤ (n : Int) := by omega
    clear h0
    go_enter Try.func187, Try.ntmps187
    go_wp2_with ((with_reducible refine wpList_make32 _ rfl (.tmp 18) (.tmp 18) rfl (k / 32 + n + 1) _ rfl rfl (by first | omega | (push_cast; omega)) HL.out ?_); intro w1 hr1 hb1; have HR1 : Hd (Row32 w1 w.heap.size (List.replicate (k / 32 + n + 1) 0)) := ⟨hr1⟩; have HB1 : Hd (Below w.heap.size w w1) := ⟨hb1⟩; clear hr1 hb1)
    go_loopw [22] (fun i wr => ∃ (j : Nat) (zs : List Int), i = .int .i64 j ∧ (j : Int) ≤ n ∧ Hd (ShlR 4294967296 xs (k % 32) (k / 32) (k / 32 + n + 1) j zs) ∧ Hd (Row32 wr w.heap.size zs) ∧ Hd (Below w.heap.size w wr))
      (fun i _ => n - (intOf i).toNat)
    case atStart => exact ⟨0, List.replicate (k / 32 + n + 1) 0, rfl, by omega, ⟨ShlR.start (by decide) _ _ _ _⟩, HR1, HB1⟩
    case round =>
      obtain ⟨j, zs, rfl, hj, HP, HR, HB⟩ := hrel
      by_cases h1 : j < n
      · obtain ⟨ad, hA, hcx⟩ := HX.out.reads.at_ (k := j) (by have := HX.out.len; omega)
        subst hA
        have hgx := HG.out.getD (by decide) j
        replace hcx := (HB.out.cell (World.block_lt_of_cell? w _ hcx)).trans hcx
        have f0 : wr.frozen? ⟨w.heap.size, k / 32 + j, none⟩ = false := Blk.frozen HR.out _
        have f1 : wr.frozen? ⟨w.heap.size, k / 32 + j + 1, none⟩ = false := Blk.frozen HR.out _
        have f1' : wr.frozen? ⟨w.heap.size, k / 32 + (j + 1), none⟩ = false := Blk.frozen HR.out _
        have d0 := Row32.cell HR.out (i := k / 32 + j) (by have := HP.out.1; omega)
        have d1 := Row32.cell HR.out (i := k / 32 + j + 1) (by have := HP.out.1; omega)
        have hgz := HP.out.2.1.getD (by decide) (k / 32 + j)
        have hgz1 := HP.out.2.1.getD (by decide) (k / 32 + j + 1)
        have hz2 := HP.out.2.2.1
        generalize hez1 : zs.getD (k / 32 + j + 1) 0 = z1 at *
        generalize hez : zs.getD (k / 32 + j) 0 = z at *
        have HEz : Hd (zs.getD (k / 32 + j) 0 = z) := ⟨hez⟩
        generalize hex : xs.getD j 0 = x at *
        have HEx : Hd (xs.getD j 0 = x) := ⟨hex⟩
        clear hex hez hez1
        generalize hWW : x * 2 ^ (k % 32) = W
        obtain ⟨o1, o2, o3, o4, o5, o6, o7⟩ := or32 hgz.1 hz2 (Nat.mod_lt _ (by decide)) hWW.symm hgx.1 hgx.2
        have hwr : IntKind.u64.wrap (x * 2 ^ (k % 32)) = W := by rw [hWW, IntKind.wrap_u64]; omega
        have HW : Hd (z + W % 4294967296 + 4294967296 * (W / 4294967296) = z + x * 2 ^ (k % 32)) := ⟨by rw [hWW]; omega⟩
        have HO6 : Hd (W / 4294967296 < 2 ^ (k % 32)) := ⟨o6⟩
        clear hWW hz2 o6
        have HSET : Hd (Row32 ((wr.setCell ⟨w.heap.size, k / 32 + j, none⟩ (.int .u32 (z + W % 4294967296))).setCell ⟨w.heap.size, k / 32 + j + 1, none⟩ (.int .u32 (W / 4294967296))) w.heap.size ((zs.set (k / 32 + j) (z + W % 4294967296)).set (k / 32 + j + 1) (W / 4294967296))) := ⟨(HR.out.set _ _).set _ _⟩
        have HNX : Hd (ShlR 4294967296 xs (k % 32) (k / 32) (k / 32 + n + 1) (j + 1) ((zs.set (k / 32 + j) (z + W % 4294967296)).set (k / 32 + j + 1) (W / 4294967296))) := ⟨HP.out.next (by decide) (by omega) (by omega) (by omega) o5 HO6.out o7 (by rw [HEz.out, HEx.out]; exact HW.out)⟩
        go_wp2
        go_roundw
        case rel => exact ⟨j + 1, _, by go_num, by omega, HNX, by first | exact HSET | (exact ⟨by simpa using HSET.out⟩) | (exact ⟨by have := HSET.out; simpa [Nat.add_assoc] using this⟩), ⟨(HB.out.setCell (Nat.le_refl _) _).setCell (Nat.le_refl _) _⟩⟩
        case measure => simp [intOf]; omega
      · obtain rfl : j = n := by omega
        have HZ : Hd (zs.length = k / 32 + j + 1 ∧ Rng 4294967296 zs ∧ val 4294967296 zs = v * 2 ^ k) := ⟨by
          have hp := HP.out
          rw [HX.out.len] at hp
          have := hp.done (p := 32) (k := k) rfl HK.out.1
          rw [HX.out.eq]
          have hl := HX.out.len
          exact ⟨by omega, this.2.1, this.2.2⟩⟩
        have HKK := Hd.mk (m_Trim (some ⟨w.heap.size, 0, none⟩) (k / 32 + j + 1) (k / 32 + j + 1) zs _ HZ.out.1.symm HL.out (Nat.le_refl _) HR.out.reads HZ.out.2.1)
        go_wp2_with (go_at_call 218; (with_reducible refine (HKK.out).mono ?_); rintro e w' ⟨⟨i, rfl, hj, hj1, hj2⟩, rfl⟩; have HJ : Hd (i ≤ k / 32 + j + 1 ∧ Canon 4294967296 (zs.take i) ∧ val 4294967296 (zs.take i) = val 4294967296 zs) := ⟨⟨hj, hj1, hj2⟩⟩; clear hj hj1 hj2)
        go_ret
        exact ⟨_, _, _, rfl, magD_row HZ.out.1 HJ.out.1 HR.out HJ.out.2.1 (HJ.out.2.2.trans HZ.out.2.2), HB.out⟩
end Go.Proofs.Ytmiafbbndonpaaa
