/- Contracts: products of the program's digits. -/
import Derived.Test.YtmiafbbndonpaaaP9
set_option linter.unusedVariables false
set_option linter.unusedSimpArgs false
namespace Go.Proofs.Ytmiafbbndonpaaa
open Go.RowKit Num
theorem rng_at {zs : List Int} (h : Rng 4294967296 zs) (k : Nat) : 0 ≤ zs.getD k 0 ∧ zs.getD k 0 < 4294967296 := h.getD (by decide) k
set_option maxHeartbeats 4000000 in
theorem m_Mul (A A' : Option Addr) (n m c c' : Nat) (v u : Int) (w : World) (hX : MagP w A n c v) (hY : MagP w A' m c' u) (hl : n ≤ 1000000) (hl' : m ≤ 1000000) :
    Calls Try.prog 213 #[.slice A n c, .slice A' m c'] w (RetM (v * u) w) := by
  obtain ⟨xs, hX⟩ := hX
  obtain ⟨ys, hY⟩ := hY
  have HX : Hd (R32 w A xs) := ⟨hX.reads⟩
  have HY : Hd (R32 w A' ys) := ⟨hY.reads⟩
  have HG : Hd (Rng 4294967296 xs ∧ Rng 4294967296 ys) := ⟨⟨hX.can.1, hY.can.1⟩⟩
  have HN : Hd (n = xs.length ∧ m = ys.length) := ⟨⟨hX.len, hY.len⟩⟩
  have HV : Hd (v = val 4294967296 xs ∧ u = val 4294967296 ys) := ⟨⟨hX.eq, hY.eq⟩⟩
  have hnI : (n : Int) ≤ 1000000 := by omega
  have hmI : (m : Int) ≤ 1000000 := by omega
  have HL : Hd (n + m ≤ LIM) := ⟨by unfold LIM; omega⟩
  clear hX hY hl hl'
  go_enter Try.func213, Try.ntmps213
  go_wp2_with ((with_reducible refine wpList_make32 _ rfl (.tmp 15) (.tmp 15) rfl (n + m) _ rfl rfl (by first | omega | (push_cast; omega)) HL.out ?_); intro w1 hr1 hb1; have HR1 : Hd (Row32 w1 w.heap.size (List.replicate (n + m) 0)) := ⟨hr1⟩; have HB1 : Hd (Below w.heap.size w w1) := ⟨hb1⟩; clear hr1 hb1)
  go_loopw [19] (fun i wr => ∃ (j : Nat) (zs : List Int), i = .int .i64 j ∧ (j : Int) ≤ n ∧ Hd (MulO 4294967296 xs ys (n + m) j zs) ∧ Hd (Row32 wr w.heap.size zs) ∧ Hd (Below w.heap.size w wr))
    (fun i _ => n - (intOf i).toNat)
  case atStart => exact ⟨0, List.replicate (n + m) 0, rfl, by omega, ⟨MulO.start (by decide) _ _ _⟩, HR1, HB1⟩
  case round =>
    obtain ⟨j, zs, rfl, hj, HP, HR, HB⟩ := hrel
    obtain ⟨w0, hw0⟩ : ∃ w0, w0 = wr := ⟨_, rfl⟩
    subst hw0
    by_cases h1 : j < n
    · obtain ⟨ad, hA, hcx⟩ := HX.out.at_ (k := j) (by have := HN.out; omega)
      subst hA
      have hgx := rng_at HG.out.1 j
      replace hcx := (HB.out.cell (World.block_lt_of_cell? w _ hcx)).trans hcx
      generalize hex : xs.getD j 0 = x at *
      have HEx : Hd (xs.getD j 0 = x) := ⟨hex⟩
      clear hex
      go_wp2
      go_loopw [8, 26] (fun cr i wi => ∃ (k : Nat) (q : Int) (ws : List Int), i = .int .i64 k ∧ cr = .int .u64 q ∧ (k : Int) ≤ m ∧ 0 ≤ q ∧ q < 4294967296 ∧ Hd (MulR 4294967296 xs ys (n + m) j k q ws) ∧ Hd (Row32 wi w.heap.size ws) ∧ Hd (Below w.heap.size w wi))
        (fun _ i _ => m - (intOf i).toNat)
      case atStart => exact ⟨0, 0, zs, rfl, rfl, by omega, by omega, by omega, ⟨HP.out.inner⟩, HR, HB⟩
      case round =>
        obtain ⟨k, q, ws, rfl, rfl, hk, hq0, hq1, HQ, HR2, HB2⟩ := hrel
        by_cases h2 : k < m
        · obtain ⟨ad2, hA, hcy⟩ := HY.out.at_ (k := k) (by have := HN.out; omega)
          subst hA
          have hgy := rng_at HG.out.2 k
          replace hcy := (HB2.out.cell (World.block_lt_of_cell? w _ hcy)).trans hcy
          have f0 : wr.frozen? ⟨w.heap.size, j + k, none⟩ = false := Blk.frozen HR2.out _
          have d0 := Row32.cell HR2.out (i := j + k) (by have := HQ.out.1; omega)
          have hgz := rng_at HQ.out.2.1 (j + k)
          generalize hey : ys.getD k 0 = y at *
          have HEy : Hd (ys.getD k 0 = y) := ⟨hey⟩
          generalize hez : ws.getD (j + k) 0 = z at *
          have HEz : Hd (ws.getD (j + k) 0 = z) := ⟨hez⟩
          clear hey hez
          obtain ⟨m1, m2, m3, m4⟩ := mul_carry (B := 4294967296) (by decide) hq0 hq1 hgx.1 hgx.2 hgy.1 hgy.2 hgz.1 hgz.2
          have HNX := Hd.mk (MulR.next (t := (q + x * y + z) % 4294967296) (c' := (q + x * y + z) / 4294967296) (by decide) HQ.out (by have := HN.out; omega) (by omega) (by rw [HEx.out, HEy.out, HEz.out]) (by rw [HEx.out, HEy.out, HEz.out]))
          have HMM : Hd (0 ≤ (q + x * y + z) / 4294967296 ∧ (q + x * y + z) / 4294967296 < 4294967296) := ⟨⟨m3, m4⟩⟩
          have hw1 : IntKind.u64.wrap (x * y) = x * y := by rw [IntKind.wrap_u64]; omega
          have hw2 : IntKind.u64.wrap (x * y + z) = x * y + z := by rw [IntKind.wrap_u64]; omega
          have hw3 : IntKind.u64.wrap (q + (x * y + z)) = q + x * y + z := by rw [IntKind.wrap_u64]; omega
          have hp0 : 0 ≤ q + x * y + z := by omega
          clear m3 m4
          go_wp2
          go_roundw
          case rel => exact ⟨k + 1, _, _, by go_num, rfl, by omega, HMM.out.1, HMM.out.2, HNX, ⟨by have := HR2.out.set (j + k) ((q + x * y + z) % 4294967296); simpa using this⟩, ⟨HB2.out.setCell (Nat.le_refl _) _⟩⟩
          case measure => simp [intOf]; omega
        · obtain rfl : k = m := by omega
          have f0 : wr.frozen? ⟨w.heap.size, j + k, none⟩ = false := Blk.frozen HR2.out _
          have d0 := Row32.cell HR2.out (i := j + k) (by have := HQ.out.1; omega)
          have HNX : Hd (MulO 4294967296 xs ys (n + k) (j + 1) (ws.set (j + k) q)) := ⟨by
            have hq := HQ.out
            have hn := HN.out.2
            rw [hn] at hq ⊢
            exact hq.done (by decide) (by omega) hq0 hq1⟩
          go_wp2
          go_roundw
          case rel => exact ⟨j + 1, _, by go_num, by omega, HNX, ⟨by have := HR2.out.set (j + k) q; simpa using this⟩, ⟨HB2.out.setCell (Nat.le_refl _) _⟩⟩
          case measure => simp [intOf]; omega
    · obtain rfl : j = n := by omega
      have HZ : Hd (zs.length = j + m ∧ Rng 4294967296 zs ∧ val 4294967296 zs = v * u) := ⟨by
        have hp := HP.out
        have hn := HN.out.1
        rw [HV.out.1, HV.out.2]
        have h2 : MulO 4294967296 xs ys (j + m) xs.length zs := by rw [← hn]; exact hp
        exact h2.all⟩
      have HKK := Hd.mk (m_Trim (some ⟨w.heap.size, 0, none⟩) (j + m) (j + m) zs _ HZ.out.1.symm HL.out (Nat.le_refl _) HR.out.reads HZ.out.2.1)
      go_wp2_with (go_at_call 218; (with_reducible refine (HKK.out).mono ?_); rintro e w' ⟨⟨i, rfl, hj, hj1, hj2⟩, rfl⟩; have HJ : Hd (i ≤ j + m ∧ Canon 4294967296 (zs.take i) ∧ val 4294967296 (zs.take i) = val 4294967296 zs) := ⟨⟨hj, hj1, hj2⟩⟩; clear hj hj1 hj2)
      go_ret
      exact ⟨_, _, _, rfl, magD_row HZ.out.1 HJ.out.1 HR.out HJ.out.2.1 (HJ.out.2.2.trans HZ.out.2.2), HB.out⟩
end Go.Proofs.Ytmiafbbndonpaaa
