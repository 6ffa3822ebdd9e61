/- Contracts: sums of the program's digits. -/
import Derived.Test.YtmiafbbndonpaaaP5
set_option linter.unusedVariables false
set_option linter.unusedSimpArgs false
namespace Go.Proofs.Ytmiafbbndonpaaa
open Go.RowKit Num
theorem take_set_succ (zs : List Int) (k : Nat) (x : Int) (h : k < zs.length) : (zs.set k x).take (k + 1) = zs.take k ++ [x] := by
  rw [List.take_succ_eq_append_getElem (by simpa using h), List.take_set_of_le (Nat.le_refl k)]; simp
theorem plus_step32 {z x y c : Int} {n : Nat} {X Y : Int} (h : z + 4294967296 ^ n * c = X + Y) : (z + 4294967296 ^ n * ((c + x + y) % 4294967296)) + 4294967296 ^ (n + 1) * ((c + x + y) / 4294967296) = (X + 4294967296 ^ n * x) + (Y + 4294967296 ^ n * y) := by
  have e := Int.mul_ediv_add_emod (c + x + y) 4294967296
  generalize (c + x + y) / 4294967296 = q at *
  generalize (c + x + y) % 4294967296 = r at *
  rw [Int.pow_succ]
  generalize (4294967296 : Int) ^ n = p at *
  have e2 := congrArg (p * ·) e
  simp only [Int.mul_add] at e2
  have e3 : p * 4294967296 * q = p * (4294967296 * q) := by rw [Int.mul_assoc]
  rw [e3]; omega
/-- what a round of a sum leaves -/
def AddR (xs ys : List Int) (N k : Nat) (c : Int) (zs : List Int) : Prop :=
  zs.length = N ∧ Rng 4294967296 (zs.take k) ∧ val 4294967296 (zs.take k) + 4294967296 ^ k * c = val 4294967296 (xs.take k) + val 4294967296 (ys.take k)
theorem AddR.next {xs ys zs : List Int} {N k : Nat} {c t c' : Int} (h : AddR xs ys N k c zs) (hk : k < N) (ht : t = (c + xs.getD k 0 + ys.getD k 0) % 4294967296) (hc : c' = (c + xs.getD k 0 + ys.getD k 0) / 4294967296) : AddR xs ys N (k + 1) c' (zs.set k t) := by
  obtain ⟨h1, h2, h3⟩ := h
  subst ht hc
  refine ⟨by simpa using h1, ?_, ?_⟩
  · rw [take_set_succ _ _ _ (by omega)]; exact h2.snoc (by omega) (by omega)
  · rw [take_set_succ _ _ _ (by omega), val_snoc, List.length_take, Nat.min_eq_left (by omega), val_take_succ, val_take_succ]
    exact plus_step32 h3
set_option maxHeartbeats 4000000 in
theorem m_Add0 (A A' : Option Addr) (n m c c' : Nat) (xs ys : List Int) (w : World) (hn : n = xs.length) (hm : m = ys.length) (h : R32 w A xs) (h' : R32 w A' ys) (hr : Rng 4294967296 xs) (hr' : Rng 4294967296 ys) (hl : n ≤ 1000000) (hl' : m ≤ n) :
    Calls Try.prog 207 #[.slice A n c, .slice A' m c'] w fun e w' => (∃ g k zs, e = .returned (.slice (some ⟨g, 0, none⟩) k (n + 1)) ∧ w.heap.size ≤ g ∧ zs.length = n + 1 ∧ k ≤ n + 1 ∧ Row32 w' g zs ∧ Canon 4294967296 (zs.take k) ∧ val 4294967296 (zs.take k) = val 4294967296 xs + val 4294967296 ys) ∧ Below w.heap.size w w' := by
  have HX : Hd (R32 w A xs) := ⟨h⟩
  have HY : Hd (R32 w A' ys) := ⟨h'⟩
  have HG : Hd (Rng 4294967296 xs ∧ Rng 4294967296 ys) := ⟨⟨hr, hr'⟩⟩
  have HN : Hd (n = xs.length ∧ m = ys.length ∧ m ≤ n) := ⟨⟨hn, hm, hl'⟩⟩
  have hnI : (n : Int) ≤ 1000000 := by omega
  have hmI : ¬ (n : Int) < m := by omega
  have HL : Hd (n + 1 ≤ LIM) := ⟨by unfold LIM; omega⟩
  clear h h' hr hr' hn hm hl hl'
  go_enter Try.func207, Try.ntmps207
  go_wp2_with ((with_reducible refine wpList_make32 _ rfl (.tmp 18) (.tmp 18) rfl (n + 1) _ rfl rfl (by omega) HL.out ?_); intro w1 hr1 hb1; have HR1 : Hd (Row32 w1 w.heap.size (List.replicate (n + 1) 0)) := ⟨hr1⟩; have HB1 : Hd (Below w.heap.size w w1) := ⟨hb1⟩; clear hr1 hb1)
  go_loopw [6, 22] (fun cr i wr => ∃ (k : Nat) (q : Int) (zs : List Int), i = .int .i64 k ∧ cr = .int .u64 q ∧ (k : Int) ≤ n ∧ 0 ≤ q ∧ q ≤ 1 ∧ Hd (AddR xs ys (n + 1) k q zs) ∧ Hd (Row32 wr w.heap.size zs) ∧ Hd (Below w.heap.size w wr))
    (fun _ i _ => n - (intOf i).toNat)
  case atStart => exact ⟨0, 0, List.replicate (n + 1) 0, rfl, rfl, by omega, by omega, by omega, ⟨by simp, by simp [Rng.nil], by simp [val]⟩, HR1, HB1⟩
  case round =>
    obtain ⟨k, q, zs, rfl, rfl, hk, hq0, hq1, HP, HR, HB⟩ := hrel
    by_cases h1 : k < n
    · obtain ⟨ad, hA, hcx⟩ := HX.out.at_ (k := k) (by have := HN.out; omega)
      subst hA
      have hgx := HG.out.1.getD (by decide) k
      replace hcx := (HB.out.cell (World.block_lt_of_cell? w _ hcx)).trans hcx
      have f0 : wr.frozen? ⟨w.heap.size, k, none⟩ = false := Blk.frozen HR.out k
      have d0 := Row32.cell HR.out (i := k) (by have := HP.out.1; omega)
      generalize hex : xs.getD k 0 = x at *
      have HEx : Hd (xs.getD k 0 = x) := ⟨hex⟩
      clear hex
      by_cases h2 : k < m
      · obtain ⟨ad2, hA, hcy⟩ := HY.out.at_ (k := k) (by have := HN.out; omega)
        subst hA
        have hgy := HG.out.2.getD (by decide) k
        replace hcy := (HB.out.cell (World.block_lt_of_cell? w _ hcy)).trans hcy
        generalize hey : ys.getD k 0 = y at *
        have HEy : Hd (ys.getD k 0 = y) := ⟨hey⟩
        clear hey
        go_wp2
        go_roundw
        case rel => exact ⟨k + 1, (q + x + y) / 4294967296, zs.set k ((q + x + y) % 4294967296), by go_num, by go_num, by omega, by omega, by omega, ⟨HP.out.next (by omega) (by rw [HEx.out, HEy.out]) (by rw [HEx.out, HEy.out])⟩, ⟨by have := HR.out.set k ((q + x + y) % 4294967296); simpa using this⟩, ⟨HB.out.setCell (Nat.le_refl _) _⟩⟩
        case measure => simp [intOf]; omega
      · have HEy : Hd (ys.getD k 0 = 0) := ⟨getD_far (by have := HN.out; omega)⟩
        go_wp2
        go_roundw
        case rel => exact ⟨k + 1, (q + x + 0) / 4294967296, zs.set k ((q + x + 0) % 4294967296), by go_num, by go_num, by omega, by omega, by omega, ⟨HP.out.next (by omega) (by rw [HEx.out, HEy.out]) (by rw [HEx.out, HEy.out])⟩, ⟨by have := HR.out.set k ((q + x + 0) % 4294967296); simpa using this⟩, ⟨HB.out.setCell (Nat.le_refl _) _⟩⟩
        case measure => simp [intOf]; omega
    · obtain rfl : k = n := by omega
      have f0 : wr.frozen? ⟨w.heap.size, k, none⟩ = false := Blk.frozen HR.out k
      have d0 := Row32.cell HR.out (i := k) (by have := HP.out.1; omega)
      have HZ : Hd ((zs.set k q).length = k + 1 ∧ Rng 4294967296 (zs.set k q) ∧ val 4294967296 (zs.set k q) = val 4294967296 xs + val 4294967296 ys) := ⟨by
        obtain ⟨e1, e2, e3⟩ := HP.out
        have hN := HN.out
        have e4 : zs.set k q = zs.take k ++ [q] := by
          rw [← take_set_succ zs k q (by omega), List.take_of_length_le (by simp; omega)]
        rw [List.take_of_length_le (show xs.length ≤ k by omega), List.take_of_length_le (show ys.length ≤ k by omega)] at e3
        refine ⟨by simpa using e1, by rw [e4]; exact e2.snoc hq0 (by omega), ?_⟩
        rw [e4, val_snoc, List.length_take, Nat.min_eq_left (by omega)]; exact e3⟩
      have HR2 : Hd (Row32 (wr.setCell ⟨w.heap.size, k, none⟩ (.int .u32 q)) w.heap.size (zs.set k q)) := ⟨HR.out.set k q⟩
      have HB2 : Hd (Below w.heap.size w (wr.setCell ⟨w.heap.size, k, none⟩ (.int .u32 q))) := ⟨HB.out.setCell (Nat.le_refl _) _⟩
      have HK := Hd.mk (m_Trim (some ⟨w.heap.size, 0, none⟩) (k + 1) (k + 1) (zs.set k q) _ HZ.out.1.symm HL.out (Nat.le_refl _) HR2.out.reads HZ.out.2.1)
      go_wp2_with (go_at_call 218; (with_reducible refine HK.out.mono ?_); rintro e w' ⟨⟨j, rfl, hj, hj1, hj2⟩, rfl⟩; have HJ : Hd (j ≤ k + 1 ∧ Canon 4294967296 ((zs.set k q).take j) ∧ val 4294967296 ((zs.set k q).take j) = val 4294967296 (zs.set k q)) := ⟨⟨hj, hj1, hj2⟩⟩; clear hj hj1 hj2)
      go_ret
      exact ⟨⟨w.heap.size, j, zs.set k q, rfl, Nat.le_refl _, HZ.out.1, HJ.out.1, HR2.out, HJ.out.2.1, HJ.out.2.2.trans HZ.out.2.2⟩, HB2.out⟩
end Go.Proofs.Ytmiafbbndonpaaa
