/- Contracts: sums and differences of the program's digits. -/
import Derived.Test.YtmiafbbndonpaaaP6
import Derived.Test.YtmiafbbndonpaaaN3
set_option linter.unusedVariables false
set_option linter.unusedSimpArgs false
namespace Go.Proofs.Ytmiafbbndonpaaa
open Go.RowKit Num
set_option maxHeartbeats 4000000 in
theorem m_Add1 (A A' : Option Addr) (n m c c' : Nat) (xs ys : List Int) (w : World) (hn : n = xs.length) (hm : m = ys.length) (h : R32 w A xs) (h' : R32 w A' ys) (hr : Rng 4294967296 xs) (hr' : Rng 4294967296 ys) (hl : n ≤ 1000000) (hl' : m < n) :
    Calls Try.prog 207 #[.slice A' m c', .slice A n c] w fun e w' => (∃ g k zs, e = .returned (.slice (some ⟨g, 0, none⟩) k (n + 1)) ∧ w.heap.size ≤ g ∧ zs.length = n + 1 ∧ k ≤ n + 1 ∧ Row32 w' g zs ∧ Canon 4294967296 (zs.take k) ∧ val 4294967296 (zs.take k) = val 4294967296 xs + val 4294967296 ys) ∧ Below w.heap.size w w' := by
  have HX : Hd (R32 w A xs) := ⟨h⟩
  have HY : Hd (R32 w A' ys) := ⟨h'⟩
  have HG : Hd (Rng 4294967296 xs ∧ Rng 4294967296 ys) := ⟨⟨hr, hr'⟩⟩
  have HN : Hd (n = xs.length ∧ m = ys.length ∧ m ≤ n) := ⟨⟨hn, hm, Nat.le_of_lt hl'⟩⟩
  have hnI : (n : Int) ≤ 1000000 := by omega
  have hmI : (m : Int) < n := by omega
  have HL : Hd (n + 1 ≤ LIM) := ⟨by unfold LIM; omega⟩
  clear h h' hr hr' hn hm hl hl'
  go_enter Try.func207, Try.ntmps207
  go_wp2_with ((with_reducible refine wpList_make32 _ rfl (.tmp 18) (.tmp 18) rfl (n + 1) _ rfl rfl (by omega) HL.out ?_); intro w1 hr1 hb1; have HR1 : Hd (Row32 w1 w.heap.size (List.replicate (n + 1) 0)) := ⟨hr1⟩; have HB1 : Hd (Below w.heap.size w w1) := ⟨hb1⟩; clear hr1 hb1)
  go_loopw [6, 22] (fun cr i wr => ∃ (k : Nat) (q : Int) (zs : List Int), i = .int .i64 k ∧ cr = .int .u64 q ∧ (k : Int) ≤ n ∧ 0 ≤ q ∧ q ≤ 1 ∧ Hd (AddR xs ys (n + 1) k q zs) ∧ Hd (Row32 wr w.heap.size zs) ∧ Hd (Below w.heap.size w wr))
    (fun _ i _ => n - (intOf i).toNat)
  case atStart => exact ⟨0, 0, List.replicate (n + 1) 0, rfl, rfl, by omega, by omega, by omega, ⟨by simp, by simp [Rng.nil], by simp [val]⟩, HR1, HB1⟩
  case round =>
    obtain ⟨k, q, zs, rfl, rfl, hk, hq0, hq1, HP, HR, HB⟩ := hrel
    by_cases h1 : k < n
    · obtain ⟨ad, hA, hcx⟩ := HX.out.at_ (k := k) (by have := HN.out; omega)
      subst hA
      have hgx := HG.out.1.getD (by decide) k
      replace hcx := (HB.out.cell (World.block_lt_of_cell? w _ hcx)).trans hcx
      have f0 : wr.frozen? ⟨w.heap.size, k, none⟩ = false := Blk.frozen HR.out k
      have d0 := Row32.cell HR.out (i := k) (by have := HP.out.1; omega)
      generalize hex : xs.getD k 0 = x at *
      have HEx : Hd (xs.getD k 0 = x) := ⟨hex⟩
      clear hex
      by_cases h2 : k < m
      · obtain ⟨ad2, hA, hcy⟩ := HY.out.at_ (k := k) (by have := HN.out; omega)
        subst hA
        have hgy := HG.out.2.getD (by decide) k
        replace hcy := (HB.out.cell (World.block_lt_of_cell? w _ hcy)).trans hcy
        generalize hey : ys.getD k 0 = y at *
        have HEy : Hd (ys.getD k 0 = y) := ⟨hey⟩
        clear hey
        go_wp2
        go_roundw
        case rel => exact ⟨k + 1, (q + x + y) / 4294967296, zs.set k ((q + x + y) % 4294967296), by go_num, by go_num, by omega, by omega, by omega, ⟨HP.out.next (by omega) (by rw [HEx.out, HEy.out]) (by rw [HEx.out, HEy.out])⟩, ⟨by have := HR.out.set k ((q + x + y) % 4294967296); simpa using this⟩, ⟨HB.out.setCell (Nat.le_refl _) _⟩⟩
        case measure => simp [intOf]; omega
      · have HEy : Hd (ys.getD k 0 = 0) := ⟨getD_far (by have := HN.out; omega)⟩
        go_wp2
        go_roundw
        case rel => exact ⟨k + 1, (q + x + 0) / 4294967296, zs.set k ((q + x + 0) % 4294967296), by go_num, by go_num, by omega, by omega, by omega, ⟨HP.out.next (by omega) (by rw [HEx.out, HEy.out]) (by rw [HEx.out, HEy.out])⟩, ⟨by have := HR.out.set k ((q + x + 0) % 4294967296); simpa using this⟩, ⟨HB.out.setCell (Nat.le_refl _) _⟩⟩
        case measure => simp [intOf]; omega
    · obtain rfl : k = n := by omega
      have f0 : wr.frozen? ⟨w.heap.size, k, none⟩ = false := Blk.frozen HR.out k
      have d0 := Row32.cell HR.out (i := k) (by have := HP.out.1; omega)
      have HZ : Hd ((zs.set k q).length = k + 1 ∧ Rng 4294967296 (zs.set k q) ∧ val 4294967296 (zs.set k q) = val 4294967296 xs + val 4294967296 ys) := ⟨by
        obtain ⟨e1, e2, e3⟩ := HP.out
        have hN := HN.out
        have e4 : zs.set k q = zs.take k ++ [q] := by
          rw [← take_set_succ zs k q (by omega), List.take_of_length_le (by simp; omega)]
        rw [List.take_of_length_le (show xs.length ≤ k by omega), List.take_of_length_le (show ys.length ≤ k by omega)] at e3
        refine ⟨by simpa using e1, by rw [e4]; exact e2.snoc hq0 (by omega), ?_⟩
        rw [e4, val_snoc, List.length_take, Nat.min_eq_left (by omega)]; exact e3⟩
      have HR2 : Hd (Row32 (wr.setCell ⟨w.heap.size, k, none⟩ (.int .u32 q)) w.heap.size (zs.set k q)) := ⟨HR.out.set k q⟩
      have HB2 : Hd (Below w.heap.size w (wr.setCell ⟨w.heap.size, k, none⟩ (.int .u32 q))) := ⟨HB.out.setCell (Nat.le_refl _) _⟩
      have HK := Hd.mk (m_Trim (some ⟨w.heap.size, 0, none⟩) (k + 1) (k + 1) (zs.set k q) _ HZ.out.1.symm HL.out (Nat.le_refl _) HR2.out.reads HZ.out.2.1)
      go_wp2_with (go_at_call 218; (with_reducible refine HK.out.mono ?_); rintro e w' ⟨⟨j, rfl, hj, hj1, hj2⟩, rfl⟩; have HJ : Hd (j ≤ k + 1 ∧ Canon 4294967296 ((zs.set k q).take j) ∧ val 4294967296 ((zs.set k q).take j) = val 4294967296 (zs.set k q)) := ⟨⟨hj, hj1, hj2⟩⟩; clear hj hj1 hj2)
      go_ret
      exact ⟨⟨w.heap.size, j, zs.set k q, rfl, Nat.le_refl _, HZ.out.1, HJ.out.1, HR2.out, HJ.out.2.1, HJ.out.2.2.trans HZ.out.2.2⟩, HB2.out⟩

/-- digits of the program in memory, with their number -/
structure MagD (w : World) (A : Option Addr) (n c : Nat) (xs : List Int) (v : Int) : Prop where
  len : n = xs.length
  cap : n ≤ c
  can : Canon 4294967296 xs
  reads : R32 w A xs
  typ : ∀ ad, A = some ad → ∃ cs, Blk w ad.block 172 cs
  eq : v = val 4294967296 xs
def MagP (w : World) (A : Option Addr) (n c : Nat) (v : Int) : Prop := ∃ xs, MagD w A n c xs v
theorem MagD.below {w w' : World} {A : Option Addr} {n c : Nat} {xs : List Int} {v : Int} (h : MagD w A n c xs v) (hb : Below w.heap.size w w') : MagD w' A n c xs v :=
  ⟨h.len, h.cap, h.can, h.reads.below hb, fun ad e => by obtain ⟨cs, hk⟩ := h.typ ad e; exact ⟨cs, hk.below hb hk.lt⟩, h.eq⟩
theorem MagP.below {w w' : World} {A : Option Addr} {n c : Nat} {v : Int} (h : MagP w A n c v) (hb : Below w.heap.size w w') : MagP w' A n c v := by
  obtain ⟨xs, h⟩ := h; exact ⟨xs, h.below hb⟩
/-- what a call that hands back digits leaves -/
def RetM (v : Int) (w : World) (e : Ending) (w' : World) : Prop := ∃ A n c, e = .returned (.slice A n c) ∧ MagP w' A n c v ∧ Below w.heap.size w w'
theorem MagD.nil (w : World) : MagD w none 0 0 [] 0 := ⟨rfl, Nat.le_refl _, Canon.nil _, Reads.none_, fun _ h => (by cases h), rfl⟩
theorem magD_row {w : World} {g k N : Nat} {zs : List Int} {v : Int} (hl : zs.length = N) (hk : k ≤ N) (hr : Row32 w g zs) (hc : Canon 4294967296 (zs.take k)) (hv : val 4294967296 (zs.take k) = v) : MagP w (some ⟨g, 0, none⟩) k N v :=
  ⟨zs.take k, by rw [List.length_take]; omega, hk, hc, hr.reads.take k, fun ad e => by cases e; exact ⟨_, hr⟩, hv.symm⟩
theorem BigD.mag {w : World} {neg : Bool} {A : Option Addr} {n c : Nat} {xs : List Int} {a : Int} (h : BigD w neg A n c xs a) : MagD w A n c xs (a.natAbs : Int) := by
  refine ⟨h.len, h.cap, h.can, h.reads, h.typ, ?_⟩
  have h0 := val_nonneg (B := 4294967296) (by decide) h.can.1
  have h1 := h.eq
  split at h1 <;> omega
theorem m_Add (A A' : Option Addr) (n m c c' : Nat) (v u : Int) (w : World) (hX : MagP w A n c v) (hY : MagP w A' m c' u) (hl : n ≤ 1000000) (hl' : m ≤ 1000000) :
    Calls Try.prog 207 #[.slice A n c, .slice A' m c'] w (RetM (v + u) w) := by
  obtain ⟨xs, hX⟩ := hX
  obtain ⟨ys, hY⟩ := hY
  by_cases h : m ≤ n
  · refine (m_Add0 A A' n m c c' xs ys w hX.len hY.len hX.reads hY.reads hX.can.1 hY.can.1 hl h).mono ?_
    rintro e w' ⟨⟨g, k, zs, rfl, _, h2, h3, h4, h5, h6⟩, hb⟩
    exact ⟨_, _, _, rfl, magD_row h2 h3 h4 h5 (by rw [h6, hX.eq, hY.eq]), hb⟩
  · refine (m_Add1 A' A m n c' c ys xs w hY.len hX.len hY.reads hX.reads hY.can.1 hX.can.1 hl' (by omega)).mono ?_
    rintro e w' ⟨⟨g, k, zs, rfl, _, h2, h3, h4, h5, h6⟩, hb⟩
    exact ⟨_, _, _, rfl, magD_row h2 h3 h4 h5 (by rw [h6, hX.eq, hY.eq, Int.add_comm]), hb⟩
set_option maxHeartbeats 4000000 in
theorem m_Sub (A A' : Option Addr) (n m c c' : Nat) (v u : Int) (w : World) (hX : MagP w A n c v) (hY : MagP w A' m c' u) (hl : n ≤ 1000000) (hle : u ≤ v) :
    Calls Try.prog 206 #[.slice A n c, .slice A' m c'] w (RetM (v - u) w) := by
  obtain ⟨xs, hX⟩ := hX
  obtain ⟨ys, hY⟩ := hY
  have hmn : m ≤ n := by
    rcases Nat.lt_or_ge n m with h | h
    · have := hX.can.len_lt (by decide) hY.can (by have := hX.len; have := hY.len; omega)
      rw [← hX.eq, ← hY.eq] at this; omega
    · exact h
  have HX : Hd (R32 w A xs) := ⟨hX.reads⟩
  have HY : Hd (R32 w A' ys) := ⟨hY.reads⟩
  have HG : Hd (Rng 4294967296 xs ∧ Rng 4294967296 ys) := ⟨⟨hX.can.1, hY.can.1⟩⟩
  have HN : Hd (n = xs.length ∧ m = ys.length ∧ m ≤ n) := ⟨⟨hX.len, hY.len, hmn⟩⟩
  have HV : Hd (v = val 4294967296 xs ∧ u = val 4294967296 ys ∧ u ≤ v) := ⟨⟨hX.eq, hY.eq, hle⟩⟩
  have hnI : (n : Int) ≤ 1000000 := by omega
  have hmI : (m : Int) ≤ n := by omega
  have HL : Hd (n ≤ LIM) := ⟨by unfold LIM; omega⟩
  clear hX hY hl hle hmn
  go_enter Try.func206, Try.ntmps206
  go_wp2_with ((with_reducible refine wpList_make32 _ rfl (.tmp 12) (.tmp 12) rfl (n) _ rfl rfl (by omega) HL.out ?_); intro w1 hr1 hb1; have HR1 : Hd (Row32 w1 w.heap.size (List.replicate (n) 0)) := ⟨hr1⟩; have HB1 : Hd (Below w.heap.size w w1) := ⟨hb1⟩; clear hr1 hb1)
  go_loopw [6, 16] (fun cr i wr => ∃ (k : Nat) (q : Int) (zs : List Int), i = .int .i64 k ∧ cr = .int .u64 q ∧ (k : Int) ≤ n ∧ 0 ≤ q ∧ q ≤ 1 ∧ Hd (SubR 4294967296 xs ys n k q zs) ∧ Hd (Row32 wr w.heap.size zs) ∧ Hd (Below w.heap.size w wr))
    (fun _ i _ => n - (intOf i).toNat)
  case atStart => exact ⟨0, 0, List.replicate n 0, rfl, rfl, by omega, by omega, by omega, ⟨SubR.start _ _ _ _⟩, HR1, HB1⟩
  case round =>
    obtain ⟨k, q, zs, rfl, rfl, hk, hq0, hq1, HP, HR, HB⟩ := hrel
    by_cases h1 : k < n
    · obtain ⟨ad, hA, hcx⟩ := HX.out.at_ (k := k) (by have := HN.out; omega)
      subst hA
      have hgx := HG.out.1.getD (by decide) k
      replace hcx := (HB.out.cell (World.block_lt_of_cell? w _ hcx)).trans hcx
      have f0 : wr.frozen? ⟨w.heap.size, k, none⟩ = false := Blk.frozen HR.out k
      have d0 := Row32.cell HR.out (i := k) (by have := HP.out.1; omega)
      generalize hex : xs.getD k 0 = x at *
      have HEx : Hd (xs.getD k 0 = x) := ⟨hex⟩
      clear hex
      by_cases h2 : k < m
      · obtain ⟨ad2, hA, hcy⟩ := HY.out.at_ (k := k) (by have := HN.out; omega)
        subst hA
        have hgy := HG.out.2.getD (by decide) k
        replace hcy := (HB.out.cell (World.block_lt_of_cell? w _ hcy)).trans hcy
        generalize hey : ys.getD k 0 = y at *
        have HEy : Hd (ys.getD k 0 = y) := ⟨hey⟩
        clear hey
        by_cases hlt : x < q + y
        · have hw : IntKind.u64.wrap (x - (q + y)) = x - (q + y) + 18446744073709551616 := by rw [IntKind.wrap_u64]; omega
          go_wp2
          go_roundw
          case rel => exact ⟨k + 1, 1, zs.set k ((x - (q + y) + 18446744073709551616) % 4294967296), by go_num, by go_num, by omega, by omega, by omega, ⟨HP.out.next (by omega) (by omega) (by omega) (by rw [HEx.out, HEy.out]; omega)⟩, ⟨by have := HR.out.set k ((x - (q + y) + 18446744073709551616) % 4294967296); simpa using this⟩, ⟨HB.out.setCell (Nat.le_refl _) _⟩⟩
          case measure => simp [intOf]; omega
        · go_wp2
          go_roundw
          case rel => exact ⟨k + 1, 0, zs.set k (x - (q + y)), by go_num, by go_num, by omega, by omega, by omega, ⟨HP.out.next (by omega) (by omega) (by omega) (by rw [HEx.out, HEy.out]; omega)⟩, ⟨by have := HR.out.set k (x - (q + y)); simpa using this⟩, ⟨HB.out.setCell (Nat.le_refl _) _⟩⟩
          case measure => simp [intOf]; omega
      · have HEy : Hd (ys.getD k 0 = 0) := ⟨getD_far (by have := HN.out; omega)⟩
        by_cases hlt : x < q
        · have hw : IntKind.u64.wrap (x - q) = x - q + 18446744073709551616 := by rw [IntKind.wrap_u64]; omega
          go_wp2
          go_roundw
          case rel => exact ⟨k + 1, 1, zs.set k ((x - q + 18446744073709551616) % 4294967296), by go_num, by go_num, by omega, by omega, by omega, ⟨HP.out.next (by omega) (by omega) (by omega) (by rw [HEx.out, HEy.out]; omega)⟩, ⟨by have := HR.out.set k ((x - q + 18446744073709551616) % 4294967296); simpa using this⟩, ⟨HB.out.setCell (Nat.le_refl _) _⟩⟩
          case measure => simp [intOf]; omega
        · go_wp2
          go_roundw
          case rel => exact ⟨k + 1, 0, zs.set k (x - q), by go_num, by go_num, by omega, by omega, by omega, ⟨HP.out.next (by omega) (by omega) (by omega) (by rw [HEx.out, HEy.out]; omega)⟩, ⟨by have := HR.out.set k (x - q); simpa using this⟩, ⟨HB.out.setCell (Nat.le_refl _) _⟩⟩
          case measure => simp [intOf]; omega
    · obtain rfl : k = n := by omega
      have HZ : Hd (zs.length = k ∧ Rng 4294967296 zs ∧ val 4294967296 zs = v - u) := ⟨by
        have := HP.out.done (by decide) HN.out.1.symm (by have := HN.out; omega) (by rw [← HV.out.1, ← HV.out.2.1]; exact HV.out.2.2) (by omega)
        rw [HV.out.1, HV.out.2.1]; exact this⟩
      have HK := Hd.mk (m_Trim (some ⟨w.heap.size, 0, none⟩) k k zs _ HZ.out.1.symm HL.out (Nat.le_refl _) HR.out.reads HZ.out.2.1)
      go_wp2_with (go_at_call 218; (with_reducible refine (HK.out).mono ?_); rintro e w' ⟨⟨j, rfl, hj, hj1, hj2⟩, rfl⟩; have HJ : Hd (j ≤ k ∧ Canon 4294967296 (zs.take j) ∧ val 4294967296 (zs.take j) = val 4294967296 zs) := ⟨⟨hj, hj1, hj2⟩⟩; clear hj hj1 hj2)
      go_ret
      exact ⟨_, _, _, rfl, magD_row HZ.out.1 HJ.out.1 HR.out HJ.out.2.1 (HJ.out.2.2.trans HZ.out.2.2), HB.out⟩
end Go.Proofs.Ytmiafbbndonpaaa
