/- Contracts: division of the program's magnitudes by one digit. -/
import Derived.Test.YtlaaielopcphiaaGe
set_option linter.unusedVariables false
set_option linter.unusedSimpArgs false
namespace Go.Proofs.Ytlaaielopcphiaa
open Go.RowKit Num
/-- short division, the digits above j done -/
def DivR (xs : List Int) (d : Int) (n j : Nat) (r : Int) (zs : List Int) : Prop :=
  zs.length = n ∧ Rng 4294967296 (zs.drop j) ∧ Rng 4294967296 zs ∧ val 4294967296 (zs.drop j) = val 4294967296 (xs.drop j) / d ∧ r = val 4294967296 (xs.drop j) % d
theorem rng_set {B : Int} {zs : List Int} {x : Int} (h : Rng B zs) (i : Nat) (h0 : 0 ≤ x) (h1 : x < B) : Rng B (zs.set i x) := by
  intro y hy
  rcases List.mem_or_eq_of_mem_set hy with hy | rfl
  · exact h y hy
  · exact ⟨h0, h1⟩
theorem DivR.start (xs : List Int) (d : Int) (n : Nat) (hn : n = xs.length) : DivR xs d n n 0 (List.replicate n 0) := by
  have e1 : (List.replicate n (0 : Int)).drop n = [] := List.drop_eq_nil_of_le (by simp)
  have e2 : xs.drop n = [] := List.drop_eq_nil_of_le (by omega)
  refine ⟨by simp, by rw [e1]; exact Rng.nil _, fun y hy => ?_, by rw [e1, e2]; simp [val], by rw [e2]; simp [val]⟩
  have := List.eq_of_mem_replicate hy
  subst this; exact ⟨by decide, by decide⟩
theorem DivR.next {xs zs : List Int} {d r : Int} {n j : Nat} (hd : 0 < d) (hd1 : d < 4294967296) (hx : Rng 4294967296 xs) (hn : n = xs.length) (h : DivR xs d n (j + 1) r zs) (hj : j < n) :
    0 ≤ r ∧ r < d ∧ 0 ≤ (r * 4294967296 + xs.getD j 0) / d ∧ (r * 4294967296 + xs.getD j 0) / d < 4294967296 ∧ DivR xs d n j ((r * 4294967296 + xs.getD j 0) % d) (zs.set j ((r * 4294967296 + xs.getD j 0) / d)) := by
  obtain ⟨h1, h2, h2', h3, h4⟩ := h
  have hr0 : 0 ≤ r := by rw [h4]; exact Int.emod_nonneg _ (by omega)
  have hr1 : r < d := by rw [h4]; exact Int.emod_lt_of_pos _ hd
  have hg := hx.getD (by decide) j
  have hq0 : 0 ≤ (r * 4294967296 + xs.getD j 0) / d := Int.ediv_nonneg (by omega) (Int.le_of_lt hd)
  have hq1 : (r * 4294967296 + xs.getD j 0) / d < 4294967296 := by
    refine Int.ediv_lt_of_lt_mul hd ?_
    have := Int.mul_le_mul_of_nonneg_right (show r + 1 ≤ d by omega) (show (0 : Int) ≤ 4294967296 by decide)
    rw [Int.add_mul] at this
    rw [Int.mul_comm 4294967296 d]
    omega
  have ex : val 4294967296 (xs.drop j) = xs.getD j 0 + 4294967296 * val 4294967296 (xs.drop (j + 1)) := val_drop _ _ _
  have hD := Int.mul_ediv_add_emod (val 4294967296 (xs.drop (j + 1))) d
  have hD2 := Int.mul_ediv_add_emod (r * 4294967296 + xs.getD j 0) d
  have hm0 := Int.emod_nonneg (r * 4294967296 + xs.getD j 0) (show d ≠ 0 by omega)
  have hm1 := Int.emod_lt_of_pos (r * 4294967296 + xs.getD j 0) hd
  rw [← h4] at hD
  have es : (zs.set j ((r * 4294967296 + xs.getD j 0) / d)).drop j = ((r * 4294967296 + xs.getD j 0) / d) :: zs.drop (j + 1) := by
    rw [List.drop_eq_getElem_cons (by simp; omega)]
    simp
    rw [List.drop_set_of_lt (by omega)]
  generalize hQ : val 4294967296 (xs.drop (j + 1)) / d = Q at *
  generalize hH : val 4294967296 (xs.drop (j + 1)) = H at *
  generalize hy : xs.getD j 0 = y at *
  generalize hq : (r * 4294967296 + y) / d = q at *
  generalize hm : (r * 4294967296 + y) % d = m at *
  have eV : y + 4294967296 * H = m + d * (q + 4294967296 * Q) := by
    have : 4294967296 * H = d * (4294967296 * Q) + r * 4294967296 := by
      rw [← hD, Int.mul_add, Int.mul_left_comm, Int.mul_comm 4294967296 r]
    rw [Int.mul_add]; omega
  refine ⟨hr0, hr1, hq0, hq1, by simpa using h1, ?_, rng_set h2' j hq0 hq1, ?_, ?_⟩
  · rw [es]; intro z hz
    rcases List.mem_cons.1 hz with rfl | hz
    · exact ⟨hq0, hq1⟩
    · exact h2 z hz
  · rw [es, ex, eV, Int.add_mul_ediv_left _ _ (by omega), Int.ediv_eq_zero_of_lt hm0 hm1]
    simp [val, h3]
  · rw [ex, eV, Int.add_mul_emod_self_left, Int.emod_eq_of_lt hm0 hm1]
theorem or64b {x y : Int} (hx0 : 0 ≤ x) (hx1 : x < 4294967296) (hy0 : 0 ≤ y) (hy1 : y < 4294967296) : bits .or .u64 (y * 4294967296) x = y * 4294967296 + x := by
  rw [u64_or _ _ (by omega) (by omega) hx0 (by omega)]
  have e1 : (y * 4294967296).toNat = y.toNat * 2 ^ 32 := by rw [show (4294967296 : Int) = ((2 ^ 32 : Nat) : Int) by decide]; omega
  rw [e1, or_add (by omega)]
  omega
/-- what magDiv hands back -/
def RetMM (u v : Int) (w : World) (e : Ending) (w' : World) : Prop := ∃ A n c A' n' c', e = .returned (.tuple #[.slice A n c, .slice A' n' c']) ∧ MagP w' A n c u ∧ MagP w' A' n' c' v ∧ Below w.heap.size w w'
set_option maxRecDepth 200000 in
set_option maxHeartbeats 4000000 in
theorem m_Div1 (A A' : Option Addr) (n c c' : Nat) (u d : Int) (w : World) (hX : MagP w A n c u) (hY : MagP w A' 1 c' d) (hl : n ≤ 1000000) (hle : d ≤ u) :
    Calls Try.prog 97 #[.slice A n c, .slice A' 1 c'] w (RetMM (u / d) (u % d) w) := by
  obtain ⟨xs, hX⟩ := hX
  obtain ⟨ys, hY⟩ := hY
  obtain ⟨y, rfl⟩ : ∃ y, ys = [y] := by
    have := hY.len
    match ys, this with
    | [y], _ => exact ⟨y, rfl⟩
  have hnI : (n : Int) ≤ 1000000 := by omega
  have HX := Hd.mk hX
  have HY := Hd.mk hY
  have hdy : d = y := by rw [hY.eq]; simp [val]
  have hy1 : 0 < y ∧ y < 4294967296 := by
    have h1 := hY.can.1 y (by simp)
    have h2 := hY.can.pos (by decide) (by simp)
    simp [val] at h2
    omega
  have HCM := Hd.mk (fun (w' : World) (hb : Below w.heap.size w w') => m_Cmp A A' n 1 c c' xs [y] w' hX.len hY.len (hX.reads.below hb) (hY.reads.below hb) hX.can hY.can hl (by decide))
  have hcm : cmpI (val 4294967296 xs) (val 4294967296 [y]) = 0 ∨ cmpI (val 4294967296 xs) (val 4294967296 [y]) = 1 := by
    rw [← hX.eq, ← hY.eq]
    unfold cmpI
    split
    · omega
    · split <;> simp
  have hx0 : xs ≠ [] := by
    rintro rfl
    have := hX.eq
    simp [val] at this
    omega
  have hn1 : 1 ≤ n := by have := hX.len; cases xs with | nil => exact absurd rfl hx0 | cons a b => simp at this; omega
  obtain ⟨ad, hA, hcy⟩ := hY.reads.at_ (k := 0) (by simp)
  subst hA
  have HCY := Hd.mk (show w.cell? (ad.add 0) = some (.int .u32 y) by simpa using hcy)
  have HL : Hd (n ≤ LIM) := ⟨by unfold LIM; omega⟩
  have HLX := Hd.mk hX.len
  have HG := Hd.mk hX.can.1
  have HE := Hd.mk (And.intro hX.eq hdy)
  have hy0 : 0 < y := hy1.1
  have hy2 : y < 4294967296 := hy1.2
  have hyn : ¬ y = 0 := by omega
  generalize cmpI (val 4294967296 xs) (val 4294967296 [y]) = q at *
  have hq9 : ¬ q < 0 := by omega
  have hnI1 : 1 ≤ (n : Int) := by omega
  clear hX hY hdy hy1 hcm hx0 hcy hle hl hn1
  go_enter Try.func97, Try.ntmps97
  go_wp2_with (first | (go_at_call 100; (with_reducible refine (HCM.out _ (by (repeat (first | exact Below.refl _ _ | assumption | refine Below.drew ?_ | refine bdn ?_ | refine ba _ ?_ | refine bs0 _ _ ?_ ?_ | refine bs1 _ _ _ ?_ ?_ | refine bs2 _ _ _ _ ?_ ?_ | refine bs3 _ _ _ _ _ ?_ ?_ | refine bt3 (by assumption) ?_)))).mono ?_); rintro e w' ⟨rfl, nd, rfl⟩) | ((with_reducible refine wpList_make32 _ rfl (.tmp 33) (.tmp 33) rfl n _ rfl rfl (by first | omega | rfl) HL.out ?_); intro w1 hr1 hb1; have HR1 : Hd (Row32 w1 w.heap.size (List.replicate n 0)) := ⟨hr1⟩; have HB1 : Hd (Below w.heap.size w w1) := ⟨bt3 hb1 (by (repeat (first | exact Below.refl _ _ | assumption | refine Below.drew ?_ | refine bdn ?_ | refine ba _ ?_ | refine bs0 _ _ ?_ ?_ | refine bs1 _ _ _ ?_ ?_ | refine bs2 _ _ _ _ ?_ ?_ | refine bs3 _ _ _ _ _ ?_ ?_ | refine bt3 (by assumption) ?_)))⟩; clear hr1 hb1))
  go_loopw [7, 8] (fun rv iv wr => ∃ (j : Nat) (r i : Int) (zs : List Int), rv = .int .u64 r ∧ iv = .int .i64 i ∧ i = (j : Int) - 1 ∧ (j : Int) ≤ n ∧ Hd (DivR xs y n j r zs) ∧ Hd (Row32 wr w.heap.size zs) ∧ Hd (Below w.heap.size w wr))
    (fun _ iv _ => (intOf iv + 1).toNat)
  case atStart => exact ⟨n, 0, _, List.replicate n 0, rfl, rfl, rfl, Int.le_refl _, ⟨DivR.start xs y n HLX.out⟩, HR1, HB1⟩
  case round =>
    obtain ⟨j, r, i, zs, rfl, rfl, hi, hj, HP, HR, HB⟩ := hrel
    by_cases h1 : 0 < j
    · obtain ⟨k, rfl⟩ : ∃ k, j = k + 1 := ⟨j - 1, by omega⟩
      obtain rfl : i = (k : Int) := by omega
      clear hi
      obtain ⟨adx, hA, hcx⟩ := HX.out.reads.at_ (k := k) (by have := HLX.out; omega)
      subst hA
      have hg := HG.out.getD (by decide) k
      replace hcx := (HB.out.cell (World.block_lt_of_cell? w _ hcx)).trans hcx
      have hcy := (HB.out.cell (World.block_lt_of_cell? w _ HCY.out)).trans HCY.out
      have hcy' : wr.cell? ad = some (.int .u32 y) := by simpa [Addr.add] using hcy
      have f0 : wr.frozen? ⟨w.heap.size, k, none⟩ = false := Blk.frozen HR.out _
      have d0 := Row32.cell HR.out (i := k) (by have := HP.out.1; omega)
      have HN := Hd.mk (HP.out.next hy0 hy2 HG.out HLX.out (by omega))
      generalize hex : xs.getD k 0 = x at *
      generalize hez : zs.getD k 0 = z at *
      clear hex hez
      obtain ⟨hr0, hr1, hq0, hq1, HNX⟩ := HN.out
      replace HNX := Hd.mk HNX
      clear HN
      have hm0 := Int.emod_nonneg (r * 4294967296 + x) (show y ≠ 0 by omega)
      have hm1 := Int.emod_lt_of_pos (r * 4294967296 + x) hy0
      have o1 : bits .or .u64 (r * 4294967296) x = r * 4294967296 + x := or64b hg.1 hg.2 hr0 (by omega)
      have w1' : IntKind.u64.wrap (r * 4294967296) = r * 4294967296 := by rw [IntKind.wrap_u64]; omega
      have w2 : IntKind.u64.wrap x = x := by rw [IntKind.wrap_u64]; omega
      have w3 : IntKind.u64.wrap y = y := by rw [IntKind.wrap_u64]; omega
      have t1 : (r * 4294967296 + x).tdiv y = (r * 4294967296 + x) / y := Int.tdiv_eq_ediv_of_nonneg (by omega)
      have t2 : (r * 4294967296 + x).tmod y = (r * 4294967296 + x) % y := Int.tmod_eq_emod_of_nonneg (by omega)
      have HSET := Hd.mk (HR.out.set k ((r * 4294967296 + x) / y))
      generalize hQ : (r * 4294967296 + x) / y = Q at *
      generalize hM : (r * 4294967296 + x) % y = M at *
      have w4 : IntKind.u64.wrap Q = Q := by rw [IntKind.wrap_u64]; omega
      have w5 : IntKind.u32.wrap Q = Q := by rw [IntKind.wrap_u32]; omega
      have w6 : IntKind.u64.wrap M = M := by rw [IntKind.wrap_u64]; omega
      clear hQ hM
      have hcy2 := ((HB.out.setCell (p := ⟨w.heap.size, k, none⟩) (Nat.le_refl _) (.int .u32 Q)).cell (World.block_lt_of_cell? w _ HCY.out)).trans HCY.out
      have hcy3 : (wr.setCell ⟨w.heap.size, k, none⟩ (.int .u32 Q)).cell? ad = some (.int .u32 y) := by simpa [Addr.add] using hcy2
      go_wp2_with fail
      go_roundw
      case rel => exact ⟨k, M, (k : Int) - 1, _, rfl, by go_num, by omega, by omega, HNX, HSET, ⟨HB.out.setCell (Nat.le_refl _) _⟩⟩
      case measure => (simp [intOf]; try omega)
    · obtain rfl : j = 0 := by omega
      have hi2 : i < 0 := by omega
      clear hi
      have HZ : Hd (zs.length = n ∧ Rng 4294967296 zs ∧ val 4294967296 zs = u / d ∧ r = u % d ∧ 0 ≤ r ∧ r < 4294967296) := ⟨by
        obtain ⟨p1, p2, p3, p4, p5⟩ := HP.out
        simp only [List.drop_zero] at p2 p4 p5
        have e1 := HE.out.1
        have e2 := HE.out.2
        subst e1 e2
        have h0 := Int.emod_nonneg (val 4294967296 xs) (show d ≠ 0 by omega)
        have h1 := Int.emod_lt_of_pos (val 4294967296 xs) hy0
        exact ⟨p1, p3, p4, p5, by omega, by omega⟩⟩
      have HK1 := Hd.mk (m_Trim (some ⟨w.heap.size, 0, none⟩) n n zs wr HZ.out.1.symm HL.out (Nat.le_refl _) HR.out.reads HZ.out.2.1)
      have hr5 : IntKind.u32.wrap r = r := by rw [IntKind.wrap_u32]; have := HZ.out.2.2.2.2; omega
      have HRR : Hd (Row32 (wr.alloc (Obj.cells #[.int .u32 r] 124)) wr.heap.size [r]) := ⟨Blk.new _ _ _⟩
      have HK2 := Hd.mk (m_Trim (some ⟨wr.heap.size, 0, none⟩) 1 1 [r] (wr.alloc (Obj.cells #[.int .u32 r] 124)) rfl (by unfold LIM; omega) (Nat.le_refl _) HRR.out.reads (by intro y hy; simp at hy; subst hy; exact HZ.out.2.2.2.2))
      go_wp2_with (first | (go_at_call 130; (with_reducible refine (HK1.out).mono ?_); rintro e w' ⟨⟨i1, rfl, hj, hj1, hj2⟩, rfl⟩; have HJ : Hd (i1 ≤ n ∧ Canon 4294967296 (zs.take i1) ∧ val 4294967296 (zs.take i1) = val 4294967296 zs) := ⟨⟨hj, hj1, hj2⟩⟩; clear hj hj1 hj2) | (go_at_call 130; (with_reducible refine (HK2.out).mono ?_); rintro e w' ⟨⟨i2, rfl, hj, hj1, hj2⟩, rfl⟩; have HJ2 : Hd (i2 ≤ 1 ∧ Canon 4294967296 ([r].take i2) ∧ val 4294967296 ([r].take i2) = val 4294967296 [r]) := ⟨⟨hj, hj1, hj2⟩⟩; clear hj hj1 hj2))
      refine bodyPost_ret (v := .tuple #[.slice (some ⟨w.heap.size, 0, none⟩) i1 n, .slice (some ⟨wr.heap.size, 0, none⟩) i2 1]) (by simp (maxDischargeDepth := 7) [results, Try.results97, go_sem]) rfl ?_
      refine ⟨_, _, _, _, _, _, rfl, (magD_row HZ.out.1 HJ.out.1 HR.out HJ.out.2.1 (HJ.out.2.2.trans HZ.out.2.2.1)).below (ba _ (Below.refl _ _)), magD_row rfl HJ2.out.1 HRR.out HJ2.out.2.1 (HJ2.out.2.2.trans ?_), ba _ HB.out⟩
      rw [← HZ.out.2.2.2.1]; simp [val]
end Go.Proofs.Ytlaaielopcphiaa
