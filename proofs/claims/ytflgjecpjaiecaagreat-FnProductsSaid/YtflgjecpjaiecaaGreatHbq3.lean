/- Hb: P22 D1 D2 D3 D4, merged. -/
import Derived.Test.YtflgjecpjaiecaaGreatGeq3
import Derived.Test.YtflgjecpjaiecaaGreatGbq3
import Derived.Test.YtflgjecpjaiecaaGreatGiq3
/- Contracts: division of the program's magnitudes by one digit. -/
set_option linter.unusedVariables false
set_option linter.unusedSimpArgs false
namespace Go.Proofs.YtflgjecpjaiecaaGreat
open Go.RowKit Num
/-- short division, the digits above j done -/
def DivR (xs : List Int) (d : Int) (n j : Nat) (r : Int) (zs : List Int) : Prop :=
  zs.length = n ∧ Rng 4294967296 (zs.drop j) ∧ Rng 4294967296 zs ∧ val 4294967296 (zs.drop j) = val 4294967296 (xs.drop j) / d ∧ r = val 4294967296 (xs.drop j) % d
theorem rng_set {B : Int} {zs : List Int} {x : Int} (h : Rng B zs) (i : Nat) (h0 : 0 ≤ x) (h1 : x < B) : Rng B (zs.set i x) := by
  intro y hy
  rcases List.mem_or_eq_of_mem_set hy with hy | rfl
  · exact h y hy
  · exact ⟨h0, h1⟩
theorem DivR.start (xs : List Int) (d : Int) (n : Nat) (hn : n = xs.length) : DivR xs d n n 0 (List.replicate n 0) := by
  have e1 : (List.replicate n (0 : Int)).drop n = [] := List.drop_eq_nil_of_le (by simp)
  have e2 : xs.drop n = [] := List.drop_eq_nil_of_le (by omega)
  refine ⟨by simp, by rw [e1]; exact Rng.nil _, fun y hy => ?_, by rw [e1, e2]; simp [val], by rw [e2]; simp [val]⟩
  have := List.eq_of_mem_replicate hy
  subst this; exact ⟨by decide, by decide⟩
theorem DivR.next {xs zs : List Int} {d r : Int} {n j : Nat} (hd : 0 < d) (hd1 : d < 4294967296) (hx : Rng 4294967296 xs) (hn : n = xs.length) (h : DivR xs d n (j + 1) r zs) (hj : j < n) :
    0 ≤ r ∧ r < d ∧ 0 ≤ (r * 4294967296 + xs.getD j 0) / d ∧ (r * 4294967296 + xs.getD j 0) / d < 4294967296 ∧ DivR xs d n j ((r * 4294967296 + xs.getD j 0) % d) (zs.set j ((r * 4294967296 + xs.getD j 0) / d)) := by
  obtain ⟨h1, h2, h2', h3, h4⟩ := h
  have hr0 : 0 ≤ r := by rw [h4]; exact Int.emod_nonneg _ (by omega)
  have hr1 : r < d := by rw [h4]; exact Int.emod_lt_of_pos _ hd
  have hg := hx.getD (by decide) j
  have hq0 : 0 ≤ (r * 4294967296 + xs.getD j 0) / d := Int.ediv_nonneg (by omega) (Int.le_of_lt hd)
  have hq1 : (r * 4294967296 + xs.getD j 0) / d < 4294967296 := by
    refine Int.ediv_lt_of_lt_mul hd ?_
    have := Int.mul_le_mul_of_nonneg_right (show r + 1 ≤ d by omega) (show (0 : Int) ≤ 4294967296 by decide)
    rw [Int.add_mul] at this
    rw [Int.mul_comm 4294967296 d]
    omega
  have ex : val 4294967296 (xs.drop j) = xs.getD j 0 + 4294967296 * val 4294967296 (xs.drop (j + 1)) := val_drop _ _ _
  have hD := Int.mul_ediv_add_emod (val 4294967296 (xs.drop (j + 1))) d
  have hD2 := Int.mul_ediv_add_emod (r * 4294967296 + xs.getD j 0) d
  have hm0 := Int.emod_nonneg (r * 4294967296 + xs.getD j 0) (show d ≠ 0 by omega)
  have hm1 := Int.emod_lt_of_pos (r * 4294967296 + xs.getD j 0) hd
  rw [← h4] at hD
  have es : (zs.set j ((r * 4294967296 + xs.getD j 0) / d)).drop j = ((r * 4294967296 + xs.getD j 0) / d) :: zs.drop (j + 1) := by
    rw [List.drop_eq_getElem_cons (by simp; omega)]
    simp
    rw [List.drop_set_of_lt (by omega)]
  generalize hQ : val 4294967296 (xs.drop (j + 1)) / d = Q at *
  generalize hH : val 4294967296 (xs.drop (j + 1)) = H at *
  generalize hy : xs.getD j 0 = y at *
  generalize hq : (r * 4294967296 + y) / d = q at *
  generalize hm : (r * 4294967296 + y) % d = m at *
  have eV : y + 4294967296 * H = m + d * (q + 4294967296 * Q) := by
    have : 4294967296 * H = d * (4294967296 * Q) + r * 4294967296 := by
      rw [← hD, Int.mul_add, Int.mul_left_comm, Int.mul_comm 4294967296 r]
    rw [Int.mul_add]; omega
  refine ⟨hr0, hr1, hq0, hq1, by simpa using h1, ?_, rng_set h2' j hq0 hq1, ?_, ?_⟩
  · rw [es]; intro z hz
    rcases List.mem_cons.1 hz with rfl | hz
    · exact ⟨hq0, hq1⟩
    · exact h2 z hz
  · rw [es, ex, eV, Int.add_mul_ediv_left _ _ (by omega), Int.ediv_eq_zero_of_lt hm0 hm1]
    simp [val, h3]
  · rw [ex, eV, Int.add_mul_emod_self_left, Int.emod_eq_of_lt hm0 hm1]
theorem or64b {x y : Int} (hx0 : 0 ≤ x) (hx1 : x < 4294967296) (hy0 : 0 ≤ y) (hy1 : y < 4294967296) : bits .or .u64 (y * 4294967296) x = y * 4294967296 + x := by
  rw [u64_or _ _ (by omega) (by omega) hx0 (by omega)]
  have e1 : (y * 4294967296).toNat = y.toNat * 2 ^ 32 := by rw [show (4294967296 : Int) = ((2 ^ 32 : Nat) : Int) by decide]; omega
  rw [e1, or_add (by omega)]
  omega
/-- what magDiv hands back -/
def RetMM (u v : Int) (w : World) (e : Ending) (w' : World) : Prop := ∃ A n c A' n' c', e = .returned (.tuple #[.slice A n c, .slice A' n' c']) ∧ MagP w' A n c u ∧ MagP w' A' n' c' v ∧ Below w.heap.size w w'
set_option maxRecDepth 200000 in
set_option maxHeartbeats 4000000 in
theorem m_Div1 (A A' : Option Addr) (n c c' : Nat) (u d : Int) (w : World) (hX : MagP w A n c u) (hY : MagP w A' 1 c' d) (hl : n ≤ 1000000) (hle : d ≤ u) :
    Calls Tryz.prog 266 #[.slice A n c, .slice A' 1 c'] w (RetMM (u / d) (u % d) w) := by
  obtain ⟨xs, hX⟩ := hX
  obtain ⟨ys, hY⟩ := hY
  obtain ⟨y, rfl⟩ : ∃ y, ys = [y] := by
    have := hY.len
    match ys, this with
    | [y], _ => exact ⟨y, rfl⟩
  have hnI : (n : Int) ≤ 1000000 := by omega
  have HX := Hd.mk hX
  have HY := Hd.mk hY
  have hdy : d = y := by rw [hY.eq]; simp [val]
  have hy1 : 0 < y ∧ y < 4294967296 := by
    have h1 := hY.can.1 y (by simp)
    have h2 := hY.can.pos (by decide) (by simp)
    simp [val] at h2
    omega
  have HCM := Hd.mk (fun (w' : World) (hb : Below w.heap.size w w') => m_Cmp A A' n 1 c c' xs [y] w' hX.len hY.len (hX.reads.below hb) (hY.reads.below hb) hX.can hY.can hl (by decide))
  have hcm : cmpI (val 4294967296 xs) (val 4294967296 [y]) = 0 ∨ cmpI (val 4294967296 xs) (val 4294967296 [y]) = 1 := by
    rw [← hX.eq, ← hY.eq]
    unfold cmpI
    split
    · omega
    · split <;> simp
  have hx0 : xs ≠ [] := by
    rintro rfl
    have := hX.eq
    simp [val] at this
    omega
  have hn1 : 1 ≤ n := by have := hX.len; cases xs with | nil => exact absurd rfl hx0 | cons a b => simp at this; omega
  obtain ⟨ad, hA, hcy⟩ := hY.reads.at_ (k := 0) (by simp)
  subst hA
  have HCY := Hd.mk (show w.cell? (ad.add 0) = some (.int .u32 y) by simpa using hcy)
  have HL : Hd (n ≤ LIM) := ⟨by unfold LIM; omega⟩
  have HLX := Hd.mk hX.len
  have HG := Hd.mk hX.can.1
  have HE := Hd.mk (And.intro hX.eq hdy)
  have hy0 : 0 < y := hy1.1
  have hy2 : y < 4294967296 := hy1.2
  have hyn : ¬ y = 0 := by omega
  generalize cmpI (val 4294967296 xs) (val 4294967296 [y]) = q at *
  have hq9 : ¬ q < 0 := by omega
  have hnI1 : 1 ≤ (n : Int) := by omega
  clear hX hY hdy hy1 hcm hx0 hcy hle hl hn1
  go_enter Tryz.func266, Tryz.ntmps266
  go_wp2_with (first | (go_at_call 249; (with_reducible refine (HCM.out _ (by (repeat (first | exact Below.refl _ _ | assumption | refine Below.drew ?_ | refine bdn ?_ | refine ba _ ?_ | refine bs0 _ _ ?_ ?_ | refine bs1 _ _ _ ?_ ?_ | refine bs2 _ _ _ _ ?_ ?_ | refine bs3 _ _ _ _ _ ?_ ?_ | refine bt3 (by assumption) ?_)))).mono ?_); rintro e w' ⟨rfl, nd, rfl⟩) | ((with_reducible refine wpList_make32 _ rfl (.tmp 33) (.tmp 33) rfl n _ rfl rfl (by first | omega | rfl) HL.out ?_); intro w1 hr1 hb1; have HR1 : Hd (Row32 w1 w.heap.size (List.replicate n 0)) := ⟨hr1⟩; have HB1 : Hd (Below w.heap.size w w1) := ⟨bt3 hb1 (by (repeat (first | exact Below.refl _ _ | assumption | refine Below.drew ?_ | refine bdn ?_ | refine ba _ ?_ | refine bs0 _ _ ?_ ?_ | refine bs1 _ _ _ ?_ ?_ | refine bs2 _ _ _ _ ?_ ?_ | refine bs3 _ _ _ _ _ ?_ ?_ | refine bt3 (by assumption) ?_)))⟩; clear hr1 hb1))
  go_loopw [7, 8] (fun rv iv wr => ∃ (j : Nat) (r i : Int) (zs : List Int), rv = .int .u64 r ∧ iv = .int .i64 i ∧ i = (j : Int) - 1 ∧ (j : Int) ≤ n ∧ Hd (DivR xs y n j r zs) ∧ Hd (Row32 wr w.heap.size zs) ∧ Hd (Below w.heap.size w wr))
    (fun _ iv _ => (intOf iv + 1).toNat)
  case atStart => exact ⟨n, 0, _, List.replicate n 0, rfl, rfl, rfl, Int.le_refl _, ⟨DivR.start xs y n HLX.out⟩, HR1, HB1⟩
  case round =>
    obtain ⟨j, r, i, zs, rfl, rfl, hi, hj, HP, HR, HB⟩ := hrel
    by_cases h1 : 0 < j
    · obtain ⟨k, rfl⟩ : ∃ k, j = k + 1 := ⟨j - 1, by omega⟩
      obtain rfl : i = (k : Int) := by omega
      clear hi
      obtain ⟨adx, hA, hcx⟩ := HX.out.reads.at_ (k := k) (by have := HLX.out; omega)
      subst hA
      have hg := HG.out.getD (by decide) k
      replace hcx := (HB.out.cell (World.block_lt_of_cell? w _ hcx)).trans hcx
      have hcy := (HB.out.cell (World.block_lt_of_cell? w _ HCY.out)).trans HCY.out
      have hcy' : wr.cell? ad = some (.int .u32 y) := by simpa [Addr.add] using hcy
      have f0 : wr.frozen? ⟨w.heap.size, k, none⟩ = false := Blk.frozen HR.out _
      have d0 := Row32.cell HR.out (i := k) (by have := HP.out.1; omega)
      have HN := Hd.mk (HP.out.next hy0 hy2 HG.out HLX.out (by omega))
      generalize hex : xs.getD k 0 = x at *
      generalize hez : zs.getD k 0 = z at *
      clear hex hez
      obtain ⟨hr0, hr1, hq0, hq1, HNX⟩ := HN.out
      replace HNX := Hd.mk HNX
      clear HN
      have hm0 := Int.emod_nonneg (r * 4294967296 + x) (show y ≠ 0 by omega)
      have hm1 := Int.emod_lt_of_pos (r * 4294967296 + x) hy0
      have o1 : bits .or .u64 (r * 4294967296) x = r * 4294967296 + x := or64b hg.1 hg.2 hr0 (by omega)
      have w1' : IntKind.u64.wrap (r * 4294967296) = r * 4294967296 := by rw [IntKind.wrap_u64]; omega
      have w2 : IntKind.u64.wrap x = x := by rw [IntKind.wrap_u64]; omega
      have w3 : IntKind.u64.wrap y = y := by rw [IntKind.wrap_u64]; omega
      have t1 : (r * 4294967296 + x).tdiv y = (r * 4294967296 + x) / y := Int.tdiv_eq_ediv_of_nonneg (by omega)
      have t2 : (r * 4294967296 + x).tmod y = (r * 4294967296 + x) % y := Int.tmod_eq_emod_of_nonneg (by omega)
      have HSET := Hd.mk (HR.out.set k ((r * 4294967296 + x) / y))
      generalize hQ : (r * 4294967296 + x) / y = Q at *
      generalize hM : (r * 4294967296 + x) % y = M at *
      have w4 : IntKind.u64.wrap Q = Q := by rw [IntKind.wrap_u64]; omega
      have w5 : IntKind.u32.wrap Q = Q := by rw [IntKind.wrap_u32]; omega
      have w6 : IntKind.u64.wrap M = M := by rw [IntKind.wrap_u64]; omega
      clear hQ hM
      have hcy2 := ((HB.out.setCell (p := ⟨w.heap.size, k, none⟩) (Nat.le_refl _) (.int .u32 Q)).cell (World.block_lt_of_cell? w _ HCY.out)).trans HCY.out
      have hcy3 : (wr.setCell ⟨w.heap.size, k, none⟩ (.int .u32 Q)).cell? ad = some (.int .u32 y) := by simpa [Addr.add] using hcy2
      go_wp2_with fail
      go_roundw
      case rel => exact ⟨k, M, (k : Int) - 1, _, rfl, by go_num, by omega, by omega, HNX, HSET, ⟨HB.out.setCell (Nat.le_refl _) _⟩⟩
      case measure => (simp [intOf]; try omega)
    · obtain rfl : j = 0 := by omega
      have hi2 : i < 0 := by omega
      clear hi
      have HZ : Hd (zs.length = n ∧ Rng 4294967296 zs ∧ val 4294967296 zs = u / d ∧ r = u % d ∧ 0 ≤ r ∧ r < 4294967296) := ⟨by
        obtain ⟨p1, p2, p3, p4, p5⟩ := HP.out
        simp only [List.drop_zero] at p2 p4 p5
        have e1 := HE.out.1
        have e2 := HE.out.2
        subst e1 e2
        have h0 := Int.emod_nonneg (val 4294967296 xs) (show d ≠ 0 by omega)
        have h1 := Int.emod_lt_of_pos (val 4294967296 xs) hy0
        exact ⟨p1, p3, p4, p5, by omega, by omega⟩⟩
      have HK1 := Hd.mk (m_Trim (some ⟨w.heap.size, 0, none⟩) n n zs wr HZ.out.1.symm HL.out (Nat.le_refl _) HR.out.reads HZ.out.2.1)
      have hr5 : IntKind.u32.wrap r = r := by rw [IntKind.wrap_u32]; have := HZ.out.2.2.2.2; omega
      have HRR : Hd (Row32 (wr.alloc (Obj.cells #[.int .u32 r] 171)) wr.heap.size [r]) := ⟨Blk.new _ _ _⟩
      have HK2 := Hd.mk (m_Trim (some ⟨wr.heap.size, 0, none⟩) 1 1 [r] (wr.alloc (Obj.cells #[.int .u32 r] 171)) rfl (by unfold LIM; omega) (Nat.le_refl _) HRR.out.reads (by intro y hy; simp at hy; subst hy; exact HZ.out.2.2.2.2))
      go_wp2_with (first | (go_at_call 271; (with_reducible refine (HK1.out).mono ?_); rintro e w' ⟨⟨i1, rfl, hj, hj1, hj2⟩, rfl⟩; have HJ : Hd (i1 ≤ n ∧ Canon 4294967296 (zs.take i1) ∧ val 4294967296 (zs.take i1) = val 4294967296 zs) := ⟨⟨hj, hj1, hj2⟩⟩; clear hj hj1 hj2) | (go_at_call 271; (with_reducible refine (HK2.out).mono ?_); rintro e w' ⟨⟨i2, rfl, hj, hj1, hj2⟩, rfl⟩; have HJ2 : Hd (i2 ≤ 1 ∧ Canon 4294967296 ([r].take i2) ∧ val 4294967296 ([r].take i2) = val 4294967296 [r]) := ⟨⟨hj, hj1, hj2⟩⟩; clear hj hj1 hj2))
      refine bodyPost_ret (v := .tuple #[.slice (some ⟨w.heap.size, 0, none⟩) i1 n, .slice (some ⟨wr.heap.size, 0, none⟩) i2 1]) (by simp (maxDischargeDepth := 7) [results, Tryz.results266, go_sem]) rfl ?_
      refine ⟨_, _, _, _, _, _, rfl, (magD_row HZ.out.1 HJ.out.1 HR.out HJ.out.2.1 (HJ.out.2.2.trans HZ.out.2.2.1)).below (ba _ (Below.refl _ _)), magD_row rfl HJ2.out.1 HRR.out HJ2.out.2.1 (HJ2.out.2.2.trans ?_), ba _ HB.out⟩
      rw [← HZ.out.2.2.2.1]; simp [val]
end Go.Proofs.YtflgjecpjaiecaaGreat
/- Plain facts: a rounded quotient is settled by a cut quotient with a mark for what was cut off. -/
set_option linter.unusedVariables false
set_option linter.unusedSimpArgs false
namespace Go.Proofs.YtflgjecpjaiecaaGreat.Num
theorem bln_cell {K t M : Nat} (hK : 1 ≤ K) (h1 : K * 2 ^ t ≤ M) (h2 : M < (K + 1) * 2 ^ t) : bln M = bln K + t := by
  have h0 := bln_spec (show K ≠ 0 by omega)
  have e : bln K + t = (bln K - 1 + t) + 1 := by omega
  rw [e]
  refine bln_eq ?_ ?_
  · rw [Nat.pow_add]
    exact Nat.le_trans (Nat.mul_le_mul_right _ h0.1) h1
  · rw [show bln K - 1 + t + 1 = bln K + t by omega, Nat.pow_add]
    exact Nat.lt_of_lt_of_le h2 (Nat.mul_le_mul_right _ h0.2.1)
theorem cell_div {K t M : Nat} (h1 : K * 2 ^ t ≤ M) (h2 : M < (K + 1) * 2 ^ t) : M / 2 ^ t = K := by
  have hp := Nat.two_pow_pos t
  refine Nat.le_antisymm ?_ ((Nat.le_div_iff_mul_le hp).2 h1)
  exact Nat.lt_succ_iff.1 ((Nat.div_lt_iff_lt_mul hp).2 h2)
/-- the parts of a number in an open cell -/
theorem cell_parts {K t M q : Nat} (h1 : K * 2 ^ t < M) (h2 : M < (K + 1) * 2 ^ t) (hq : t + 1 ≤ q) :
    M / 2 ^ q = K / 2 ^ (q - t) ∧ M % 2 ^ q ≠ 0 ∧ 2 ^ q ≠ 2 * (M % 2 ^ q) ∧ (2 ^ q < 2 * (M % 2 ^ q) ↔ 2 ^ (q - t) ≤ 2 * (K % 2 ^ (q - t))) := by
  have hd := cell_div (Nat.le_of_lt h1) h2
  have e : 2 ^ q = 2 ^ t * 2 ^ (q - t) := by rw [← Nat.pow_add]; congr 1; omega
  have e2 : 2 ^ (q - t) = 2 * 2 ^ (q - t - 1) := by rw [← Nat.pow_succ']; congr 1; omega
  have hm : M % 2 ^ q = M % 2 ^ t + 2 ^ t * (K % 2 ^ (q - t)) := by rw [e, Nat.mod_mul, hd]
  have hr : 0 < M % 2 ^ t := by
    have h3 := Nat.div_add_mod M (2 ^ t)
    rw [hd, Nat.mul_comm] at h3
    omega
  have hr2 : M % 2 ^ t < 2 ^ t := Nat.mod_lt _ (Nat.two_pow_pos t)
  refine ⟨by rw [e, ← Nat.div_div_eq_div_mul, hd], by rw [hm]; omega, ?_, ?_⟩
  · rw [hm, e, e2]
    generalize M % 2 ^ t = r at *
    generalize K % (2 * 2 ^ (q - t - 1)) = R at *
    generalize 2 ^ (q - t - 1) = H at *
    generalize 2 ^ t = P at *
    intro h
    rcases Nat.lt_or_ge R H with k | k
    · have := Nat.mul_le_mul_left P (show R + 1 ≤ H from k)
      rw [Nat.mul_add] at this
      rw [Nat.mul_left_comm] at h
      omega
    · have := Nat.mul_le_mul_left P k
      rw [Nat.mul_left_comm] at h
      omega
  · rw [hm, e, e2]
    generalize M % 2 ^ t = r at *
    generalize K % (2 * 2 ^ (q - t - 1)) = R at *
    generalize 2 ^ (q - t - 1) = H at *
    generalize 2 ^ t = P at *
    constructor
    · intro h
      rcases Nat.lt_or_ge R H with k | k
      · have := Nat.mul_le_mul_left P (show R + 1 ≤ H from k)
        rw [Nat.mul_add] at this
        rw [Nat.mul_left_comm] at h
        omega
      · omega
    · intro h
      have := Nat.mul_le_mul_left P (show H ≤ R by omega)
      rw [Nat.mul_left_comm]
      omega
/-- two numbers in one open cell are rounded alike -/
theorem rg_cell {mode : Int} {neg : Bool} {K t M M' : Nat} (hK : 2 ^ 25 ≤ K) (h1 : K * 2 ^ t < M) (h2 : M < (K + 1) * 2 ^ t) (h1' : K * 2 ^ t < M') (h2' : M' < (K + 1) * 2 ^ t) :
    rgN mode neg M = rgN mode neg M' ∧ flF mode neg M = flF mode neg M' := by
  have hK1 : 1 ≤ K := Nat.le_trans (Nat.two_pow_pos 25) hK
  have b1 := bln_cell hK1 (Nat.le_of_lt h1) h2
  have b2 := bln_cell hK1 (Nat.le_of_lt h1') h2'
  have hb := le_bln hK
  have eq : rqN M = rqN M' := by unfold rqN; rw [b1, b2]
  have hq : t + 1 ≤ rqN M := by unfold rqN; omega
  obtain ⟨p1, p2, p3, p4⟩ := cell_parts h1 h2 hq
  obtain ⟨q1, q2, q3, q4⟩ := cell_parts h1' h2' hq
  have et : rtN M = rtN M' := by unfold rtN; rw [← eq, p1, q1]
  have eu : upB mode neg M = upB mode neg M' := by
    unfold upB rrN
    rw [← eq, ← et, if_neg p2, if_neg q2]
    by_cases hm : mode = 0
    · rw [if_pos hm, if_pos hm, decide_eq_false p3, decide_eq_false q3]
      simp only [Bool.false_and, Bool.or_false]
      exact decide_eq_decide.2 (p4.trans q4.symm)
    · rw [if_neg hm, if_neg hm]
  have em : rmN mode neg M = rmN mode neg M' := by unfold rmN; rw [et, eu]
  have eo : ovB mode neg M = ovB mode neg M' := by unfold ovB; rw [em, eq]
  refine ⟨by unfold rgN; rw [eo, em, eq], ?_⟩
  have r1 : rrN M ≠ 0 := p2
  have r2 : rrN M' ≠ 0 := by unfold rrN; rw [← eq]; exact q2
  unfold flF
  rw [eo, if_neg r1, if_neg r2, b1, b2]
/-- a cut quotient with a mark, in a scale -/
def cutM (X Y p c g : Nat) : Nat := (2 ^ c * (X * 2 ^ p / Y) + (if X * 2 ^ p % Y = 0 then 0 else 1)) * 2 ^ (g - c)
theorem cut_le {mode : Int} {neg : Bool} {X Y p p' c c' g g' : Nat} (hY : 0 < Y) (hp : p ≤ p') (hc : 1 ≤ c) (hc' : 1 ≤ c') (hg : c ≤ g) (hg' : c' ≤ g') (hgg : g = g' + (p' - p)) (hF : 2 ^ 25 ≤ X * 2 ^ p / Y) :
    rgN mode neg (cutM X Y p c g) = rgN mode neg (cutM X Y p' c' g') ∧ flF mode neg (cutM X Y p c g) = flF mode neg (cutM X Y p' c' g') := by
  obtain ⟨j, rfl⟩ : ∃ j, p' = p + j := ⟨p' - p, by omega⟩
  obtain rfl : g = g' + j := by omega
  have e0 : X * 2 ^ (p + j) = X * 2 ^ p * 2 ^ j := by rw [Nat.pow_add, Nat.mul_assoc]
  have hD := Nat.div_add_mod (X * 2 ^ p) Y
  have hr := Nat.mod_lt (X * 2 ^ p) hY
  unfold cutM
  rw [e0]
  generalize X * 2 ^ p = Z at *
  generalize hFd : Z / Y = F at *
  generalize hrd : Z % Y = r at *
  have hj := Nat.two_pow_pos j
  have ec : 2 ^ (g' + j) = 2 ^ (g' + j - c) * 2 ^ c := by rw [← Nat.pow_add]; congr 1; omega
  have ec' : 2 ^ g' = 2 ^ (g' - c') * 2 ^ c' := by rw [← Nat.pow_add]; congr 1; omega
  by_cases h0 : r = 0
  · subst h0
    have eZ : Z * 2 ^ j = Y * (F * 2 ^ j) := by rw [← Nat.mul_assoc]; congr 1; omega
    have e1 : Z * 2 ^ j / Y = F * 2 ^ j := by rw [eZ]; exact Nat.mul_div_cancel_left _ hY
    have e2 : Z * 2 ^ j % Y = 0 := by rw [eZ]; exact Nat.mul_mod_right _ _
    rw [e1, e2, if_pos rfl]
    have e3 : (2 ^ c * F + 0) * 2 ^ (g' + j - c) = F * 2 ^ (g' + j) := by rw [ec, Nat.add_zero, Nat.mul_comm (2 ^ c) F, Nat.mul_assoc, Nat.mul_comm (2 ^ c)]
    have e4 : (2 ^ c' * (F * 2 ^ j) + 0) * 2 ^ (g' - c') = F * 2 ^ (g' + j) := by rw [Nat.pow_add 2 g' j, ec', Nat.add_zero, Nat.mul_comm (2 ^ c') (F * 2 ^ j), Nat.mul_assoc, Nat.mul_assoc, Nat.mul_comm (2 ^ c'), Nat.mul_comm (2 ^ j)]
    rw [e3, e4]
    exact ⟨rfl, rfl⟩
  · rw [if_neg h0]
    have f1 : F * 2 ^ j ≤ Z * 2 ^ j / Y := by
      rw [Nat.le_div_iff_mul_le hY, Nat.mul_right_comm]
      exact Nat.mul_le_mul_right _ (by rw [Nat.mul_comm]; omega)
    have f2 : Z * 2 ^ j / Y < (F + 1) * 2 ^ j := by
      rw [Nat.div_lt_iff_lt_mul hY, Nat.mul_right_comm]
      exact Nat.mul_lt_mul_of_pos_right (by rw [Nat.add_mul, Nat.one_mul, Nat.mul_comm]; omega) hj
    have f3 : Z * 2 ^ j / Y = F * 2 ^ j → Z * 2 ^ j % Y ≠ 0 := by
      intro h1 h2
      have := Nat.div_add_mod (Z * 2 ^ j) Y
      rw [h1, h2, Nat.add_zero, ← Nat.mul_assoc] at this
      have := Nat.eq_of_mul_eq_mul_right hj this
      omega
    generalize hG : Z * 2 ^ j / Y = G at *
    have hs : (if Z * 2 ^ j % Y = 0 then 0 else 1) ≤ 1 := by split <;> omega
    have f4 : 2 ^ c' * (F * 2 ^ j) < 2 ^ c' * G + (if Z * 2 ^ j % Y = 0 then 0 else 1) := by
      rcases Nat.lt_or_eq_of_le f1 with k | k
      · have := Nat.mul_lt_mul_of_pos_left k (Nat.two_pow_pos c'); omega
      · rw [if_neg (f3 k.symm), k]; omega
    have f5 : 2 ^ c' * G + (if Z * 2 ^ j % Y = 0 then 0 else 1) < 2 ^ c' * ((F + 1) * 2 ^ j) := by
      have h2 : 2 ≤ 2 ^ c' := Nat.le_trans (by decide) (Nat.pow_le_pow_right (show 0 < 2 by decide) hc')
      have := Nat.mul_le_mul_left (2 ^ c') (show G + 1 ≤ (F + 1) * 2 ^ j from f2)
      rw [Nat.mul_add] at this
      omega
    generalize (if Z * 2 ^ j % Y = 0 then 0 else 1) = sg at *
    have hpc := Nat.two_pow_pos (g' + j - c)
    have hpc' := Nat.two_pow_pos (g' - c')
    have h2c : 2 ≤ 2 ^ c := Nat.le_trans (by decide) (Nat.pow_le_pow_right (show 0 < 2 by decide) hc)
    refine rg_cell (t := g' + j) hF ?_ ?_ ?_ ?_
    · rw [ec, ← Nat.mul_assoc, Nat.mul_right_comm]
      exact Nat.mul_lt_mul_of_pos_right (by rw [Nat.mul_comm]; omega) hpc
    · rw [ec, ← Nat.mul_assoc, Nat.mul_right_comm]
      exact Nat.mul_lt_mul_of_pos_right (by rw [Nat.add_mul, Nat.mul_comm F]; omega) hpc
    · have e5 : F * 2 ^ (g' + j) = 2 ^ c' * (F * 2 ^ j) * 2 ^ (g' - c') := by rw [Nat.pow_add 2 g' j, ec']; simp [Nat.mul_assoc, Nat.mul_comm, Nat.mul_left_comm]
      rw [e5]
      exact Nat.mul_lt_mul_of_pos_right f4 hpc'
    · have e5 : (F + 1) * 2 ^ (g' + j) = 2 ^ c' * ((F + 1) * 2 ^ j) * 2 ^ (g' - c') := by rw [Nat.pow_add 2 g' j, ec']; simp [Nat.mul_assoc, Nat.mul_comm, Nat.mul_left_comm]
      rw [e5]
      exact Nat.mul_lt_mul_of_pos_right f5 hpc'
/-- two cut quotients of the same numbers are rounded alike -/
theorem cut_eq {mode : Int} {neg : Bool} {X Y p p' c c' g g' : Nat} (hY : 0 < Y) (hc : 1 ≤ c) (hc' : 1 ≤ c') (hg : c ≤ g) (hg' : c' ≤ g') (hgg : g + p = g' + p') (hF : 2 ^ 25 ≤ X * 2 ^ p / Y) (hF' : 2 ^ 25 ≤ X * 2 ^ p' / Y) :
    rgN mode neg (cutM X Y p c g) = rgN mode neg (cutM X Y p' c' g') ∧ flF mode neg (cutM X Y p c g) = flF mode neg (cutM X Y p' c' g') := by
  rcases Nat.le_total p p' with h | h
  · exact cut_le hY h hc hc' hg hg' (by omega) hF
  · have := cut_le (mode := mode) (neg := neg) (c := c') (c' := c) hY h hc' hc hg' hg (by omega) hF'
    exact ⟨this.1.symm, this.2.symm⟩
theorem cut_scale {A B X Y k z : Nat} (hz : X = A * 2 ^ k * 2 ^ z) (hY : Y = B * 2 ^ z) : X / Y = A * 2 ^ k / B ∧ (X % Y = 0 ↔ A * 2 ^ k % B = 0) := by
  subst hz hY
  have hp := Nat.two_pow_pos z
  refine ⟨Nat.mul_div_mul_right _ _ hp, ?_⟩
  rw [Nat.mul_mod_mul_right]
  constructor
  · intro h
    rcases Nat.mul_eq_zero.1 h with h | h
    · exact h
    · omega
  · intro h; rw [h, Nat.zero_mul]
end Go.Proofs.YtflgjecpjaiecaaGreat.Num
/- Contracts: quotient and rest of the program's integers, for a divisor of one digit. -/
set_option linter.unusedVariables false
set_option linter.unusedSimpArgs false
namespace Go.Proofs.YtflgjecpjaiecaaGreat
open Go.RowKit Num
theorem keep3Q {w w1 : World} {x y : Nat} {v0 v1 u0 u1 : Value} (hb : Below w.heap.size w w1) (h0 : w.cell? ⟨x, 0, none⟩ = some v0) (h1 : w.cell? ⟨x, 1, none⟩ = some v1) (k0 : w.cell? ⟨y, 0, none⟩ = some u0) (k1 : w.cell? ⟨y, 1, none⟩ = some u1) :
    w1.cell? ⟨x, 0, none⟩ = some v0 ∧ w1.cell? ⟨x, 1, none⟩ = some v1 ∧ w1.cell? ⟨y, 0, none⟩ = some u0 ∧ w1.cell? ⟨y, 1, none⟩ = some u1 := ⟨cb hb h0, cb hb h1, cb hb k0, cb hb k1⟩
theorem MagP.grown' {w w' : World} {A : Option Addr} {n c z : Nat} {v : Int} (h : MagP w A n c v) (hz : IntB w z) (hg : w.grownBy w' (some z)) : MagP w' A n c v := by
  obtain ⟨xs, h⟩ := h
  obtain ⟨b0, A0, n0, c0, hk⟩ := hz
  have hne : ∀ ad, A = some ad → some ad.block ≠ some z := fun ad e k => by
    obtain ⟨cs, hb⟩ := h.typ ad e
    have : ad.block = z := by simpa using k
    subst this
    exact (hb.ne_ hk (by decide)) rfl
  exact ⟨xs, h.len, h.cap, h.can, h.reads.grown hg hne, fun ad e => by obtain ⟨cs, hb⟩ := h.typ ad e; exact ⟨cs, hb.grown hg (hne ad e)⟩, h.eq⟩
def RetQR (g r : Nat) (u v : Int) (w : World) (e : Ending) (w' : World) : Prop := e = .returned (.tuple #[.pointer (some ⟨g, 0, none⟩), .pointer (some ⟨r, 0, none⟩)]) ∧ Big w' g u ∧ Big w' r v ∧ ∃ w1, w.grownBy w1 (some r) ∧ w1.grownBy w' (some g)
set_option maxRecDepth 20000 in
set_option maxHeartbeats 4000000 in
theorem m_QuoRem (g r x y : Nat) (a b : Int) (w : World) (hz : IntB w g) (hzr : IntB w r) (hX : Big w x a) (hY : Big w y b) (hgr : g ≠ r) (hb0 : 0 < b) (hb1 : b < 4294967296) (hab : b ≤ a) (hbq : Bd (a / b)) (hbr : Bd (a % b)) :
    Calls Tryz.prog 224 #[.pointer (some ⟨g, 0, none⟩), .pointer (some ⟨x, 0, none⟩), .pointer (some ⟨y, 0, none⟩), .pointer (some ⟨r, 0, none⟩)] w (RetQR g r (a / b) (a % b) w) := by
  obtain ⟨neg, A, n, c, c0, c1, hM, hn, ha, hneg, h0⟩ := hX.parts
  obtain ⟨neg', A', n', c', d0, d1, hM', hn', ha', hneg', h0'⟩ := hY.parts
  have e1 : neg = false := by rw [hneg]; exact decide_eq_false (by omega)
  have e2 : neg' = false := by rw [hneg']; exact decide_eq_false (by omega)
  have e3 : ((a.natAbs : Nat) : Int) = a := by omega
  have e4 : ((b.natAbs : Nat) : Int) = b := by omega
  subst e1 e2
  rw [e3] at hM
  rw [e4] at hM'
  have e5 : n' = 1 := by
    obtain ⟨ys, hy⟩ := hM'
    have hl := hy.len
    have hv := hy.eq
    rcases Nat.lt_or_ge 1 n' with k | k
    · exfalso
      have h1 := hy.can.lower (by decide) (show ys ≠ [] by intro h; rw [h] at hl; simp at hl; omega)
      rw [← hv] at h1
      have h2 : (4294967296 : Int) ^ 1 ≤ 4294967296 ^ (ys.length - 1) := pow_le (by decide) (by omega)
      rw [Int.pow_succ, Int.pow_zero] at h2
      omega
    · have : n' ≠ 0 := by intro h; have := h0'.2 (by omega); omega
      omega
  subst e5
  have HD := Hd.mk (fun (w' : World) (hb : Below w.heap.size w w') => m_Div1 A A' n c c' a b w' (hM.below hb) (hM'.below hb) (by omega) hab)
  have HZ := Hd.mk (And.intro hz (And.intro hzr hgr))
  have HB := Hd.mk (And.intro hbq hbr)
  clear hz hzr hX hY hbq hbr hM hM' hn hn' ha ha' hneg hneg' h0 h0' e3 e4 hab hgr
  generalize a / b = u at *
  generalize a % b = v at *
  go_enter Tryz.func224, Tryz.ntmps224
  go_wp2_with fail
  go_region_held3 (fun w' => w'.cell? ⟨x, 0, none⟩ = some (.bool false) ∧ w'.cell? ⟨x, 1, none⟩ = some (.slice A n c) ∧ w'.cell? ⟨y, 0, none⟩ = some (.bool false) ∧ w'.cell? ⟨y, 1, none⟩ = some (.slice A' 1 c')) ((first | (exact keep3Q HB1.out c0 c1 d0 d1) | assumption | exact ⟨by assumption, by assumption, by assumption, by assumption⟩ | (refine ⟨?_, ?_, ?_, ?_⟩ <;> go_simp)))
    (first | (go_at_call 266; (with_reducible refine (HD.out _ (by (repeat (first | exact Below.refl _ _ | assumption | refine Below.drew ?_ | refine bdn ?_ | refine ba _ ?_ | refine bs0 _ _ ?_ ?_ | refine bs1 _ _ _ ?_ ?_ | refine bs2 _ _ _ _ ?_ ?_ | refine bs3 _ _ _ _ _ ?_ ?_ | refine bt3 (by assumption) ?_)))).mono ?_); rintro e w1 ⟨A1, n1, k1, A2, n2, k2, rfl, hM1, hM2, hb⟩; have HM := Hd.mk (And.intro hM1 hM2); have HB1 : Hd (Below w.heap.size w w1) := ⟨bt3 hb (by (repeat (first | exact Below.refl _ _ | assumption | refine Below.drew ?_ | refine bdn ?_ | refine ba _ ?_ | refine bs0 _ _ ?_ ?_ | refine bs1 _ _ _ ?_ ?_ | refine bs2 _ _ _ _ ?_ ?_ | refine bs3 _ _ _ _ _ ?_ ?_ | refine bt3 (by assumption) ?_)))⟩; clear hM1 hM2 hb))
  have b0 := cb HB1.out c0
  have b1 := cb HB1.out d0
  clear c0 c1 d0 d1
  have HR1 := Hd.mk (fun (w' : World) (hb : Below w1.heap.size w1 w') => m_PutM r false A2 n2 k2 v w' ((HZ.out.2.1.below HB1.out).below hb) (HM.out.2.below hb) HB.out.2)
  go_wp2_with fail
  go_quiet (fail)
  go_wp2_with (first | (go_at_call 240; (with_reducible refine (HR1.out _ (by (repeat (first | exact Below.refl _ _ | assumption | refine Below.drew ?_ | refine bdn ?_ | refine ba _ ?_ | refine bs0 _ _ ?_ ?_ | refine bs1 _ _ _ ?_ ?_ | refine bs2 _ _ _ _ ?_ ?_ | refine bs3 _ _ _ _ _ ?_ ?_ | refine bt3 (by assumption) ?_)))).mono ?_); rintro e w2 ⟨rfl, hB, hg⟩; have hg := bgrown (w := w1) (by (repeat (first | exact Below.refl _ _ | assumption | refine Below.drew ?_ | refine bdn ?_ | refine ba _ ?_ | refine bs0 _ _ ?_ ?_ | refine bs1 _ _ _ ?_ ?_ | refine bs2 _ _ _ _ ?_ ?_ | refine bs3 _ _ _ _ _ ?_ ?_ | refine bt3 (by assumption) ?_))) hg; have HR2 := Hd.mk (And.intro hB (And.intro hg (bgrown HB1.out hg))); have HG := Hd.mk (m_PutM g false A1 n1 k1 u w2 ((HZ.out.1.below HB1.out).grown hg HZ.out.2.2) (HM.out.1.grown' (HZ.out.2.1.below HB1.out) hg) HB.out.1); clear hB hg HR1) | (go_at_call 240; (with_reducible refine (HG.out).mono ?_); rintro e w3 ⟨rfl, hB, hg⟩; have HG3 := Hd.mk (And.intro hB hg); clear hB hg))
  refine bodyPost_ret (v := .tuple #[.pointer (some ⟨g, 0, none⟩), .pointer (some ⟨r, 0, none⟩)]) (by simp (maxDischargeDepth := 7) [results, Tryz.results224, go_sem]) rfl ?_
  exact ⟨rfl, HG3.out.1, HR2.out.1.grown' ((HZ.out.1.below HB1.out).grown HR2.out.2.1 HZ.out.2.2) HG3.out.2 (Ne.symm HZ.out.2.2), w2, HR2.out.2.2, HG3.out.2⟩
end Go.Proofs.YtflgjecpjaiecaaGreat
/- Contracts: cut quotients with a mark, in the program. -/
set_option linter.unusedVariables false
set_option linter.unusedSimpArgs false
namespace Go.Proofs.YtflgjecpjaiecaaGreat
open Go.RowKit Num Flt
def RetSt (a e : Int) (w : World) (e' : Ending) (w' : World) : Prop := ∃ g, e' = .returned (.agg #[.pointer (some ⟨g, 0, none⟩), .int .i64 e]) ∧ Big w' g a ∧ Below w.heap.size w w'
set_option maxHeartbeats 4000000 in
theorem n_StickyT (t : Nat) (a e : Int) (w : World) (hX : Big w t a) (he : -100000 ≤ e ∧ e ≤ 100000) (hbd : Bd (a * 2 ^ 2)) :
    Calls Tryz.prog 225 #[.pointer (some ⟨t, 0, none⟩), .bool true, .int .i64 e] w (RetSt (a * 2 ^ 2) (e - 2) w) := by
  have HX := Hd.mk hX
  have HBD := Hd.mk (And.intro hbd trivial)
  have he1 : -100000 ≤ e := he.1
  have he2 : e ≤ 100000 := he.2
  clear hX hbd he
  go_enter Tryz.func225, Tryz.ntmps225
  go_wp2_with (go_at_call 194; (with_reducible refine (m_LshZR (w.heap.size + 1) t a 2 2 _ (by have := IntB.new (w.alloc (Obj.cells #[.pointer none, .int .i64 0] 113)); simpa using this) (HX.out.below (by (repeat (first | exact Below.refl _ _ | assumption | refine Below.drew ?_ | refine bdn ?_ | refine ba _ ?_ | refine bs0 _ _ ?_ ?_ | refine bs1 _ _ _ ?_ ?_ | refine bs2 _ _ _ _ ?_ ?_ | refine bs3 _ _ _ _ _ ?_ ?_ | refine bt3 (by assumption) ?_)))) (by decide) rfl HBD.out.1).mono ?_); rintro e1 w1 ⟨rfl, hB, hg⟩; have HR := Hd.mk (And.intro hB (show Below w.heap.size w w1 from (ba _ (ba _ (Below.refl _ _))).grown hg (le_alloc _ (le_alloc _ (Nat.le_refl _))) (fun i hi => by cases hi; omega))); have HK := Hd.mk (((Blk.new w 113 #[.pointer none, .int .i64 0]).alloc (Obj.cells #[.bool false, .slice none 0 0] 168)).grown hg (by simp)); have r0 : w1.cell? _ = some (.pointer none) := HK.out.cell 0; have r1 : w1.cell? _ = some (.int .i64 0) := HK.out.cell 1; have q0 := HK.out.frozen 0; have q1 := HK.out.frozen 1; clear hB hg)
  refine bodyPost_ret (v := .agg #[.pointer (some ⟨w.heap.size + 1, 0, none⟩), .int .i64 (e - 2)]) (by simp (maxDischargeDepth := 7) [results, Tryz.results225, go_sem, *]) rfl ⟨w.heap.size + 1, rfl, (HR.out.1.setT HK.out (by decide) (by decide) 0 _).setT (HK.out.set_ 0 _) (by decide) (by decide) 1 _, ?_⟩; (have hbb := HR.out.2); (repeat (first | exact Below.refl _ _ | assumption | refine Below.drew ?_ | refine bdn ?_ | refine ba _ ?_ | refine bs0 _ _ ?_ ?_ | refine bs1 _ _ _ ?_ ?_ | refine bs2 _ _ _ _ ?_ ?_ | refine bs3 _ _ _ _ _ ?_ ?_ | refine bt3 (by assumption) ?_))
set_option maxHeartbeats 4000000 in
theorem n_StickyF (t : Nat) (a e : Int) (w : World) (hX : Big w t a) (he : -100000 ≤ e ∧ e ≤ 100000) (hbd : Bd (a * 2 ^ 2)) (hbd' : Bd (a * 2 ^ 2 + 1)) :
    Calls Tryz.prog 225 #[.pointer (some ⟨t, 0, none⟩), .bool false, .int .i64 e] w (RetSt (a * 2 ^ 2 + 1) (e - 2) w) := by
  have HX := Hd.mk hX
  have HBD := Hd.mk (And.intro hbd hbd')
  have he1 : -100000 ≤ e := he.1
  have he2 : e ≤ 100000 := he.2
  clear hX hbd hbd' he
  go_enter Tryz.func225, Tryz.ntmps225
  go_wp2_with (first | (go_at_call 194; (with_reducible refine (m_LshZR (w.heap.size + 1) t a 2 2 _ (by have := IntB.new (w.alloc (Obj.cells #[.pointer none, .int .i64 0] 113)); simpa using this) (HX.out.below (by (repeat (first | exact Below.refl _ _ | assumption | refine Below.drew ?_ | refine bdn ?_ | refine ba _ ?_ | refine bs0 _ _ ?_ ?_ | refine bs1 _ _ _ ?_ ?_ | refine bs2 _ _ _ _ ?_ ?_ | refine bs3 _ _ _ _ _ ?_ ?_ | refine bt3 (by assumption) ?_)))) (by decide) rfl HBD.out.1).mono ?_); rintro e1 w1 ⟨rfl, hB, hg⟩; have HR := Hd.mk (And.intro hB (show Below w.heap.size w w1 from (ba _ (ba _ (Below.refl _ _))).grown hg (le_alloc _ (le_alloc _ (Nat.le_refl _))) (fun i hi => by cases hi; omega))); have HK := Hd.mk (((Blk.new w 113 #[.pointer none, .int .i64 0]).alloc (Obj.cells #[.bool false, .slice none 0 0] 168)).grown hg (by simp)); have r0 : w1.cell? _ = some (.pointer none) := HK.out.cell 0; have r1 : w1.cell? _ = some (.int .i64 0) := HK.out.cell 1; have q0 := HK.out.frozen 0; have q1 := HK.out.frozen 1; clear hB hg) | ((go_at_call 184; (with_reducible refine (m_New 1 _ (by decide) (by decide)).mono ?_); rintro e2 w2 ⟨g2, rfl, hge, hB, hb⟩; have HR0 := Hd.mk HR.out.1; have HB2 := Hd.mk (And.intro hB hge); replace HR := Hd.mk (And.intro (HR.out.1.below (bt3 hb (by (repeat (first | exact Below.refl _ _ | assumption | refine Below.drew ?_ | refine bdn ?_ | refine ba _ ?_ | refine bs0 _ _ ?_ ?_ | refine bs1 _ _ _ ?_ ?_ | refine bs2 _ _ _ _ ?_ ?_ | refine bs3 _ _ _ _ _ ?_ ?_ | refine bt3 (by assumption) ?_))))) (bt3 hb (bt3 (by (repeat (first | exact Below.refl _ _ | assumption | refine Below.drew ?_ | refine bdn ?_ | refine ba _ ?_ | refine bs0 _ _ ?_ ?_ | refine bs1 _ _ _ ?_ ?_ | refine bs2 _ _ _ _ ?_ ?_ | refine bs3 _ _ _ _ _ ?_ ?_ | refine bt3 (by assumption) ?_))) HR.out.2))); replace HK := Hd.mk (HK.out.below (bt3 hb (by (repeat (first | exact Below.refl _ _ | assumption | refine Below.drew ?_ | refine bdn ?_ | refine ba _ ?_ | refine bs0 _ _ ?_ ?_ | refine bs1 _ _ _ ?_ ?_ | refine bs2 _ _ _ _ ?_ ?_ | refine bs3 _ _ _ _ _ ?_ ?_ | refine bt3 (by assumption) ?_)))) HK.out.lt); have HL2 := Hd.mk hb.size; have r0 : w2.cell? _ = some (.pointer none) := HK.out.cell 0; have r1 : w2.cell? _ = some (.int .i64 0) := HK.out.cell 1; have q0 := HK.out.frozen 0; have q1 := HK.out.frozen 1; clear hB hb hge); have HNE : Hd (g2 ≠ w.heap.size + 1) := ⟨by have h1 := HB2.out.2; have h2 := HR0.out.lt; (try simp at h1); omega⟩) | (go_at_call 186; (with_reducible refine (m_AddZ (w.heap.size + 1) (w.heap.size + 1) g2 (a * 2 ^ 2) 1 _ ((HR.out.1.below (by (repeat (first | exact Below.refl _ _ | assumption | refine Below.drew ?_ | refine bdn ?_ | refine ba _ ?_ | refine bs0 _ _ ?_ ?_ | refine bs1 _ _ _ ?_ ?_ | refine bs2 _ _ _ _ ?_ ?_ | refine bs3 _ _ _ _ _ ?_ ?_ | refine bt3 (by assumption) ?_)))).intB) (HR.out.1.below (by (repeat (first | exact Below.refl _ _ | assumption | refine Below.drew ?_ | refine bdn ?_ | refine ba _ ?_ | refine bs0 _ _ ?_ ?_ | refine bs1 _ _ _ ?_ ?_ | refine bs2 _ _ _ _ ?_ ?_ | refine bs3 _ _ _ _ _ ?_ ?_ | refine bt3 (by assumption) ?_)))) (HB2.out.1.below (by (repeat (first | exact Below.refl _ _ | assumption | refine Below.drew ?_ | refine bdn ?_ | refine ba _ ?_ | refine bs0 _ _ ?_ ?_ | refine bs1 _ _ _ ?_ ?_ | refine bs2 _ _ _ _ ?_ ?_ | refine bs3 _ _ _ _ _ ?_ ?_ | refine bt3 (by assumption) ?_)))) HNE.out HBD.out.2).mono ?_); rintro e3 w3 ⟨rfl, hB, hg⟩; have hg := bgrown (w := w2) (by (repeat (first | exact Below.refl _ _ | assumption | refine Below.drew ?_ | refine bdn ?_ | refine ba _ ?_ | refine bs0 _ _ ?_ ?_ | refine bs1 _ _ _ ?_ ?_ | refine bs2 _ _ _ _ ?_ ?_ | refine bs3 _ _ _ _ _ ?_ ?_ | refine bt3 (by assumption) ?_))) hg; replace HR := Hd.mk (And.intro hB (show Below w.heap.size w w3 from HR.out.2.grown hg HR.out.2.size (fun i hi => by cases hi; omega))); replace HK := Hd.mk (HK.out.grown hg (by simp)); have r0 : w3.cell? _ = some (.pointer none) := HK.out.cell 0; have r1 : w3.cell? _ = some (.int .i64 0) := HK.out.cell 1; have q0 := HK.out.frozen 0; have q1 := HK.out.frozen 1; clear hB hg))
  refine bodyPost_ret (v := .agg #[.pointer (some ⟨w.heap.size + 1, 0, none⟩), .int .i64 (e - 2)]) (by simp (maxDischargeDepth := 7) [results, Tryz.results225, go_sem, *]) rfl ⟨w.heap.size + 1, rfl, (HR.out.1.setT HK.out (by decide) (by decide) 0 _).setT (HK.out.set_ 0 _) (by decide) (by decide) 1 _, ?_⟩; (have hbb := HR.out.2); (repeat (first | exact Below.refl _ _ | assumption | refine Below.drew ?_ | refine bdn ?_ | refine ba _ ?_ | refine bs0 _ _ ?_ ?_ | refine bs1 _ _ _ ?_ ?_ | refine bs2 _ _ _ _ ?_ ?_ | refine bs3 _ _ _ _ _ ?_ ?_ | refine bt3 (by assumption) ?_))
end Go.Proofs.YtflgjecpjaiecaaGreat
/- Contracts: the program's quotient of two floats' numbers, cut and marked. -/
set_option linter.unusedVariables false
set_option linter.unusedSimpArgs false
set_option exponentiation.threshold 40000
namespace Go.Proofs.YtflgjecpjaiecaaGreat
open Go.RowKit Num Flt
abbrev Wqt (w : World) (ga gb : Nat) (ea eb : Int) : World := ((w.alloc (Obj.cells #[.pointer (some ⟨ga, 0, none⟩), .int .i64 ea] 113)).alloc (Obj.cells #[.pointer (some ⟨gb, 0, none⟩), .int .i64 eb] 113)).alloc (Obj.cells #[.pointer none, .int .i64 0] 113)
structure QtH (w wx : World) (ga gb : Nat) (ea eb : Int) : Prop where
  bel : Below w.heap.size w wx
  b0 : Blk wx w.heap.size 113 #[.pointer (some ⟨ga, 0, none⟩), .int .i64 ea]
  b1 : Blk wx (w.heap.size + 1) 113 #[.pointer (some ⟨gb, 0, none⟩), .int .i64 eb]
  b2 : Blk wx (w.heap.size + 1 + 1) 113 #[.pointer none, .int .i64 0]
theorem QtH.below {w wx w' : World} {ga gb : Nat} {ea eb : Int} (h : QtH w wx ga gb ea eb) (hb : Below wx.heap.size wx w') : QtH w w' ga gb ea eb :=
  ⟨bt3 hb h.bel, h.b0.below hb h.b0.lt, h.b1.below hb h.b1.lt, h.b2.below hb h.b2.lt⟩
theorem QtH.start (w : World) (ga gb : Nat) (ea eb : Int) : QtH w (Wqt w ga gb ea eb) ga gb ea eb := by
  refine ⟨ba _ (ba _ (ba _ (Below.refl _ _))), ((Blk.new _ _ _).alloc _).alloc _, ?_, ?_⟩
  · have := (Blk.new (w.alloc (Obj.cells #[.pointer (some ⟨ga, 0, none⟩), .int .i64 ea] 113)) 113 #[.pointer (some ⟨gb, 0, none⟩), .int .i64 eb]).alloc (Obj.cells #[.pointer none, .int .i64 0] 113)
    simpa [Wqt] using this
  · have := Blk.new ((w.alloc (Obj.cells #[.pointer (some ⟨ga, 0, none⟩), .int .i64 ea] 113)).alloc (Obj.cells #[.pointer (some ⟨gb, 0, none⟩), .int .i64 eb] 113)) 113 #[.pointer none, .int .i64 0]
    simpa [Wqt] using this
theorem QtH.cells {w wx : World} {ga gb : Nat} {ea eb : Int} (h : QtH w wx ga gb ea eb) : (fun w' => w'.cell? ⟨w.heap.size, 0, none⟩ = some (.pointer (some ⟨ga, 0, none⟩)) ∧ w'.cell? ⟨w.heap.size, 1, none⟩ = some (.int .i64 ea) ∧ w'.cell? ⟨w.heap.size + 1, 0, none⟩ = some (.pointer (some ⟨gb, 0, none⟩)) ∧ w'.cell? ⟨w.heap.size + 1, 1, none⟩ = some (.int .i64 eb)) wx := ⟨h.b0.cell 0, h.b0.cell 1, h.b1.cell 0, h.b1.cell 1⟩
/-- by how much the numerator is lengthened -/
def qby (ma mb : Int) : Nat := bln mb.natAbs - bln ma.natAbs + 80
theorem below_of_drewN {w w' : World} (h : ∃ d, w' = w.drewN d) : Below w.heap.size w w' := by
  obtain ⟨d, rfl⟩ := h; exact bdn (Below.refl _ _)
/-- what the region leaves that puts a number into a fresh block -/
def QuR (w4 : World) (M E : Int) (u : Value) (wx : World) : Prop := ∃ g9 g : Nat, u = .pointer (some ⟨g9, 0, none⟩) ∧ Hd (Below w4.heap.size w4 wx ∧ Blk wx g9 113 #[.pointer (some ⟨g, 0, none⟩), .int .i64 E] ∧ Big wx g M)
theorem QuR.ofSet {w4 wk : World} {M E : Int} {G g : Nat} (hf : Below w4.heap.size w4 wk) (hB : Blk wk G 113 #[.pointer none, .int .i64 0]) (hG : w4.heap.size ≤ G) (hO : Big wk g M) :
    QuR w4 M E (.pointer (some ⟨G, 0, none⟩)) ((wk.setCell ⟨G, 0, none⟩ (.pointer (some ⟨g, 0, none⟩))).setCell ⟨G, 1, none⟩ (.int .i64 E)) := by
  refine ⟨G, g, rfl, ⟨Below.setCell (Below.setCell hf hG _) hG _, ?_, (hO.setT hB (by decide) (by decide) 0 _).setT (hB.set_ 0 _) (by decide) (by decide) 1 _⟩⟩
  have := (hB.set_ 0 (.pointer (some ⟨g, 0, none⟩))).set_ 1 (.int .i64 E)
  simpa using this
theorem QuR.ofNew {w4 wk : World} {M E : Int} {g : Nat} (hf : Below w4.heap.size w4 wk) (hO : Big wk g M) :
    QuR w4 M E (.pointer (some ⟨wk.heap.size, 0, none⟩)) (wk.alloc (Obj.cells #[.pointer (some ⟨g, 0, none⟩), .int .i64 E] 113)) :=
  ⟨wk.heap.size, g, rfl, ⟨ba _ hf, Blk.new _ _ _, hO.below (ba _ (Below.refl _ _))⟩⟩
theorem fr_aln {w0 wk wy : World} {p : Addr} {u : Option Value} (hf : Below w0.heap.size w0 wk) (hc : (wy.alloc (Obj.cells #[.pointer none, .int .i64 0] 113)).cell? p = u) (hb : Below wk.heap.size wk wy) :
    Below w0.heap.size w0 (wy.alloc (Obj.cells #[.pointer none, .int .i64 0] 113)) ∧ Blk (wy.alloc (Obj.cells #[.pointer none, .int .i64 0] 113)) wy.heap.size 113 #[.pointer none, .int .i64 0] ∧ w0.heap.size ≤ wy.heap.size :=
  have h := bt3 hb hf
  ⟨ba _ h, Blk.new _ _ _, h.size⟩
abbrev qN (ma mb : Int) : Int := (ma.natAbs : Int) * 2 ^ qby ma mb
def qM (ma mb : Int) : Int := qN ma mb / (mb.natAbs : Int) * 2 ^ 2 + (if qN ma mb % (mb.natAbs : Int) = 0 then 0 else 1)
def qV (ma mb ea eb VA VB : Int) : Int := if VA.sign = VB.sign then dv (qM ma mb) (ea - eb - qby ma mb - 2) else -dv (qM ma mb) (ea - eb - qby ma mb - 2)
theorem bd200 {v : Int} (h0 : 0 ≤ v) (h1 : v ≤ 2 ^ 25000) : Bd v := by
  have k1 : TOP = 2 ^ (24 * 100000) := p24 100000
  have k2 : (2 : Int) ^ 25001 ≤ 2 ^ (24 * 100000) := pow_le (by decide) (by decide)
  have k4 : (2 : Int) ^ 25001 = 2 ^ 25000 * 2 := Int.pow_succ _ _
  have k5 := pow2_pos 25000
  rw [← k1, k4] at k2
  unfold Bd
  generalize TOP = T at *
  generalize (2 : Int) ^ 25000 = u at *
  omega
theorem qM_nu {ma mb E : Int} (h0 : 0 ≤ qN ma mb / (mb.natAbs : Int)) (h1 : qN ma mb / (mb.natAbs : Int) ≤ 2 ^ 128) (hE : -1000 ≤ E ∧ E ≤ 1000) : NuF (qM ma mb) E (dv (qM ma mb) E) 1000 := by
  refine ⟨rfl, by omega, by unfold SC; omega, by omega, ?_⟩
  have hM : 0 ≤ qM ma mb ∧ qM ma mb ≤ 2 ^ 131 := by
    have h131 : (2 : Int) ^ 128 * 5 ≤ 2 ^ 131 := by decide
    have h3 : (2 : Int) ^ 128 * 1 ≥ 1 := by decide
    unfold qM
    split <;> omega
  have h2 : (2 : Int) ^ (E + SC).toNat ≤ 2 ^ 24000 := pow_le (by decide) (by unfold SC; omega)
  have h3 : (2 : Int) ^ 131 * 2 ^ 24000 ≤ 2 ^ 25000 := by rw [← Int.pow_add]; exact pow_le (by decide) (by decide)
  have h4 := pow2_pos (E + SC).toNat
  unfold dv
  exact bd200 (Int.mul_nonneg hM.1 (Int.le_of_lt h4)) (Int.le_trans (Int.mul_le_mul hM.2 h2 (Int.le_of_lt h4) (Int.le_of_lt (pow2_pos 131))) h3)
/-- the sizes of the numbers of a quotient -/
theorem q_sizes {ma mb : Int} (ha : bln ma.natAbs ≤ 24) (hb : bln mb.natAbs ≤ 24) (ha0 : ma ≠ 0) (hb0 : mb ≠ 0) :
    qby ma mb ≤ 104 ∧ 80 ≤ qby ma mb ∧ 0 < (mb.natAbs : Int) ∧ (mb.natAbs : Int) < 16777216 ∧ (ma.natAbs : Int) < 16777216 ∧ (2 : Int) ^ 80 ≤ qN ma mb ∧ qN ma mb ≤ 2 ^ 128 := by
  have h1 := bln_lt ma.natAbs
  have h2 := bln_lt mb.natAbs
  have e24 : (2 : Nat) ^ 24 = 16777216 := by decide
  have h3 : 2 ^ bln ma.natAbs ≤ 2 ^ 24 := Nat.pow_le_pow_right (by decide) ha
  have h4 : 2 ^ bln mb.natAbs ≤ 2 ^ 24 := Nat.pow_le_pow_right (by decide) hb
  have hq : qby ma mb ≤ 104 ∧ 80 ≤ qby ma mb := by unfold qby; omega
  have h5 : (2 : Int) ^ 80 ≤ 2 ^ qby ma mb := pow_le (by decide) hq.2
  have h6 : (2 : Int) ^ qby ma mb ≤ 2 ^ 104 := pow_le (by decide) hq.1
  refine ⟨hq.1, hq.2, by omega, by omega, by omega, ?_, ?_⟩
  · unfold qN
    have := Int.mul_le_mul_of_nonneg_right (show 1 ≤ (ma.natAbs : Int) by omega) (Int.le_of_lt (pow2_pos (qby ma mb)))
    rw [Int.one_mul] at this
    exact Int.le_trans h5 this
  · unfold qN
    have := Int.mul_le_mul (show (ma.natAbs : Int) ≤ 16777216 by omega) h6 (Int.le_of_lt (pow2_pos _)) (by decide)
    exact Int.le_trans this (by decide)
set_option maxRecDepth 20000 in
set_option maxHeartbeats 12000000 in
theorem n_Quo (ga gb : Nat) (ea eb ma mb VA VB : Int) (l l' : Nat) (w : World) (hA : Big w ga ma) (hB : Big w gb mb) (fA : NuF ma ea VA l) (fB : NuF mb eb VB l') (ha : bln ma.natAbs ≤ 24) (hb : bln mb.natAbs ≤ 24) (ha0 : ma ≠ 0) (hb0 : mb ≠ 0) (hea : -300 ≤ ea ∧ ea ≤ 300) (heb : -300 ≤ eb ∧ eb ≤ 300) :
    Calls Tryz.prog 157 #[.agg #[.pointer (some ⟨ga, 0, none⟩), .int .i64 ea], .agg #[.pointer (some ⟨gb, 0, none⟩), .int .i64 eb]] w (RetN (qV ma mb ea eb VA VB) 1000 w) := by
  have HT := Hd.mk (QtH.start w ga gb ea eb)
  have HX := Hd.mk (And.intro hA hB)
  have hsz := q_sizes ha hb ha0 hb0
  have hQ0 : 0 ≤ qN ma mb / (mb.natAbs : Int) := Int.ediv_nonneg (by omega) (by omega)
  have hQ1 : qN ma mb / (mb.natAbs : Int) ≤ qN ma mb := Int.ediv_le_self _ (by omega)
  have hR0 := Int.emod_nonneg (qN ma mb) (show (mb.natAbs : Int) ≠ 0 by omega)
  have hR1 := Int.emod_lt_of_pos (qN ma mb) hsz.2.2.1
  have h128 : (2 : Int) ^ 128 ≤ 2 ^ 25000 := pow_le (by decide) (by decide)
  have HBD := Hd.mk (And.intro (bd200 (v := (ma.natAbs : Int)) (by omega) (by omega)) (And.intro (bd200 (v := qN ma mb) (by omega) (by omega)) (And.intro (bd200 (v := (mb.natAbs : Int)) (by omega) (by omega)) (And.intro (bd200 hQ0 (by omega)) (bd200 hR0 (by omega))))))
  have HMB := Hd.mk (And.intro hsz.2.2.1 (And.intro (show (mb.natAbs : Int) < 4294967296 by omega) (show (mb.natAbs : Int) ≤ qN ma mb by omega)))
  have HQL : Hd (qby ma mb ≤ 10000000) := ⟨by omega⟩
  have h131 : (2 : Int) ^ 128 * 5 ≤ 2 ^ 25000 := Int.le_trans (show (2 : Int) ^ 128 * 5 ≤ 2 ^ 131 by decide) (pow_le (by decide) (by decide))
  have HB4 := Hd.mk (And.intro (bd200 (v := qN ma mb / (mb.natAbs : Int) * 2 ^ 2) (by omega) (by omega)) (bd200 (v := qN ma mb / (mb.natAbs : Int) * 2 ^ 2 + 1) (by omega) (by omega)))
  have HR9 := Hd.mk hR0
  have hE0 : -1000 ≤ ea - eb - (qby ma mb : Int) - 2 ∧ ea - eb - (qby ma mb : Int) - 2 ≤ 1000 := by omega
  have HNF : Hd (NuF (qM ma mb) (ea - eb - (qby ma mb : Int) - 2) (dv (qM ma mb) (ea - eb - (qby ma mb : Int) - 2)) 1000) := ⟨qM_nu (by omega) (by omega) hE0⟩
  have HQV : Hd (qV ma mb ea eb VA VB = if VA.sign = VB.sign then dv (qM ma mb) (ea - eb - (qby ma mb : Int) - 2) else -dv (qM ma mb) (ea - eb - (qby ma mb : Int) - 2)) := ⟨rfl⟩
  have ha' : (bln ma.natAbs : Int) ≤ 24 := by omega
  have hb' : (bln mb.natAbs : Int) ≤ 24 := by omega
  have hq : ((bln mb.natAbs : Int) - (bln ma.natAbs : Int) < 0 ∧ 80 = (qby ma mb : Int)) ∨ (¬ ((bln mb.natAbs : Int) - (bln ma.natAbs : Int) < 0) ∧ (bln mb.natAbs : Int) - (bln ma.natAbs : Int) + 80 = (qby ma mb : Int)) := by unfold qby; omega
  have hq2 : (qby ma mb : Int) ≤ 104 := by unfold qby; omega
  have hq3 : 80 ≤ (qby ma mb : Int) := by unfold qby; omega
  have HQ := Hd.mk hq
  have HL0 := Hd.mk (And.intro ha hb)
  clear hq hA hB ha hb hsz hQ0 hQ1 hR0 hR1 h128 h131 hE0
  go_enter Tryz.func157, Tryz.ntmps157
  go_upto_region 1 with fail
  go_cut [5] (fun s5 wx => s5 = .int .i64 (qby ma mb : Int) ∧ Hd (QtH w wx ga gb ea eb))
  case first =>
    have hlb : 0 ≤ (bln mb.natAbs : Int) := by omega
    have hla : 0 ≤ (bln ma.natAbs : Int) := by omega
    have HQ9 := HQ
    have HBA := Hd.mk (fun (w' : World) (hb : Below w.heap.size w w') => m_BitLen ga ma w' (HX.out.1.below hb))
    have HBB := Hd.mk (fun (w' : World) (hb : Below w.heap.size w w') => m_BitLen gb mb w' (HX.out.2.below hb))
    generalize (bln mb.natAbs : Int) = lb at *
    generalize (bln ma.natAbs : Int) = la at *
    have hwr : IntKind.i64.wrap (lb - la) = lb - la := by rw [IntKind.wrap_i64]; omega
    rcases HQ9.out with ⟨hd, hv⟩ | ⟨hd, hv⟩
    · have hd' : ¬ 0 ≤ lb - la := by omega
      clear HQ HQ9
      refine wp_region_held_drew (S := (fun w' => w'.cell? ⟨w.heap.size, 0, none⟩ = some (.pointer (some ⟨ga, 0, none⟩)) ∧ w'.cell? ⟨w.heap.size, 1, none⟩ = some (.int .i64 ea) ∧ w'.cell? ⟨w.heap.size + 1, 0, none⟩ = some (.pointer (some ⟨gb, 0, none⟩)) ∧ w'.cell? ⟨w.heap.size + 1, 1, none⟩ = some (.int .i64 eb))) (by kernel_rfl) (by first | exact HT.out.cells | exact (HT.out.below (by (repeat (first | exact Below.refl _ _ | assumption | refine Below.drew ?_ | refine bdn ?_ | refine ba _ ?_ | refine bs0 _ _ ?_ ?_ | refine bs1 _ _ _ ?_ ?_ | refine bs2 _ _ _ _ ?_ ?_ | refine bs3 _ _ _ _ _ ?_ ?_ | refine bt3 (by assumption) ?_)))).cells) (fun hHeld => ?_); refine wpAnyH_take (i := 0) (v := _) rfl (by kernel_rfl) (by kernel_rfl) (by kernel_rfl) (fun _ _ _ h => h) (Or.inl ⟨by rfl, by (intro w hSw; (try dsimp only at hSw); go_simp; (first | done | with_reducible rfl))⟩) (by assumption) ?_; (try simp only [Act.put, List.setIfInBounds_toArray, List.set_cons_zero, List.set_cons_succ, List.getElem_toArray, List.getElem_cons_zero, List.getElem_cons_succ]); refine wpAnyH_take (i := 1) (v := _) rfl (by kernel_rfl) (by kernel_rfl) (by kernel_rfl) (fun _ _ _ h => h) (Or.inl ⟨by rfl, by (intro w hSw; (try dsimp only at hSw); go_simp; (first | done | with_reducible rfl))⟩) (by assumption) ?_; (try simp only [Act.put, List.setIfInBounds_toArray, List.set_cons_zero, List.set_cons_succ, List.getElem_toArray, List.getElem_cons_zero, List.getElem_cons_succ]); refine wpAnyH_take (i := 3) (v := _) rfl (by kernel_rfl) (by kernel_rfl) (by kernel_rfl) (fun _ _ _ h => h) (Or.inl ⟨by rfl, by (intro w hSw; (try dsimp only at hSw); go_simp; (first | done | with_reducible rfl))⟩) (by assumption) ?_; (try simp only [Act.put, List.setIfInBounds_toArray, List.set_cons_zero, List.set_cons_succ, List.getElem_toArray, List.getElem_cons_zero, List.getElem_cons_succ]); refine wpAnyH_take (i := 4) (v := _) rfl (by kernel_rfl) (by kernel_rfl) (by kernel_rfl) (fun _ _ _ h => h) (Or.inl ⟨by rfl, by (intro w hSw; (try dsimp only at hSw); go_simp; (first | done | with_reducible rfl))⟩) (by assumption) ?_; (try simp only [Act.put, List.setIfInBounds_toArray, List.set_cons_zero, List.set_cons_succ, List.getElem_toArray, List.getElem_cons_zero, List.getElem_cons_succ]); refine wpAnyH_ready (rs := [2]) (by kernel_rfl) (by simp) ?_; refine AllReadyH.cons rfl (fun K hK => ?_) AllReadyH.nil; go_simp; go_wp2_with (first | (go_at_call 191; (with_reducible refine (HBA.out _ (bt3 (by (repeat (first | exact Below.refl _ _ | assumption | refine Below.drew ?_ | refine bdn ?_ | refine ba _ ?_ | refine bs0 _ _ ?_ ?_ | refine bs1 _ _ _ ?_ ?_ | refine bs2 _ _ _ _ ?_ ?_ | refine bs3 _ _ _ _ _ ?_ ?_ | refine bt3 (by assumption) ?_))) HT.out.bel)).mono ?_); rintro e w' ⟨rfl, rfl⟩) | (go_at_call 191; (with_reducible refine (HBB.out _ (bt3 (by (repeat (first | exact Below.refl _ _ | assumption | refine Below.drew ?_ | refine bdn ?_ | refine ba _ ?_ | refine bs0 _ _ ?_ ?_ | refine bs1 _ _ _ ?_ ?_ | refine bs2 _ _ _ _ ?_ ?_ | refine bs3 _ _ _ _ _ ?_ ?_ | refine bt3 (by assumption) ?_))) HT.out.bel)).mono ?_); rintro e w' ⟨rfl, rfl⟩)); refine hK.out _ _ (by first | assumption | exact hHeld | exact HT.out.cells | exact (HT.out.below (by (repeat (first | exact Below.refl _ _ | assumption | refine Below.drew ?_ | refine bdn ?_ | refine ba _ ?_ | refine bs0 _ _ ?_ ?_ | refine bs1 _ _ _ ?_ ?_ | refine bs2 _ _ _ _ ?_ ?_ | refine bs3 _ _ _ _ _ ?_ ?_ | refine bt3 (by assumption) ?_)))).cells) (fun hHeld => ?_); clear hK K; (try simp only [Act.put, List.setIfInBounds_toArray, List.set_cons_zero, List.set_cons_succ, List.getElem_toArray, List.getElem_cons_zero, List.getElem_cons_succ]); refine wpAnyH_ready (rs := [5]) (by kernel_rfl) (by simp) ?_; refine AllReadyH.cons rfl (fun K hK => ?_) AllReadyH.nil; go_simp; go_wp2_with (first | (go_at_call 191; (with_reducible refine (HBA.out _ (bt3 (by (repeat (first | exact Below.refl _ _ | assumption | refine Below.drew ?_ | refine bdn ?_ | refine ba _ ?_ | refine bs0 _ _ ?_ ?_ | refine bs1 _ _ _ ?_ ?_ | refine bs2 _ _ _ _ ?_ ?_ | refine bs3 _ _ _ _ _ ?_ ?_ | refine bt3 (by assumption) ?_))) HT.out.bel)).mono ?_); rintro e w' ⟨rfl, rfl⟩) | (go_at_call 191; (with_reducible refine (HBB.out _ (bt3 (by (repeat (first | exact Below.refl _ _ | assumption | refine Below.drew ?_ | refine bdn ?_ | refine ba _ ?_ | refine bs0 _ _ ?_ ?_ | refine bs1 _ _ _ ?_ ?_ | refine bs2 _ _ _ _ ?_ ?_ | refine bs3 _ _ _ _ _ ?_ ?_ | refine bt3 (by assumption) ?_))) HT.out.bel)).mono ?_); rintro e w' ⟨rfl, rfl⟩)); refine hK.out _ _ (by first | assumption | exact hHeld | exact HT.out.cells | exact (HT.out.below (by (repeat (first | exact Below.refl _ _ | assumption | refine Below.drew ?_ | refine bdn ?_ | refine ba _ ?_ | refine bs0 _ _ ?_ ?_ | refine bs1 _ _ _ ?_ ?_ | refine bs2 _ _ _ _ ?_ ?_ | refine bs3 _ _ _ _ _ ?_ ?_ | refine bt3 (by assumption) ?_)))).cells) (fun hHeld => ?_); clear hK K; (try simp only [Act.put, List.setIfInBounds_toArray, List.set_cons_zero, List.set_cons_succ, List.getElem_toArray, List.getElem_cons_zero, List.getElem_cons_succ]); refine wpAnyH_take (i := 6) (v := _) rfl (by kernel_rfl) (by kernel_rfl) (by kernel_rfl) (fun _ _ _ h => h) (Or.inl ⟨by rfl, by (intro w hSw; (try dsimp only at hSw); go_simp; (first | done | with_reducible rfl))⟩) (by assumption) ?_; (try simp only [Act.put, List.setIfInBounds_toArray, List.set_cons_zero, List.set_cons_succ, List.getElem_toArray, List.getElem_cons_zero, List.getElem_cons_succ]); refine wpAnyH_ready (rs := [7]) (by kernel_rfl) (by simp) ?_; refine AllReadyH.cons rfl (fun K hK => ?_) AllReadyH.nil; go_simp; go_wp2_with fail; refine hK.out _ _ (by first | assumption | exact hHeld | exact HT.out.cells | exact (HT.out.below (by (repeat (first | exact Below.refl _ _ | assumption | refine Below.drew ?_ | refine bdn ?_ | refine ba _ ?_ | refine bs0 _ _ ?_ ?_ | refine bs1 _ _ _ ?_ ?_ | refine bs2 _ _ _ _ ?_ ?_ | refine bs3 _ _ _ _ _ ?_ ?_ | refine bt3 (by assumption) ?_)))).cells) (fun hHeld => ?_); clear hK K; (try simp only [Act.put, List.setIfInBounds_toArray, List.set_cons_zero, List.set_cons_succ, List.getElem_toArray, List.getElem_cons_zero, List.getElem_cons_succ]); refine wpAnyH_take (i := 8) (v := _) rfl (by kernel_rfl) (by kernel_rfl) (by kernel_rfl) (fun _ _ _ h => h) (Or.inl ⟨by rfl, by (intro w hSw; (try dsimp only at hSw); go_simp; (first | done | with_reducible rfl))⟩) (by assumption) ?_; (try simp only [Act.put, List.setIfInBounds_toArray, List.set_cons_zero, List.set_cons_succ, List.getElem_toArray, List.getElem_cons_zero, List.getElem_cons_succ]); refine wpAnyH_take (i := 9) (v := _) rfl (by kernel_rfl) (by kernel_rfl) (by kernel_rfl) (fun _ _ _ h => h) (Or.inl ⟨by rfl, by (intro w hSw; (try dsimp only at hSw); go_simp; (first | done | with_reducible rfl))⟩) (by assumption) ?_; (try simp only [Act.put, List.setIfInBounds_toArray, List.set_cons_zero, List.set_cons_succ, List.getElem_toArray, List.getElem_cons_zero, List.getElem_cons_succ]); refine wpAnyH_done (by kernel_rfl) ?_ _; go_simp; go_wp2_with fail; go_meet
      exact ⟨by first | rfl | (rw [← hv]; rfl), ⟨HT.out.below (by (repeat (first | exact Below.refl _ _ | assumption | refine Below.drew ?_ | refine bdn ?_ | refine ba _ ?_ | refine bs0 _ _ ?_ ?_ | refine bs1 _ _ _ ?_ ?_ | refine bs2 _ _ _ _ ?_ ?_ | refine bs3 _ _ _ _ _ ?_ ?_ | refine bt3 (by assumption) ?_)))⟩⟩
    · have hd' : 0 ≤ lb - la := by omega
      have hwr2 : IntKind.i64.wrap (lb - la + 80) = lb - la + 80 := by rw [IntKind.wrap_i64]; omega
      clear HQ HQ9
      refine wp_region_held_drew (S := (fun w' => w'.cell? ⟨w.heap.size, 0, none⟩ = some (.pointer (some ⟨ga, 0, none⟩)) ∧ w'.cell? ⟨w.heap.size, 1, none⟩ = some (.int .i64 ea) ∧ w'.cell? ⟨w.heap.size + 1, 0, none⟩ = some (.pointer (some ⟨gb, 0, none⟩)) ∧ w'.cell? ⟨w.heap.size + 1, 1, none⟩ = some (.int .i64 eb))) (by kernel_rfl) (by first | exact HT.out.cells | exact (HT.out.below (by (repeat (first | exact Below.refl _ _ | assumption | refine Below.drew ?_ | refine bdn ?_ | refine ba _ ?_ | refine bs0 _ _ ?_ ?_ | refine bs1 _ _ _ ?_ ?_ | refine bs2 _ _ _ _ ?_ ?_ | refine bs3 _ _ _ _ _ ?_ ?_ | refine bt3 (by assumption) ?_)))).cells) (fun hHeld => ?_); refine wpAnyH_take (i := 0) (v := _) rfl (by kernel_rfl) (by kernel_rfl) (by kernel_rfl) (fun _ _ _ h => h) (Or.inl ⟨by rfl, by (intro w hSw; (try dsimp only at hSw); go_simp; (first | done | with_reducible rfl))⟩) (by assumption) ?_; (try simp only [Act.put, List.setIfInBounds_toArray, List.set_cons_zero, List.set_cons_succ, List.getElem_toArray, List.getElem_cons_zero, List.getElem_cons_succ]); refine wpAnyH_take (i := 1) (v := _) rfl (by kernel_rfl) (by kernel_rfl) (by kernel_rfl) (fun _ _ _ h => h) (Or.inl ⟨by rfl, by (intro w hSw; (try dsimp only at hSw); go_simp; (first | done | with_reducible rfl))⟩) (by assumption) ?_; (try simp only [Act.put, List.setIfInBounds_toArray, List.set_cons_zero, List.set_cons_succ, List.getElem_toArray, List.getElem_cons_zero, List.getElem_cons_succ]); refine wpAnyH_take (i := 3) (v := _) rfl (by kernel_rfl) (by kernel_rfl) (by kernel_rfl) (fun _ _ _ h => h) (Or.inl ⟨by rfl, by (intro w hSw; (try dsimp only at hSw); go_simp; (first | done | with_reducible rfl))⟩) (by assumption) ?_; (try simp only [Act.put, List.setIfInBounds_toArray, List.set_cons_zero, List.set_cons_succ, List.getElem_toArray, List.getElem_cons_zero, List.getElem_cons_succ]); refine wpAnyH_take (i := 4) (v := _) rfl (by kernel_rfl) (by kernel_rfl) (by kernel_rfl) (fun _ _ _ h => h) (Or.inl ⟨by rfl, by (intro w hSw; (try dsimp only at hSw); go_simp; (first | done | with_reducible rfl))⟩) (by assumption) ?_; (try simp only [Act.put, List.setIfInBounds_toArray, List.set_cons_zero, List.set_cons_succ, List.getElem_toArray, List.getElem_cons_zero, List.getElem_cons_succ]); refine wpAnyH_ready (rs := [2]) (by kernel_rfl) (by simp) ?_; refine AllReadyH.cons rfl (fun K hK => ?_) AllReadyH.nil; go_simp; go_wp2_with (first | (go_at_call 191; (with_reducible refine (HBA.out _ (bt3 (by (repeat (first | exact Below.refl _ _ | assumption | refine Below.drew ?_ | refine bdn ?_ | refine ba _ ?_ | refine bs0 _ _ ?_ ?_ | refine bs1 _ _ _ ?_ ?_ | refine bs2 _ _ _ _ ?_ ?_ | refine bs3 _ _ _ _ _ ?_ ?_ | refine bt3 (by assumption) ?_))) HT.out.bel)).mono ?_); rintro e w' ⟨rfl, rfl⟩) | (go_at_call 191; (with_reducible refine (HBB.out _ (bt3 (by (repeat (first | exact Below.refl _ _ | assumption | refine Below.drew ?_ | refine bdn ?_ | refine ba _ ?_ | refine bs0 _ _ ?_ ?_ | refine bs1 _ _ _ ?_ ?_ | refine bs2 _ _ _ _ ?_ ?_ | refine bs3 _ _ _ _ _ ?_ ?_ | refine bt3 (by assumption) ?_))) HT.out.bel)).mono ?_); rintro e w' ⟨rfl, rfl⟩)); refine hK.out _ _ (by first | assumption | exact hHeld | exact HT.out.cells | exact (HT.out.below (by (repeat (first | exact Below.refl _ _ | assumption | refine Below.drew ?_ | refine bdn ?_ | refine ba _ ?_ | refine bs0 _ _ ?_ ?_ | refine bs1 _ _ _ ?_ ?_ | refine bs2 _ _ _ _ ?_ ?_ | refine bs3 _ _ _ _ _ ?_ ?_ | refine bt3 (by assumption) ?_)))).cells) (fun hHeld => ?_); clear hK K; (try simp only [Act.put, List.setIfInBounds_toArray, List.set_cons_zero, List.set_cons_succ, List.getElem_toArray, List.getElem_cons_zero, List.getElem_cons_succ]); refine wpAnyH_ready (rs := [5]) (by kernel_rfl) (by simp) ?_; refine AllReadyH.cons rfl (fun K hK => ?_) AllReadyH.nil; go_simp; go_wp2_with (first | (go_at_call 191; (with_reducible refine (HBA.out _ (bt3 (by (repeat (first | exact Below.refl _ _ | assumption | refine Below.drew ?_ | refine bdn ?_ | refine ba _ ?_ | refine bs0 _ _ ?_ ?_ | refine bs1 _ _ _ ?_ ?_ | refine bs2 _ _ _ _ ?_ ?_ | refine bs3 _ _ _ _ _ ?_ ?_ | refine bt3 (by assumption) ?_))) HT.out.bel)).mono ?_); rintro e w' ⟨rfl, rfl⟩) | (go_at_call 191; (with_reducible refine (HBB.out _ (bt3 (by (repeat (first | exact Below.refl _ _ | assumption | refine Below.drew ?_ | refine bdn ?_ | refine ba _ ?_ | refine bs0 _ _ ?_ ?_ | refine bs1 _ _ _ ?_ ?_ | refine bs2 _ _ _ _ ?_ ?_ | refine bs3 _ _ _ _ _ ?_ ?_ | refine bt3 (by assumption) ?_))) HT.out.bel)).mono ?_); rintro e w' ⟨rfl, rfl⟩)); refine hK.out _ _ (by first | assumption | exact hHeld | exact HT.out.cells | exact (HT.out.below (by (repeat (first | exact Below.refl _ _ | assumption | refine Below.drew ?_ | refine bdn ?_ | refine ba _ ?_ | refine bs0 _ _ ?_ ?_ | refine bs1 _ _ _ ?_ ?_ | refine bs2 _ _ _ _ ?_ ?_ | refine bs3 _ _ _ _ _ ?_ ?_ | refine bt3 (by assumption) ?_)))).cells) (fun hHeld => ?_); clear hK K; (try simp only [Act.put, List.setIfInBounds_toArray, List.set_cons_zero, List.set_cons_succ, List.getElem_toArray, List.getElem_cons_zero, List.getElem_cons_succ]); refine wpAnyH_take (i := 6) (v := _) rfl (by kernel_rfl) (by kernel_rfl) (by kernel_rfl) (fun _ _ _ h => h) (Or.inl ⟨by rfl, by (intro w hSw; (try dsimp only at hSw); go_simp; (first | done | with_reducible rfl))⟩) (by assumption) ?_; (try simp only [Act.put, List.setIfInBounds_toArray, List.set_cons_zero, List.set_cons_succ, List.getElem_toArray, List.getElem_cons_zero, List.getElem_cons_succ]); refine wpAnyH_ready (rs := [7]) (by kernel_rfl) (by simp) ?_; refine AllReadyH.cons rfl (fun K hK => ?_) AllReadyH.nil; go_simp; go_wp2_with fail; refine hK.out _ _ (by first | assumption | exact hHeld | exact HT.out.cells | exact (HT.out.below (by (repeat (first | exact Below.refl _ _ | assumption | refine Below.drew ?_ | refine bdn ?_ | refine ba _ ?_ | refine bs0 _ _ ?_ ?_ | refine bs1 _ _ _ ?_ ?_ | refine bs2 _ _ _ _ ?_ ?_ | refine bs3 _ _ _ _ _ ?_ ?_ | refine bt3 (by assumption) ?_)))).cells) (fun hHeld => ?_); clear hK K; (try simp only [Act.put, List.setIfInBounds_toArray, List.set_cons_zero, List.set_cons_succ, List.getElem_toArray, List.getElem_cons_zero, List.getElem_cons_succ]); refine wpAnyH_take (i := 8) (v := _) rfl (by kernel_rfl) (by kernel_rfl) (by kernel_rfl) (fun _ _ _ h => h) (Or.inl ⟨by rfl, by (intro w hSw; (try dsimp only at hSw); go_simp; (first | done | with_reducible rfl))⟩) (by assumption) ?_; (try simp only [Act.put, List.setIfInBounds_toArray, List.set_cons_zero, List.set_cons_succ, List.getElem_toArray, List.getElem_cons_zero, List.getElem_cons_succ]); refine wpAnyH_take (i := 9) (v := _) rfl (by kernel_rfl) (by kernel_rfl) (by kernel_rfl) (fun _ _ _ h => h) (Or.inl ⟨by rfl, by (intro w hSw; (try dsimp only at hSw); go_simp; (first | done | with_reducible rfl))⟩) (by assumption) ?_; (try simp only [Act.put, List.setIfInBounds_toArray, List.set_cons_zero, List.set_cons_succ, List.getElem_toArray, List.getElem_cons_zero, List.getElem_cons_succ]); refine wpAnyH_done (by kernel_rfl) ?_ _; go_simp; go_wp2_with fail; go_meet
      exact ⟨by rw [← hv, hwr2], ⟨HT.out.below (by (repeat (first | exact Below.refl _ _ | assumption | refine Below.drew ?_ | refine bdn ?_ | refine ba _ ?_ | refine bs0 _ _ ?_ ?_ | refine bs1 _ _ _ ?_ ?_ | refine bs2 _ _ _ _ ?_ ?_ | refine bs3 _ _ _ _ _ ?_ ?_ | refine bt3 (by assumption) ?_)))⟩⟩
  case rest =>
    obtain ⟨rfl, HT⟩ := hcut
    have HT0 := HT
    replace HT := Hd.mk (HT.out.below (ba (Obj.cells #[.bool false, .slice none 0 0] 168) (ba (Obj.cells #[.bool false, .slice none 0 0] 168) (Below.refl _ _))))
    have c0 : ((wc.alloc (Obj.cells #[.bool false, .slice none 0 0] 168)).alloc (Obj.cells #[.bool false, .slice none 0 0] 168)).cell? _ = some (.pointer (some ⟨ga, 0, none⟩)) := HT.out.b0.cell 0; have c1 : ((wc.alloc (Obj.cells #[.bool false, .slice none 0 0] 168)).alloc (Obj.cells #[.bool false, .slice none 0 0] 168)).cell? _ = some (.int .i64 ea) := HT.out.b0.cell 1; have c2 : ((wc.alloc (Obj.cells #[.bool false, .slice none 0 0] 168)).alloc (Obj.cells #[.bool false, .slice none 0 0] 168)).cell? _ = some (.pointer (some ⟨gb, 0, none⟩)) := HT.out.b1.cell 0; have c3 : ((wc.alloc (Obj.cells #[.bool false, .slice none 0 0] 168)).alloc (Obj.cells #[.bool false, .slice none 0 0] 168)).cell? _ = some (.int .i64 eb) := HT.out.b1.cell 1; have r0 : ((wc.alloc (Obj.cells #[.bool false, .slice none 0 0] 168)).alloc (Obj.cells #[.bool false, .slice none 0 0] 168)).cell? _ = some (.pointer none) := HT.out.b2.cell 0; have r1 : ((wc.alloc (Obj.cells #[.bool false, .slice none 0 0] 168)).alloc (Obj.cells #[.bool false, .slice none 0 0] 168)).cell? _ = some (.int .i64 0) := HT.out.b2.cell 1; have q0 := HT.out.b2.frozen 0; have q1 := HT.out.b2.frozen 1
    replace HT := HT0
    clear HT0
    have hwu : IntKind.u64.wrap (qby ma mb : Int) = (qby ma mb : Int) := by rw [IntKind.wrap_u64]; omega
    go_upto_region 4 with (first | (go_at_call 193; (with_reducible refine (m_AbsZ (wc.heap.size + 1) ga ma _ (by have := IntB.new (wc.alloc (Obj.cells #[.bool false, .slice none 0 0] 168)); simpa using this) ((HX.out.1.below HT.out.bel).below (by (repeat (first | exact Below.refl _ _ | assumption | refine Below.drew ?_ | refine bdn ?_ | refine ba _ ?_ | refine bs0 _ _ ?_ ?_ | refine bs1 _ _ _ ?_ ?_ | refine bs2 _ _ _ _ ?_ ?_ | refine bs3 _ _ _ _ _ ?_ ?_ | refine bt3 (by assumption) ?_)))) HBD.out.1).mono ?_); rintro e1 w1 ⟨rfl, hB, hg⟩; have HQ1 := Hd.mk (show Below wc.heap.size wc w1 from (ba _ (ba _ (Below.refl _ _))).grown hg (le_alloc _ (le_alloc _ (Nat.le_refl _))) (fun i hi => by cases hi; omega)); have HZ0 := Hd.mk (((IntB.new wc).below (ba (Obj.cells #[.bool false, .slice none 0 0] 168) (Below.refl _ _))).grown hg (by simp)); have H1 := Hd.mk hB; clear hB hg) | (go_at_call 194; (with_reducible refine (m_LshZR wc.heap.size (wc.heap.size + 1) _ _ (qby ma mb) _ HZ0.out H1.out HQL.out rfl HBD.out.2.1).mono ?_); rintro e2 w2 ⟨rfl, hB, hg⟩; have HQ2 := Hd.mk (show Below wc.heap.size wc w2 from HQ1.out.grown hg HQ1.out.size (fun i hi => by cases hi; exact Nat.le_refl _)); have H2 := Hd.mk hB; have HTW := Hd.mk (HT.out.below HQ2.out); replace HT := Hd.mk ((HT.out.below HQ2.out).below (ba (Obj.cells #[.bool false, .slice none 0 0] 168) (ba (Obj.cells #[.bool false, .slice none 0 0] 168) (Below.refl _ _)))); have c0 : ((w2.alloc (Obj.cells #[.bool false, .slice none 0 0] 168)).alloc (Obj.cells #[.bool false, .slice none 0 0] 168)).cell? _ = some (.pointer (some ⟨ga, 0, none⟩)) := HT.out.b0.cell 0; have c1 : ((w2.alloc (Obj.cells #[.bool false, .slice none 0 0] 168)).alloc (Obj.cells #[.bool false, .slice none 0 0] 168)).cell? _ = some (.int .i64 ea) := HT.out.b0.cell 1; have c2 : ((w2.alloc (Obj.cells #[.bool false, .slice none 0 0] 168)).alloc (Obj.cells #[.bool false, .slice none 0 0] 168)).cell? _ = some (.pointer (some ⟨gb, 0, none⟩)) := HT.out.b1.cell 0; have c3 : ((w2.alloc (Obj.cells #[.bool false, .slice none 0 0] 168)).alloc (Obj.cells #[.bool false, .slice none 0 0] 168)).cell? _ = some (.int .i64 eb) := HT.out.b1.cell 1; have r0 : ((w2.alloc (Obj.cells #[.bool false, .slice none 0 0] 168)).alloc (Obj.cells #[.bool false, .slice none 0 0] 168)).cell? _ = some (.pointer none) := HT.out.b2.cell 0; have r1 : ((w2.alloc (Obj.cells #[.bool false, .slice none 0 0] 168)).alloc (Obj.cells #[.bool false, .slice none 0 0] 168)).cell? _ = some (.int .i64 0) := HT.out.b2.cell 1; have q0 := HT.out.b2.frozen 0; have q1 := HT.out.b2.frozen 1; clear hB hg H1 HQ1 HZ0 HQ2) | (go_at_call 193; (with_reducible refine (m_AbsZ (w2.heap.size + 1) gb mb _ (by have := IntB.new (w2.alloc (Obj.cells #[.bool false, .slice none 0 0] 168)); simpa using this) ((HX.out.2.below HT.out.bel).below (by (repeat (first | exact Below.refl _ _ | assumption | refine Below.drew ?_ | refine bdn ?_ | refine ba _ ?_ | refine bs0 _ _ ?_ ?_ | refine bs1 _ _ _ ?_ ?_ | refine bs2 _ _ _ _ ?_ ?_ | refine bs3 _ _ _ _ _ ?_ ?_ | refine bt3 (by assumption) ?_)))) HBD.out.2.2.1).mono ?_); rintro e3 w3 ⟨rfl, hB, hg⟩; have HQ3 := Hd.mk (show Below w2.heap.size w2 w3 from (ba _ (ba _ (Below.refl _ _))).grown hg (le_alloc _ (le_alloc _ (Nat.le_refl _))) (fun i hi => by cases hi; omega)); have HZ2 := Hd.mk (((IntB.new w2).below (ba (Obj.cells #[.bool false, .slice none 0 0] 168) (Below.refl _ _))).grown hg (by simp)); have HS3 := Hd.mk hg.size; have H3 := Hd.mk hB; clear hB hg) | (go_at_call 224; (with_reducible refine (m_QuoRem w2.heap.size w3.heap.size wc.heap.size (w2.heap.size + 1) _ _ _ (HZ2.out.below (by (repeat (first | exact Below.refl _ _ | assumption | refine Below.drew ?_ | refine bdn ?_ | refine ba _ ?_ | refine bs0 _ _ ?_ ?_ | refine bs1 _ _ _ ?_ ?_ | refine bs2 _ _ _ _ ?_ ?_ | refine bs3 _ _ _ _ _ ?_ ?_ | refine bt3 (by assumption) ?_)))) (IntB.new w3) ((H2.out.below HQ3.out).below (by (repeat (first | exact Below.refl _ _ | assumption | refine Below.drew ?_ | refine bdn ?_ | refine ba _ ?_ | refine bs0 _ _ ?_ ?_ | refine bs1 _ _ _ ?_ ?_ | refine bs2 _ _ _ _ ?_ ?_ | refine bs3 _ _ _ _ _ ?_ ?_ | refine bt3 (by assumption) ?_)))) (H3.out.below (by (repeat (first | exact Below.refl _ _ | assumption | refine Below.drew ?_ | refine bdn ?_ | refine ba _ ?_ | refine bs0 _ _ ?_ ?_ | refine bs1 _ _ _ ?_ ?_ | refine bs2 _ _ _ _ ?_ ?_ | refine bs3 _ _ _ _ _ ?_ ?_ | refine bt3 (by assumption) ?_)))) (by have := HS3.out; simp at this; omega) HMB.out.1 HMB.out.2.1 HMB.out.2.2 HBD.out.2.2.2.1 HBD.out.2.2.2.2).mono ?_); rintro e4 w4 ⟨rfl, hB, hB', wq, hg, hg'⟩; have hz4 := (show Below w3.heap.size w3 wq from (ba (Obj.cells #[.bool false, .slice none 0 0] 168) (Below.refl _ _)).grown hg (le_alloc _ (Nat.le_refl _)) (fun i hi => by cases hi; exact Nat.le_refl _)); have HQ4 := Hd.mk (show Below w2.heap.size w2 w4 from (bt3 hz4 HQ3.out).grown hg' (bt3 hz4 HQ3.out).size (fun i hi => by cases hi; exact Nat.le_refl _)); have H4 := Hd.mk (And.intro hB hB'); replace HT := Hd.mk (HTW.out.below HQ4.out); clear HTW hB hB' hg hg' hz4))
    clear c0 c1 c2 c3 r0 r1 q0 q1
    have HF := Hd.mk (Below.refl w4.heap.size w4)
    have hw1 : IntKind.i64.wrap (ea - eb) = ea - eb := by rw [IntKind.wrap_i64]; omega
    have hw2 : IntKind.i64.wrap (ea - eb - (qby ma mb : Int)) = ea - eb - (qby ma mb : Int) := by rw [IntKind.wrap_i64]; omega
    go_cut [9] (fun s9 wx => QuR w4 (qM ma mb) (ea - eb - (qby ma mb : Int) - 2) s9 wx)
    case first =>
      by_cases hr : qN ma mb % (mb.natAbs : Int) = 0
      · have HM : Hd (qM ma mb = qN ma mb / (mb.natAbs : Int) * 2 ^ 2) := ⟨by unfold qM; rw [if_pos hr]; omega⟩
        have HSG := Hd.mk (fun (w' : World) (hb : Below w4.heap.size w4 w') => m_Sign w3.heap.size _ w' (H4.out.2.below hb))
        rw [hr] at HSG
        have HSG : Hd (∀ (w' : World) (hb : Below w4.heap.size w4 w'), Calls Tryz.prog 188 #[.pointer (some ⟨w3.heap.size, 0, none⟩)] w' fun e w'' => e = .returned (.int .i64 0) ∧ ∃ d, w'' = w'.drewN d) := HSG
        have HST := Hd.mk (fun (w' : World) (hb : Below w4.heap.size w4 w') => n_StickyT w2.heap.size _ (ea - eb - (qby ma mb : Int)) w' (H4.out.1.below hb) ⟨by omega, by omega⟩ HB4.out.1)
        rw [← HM.out] at HST
        refine wp_region_held_drew (S := (fun w' => w'.cell? ⟨w.heap.size, 0, none⟩ = some (.pointer (some ⟨ga, 0, none⟩)) ∧ w'.cell? ⟨w.heap.size, 1, none⟩ = some (.int .i64 ea) ∧ w'.cell? ⟨w.heap.size + 1, 0, none⟩ = some (.pointer (some ⟨gb, 0, none⟩)) ∧ w'.cell? ⟨w.heap.size + 1, 1, none⟩ = some (.int .i64 eb))) (by kernel_rfl) HT.out.cells (fun hHeld => ?_)
        refine wpAnyH_take (i := 0) (v := _) rfl (by kernel_rfl) (by kernel_rfl) (by kernel_rfl) (fun _ _ _ h => h) (Or.inl ⟨by rfl, by (intro w hSw; (try dsimp only at hSw); go_simp; (first | done | with_reducible rfl))⟩) (by assumption) ?_; (try simp only [Act.put, List.setIfInBounds_toArray, List.set_cons_zero, List.set_cons_succ, List.getElem_toArray, List.getElem_cons_zero, List.getElem_cons_succ]); refine wpAnyH_take (i := 1) (v := _) rfl (by kernel_rfl) (by kernel_rfl) (by kernel_rfl) (fun _ _ _ h => h) (Or.inl ⟨by rfl, by (intro w hSw; (try dsimp only at hSw); go_simp; (first | done | with_reducible rfl))⟩) (by assumption) ?_; (try simp only [Act.put, List.setIfInBounds_toArray, List.set_cons_zero, List.set_cons_succ, List.getElem_toArray, List.getElem_cons_zero, List.getElem_cons_succ]); refine wpAnyH_take (i := 4) (v := _) rfl (by kernel_rfl) (by kernel_rfl) (by kernel_rfl) (fun _ _ _ h => h) (Or.inl ⟨by rfl, by (intro w hSw; (try dsimp only at hSw); go_simp; (first | done | with_reducible rfl))⟩) (by assumption) ?_; (try simp only [Act.put, List.setIfInBounds_toArray, List.set_cons_zero, List.set_cons_succ, List.getElem_toArray, List.getElem_cons_zero, List.getElem_cons_succ]); refine wpAnyH_take (i := 5) (v := _) rfl (by kernel_rfl) (by kernel_rfl) (by kernel_rfl) (fun _ _ _ h => h) (Or.inl ⟨by rfl, by (intro w hSw; (try dsimp only at hSw); go_simp; (first | done | with_reducible rfl))⟩) (by assumption) ?_; (try simp only [Act.put, List.setIfInBounds_toArray, List.set_cons_zero, List.set_cons_succ, List.getElem_toArray, List.getElem_cons_zero, List.getElem_cons_succ]); refine wpAnyH_take (i := 6) (v := _) rfl (by kernel_rfl) (by kernel_rfl) (by kernel_rfl) (fun _ _ _ h => h) (Or.inl ⟨by rfl, by (intro w hSw; (try dsimp only at hSw); go_simp; (first | done | with_reducible rfl))⟩) (by assumption) ?_; (try simp only [Act.put, List.setIfInBounds_toArray, List.set_cons_zero, List.set_cons_succ, List.getElem_toArray, List.getElem_cons_zero, List.getElem_cons_succ]); refine wpAnyH_take (i := 7) (v := _) rfl (by kernel_rfl) (by kernel_rfl) (by kernel_rfl) (fun _ _ _ h => h) (Or.inl ⟨by rfl, by (intro w hSw; (try dsimp only at hSw); go_simp; (first | done | with_reducible rfl))⟩) (by assumption) ?_; (try simp only [Act.put, List.setIfInBounds_toArray, List.set_cons_zero, List.set_cons_succ, List.getElem_toArray, List.getElem_cons_zero, List.getElem_cons_succ]); refine wpAnyH_take (i := 8) (v := _) rfl (by kernel_rfl) (by kernel_rfl) (by kernel_rfl) (fun _ _ _ h => h) (Or.inl ⟨by rfl, by (intro w hSw; (try dsimp only at hSw); go_simp; (first | done | with_reducible rfl))⟩) (by assumption) ?_; (try simp only [Act.put, List.setIfInBounds_toArray, List.set_cons_zero, List.set_cons_succ, List.getElem_toArray, List.getElem_cons_zero, List.getElem_cons_succ]); refine wpAnyH_take (i := 9) (v := _) rfl (by kernel_rfl) (by kernel_rfl) (by kernel_rfl) (fun _ _ _ h => h) (Or.inl ⟨by rfl, by (intro w hSw; (try dsimp only at hSw); go_simp; (first | done | with_reducible rfl))⟩) (by assumption) ?_; (try simp only [Act.put, List.setIfInBounds_toArray, List.set_cons_zero, List.set_cons_succ, List.getElem_toArray, List.getElem_cons_zero, List.getElem_cons_succ]); refine wpAnyH_take (i := 10) (v := _) rfl (by kernel_rfl) (by kernel_rfl) (by kernel_rfl) (fun _ _ _ h => h) (Or.inl ⟨by rfl, by (intro w hSw; (try dsimp only at hSw); go_simp; (first | done | with_reducible rfl))⟩) (by assumption) ?_; (try simp only [Act.put, List.setIfInBounds_toArray, List.set_cons_zero, List.set_cons_succ, List.getElem_toArray, List.getElem_cons_zero, List.getElem_cons_succ])
        refine wpAnyH_ready (rs := [2, 12]) (by kernel_rfl) (by simp) ?_; refine AllReadyH.cons rfl (fun K hK => ?_) (AllReadyH.cons rfl (fun K hK => ?_) AllReadyH.nil)
        · go_simp; go_wp2_with (go_at_call 188; (with_reducible refine (HSG.out _ (bt3 (by (repeat (first | exact Below.refl _ _ | assumption | refine Below.drew ?_ | refine bdn ?_ | refine ba _ ?_ | refine bs0 _ _ ?_ ?_ | refine bs1 _ _ _ ?_ ?_ | refine bs2 _ _ _ _ ?_ ?_ | refine bs3 _ _ _ _ _ ?_ ?_ | refine bt3 (by assumption) ?_))) HF.out)).mono ?_); rintro e5 w5 ⟨rfl, hd5⟩; have hb := below_of_drewN hd5; replace HF := Hd.mk (bt3 hb (bt3 (by (repeat (first | exact Below.refl _ _ | assumption | refine Below.drew ?_ | refine bdn ?_ | refine ba _ ?_ | refine bs0 _ _ ?_ ?_ | refine bs1 _ _ _ ?_ ?_ | refine bs2 _ _ _ _ ?_ ?_ | refine bs3 _ _ _ _ _ ?_ ?_ | refine bt3 (by assumption) ?_))) HF.out)); (try replace HB := Hd.mk (HB.out.below (bt3 hb (by (repeat (first | exact Below.refl _ _ | assumption | refine Below.drew ?_ | refine bdn ?_ | refine ba _ ?_ | refine bs0 _ _ ?_ ?_ | refine bs1 _ _ _ ?_ ?_ | refine bs2 _ _ _ _ ?_ ?_ | refine bs3 _ _ _ _ _ ?_ ?_ | refine bt3 (by assumption) ?_)))) HB.out.lt)); clear hb hd5); refine hK.out _ _ (by first | assumption | exact hHeld | exact HT.out.cells | exact (HT.out.below (bt3 (by (repeat (first | exact Below.refl _ _ | assumption | refine Below.drew ?_ | refine bdn ?_ | refine ba _ ?_ | refine bs0 _ _ ?_ ?_ | refine bs1 _ _ _ ?_ ?_ | refine bs2 _ _ _ _ ?_ ?_ | refine bs3 _ _ _ _ _ ?_ ?_ | refine bt3 (by assumption) ?_))) HF.out)).cells) (fun hHeld => ?_); clear hK K; (try simp only [Act.put, List.setIfInBounds_toArray, List.set_cons_zero, List.set_cons_succ, List.getElem_toArray, List.getElem_cons_zero, List.getElem_cons_succ])
          refine wpAnyH_take (i := 3) (v := _) rfl (by kernel_rfl) (by kernel_rfl) (by kernel_rfl) (fun _ _ _ h => h) (Or.inl ⟨by rfl, by (intro w hSw; (try dsimp only at hSw); go_simp; (first | done | with_reducible rfl))⟩) (by assumption) ?_; (try simp only [Act.put, List.setIfInBounds_toArray, List.set_cons_zero, List.set_cons_succ, List.getElem_toArray, List.getElem_cons_zero, List.getElem_cons_succ])
          refine wpAnyH_ready (rs := [11, 12]) (by kernel_rfl) (by simp) ?_; refine AllReadyH.cons rfl (fun K hK => ?_) (AllReadyH.cons rfl (fun K hK => ?_) AllReadyH.nil)
          · go_simp; go_wp2_with (go_at_call 225; (with_reducible refine (HST.out _ (bt3 (by (repeat (first | exact Below.refl _ _ | assumption | refine Below.drew ?_ | refine bdn ?_ | refine ba _ ?_ | refine bs0 _ _ ?_ ?_ | refine bs1 _ _ _ ?_ ?_ | refine bs2 _ _ _ _ ?_ ?_ | refine bs3 _ _ _ _ _ ?_ ?_ | refine bt3 (by assumption) ?_))) HF.out)).mono ?_); rintro e6 w6 ⟨g6, rfl, hO, hb⟩; replace HF := Hd.mk (bt3 hb (bt3 (by (repeat (first | exact Below.refl _ _ | assumption | refine Below.drew ?_ | refine bdn ?_ | refine ba _ ?_ | refine bs0 _ _ ?_ ?_ | refine bs1 _ _ _ ?_ ?_ | refine bs2 _ _ _ _ ?_ ?_ | refine bs3 _ _ _ _ _ ?_ ?_ | refine bt3 (by assumption) ?_))) HF.out)); (try replace HB := Hd.mk (HB.out.below (bt3 hb (by (repeat (first | exact Below.refl _ _ | assumption | refine Below.drew ?_ | refine bdn ?_ | refine ba _ ?_ | refine bs0 _ _ ?_ ?_ | refine bs1 _ _ _ ?_ ?_ | refine bs2 _ _ _ _ ?_ ?_ | refine bs3 _ _ _ _ _ ?_ ?_ | refine bt3 (by assumption) ?_)))) HB.out.lt)); have HO := Hd.mk hO; clear hO hb); refine hK.out _ _ (by first | assumption | exact hHeld | exact HT.out.cells | exact (HT.out.below (bt3 (by (repeat (first | exact Below.refl _ _ | assumption | refine Below.drew ?_ | refine bdn ?_ | refine ba _ ?_ | refine bs0 _ _ ?_ ?_ | refine bs1 _ _ _ ?_ ?_ | refine bs2 _ _ _ _ ?_ ?_ | refine bs3 _ _ _ _ _ ?_ ?_ | refine bt3 (by assumption) ?_))) HF.out)).cells) (fun hHeld => ?_); clear hK K; (try simp only [Act.put, List.setIfInBounds_toArray, List.set_cons_zero, List.set_cons_succ, List.getElem_toArray, List.getElem_cons_zero, List.getElem_cons_succ])
            have HF0 := HF; have HO0 := HO; refine wpAnyH_ready (rs := [12]) (by kernel_rfl) (by simp) ?_; refine AllReadyH.cons rfl (fun K hK => ?_) AllReadyH.nil; go_simp; go_wp2_with fail; refine hK.out _ _ (by first | assumption | exact hHeld | exact HT.out.cells | exact (HT.out.below (bt3 (by (repeat (first | exact Below.refl _ _ | assumption | refine Below.drew ?_ | refine bdn ?_ | refine ba _ ?_ | refine bs0 _ _ ?_ ?_ | refine bs1 _ _ _ ?_ ?_ | refine bs2 _ _ _ _ ?_ ?_ | refine bs3 _ _ _ _ _ ?_ ?_ | refine bt3 (by assumption) ?_))) HF.out)).cells) (fun hHeld => ?_); clear hK K; (try simp only [Act.put, List.setIfInBounds_toArray, List.set_cons_zero, List.set_cons_succ, List.getElem_toArray, List.getElem_cons_zero, List.getElem_cons_succ]); have hE := fr_aln HF.out hHeld.1 (by (repeat (first | exact Below.refl _ _ | assumption | refine Below.drew ?_ | refine bdn ?_ | refine ba _ ?_ | refine bs0 _ _ ?_ ?_ | refine bs1 _ _ _ ?_ ?_ | refine bs2 _ _ _ _ ?_ ?_ | refine bs3 _ _ _ _ _ ?_ ?_ | refine bt3 (by assumption) ?_))); replace HF := Hd.mk hE.1; have HB := Hd.mk hE.2.1; have HG := Hd.mk hE.2.2; clear hE; refine wpAnyH_ready (rs := [13]) (by kernel_rfl) (by simp) ?_; refine AllReadyH.cons rfl (fun K hK => ?_) AllReadyH.nil; go_simp; go_wp2_with fail; refine hK.out _ _ (by first | assumption | exact (HT.out.below (by (repeat (first | with_reducible exact HF.out | with_reducible exact HF0.out | with_reducible refine Below.setCell ?_ HG.out _ | with_reducible refine Below.drew ?_ | with_reducible refine bdn ?_ | with_reducible refine ba _ ?_)))).cells) (fun hHeld => ?_); clear hK K; (try simp only [Act.put, List.setIfInBounds_toArray, List.set_cons_zero, List.set_cons_succ, List.getElem_toArray, List.getElem_cons_zero, List.getElem_cons_succ]); refine wpAnyH_done (by kernel_rfl) ?_ _; go_simp; go_wp2_with fail; go_meet; exact QuR.ofNew HF0.out HO0.out
          · go_simp; go_wp2_with fail; refine hK.out _ _ (by first | assumption | exact hHeld | exact HT.out.cells | exact (HT.out.below (bt3 (by (repeat (first | exact Below.refl _ _ | assumption | refine Below.drew ?_ | refine bdn ?_ | refine ba _ ?_ | refine bs0 _ _ ?_ ?_ | refine bs1 _ _ _ ?_ ?_ | refine bs2 _ _ _ _ ?_ ?_ | refine bs3 _ _ _ _ _ ?_ ?_ | refine bt3 (by assumption) ?_))) HF.out)).cells) (fun hHeld => ?_); clear hK K; (try simp only [Act.put, List.setIfInBounds_toArray, List.set_cons_zero, List.set_cons_succ, List.getElem_toArray, List.getElem_cons_zero, List.getElem_cons_succ]); have hE := fr_aln HF.out hHeld.1 (by (repeat (first | exact Below.refl _ _ | assumption | refine Below.drew ?_ | refine bdn ?_ | refine ba _ ?_ | refine bs0 _ _ ?_ ?_ | refine bs1 _ _ _ ?_ ?_ | refine bs2 _ _ _ _ ?_ ?_ | refine bs3 _ _ _ _ _ ?_ ?_ | refine bt3 (by assumption) ?_))); replace HF := Hd.mk hE.1; have HB := Hd.mk hE.2.1; have HG := Hd.mk hE.2.2; clear hE
            refine wpAnyH_ready (rs := [11]) (by kernel_rfl) (by simp) ?_; refine AllReadyH.cons rfl (fun K hK => ?_) AllReadyH.nil
            go_simp; go_wp2_with (go_at_call 225; (with_reducible refine (HST.out _ (bt3 (by (repeat (first | exact Below.refl _ _ | assumption | refine Below.drew ?_ | refine bdn ?_ | refine ba _ ?_ | refine bs0 _ _ ?_ ?_ | refine bs1 _ _ _ ?_ ?_ | refine bs2 _ _ _ _ ?_ ?_ | refine bs3 _ _ _ _ _ ?_ ?_ | refine bt3 (by assumption) ?_))) HF.out)).mono ?_); rintro e6 w6 ⟨g6, rfl, hO, hb⟩; replace HF := Hd.mk (bt3 hb (bt3 (by (repeat (first | exact Below.refl _ _ | assumption | refine Below.drew ?_ | refine bdn ?_ | refine ba _ ?_ | refine bs0 _ _ ?_ ?_ | refine bs1 _ _ _ ?_ ?_ | refine bs2 _ _ _ _ ?_ ?_ | refine bs3 _ _ _ _ _ ?_ ?_ | refine bt3 (by assumption) ?_))) HF.out)); (try replace HB := Hd.mk (HB.out.below (bt3 hb (by (repeat (first | exact Below.refl _ _ | assumption | refine Below.drew ?_ | refine bdn ?_ | refine ba _ ?_ | refine bs0 _ _ ?_ ?_ | refine bs1 _ _ _ ?_ ?_ | refine bs2 _ _ _ _ ?_ ?_ | refine bs3 _ _ _ _ _ ?_ ?_ | refine bt3 (by assumption) ?_)))) HB.out.lt)); have HO := Hd.mk hO; clear hO hb); refine hK.out _ _ (by first | assumption | exact hHeld | exact HT.out.cells | exact (HT.out.below (bt3 (by (repeat (first | exact Below.refl _ _ | assumption | refine Below.drew ?_ | refine bdn ?_ | refine ba _ ?_ | refine bs0 _ _ ?_ ?_ | refine bs1 _ _ _ ?_ ?_ | refine bs2 _ _ _ _ ?_ ?_ | refine bs3 _ _ _ _ _ ?_ ?_ | refine bt3 (by assumption) ?_))) HF.out)).cells) (fun hHeld => ?_); clear hK K; (try simp only [Act.put, List.setIfInBounds_toArray, List.set_cons_zero, List.set_cons_succ, List.getElem_toArray, List.getElem_cons_zero, List.getElem_cons_succ])
            have g0 : World.cell? _ _ = some (.pointer none) := HB.out.cell 0; have g1 : World.cell? _ _ = some (.int .i64 0) := HB.out.cell 1; have e0 := HB.out.frozen 0; have e1 := HB.out.frozen 1; refine wpAnyH_ready (rs := [13]) (by kernel_rfl) (by simp) ?_; refine AllReadyH.cons rfl (fun K hK => ?_) AllReadyH.nil; go_simp; go_wp2_with fail; refine hK.out _ _ (by first | assumption | exact (HT.out.below (by (repeat (first | with_reducible exact HF.out | with_reducible exact HF0.out | with_reducible refine Below.setCell ?_ HG.out _ | with_reducible refine Below.drew ?_ | with_reducible refine bdn ?_ | with_reducible refine ba _ ?_)))).cells) (fun hHeld => ?_); clear hK K; (try simp only [Act.put, List.setIfInBounds_toArray, List.set_cons_zero, List.set_cons_succ, List.getElem_toArray, List.getElem_cons_zero, List.getElem_cons_succ]); refine wpAnyH_done (by kernel_rfl) ?_ _; go_simp; go_wp2_with fail; go_meet; exact QuR.ofSet HF.out HB.out HG.out HO.out
        · go_simp; go_wp2_with fail; refine hK.out _ _ (by first | assumption | exact hHeld | exact HT.out.cells | exact (HT.out.below (bt3 (by (repeat (first | exact Below.refl _ _ | assumption | refine Below.drew ?_ | refine bdn ?_ | refine ba _ ?_ | refine bs0 _ _ ?_ ?_ | refine bs1 _ _ _ ?_ ?_ | refine bs2 _ _ _ _ ?_ ?_ | refine bs3 _ _ _ _ _ ?_ ?_ | refine bt3 (by assumption) ?_))) HF.out)).cells) (fun hHeld => ?_); clear hK K; (try simp only [Act.put, List.setIfInBounds_toArray, List.set_cons_zero, List.set_cons_succ, List.getElem_toArray, List.getElem_cons_zero, List.getElem_cons_succ]); have hE := fr_aln HF.out hHeld.1 (by (repeat (first | exact Below.refl _ _ | assumption | refine Below.drew ?_ | refine bdn ?_ | refine ba _ ?_ | refine bs0 _ _ ?_ ?_ | refine bs1 _ _ _ ?_ ?_ | refine bs2 _ _ _ _ ?_ ?_ | refine bs3 _ _ _ _ _ ?_ ?_ | refine bt3 (by assumption) ?_))); replace HF := Hd.mk hE.1; have HB := Hd.mk hE.2.1; have HG := Hd.mk hE.2.2; clear hE
          refine wpAnyH_ready (rs := [2]) (by kernel_rfl) (by simp) ?_; refine AllReadyH.cons rfl (fun K hK => ?_) AllReadyH.nil
          go_simp; go_wp2_with (go_at_call 188; (with_reducible refine (HSG.out _ (bt3 (by (repeat (first | exact Below.refl _ _ | assumption | refine Below.drew ?_ | refine bdn ?_ | refine ba _ ?_ | refine bs0 _ _ ?_ ?_ | refine bs1 _ _ _ ?_ ?_ | refine bs2 _ _ _ _ ?_ ?_ | refine bs3 _ _ _ _ _ ?_ ?_ | refine bt3 (by assumption) ?_))) HF.out)).mono ?_); rintro e5 w5 ⟨rfl, hd5⟩; have hb := below_of_drewN hd5; replace HF := Hd.mk (bt3 hb (bt3 (by (repeat (first | exact Below.refl _ _ | assumption | refine Below.drew ?_ | refine bdn ?_ | refine ba _ ?_ | refine bs0 _ _ ?_ ?_ | refine bs1 _ _ _ ?_ ?_ | refine bs2 _ _ _ _ ?_ ?_ | refine bs3 _ _ _ _ _ ?_ ?_ | refine bt3 (by assumption) ?_))) HF.out)); (try replace HB := Hd.mk (HB.out.below (bt3 hb (by (repeat (first | exact Below.refl _ _ | assumption | refine Below.drew ?_ | refine bdn ?_ | refine ba _ ?_ | refine bs0 _ _ ?_ ?_ | refine bs1 _ _ _ ?_ ?_ | refine bs2 _ _ _ _ ?_ ?_ | refine bs3 _ _ _ _ _ ?_ ?_ | refine bt3 (by assumption) ?_)))) HB.out.lt)); clear hb hd5); refine hK.out _ _ (by first | assumption | exact hHeld | exact HT.out.cells | exact (HT.out.below (bt3 (by (repeat (first | exact Below.refl _ _ | assumption | refine Below.drew ?_ | refine bdn ?_ | refine ba _ ?_ | refine bs0 _ _ ?_ ?_ | refine bs1 _ _ _ ?_ ?_ | refine bs2 _ _ _ _ ?_ ?_ | refine bs3 _ _ _ _ _ ?_ ?_ | refine bt3 (by assumption) ?_))) HF.out)).cells) (fun hHeld => ?_); clear hK K; (try simp only [Act.put, List.setIfInBounds_toArray, List.set_cons_zero, List.set_cons_succ, List.getElem_toArray, List.getElem_cons_zero, List.getElem_cons_succ])
          refine wpAnyH_take (i := 3) (v := _) rfl (by kernel_rfl) (by kernel_rfl) (by kernel_rfl) (fun _ _ _ h => h) (Or.inl ⟨by rfl, by (intro w hSw; (try dsimp only at hSw); go_simp; (first | done | with_reducible rfl))⟩) (by assumption) ?_; (try simp only [Act.put, List.setIfInBounds_toArray, List.set_cons_zero, List.set_cons_succ, List.getElem_toArray, List.getElem_cons_zero, List.getElem_cons_succ])
          refine wpAnyH_ready (rs := [11]) (by kernel_rfl) (by simp) ?_; refine AllReadyH.cons rfl (fun K hK => ?_) AllReadyH.nil
          go_simp; go_wp2_with (go_at_call 225; (with_reducible refine (HST.out _ (bt3 (by (repeat (first | exact Below.refl _ _ | assumption | refine Below.drew ?_ | refine bdn ?_ | refine ba _ ?_ | refine bs0 _ _ ?_ ?_ | refine bs1 _ _ _ ?_ ?_ | refine bs2 _ _ _ _ ?_ ?_ | refine bs3 _ _ _ _ _ ?_ ?_ | refine bt3 (by assumption) ?_))) HF.out)).mono ?_); rintro e6 w6 ⟨g6, rfl, hO, hb⟩; replace HF := Hd.mk (bt3 hb (bt3 (by (repeat (first | exact Below.refl _ _ | assumption | refine Below.drew ?_ | refine bdn ?_ | refine ba _ ?_ | refine bs0 _ _ ?_ ?_ | refine bs1 _ _ _ ?_ ?_ | refine bs2 _ _ _ _ ?_ ?_ | refine bs3 _ _ _ _ _ ?_ ?_ | refine bt3 (by assumption) ?_))) HF.out)); (try replace HB := Hd.mk (HB.out.below (bt3 hb (by (repeat (first | exact Below.refl _ _ | assumption | refine Below.drew ?_ | refine bdn ?_ | refine ba _ ?_ | refine bs0 _ _ ?_ ?_ | refine bs1 _ _ _ ?_ ?_ | refine bs2 _ _ _ _ ?_ ?_ | refine bs3 _ _ _ _ _ ?_ ?_ | refine bt3 (by assumption) ?_)))) HB.out.lt)); have HO := Hd.mk hO; clear hO hb); refine hK.out _ _ (by first | assumption | exact hHeld | exact HT.out.cells | exact (HT.out.below (bt3 (by (repeat (first | exact Below.refl _ _ | assumption | refine Below.drew ?_ | refine bdn ?_ | refine ba _ ?_ | refine bs0 _ _ ?_ ?_ | refine bs1 _ _ _ ?_ ?_ | refine bs2 _ _ _ _ ?_ ?_ | refine bs3 _ _ _ _ _ ?_ ?_ | refine bt3 (by assumption) ?_))) HF.out)).cells) (fun hHeld => ?_); clear hK K; (try simp only [Act.put, List.setIfInBounds_toArray, List.set_cons_zero, List.set_cons_succ, List.getElem_toArray, List.getElem_cons_zero, List.getElem_cons_succ])
          have g0 : World.cell? _ _ = some (.pointer none) := HB.out.cell 0; have g1 : World.cell? _ _ = some (.int .i64 0) := HB.out.cell 1; have e0 := HB.out.frozen 0; have e1 := HB.out.frozen 1; refine wpAnyH_ready (rs := [13]) (by kernel_rfl) (by simp) ?_; refine AllReadyH.cons rfl (fun K hK => ?_) AllReadyH.nil; go_simp; go_wp2_with fail; refine hK.out _ _ (by first | assumption | exact (HT.out.below (by (repeat (first | with_reducible exact HF.out | with_reducible exact HF0.out | with_reducible refine Below.setCell ?_ HG.out _ | with_reducible refine Below.drew ?_ | with_reducible refine bdn ?_ | with_reducible refine ba _ ?_)))).cells) (fun hHeld => ?_); clear hK K; (try simp only [Act.put, List.setIfInBounds_toArray, List.set_cons_zero, List.set_cons_succ, List.getElem_toArray, List.getElem_cons_zero, List.getElem_cons_succ]); refine wpAnyH_done (by kernel_rfl) ?_ _; go_simp; go_wp2_with fail; go_meet; exact QuR.ofSet HF.out HB.out HG.out HO.out
      · have HM : Hd (qM ma mb = qN ma mb / (mb.natAbs : Int) * 2 ^ 2 + 1) := ⟨by unfold qM; rw [if_neg hr]⟩
        have hrs : (qN ma mb % (mb.natAbs : Int)).sign = 1 := Int.sign_eq_one_of_pos (by have := HR9.out; omega)
        have HSG := Hd.mk (fun (w' : World) (hb : Below w4.heap.size w4 w') => m_Sign w3.heap.size _ w' (H4.out.2.below hb))
        rw [hrs] at HSG
        have HST := Hd.mk (fun (w' : World) (hb : Below w4.heap.size w4 w') => n_StickyF w2.heap.size _ (ea - eb - (qby ma mb : Int)) w' (H4.out.1.below hb) ⟨by omega, by omega⟩ HB4.out.1 HB4.out.2)
        rw [← HM.out] at HST
        clear hrs
        refine wp_region_held_drew (S := (fun w' => w'.cell? ⟨w.heap.size, 0, none⟩ = some (.pointer (some ⟨ga, 0, none⟩)) ∧ w'.cell? ⟨w.heap.size, 1, none⟩ = some (.int .i64 ea) ∧ w'.cell? ⟨w.heap.size + 1, 0, none⟩ = some (.pointer (some ⟨gb, 0, none⟩)) ∧ w'.cell? ⟨w.heap.size + 1, 1, none⟩ = some (.int .i64 eb))) (by kernel_rfl) HT.out.cells (fun hHeld => ?_)
        refine wpAnyH_take (i := 0) (v := _) rfl (by kernel_rfl) (by kernel_rfl) (by kernel_rfl) (fun _ _ _ h => h) (Or.inl ⟨by rfl, by (intro w hSw; (try dsimp only at hSw); go_simp; (first | done | with_reducible rfl))⟩) (by assumption) ?_; (try simp only [Act.put, List.setIfInBounds_toArray, List.set_cons_zero, List.set_cons_succ, List.getElem_toArray, List.getElem_cons_zero, List.getElem_cons_succ]); refine wpAnyH_take (i := 1) (v := _) rfl (by kernel_rfl) (by kernel_rfl) (by kernel_rfl) (fun _ _ _ h => h) (Or.inl ⟨by rfl, by (intro w hSw; (try dsimp only at hSw); go_simp; (first | done | with_reducible rfl))⟩) (by assumption) ?_; (try simp only [Act.put, List.setIfInBounds_toArray, List.set_cons_zero, List.set_cons_succ, List.getElem_toArray, List.getElem_cons_zero, List.getElem_cons_succ]); refine wpAnyH_take (i := 4) (v := _) rfl (by kernel_rfl) (by kernel_rfl) (by kernel_rfl) (fun _ _ _ h => h) (Or.inl ⟨by rfl, by (intro w hSw; (try dsimp only at hSw); go_simp; (first | done | with_reducible rfl))⟩) (by assumption) ?_; (try simp only [Act.put, List.setIfInBounds_toArray, List.set_cons_zero, List.set_cons_succ, List.getElem_toArray, List.getElem_cons_zero, List.getElem_cons_succ]); refine wpAnyH_take (i := 5) (v := _) rfl (by kernel_rfl) (by kernel_rfl) (by kernel_rfl) (fun _ _ _ h => h) (Or.inl ⟨by rfl, by (intro w hSw; (try dsimp only at hSw); go_simp; (first | done | with_reducible rfl))⟩) (by assumption) ?_; (try simp only [Act.put, List.setIfInBounds_toArray, List.set_cons_zero, List.set_cons_succ, List.getElem_toArray, List.getElem_cons_zero, List.getElem_cons_succ]); refine wpAnyH_take (i := 6) (v := _) rfl (by kernel_rfl) (by kernel_rfl) (by kernel_rfl) (fun _ _ _ h => h) (Or.inl ⟨by rfl, by (intro w hSw; (try dsimp only at hSw); go_simp; (first | done | with_reducible rfl))⟩) (by assumption) ?_; (try simp only [Act.put, List.setIfInBounds_toArray, List.set_cons_zero, List.set_cons_succ, List.getElem_toArray, List.getElem_cons_zero, List.getElem_cons_succ]); refine wpAnyH_take (i := 7) (v := _) rfl (by kernel_rfl) (by kernel_rfl) (by kernel_rfl) (fun _ _ _ h => h) (Or.inl ⟨by rfl, by (intro w hSw; (try dsimp only at hSw); go_simp; (first | done | with_reducible rfl))⟩) (by assumption) ?_; (try simp only [Act.put, List.setIfInBounds_toArray, List.set_cons_zero, List.set_cons_succ, List.getElem_toArray, List.getElem_cons_zero, List.getElem_cons_succ]); refine wpAnyH_take (i := 8) (v := _) rfl (by kernel_rfl) (by kernel_rfl) (by kernel_rfl) (fun _ _ _ h => h) (Or.inl ⟨by rfl, by (intro w hSw; (try dsimp only at hSw); go_simp; (first | done | with_reducible rfl))⟩) (by assumption) ?_; (try simp only [Act.put, List.setIfInBounds_toArray, List.set_cons_zero, List.set_cons_succ, List.getElem_toArray, List.getElem_cons_zero, List.getElem_cons_succ]); refine wpAnyH_take (i := 9) (v := _) rfl (by kernel_rfl) (by kernel_rfl) (by kernel_rfl) (fun _ _ _ h => h) (Or.inl ⟨by rfl, by (intro w hSw; (try dsimp only at hSw); go_simp; (first | done | with_reducible rfl))⟩) (by assumption) ?_; (try simp only [Act.put, List.setIfInBounds_toArray, List.set_cons_zero, List.set_cons_succ, List.getElem_toArray, List.getElem_cons_zero, List.getElem_cons_succ]); refine wpAnyH_take (i := 10) (v := _) rfl (by kernel_rfl) (by kernel_rfl) (by kernel_rfl) (fun _ _ _ h => h) (Or.inl ⟨by rfl, by (intro w hSw; (try dsimp only at hSw); go_simp; (first | done | with_reducible rfl))⟩) (by assumption) ?_; (try simp only [Act.put, List.setIfInBounds_toArray, List.set_cons_zero, List.set_cons_succ, List.getElem_toArray, List.getElem_cons_zero, List.getElem_cons_succ])
        refine wpAnyH_ready (rs := [2, 12]) (by kernel_rfl) (by simp) ?_; refine AllReadyH.cons rfl (fun K hK => ?_) (AllReadyH.cons rfl (fun K hK => ?_) AllReadyH.nil)
        · go_simp; go_wp2_with (go_at_call 188; (with_reducible refine (HSG.out _ (bt3 (by (repeat (first | exact Below.refl _ _ | assumption | refine Below.drew ?_ | refine bdn ?_ | refine ba _ ?_ | refine bs0 _ _ ?_ ?_ | refine bs1 _ _ _ ?_ ?_ | refine bs2 _ _ _ _ ?_ ?_ | refine bs3 _ _ _ _ _ ?_ ?_ | refine bt3 (by assumption) ?_))) HF.out)).mono ?_); rintro e5 w5 ⟨rfl, hd5⟩; have hb := below_of_drewN hd5; replace HF := Hd.mk (bt3 hb (bt3 (by (repeat (first | exact Below.refl _ _ | assumption | refine Below.drew ?_ | refine bdn ?_ | refine ba _ ?_ | refine bs0 _ _ ?_ ?_ | refine bs1 _ _ _ ?_ ?_ | refine bs2 _ _ _ _ ?_ ?_ | refine bs3 _ _ _ _ _ ?_ ?_ | refine bt3 (by assumption) ?_))) HF.out)); (try replace HB := Hd.mk (HB.out.below (bt3 hb (by (repeat (first | exact Below.refl _ _ | assumption | refine Below.drew ?_ | refine bdn ?_ | refine ba _ ?_ | refine bs0 _ _ ?_ ?_ | refine bs1 _ _ _ ?_ ?_ | refine bs2 _ _ _ _ ?_ ?_ | refine bs3 _ _ _ _ _ ?_ ?_ | refine bt3 (by assumption) ?_)))) HB.out.lt)); clear hb hd5); refine hK.out _ _ (by first | assumption | exact hHeld | exact HT.out.cells | exact (HT.out.below (bt3 (by (repeat (first | exact Below.refl _ _ | assumption | refine Below.drew ?_ | refine bdn ?_ | refine ba _ ?_ | refine bs0 _ _ ?_ ?_ | refine bs1 _ _ _ ?_ ?_ | refine bs2 _ _ _ _ ?_ ?_ | refine bs3 _ _ _ _ _ ?_ ?_ | refine bt3 (by assumption) ?_))) HF.out)).cells) (fun hHeld => ?_); clear hK K; (try simp only [Act.put, List.setIfInBounds_toArray, List.set_cons_zero, List.set_cons_succ, List.getElem_toArray, List.getElem_cons_zero, List.getElem_cons_succ])
          refine wpAnyH_take (i := 3) (v := _) rfl (by kernel_rfl) (by kernel_rfl) (by kernel_rfl) (fun _ _ _ h => h) (Or.inl ⟨by rfl, by (intro w hSw; (try dsimp only at hSw); go_simp; (first | done | with_reducible rfl))⟩) (by assumption) ?_; (try simp only [Act.put, List.setIfInBounds_toArray, List.set_cons_zero, List.set_cons_succ, List.getElem_toArray, List.getElem_cons_zero, List.getElem_cons_succ])
          refine wpAnyH_ready (rs := [11, 12]) (by kernel_rfl) (by simp) ?_; refine AllReadyH.cons rfl (fun K hK => ?_) (AllReadyH.cons rfl (fun K hK => ?_) AllReadyH.nil)
          · go_simp; go_wp2_with (go_at_call 225; (with_reducible refine (HST.out _ (bt3 (by (repeat (first | exact Below.refl _ _ | assumption | refine Below.drew ?_ | refine bdn ?_ | refine ba _ ?_ | refine bs0 _ _ ?_ ?_ | refine bs1 _ _ _ ?_ ?_ | refine bs2 _ _ _ _ ?_ ?_ | refine bs3 _ _ _ _ _ ?_ ?_ | refine bt3 (by assumption) ?_))) HF.out)).mono ?_); rintro e6 w6 ⟨g6, rfl, hO, hb⟩; replace HF := Hd.mk (bt3 hb (bt3 (by (repeat (first | exact Below.refl _ _ | assumption | refine Below.drew ?_ | refine bdn ?_ | refine ba _ ?_ | refine bs0 _ _ ?_ ?_ | refine bs1 _ _ _ ?_ ?_ | refine bs2 _ _ _ _ ?_ ?_ | refine bs3 _ _ _ _ _ ?_ ?_ | refine bt3 (by assumption) ?_))) HF.out)); (try replace HB := Hd.mk (HB.out.below (bt3 hb (by (repeat (first | exact Below.refl _ _ | assumption | refine Below.drew ?_ | refine bdn ?_ | refine ba _ ?_ | refine bs0 _ _ ?_ ?_ | refine bs1 _ _ _ ?_ ?_ | refine bs2 _ _ _ _ ?_ ?_ | refine bs3 _ _ _ _ _ ?_ ?_ | refine bt3 (by assumption) ?_)))) HB.out.lt)); have HO := Hd.mk hO; clear hO hb); refine hK.out _ _ (by first | assumption | exact hHeld | exact HT.out.cells | exact (HT.out.below (bt3 (by (repeat (first | exact Below.refl _ _ | assumption | refine Below.drew ?_ | refine bdn ?_ | refine ba _ ?_ | refine bs0 _ _ ?_ ?_ | refine bs1 _ _ _ ?_ ?_ | refine bs2 _ _ _ _ ?_ ?_ | refine bs3 _ _ _ _ _ ?_ ?_ | refine bt3 (by assumption) ?_))) HF.out)).cells) (fun hHeld => ?_); clear hK K; (try simp only [Act.put, List.setIfInBounds_toArray, List.set_cons_zero, List.set_cons_succ, List.getElem_toArray, List.getElem_cons_zero, List.getElem_cons_succ])
            have HF0 := HF; have HO0 := HO; refine wpAnyH_ready (rs := [12]) (by kernel_rfl) (by simp) ?_; refine AllReadyH.cons rfl (fun K hK => ?_) AllReadyH.nil; go_simp; go_wp2_with fail; refine hK.out _ _ (by first | assumption | exact hHeld | exact HT.out.cells | exact (HT.out.below (bt3 (by (repeat (first | exact Below.refl _ _ | assumption | refine Below.drew ?_ | refine bdn ?_ | refine ba _ ?_ | refine bs0 _ _ ?_ ?_ | refine bs1 _ _ _ ?_ ?_ | refine bs2 _ _ _ _ ?_ ?_ | refine bs3 _ _ _ _ _ ?_ ?_ | refine bt3 (by assumption) ?_))) HF.out)).cells) (fun hHeld => ?_); clear hK K; (try simp only [Act.put, List.setIfInBounds_toArray, List.set_cons_zero, List.set_cons_succ, List.getElem_toArray, List.getElem_cons_zero, List.getElem_cons_succ]); have hE := fr_aln HF.out hHeld.1 (by (repeat (first | exact Below.refl _ _ | assumption | refine Below.drew ?_ | refine bdn ?_ | refine ba _ ?_ | refine bs0 _ _ ?_ ?_ | refine bs1 _ _ _ ?_ ?_ | refine bs2 _ _ _ _ ?_ ?_ | refine bs3 _ _ _ _ _ ?_ ?_ | refine bt3 (by assumption) ?_))); replace HF := Hd.mk hE.1; have HB := Hd.mk hE.2.1; have HG := Hd.mk hE.2.2; clear hE; refine wpAnyH_ready (rs := [13]) (by kernel_rfl) (by simp) ?_; refine AllReadyH.cons rfl (fun K hK => ?_) AllReadyH.nil; go_simp; go_wp2_with fail; refine hK.out _ _ (by first | assumption | exact (HT.out.below (by (repeat (first | with_reducible exact HF.out | with_reducible exact HF0.out | with_reducible refine Below.setCell ?_ HG.out _ | with_reducible refine Below.drew ?_ | with_reducible refine bdn ?_ | with_reducible refine ba _ ?_)))).cells) (fun hHeld => ?_); clear hK K; (try simp only [Act.put, List.setIfInBounds_toArray, List.set_cons_zero, List.set_cons_succ, List.getElem_toArray, List.getElem_cons_zero, List.getElem_cons_succ]); refine wpAnyH_done (by kernel_rfl) ?_ _; go_simp; go_wp2_with fail; go_meet; exact QuR.ofNew HF0.out HO0.out
          · go_simp; go_wp2_with fail; refine hK.out _ _ (by first | assumption | exact hHeld | exact HT.out.cells | exact (HT.out.below (bt3 (by (repeat (first | exact Below.refl _ _ | assumption | refine Below.drew ?_ | refine bdn ?_ | refine ba _ ?_ | refine bs0 _ _ ?_ ?_ | refine bs1 _ _ _ ?_ ?_ | refine bs2 _ _ _ _ ?_ ?_ | refine bs3 _ _ _ _ _ ?_ ?_ | refine bt3 (by assumption) ?_))) HF.out)).cells) (fun hHeld => ?_); clear hK K; (try simp only [Act.put, List.setIfInBounds_toArray, List.set_cons_zero, List.set_cons_succ, List.getElem_toArray, List.getElem_cons_zero, List.getElem_cons_succ]); have hE := fr_aln HF.out hHeld.1 (by (repeat (first | exact Below.refl _ _ | assumption | refine Below.drew ?_ | refine bdn ?_ | refine ba _ ?_ | refine bs0 _ _ ?_ ?_ | refine bs1 _ _ _ ?_ ?_ | refine bs2 _ _ _ _ ?_ ?_ | refine bs3 _ _ _ _ _ ?_ ?_ | refine bt3 (by assumption) ?_))); replace HF := Hd.mk hE.1; have HB := Hd.mk hE.2.1; have HG := Hd.mk hE.2.2; clear hE
            refine wpAnyH_ready (rs := [11]) (by kernel_rfl) (by simp) ?_; refine AllReadyH.cons rfl (fun K hK => ?_) AllReadyH.nil
            go_simp; go_wp2_with (go_at_call 225; (with_reducible refine (HST.out _ (bt3 (by (repeat (first | exact Below.refl _ _ | assumption | refine Below.drew ?_ | refine bdn ?_ | refine ba _ ?_ | refine bs0 _ _ ?_ ?_ | refine bs1 _ _ _ ?_ ?_ | refine bs2 _ _ _ _ ?_ ?_ | refine bs3 _ _ _ _ _ ?_ ?_ | refine bt3 (by assumption) ?_))) HF.out)).mono ?_); rintro e6 w6 ⟨g6, rfl, hO, hb⟩; replace HF := Hd.mk (bt3 hb (bt3 (by (repeat (first | exact Below.refl _ _ | assumption | refine Below.drew ?_ | refine bdn ?_ | refine ba _ ?_ | refine bs0 _ _ ?_ ?_ | refine bs1 _ _ _ ?_ ?_ | refine bs2 _ _ _ _ ?_ ?_ | refine bs3 _ _ _ _ _ ?_ ?_ | refine bt3 (by assumption) ?_))) HF.out)); (try replace HB := Hd.mk (HB.out.below (bt3 hb (by (repeat (first | exact Below.refl _ _ | assumption | refine Below.drew ?_ | refine bdn ?_ | refine ba _ ?_ | refine bs0 _ _ ?_ ?_ | refine bs1 _ _ _ ?_ ?_ | refine bs2 _ _ _ _ ?_ ?_ | refine bs3 _ _ _ _ _ ?_ ?_ | refine bt3 (by assumption) ?_)))) HB.out.lt)); have HO := Hd.mk hO; clear hO hb); refine hK.out _ _ (by first | assumption | exact hHeld | exact HT.out.cells | exact (HT.out.below (bt3 (by (repeat (first | exact Below.refl _ _ | assumption | refine Below.drew ?_ | refine bdn ?_ | refine ba _ ?_ | refine bs0 _ _ ?_ ?_ | refine bs1 _ _ _ ?_ ?_ | refine bs2 _ _ _ _ ?_ ?_ | refine bs3 _ _ _ _ _ ?_ ?_ | refine bt3 (by assumption) ?_))) HF.out)).cells) (fun hHeld => ?_); clear hK K; (try simp only [Act.put, List.setIfInBounds_toArray, List.set_cons_zero, List.set_cons_succ, List.getElem_toArray, List.getElem_cons_zero, List.getElem_cons_succ])
            have g0 : World.cell? _ _ = some (.pointer none) := HB.out.cell 0; have g1 : World.cell? _ _ = some (.int .i64 0) := HB.out.cell 1; have e0 := HB.out.frozen 0; have e1 := HB.out.frozen 1; refine wpAnyH_ready (rs := [13]) (by kernel_rfl) (by simp) ?_; refine AllReadyH.cons rfl (fun K hK => ?_) AllReadyH.nil; go_simp; go_wp2_with fail; refine hK.out _ _ (by first | assumption | exact (HT.out.below (by (repeat (first | with_reducible exact HF.out | with_reducible exact HF0.out | with_reducible refine Below.setCell ?_ HG.out _ | with_reducible refine Below.drew ?_ | with_reducible refine bdn ?_ | with_reducible refine ba _ ?_)))).cells) (fun hHeld => ?_); clear hK K; (try simp only [Act.put, List.setIfInBounds_toArray, List.set_cons_zero, List.set_cons_succ, List.getElem_toArray, List.getElem_cons_zero, List.getElem_cons_succ]); refine wpAnyH_done (by kernel_rfl) ?_ _; go_simp; go_wp2_with fail; go_meet; exact QuR.ofSet HF.out HB.out HG.out HO.out
        · go_simp; go_wp2_with fail; refine hK.out _ _ (by first | assumption | exact hHeld | exact HT.out.cells | exact (HT.out.below (bt3 (by (repeat (first | exact Below.refl _ _ | assumption | refine Below.drew ?_ | refine bdn ?_ | refine ba _ ?_ | refine bs0 _ _ ?_ ?_ | refine bs1 _ _ _ ?_ ?_ | refine bs2 _ _ _ _ ?_ ?_ | refine bs3 _ _ _ _ _ ?_ ?_ | refine bt3 (by assumption) ?_))) HF.out)).cells) (fun hHeld => ?_); clear hK K; (try simp only [Act.put, List.setIfInBounds_toArray, List.set_cons_zero, List.set_cons_succ, List.getElem_toArray, List.getElem_cons_zero, List.getElem_cons_succ]); have hE := fr_aln HF.out hHeld.1 (by (repeat (first | exact Below.refl _ _ | assumption | refine Below.drew ?_ | refine bdn ?_ | refine ba _ ?_ | refine bs0 _ _ ?_ ?_ | refine bs1 _ _ _ ?_ ?_ | refine bs2 _ _ _ _ ?_ ?_ | refine bs3 _ _ _ _ _ ?_ ?_ | refine bt3 (by assumption) ?_))); replace HF := Hd.mk hE.1; have HB := Hd.mk hE.2.1; have HG := Hd.mk hE.2.2; clear hE
          refine wpAnyH_ready (rs := [2]) (by kernel_rfl) (by simp) ?_; refine AllReadyH.cons rfl (fun K hK => ?_) AllReadyH.nil
          go_simp; go_wp2_with (go_at_call 188; (with_reducible refine (HSG.out _ (bt3 (by (repeat (first | exact Below.refl _ _ | assumption | refine Below.drew ?_ | refine bdn ?_ | refine ba _ ?_ | refine bs0 _ _ ?_ ?_ | refine bs1 _ _ _ ?_ ?_ | refine bs2 _ _ _ _ ?_ ?_ | refine bs3 _ _ _ _ _ ?_ ?_ | refine bt3 (by assumption) ?_))) HF.out)).mono ?_); rintro e5 w5 ⟨rfl, hd5⟩; have hb := below_of_drewN hd5; replace HF := Hd.mk (bt3 hb (bt3 (by (repeat (first | exact Below.refl _ _ | assumption | refine Below.drew ?_ | refine bdn ?_ | refine ba _ ?_ | refine bs0 _ _ ?_ ?_ | refine bs1 _ _ _ ?_ ?_ | refine bs2 _ _ _ _ ?_ ?_ | refine bs3 _ _ _ _ _ ?_ ?_ | refine bt3 (by assumption) ?_))) HF.out)); (try replace HB := Hd.mk (HB.out.below (bt3 hb (by (repeat (first | exact Below.refl _ _ | assumption | refine Below.drew ?_ | refine bdn ?_ | refine ba _ ?_ | refine bs0 _ _ ?_ ?_ | refine bs1 _ _ _ ?_ ?_ | refine bs2 _ _ _ _ ?_ ?_ | refine bs3 _ _ _ _ _ ?_ ?_ | refine bt3 (by assumption) ?_)))) HB.out.lt)); clear hb hd5); refine hK.out _ _ (by first | assumption | exact hHeld | exact HT.out.cells | exact (HT.out.below (bt3 (by (repeat (first | exact Below.refl _ _ | assumption | refine Below.drew ?_ | refine bdn ?_ | refine ba _ ?_ | refine bs0 _ _ ?_ ?_ | refine bs1 _ _ _ ?_ ?_ | refine bs2 _ _ _ _ ?_ ?_ | refine bs3 _ _ _ _ _ ?_ ?_ | refine bt3 (by assumption) ?_))) HF.out)).cells) (fun hHeld => ?_); clear hK K; (try simp only [Act.put, List.setIfInBounds_toArray, List.set_cons_zero, List.set_cons_succ, List.getElem_toArray, List.getElem_cons_zero, List.getElem_cons_succ])
          refine wpAnyH_take (i := 3) (v := _) rfl (by kernel_rfl) (by kernel_rfl) (by kernel_rfl) (fun _ _ _ h => h) (Or.inl ⟨by rfl, by (intro w hSw; (try dsimp only at hSw); go_simp; (first | done | with_reducible rfl))⟩) (by assumption) ?_; (try simp only [Act.put, List.setIfInBounds_toArray, List.set_cons_zero, List.set_cons_succ, List.getElem_toArray, List.getElem_cons_zero, List.getElem_cons_succ])
          refine wpAnyH_ready (rs := [11]) (by kernel_rfl) (by simp) ?_; refine AllReadyH.cons rfl (fun K hK => ?_) AllReadyH.nil
          go_simp; go_wp2_with (go_at_call 225; (with_reducible refine (HST.out _ (bt3 (by (repeat (first | exact Below.refl _ _ | assumption | refine Below.drew ?_ | refine bdn ?_ | refine ba _ ?_ | refine bs0 _ _ ?_ ?_ | refine bs1 _ _ _ ?_ ?_ | refine bs2 _ _ _ _ ?_ ?_ | refine bs3 _ _ _ _ _ ?_ ?_ | refine bt3 (by assumption) ?_))) HF.out)).mono ?_); rintro e6 w6 ⟨g6, rfl, hO, hb⟩; replace HF := Hd.mk (bt3 hb (bt3 (by (repeat (first | exact Below.refl _ _ | assumption | refine Below.drew ?_ | refine bdn ?_ | refine ba _ ?_ | refine bs0 _ _ ?_ ?_ | refine bs1 _ _ _ ?_ ?_ | refine bs2 _ _ _ _ ?_ ?_ | refine bs3 _ _ _ _ _ ?_ ?_ | refine bt3 (by assumption) ?_))) HF.out)); (try replace HB := Hd.mk (HB.out.below (bt3 hb (by (repeat (first | exact Below.refl _ _ | assumption | refine Below.drew ?_ | refine bdn ?_ | refine ba _ ?_ | refine bs0 _ _ ?_ ?_ | refine bs1 _ _ _ ?_ ?_ | refine bs2 _ _ _ _ ?_ ?_ | refine bs3 _ _ _ _ _ ?_ ?_ | refine bt3 (by assumption) ?_)))) HB.out.lt)); have HO := Hd.mk hO; clear hO hb); refine hK.out _ _ (by first | assumption | exact hHeld | exact HT.out.cells | exact (HT.out.below (bt3 (by (repeat (first | exact Below.refl _ _ | assumption | refine Below.drew ?_ | refine bdn ?_ | refine ba _ ?_ | refine bs0 _ _ ?_ ?_ | refine bs1 _ _ _ ?_ ?_ | refine bs2 _ _ _ _ ?_ ?_ | refine bs3 _ _ _ _ _ ?_ ?_ | refine bt3 (by assumption) ?_))) HF.out)).cells) (fun hHeld => ?_); clear hK K; (try simp only [Act.put, List.setIfInBounds_toArray, List.set_cons_zero, List.set_cons_succ, List.getElem_toArray, List.getElem_cons_zero, List.getElem_cons_succ])
          have g0 : World.cell? _ _ = some (.pointer none) := HB.out.cell 0; have g1 : World.cell? _ _ = some (.int .i64 0) := HB.out.cell 1; have e0 := HB.out.frozen 0; have e1 := HB.out.frozen 1; refine wpAnyH_ready (rs := [13]) (by kernel_rfl) (by simp) ?_; refine AllReadyH.cons rfl (fun K hK => ?_) AllReadyH.nil; go_simp; go_wp2_with fail; refine hK.out _ _ (by first | assumption | exact (HT.out.below (by (repeat (first | with_reducible exact HF.out | with_reducible exact HF0.out | with_reducible refine Below.setCell ?_ HG.out _ | with_reducible refine Below.drew ?_ | with_reducible refine bdn ?_ | with_reducible refine ba _ ?_)))).cells) (fun hHeld => ?_); clear hK K; (try simp only [Act.put, List.setIfInBounds_toArray, List.set_cons_zero, List.set_cons_succ, List.getElem_toArray, List.getElem_cons_zero, List.getElem_cons_succ]); refine wpAnyH_done (by kernel_rfl) ?_ _; go_simp; go_wp2_with fail; go_meet; exact QuR.ofSet HF.out HB.out HG.out HO.out
    case rest =>
      obtain ⟨g9, g, rfl, HA⟩ := hcut
      replace HT := Hd.mk (HT.out.below HA.out.1)
      have HN9 := Hd.mk (show NuP wc g (ea - eb - (qby ma mb : Int) - 2) (dv (qM ma mb) (ea - eb - (qby ma mb : Int) - 2)) 1000 from ⟨_, HA.out.2.2, HNF.out⟩)
      have HB9 := Hd.mk HA.out.2.1
      clear HA HF
      have HF := Hd.mk (Below.refl wc.heap.size wc)
      have HSA := Hd.mk (fun (w' : World) (hb : Below w.heap.size w w') => n_Sign ga ea VA l w' ⟨ma, HX.out.1.below hb, fA⟩)
      have HSB := Hd.mk (fun (w' : World) (hb : Below w.heap.size w w') => n_Sign gb eb VB l' w' ⟨mb, HX.out.2.below hb, fB⟩)
      clear fA fB
      generalize dv (qM ma mb) (ea - eb - (qby ma mb : Int) - 2) = V at *
      generalize ea - eb - (qby ma mb : Int) - 2 = E at *
      by_cases hs : VA.sign = VB.sign
      · have HV := Hd.mk (HQV.out.trans (if_pos hs))
        rw [hs] at HSA
        clear HQV
        generalize VB.sign = sb at *
        clear hs
        go_wp2_with fail; refine wp_region_held_drew (S := (fun w' => w'.cell? ⟨w.heap.size, 0, none⟩ = some (.pointer (some ⟨ga, 0, none⟩)) ∧ w'.cell? ⟨w.heap.size, 1, none⟩ = some (.int .i64 ea) ∧ w'.cell? ⟨w.heap.size + 1, 0, none⟩ = some (.pointer (some ⟨gb, 0, none⟩)) ∧ w'.cell? ⟨w.heap.size + 1, 1, none⟩ = some (.int .i64 eb))) (by kernel_rfl) HT.out.cells (fun hHeld => ?_); refine wpAnyH_take (i := 0) (v := _) rfl (by kernel_rfl) (by kernel_rfl) (by kernel_rfl) (fun _ _ _ h => h) (Or.inl ⟨by rfl, by (intro w hSw; (try dsimp only at hSw); go_simp; (first | done | with_reducible rfl))⟩) (by assumption) ?_; (try simp only [Act.put, List.setIfInBounds_toArray, List.set_cons_zero, List.set_cons_succ, List.getElem_toArray, List.getElem_cons_zero, List.getElem_cons_succ]); refine wpAnyH_take (i := 2) (v := _) rfl (by kernel_rfl) (by kernel_rfl) (by kernel_rfl) (fun _ _ _ h => h) (Or.inl ⟨by rfl, by (intro w hSw; (try dsimp only at hSw); go_simp; (first | done | with_reducible rfl))⟩) (by assumption) ?_; (try simp only [Act.put, List.setIfInBounds_toArray, List.set_cons_zero, List.set_cons_succ, List.getElem_toArray, List.getElem_cons_zero, List.getElem_cons_succ]); refine wpAnyH_ready (rs := [1]) (by kernel_rfl) (by simp) ?_; refine AllReadyH.cons rfl (fun K hK => ?_) AllReadyH.nil; go_simp; go_wp2_with (first | (go_at_call 114; (with_reducible refine (HSA.out _ (bt3 (bt3 (by (repeat (first | exact Below.refl _ _ | assumption | refine Below.drew ?_ | refine bdn ?_ | refine ba _ ?_ | refine bs0 _ _ ?_ ?_ | refine bs1 _ _ _ ?_ ?_ | refine bs2 _ _ _ _ ?_ ?_ | refine bs3 _ _ _ _ _ ?_ ?_ | refine bt3 (by assumption) ?_))) HF.out) HT.out.bel)).mono ?_); rintro e7 w7 ⟨rfl, hb⟩; replace HF := Hd.mk (bt3 hb (bt3 (by (repeat (first | exact Below.refl _ _ | assumption | refine Below.drew ?_ | refine bdn ?_ | refine ba _ ?_ | refine bs0 _ _ ?_ ?_ | refine bs1 _ _ _ ?_ ?_ | refine bs2 _ _ _ _ ?_ ?_ | refine bs3 _ _ _ _ _ ?_ ?_ | refine bt3 (by assumption) ?_))) HF.out)); (try replace HB := Hd.mk (HB.out.below (bt3 hb (by (repeat (first | exact Below.refl _ _ | assumption | refine Below.drew ?_ | refine bdn ?_ | refine ba _ ?_ | refine bs0 _ _ ?_ ?_ | refine bs1 _ _ _ ?_ ?_ | refine bs2 _ _ _ _ ?_ ?_ | refine bs3 _ _ _ _ _ ?_ ?_ | refine bt3 (by assumption) ?_)))) HB.out.lt)); clear hb) | (go_at_call 114; (with_reducible refine (HSB.out _ (bt3 (bt3 (by (repeat (first | exact Below.refl _ _ | assumption | refine Below.drew ?_ | refine bdn ?_ | refine ba _ ?_ | refine bs0 _ _ ?_ ?_ | refine bs1 _ _ _ ?_ ?_ | refine bs2 _ _ _ _ ?_ ?_ | refine bs3 _ _ _ _ _ ?_ ?_ | refine bt3 (by assumption) ?_))) HF.out) HT.out.bel)).mono ?_); rintro e8 w8 ⟨rfl, hb⟩; replace HF := Hd.mk (bt3 hb (bt3 (by (repeat (first | exact Below.refl _ _ | assumption | refine Below.drew ?_ | refine bdn ?_ | refine ba _ ?_ | refine bs0 _ _ ?_ ?_ | refine bs1 _ _ _ ?_ ?_ | refine bs2 _ _ _ _ ?_ ?_ | refine bs3 _ _ _ _ _ ?_ ?_ | refine bt3 (by assumption) ?_))) HF.out)); (try replace HB := Hd.mk (HB.out.below (bt3 hb (by (repeat (first | exact Below.refl _ _ | assumption | refine Below.drew ?_ | refine bdn ?_ | refine ba _ ?_ | refine bs0 _ _ ?_ ?_ | refine bs1 _ _ _ ?_ ?_ | refine bs2 _ _ _ _ ?_ ?_ | refine bs3 _ _ _ _ _ ?_ ?_ | refine bt3 (by assumption) ?_)))) HB.out.lt)); clear hb)); refine hK.out _ _ (by first | assumption | exact hHeld | exact HT.out.cells | exact (HT.out.below (bt3 (by (repeat (first | exact Below.refl _ _ | assumption | refine Below.drew ?_ | refine bdn ?_ | refine ba _ ?_ | refine bs0 _ _ ?_ ?_ | refine bs1 _ _ _ ?_ ?_ | refine bs2 _ _ _ _ ?_ ?_ | refine bs3 _ _ _ _ _ ?_ ?_ | refine bt3 (by assumption) ?_))) HF.out)).cells) (fun hHeld => ?_); clear hK K; (try simp only [Act.put, List.setIfInBounds_toArray, List.set_cons_zero, List.set_cons_succ, List.getElem_toArray, List.getElem_cons_zero, List.getElem_cons_succ]); refine wpAnyH_ready (rs := [3]) (by kernel_rfl) (by simp) ?_; refine AllReadyH.cons rfl (fun K hK => ?_) AllReadyH.nil; go_simp; go_wp2_with (first | (go_at_call 114; (with_reducible refine (HSA.out _ (bt3 (bt3 (by (repeat (first | exact Below.refl _ _ | assumption | refine Below.drew ?_ | refine bdn ?_ | refine ba _ ?_ | refine bs0 _ _ ?_ ?_ | refine bs1 _ _ _ ?_ ?_ | refine bs2 _ _ _ _ ?_ ?_ | refine bs3 _ _ _ _ _ ?_ ?_ | refine bt3 (by assumption) ?_))) HF.out) HT.out.bel)).mono ?_); rintro e7 w7 ⟨rfl, hb⟩; replace HF := Hd.mk (bt3 hb (bt3 (by (repeat (first | exact Below.refl _ _ | assumption | refine Below.drew ?_ | refine bdn ?_ | refine ba _ ?_ | refine bs0 _ _ ?_ ?_ | refine bs1 _ _ _ ?_ ?_ | refine bs2 _ _ _ _ ?_ ?_ | refine bs3 _ _ _ _ _ ?_ ?_ | refine bt3 (by assumption) ?_))) HF.out)); (try replace HB := Hd.mk (HB.out.below (bt3 hb (by (repeat (first | exact Below.refl _ _ | assumption | refine Below.drew ?_ | refine bdn ?_ | refine ba _ ?_ | refine bs0 _ _ ?_ ?_ | refine bs1 _ _ _ ?_ ?_ | refine bs2 _ _ _ _ ?_ ?_ | refine bs3 _ _ _ _ _ ?_ ?_ | refine bt3 (by assumption) ?_)))) HB.out.lt)); clear hb) | (go_at_call 114; (with_reducible refine (HSB.out _ (bt3 (bt3 (by (repeat (first | exact Below.refl _ _ | assumption | refine Below.drew ?_ | refine bdn ?_ | refine ba _ ?_ | refine bs0 _ _ ?_ ?_ | refine bs1 _ _ _ ?_ ?_ | refine bs2 _ _ _ _ ?_ ?_ | refine bs3 _ _ _ _ _ ?_ ?_ | refine bt3 (by assumption) ?_))) HF.out) HT.out.bel)).mono ?_); rintro e8 w8 ⟨rfl, hb⟩; replace HF := Hd.mk (bt3 hb (bt3 (by (repeat (first | exact Below.refl _ _ | assumption | refine Below.drew ?_ | refine bdn ?_ | refine ba _ ?_ | refine bs0 _ _ ?_ ?_ | refine bs1 _ _ _ ?_ ?_ | refine bs2 _ _ _ _ ?_ ?_ | refine bs3 _ _ _ _ _ ?_ ?_ | refine bt3 (by assumption) ?_))) HF.out)); (try replace HB := Hd.mk (HB.out.below (bt3 hb (by (repeat (first | exact Below.refl _ _ | assumption | refine Below.drew ?_ | refine bdn ?_ | refine ba _ ?_ | refine bs0 _ _ ?_ ?_ | refine bs1 _ _ _ ?_ ?_ | refine bs2 _ _ _ _ ?_ ?_ | refine bs3 _ _ _ _ _ ?_ ?_ | refine bt3 (by assumption) ?_)))) HB.out.lt)); clear hb)); refine hK.out _ _ (by first | assumption | exact hHeld | exact HT.out.cells | exact (HT.out.below (bt3 (by (repeat (first | exact Below.refl _ _ | assumption | refine Below.drew ?_ | refine bdn ?_ | refine ba _ ?_ | refine bs0 _ _ ?_ ?_ | refine bs1 _ _ _ ?_ ?_ | refine bs2 _ _ _ _ ?_ ?_ | refine bs3 _ _ _ _ _ ?_ ?_ | refine bt3 (by assumption) ?_))) HF.out)).cells) (fun hHeld => ?_); clear hK K; (try simp only [Act.put, List.setIfInBounds_toArray, List.set_cons_zero, List.set_cons_succ, List.getElem_toArray, List.getElem_cons_zero, List.getElem_cons_succ]); refine wpAnyH_take (i := 4) (v := _) rfl (by kernel_rfl) (by kernel_rfl) (by kernel_rfl) (fun _ _ _ h => h) (Or.inl ⟨by rfl, by (intro w hSw; (try dsimp only at hSw); go_simp; (first | done | with_reducible rfl))⟩) (by assumption) ?_; (try simp only [Act.put, List.setIfInBounds_toArray, List.set_cons_zero, List.set_cons_succ, List.getElem_toArray, List.getElem_cons_zero, List.getElem_cons_succ]); refine wpAnyH_done (by kernel_rfl) ?_ _; go_simp; replace HT := Hd.mk (HT.out.below HF.out); replace HB9 := Hd.mk (HB9.out.below HF.out HB9.out.lt); replace HN9 := Hd.mk (HN9.out.below HF.out); have c0 : w8.cell? _ = some (.pointer (some ⟨ga, 0, none⟩)) := HT.out.b0.cell 0; have c1 : w8.cell? _ = some (.int .i64 ea) := HT.out.b0.cell 1; have c2 : w8.cell? _ = some (.pointer (some ⟨gb, 0, none⟩)) := HT.out.b1.cell 0; have c3 : w8.cell? _ = some (.int .i64 eb) := HT.out.b1.cell 1; have r0 : w8.cell? _ = some (.pointer none) := HT.out.b2.cell 0; have r1 : w8.cell? _ = some (.int .i64 0) := HT.out.b2.cell 1; have q0 := HT.out.b2.frozen 0; have q1 := HT.out.b2.frozen 1; (have k0 : w8.cell? _ = some (.pointer (some ⟨g, 0, none⟩)) := HB9.out.cell 0); (have k1 : w8.cell? _ = some (.int .i64 E) := HB9.out.cell 1); go_wp2_with (go_at_call 214; (with_reducible refine (n_Neg g E V 1000 _ (HN9.out.below (by (repeat (first | exact Below.refl _ _ | assumption | refine Below.drew ?_ | refine bdn ?_ | refine ba _ ?_ | refine bs0 _ _ ?_ ?_ | refine bs1 _ _ _ ?_ ?_ | refine bs2 _ _ _ _ ?_ ?_ | refine bs3 _ _ _ _ _ ?_ ?_ | refine bt3 (by assumption) ?_))))).mono ?_); rintro e10 w10 ⟨g10, x10, rfl, hN, hb⟩; have hb := bt3 hb (show Below w8.heap.size w8 _ by (repeat (first | exact Below.refl _ _ | assumption | refine Below.drew ?_ | refine bdn ?_ | refine ba _ ?_ | refine bs0 _ _ ?_ ?_ | refine bs1 _ _ _ ?_ ?_ | refine bs2 _ _ _ _ ?_ ?_ | refine bs3 _ _ _ _ _ ?_ ?_ | refine bt3 (by assumption) ?_))); replace HT := Hd.mk (HT.out.below hb); have HN10 := Hd.mk hN; have c0 : w10.cell? _ = some (.pointer (some ⟨ga, 0, none⟩)) := HT.out.b0.cell 0; have c1 : w10.cell? _ = some (.int .i64 ea) := HT.out.b0.cell 1; have c2 : w10.cell? _ = some (.pointer (some ⟨gb, 0, none⟩)) := HT.out.b1.cell 0; have c3 : w10.cell? _ = some (.int .i64 eb) := HT.out.b1.cell 1; have r0 : w10.cell? _ = some (.pointer none) := HT.out.b2.cell 0; have r1 : w10.cell? _ = some (.int .i64 0) := HT.out.b2.cell 1; have q0 := HT.out.b2.frozen 0; have q1 := HT.out.b2.frozen 1; clear hN hb)
        refine bodyPost_ret (v := .agg #[.pointer (some ⟨g, 0, none⟩), .int .i64 E]) (by simp (maxDischargeDepth := 7) [results, Tryz.results157, go_sem, *]) rfl ⟨g, E, rfl, by rw [HV.out]; exact HN9.out.set2 HT.out.b2 (by decide) (by decide) _ _, ?_⟩
        (have hbb := HT.out.bel); (repeat (first | with_reducible exact hbb | with_reducible refine Below.setCell ?_ (show w.heap.size ≤ _ by dsimp only; omega) _ | with_reducible refine Below.drew ?_ | with_reducible refine bdn ?_ | with_reducible refine ba _ ?_))
      · have HV := Hd.mk (HQV.out.trans (if_neg hs))
        clear HQV
        generalize VA.sign = sa at *
        generalize VB.sign = sb at *
        have hs' : ¬ sb = sa := fun k => hs k.symm
        go_wp2_with fail; refine wp_region_held_drew (S := (fun w' => w'.cell? ⟨w.heap.size, 0, none⟩ = some (.pointer (some ⟨ga, 0, none⟩)) ∧ w'.cell? ⟨w.heap.size, 1, none⟩ = some (.int .i64 ea) ∧ w'.cell? ⟨w.heap.size + 1, 0, none⟩ = some (.pointer (some ⟨gb, 0, none⟩)) ∧ w'.cell? ⟨w.heap.size + 1, 1, none⟩ = some (.int .i64 eb))) (by kernel_rfl) HT.out.cells (fun hHeld => ?_); refine wpAnyH_take (i := 0) (v := _) rfl (by kernel_rfl) (by kernel_rfl) (by kernel_rfl) (fun _ _ _ h => h) (Or.inl ⟨by rfl, by (intro w hSw; (try dsimp only at hSw); go_simp; (first | done | with_reducible rfl))⟩) (by assumption) ?_; (try simp only [Act.put, List.setIfInBounds_toArray, List.set_cons_zero, List.set_cons_succ, List.getElem_toArray, List.getElem_cons_zero, List.getElem_cons_succ]); refine wpAnyH_take (i := 2) (v := _) rfl (by kernel_rfl) (by kernel_rfl) (by kernel_rfl) (fun _ _ _ h => h) (Or.inl ⟨by rfl, by (intro w hSw; (try dsimp only at hSw); go_simp; (first | done | with_reducible rfl))⟩) (by assumption) ?_; (try simp only [Act.put, List.setIfInBounds_toArray, List.set_cons_zero, List.set_cons_succ, List.getElem_toArray, List.getElem_cons_zero, List.getElem_cons_succ]); refine wpAnyH_ready (rs := [1]) (by kernel_rfl) (by simp) ?_; refine AllReadyH.cons rfl (fun K hK => ?_) AllReadyH.nil; go_simp; go_wp2_with (first | (go_at_call 114; (with_reducible refine (HSA.out _ (bt3 (bt3 (by (repeat (first | exact Below.refl _ _ | assumption | refine Below.drew ?_ | refine bdn ?_ | refine ba _ ?_ | refine bs0 _ _ ?_ ?_ | refine bs1 _ _ _ ?_ ?_ | refine bs2 _ _ _ _ ?_ ?_ | refine bs3 _ _ _ _ _ ?_ ?_ | refine bt3 (by assumption) ?_))) HF.out) HT.out.bel)).mono ?_); rintro e7 w7 ⟨rfl, hb⟩; replace HF := Hd.mk (bt3 hb (bt3 (by (repeat (first | exact Below.refl _ _ | assumption | refine Below.drew ?_ | refine bdn ?_ | refine ba _ ?_ | refine bs0 _ _ ?_ ?_ | refine bs1 _ _ _ ?_ ?_ | refine bs2 _ _ _ _ ?_ ?_ | refine bs3 _ _ _ _ _ ?_ ?_ | refine bt3 (by assumption) ?_))) HF.out)); (try replace HB := Hd.mk (HB.out.below (bt3 hb (by (repeat (first | exact Below.refl _ _ | assumption | refine Below.drew ?_ | refine bdn ?_ | refine ba _ ?_ | refine bs0 _ _ ?_ ?_ | refine bs1 _ _ _ ?_ ?_ | refine bs2 _ _ _ _ ?_ ?_ | refine bs3 _ _ _ _ _ ?_ ?_ | refine bt3 (by assumption) ?_)))) HB.out.lt)); clear hb) | (go_at_call 114; (with_reducible refine (HSB.out _ (bt3 (bt3 (by (repeat (first | exact Below.refl _ _ | assumption | refine Below.drew ?_ | refine bdn ?_ | refine ba _ ?_ | refine bs0 _ _ ?_ ?_ | refine bs1 _ _ _ ?_ ?_ | refine bs2 _ _ _ _ ?_ ?_ | refine bs3 _ _ _ _ _ ?_ ?_ | refine bt3 (by assumption) ?_))) HF.out) HT.out.bel)).mono ?_); rintro e8 w8 ⟨rfl, hb⟩; replace HF := Hd.mk (bt3 hb (bt3 (by (repeat (first | exact Below.refl _ _ | assumption | refine Below.drew ?_ | refine bdn ?_ | refine ba _ ?_ | refine bs0 _ _ ?_ ?_ | refine bs1 _ _ _ ?_ ?_ | refine bs2 _ _ _ _ ?_ ?_ | refine bs3 _ _ _ _ _ ?_ ?_ | refine bt3 (by assumption) ?_))) HF.out)); (try replace HB := Hd.mk (HB.out.below (bt3 hb (by (repeat (first | exact Below.refl _ _ | assumption | refine Below.drew ?_ | refine bdn ?_ | refine ba _ ?_ | refine bs0 _ _ ?_ ?_ | refine bs1 _ _ _ ?_ ?_ | refine bs2 _ _ _ _ ?_ ?_ | refine bs3 _ _ _ _ _ ?_ ?_ | refine bt3 (by assumption) ?_)))) HB.out.lt)); clear hb)); refine hK.out _ _ (by first | assumption | exact hHeld | exact HT.out.cells | exact (HT.out.below (bt3 (by (repeat (first | exact Below.refl _ _ | assumption | refine Below.drew ?_ | refine bdn ?_ | refine ba _ ?_ | refine bs0 _ _ ?_ ?_ | refine bs1 _ _ _ ?_ ?_ | refine bs2 _ _ _ _ ?_ ?_ | refine bs3 _ _ _ _ _ ?_ ?_ | refine bt3 (by assumption) ?_))) HF.out)).cells) (fun hHeld => ?_); clear hK K; (try simp only [Act.put, List.setIfInBounds_toArray, List.set_cons_zero, List.set_cons_succ, List.getElem_toArray, List.getElem_cons_zero, List.getElem_cons_succ]); refine wpAnyH_ready (rs := [3]) (by kernel_rfl) (by simp) ?_; refine AllReadyH.cons rfl (fun K hK => ?_) AllReadyH.nil; go_simp; go_wp2_with (first | (go_at_call 114; (with_reducible refine (HSA.out _ (bt3 (bt3 (by (repeat (first | exact Below.refl _ _ | assumption | refine Below.drew ?_ | refine bdn ?_ | refine ba _ ?_ | refine bs0 _ _ ?_ ?_ | refine bs1 _ _ _ ?_ ?_ | refine bs2 _ _ _ _ ?_ ?_ | refine bs3 _ _ _ _ _ ?_ ?_ | refine bt3 (by assumption) ?_))) HF.out) HT.out.bel)).mono ?_); rintro e7 w7 ⟨rfl, hb⟩; replace HF := Hd.mk (bt3 hb (bt3 (by (repeat (first | exact Below.refl _ _ | assumption | refine Below.drew ?_ | refine bdn ?_ | refine ba _ ?_ | refine bs0 _ _ ?_ ?_ | refine bs1 _ _ _ ?_ ?_ | refine bs2 _ _ _ _ ?_ ?_ | refine bs3 _ _ _ _ _ ?_ ?_ | refine bt3 (by assumption) ?_))) HF.out)); (try replace HB := Hd.mk (HB.out.below (bt3 hb (by (repeat (first | exact Below.refl _ _ | assumption | refine Below.drew ?_ | refine bdn ?_ | refine ba _ ?_ | refine bs0 _ _ ?_ ?_ | refine bs1 _ _ _ ?_ ?_ | refine bs2 _ _ _ _ ?_ ?_ | refine bs3 _ _ _ _ _ ?_ ?_ | refine bt3 (by assumption) ?_)))) HB.out.lt)); clear hb) | (go_at_call 114; (with_reducible refine (HSB.out _ (bt3 (bt3 (by (repeat (first | exact Below.refl _ _ | assumption | refine Below.drew ?_ | refine bdn ?_ | refine ba _ ?_ | refine bs0 _ _ ?_ ?_ | refine bs1 _ _ _ ?_ ?_ | refine bs2 _ _ _ _ ?_ ?_ | refine bs3 _ _ _ _ _ ?_ ?_ | refine bt3 (by assumption) ?_))) HF.out) HT.out.bel)).mono ?_); rintro e8 w8 ⟨rfl, hb⟩; replace HF := Hd.mk (bt3 hb (bt3 (by (repeat (first | exact Below.refl _ _ | assumption | refine Below.drew ?_ | refine bdn ?_ | refine ba _ ?_ | refine bs0 _ _ ?_ ?_ | refine bs1 _ _ _ ?_ ?_ | refine bs2 _ _ _ _ ?_ ?_ | refine bs3 _ _ _ _ _ ?_ ?_ | refine bt3 (by assumption) ?_))) HF.out)); (try replace HB := Hd.mk (HB.out.below (bt3 hb (by (repeat (first | exact Below.refl _ _ | assumption | refine Below.drew ?_ | refine bdn ?_ | refine ba _ ?_ | refine bs0 _ _ ?_ ?_ | refine bs1 _ _ _ ?_ ?_ | refine bs2 _ _ _ _ ?_ ?_ | refine bs3 _ _ _ _ _ ?_ ?_ | refine bt3 (by assumption) ?_)))) HB.out.lt)); clear hb)); refine hK.out _ _ (by first | assumption | exact hHeld | exact HT.out.cells | exact (HT.out.below (bt3 (by (repeat (first | exact Below.refl _ _ | assumption | refine Below.drew ?_ | refine bdn ?_ | refine ba _ ?_ | refine bs0 _ _ ?_ ?_ | refine bs1 _ _ _ ?_ ?_ | refine bs2 _ _ _ _ ?_ ?_ | refine bs3 _ _ _ _ _ ?_ ?_ | refine bt3 (by assumption) ?_))) HF.out)).cells) (fun hHeld => ?_); clear hK K; (try simp only [Act.put, List.setIfInBounds_toArray, List.set_cons_zero, List.set_cons_succ, List.getElem_toArray, List.getElem_cons_zero, List.getElem_cons_succ]); refine wpAnyH_take (i := 4) (v := _) rfl (by kernel_rfl) (by kernel_rfl) (by kernel_rfl) (fun _ _ _ h => h) (Or.inl ⟨by rfl, by (intro w hSw; (try dsimp only at hSw); go_simp; (first | done | with_reducible rfl))⟩) (by assumption) ?_; (try simp only [Act.put, List.setIfInBounds_toArray, List.set_cons_zero, List.set_cons_succ, List.getElem_toArray, List.getElem_cons_zero, List.getElem_cons_succ]); refine wpAnyH_done (by kernel_rfl) ?_ _; go_simp; replace HT := Hd.mk (HT.out.below HF.out); replace HB9 := Hd.mk (HB9.out.below HF.out HB9.out.lt); replace HN9 := Hd.mk (HN9.out.below HF.out); have c0 : w8.cell? _ = some (.pointer (some ⟨ga, 0, none⟩)) := HT.out.b0.cell 0; have c1 : w8.cell? _ = some (.int .i64 ea) := HT.out.b0.cell 1; have c2 : w8.cell? _ = some (.pointer (some ⟨gb, 0, none⟩)) := HT.out.b1.cell 0; have c3 : w8.cell? _ = some (.int .i64 eb) := HT.out.b1.cell 1; have r0 : w8.cell? _ = some (.pointer none) := HT.out.b2.cell 0; have r1 : w8.cell? _ = some (.int .i64 0) := HT.out.b2.cell 1; have q0 := HT.out.b2.frozen 0; have q1 := HT.out.b2.frozen 1; (have k0 : w8.cell? _ = some (.pointer (some ⟨g, 0, none⟩)) := HB9.out.cell 0); (have k1 : w8.cell? _ = some (.int .i64 E) := HB9.out.cell 1); go_wp2_with (go_at_call 214; (with_reducible refine (n_Neg g E V 1000 _ (HN9.out.below (by (repeat (first | exact Below.refl _ _ | assumption | refine Below.drew ?_ | refine bdn ?_ | refine ba _ ?_ | refine bs0 _ _ ?_ ?_ | refine bs1 _ _ _ ?_ ?_ | refine bs2 _ _ _ _ ?_ ?_ | refine bs3 _ _ _ _ _ ?_ ?_ | refine bt3 (by assumption) ?_))))).mono ?_); rintro e10 w10 ⟨g10, x10, rfl, hN, hb⟩; have hb := bt3 hb (show Below w8.heap.size w8 _ by (repeat (first | exact Below.refl _ _ | assumption | refine Below.drew ?_ | refine bdn ?_ | refine ba _ ?_ | refine bs0 _ _ ?_ ?_ | refine bs1 _ _ _ ?_ ?_ | refine bs2 _ _ _ _ ?_ ?_ | refine bs3 _ _ _ _ _ ?_ ?_ | refine bt3 (by assumption) ?_))); replace HT := Hd.mk (HT.out.below hb); have HN10 := Hd.mk hN; have c0 : w10.cell? _ = some (.pointer (some ⟨ga, 0, none⟩)) := HT.out.b0.cell 0; have c1 : w10.cell? _ = some (.int .i64 ea) := HT.out.b0.cell 1; have c2 : w10.cell? _ = some (.pointer (some ⟨gb, 0, none⟩)) := HT.out.b1.cell 0; have c3 : w10.cell? _ = some (.int .i64 eb) := HT.out.b1.cell 1; have r0 : w10.cell? _ = some (.pointer none) := HT.out.b2.cell 0; have r1 : w10.cell? _ = some (.int .i64 0) := HT.out.b2.cell 1; have q0 := HT.out.b2.frozen 0; have q1 := HT.out.b2.frozen 1; clear hN hb)
        refine bodyPost_ret (v := .agg #[.pointer (some ⟨g10, 0, none⟩), .int .i64 x10]) (by simp (maxDischargeDepth := 7) [results, Tryz.results157, go_sem, *]) rfl ⟨g10, x10, rfl, by rw [HV.out]; exact HN10.out.set2 HT.out.b2 (by decide) (by decide) _ _, ?_⟩
        (have hbb := HT.out.bel); (repeat (first | with_reducible exact hbb | with_reducible refine Below.setCell ?_ (show w.heap.size ≤ _ by dsimp only; omega) _ | with_reducible refine Below.drew ?_ | with_reducible refine bdn ?_ | with_reducible refine ba _ ?_))
end Go.Proofs.YtflgjecpjaiecaaGreat
