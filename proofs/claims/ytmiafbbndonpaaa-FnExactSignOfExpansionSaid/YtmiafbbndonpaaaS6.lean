/- Contracts: shifts of whole numbers of the reference. -/
import Derived.Test.YtmiafbbndonpaaaS5
set_option linter.unusedVariables false
set_option linter.unusedSimpArgs false
namespace Go.Proofs.Ytmiafbbndonpaaa
open Go.RowKit Num
theorem mod_next (u B : Int) (hB : 0 < B) (j : Nat) : u % B ^ j + B ^ j * (u / B ^ j % B) = u % B ^ (j + 1) := by
  have hp := pow_pos' hB j
  have e1 := Int.mul_ediv_add_emod u (B ^ j)
  have e2 := Int.mul_ediv_add_emod (u / B ^ j) B
  have h1 := Int.emod_nonneg u (show B ^ j ≠ 0 by omega)
  have h2 := Int.emod_lt_of_pos u hp
  have h3 := Int.emod_nonneg (u / B ^ j) (show B ≠ 0 by omega)
  have h4 := Int.emod_lt_of_pos (u / B ^ j) hB
  generalize u % B ^ j = r at *
  generalize hd : u / B ^ j % B = d at *
  generalize u / B ^ j / B = Q at *
  have e3 : u = (r + B ^ j * d) + B ^ (j + 1) * Q := by
    rw [Int.pow_succ, Int.mul_assoc]
    have := congrArg (B ^ j * ·) e2
    simp only [Int.mul_add] at this
    omega
  have h5 : B ^ j * d ≤ B ^ j * (B - 1) := Int.mul_le_mul_of_nonneg_left (by omega) (Int.le_of_lt hp)
  have h6 : 0 ≤ B ^ j * d := Int.mul_nonneg (Int.le_of_lt hp) h3
  rw [Int.mul_sub, Int.mul_one] at h5
  rw [e3, Int.add_mul_emod_self_left, Int.emod_eq_of_lt (by omega) (by rw [Int.pow_succ]; omega)]
theorem cut_digit {xs : List Int} (h : Rng 16777216 xs) (k j : Nat) : val 16777216 xs / 2 ^ k / 16777216 ^ j % 16777216 = (xs.getD (k / 24 + j) 0 / 2 ^ (k % 24) + xs.getD (k / 24 + j + 1) 0 * 2 ^ (24 - k % 24)) % 16777216 := by
  have e : (2 : Int) ^ k * 16777216 ^ j = 16777216 ^ (k / 24 + j) * 2 ^ (k % 24) := by rw [p24, p24, ← Int.pow_add, ← Int.pow_add]; congr 1; omega
  have hp : (0 : Int) < 16777216 ^ (k / 24 + j) := pow_pos' (by decide) _
  have hp2 : (0 : Int) < 2 ^ k := pow_pos' (by decide) _
  rw [Int.ediv_ediv_of_nonneg (Int.le_of_lt hp2), e, ← Int.ediv_ediv_of_nonneg (Int.le_of_lt hp), val_div_pow (by decide) h, val_drop, val_drop _ _ (k / 24 + j + 1)]
  have hr : k % 24 < 24 := Nat.mod_lt _ (by decide)
  generalize xs.getD (k / 24 + j) 0 = x
  generalize xs.getD (k / 24 + j + 1) 0 = y
  generalize val 16777216 (xs.drop (k / 24 + j + 1 + 1)) = D
  generalize k % 24 = r at *
  have e2 : (16777216 : Int) = 2 ^ r * 2 ^ (24 - r) := by rw [← Int.pow_add, show r + (24 - r) = 24 by omega]; rfl
  have e3 : x + 16777216 * (y + 16777216 * D) = x + 2 ^ r * (2 ^ (24 - r) * (y + 16777216 * D)) := by rw [← Int.mul_assoc, ← e2]
  rw [e3, Int.add_mul_ediv_left _ _ (by have := pow_pos' (B := 2) (by decide) r; omega), Int.mul_add, ← Int.add_assoc, Int.mul_left_comm, Int.add_mul_emod_self_left, Int.mul_comm y]
/-- what a round of a cut leaves -/
def CutR (xs : List Int) (k j : Nat) (zs : List Int) : Prop := zs.length = j ∧ Rng 16777216 zs ∧ val 16777216 zs = val 16777216 xs / 2 ^ k % 16777216 ^ j
theorem CutR.next {xs zs : List Int} {k j : Nat} {d : Int} (hr : Rng 16777216 xs) (h : CutR xs k j zs) (hd : d = (xs.getD (k / 24 + j) 0 / 2 ^ (k % 24) + xs.getD (k / 24 + j + 1) 0 * 2 ^ (24 - k % 24)) % 16777216) : CutR xs k (j + 1) (zs ++ [d]) := by
  obtain ⟨h1, h2, h3⟩ := h
  refine ⟨by simp [h1], h2.snoc (by omega) (by omega), ?_⟩
  rw [val_snoc, h1, h3, hd, ← cut_digit hr, mod_next _ _ (by decide)]
theorem CutR.done {xs zs : List Int} {k j : Nat} (hr : Rng 16777216 xs) (h : CutR xs k j zs) (hj : xs.length ≤ k / 24 + j) : val 16777216 zs = val 16777216 xs / 2 ^ k := by
  obtain ⟨h1, h2, h3⟩ := h
  rw [h3]
  have h0 := val_nonneg (B := 16777216) (by decide) hr
  have h4 := val_lt (by decide) hr
  have h5 : (16777216 : Int) ^ xs.length ≤ 2 ^ k * 16777216 ^ j := by
    rw [p24, p24, ← Int.pow_add]; exact pow_le (by decide) (by omega)
  exact Int.emod_eq_of_lt (Int.ediv_nonneg h0 (Int.le_of_lt (pow_pos' (by decide) k))) (Int.ediv_lt_of_lt_mul (pow_pos' (by decide) k) (by rw [Int.mul_comm]; omega))
theorem wrapd {x y : Int} {r : Nat} (hx : 0 ≤ x ∧ x < 16777216) (hy : 0 ≤ y ∧ y < 16777216) (hr : r < 24) : (wrap64 (x / 2 ^ r + wrap64 (y * 2 ^ (24 - r)))).tmod 16777216 = (x / 2 ^ r + y * 2 ^ (24 - r)) % 16777216 := by
  have hp : (0 : Int) < 2 ^ (24 - r) := pow_pos' (by decide) _
  have h1 : (2 : Int) ^ (24 - r) ≤ 2 ^ 24 := pow_le (by decide) (by omega)
  have h2 : y * 2 ^ (24 - r) ≤ y * 2 ^ 24 := Int.mul_le_mul_of_nonneg_left h1 hy.1
  have h3 : 0 ≤ y * 2 ^ (24 - r) := Int.mul_nonneg hy.1 (Int.le_of_lt hp)
  have h4 : 0 ≤ x / 2 ^ r := Int.ediv_nonneg hx.1 (Int.le_of_lt (pow_pos' (by decide) _))
  have h5 : x / 2 ^ r < 16777216 := Int.lt_of_le_of_lt (Int.ediv_le_self _ hx.1) hx.2
  generalize y * 2 ^ (24 - r) = t at *
  generalize x / 2 ^ r = u at *
  have h6 : y * 2 ^ 24 = 16777216 * y := by rw [Int.mul_comm]; rfl
  rw [h6] at h2
  have e1 : wrap64 t = t := by unfold wrap64; omega
  have e2 : wrap64 (u + t) = u + t := by unfold wrap64; omega
  rw [e1, e2, Int.tmod_eq_emod_of_nonneg (by omega)]
theorem wrapz {x : Int} (hx : 0 ≤ x ∧ x < 16777216) (r q : Nat) : x / 2 ^ r = (x / 2 ^ r + 0 * 2 ^ q) % 16777216 := by
  have h4 : 0 ≤ x / 2 ^ r := Int.ediv_nonneg hx.1 (Int.le_of_lt (pow_pos' (by decide) _))
  have h5 : x / 2 ^ r < 16777216 := Int.lt_of_le_of_lt (Int.ediv_le_self _ hx.1) hx.2
  rw [Int.zero_mul, Int.add_zero, Int.emod_eq_of_lt h4 h5]
theorem sgz {s v u : Int} (h : s = 1 ∨ s = -1 ∨ v = 0) (k : v = 0 → u = 0) : s = 1 ∨ s = -1 ∨ u = 0 := by
  rcases h with h | h | h
  · exact .inl h
  · exact .inr (.inl h)
  · exact .inr (.inr (k h))
theorem le_alloc {w : World} {B : Nat} (o : Obj) (h : B ≤ w.heap.size) : B ≤ (w.alloc o).heap.size := Nat.le_trans h (by simp)
/-- the world with an argument's cells and the result's -/
def W2 (w : World) (s : Int) (A : Option Addr) (n c : Nat) : World := (w.alloc (Obj.cells #[Value.int .i64 s, Value.slice A n c] 33)).alloc (Obj.cells #[Value.int .i64 0, Value.slice none 0 0] 33)
theorem W2.size (w : World) (s : Int) (A : Option Addr) (n c : Nat) : (W2 w s A n c).heap.size = w.heap.size + 1 + 1 := by simp [W2]
theorem W2.c0 (w : World) (s : Int) (A : Option Addr) (n c : Nat) : (W2 w s A n c).cell? ⟨w.heap.size, 0, none⟩ = some (.int .i64 s) := by unfold W2; go_simp
theorem W2.c1 (w : World) (s : Int) (A : Option Addr) (n c : Nat) : (W2 w s A n c).cell? ⟨w.heap.size, 1, none⟩ = some (.slice A n c) := by unfold W2; go_simp
theorem W2.bel (w : World) (s : Int) (A : Option Addr) (n c : Nat) : Below w.heap.size w (W2 w s A n c) := ba _ (ba _ (Below.refl _ _))

set_option maxHeartbeats 4000000 in
theorem s_Cut (s : Int) (A : Option Addr) (n c : Nat) (xs : List Int) (a : Int) (k : Nat) (w : World) (hX : WhD w s A n c xs a) (hk : k ≤ 10000000) (hb0 : Bd (s * (val 16777216 xs / 2 ^ k))) :
    Calls Try.prog 179 #[.agg #[.int .i64 s, .slice A n c], .int .i64 k] w (RetWh (s * (val 16777216 xs / 2 ^ k)) w) := by
  have HX : Hd (WhD w s A n c xs a) := ⟨hX⟩
  have hkI : (k : Int) ≤ 10000000 := by omega
  have hnI : (n : Int) ≤ 100000 := by have := hX.lim5; omega
  have HB0 : Hd (Bd (s * (val 16777216 xs / 2 ^ k))) := ⟨hb0⟩
  clear hX hk hb0
  go_enter Try.func179, Try.ntmps179
  go_wp2
  go_loopw [5, 6, 7] (fun v i _ wr => ∃ (i' j : Nat) (zs : List Int), i = .int .i64 (i' : Int) ∧ (i' : Int) ≤ 10000000 ∧ Hd (i' = k / 24 + j ∧ (j = 0 ∨ i' ≤ n)) ∧ Hd (CutR xs k j zs) ∧ Hd (O64 wr (w.heap.size + 1 + 1) v zs) ∧ Hd (Below (W2 w s A n c).heap.size (W2 w s A n c) wr))
    (fun _ i _ _ => n - (intOf i).toNat)
  case atStart => exact ⟨k / 24, 0, [], by go_num, by omega, ⟨⟨rfl, Or.inl rfl⟩⟩, ⟨rfl, Rng.nil _, by simp [val, Int.emod_one]⟩, ⟨by have := own_empty (W2 w s A n c) (w.heap.size + 1 + 1) (by rw [W2.size]; exact Nat.le_refl _); rw [W2.size] at this; exact this⟩, ⟨(Below.refl _ _).alloc (Nat.le_refl _) _⟩⟩
  case round =>
    obtain ⟨i, j, zs, rfl, hi, HI, HP, HO, HB⟩ := hrel
    have HL : Hd (zs.length < LIM) := ⟨by have := HI.out; rw [HP.out.1]; unfold LIM; omega⟩
    have HBS : Hd (w.heap.size + 1 + 1 ≤ wr.heap.size) := ⟨by have := HB.out.size; rw [W2.size] at this; exact this⟩
    have HB2 : Hd (Below w.heap.size w wr) := ⟨bt3 HB.out (W2.bel _ _ _ _ _)⟩
    have c0 := cb HB.out (W2.c0 w s A n c)
    have c1 := cb HB.out (W2.c1 w s A n c)
    by_cases h1 : i < n
    · by_cases h2 : i + 1 < n
      · obtain ⟨ad, hA, hcx⟩ := HX.out.reads.at_ (k := i) (by have := HX.out.len; omega)
        subst hA
        have hgx := HX.out.rng.getD (by decide) (i)
        replace hcx := (HB2.out.cell (World.block_lt_of_cell? w _ hcx)).trans hcx
        obtain ⟨ad2, hA2, hcy⟩ := HX.out.reads.at_ (k := i + 1) (by have := HX.out.len; omega)
        cases hA2
        have hgy := HX.out.rng.getD (by decide) (i + 1)
        replace hcy := (HB2.out.cell (World.block_lt_of_cell? w _ hcy)).trans hcy
        replace hcy : wr.cell? ⟨ad.block, ad.off + (i + 1), none⟩ = some (.int .i64 (xs.getD (i + 1) 0)) := hcy
        generalize hey : xs.getD (i + 1) 0 = y at *
        have HEy : Hd (xs.getD (i + 1) 0 = y) := ⟨hey⟩
        clear hey
        generalize hex : xs.getD (i) 0 = x at *
        have HEx : Hd (xs.getD (i) 0 = x) := ⟨hex⟩
        clear hex
        go_wp2_with (at_builtin; refine wpList_push64 _ rfl (.tmp 47) (.tmp 49) rfl (w.heap.size + 1 + 1) _ zs rfl (HO.out.alloc _) wr.heap.size 1 _ rfl ((Blk.new _ _ _).cell 0) HL.out (le_alloc _ HBS.out) ?_; intro v1 w1 ho1 hb1; have HO1 : Hd (O64 w1 (w.heap.size + 1 + 1) v1 _) := ⟨ho1⟩; have HB1 : Hd (Below (W2 w s (some ad) n c).heap.size (W2 w s (some ad) n c) w1) := ⟨((HB.out.alloc HB.out.size _)).trans (by rw [W2.size]; exact hb1)⟩; clear ho1 hb1)
        go_roundw
        case rel =>
          have hI := HI.out
          have hkj : k / 24 + j = i := hI.1.symm
          exact ⟨i + 1, j + 1, _, by go_num, by omega, ⟨⟨by omega, Or.inr (by omega)⟩⟩, ⟨HP.out.next HX.out.rng (by rw [hkj, HEx.out, HEy.out]; exact wrapd hgx hgy (Nat.mod_lt _ (by decide)))⟩, HO1, HB1⟩
        case measure => simp [intOf]; omega
      · obtain ⟨ad, hA, hcx⟩ := HX.out.reads.at_ (k := i) (by have := HX.out.len; omega)
        subst hA
        have hgx := HX.out.rng.getD (by decide) (i)
        replace hcx := (HB2.out.cell (World.block_lt_of_cell? w _ hcx)).trans hcx
        have HEy : Hd (xs.getD (i + 1) 0 = 0) := ⟨getD_far (by have := HX.out.len; omega)⟩
        generalize hex : xs.getD (i) 0 = x at *
        have HEx : Hd (xs.getD (i) 0 = x) := ⟨hex⟩
        clear hex
        go_wp2_with (at_builtin; refine wpList_push64 _ rfl (.tmp 47) (.tmp 49) rfl (w.heap.size + 1 + 1) _ zs rfl (HO.out.alloc _) wr.heap.size 1 _ rfl ((Blk.new _ _ _).cell 0) HL.out (le_alloc _ HBS.out) ?_; intro v1 w1 ho1 hb1; have HO1 : Hd (O64 w1 (w.heap.size + 1 + 1) v1 _) := ⟨ho1⟩; have HB1 : Hd (Below (W2 w s (some ad) n c).heap.size (W2 w s (some ad) n c) w1) := ⟨((HB.out.alloc HB.out.size _)).trans (by rw [W2.size]; exact hb1)⟩; clear ho1 hb1)
        go_roundw
        case rel =>
          have hI := HI.out
          have hkj : k / 24 + j = i := hI.1.symm
          exact ⟨i + 1, j + 1, _, by go_num, by omega, ⟨⟨by omega, Or.inr (by omega)⟩⟩, ⟨HP.out.next HX.out.rng (by rw [hkj, HEx.out, HEy.out]; exact wrapz hgx _ _)⟩, HO1, HB1⟩
        case measure => simp [intOf]; omega
    · obtain ⟨A1, c1, hv, hR⟩ := HO.out.form
      have HR : Hd (R64 wr A1 zs) := ⟨hR⟩
      have HC : Hd (zs.length ≤ c1) := ⟨by subst hv; exact HO.out.cap.2⟩
      have HVZ : Hd (val 16777216 zs = val 16777216 xs / 2 ^ k) := ⟨HP.out.done HX.out.rng (by have := HI.out; have := HX.out.len; omega)⟩
      subst hv
      clear hR
      have HK := Hd.mk (s_MakeW s A1 zs.length c1 zs (s * (val 16777216 xs / 2 ^ k)) wr rfl HR.out (Nat.le_of_lt HL.out) HC.out HP.out.2.1 (sgz HX.out.sg (fun h => by rw [HVZ.out, h]; simp)) (by rw [HVZ.out]) HB0.out)
      generalize zs.length = nz at *
      go_wp2_with (go_at_call 211; (with_reducible refine HK.out.mono ?_); rintro e w2 ⟨s2, A2, n2, c2, rfl, hW, hq0⟩; have hq := bt3 hq0 HB.out; have HW2 : Hd (WhO w2 (w.heap.size + 1 + 1) s2 A2 n2 c2 (s * (val 16777216 xs / 2 ^ k))) := ⟨hW.mono (HBS.out)⟩; clear hW hq0; unfold W2 at hq; obtain ⟨hc, hf, hz, hy⟩ := bcell hq; have hs := hq.size; (try simp at hs); have h0' : w.heap.size < w2.heap.size := (by omega); have h1' : w.heap.size + 1 < w2.heap.size := (by omega); clear hs)
      refine bodyPost_ret (v := .agg #[.int .i64 s2, .slice A2 n2 c2]) (by simp (maxDischargeDepth := 7) [results, Try.results179, go_sem, *]) rfl ⟨s2, A2, n2, c2, rfl, ?_, ?_⟩
      · exact ((HW2.out.set _ _ (by omega) _).set _ _ (by omega) _).mono (by omega)
      · (repeat (first | exact Below.refl _ _ | assumption | refine Below.drew ?_ | refine below_drewN ?_ _ | refine ba _ ?_ | refine bs0 _ _ ?_ ?_ | refine bs1 _ _ _ ?_ ?_ | refine bs2 _ _ _ _ ?_ ?_ | refine bt3 (by assumption) ?_))
end Go.Proofs.Ytmiafbbndonpaaa
