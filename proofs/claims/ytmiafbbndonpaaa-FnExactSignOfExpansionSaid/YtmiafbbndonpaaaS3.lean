/- Contracts: differences and comparison of limbs, whole numbers of integers, of the reference. -/
import Derived.Test.YtmiafbbndonpaaaS2
set_option linter.unusedVariables false
set_option linter.unusedSimpArgs false
namespace Go.Proofs.Ytmiafbbndonpaaa
open Go.RowKit Num
/-- what a round of a difference leaves -/
def MinusR (xs ys : List Int) (k : Nat) (b : Int) (zs : List Int) : Prop :=
  zs.length = k ∧ Rng 16777216 zs ∧ val 16777216 zs - 16777216 ^ k * b = val 16777216 (xs.take k) - val 16777216 (ys.take k)
theorem MinusR.next {xs ys zs : List Int} {k : Nat} {b t b' : Int} (h : MinusR xs ys k b zs) (ht : t - 16777216 * b' = xs.getD k 0 - b - ys.getD k 0) (h0 : 0 ≤ t) (h1 : t < 16777216) : MinusR xs ys (k + 1) b' (zs ++ [t]) := by
  obtain ⟨e1, e2, e3⟩ := h
  refine ⟨by simp [e1], e2.snoc h0 h1, ?_⟩
  rw [val_snoc, val_take_succ, val_take_succ, e1]
  exact minus_step e3 ht
theorem MinusR.done {xs ys zs : List Int} {b : Int} (h : MinusR xs ys xs.length b zs) (hl : ys.length ≤ xs.length) (hv : val 16777216 ys ≤ val 16777216 xs) (hb : b = 0 ∨ b = 1) : val 16777216 zs = val 16777216 xs - val 16777216 ys := by
  obtain ⟨e1, e2, e3⟩ := h
  rw [List.take_of_length_le (Nat.le_refl _), List.take_of_length_le hl] at e3
  have h1 := val_lt (by decide) e2
  rw [e1] at h1
  rcases hb with rfl | rfl
  · omega
  · simp at e3; omega
set_option maxHeartbeats 4000000 in
theorem s_MinusL (A A' : Option Addr) (n m c c' : Nat) (xs ys : List Int) (w : World) (hn : n = xs.length) (hm : m = ys.length) (h : R64 w A xs) (h' : R64 w A' ys) (hr : Rng 16777216 xs) (hr' : Rng 16777216 ys) (hl : n ≤ 100000) (hl' : m ≤ n) (hv : val 16777216 ys ≤ val 16777216 xs) :
    Calls Try.prog 217 #[.slice A n c, .slice A' m c'] w (RetO (fun zs => Rng 16777216 zs ∧ zs.length ≤ 100001 ∧ val 16777216 zs = val 16777216 xs - val 16777216 ys) w) := by
  have HX : Hd (R64 w A xs) := ⟨h⟩
  have HY : Hd (R64 w A' ys) := ⟨h'⟩
  have HG : Hd (Rng 16777216 xs ∧ Rng 16777216 ys) := ⟨⟨hr, hr'⟩⟩
  have HN : Hd (n = xs.length ∧ m = ys.length) := ⟨⟨hn, hm⟩⟩
  have HM : Hd (n ≤ 100000 ∧ m ≤ n) := ⟨⟨hl, hl'⟩⟩
  have HVV : Hd (val 16777216 ys ≤ val 16777216 xs) := ⟨hv⟩
  clear h h' hr hr' hn hm hl hl' hv
  go_enter Try.func217, Try.ntmps217
  go_wp2
  go_loopw [5, 6, 7] (fun v c i wr => ∃ (k : Nat) (q : Int) (zs : List Int), (k : Int) ≤ n ∧ i = .int .i64 k ∧ c = .int .i64 q ∧ 0 ≤ q ∧ q ≤ 1 ∧ Hd (MinusR xs ys k q zs) ∧ Hd (O64 wr w.heap.size v zs) ∧ Hd (Below w.heap.size w wr))
    (fun _ _ i _ => n - (intOf i).toNat)
  case atStart =>
    refine ⟨0, 0, [], by omega, rfl, rfl, by omega, by omega, ⟨rfl, Rng.nil _, rfl⟩, ⟨own_empty w w.heap.size (Nat.le_refl _)⟩, ⟨(Below.refl _ _).alloc (Nat.le_refl _) _⟩⟩
  case round =>
    obtain ⟨k, q, zs, hk, rfl, rfl, hq0, hq1, HP, HO, HB⟩ := hrel
    have HL : Hd (zs.length < LIM) := ⟨by have := HM.out; rw [HP.out.1]; unfold LIM; omega⟩
    have hkI : (k : Int) ≤ 100000 := by have := HM.out; omega
    by_cases h1 : k < n
    · by_cases h2 : k < m
      · obtain ⟨ad, rfl, hcx⟩ := HX.out.at_ (k := k) (by have := HN.out; omega)
        have hgx := HG.out.1.getD (by decide) k
        replace hcx := (HB.out.cell (World.block_lt_of_cell? w _ hcx)).trans hcx
        generalize hex : xs.getD k 0 = x at *
        have HEx : Hd (xs.getD k 0 = x) := ⟨hex⟩
        clear hex
        obtain ⟨ad', rfl, hcy⟩ := HY.out.at_ (k := k) (by have := HN.out; omega)
        have hgy := HG.out.2.getD (by decide) k
        replace hcy := (HB.out.cell (World.block_lt_of_cell? w _ hcy)).trans hcy
        generalize hey : ys.getD k 0 = y at *
        have HEy : Hd (ys.getD k 0 = y) := ⟨hey⟩
        clear hey
        by_cases h3 : x - q - y < 0
        · go_wp2_with (at_builtin; refine wpList_push64 _ rfl (.tmp 36) (.tmp 38) rfl w.heap.size _ zs rfl (HO.out.alloc _) wr.heap.size 1 _ rfl ((Blk.new _ _ _).cell 0) HL.out (by simp; exact Nat.le_succ_of_le HB.out.size) ?_; intro v1 w1 ho1 hb1; have HO1 : Hd (O64 w1 w.heap.size v1 _) := ⟨ho1⟩; have HB1 : Hd (Below w.heap.size w w1) := ⟨((HB.out.alloc HB.out.size _)).trans hb1⟩; clear ho1 hb1)
          go_roundw
          case rel =>
            exact ⟨k + 1, 1, zs ++ [x - q - y + 16777216], by omega, by go_num, by go_num, by omega, by omega, ⟨HP.out.next (by rw [HEx.out, HEy.out]; omega) (by omega) (by omega)⟩, HO1, HB1⟩
          case measure => simp [intOf]; omega
        · go_wp2_with (at_builtin; refine wpList_push64 _ rfl (.tmp 36) (.tmp 38) rfl w.heap.size _ zs rfl (HO.out.alloc _) wr.heap.size 1 _ rfl ((Blk.new _ _ _).cell 0) HL.out (by simp; exact Nat.le_succ_of_le HB.out.size) ?_; intro v1 w1 ho1 hb1; have HO1 : Hd (O64 w1 w.heap.size v1 _) := ⟨ho1⟩; have HB1 : Hd (Below w.heap.size w w1) := ⟨((HB.out.alloc HB.out.size _)).trans hb1⟩; clear ho1 hb1)
          go_roundw
          case rel =>
            exact ⟨k + 1, 0, zs ++ [x - q - y], by omega, by go_num, by go_num, by omega, by omega, ⟨HP.out.next (by rw [HEx.out, HEy.out]; omega) (by omega) (by omega)⟩, HO1, HB1⟩
          case measure => simp [intOf]; omega
      · obtain ⟨ad, rfl, hcx⟩ := HX.out.at_ (k := k) (by have := HN.out; omega)
        have hgx := HG.out.1.getD (by decide) k
        replace hcx := (HB.out.cell (World.block_lt_of_cell? w _ hcx)).trans hcx
        generalize hex : xs.getD k 0 = x at *
        have HEx : Hd (xs.getD k 0 = x) := ⟨hex⟩
        clear hex
        have HEy : Hd (ys.getD k 0 = 0) := ⟨getD_far (by have := HN.out; omega)⟩
        by_cases h3 : x - q < 0
        · go_wp2_with (at_builtin; refine wpList_push64 _ rfl (.tmp 36) (.tmp 38) rfl w.heap.size _ zs rfl (HO.out.alloc _) wr.heap.size 1 _ rfl ((Blk.new _ _ _).cell 0) HL.out (by simp; exact Nat.le_succ_of_le HB.out.size) ?_; intro v1 w1 ho1 hb1; have HO1 : Hd (O64 w1 w.heap.size v1 _) := ⟨ho1⟩; have HB1 : Hd (Below w.heap.size w w1) := ⟨((HB.out.alloc HB.out.size _)).trans hb1⟩; clear ho1 hb1)
          go_roundw
          case rel =>
            exact ⟨k + 1, 1, zs ++ [x - q + 16777216], by omega, by go_num, by go_num, by omega, by omega, ⟨HP.out.next (by rw [HEx.out, HEy.out]; omega) (by omega) (by omega)⟩, HO1, HB1⟩
          case measure => simp [intOf]; omega
        · go_wp2_with (at_builtin; refine wpList_push64 _ rfl (.tmp 36) (.tmp 38) rfl w.heap.size _ zs rfl (HO.out.alloc _) wr.heap.size 1 _ rfl ((Blk.new _ _ _).cell 0) HL.out (by simp; exact Nat.le_succ_of_le HB.out.size) ?_; intro v1 w1 ho1 hb1; have HO1 : Hd (O64 w1 w.heap.size v1 _) := ⟨ho1⟩; have HB1 : Hd (Below w.heap.size w w1) := ⟨((HB.out.alloc HB.out.size _)).trans hb1⟩; clear ho1 hb1)
          go_roundw
          case rel =>
            exact ⟨k + 1, 0, zs ++ [x - q], by omega, by go_num, by go_num, by omega, by omega, ⟨HP.out.next (by rw [HEx.out, HEy.out]; omega) (by omega) (by omega)⟩, HO1, HB1⟩
          case measure => simp [intOf]; omega
    · obtain ⟨A1, c1, hv, _⟩ := HO.out.form
      have HV : Hd (val 16777216 zs = val 16777216 xs - val 16777216 ys) := ⟨by
        have h := HP.out
        have hN := HN.out
        have hM := HM.out
        obtain rfl : k = xs.length := by omega
        exact h.done (by omega) HVV.out (by omega)⟩
      subst hv
      go_wp2
      go_ret
      refine ⟨A1, _, c1, zs, rfl, rfl, ⟨HP.out.2.1, ?_, HV.out⟩, HO.out, HB.out⟩
      rw [HP.out.1]; omega
/-- -1, 0 or 1 -/
def cmpI (a b : Int) : Int := if a < b then -1 else if b < a then 1 else 0
theorem cmp_digit {xs ys : List Int} {k : Nat} (hr : Rng 16777216 xs) (hr' : Rng 16777216 ys) (hk : k < xs.length) (hl : xs.length = ys.length) (hd : xs.drop (k + 1) = ys.drop (k + 1)) (h : xs.getD k 0 < ys.getD k 0) : val 16777216 xs < val 16777216 ys := by
  have e1 := val_take_drop 16777216 xs k (by omega)
  have e2 := val_take_drop 16777216 ys k (by omega)
  rw [val_drop 16777216 xs k] at e1
  rw [val_drop 16777216 ys k, ← hd] at e2
  have h1 := val_lt (by decide) (hr.take k)
  rw [List.length_take, Nat.min_eq_left (by omega)] at h1
  have h2 := val_nonneg (by decide) (hr'.take k)
  have h3 : (16777216 : Int) ^ k * (xs.getD k 0 + 16777216 * val 16777216 (xs.drop (k + 1)) + 1) ≤ 16777216 ^ k * (ys.getD k 0 + 16777216 * val 16777216 (xs.drop (k + 1))) :=
    Int.mul_le_mul_of_nonneg_left (by omega) (Int.le_of_lt (pow_pos' (by decide) k))
  rw [Int.mul_add _ _ 1] at h3
  omega
theorem drop_one {xs ys : List Int} {k : Nat} (hk : k < xs.length) (hl : xs.length = ys.length) (hd : xs.drop (k + 1) = ys.drop (k + 1)) (h : xs.getD k 0 = ys.getD k 0) : xs.drop k = ys.drop k := by
  rw [List.drop_eq_getElem_cons hk, List.drop_eq_getElem_cons (show k < ys.length by omega), hd]
  rw [List.getD_eq_getElem?_getD, List.getD_eq_getElem?_getD, List.getElem?_eq_getElem hk, List.getElem?_eq_getElem (show k < ys.length by omega)] at h
  simp at h; rw [h]
set_option maxHeartbeats 4000000 in
theorem s_CmpL (A A' : Option Addr) (n m c c' : Nat) (xs ys : List Int) (w : World) (hn : n = xs.length) (hm : m = ys.length) (h : R64 w A xs) (h' : R64 w A' ys) (hr : Canon 16777216 xs) (hr' : Canon 16777216 ys) (hl : n ≤ 100000) (hl' : m ≤ 100000) :
    Calls Try.prog 182 #[.slice A n c, .slice A' m c'] w fun e w' => e = .returned (.int .i64 (cmpI (val 16777216 xs) (val 16777216 ys))) ∧ ∃ d, w' = w.drewN d := by
  have HX : Hd (R64 w A xs) := ⟨h⟩
  have HY : Hd (R64 w A' ys) := ⟨h'⟩
  have HG : Hd (Canon 16777216 xs ∧ Canon 16777216 ys) := ⟨⟨hr, hr'⟩⟩
  have HN : Hd (n = xs.length ∧ m = ys.length) := ⟨⟨hn, hm⟩⟩
  have hnI : (n : Int) ≤ 100000 := by omega
  have hmI : (m : Int) ≤ 100000 := by omega
  clear h h' hr hr' hn hm hl hl'
  by_cases h1 : n < m
  · have HV : Hd (cmpI (val 16777216 xs) (val 16777216 ys) = -1) := ⟨if_pos (HG.out.1.len_lt (by decide) HG.out.2 (by have := HN.out; omega))⟩
    go_enter Try.func182, Try.ntmps182
    go_wp2
    go_ret
    rw [HV.out]; exact ⟨rfl, 0, rfl⟩
  · by_cases h2 : m < n
    · have HV : Hd (cmpI (val 16777216 xs) (val 16777216 ys) = 1) := ⟨by
        have := HG.out.2.len_lt (by decide) HG.out.1 (by have := HN.out; omega)
        unfold cmpI; rw [if_neg (by omega), if_pos this]⟩
      go_enter Try.func182, Try.ntmps182
      go_wp2
      go_ret
      rw [HV.out]; exact ⟨rfl, 0, rfl⟩
    · obtain rfl : n = m := by omega
      go_enter Try.func182, Try.ntmps182
      go_wp2
      go_loopw [5] (fun i wr => ∃ (k d : Nat), (k : Int) ≤ n ∧ i = .int .i64 ((k : Int) - 1) ∧ Hd (xs.drop k = ys.drop k) ∧ wr = w.drewN d)
        (fun i _ => (intOf i + 1).toNat)
      case atStart => exact ⟨n, 0, Int.le_refl _, by go_num, ⟨by have := HN.out; exact (List.drop_eq_nil_of_le (show xs.length ≤ n by omega)).trans (List.drop_eq_nil_of_le (show ys.length ≤ n by omega)).symm⟩, rfl⟩
      case round =>
        obtain ⟨k, d, hk, rfl, HD, rfl⟩ := hrel
        rcases Nat.eq_zero_or_pos k with h0 | h0
        · subst h0
          have HV : Hd (cmpI (val 16777216 xs) (val 16777216 ys) = 0) := ⟨by have := HD.out; simp at this; rw [this]; simp [cmpI]⟩
          go_wp2
          go_ret
          rw [HV.out]; exact ⟨rfl, d, rfl⟩
        · obtain ⟨j, rfl⟩ : ∃ j, k = j + 1 := ⟨k - 1, by omega⟩
          obtain ⟨ad, rfl, hcx⟩ := HX.out.at_ (k := j) (by have := HN.out; omega)
          obtain ⟨ad', rfl, hcy⟩ := HY.out.at_ (k := j) (by have := HN.out; omega)
          generalize hex : xs.getD j 0 = x at *
          have HEx : Hd (xs.getD j 0 = x) := ⟨hex⟩
          generalize hey : ys.getD j 0 = y at *
          have HEy : Hd (ys.getD j 0 = y) := ⟨hey⟩
          clear hex hey
          have hj : j < n := by omega
          have he : ((↑(j + 1) : Int) - 1) = j := by omega
          rw [he]; clear he hk h0
          by_cases hxy : x = y
          · have hd : (x == y) = true := by simpa using hxy
            have HS : Hd (xs.drop j = ys.drop j) := ⟨drop_one (by have := HN.out; omega) (by have := HN.out; omega) HD.out (by rw [HEx.out, HEy.out, hxy])⟩
            clear hxy
            go_wp2
            go_region
            go_wp2
            go_roundw
            case rel => exact ⟨j, _, by omega, by go_num, HS, rfl⟩
            case measure => simp [intOf]
          · have hd : (x == y) = false := by simpa using hxy
            by_cases hlt : x < y
            · have HV : Hd (cmpI (val 16777216 xs) (val 16777216 ys) = -1) := ⟨if_pos (cmp_digit HG.out.1.1 HG.out.2.1 (by have := HN.out; omega) (by have := HN.out; omega) HD.out (by rw [HEx.out, HEy.out]; exact hlt))⟩
              clear hxy
              go_wp2
              go_region
              go_wp2
              go_region
              go_wp2
              go_ret
              rw [HV.out]; exact ⟨rfl, _, rfl⟩
            · have HV : Hd (cmpI (val 16777216 xs) (val 16777216 ys) = 1) := ⟨by
                have := cmp_digit HG.out.2.1 HG.out.1.1 (by have := HN.out; omega) (by have := HN.out; omega) HD.out.symm (by rw [HEx.out, HEy.out]; omega)
                unfold cmpI; rw [if_neg (by omega), if_pos this]⟩
              have hd2 : decide (x < y) = false := decide_eq_false hlt
              clear hxy hlt
              go_wp2
              go_region
              go_wp2
              go_region
              go_wp2
              go_ret
              rw [HV.out]; exact ⟨rfl, _, rfl⟩
/-- the world with the result's cell -/
def W0 (w : World) : World := w.alloc (Obj.cells #[Value.int .i64 0, Value.slice none 0 0] 33)
/-- a small integer as a whole number -/
theorem small_digits (n : Int) (h0 : n ≠ 0) (h : -16777216 < n ∧ n < 16777216) : Rng 16777216 [(n.natAbs : Int)] ∧ val 16777216 [(n.natAbs : Int)] = (n.natAbs : Int) := by
  refine ⟨Rng.cons (by omega) (by omega) (Rng.nil _), ?_⟩
  show (n.natAbs : Int) + 16777216 * 0 = _; omega
set_option maxHeartbeats 4000000 in
theorem s_Of (n : Int) (w : World) (h : -16777216 < n ∧ n < 16777216) (hb : Bd n) :
    Calls Try.prog 172 #[.int .i64 n] w (RetWh n w) := by
  have HB0 : Hd (Bd n) := ⟨hb⟩
  have H1 : Hd (-16777216 < n ∧ n < 16777216) := ⟨h⟩
  have ht : n.tmod 16777216 = n := by
    rcases Int.le_total 0 n with k | k
    · exact Int.tmod_eq_of_lt k h.2
    · obtain ⟨m, hm⟩ : ∃ m, n = -m := ⟨-n, by omega⟩
      rw [hm, Int.neg_tmod, Int.tmod_eq_of_lt (by omega) (by omega)]
  have hq : n.tdiv 16777216 = 0 := by
    rcases Int.le_total 0 n with k | k
    · exact Int.tdiv_eq_zero_of_lt k h.2
    · obtain ⟨m, hm⟩ : ∃ m, n = -m := ⟨-n, by omega⟩
      rw [hm, Int.neg_tdiv, Int.tdiv_eq_zero_of_lt (by omega) (by omega)]; rfl
  have h1 : -16777216 < n := h.1
  have h2 : n < 16777216 := h.2
  clear h hb
  have HBW : Hd (Below w.heap.size w (W0 w)) := ⟨(Below.refl _ _).alloc (Nat.le_refl _) _⟩
  by_cases h0 : n = 0
  · subst h0
    go_enter Try.func172, Try.ntmps172
    go_wp2
    go_loopw [0, 4] (fun i v wr => i = .int .i64 0 ∧ Hd (O64 wr (w.heap.size + 1) v []) ∧ Hd (Below (W0 w).heap.size (W0 w) wr)) (fun _ _ _ => 0)
    case atStart => exact ⟨rfl, ⟨by have := own_empty (W0 w) (w.heap.size + 1) (by simp [W0]); simpa [W0] using this⟩, ⟨(Below.refl _ _).alloc (Nat.le_refl _) _⟩⟩
    case round =>
      obtain ⟨rfl, HO, HB⟩ := hrel
      obtain ⟨A1, c1, hv, hR⟩ := HO.out.form
      have HR : Hd (R64 wr A1 []) := ⟨hR⟩
      subst hv
      clear hR
      have HK := Hd.mk (s_MakeW 1 A1 0 c1 [] 0 wr rfl HR.out (by unfold LIM; simp) (by first | exact HC.out | simp) (Rng.nil _) (Or.inl rfl) rfl HB0.out)
      go_wp2_with (go_at_call 211; (with_reducible refine HK.out.mono ?_); rintro e w2 ⟨s2, A2, n2, c2, rfl, hW, hb2⟩; have HW2 : Hd (WhO w2 (w.heap.size + 1) s2 A2 n2 c2 0) := ⟨hW.mono (by have := HB.out.size; simp [W0] at this; omega)⟩; have hb := bt3 hb2 HB.out; clear hW hb2; unfold W0 at hb; obtain ⟨hc, hf, hz, hy⟩ := bcell hb; have hs := hb.size; (try simp at hs); have h0' : w.heap.size < w2.heap.size := (by omega); clear hs)
      refine bodyPost_ret (v := .agg #[.int .i64 s2, .slice A2 n2 c2]) (by simp (maxDischargeDepth := 7) [results, Try.results172, go_sem, *]) rfl ⟨s2, A2, n2, c2, rfl, ?_, ?_⟩
      · exact ((HW2.out.set _ _ (by omega) _).set _ _ (by omega) _).mono (by omega)
      · (repeat (first | exact Below.refl _ _ | refine Below.drew ?_ | refine ba _ ?_ | refine bs0 _ _ ?_ ?_ | refine bs1 _ _ _ ?_ ?_ | refine bt3 (by assumption) ?_))
  · by_cases hp : 0 < n
    · have HP : Hd (0 < n) := ⟨by omega⟩
      have HZ : Hd (n ≠ 0) := ⟨h0⟩
      have hd : (n == 0) = false := by simpa using h0
      have hq0 : 0 ≤ n := by omega
      go_enter Try.func172, Try.ntmps172
      go_wp2
      go_loopw [0, 4] (fun i v wr => ((i = .int .i64 n ∧ Hd (O64 wr (w.heap.size + 1) v [])) ∨ (i = .int .i64 0 ∧ Hd (O64 wr (w.heap.size + 1) v [(n.natAbs : Int)]))) ∧ Hd (Below (W0 w).heap.size (W0 w) wr)) (fun i _ _ => (intOf i).natAbs)
      case atStart => exact ⟨Or.inl ⟨rfl, ⟨by have := own_empty (W0 w) (w.heap.size + 1) (by simp [W0]); simpa [W0] using this⟩⟩, ⟨(Below.refl _ _).alloc (Nat.le_refl _) _⟩⟩
      case round =>
        obtain ⟨⟨rfl, HO⟩ | ⟨rfl, HO⟩, HB⟩ := hrel
        · go_wp2_with (at_builtin; refine wpList_push64 _ rfl (.tmp 17) (.tmp 19) rfl (w.heap.size + 1) _ [] rfl (HO.out.alloc _) wr.heap.size 1 _ rfl ((Blk.new _ _ _).cell 0) (by unfold LIM; decide) (by have := HB.out.size; simp [W0] at this ⊢; omega) ?_; intro v1 w1 ho1 hb1; have HO1 : Hd (O64 w1 (w.heap.size + 1) v1 _) := ⟨ho1⟩; have HB1 : Hd (Below (W0 w).heap.size (W0 w) w1) := ⟨((HB.out.alloc HB.out.size _)).trans (by have := hb1; simpa [W0] using this)⟩; clear ho1 hb1)
          go_roundw
          case rel => exact ⟨Or.inr ⟨by go_num, by rw [show (n.natAbs : Int) = n by omega]; exact HO1⟩, HB1⟩
          case measure => simp [intOf]; omega
        · obtain ⟨A1, c1, hv, hR⟩ := HO.out.form
          have HR : Hd (R64 wr A1 [(n.natAbs : Int)]) := ⟨hR⟩
          have HC : Hd (1 ≤ c1) := ⟨by subst hv; exact HO.out.cap.2⟩
          subst hv
          clear hR
          have HK := Hd.mk (s_MakeW 1 A1 1 c1 [(n.natAbs : Int)] n wr rfl HR.out (by unfold LIM; simp) (by first | exact HC.out | simp) (small_digits n HZ.out H1.out).1 (Or.inl rfl) (by rw [(small_digits n HZ.out H1.out).2]; have := HP.out; omega) HB0.out)
          go_wp2_with (go_at_call 211; (with_reducible refine HK.out.mono ?_); rintro e w2 ⟨s2, A2, n2, c2, rfl, hW, hb2⟩; have HW2 : Hd (WhO w2 (w.heap.size + 1) s2 A2 n2 c2 n) := ⟨hW.mono (by have := HB.out.size; simp [W0] at this; omega)⟩; have hb := bt3 hb2 HB.out; clear hW hb2; unfold W0 at hb; obtain ⟨hc, hf, hz, hy⟩ := bcell hb; have hs := hb.size; (try simp at hs); have h0' : w.heap.size < w2.heap.size := (by omega); clear hs)
          refine bodyPost_ret (v := .agg #[.int .i64 s2, .slice A2 n2 c2]) (by simp (maxDischargeDepth := 7) [results, Try.results172, go_sem, *]) rfl ⟨s2, A2, n2, c2, rfl, ?_, ?_⟩
          · exact ((HW2.out.set _ _ (by omega) _).set _ _ (by omega) _).mono (by omega)
          · (repeat (first | exact Below.refl _ _ | refine Below.drew ?_ | refine ba _ ?_ | refine bs0 _ _ ?_ ?_ | refine bs1 _ _ _ ?_ ?_ | refine bt3 (by assumption) ?_))
    · have HP : Hd (n < 0) := ⟨by omega⟩
      have HZ : Hd (n ≠ 0) := ⟨h0⟩
      have hd : (n == 0) = false := by simpa using h0
      have hq0 : n < 0 := by omega
      go_enter Try.func172, Try.ntmps172
      go_wp2
      go_loopw [0, 4] (fun i v wr => ((i = .int .i64 n ∧ Hd (O64 wr (w.heap.size + 1) v [])) ∨ (i = .int .i64 0 ∧ Hd (O64 wr (w.heap.size + 1) v [(n.natAbs : Int)]))) ∧ Hd (Below (W0 w).heap.size (W0 w) wr)) (fun i _ _ => (intOf i).natAbs)
      case atStart => exact ⟨Or.inl ⟨rfl, ⟨by have := own_empty (W0 w) (w.heap.size + 1) (by simp [W0]); simpa [W0] using this⟩⟩, ⟨(Below.refl _ _).alloc (Nat.le_refl _) _⟩⟩
      case round =>
        obtain ⟨⟨rfl, HO⟩ | ⟨rfl, HO⟩, HB⟩ := hrel
        · go_wp2_with (at_builtin; refine wpList_push64 _ rfl (.tmp 17) (.tmp 19) rfl (w.heap.size + 1) _ [] rfl (HO.out.alloc _) wr.heap.size 1 _ rfl ((Blk.new _ _ _).cell 0) (by unfold LIM; decide) (by have := HB.out.size; simp [W0] at this ⊢; omega) ?_; intro v1 w1 ho1 hb1; have HO1 : Hd (O64 w1 (w.heap.size + 1) v1 _) := ⟨ho1⟩; have HB1 : Hd (Below (W0 w).heap.size (W0 w) w1) := ⟨((HB.out.alloc HB.out.size _)).trans (by have := hb1; simpa [W0] using this)⟩; clear ho1 hb1)
          go_roundw
          case rel => exact ⟨Or.inr ⟨by go_num, by rw [show (n.natAbs : Int) = -n by omega]; exact HO1⟩, HB1⟩
          case measure => simp [intOf]; omega
        · obtain ⟨A1, c1, hv, hR⟩ := HO.out.form
          have HR : Hd (R64 wr A1 [(n.natAbs : Int)]) := ⟨hR⟩
          have HC : Hd (1 ≤ c1) := ⟨by subst hv; exact HO.out.cap.2⟩
          subst hv
          clear hR
          have HK := Hd.mk (s_MakeW (-1) A1 1 c1 [(n.natAbs : Int)] n wr rfl HR.out (by unfold LIM; simp) (by first | exact HC.out | simp) (small_digits n HZ.out H1.out).1 (Or.inr (Or.inl rfl)) (by rw [(small_digits n HZ.out H1.out).2]; have := HP.out; omega) HB0.out)
          go_wp2_with (go_at_call 211; (with_reducible refine HK.out.mono ?_); rintro e w2 ⟨s2, A2, n2, c2, rfl, hW, hb2⟩; have HW2 : Hd (WhO w2 (w.heap.size + 1) s2 A2 n2 c2 n) := ⟨hW.mono (by have := HB.out.size; simp [W0] at this; omega)⟩; have hb := bt3 hb2 HB.out; clear hW hb2; unfold W0 at hb; obtain ⟨hc, hf, hz, hy⟩ := bcell hb; have hs := hb.size; (try simp at hs); have h0' : w.heap.size < w2.heap.size := (by omega); clear hs)
          refine bodyPost_ret (v := .agg #[.int .i64 s2, .slice A2 n2 c2]) (by simp (maxDischargeDepth := 7) [results, Try.results172, go_sem, *]) rfl ⟨s2, A2, n2, c2, rfl, ?_, ?_⟩
          · exact ((HW2.out.set _ _ (by omega) _).set _ _ (by omega) _).mono (by omega)
          · (repeat (first | exact Below.refl _ _ | refine Below.drew ?_ | refine ba _ ?_ | refine bs0 _ _ ?_ ?_ | refine bs1 _ _ _ ?_ ?_ | refine bt3 (by assumption) ?_))
end Go.Proofs.Ytmiafbbndonpaaa
