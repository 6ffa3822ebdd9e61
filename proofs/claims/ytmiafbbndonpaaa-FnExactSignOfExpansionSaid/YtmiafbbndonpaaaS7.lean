/- Contracts: left shifts of whole numbers of the reference. -/
import Derived.Test.YtmiafbbndonpaaaS6
set_option linter.unusedVariables false
set_option linter.unusedSimpArgs false
namespace Go.Proofs.Ytmiafbbndonpaaa
open Go.RowKit Num
/-- a new row of zeros -/
theorem wpList_make64 {ops : Array Oper} {rest : List Oper} {o : Oper} {a : Act} {Q : Exit → Act → World → Prop} (w : World) (hgd : o.guard = none) (l c : Operand)
    (ho : o.op = Op.makeSlice 31 l c) (B : Nat) (n : Nat) (L : Int) (hl : a.eval l = .int .i64 L) (hc : a.eval c = .int .i64 L) (hL : L = (n : Int)) (hn : n ≤ LIM) (hB : B ≤ w.heap.size)
    (h : ∀ w', O64 w' B (.slice (some ⟨w.heap.size, 0, none⟩) n n) (List.replicate n 0) → Below B w w' → wpList Try.prog ops Q rest (a.put o.dst (.slice (some ⟨w.heap.size, 0, none⟩) n n)) w') : wpList Try.prog ops Q (o :: rest) a w := by
  obtain ⟨i0, hi0, hz0, hz1, hz2⟩ := info_parts info64
  refine wpList_make_full w hgd l c 31 ho B 2 i0 _ 1 Try.underlying31 hi0 hz0 hz1 .i64 .i64 L L n hl hc hL hL ?_ ?_ hB ?_
  · rw [hz2]; unfold LIM at hn; omega
  · unfold LIM at hn; simp only [maxLen]; omega
  · intro w' h1 h2
    refine h w' ?_ ((Below.refl _ _).grown h2 hB (by simp))
    unfold O64
    have e : (madeCells (Value.int .i64 0).cells (n * 1)).toList = c64 (List.replicate n 0) := by
      have : (Value.int .i64 0).cells = #[Value.int .i64 0] := rfl
      simp [madeCells, c64, this, Nat.mod_one]
      exact List.eq_replicate_iff.2 ⟨by simp, by simp⟩
    rw [e] at h1
    simpa using h1
/-- one number put behind a row of the call's own, as a step of a region that draws its order -/
theorem step_push64 {ops : Array Oper} {o : Oper} {a : Act} {K : Act → World → Prop} {Q : Exit → Act → World → Prop} {E : Prop} (w : World) (hgd : o.guard = none) (s x : Operand)
    (ho : o.op = .call { callee := .builtin .append, args := #[s, x], argTypes := #[31, 31] })
    (B : Nat) (v : Value) (xs : List Int) (hs : a.eval s = v) (hown : O64 w B v xs) (g c : Nat) (y : Int) (hx : a.eval x = .slice (some ⟨g, 0, none⟩) 1 c) (hc : w.cell? ⟨g, 0, none⟩ = some (.int .i64 y))
    (hl : xs.length < LIM) (hB : B ≤ w.heap.size)
    (h : ∀ v' w', O64 w' B v' (xs ++ [y]) → Below B w w' → K (a.put o.dst v') w') :
    if Region.wanted o (yielded ops a.tmps) = true then Oper.wp Try.prog o a w K Q else E := by
  obtain ⟨i0, hi0, hz0, hz1, hz2⟩ := info_parts info64
  refine step_append_any (P := Try.prog) w hgd s x 31 ho B 2 i0 _ 1 8 Try.underlying31 hi0 hz0 hz1 hz2 rfl (by omega) v xs.length (c64 xs) hs hown (w.heap.size) (some ⟨g, 0, none⟩) 1 c [.int .i64 y] hx ?_ ?_ ?_ ?_ hB ?_
  · refine ⟨rfl, fun _ => ⟨⟨g, 0, none⟩, rfl, World.block_lt_of_cell? w _ hc, ?_⟩⟩
    intro j u hj
    match j, hj with
    | 0, hj => simp at hj; subst hj; simpa [Addr.add] using hc
  · intro u hu; simp at hu; subst hu; rfl
  · unfold LIM at hl; unfold maxLen; omega
  · unfold LIM at hl; omega
  · intro v' w' h1 h2 _
    refine h v' w' ?_ ?_
    · unfold O64; rw [c64_append, List.length_append]; exact h1
    · refine (Below.refl _ _).grown h2 hB ?_
      intro k hk
      rcases hown.2 with ⟨rfl, _⟩ | ⟨g', cap, cur, rfl, hg, _⟩
      · simp [Value.ownBlock] at hk
      · have : g' = k := by simpa [Value.ownBlock] using hk
        omega
/-- tells an append of int64s -/
theorem step_is_append {ops : Array Oper} {o : Oper} {a : Act} {w : World} {K : Act → World → Prop} {Q : Exit → Act → World → Prop} {E : Prop} (s x : Operand)
    (ho : o.op = .call { callee := .builtin .append, args := #[s, x], argTypes := #[31, 31] })
    (h : if Region.wanted o (yielded ops a.tmps) = true then Oper.wp Try.prog o a w K Q else E) : if Region.wanted o (yielded ops a.tmps) = true then Oper.wp Try.prog o a w K Q else E := h
/-- what a round of a left shift leaves -/
def LeftR (xs : List Int) (k j : Nat) (q : Int) (zs : List Int) : Prop := zs.length = k / 24 + j ∧ Rng 16777216 zs ∧ val 16777216 zs + 16777216 ^ (k / 24 + j) * q = 2 ^ k * val 16777216 (xs.take j)
theorem p2k (k j : Nat) : (16777216 : Int) ^ (k / 24 + j) * 2 ^ (k % 24) = 2 ^ k * 16777216 ^ j := by
  rw [p24, p24, ← Int.pow_add, ← Int.pow_add]; congr 1; omega
theorem LeftR.next {xs zs : List Int} {k j : Nat} {q d q' : Int} (h : LeftR xs k j q zs) (hd : d = (q + xs.getD j 0 * 2 ^ (k % 24)) % 16777216) (hq : q' = (q + xs.getD j 0 * 2 ^ (k % 24)) / 16777216) : LeftR xs k (j + 1) q' (zs ++ [d]) := by
  obtain ⟨h1, h2, h3⟩ := h
  refine ⟨by simp [h1]; omega, h2.snoc (by omega) (by omega), ?_⟩
  rw [val_snoc, h1, val_take_succ, ← Nat.add_assoc, Int.pow_succ]
  have e := Int.mul_ediv_add_emod (q + xs.getD j 0 * 2 ^ (k % 24)) 16777216
  rw [← hd, ← hq] at e
  have e2 := congrArg ((16777216 : Int) ^ (k / 24 + j) * ·) e
  simp only [Int.mul_add] at e2
  have e3 : (16777216 : Int) ^ (k / 24 + j) * (xs.getD j 0 * 2 ^ (k % 24)) = 2 ^ k * (16777216 ^ j * xs.getD j 0) := by
    rw [Int.mul_comm (xs.getD j 0), ← Int.mul_assoc, p2k, Int.mul_assoc]
  rw [e3] at e2
  rw [Int.mul_add, Int.mul_assoc]
  generalize (16777216 : Int) ^ (k / 24 + j) = p at *
  omega
theorem LeftR.carry {x q : Int} {r : Nat} (hx : 0 ≤ x ∧ x < 16777216) (hq : 0 ≤ q ∧ q < 2 ^ r) : 0 ≤ (q + x * 2 ^ r) / 16777216 ∧ (q + x * 2 ^ r) / 16777216 < 2 ^ r := by
  have hp : (0 : Int) < 2 ^ r := pow_pos' (by decide) _
  have h1 : 0 ≤ x * 2 ^ r := Int.mul_nonneg hx.1 (Int.le_of_lt hp)
  have h2 : x * 2 ^ r ≤ 16777215 * 2 ^ r := Int.mul_le_mul_of_nonneg_right (by omega) (Int.le_of_lt hp)
  generalize x * 2 ^ r = t at *
  generalize (2 : Int) ^ r = p at *
  constructor <;> omega
theorem wrapl2 {x q : Int} {r : Nat} (h : 0 ≤ (q + x * 2 ^ r) / 16777216 ∧ (q + x * 2 ^ r) / 16777216 < 2 ^ r) (hr : r < 24) : wrap64 ((q + x * 2 ^ r) / 16777216) = (q + x * 2 ^ r) / 16777216 := by
  have h0 : (2 : Int) ^ r ≤ 2 ^ 24 := pow_le (by decide) (by omega)
  have h3 : (2 : Int) ^ 24 = 16777216 := rfl
  rw [h3] at h0
  generalize (q + x * 2 ^ r) / 16777216 = t at *
  unfold wrap64; omega
theorem wrapl {x q : Int} {r : Nat} (hx : 0 ≤ x ∧ x < 16777216) (hq : 0 ≤ q ∧ q < 2 ^ r) (hr : r < 24) : wrap64 (q + wrap64 (x * 2 ^ r)) = q + x * 2 ^ r ∧ 0 ≤ q + x * 2 ^ r := by
  have hp : (0 : Int) < 2 ^ r := pow_pos' (by decide) _
  have h0 : (2 : Int) ^ r ≤ 2 ^ 24 := pow_le (by decide) (by omega)
  have h1 : 0 ≤ x * 2 ^ r := Int.mul_nonneg hx.1 (Int.le_of_lt hp)
  have h2 : x * 2 ^ r ≤ 16777215 * 2 ^ r := Int.mul_le_mul_of_nonneg_right (by omega) (Int.le_of_lt hp)
  generalize x * 2 ^ r = t at *
  have h3 : (2 : Int) ^ 24 = 16777216 := rfl
  rw [h3] at h0
  generalize (2 : Int) ^ r = p at *
  have e1 : wrap64 t = t := by unfold wrap64; omega
  rw [e1]; unfold wrap64; omega

set_option maxHeartbeats 4000000 in
theorem s_Left (s : Int) (A : Option Addr) (n c : Nat) (xs : List Int) (a : Int) (k : Nat) (w : World) (hX : WhD w s A n c xs a) (hk : k ≤ 10000000) (hb0 : Bd (a * 2 ^ k)) :
    Calls Try.prog 180 #[.agg #[.int .i64 s, .slice A n c], .int .i64 k] w (RetWh (a * 2 ^ k) w) := by
  have HX : Hd (WhD w s A n c xs a) := ⟨hX⟩
  have hkI : (k : Int) ≤ 10000000 := by omega
  have hnI : (n : Int) ≤ 100000 := by have := hX.lim5; omega
  have HKL : Hd (k / 24 ≤ LIM) := ⟨by unfold LIM; omega⟩
  have HKK : Hd (k ≤ 10000000) := ⟨hk⟩
  have HB0 : Hd (Bd (a * 2 ^ k)) := ⟨hb0⟩
  clear hX hk hb0
  go_enter Try.func180, Try.ntmps180
  go_wp2_with ((with_reducible refine wpList_make64 _ rfl (.tmp 9) (.tmp 9) rfl (w.heap.size + 1 + 1) (k / 24) _ rfl rfl (by omega) HKL.out (by simp) ?_); intro w1 ho1 hb1; have HM : Hd (O64 w1 (w.heap.size + 1 + 1) (.slice (some ⟨w.heap.size + 1 + 1, 0, none⟩) (k / 24) (k / 24)) (List.replicate (k / 24) 0)) := ⟨by simpa using ho1⟩; have HB1 : Hd (Below (W2 w s A n c).heap.size (W2 w s A n c) w1) := ⟨by rw [W2.size]; exact hb1⟩; clear ho1 hb1)
  go_loopw [5, 6, 7] (fun v q i wr => ∃ (j : Nat) (c' : Int) (zs : List Int), i = .int .i64 (j : Int) ∧ q = .int .i64 c' ∧ (j : Int) ≤ n ∧ 0 ≤ c' ∧ c' < 2 ^ (k % 24) ∧ Hd (LeftR xs k j c' zs) ∧ Hd (O64 wr (w.heap.size + 1 + 1) v zs) ∧ Hd (Below (W2 w s A n c).heap.size (W2 w s A n c) wr))
    (fun _ _ i _ => n - (intOf i).toNat)
  case atStart => exact ⟨0, 0, List.replicate (k / 24) 0, rfl, rfl, by omega, by omega, pow_pos' (by decide) _, ⟨by simp, Rng.replicate (by decide) _, by rw [val_replicate]; simp [val]⟩, HM, HB1⟩
  case round =>
    obtain ⟨j, q, zs, rfl, rfl, hj, hq0, hq1, HP, HO, HB⟩ := hrel
    have HL : Hd (zs.length < LIM) := ⟨by have := HKK.out; rw [HP.out.1]; unfold LIM; omega⟩
    have HL2 : Hd (zs.length + 1 ≤ LIM) := ⟨by have := HKK.out; rw [HP.out.1]; unfold LIM; omega⟩
    have HBS : Hd (w.heap.size + 1 + 1 ≤ wr.heap.size) := ⟨by have := HB.out.size; rw [W2.size] at this; exact this⟩
    have HB2 : Hd (Below w.heap.size w wr) := ⟨bt3 HB.out (W2.bel _ _ _ _ _)⟩
    have c0 := cb HB.out (W2.c0 w s A n c)
    have c1 := cb HB.out (W2.c1 w s A n c)
    have HQ : Hd (0 ≤ q ∧ q < 2 ^ (k % 24)) := ⟨⟨hq0, hq1⟩⟩
    have hq2 : q < 16777216 := by
      have h0 : (2 : Int) ^ (k % 24) ≤ 2 ^ 24 := pow_le (by decide) (by omega)
      have h3 : (2 : Int) ^ 24 = 16777216 := rfl
      omega
    clear hq1
    by_cases h1 : j < n
    · obtain ⟨ad, hA, hcx⟩ := HX.out.reads.at_ (k := j) (by have := HX.out.len; omega)
      subst hA
      have hgx := HX.out.rng.getD (by decide) j
      replace hcx := (HB2.out.cell (World.block_lt_of_cell? w _ hcx)).trans hcx
      generalize hex : xs.getD j 0 = x at *
      have HEx : Hd (xs.getD j 0 = x) := ⟨hex⟩
      clear hex
      have HW := wrapl (r := k % 24) hgx HQ.out (Nat.mod_lt _ (by decide))
      have HC := LeftR.carry hgx HQ.out
      have HWD : Hd ((wrap64 (q + wrap64 (x * 2 ^ (k % 24)))).tmod 16777216 = (q + x * 2 ^ (k % 24)) % 16777216 ∧ (wrap64 (q + wrap64 (x * 2 ^ (k % 24)))).tdiv 16777216 = (q + x * 2 ^ (k % 24)) / 16777216) := ⟨by rw [HW.1]; exact ⟨Int.tmod_eq_emod_of_nonneg HW.2, Int.tdiv_eq_ediv_of_nonneg HW.2⟩⟩
      have HCC : Hd (0 ≤ (q + x * 2 ^ (k % 24)) / 16777216 ∧ (q + x * 2 ^ (k % 24)) / 16777216 < 2 ^ (k % 24)) := ⟨HC⟩
      clear HW HC
      go_wp2_with (at_builtin; refine wpList_push64 _ rfl (.tmp 29) (.tmp 32) rfl (w.heap.size + 1 + 1) _ zs rfl (HO.out.alloc _) wr.heap.size 1 _ rfl ((Blk.new _ _ _).cell 0) HL.out (le_alloc _ HBS.out) ?_; intro v1 w1 ho1 hb1; have HO1 : Hd (O64 w1 (w.heap.size + 1 + 1) v1 _) := ⟨ho1⟩; have HB1 : Hd (Below (W2 w s (some ad) n c).heap.size (W2 w s (some ad) n c) w1) := ⟨((HB.out.alloc HB.out.size _)).trans (by rw [W2.size]; exact hb1)⟩; clear ho1 hb1)
      go_roundw
      case rel =>
        exact ⟨j + 1, (q + x * 2 ^ (k % 24)) / 16777216, _, by go_num, by rw [HWD.out.2, wrapl2 HCC.out (Nat.mod_lt _ (by decide))], by omega, HCC.out.1, HCC.out.2, ⟨HP.out.next (by rw [HEx.out]; exact HWD.out.1) (by rw [HEx.out])⟩, HO1, HB1⟩
      case measure => simp [intOf]; omega
    · obtain rfl : j = n := by omega
      have HV : Hd (a * 2 ^ k = s * val 16777216 (zs ++ [q]) ∧ Rng 16777216 (zs ++ [q])) := ⟨by
        have h3 := HP.out.2.2
        rw [HX.out.len, List.take_of_length_le (Nat.le_refl _), ← HX.out.len] at h3
        rw [val_snoc, HP.out.1, h3, HX.out.num.eq, Int.mul_comm (2 ^ k), Int.mul_assoc]
        exact ⟨rfl, HP.out.2.1.snoc hq0 hq2⟩⟩
      have HSG : Hd (s = 1 ∨ s = -1 ∨ val 16777216 (zs ++ [q]) = 0) := ⟨sgz HX.out.sg (fun h => by
        have h3 := HP.out.2.2
        rw [HX.out.len, List.take_of_length_le (Nat.le_refl _), ← HX.out.len, h] at h3
        rw [val_snoc, HP.out.1]; simpa using h3)⟩
      go_wp2_with fail
      go_region_held3 (fun w' => w'.cell? ⟨w.heap.size, 0, none⟩ = some (.int .i64 s)) ((first | assumption | (exact cb hq (W2.c0 w s A j c)) | go_keep | go_simp))
        (first | (go_at_call 211; (with_reducible refine (s_MakeW s A1 (zs.length + 1) c1' (zs ++ [q]) (a * 2 ^ k) w1 HNZ.out HR1.out HL2.out HCP.out HV.out.2 HSG.out HV.out.1 HB0.out).mono ?_); rintro e w2 ⟨s2, A2, n2, c2, rfl, hW, hq0⟩; replace hq := bt3 hq0 hq; have HW2 : Hd (WhO w2 (w.heap.size + 1 + 1) s2 A2 n2 c2 (a * 2 ^ k)) := ⟨hW.mono (HQ2.out)⟩; clear hW hq0; unfold W2 at hq; obtain ⟨hc, hf, hz, hy⟩ := bcell hq; have hs := hq.size; (try simp at hs); have h0' : w.heap.size < w2.heap.size := (by omega); have h1' : w.heap.size + 1 < w2.heap.size := (by omega); clear hs) | ((with_reducible refine step_is_append (.tmp 38) (.tmp 40) rfl ?_); refine step_push64 _ rfl (.tmp 38) (.tmp 40) rfl (w.heap.size + 1 + 1) _ zs rfl (HO.out.keep (Below.drew (ba _ (Below.refl _ _)))) _ 1 q rfl ((Blk.new _ _ _).cell 0) HL.out (le_alloc _ HBS.out) ?_; intro v1 w1 ho1 hb1; obtain ⟨A1, c1', hv1, hR1⟩ := ho1.form; have HCP : Hd (zs.length + 1 ≤ c1') := ⟨by subst hv1; have := ho1.cap.2; simpa using this⟩; subst hv1; have HNZ : Hd (zs.length + 1 = (zs ++ [q]).length) := ⟨by simp⟩; have HR1 : Hd (R64 w1 A1 (zs ++ [q])) := ⟨hR1⟩; have hq : Below (W2 w s A j c).heap.size (W2 w s A j c) w1 := (by rw [W2.size]; refine bel_up ?_ hb1; rw [← W2.size w s A j c]; (repeat (first | exact Below.refl _ _ | exact HB.out | assumption | refine Below.drew ?_ | refine below_drewN ?_ _ | refine ba _ ?_ | refine bs0 _ _ ?_ ?_ | refine bs1 _ _ _ ?_ ?_ | refine bs2 _ _ _ _ ?_ ?_ | refine bt3 (by assumption) ?_))); have HQ2 : Hd (w.heap.size + 1 + 1 ≤ w1.heap.size) := ⟨by have := hq.size; rw [W2.size] at this; exact this⟩; clear ho1 hb1 hR1))
      go_wp2_with fail
      refine bodyPost_ret (v := .agg #[.int .i64 s2, .slice A2 n2 c2]) (by simp (maxDischargeDepth := 7) [results, Try.results180, go_sem, *]) rfl ⟨s2, A2, n2, c2, rfl, ?_, ?_⟩
      · exact ((HW2.out.set _ _ (by omega) _).set _ _ (by omega) _).mono (by omega)
      · (repeat (first | exact Below.refl _ _ | assumption | refine Below.drew ?_ | refine below_drewN ?_ _ | refine ba _ ?_ | refine bs0 _ _ ?_ ?_ | refine bs1 _ _ _ ?_ ?_ | refine bs2 _ _ _ _ ?_ ?_ | refine bt3 (by assumption) ?_))
end Go.Proofs.Ytmiafbbndonpaaa
