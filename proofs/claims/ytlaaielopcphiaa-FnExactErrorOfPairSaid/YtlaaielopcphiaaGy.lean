/- Gy: V1 V2 V3 V4, merged. -/
import Derived.Test.YtlaaielopcphiaaGx
import Derived.Test.YtlaaielopcphiaaGc
import Derived.Test.YtlaaielopcphiaaGa
import Derived.Test.YtlaaielopcphiaaGe
/- Contracts: values of pairs, both sides. -/
set_option linter.unusedVariables false
set_option linter.unusedSimpArgs false
set_option exponentiation.threshold 30000
namespace Go.Proofs.Ytlaaielopcphiaa
open Go.RowKit Num Flt
theorem fv_lt2 {x : Nat} (h : fin x) : (fv x).natAbs < 2 ^ 20200 := by
  have he := pe_le h
  have hm := mv_lt x
  have hsc : (SC : Nat) = 20000 := rfl
  unfold fv dv
  rw [Int.natAbs_mul, Int.natAbs_pow]
  have h1 : (Int.natAbs 2) ^ ((-149 + (pe x : Int)) + SC).toNat ≤ 2 ^ 20104 := Nat.pow_le_pow_right (by decide) (by omega)
  have h2 : (mv x).natAbs ≤ 2 ^ 24 := by omega
  have h3 := Nat.mul_le_mul h2 h1
  rw [← Nat.pow_add] at h3
  exact Nat.lt_of_le_of_lt h3 (Nat.pow_lt_pow_right (by decide) (by decide))
theorem fv_bdP {x y : Nat} (hx : fin x) (hy : fin y) : Bd (fv x + fv y) := by
  have h := sumv_bd [x, y] (by intro z hz; simp at hz; rcases hz with rfl | rfl; exact hx; exact hy) (by simp)
  simpa [sumv] using h
theorem fv2_lt {x y : Nat} (hx : fin x) (hy : fin y) : (fv x + fv y).natAbs < 2 ^ 22000 := by
  have h1 := fv_lt2 hx
  have h2 := fv_lt2 hy
  have h3 : 2 ^ 20200 + 2 ^ 20200 ≤ 2 ^ 22000 := by
    have e : 2 ^ 20200 + 2 ^ 20200 = 2 ^ 20201 := by rw [← Nat.mul_two, ← Nat.pow_succ]
    rw [e]; exact Nat.pow_le_pow_right (by decide) (by decide)
  have h4 : (fv x + fv y).natAbs ≤ (fv x).natAbs + (fv y).natAbs := Int.natAbs_add_le _ _
  generalize 2 ^ 22000 = t at *
  generalize 2 ^ 20200 = u at *
  omega
/-- what a function of one pair holds: the pair, the place of a number -/
abbrev Wn2 (w : World) (a b : Nat) : World := (w.alloc (Obj.cells #[.float .f32 a, .float .f32 b] 36)).alloc (Obj.cells #[.pointer none, .int .i64 0] 59)
structure PnH (w wx : World) (a b : Nat) : Prop where
  bel : Below w.heap.size w wx
  b0 : Blk wx w.heap.size 36 #[.float .f32 a, .float .f32 b]
  b1 : Blk wx (w.heap.size + 1) 59 #[.pointer none, .int .i64 0]
theorem PnH.start (w : World) (a b : Nat) : PnH w (Wn2 w a b) a b := by
  refine ⟨ba _ (ba _ (Below.refl _ _)), (Blk.new _ _ _).alloc _, ?_⟩
  have := Blk.new (w.alloc (Obj.cells #[.float .f32 a, .float .f32 b] 36)) 59 #[.pointer none, .int .i64 0]
  simpa [Wn2] using this
theorem PnH.below {w wx w' : World} {a b : Nat} (h : PnH w wx a b) (hb : Below wx.heap.size wx w') : PnH w w' a b :=
  ⟨bt3 hb h.bel, h.b0.below hb h.b0.lt, h.b1.below hb h.b1.lt⟩
set_option maxHeartbeats 4000000 in
theorem i_pairValue (a b : Nat) (w : World) (ha : W a) (hb : W b) (fa : fin a) (fb : fin b) : Calls Try.prog 28 #[.agg #[.float .f32 a, .float .f32 b]] w (RetN (fv a + fv b) 149 w) := by
  have HX : Hd (W a ∧ fin a ∧ W b ∧ fin b ∧ Bd (fv a + fv b)) := ⟨⟨ha, fa, hb, fb, fv_bdP fa fb⟩⟩
  have HS := Hd.mk (PnH.start w a b)
  have d0 : (Wn2 w a b).cell? _ = some (.float .f32 a) := HS.out.b0.cell 0
  have d1 : (Wn2 w a b).cell? _ = some (.float .f32 b) := HS.out.b0.cell 1
  clear ha hb fa fb
  go_enter Try.func28, Try.ntmps28
  go_wp2_with fail
  go_region_held3 (fun w' => w'.cell? ⟨w.heap.size, 0, none⟩ = some (.float .f32 a) ∧ w'.cell? ⟨w.heap.size, 1, none⟩ = some (.float .f32 b)) ((first | assumption | (refine keep2 (W := (Wn2 w a b)) ?_ ⟨d0, d1⟩; (repeat (first | exact Below.refl _ _ | assumption | refine Below.drew ?_ | refine bdn ?_ | refine ba _ ?_ | refine bs0 _ _ ?_ ?_ | refine bs1 _ _ _ ?_ ?_ | refine bs2 _ _ _ _ ?_ ?_ | refine bs3 _ _ _ _ _ ?_ ?_ | refine bt3 (by assumption) ?_)); done) | go_keep | (refine ⟨?_, ?_⟩ <;> go_simp) | (constructor <;> go_simp)))
    (first | (go_at_call 47; (with_reducible refine (n_Of a _ HX.out.1 HX.out.2.1).mono ?_); rintro e3 w3 ⟨g3, x3, rfl, hN, hb⟩; have hq3 : Below (Wn2 w a b).heap.size (Wn2 w a b) w3 := bt3 hb (by (repeat (first | exact Below.refl _ _ | assumption | refine Below.drew ?_ | refine bdn ?_ | refine ba _ ?_ | refine bs0 _ _ ?_ ?_ | refine bs1 _ _ _ ?_ ?_ | refine bs2 _ _ _ _ ?_ ?_ | refine bs3 _ _ _ _ _ ?_ ?_ | refine bt3 (by assumption) ?_))); skip; have H3 := Hd.mk hN; clear hN hb) | (go_at_call 47; (with_reducible refine (n_Of b _ HX.out.2.2.1 HX.out.2.2.2.1).mono ?_); rintro e4 w4 ⟨g4, x4, rfl, hN, hb⟩; have hq4 : Below (Wn2 w a b).heap.size (Wn2 w a b) w4 := bt3 hb (by (repeat (first | exact Below.refl _ _ | assumption | refine Below.drew ?_ | refine bdn ?_ | refine ba _ ?_ | refine bs0 _ _ ?_ ?_ | refine bs1 _ _ _ ?_ ?_ | refine bs2 _ _ _ _ ?_ ?_ | refine bs3 _ _ _ _ _ ?_ ?_ | refine bt3 (by assumption) ?_))); replace H3 := Hd.mk (H3.out.below (bt3 hb (by (repeat (first | exact Below.refl _ _ | assumption | refine Below.drew ?_ | refine bdn ?_ | refine ba _ ?_ | refine bs0 _ _ ?_ ?_ | refine bs1 _ _ _ ?_ ?_ | refine bs2 _ _ _ _ ?_ ?_ | refine bs3 _ _ _ _ _ ?_ ?_ | refine bt3 (by assumption) ?_))))); have H4 := Hd.mk hN; clear hN hb) | (go_at_call 67; (with_reducible refine (n_Add g3 g4 x3 x4 (fv a) (fv b) 149 _ (H3.out.below (by (repeat (first | exact Below.refl _ _ | assumption | refine Below.drew ?_ | refine bdn ?_ | refine ba _ ?_ | refine bs0 _ _ ?_ ?_ | refine bs1 _ _ _ ?_ ?_ | refine bs2 _ _ _ _ ?_ ?_ | refine bs3 _ _ _ _ _ ?_ ?_ | refine bt3 (by assumption) ?_)))) (H4.out.below (by (repeat (first | exact Below.refl _ _ | assumption | refine Below.drew ?_ | refine bdn ?_ | refine ba _ ?_ | refine bs0 _ _ ?_ ?_ | refine bs1 _ _ _ ?_ ?_ | refine bs2 _ _ _ _ ?_ ?_ | refine bs3 _ _ _ _ _ ?_ ?_ | refine bt3 (by assumption) ?_)))) HX.out.2.2.2.2).mono ?_); rintro e7 w7 ⟨g7, x7, rfl, hN, hb⟩; have hq7 : Below (Wn2 w a b).heap.size (Wn2 w a b) w7 := bt3 hb (by (repeat (first | exact Below.refl _ _ | assumption | refine Below.drew ?_ | refine bdn ?_ | refine ba _ ?_ | refine bs0 _ _ ?_ ?_ | refine bs1 _ _ _ ?_ ?_ | refine bs2 _ _ _ _ ?_ ?_ | refine bs3 _ _ _ _ _ ?_ ?_ | refine bt3 (by assumption) ?_))); have H7 := Hd.mk hN; have HK := Hd.mk (HS.out.below hq7); have r0 : w7.cell? _ = some (.pointer none) := HK.out.b1.cell 0; have r1 : w7.cell? _ = some (.int .i64 0) := HK.out.b1.cell 1; have f0 := HK.out.b1.frozen 0; have f1 := HK.out.b1.frozen 1; have u0 : w7.cell? _ = some (.float .f32 a) := HK.out.b0.cell 0; have u1 : w7.cell? _ = some (.float .f32 b) := HK.out.b0.cell 1; clear hN hb))
  all_goals
    go_wp2_with fail
    refine bodyPost_ret (v := .agg #[.pointer (some ⟨g7, 0, none⟩), .int .i64 x7]) (by simp (maxDischargeDepth := 7) [results, Try.results28, go_sem, *]) rfl ⟨g7, x7, rfl, H7.out.set2 HK.out.b1 (by decide) (by decide) _ _, ?_⟩
    have hbb := HK.out.bel
    (repeat (first | exact Below.refl _ _ | assumption | refine Below.drew ?_ | refine bdn ?_ | refine ba _ ?_ | refine bs0 _ _ ?_ ?_ | refine bs1 _ _ _ ?_ ?_ | refine bs2 _ _ _ _ ?_ ?_ | refine bs3 _ _ _ _ _ ?_ ?_ | refine bt3 (by assumption) ?_))
/-- what a function of one pair holds: the pair, the place of a dyadic number -/
abbrev Wd2 (w : World) (a b : Nat) : World := (w.alloc (Obj.cells #[.float .f32 a, .float .f32 b] 36)).alloc (Obj.cells #[.int .i64 0, .slice none 0 0, .int .i64 0] 33)
structure PdH (w wx : World) (a b : Nat) : Prop where
  bel : Below w.heap.size w wx
  b0 : Blk wx w.heap.size 36 #[.float .f32 a, .float .f32 b]
  b1 : Blk wx (w.heap.size + 1) 33 #[.int .i64 0, .slice none 0 0, .int .i64 0]
theorem PdH.start (w : World) (a b : Nat) : PdH w (Wd2 w a b) a b := by
  refine ⟨ba _ (ba _ (Below.refl _ _)), (Blk.new _ _ _).alloc _, ?_⟩
  have := Blk.new (w.alloc (Obj.cells #[.float .f32 a, .float .f32 b] 36)) 33 #[.int .i64 0, .slice none 0 0, .int .i64 0]
  simpa [Wd2] using this
theorem PdH.below {w wx w' : World} {a b : Nat} (h : PdH w wx a b) (hb : Below wx.heap.size wx w') : PdH w w' a b :=
  ⟨bt3 hb h.bel, h.b0.below hb h.b0.lt, h.b1.below hb h.b1.lt⟩
set_option maxHeartbeats 4000000 in
theorem s_l05Value (a b : Nat) (w : World) (ha : W a) (hb : W b) (fa : fin a) (fb : fin b) : Calls Try.prog 24 #[.agg #[.float .f32 a, .float .f32 b]] w (RetD (fv a + fv b) 149 w) := by
  have HX : Hd (W a ∧ fin a ∧ W b ∧ fin b ∧ Bd (fv a + fv b)) := ⟨⟨ha, fa, hb, fb, fv_bdP fa fb⟩⟩
  have HS := Hd.mk (PdH.start w a b)
  have d0 : (Wd2 w a b).cell? _ = some (.float .f32 a) := HS.out.b0.cell 0
  have d1 : (Wd2 w a b).cell? _ = some (.float .f32 b) := HS.out.b0.cell 1
  clear ha hb fa fb
  go_enter Try.func24, Try.ntmps24
  go_wp2_with fail
  go_region_held3 (fun w' => w'.cell? ⟨w.heap.size, 0, none⟩ = some (.float .f32 a) ∧ w'.cell? ⟨w.heap.size, 1, none⟩ = some (.float .f32 b)) ((first | assumption | (refine keep2 (W := (Wd2 w a b)) ?_ ⟨d0, d1⟩; (repeat (first | exact Below.refl _ _ | assumption | refine Below.drew ?_ | refine bdn ?_ | refine ba _ ?_ | refine bs0 _ _ ?_ ?_ | refine bs1 _ _ _ ?_ ?_ | refine bs2 _ _ _ _ ?_ ?_ | refine bs3 _ _ _ _ _ ?_ ?_ | refine bt3 (by assumption) ?_)); done) | go_keep | (refine ⟨?_, ?_⟩ <;> go_simp) | (constructor <;> go_simp)))
    (first | (go_at_call 40; (with_reducible refine (s_DOf a _ HX.out.1 HX.out.2.1).mono ?_); rintro e3 w3 ⟨s3, A3, n3, c3, x3, rfl, hD, hb⟩; have hq3 : Below (Wd2 w a b).heap.size (Wd2 w a b) w3 := bt3 hb (by (repeat (first | exact Below.refl _ _ | assumption | refine Below.drew ?_ | refine bdn ?_ | refine ba _ ?_ | refine bs0 _ _ ?_ ?_ | refine bs1 _ _ _ ?_ ?_ | refine bs2 _ _ _ _ ?_ ?_ | refine bs3 _ _ _ _ _ ?_ ?_ | refine bt3 (by assumption) ?_))); skip; have H3 := Hd.mk hD.dp; clear hD hb) | (go_at_call 40; (with_reducible refine (s_DOf b _ HX.out.2.2.1 HX.out.2.2.2.1).mono ?_); rintro e4 w4 ⟨s4, A4, n4, c4, x4, rfl, hD, hb⟩; have hq4 : Below (Wd2 w a b).heap.size (Wd2 w a b) w4 := bt3 hb (by (repeat (first | exact Below.refl _ _ | assumption | refine Below.drew ?_ | refine bdn ?_ | refine ba _ ?_ | refine bs0 _ _ ?_ ?_ | refine bs1 _ _ _ ?_ ?_ | refine bs2 _ _ _ _ ?_ ?_ | refine bs3 _ _ _ _ _ ?_ ?_ | refine bt3 (by assumption) ?_))); replace H3 := Hd.mk (H3.out.below (bt3 hb (by (repeat (first | exact Below.refl _ _ | assumption | refine Below.drew ?_ | refine bdn ?_ | refine ba _ ?_ | refine bs0 _ _ ?_ ?_ | refine bs1 _ _ _ ?_ ?_ | refine bs2 _ _ _ _ ?_ ?_ | refine bs3 _ _ _ _ _ ?_ ?_ | refine bt3 (by assumption) ?_))))); have H4 := Hd.mk hD.dp; clear hD hb) | (go_at_call 63; (with_reducible refine (s_DAdd s3 s4 x3 x4 (fv a) (fv b) A3 A4 n3 n4 c3 c4 149 _ (H3.out.below (by (repeat (first | exact Below.refl _ _ | assumption | refine Below.drew ?_ | refine bdn ?_ | refine ba _ ?_ | refine bs0 _ _ ?_ ?_ | refine bs1 _ _ _ ?_ ?_ | refine bs2 _ _ _ _ ?_ ?_ | refine bs3 _ _ _ _ _ ?_ ?_ | refine bt3 (by assumption) ?_)))) (H4.out.below (by (repeat (first | exact Below.refl _ _ | assumption | refine Below.drew ?_ | refine bdn ?_ | refine ba _ ?_ | refine bs0 _ _ ?_ ?_ | refine bs1 _ _ _ ?_ ?_ | refine bs2 _ _ _ _ ?_ ?_ | refine bs3 _ _ _ _ _ ?_ ?_ | refine bt3 (by assumption) ?_)))) HX.out.2.2.2.2).mono ?_); rintro e7 w7 ⟨s7, A7, n7, c7, x7, rfl, hD, hb⟩; have hq7 : Below (Wd2 w a b).heap.size (Wd2 w a b) w7 := bt3 hb (by (repeat (first | exact Below.refl _ _ | assumption | refine Below.drew ?_ | refine bdn ?_ | refine ba _ ?_ | refine bs0 _ _ ?_ ?_ | refine bs1 _ _ _ ?_ ?_ | refine bs2 _ _ _ _ ?_ ?_ | refine bs3 _ _ _ _ _ ?_ ?_ | refine bt3 (by assumption) ?_))); have H7 := Hd.mk (hD.mono (show (Wd2 w a b).heap.size ≤ _ from by have h3 := hq3.size; have h4 := hq4.size; (try simp at h3 h4 ⊢); omega)); have HK := Hd.mk (HS.out.below hq7); have r0 : w7.cell? _ = some (.int .i64 0) := HK.out.b1.cell 0; have r1 : w7.cell? _ = some (.slice none 0 0) := HK.out.b1.cell 1; have r2 : w7.cell? _ = some (.int .i64 0) := HK.out.b1.cell 2; have f0 := HK.out.b1.frozen 0; have f1 := HK.out.b1.frozen 1; have f2 := HK.out.b1.frozen 2; have u0 : w7.cell? _ = some (.float .f32 a) := HK.out.b0.cell 0; have u1 : w7.cell? _ = some (.float .f32 b) := HK.out.b0.cell 1; have hlt := (PdH.start w a b).b1.lt; clear hD hb))
  all_goals
    go_wp2_with fail
    refine bodyPost_ret (v := .agg #[.int .i64 s7, .slice A7 n7 c7, .int .i64 x7]) (by simp (maxDischargeDepth := 7) [results, Try.results24, go_sem, *]) rfl ⟨s7, A7, n7, c7, x7, rfl, (((H7.out.set _ _ (by omega) _).set _ _ (by omega) _).set _ _ (by omega) _).mono (by omega), ?_⟩
    have hbb := HK.out.bel
    (repeat (first | exact Below.refl _ _ | assumption | refine Below.drew ?_ | refine bdn ?_ | refine ba _ ?_ | refine bs0 _ _ ?_ ?_ | refine bs1 _ _ _ ?_ ?_ | refine bs2 _ _ _ _ ?_ ?_ | refine bs3 _ _ _ _ _ ?_ ?_ | refine bt3 (by assumption) ?_))
def vpV (a b : Nat) : Int := if prB a b = true then fv a + fv b else 0
def vpC (a b : Nat) : Int := if prB a b = true then 0 else 1
theorem vp_fin {a b : Nat} (h : prB a b = true) : fin a ∧ fin b := by
  unfold prB at h
  rw [Bool.and_eq_true, Bool.and_eq_true] at h
  exact ⟨of_decide_eq_true h.1.1, of_decide_eq_true h.1.2⟩
end Go.Proofs.Ytlaaielopcphiaa

/- Contracts of the statements: rows of integers, whole and dyadic numbers: alike, marked, held. -/
set_option linter.unusedVariables false
set_option linter.unusedSimpArgs false
namespace Go.Proofs.Ytlaaielopcphiaa
open Go.RowKit Num
set_option maxHeartbeats 4000000 in
theorem l_eqI (A A' : Option Addr) (n c c' : Nat) (xs : List Int) (w : World) (hn : n = xs.length) (hl : n ≤ LIM) (hR : R64 w A xs) (hR' : R64 w A' xs) :
    Calls Try.prog 72 #[.slice A n c, .slice A' n c'] w fun e w' => e = .returned (.bool true) ∧ ∃ d, w' = w.drewN d := by
  have HR : Hd (R64 w A xs ∧ R64 w A' xs ∧ n = xs.length) := ⟨⟨hR, hR', hn⟩⟩
  have hnI : (n : Int) ≤ 1099511627776 := by unfold LIM at hl; omega
  clear hn hl hR hR'
  go_enter Try.func72, Try.ntmps72
  go_wp2
  go_loopw [5] (fun i wr => ∃ (k d : Nat), i = .int .i64 k ∧ (k : Int) ≤ n ∧ wr = w.drewN d) (fun i _ => n - (intOf i).toNat)
  case atStart => exact ⟨0, 0, rfl, by omega, rfl⟩
  case round =>
    obtain ⟨k, d, rfl, hk, rfl⟩ := hrel
    by_cases h1 : k < n
    · obtain ⟨ad, hA, hcx⟩ := HR.out.1.at_ (k := k) (by have := HR.out.2.2; omega)
      subst hA
      obtain ⟨ad', hA, hcy⟩ := HR.out.2.1.at_ (k := k) (by have := HR.out.2.2; omega)
      subst hA
      generalize hex : xs.getD k 0 = x at *
      clear hex
      have hkI : (k : Int) < n := by omega
      go_wp2
      go_quiet (fail)
      go_wp2_with fail
      go_roundw
      case rel => exact ⟨k + 1, _, by go_num, by omega, rfl⟩
      case measure => simp [intOf]; omega
    · obtain rfl : k = n := by omega
      go_wp2
      go_ret
      exact ⟨rfl, _, rfl⟩
/-- the marks -/
def mkI (n : Nat) : List Int := (List.range n).map fun (j : Nat) => 1 + (j : Int)
theorem mkI_len (n : Nat) : (mkI n).length = n := by simp [mkI]
theorem mkI_succ (n : Nat) : mkI (n + 1) = mkI n ++ [1 + (n : Int)] := by simp [mkI, List.range_succ]
theorem O64.nil (w : World) (B : Nat) : O64 w B (.slice none 0 0) [] := World.ownsRow_nil _ _ _ _
theorem gr_refl (w : World) (row : Option Nat) : w.grownBy w row := ⟨rfl, rfl, rfl, Nat.le_refl _, fun _ _ _ => rfl⟩
theorem gr_trans {w w1 w2 : World} {row : Option Nat} (h : w.grownBy w1 row) (k : w1.grownBy w2 row) : w.grownBy w2 row :=
  ⟨k.os.trans h.os, k.tape.trans h.tape, k.output.trans h.output, Nat.le_trans h.size k.size, fun i hi hne => (k.block i (Nat.lt_of_lt_of_le hi h.size) hne).trans (h.block i hi hne)⟩
theorem gr_below {w w1 : World} (row : Option Nat) (h : Below w.heap.size w w1) : w.grownBy w1 row := ⟨h.os, h.tape, h.output, h.size, fun k hk _ => h.block k hk⟩
def RetMkI (B : Nat) (A : Option Addr) (n c : Nat) (w : World) (e : Ending) (w' : World) : Prop := e = .returned (.int .i64 (1 + (n : Int))) ∧ O64 w' B (.slice A n c) (mkI n) ∧ w.grownBy w' (Value.slice A n c).ownBlock
set_option maxHeartbeats 4000000 in
theorem l_markI (A : Option Addr) (B n c : Nat) (xs : List Int) (w : World) (h : O64 w B (.slice A n c) xs) (hl : n ≤ LIM) :
    Calls Try.prog 73 #[.slice A n c, .int .i64 1] w (RetMkI B A n c w) := by
  obtain ⟨hlen, hh⟩ := id h
  have hn : n = xs.length := h.cap.1
  have hnI : (n : Int) ≤ 1099511627776 := by unfold LIM at hl; omega
  rcases hh with ⟨hv, h0⟩ | ⟨g, cap, cur, hv, hg, hrow, hcap, hml, hsz, htk⟩
  · obtain ⟨rfl, rfl, rfl⟩ := Value.slice.inj hv
    have HR : Hd (O64 w B (.slice none 0 0) (mkI 0)) := ⟨O64.nil w B⟩
    clear h hlen hn hl hv h0
    go_enter Try.func73, Try.ntmps73
    go_wp2
    go_loopw [1, 5] (fun kk i wr => i = .int .i64 0 ∧ kk = .int .i64 1 ∧ wr = w) (fun _ _ _ => 0)
    case atStart => exact ⟨rfl, rfl, rfl⟩
    case round =>
      obtain ⟨rfl, rfl, rfl⟩ := hrel
      go_wp2
      go_ret
      exact ⟨rfl, HR.out, gr_refl _ _⟩
  · obtain ⟨rfl, e2, rfl⟩ := Value.slice.inj hv
    have HB : Hd (Blk w g 2 cur ∧ n ≤ c ∧ cur.size = c ∧ B ≤ g ∧ c ≤ maxLen) := ⟨⟨hrow, by omega, by omega, hg, hml⟩⟩
    clear h hlen hn hl hv hrow hcap hml hsz htk e2 hg
    go_enter Try.func73, Try.ntmps73
    go_wp2
    go_loopw [1, 5] (fun kk i wr => ∃ (j : Nat) (cs : Array Value), i = .int .i64 j ∧ kk = .int .i64 (1 + (j : Int)) ∧ (j : Int) ≤ n ∧ Hd (Blk wr g 2 cs ∧ cs.size = c ∧ cs.toList.take j = c64 (mkI j) ∧ w.grownBy wr (some g)))
      (fun _ i _ => n - (intOf i).toNat)
    case atStart => exact ⟨0, cur, rfl, by simp, by omega, ⟨⟨HB.out.1, HB.out.2.2.1, by simp [mkI, c64], gr_refl _ _⟩⟩⟩
    case round =>
      obtain ⟨j, cs, rfl, rfl, hj, HS⟩ := hrel
      by_cases h1 : j < n
      · have hlt : j < cs.size := by have := HS.out.2.1; have := HB.out.2.1; omega
        have c0 := HS.out.1.cell j
        rw [Array.getElem?_eq_getElem hlt] at c0
        have f0 : wr.frozen? ⟨g, j, none⟩ = false := HS.out.1.frozen j
        have HN : Hd (Blk (wr.setCell ⟨g, j, none⟩ (.int .i64 (1 + (j : Int)))) g 2 (cs.setIfInBounds j (.int .i64 (1 + (j : Int)))) ∧ (cs.setIfInBounds j (.int .i64 (1 + (j : Int)))).size = c ∧ (cs.setIfInBounds j (.int .i64 (1 + (j : Int)))).toList.take (j + 1) = c64 (mkI (j + 1)) ∧ w.grownBy (wr.setCell ⟨g, j, none⟩ (.int .i64 (1 + (j : Int)))) (some g)) := ⟨by
          refine ⟨HS.out.1.set_ j _, by simp [HS.out.2.1], ?_, gr_trans HS.out.2.2.2 (gset _ _ _ _)⟩
          rw [mkI_succ, c64_append, ← HS.out.2.2.1]
          simp only [Array.toList_setIfInBounds]
          rw [List.take_succ_eq_append_getElem (by simpa using hlt), List.take_set_of_le (Nat.le_refl j)]
          simp [c64]⟩
        generalize cs[j] = old at *
        clear hlt
        go_wp2
        go_roundw
        case rel => exact ⟨j + 1, _, by go_num, by go_num, by omega, HN⟩
        case measure => simp [intOf]; omega
      · obtain rfl : j = n := by omega
        go_wp2
        go_ret
        refine ⟨rfl, ⟨by simp [c64, mkI], Or.inr ⟨g, c, cs, by rw [mkI_len], HB.out.2.2.2.1, HS.out.1, by rw [mkI_len]; exact HB.out.2.1, HB.out.2.2.2.2, by rw [HS.out.2.1]; omega, ?_⟩⟩, HS.out.2.2.2⟩
        rw [mkI_len, Nat.mul_one]; exact HS.out.2.2.1
set_option maxHeartbeats 4000000 in
theorem l_heldI (A : Option Addr) (n c : Nat) (w : World) (h : R64 w A (mkI n)) (hl : n ≤ LIM) :
    Calls Try.prog 74 #[.slice A n c, .int .i64 1] w fun e w' => e = .returned (.int .i64 (1 + (n : Int))) ∧ w = w' := by
  have HR := Hd.mk h
  have hnI : (n : Int) ≤ 1099511627776 := by unfold LIM at hl; omega
  clear h hl
  go_enter Try.func74, Try.ntmps74
  go_wp2
  go_loopw [1, 5] (fun kk i wr => ∃ (j : Nat), i = .int .i64 j ∧ kk = .int .i64 (1 + (j : Int)) ∧ (j : Int) ≤ n ∧ wr = w)
    (fun _ i _ => n - (intOf i).toNat)
  case atStart => exact ⟨0, rfl, by simp, by omega, rfl⟩
  case round =>
    obtain ⟨j, rfl, rfl, hj, rfl⟩ := hrel
    by_cases h1 : j < n
    · obtain ⟨ad, hA, hcx⟩ := HR.out.at_ (k := j) (by rw [mkI_len]; exact h1)
      subst hA
      have he : (mkI n).getD j 0 = 1 + (j : Int) := by
        rw [List.getD_eq_getElem?_getD, List.getElem?_eq_getElem (by rw [mkI_len]; exact h1)]
        simp [mkI]
      rw [he] at hcx
      clear he
      go_wp2
      go_roundw
      case rel => exact ⟨j + 1, by go_num, by go_num, by omega, by first | rfl | trivial⟩
      case measure => simp [intOf]; omega
    · obtain rfl : j = n := by omega
      go_wp2
      go_ret
      exact ⟨rfl, rfl⟩
/-! whole and dyadic numbers -/
set_option maxHeartbeats 4000000 in
theorem l_eqW (s : Int) (A A' : Option Addr) (n c c' : Nat) (xs : List Int) (w : World) (hn : n = xs.length) (hl : n ≤ LIM) (hR : R64 w A xs) (hR' : R64 w A' xs) :
    Calls Try.prog 32 #[.agg #[.int .i64 s, .slice A n c], .agg #[.int .i64 s, .slice A' n c']] w fun e w' => e = .returned (.bool true) ∧ Below w.heap.size w w' := by
  have HC := Hd.mk (fun w hR hR' => l_eqI A A' n c c' xs w hn hl hR hR')
  have HR := Hd.mk (And.intro hR hR')
  clear hn hl hR hR'
  go_enter Try.func32, Try.ntmps32
  go_wp2_with (go_at_call 72; (with_reducible refine (HC.out _ (HR.out.1.below (by (repeat (first | exact Below.refl _ _ | assumption | refine Below.drew ?_ | refine bdn ?_ | refine ba _ ?_ | refine bs0 _ _ ?_ ?_ | refine bs1 _ _ _ ?_ ?_ | refine bs2 _ _ _ _ ?_ ?_ | refine bs3 _ _ _ _ _ ?_ ?_ | refine bt3 (by assumption) ?_)))) (HR.out.2.below (by (repeat (first | exact Below.refl _ _ | assumption | refine Below.drew ?_ | refine bdn ?_ | refine ba _ ?_ | refine bs0 _ _ ?_ ?_ | refine bs1 _ _ _ ?_ ?_ | refine bs2 _ _ _ _ ?_ ?_ | refine bs3 _ _ _ _ _ ?_ ?_ | refine bt3 (by assumption) ?_))))).mono ?_); rintro e w' ⟨rfl, ⟨nd, rfl⟩⟩)
  go_ret
  exact ⟨rfl, by (repeat (first | exact Below.refl _ _ | assumption | refine Below.drew ?_ | refine bdn ?_ | refine ba _ ?_ | refine bs0 _ _ ?_ ?_ | refine bs1 _ _ _ ?_ ?_ | refine bs2 _ _ _ _ ?_ ?_ | refine bs3 _ _ _ _ _ ?_ ?_ | refine bt3 (by assumption) ?_))⟩
set_option maxHeartbeats 4000000 in
theorem l_eqD (s x : Int) (A A' : Option Addr) (n c c' : Nat) (xs : List Int) (w : World) (hn : n = xs.length) (hl : n ≤ LIM) (hR : R64 w A xs) (hR' : R64 w A' xs) :
    Calls Try.prog 11 #[.agg #[.int .i64 s, .slice A n c, .int .i64 x], .agg #[.int .i64 s, .slice A' n c', .int .i64 x]] w fun e w' => e = .returned (.bool true) ∧ Below w.heap.size w w' := by
  have HC := Hd.mk (fun w hR hR' => l_eqW s A A' n c c' xs w hn hl hR hR')
  have HR := Hd.mk (And.intro hR hR')
  clear hn hl hR hR'
  go_enter Try.func11, Try.ntmps11
  go_wp2_with (go_at_call 32; (with_reducible refine (HC.out _ (HR.out.1.below (by (repeat (first | exact Below.refl _ _ | assumption | refine Below.drew ?_ | refine bdn ?_ | refine ba _ ?_ | refine bs0 _ _ ?_ ?_ | refine bs1 _ _ _ ?_ ?_ | refine bs2 _ _ _ _ ?_ ?_ | refine bs3 _ _ _ _ _ ?_ ?_ | refine bt3 (by assumption) ?_)))) (HR.out.2.below (by (repeat (first | exact Below.refl _ _ | assumption | refine Below.drew ?_ | refine bdn ?_ | refine ba _ ?_ | refine bs0 _ _ ?_ ?_ | refine bs1 _ _ _ ?_ ?_ | refine bs2 _ _ _ _ ?_ ?_ | refine bs3 _ _ _ _ _ ?_ ?_ | refine bt3 (by assumption) ?_))))).mono ?_); rintro e w' ⟨rfl, hb⟩; (try replace hb := bt3 hb (by assumption)); obtain ⟨hc, hf, hz, hy⟩ := bcell hb; have hs := hb.size; (try simp at hs); (try have h0 : w.heap.size < w'.heap.size := by omega); (try have h1 : w.heap.size + 1 < w'.heap.size := by omega); (try have h2 : w.heap.size + 1 + 1 < w'.heap.size := by omega); (try have h3 : w.heap.size + 1 + 1 + 1 < w'.heap.size := by omega); clear hs)
  go_ret
  exact ⟨rfl, by (repeat (first | exact Below.refl _ _ | assumption | refine Below.drew ?_ | refine bdn ?_ | refine ba _ ?_ | refine bs0 _ _ ?_ ?_ | refine bs1 _ _ _ ?_ ?_ | refine bs2 _ _ _ _ ?_ ?_ | refine bs3 _ _ _ _ _ ?_ ?_ | refine bt3 (by assumption) ?_))⟩
set_option maxHeartbeats 4000000 in
theorem l_markW (s : Int) (A : Option Addr) (B n c : Nat) (xs : List Int) (w : World) (h : O64 w B (.slice A n c) xs) (hl : n ≤ LIM) :
    Calls Try.prog 33 #[.agg #[.int .i64 s, .slice A n c], .int .i64 1] w (RetMkI B A n c w) := by
  have HC := Hd.mk (fun w h => l_markI A B n c xs w h hl)
  have HO := Hd.mk h
  clear h hl
  go_enter Try.func33, Try.ntmps33
  go_wp2_with (go_at_call 73; (with_reducible refine (HC.out _ (HO.out.keep (by (repeat (first | exact Below.refl _ _ | assumption | refine Below.drew ?_ | refine bdn ?_ | refine ba _ ?_ | refine bs0 _ _ ?_ ?_ | refine bs1 _ _ _ ?_ ?_ | refine bs2 _ _ _ _ ?_ ?_ | refine bs3 _ _ _ _ _ ?_ ?_ | refine bt3 (by assumption) ?_))))).mono ?_); rintro e w1 ⟨rfl, ho, hg⟩; have HR : Hd (O64 w1 B (.slice A n c) (mkI n) ∧ w.grownBy w1 (Value.slice A n c).ownBlock) := ⟨⟨ho, gr_trans (gr_below _ (by (repeat (first | exact Below.refl _ _ | assumption | refine Below.drew ?_ | refine bdn ?_ | refine ba _ ?_ | refine bs0 _ _ ?_ ?_ | refine bs1 _ _ _ ?_ ?_ | refine bs2 _ _ _ _ ?_ ?_ | refine bs3 _ _ _ _ _ ?_ ?_ | refine bt3 (by assumption) ?_)))) hg⟩⟩; clear ho hg)
  go_ret
  exact ⟨rfl, HR.out.1, HR.out.2⟩
set_option maxHeartbeats 4000000 in
theorem l_markD (s x : Int) (A : Option Addr) (B n c : Nat) (xs : List Int) (w : World) (h : O64 w B (.slice A n c) xs) (hl : n ≤ LIM) :
    Calls Try.prog 12 #[.agg #[.int .i64 s, .slice A n c, .int .i64 x], .int .i64 1] w (RetMkI B A n c w) := by
  have HC := Hd.mk (fun w h => l_markW s A B n c xs w h hl)
  have HO := Hd.mk h
  clear h hl
  go_enter Try.func12, Try.ntmps12
  go_wp2_with (go_at_call 33; (with_reducible refine (HC.out _ (HO.out.keep (by (repeat (first | exact Below.refl _ _ | assumption | refine Below.drew ?_ | refine bdn ?_ | refine ba _ ?_ | refine bs0 _ _ ?_ ?_ | refine bs1 _ _ _ ?_ ?_ | refine bs2 _ _ _ _ ?_ ?_ | refine bs3 _ _ _ _ _ ?_ ?_ | refine bt3 (by assumption) ?_))))).mono ?_); rintro e w1 ⟨rfl, ho, hg⟩; have HR : Hd (O64 w1 B (.slice A n c) (mkI n) ∧ w.grownBy w1 (Value.slice A n c).ownBlock) := ⟨⟨ho, gr_trans (gr_below _ (by (repeat (first | exact Below.refl _ _ | assumption | refine Below.drew ?_ | refine bdn ?_ | refine ba _ ?_ | refine bs0 _ _ ?_ ?_ | refine bs1 _ _ _ ?_ ?_ | refine bs2 _ _ _ _ ?_ ?_ | refine bs3 _ _ _ _ _ ?_ ?_ | refine bt3 (by assumption) ?_)))) hg⟩⟩; clear ho hg)
  go_ret
  exact ⟨rfl, HR.out.1, HR.out.2⟩
set_option maxHeartbeats 4000000 in
theorem l_heldW (s : Int) (A : Option Addr) (n c : Nat) (w : World) (h : R64 w A (mkI n)) (hl : n ≤ LIM) :
    Calls Try.prog 34 #[.agg #[.int .i64 s, .slice A n c], .int .i64 1] w fun e w' => e = .returned (.int .i64 (1 + (n : Int))) ∧ Below w.heap.size w w' := by
  have HC := Hd.mk (fun w h => l_heldI A n c w h hl)
  have HR := Hd.mk h
  have k1 : ¬ (1 + (n : Int) < 0) := by omega
  clear h hl
  go_enter Try.func34, Try.ntmps34
  go_wp2_with (go_at_call 74; (with_reducible refine (HC.out _ (HR.out.below (by (repeat (first | exact Below.refl _ _ | assumption | refine Below.drew ?_ | refine bdn ?_ | refine ba _ ?_ | refine bs0 _ _ ?_ ?_ | refine bs1 _ _ _ ?_ ?_ | refine bs2 _ _ _ _ ?_ ?_ | refine bs3 _ _ _ _ _ ?_ ?_ | refine bt3 (by assumption) ?_))))).mono ?_); rintro e w' ⟨rfl, rfl⟩)
  go_ret
  exact ⟨rfl, by (repeat (first | exact Below.refl _ _ | assumption | refine Below.drew ?_ | refine bdn ?_ | refine ba _ ?_ | refine bs0 _ _ ?_ ?_ | refine bs1 _ _ _ ?_ ?_ | refine bs2 _ _ _ _ ?_ ?_ | refine bs3 _ _ _ _ _ ?_ ?_ | refine bt3 (by assumption) ?_))⟩
set_option maxHeartbeats 4000000 in
theorem l_heldD (s x : Int) (A : Option Addr) (n c : Nat) (w : World) (h : R64 w A (mkI n)) (hl : n ≤ LIM) :
    Calls Try.prog 13 #[.agg #[.int .i64 s, .slice A n c, .int .i64 x], .int .i64 1] w fun e w' => e = .returned (.int .i64 (1 + (n : Int))) ∧ Below w.heap.size w w' := by
  have HC := Hd.mk (fun w h => l_heldW s A n c w h hl)
  have HR := Hd.mk h
  have k1 : ¬ (1 + (n : Int) < 0) := by omega
  clear h hl
  go_enter Try.func13, Try.ntmps13
  go_wp2_with (go_at_call 34; (with_reducible refine (HC.out _ (HR.out.below (by (repeat (first | exact Below.refl _ _ | assumption | refine Below.drew ?_ | refine bdn ?_ | refine ba _ ?_ | refine bs0 _ _ ?_ ?_ | refine bs1 _ _ _ ?_ ?_ | refine bs2 _ _ _ _ ?_ ?_ | refine bs3 _ _ _ _ _ ?_ ?_ | refine bt3 (by assumption) ?_))))).mono ?_); rintro e w' ⟨rfl, hb⟩; (try replace hb := bt3 hb (by assumption)); obtain ⟨hc, hf, hz, hy⟩ := bcell hb; have hs := hb.size; (try simp at hs); (try have h0 : w.heap.size < w'.heap.size := by omega); (try have h1 : w.heap.size + 1 < w'.heap.size := by omega); (try have h2 : w.heap.size + 1 + 1 < w'.heap.size := by omega); (try have h3 : w.heap.size + 1 + 1 + 1 < w'.heap.size := by omega); clear hs)
  go_ret
  exact ⟨rfl, by (repeat (first | exact Below.refl _ _ | assumption | refine Below.drew ?_ | refine bdn ?_ | refine ba _ ?_ | refine bs0 _ _ ?_ ?_ | refine bs1 _ _ _ ?_ ?_ | refine bs2 _ _ _ _ ?_ ?_ | refine bs3 _ _ _ _ _ ?_ ?_ | refine bt3 (by assumption) ?_))⟩
end Go.Proofs.Ytlaaielopcphiaa

/- What a statement on dyadic answers holds: the reference's answer, the program's answer, their rows. -/
set_option linter.unusedVariables false
set_option linter.unusedSimpArgs false
namespace Go.Proofs.Ytlaaielopcphiaa
open Go.RowKit Num
/-- the parts of a dyadic number -/
def DyN (s : Int) (L : List Int) (x V : Int) (l : Nat) : Prop := ∃ m, NumS s L m ∧ DyF m x V l ∧ L.length ≤ 100000
theorem DyO.dyn {w : World} {B : Nat} {s : Int} {A : Option Addr} {n c : Nat} {x V : Int} {l : Nat} (h : DyO w B s A n c x V l) : ∃ L, n = L.length ∧ O64 w B (.slice A n c) L ∧ DyN s L x V l := by
  obtain ⟨m, ⟨xs, h1, h2, h3, h4⟩, h5⟩ := h
  exact ⟨xs, h1, h4, m, h3, h5, by omega⟩
theorem dyF_le {m m' x x' V : Int} {l l' : Nat} (h : DyF m x V l) (h' : DyF m' x' V l') (hm : m ≠ 0) (hm' : m' ≠ 0) (hx : x ≤ x') : m = m' ∧ x = x' := by
  have hsc : (SC : Nat) = 20000 := rfl
  have h0 := h.lo; have h1 := h.lsc
  obtain ⟨k, hk⟩ : ∃ k : Nat, x' = x + k := ⟨(x' - x).toNat, by omega⟩
  have e := h.val.symm.trans h'.val
  unfold dv at e
  have e2 : (x' + SC).toNat = (x + SC).toNat + k := by omega
  rw [e2, Int.pow_add, Int.mul_comm ((2 : Int) ^ (x + SC).toNat), ← Int.mul_assoc] at e
  have e3 : m = m' * 2 ^ k := Int.eq_of_mul_eq_mul_right (Int.ne_of_gt (pow2_pos _)) e
  rcases Nat.eq_zero_or_pos k with hk0 | hk0
  · subst hk0
    exact ⟨by rw [e3]; simp, by omega⟩
  · exfalso
    have ho := h.odd hm
    obtain ⟨j, rfl⟩ : ∃ j, k = j + 1 := ⟨k - 1, by omega⟩
    rw [Int.pow_succ, ← Int.mul_assoc] at e3
    generalize m' * 2 ^ j = q at e3
    omega
theorem dyF_uniq {m m' x x' V : Int} {l l' : Nat} (h : DyF m x V l) (h' : DyF m' x' V l') : m = m' ∧ x = x' := by
  by_cases hm : m = 0
  · have hV : V = 0 := by rw [h.val, hm]; unfold dv; simp
    have hm' : m' = 0 := dv_nz (e := x') (by rw [← h'.val]; exact hV)
    exact ⟨by omega, by rw [h.zer hm, h'.zer hm']⟩
  · have hm' : m' ≠ 0 := fun k => hm (dv_nz (e := x) (by rw [← h.val, h'.val, k]; unfold dv; simp))
    rcases Int.le_total x x' with k | k
    · exact dyF_le h h' hm hm' k
    · have := dyF_le h' h hm' hm k
      exact ⟨this.1.symm, this.2.symm⟩
theorem NumS.sameV {s s' : Int} {L L' : List Int} {m : Int} (h : NumS s L m) (h' : NumS s' L' m) : s = s' ∧ L = L' := by
  have e : val 16777216 L = val 16777216 L' := by rw [← h.abs, ← h'.abs]
  have eL := h.can.inj (by decide) h'.can e
  subst eL
  refine ⟨?_, rfl⟩
  rcases h.sgn with ⟨h1, h2⟩ | ⟨h1, h2⟩
  · rcases h'.sgn with ⟨k1, k2⟩ | ⟨k1, k2⟩
    · rw [h1, k1]
    · exact absurd h2 k2
  · rcases h'.sgn with ⟨k1, k2⟩ | ⟨k1, k2⟩
    · exact absurd k2 h2
    · have hp := h.can.pos (by decide) h2
      have e1 := h.eq.symm.trans h'.eq
      exact Int.eq_of_mul_eq_mul_right (Int.ne_of_gt hp) e1
theorem DyN.uniq {s s' : Int} {L L' : List Int} {x x' V : Int} {l l' : Nat} (h : DyN s L x V l) (h' : DyN s' L' x' V l') : s = s' ∧ L = L' ∧ x = x' := by
  obtain ⟨m, h1, h2, _⟩ := h
  obtain ⟨m', k1, k2, _⟩ := h'
  obtain ⟨rfl, rfl⟩ := dyF_uniq h2 k2
  obtain ⟨rfl, rfl⟩ := h1.sameV k1
  exact ⟨rfl, rfl, rfl⟩
theorem DyN.lim {s : Int} {L : List Int} {x V : Int} {l : Nat} (h : DyN s L x V l) : L.length ≤ 100000 := by
  obtain ⟨m, _, _, h⟩ := h; exact h
theorem O64.reads0 {w : World} {B n c : Nat} {A : Option Addr} {xs : List Int} (h : O64 w B (.slice A n c) xs) : R64 w A xs := h.reads
/-- what a statement holds behind the program's call: its argument's block, both answers, their rows -/
structure VdS (w wk : World) (g3 g5 B4 : Nat) (s x : Int) (A2 A4 : Option Addr) (c2 c4 : Nat) (L X4 : List Int) : Prop where
  bel : Below w.heap.size w wk
  b3 : Blk wk g3 33 #[.int .i64 s, .slice A2 L.length c2, .int .i64 x]
  b5 : Blk wk g5 33 #[.int .i64 s, .slice A4 L.length c4, .int .i64 x]
  o2 : O64 wk 0 (.slice A2 L.length c2) L
  o4 : O64 wk 0 (.slice A4 L.length c4) X4
  d2 : ∀ k, (Value.slice A2 L.length c2).ownBlock = some k → k < B4
  d4 : ∀ k, (Value.slice A4 L.length c4).ownBlock = some k → B4 ≤ k
  lo : w.heap.size ≤ B4
variable {w wk w' : World} {g3 g5 B4 : Nat} {s x : Int} {A2 A4 : Option Addr} {c2 c4 : Nat} {L X4 Y : List Int}
theorem VdS.below (h : VdS w wk g3 g5 B4 s x A2 A4 c2 c4 L X4) (hb : Below wk.heap.size wk w') : VdS w w' g3 g5 B4 s x A2 A4 c2 c4 L X4 :=
  ⟨bt3 hb h.bel, h.b3.below hb h.b3.lt, h.b5.below hb h.b5.lt, h.o2.keep hb, h.o4.keep hb, h.d2, h.d4, h.lo⟩
theorem VdS.mark (h : VdS w wk g3 g5 B4 s x A2 A4 c2 c4 L X4) (hg : wk.grownBy w' (Value.slice A4 L.length c4).ownBlock) (ho : O64 w' 0 (.slice A4 L.length c4) Y) : VdS w w' g3 g5 B4 s x A2 A4 c2 c4 L Y := by
  refine ⟨h.bel.grown hg h.bel.size (fun k hk => by have := h.d4 k hk; have := h.lo; omega), h.b3.push64 (by decide) h.o4 hg, h.b5.push64 (by decide) h.o4 hg, World.ownsRow.kept h.o2 hg ?_, ho, h.d2, h.d4, h.lo⟩
  cases h2 : (Value.slice A2 L.length c2).ownBlock with
  | none => exact Or.inl rfl
  | some k =>
    refine Or.inr (fun e => ?_)
    have k1 := h.d2 k h2
    have k2 := h.d4 k e.symm
    omega
theorem O64.own_lt {w : World} {B : Nat} {v : Value} {xs : List Int} (h : O64 w B v xs) {k : Nat} (hk : v.ownBlock = some k) : k < w.heap.size := by
  obtain ⟨⟨cs, hb⟩, _⟩ := h.blk hk
  exact hb.lt
/-- behind marks in a row of floats -/
theorem VdS.markF {g : Nat} {cs : Array Value} (h : VdS w wk g3 g5 B4 s x A2 A4 c2 c4 L X4) (hf : Blk wk g 22 cs) (hg : wk.grownBy w' (some g)) (hlo : w.heap.size ≤ g) : VdS w w' g3 g5 B4 s x A2 A4 c2 c4 L X4 := by
  have hk : ∀ (v : Value) (ys : List Int), O64 wk 0 v ys → O64 w' 0 v ys := fun v ys ho => by
    refine World.ownsRow.kept ho hg ?_
    cases hv : v.ownBlock with
    | none => exact Or.inl rfl
    | some k =>
      refine Or.inr (fun e => ?_)
      obtain ⟨⟨cs', hb⟩, _⟩ := ho.blk hv
      cases e
      exact (hb.ne_ hf (by decide)) rfl
  refine ⟨h.bel.grown hg h.bel.size (fun k hk => by cases hk; exact hlo), h.b3.grown hg (fun e => ?_), h.b5.grown hg (fun e => ?_), hk _ _ h.o2, hk _ _ h.o4, h.d2, h.d4, h.lo⟩
  · cases e; exact (h.b3.ne_ hf (by decide)) rfl
  · cases e; exact (h.b5.ne_ hf (by decide)) rfl
theorem VdS.start {w w2 w3 w4 : World} {B2 : Nat} (hB : Below w.heap.size w w2) (h2 : O64 w2 B2 (.slice A2 L.length c2) L)
    (hb3 : Below (w2.alloc (Obj.cells #[.int .i64 s, .slice A2 L.length c2, .int .i64 x] 33)).heap.size (w2.alloc (Obj.cells #[.int .i64 s, .slice A2 L.length c2, .int .i64 x] 33)) w3)
    (hb4 : Below w3.heap.size w3 w4) (h4 : O64 w4 w3.heap.size (.slice A4 L.length c4) L) :
    VdS w (w4.alloc (Obj.cells #[.int .i64 s, .slice A4 L.length c4, .int .i64 x] 33)) w2.heap.size w4.heap.size w3.heap.size s x A2 A4 c2 c4 L L := by
  have hq : Below w2.heap.size w2 w3 := bt3 hb3 (ba _ (Below.refl _ _))
  have ha := ba (w := w4) (Obj.cells #[.int .i64 s, .slice A4 L.length c4, .int .i64 x] 33) (Below.refl w4.heap.size w4)
  have h3 := (Blk.new w2 33 #[.int .i64 s, .slice A2 L.length c2, .int .i64 x]).below hb3 (Blk.new _ _ _).lt
  exact ⟨bt3 ha (bt3 hb4 (bt3 hq hB)), (h3.below hb4 h3.lt).alloc _, Blk.new _ _ _, (((h2.keep hq).keep hb4).keep ha).mono (Nat.zero_le _), (h4.keep ha).mono (Nat.zero_le _), fun k hk => (h2.keep hq).own_lt hk, fun k hk => (h4.blk hk).2, Nat.le_trans hB.size hq.size⟩
end Go.Proofs.Ytlaaielopcphiaa

/- Contracts: values of expansions, both sides. -/
set_option linter.unusedVariables false
set_option linter.unusedSimpArgs false
set_option exponentiation.threshold 30000
namespace Go.Proofs.Ytlaaielopcphiaa
open Go.RowKit Num Flt
theorem sumv_lt2 : ∀ (xs : List Nat), (∀ x ∈ xs, fin x) → (sumv xs).natAbs ≤ xs.length * 2 ^ 20200
  | [], _ => by simp [sumv]
  | x :: xs, h => by
    have h1 := sumv_lt2 xs (fun y hy => h y (List.mem_cons_of_mem _ hy))
    have h2 := fv_lt2 (h x (List.mem_cons_self ..))
    have h3 : (fv x + sumv xs).natAbs ≤ (fv x).natAbs + (sumv xs).natAbs := Int.natAbs_add_le _ _
    show (fv x + sumv xs).natAbs ≤ (xs.length + 1) * 2 ^ 20200
    rw [Nat.add_mul, Nat.one_mul]
    generalize 2 ^ 20200 = u at *
    generalize xs.length * u = q at *
    omega
theorem sumv_small {xs : List Nat} (h : ∀ x ∈ xs, fin x) (hl : xs.length ≤ 8) : (sumv xs).natAbs < 2 ^ 22000 := by
  have h1 := sumv_lt2 xs h
  have h2 : xs.length * 2 ^ 20200 ≤ 2 ^ 3 * 2 ^ 20200 := Nat.mul_le_mul_right _ hl
  rw [← Nat.pow_add] at h2
  have h3 : 2 ^ (3 + 20200) < 2 ^ 22000 := Nat.pow_lt_pow_right (by decide) (by decide)
  omega
def veV (xs : List Nat) : Int := if lstC xs = 0 then sumv xs else 0
abbrev Wd1 (w : World) : World := w.alloc (Obj.cells #[.int .i64 0, .slice none 0 0, .int .i64 0] 33)
structure PeH (w wx : World) : Prop where
  bel : Below w.heap.size w wx
  b1 : Blk wx w.heap.size 33 #[.int .i64 0, .slice none 0 0, .int .i64 0]
theorem PeH.start (w : World) : PeH w (Wd1 w) := ⟨ba _ (Below.refl _ _), Blk.new _ _ _⟩
theorem PeH.below {w wx w' : World} (h : PeH w wx) (hb : Below wx.heap.size wx w') : PeH w w' := ⟨bt3 hb h.bel, h.b1.below hb h.b1.lt⟩
end Go.Proofs.Ytlaaielopcphiaa
