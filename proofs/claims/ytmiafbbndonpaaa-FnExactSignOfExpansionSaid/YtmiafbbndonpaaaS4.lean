/- Contracts: sums of whole numbers of the reference. -/
import Derived.Test.YtmiafbbndonpaaaS3
set_option linter.unusedVariables false
set_option linter.unusedSimpArgs false
namespace Go.Proofs.Ytmiafbbndonpaaa
open Go.RowKit Num
theorem NumS.zero {s : Int} {xs : List Int} {a : Int} (h : NumS s xs a) : s = 0 ↔ a = 0 := by
  rcases h.sgn with ⟨h1, h2⟩ | ⟨h1, h2⟩
  · subst h1 h2; have := h.eq; simp [val] at this; simp [this]
  · have h3 := h.can.pos (by decide) h2
    have := h.eq
    rcases h1 with rfl | rfl <;> constructor <;> intro h4 <;> omega
theorem NumS.one {s : Int} {xs : List Int} {a : Int} (h : NumS s xs a) (h0 : s ≠ 0) : (s = 1 ∨ s = -1) ∧ 0 < val 16777216 xs ∧ xs ≠ [] := by
  rcases h.sgn with ⟨h1, h2⟩ | ⟨h1, h2⟩
  · exact absurd h1 h0
  · exact ⟨h1, h.can.pos (by decide) h2, h2⟩
theorem NumS.sg {s : Int} {xs : List Int} {a : Int} (h : NumS s xs a) : s = 1 ∨ s = -1 ∨ val 16777216 xs = 0 := by
  rcases h.sgn with ⟨h1, h2⟩ | ⟨h1, h2⟩
  · subst h2; exact .inr (.inr rfl)
  · rcases h1 with h1 | h1
    · exact .inl h1
    · exact .inr (.inl h1)
/-- the parts of a whole number in memory -/
structure WhD (w : World) (s : Int) (A : Option Addr) (n c : Nat) (xs : List Int) (a : Int) : Prop where
  len : n = xs.length
  cap : n ≤ c
  lim : n ≤ LIM
  lim5 : n ≤ 100000
  num : NumS s xs a
  can : Canon 16777216 xs
  rng : Rng 16777216 xs
  sg : s = 1 ∨ s = -1 ∨ val 16777216 xs = 0
  reads : R64 w A xs
theorem WhP.opened {w : World} {s : Int} {A : Option Addr} {n c : Nat} {a : Int} (h : WhP w s A n c a) : ∃ xs, WhD w s A n c xs a := by
  obtain ⟨xs, h1, h2, h3, h4, h5⟩ := h
  exact ⟨xs, h1, h2, by unfold LIM; omega, h3, h4, h4.can, h4.can.1, h4.sg, h5⟩
theorem limz {n : Nat} {zs : List Int} (h : n = zs.length) (k : zs.length ≤ 100001) : n ≤ LIM := by unfold LIM; omega
theorem sg2 {s v : Int} (h : s = 1 ∨ s = -1) : s = 1 ∨ s = -1 ∨ v = 0 := by omega
theorem lim5 {n : Nat} (h : n ≤ 100000) : n ≤ LIM := by unfold LIM; omega
theorem lim6 {n : Nat} (h : n ≤ 100001) : n ≤ LIM := by unfold LIM; omega

set_option maxHeartbeats 4000000 in
theorem s_Add0 (s t : Int) (A A' : Option Addr) (n m c c' : Nat) (a b : Int) (w : World) (hX : WhP w s A n c a) (hY : WhP w t A' m c' b) (hb0 : Bd (a + b)) (h0 : s = 0) :
    Calls Try.prog 184 #[.agg #[.int .i64 s, .slice A n c], .agg #[.int .i64 t, .slice A' m c']] w (RetWh (a + b) w) := by
  obtain ⟨xs, hX⟩ := hX.opened
  obtain ⟨ys, hY⟩ := hY.opened
  have HX : Hd (WhD w s A n c xs a) := ⟨hX⟩
  have HY : Hd (WhD w t A' m c' ys b) := ⟨hY⟩
  have HB0 : Hd (Bd (a + b)) := ⟨hb0⟩
  have ha : a = 0 := hX.num.zero.1 h0
  have HE : Hd (a + b = t * val 16777216 ys) := ⟨by rw [ha, ← hY.num.eq]; omega⟩
  subst h0
  clear ha
  clear hX hY hb0
  go_enter Try.func184, Try.ntmps184
  go_wp2_with (go_at_call 211; (with_reducible refine (s_MakeW t A' m c' ys (a + b) _ HY.out.len (HY.out.reads.below (by (repeat (first | exact Below.refl _ _ | assumption | refine Below.drew ?_ | refine below_drewN ?_ _ | refine ba _ ?_ | refine bs0 _ _ ?_ ?_ | refine bs1 _ _ _ ?_ ?_ | refine bs2 _ _ _ _ ?_ ?_ | refine bt3 (by assumption) ?_)))) HY.out.lim HY.out.cap HY.out.rng HY.out.sg HE.out HB0.out).mono ?_); rintro e w2 ⟨s2, A2, n2, c2, rfl, hW, hq⟩; have HW2 : Hd (WhO w2 (w.heap.size + 1 + 1 + 1) s2 A2 n2 c2 (a + b)) := ⟨hW.mono (by simp)⟩; clear hW; obtain ⟨hc, hf, hz, hy⟩ := bcell hq; have hs := hq.size; (try simp at hs); have h0' : w.heap.size < w2.heap.size := (by omega); have h1' : w.heap.size + 1 < w2.heap.size := (by omega); have h2' : w.heap.size + 1 + 1 < w2.heap.size := (by omega); clear hs)
  refine bodyPost_ret (v := .agg #[.int .i64 s2, .slice A2 n2 c2]) (by simp (maxDischargeDepth := 7) [results, Try.results184, go_sem, *]) rfl ⟨s2, A2, n2, c2, rfl, ?_, ?_⟩
  · exact ((HW2.out.set _ _ (by omega) _).set _ _ (by omega) _).mono (by omega)
  · (repeat (first | exact Below.refl _ _ | assumption | refine Below.drew ?_ | refine below_drewN ?_ _ | refine ba _ ?_ | refine bs0 _ _ ?_ ?_ | refine bs1 _ _ _ ?_ ?_ | refine bs2 _ _ _ _ ?_ ?_ | refine bt3 (by assumption) ?_))

set_option maxHeartbeats 4000000 in
theorem s_Add1 (s t : Int) (A A' : Option Addr) (n m c c' : Nat) (a b : Int) (w : World) (hX : WhP w s A n c a) (hY : WhP w t A' m c' b) (hb0 : Bd (a + b)) (h0 : s ≠ 0) (h1 : t = 0) :
    Calls Try.prog 184 #[.agg #[.int .i64 s, .slice A n c], .agg #[.int .i64 t, .slice A' m c']] w (RetWh (a + b) w) := by
  obtain ⟨xs, hX⟩ := hX.opened
  obtain ⟨ys, hY⟩ := hY.opened
  have HX : Hd (WhD w s A n c xs a) := ⟨hX⟩
  have HY : Hd (WhD w t A' m c' ys b) := ⟨hY⟩
  have HB0 : Hd (Bd (a + b)) := ⟨hb0⟩
  have ha : b = 0 := hY.num.zero.1 h1
  have HE : Hd (a + b = s * val 16777216 xs) := ⟨by rw [ha, ← hX.num.eq]; omega⟩
  have e0 : (s == 0) = false := by simpa using h0
  subst h1
  clear ha h0
  clear hX hY hb0
  go_enter Try.func184, Try.ntmps184
  go_wp2_with (go_at_call 211; (with_reducible refine (s_MakeW s A n c xs (a + b) _ HX.out.len (HX.out.reads.below (by (repeat (first | exact Below.refl _ _ | assumption | refine Below.drew ?_ | refine below_drewN ?_ _ | refine ba _ ?_ | refine bs0 _ _ ?_ ?_ | refine bs1 _ _ _ ?_ ?_ | refine bs2 _ _ _ _ ?_ ?_ | refine bt3 (by assumption) ?_)))) HX.out.lim HX.out.cap HX.out.rng HX.out.sg HE.out HB0.out).mono ?_); rintro e w2 ⟨s2, A2, n2, c2, rfl, hW, hq⟩; have HW2 : Hd (WhO w2 (w.heap.size + 1 + 1 + 1) s2 A2 n2 c2 (a + b)) := ⟨hW.mono (by simp)⟩; clear hW; obtain ⟨hc, hf, hz, hy⟩ := bcell hq; have hs := hq.size; (try simp at hs); have h0' : w.heap.size < w2.heap.size := (by omega); have h1' : w.heap.size + 1 < w2.heap.size := (by omega); have h2' : w.heap.size + 1 + 1 < w2.heap.size := (by omega); clear hs)
  refine bodyPost_ret (v := .agg #[.int .i64 s2, .slice A2 n2 c2]) (by simp (maxDischargeDepth := 7) [results, Try.results184, go_sem, *]) rfl ⟨s2, A2, n2, c2, rfl, ?_, ?_⟩
  · exact ((HW2.out.set _ _ (by omega) _).set _ _ (by omega) _).mono (by omega)
  · (repeat (first | exact Below.refl _ _ | assumption | refine Below.drew ?_ | refine below_drewN ?_ _ | refine ba _ ?_ | refine bs0 _ _ ?_ ?_ | refine bs1 _ _ _ ?_ ?_ | refine bs2 _ _ _ _ ?_ ?_ | refine bt3 (by assumption) ?_))

set_option maxHeartbeats 4000000 in
theorem s_Add2 (s t : Int) (A A' : Option Addr) (n m c c' : Nat) (a b : Int) (w : World) (hX : WhP w s A n c a) (hY : WhP w t A' m c' b) (hb0 : Bd (a + b)) (h0 : s ≠ 0) (h1 : t ≠ 0) (h2 : s = t) :
    Calls Try.prog 184 #[.agg #[.int .i64 s, .slice A n c], .agg #[.int .i64 t, .slice A' m c']] w (RetWh (a + b) w) := by
  obtain ⟨xs, hX⟩ := hX.opened
  obtain ⟨ys, hY⟩ := hY.opened
  have HX : Hd (WhD w s A n c xs a) := ⟨hX⟩
  have HY : Hd (WhD w t A' m c' ys b) := ⟨hY⟩
  have HB0 : Hd (Bd (a + b)) := ⟨hb0⟩
  have HV : Hd (a + b = s * (val 16777216 xs + val 16777216 ys)) := ⟨by rw [hX.num.eq, hY.num.eq, ← h2, Int.mul_add]⟩
  have HS1 : Hd (s = 1 ∨ s = -1) := ⟨(hX.num.one h0).1⟩
  have e0 : (s == 0) = false := by simpa using h0
  subst h2
  clear h0 h1
  clear hX hY hb0
  go_enter Try.func184, Try.ntmps184
  go_wp2_with fail
  have d1 : ¬ (w.heap.size + 1 + 1 = w.heap.size) := by omega
  have d2 : ¬ (w.heap.size = w.heap.size + 1 + 1) := by omega
  go_region_held3 (fun w' => w'.cell? ⟨w.heap.size, 0, none⟩ = some (.int .i64 s) ∧ w'.cell? ⟨w.heap.size, 1, none⟩ = some (.slice A n c) ∧ w'.cell? ⟨w.heap.size + 1, 0, none⟩ = some (.int .i64 s) ∧ w'.cell? ⟨w.heap.size + 1, 1, none⟩ = some (.slice A' m c')) ((first | assumption | (exact keep4 hq (by first | assumption | (refine ⟨?_, ?_, ?_, ?_⟩ <;> go_simp))) | go_keep | (constructor <;> go_simp)))
    (first | (go_at_call 216; (with_reducible refine (s_PlusL A A' n m c c' xs ys _ HX.out.len HY.out.len (HX.out.reads.below (by (repeat (first | exact Below.refl _ _ | assumption | refine Below.drew ?_ | refine below_drewN ?_ _ | refine ba _ ?_ | refine bs0 _ _ ?_ ?_ | refine bs1 _ _ _ ?_ ?_ | refine bs2 _ _ _ _ ?_ ?_ | refine bt3 (by assumption) ?_)))) (HY.out.reads.below (by (repeat (first | exact Below.refl _ _ | assumption | refine Below.drew ?_ | refine below_drewN ?_ _ | refine ba _ ?_ | refine bs0 _ _ ?_ ?_ | refine bs1 _ _ _ ?_ ?_ | refine bs2 _ _ _ _ ?_ ?_ | refine bt3 (by assumption) ?_)))) HX.out.rng HY.out.rng HX.out.lim5 HY.out.lim5).mono ?_); rintro e w1 ⟨A1, n1, c1, zs, rfl, hn1, ⟨hz1, hz2, hz3⟩, hO, hq⟩; have HO1 : Hd (n1 = zs.length ∧ Rng 16777216 zs ∧ zs.length ≤ 100001 ∧ val 16777216 zs = _) := ⟨⟨hn1, hz1, hz2, hz3⟩⟩; have HOO : Hd (O64 w1 _ (.slice A1 n1 c1) zs) := ⟨hO⟩; have HQ : Hd (Below _ _ w1) := ⟨hq⟩; clear hn1 hz1 hz2 hz3 hO) | (go_at_call 211; (with_reducible refine (s_MakeW s A1 n1 c1 zs (a + b) w1 HO1.out.1 HOO.out.reads (limz HO1.out.1 HO1.out.2.2.1) HOO.out.cap.2 HO1.out.2.1 (sg2 HS1.out) (by rw [HO1.out.2.2.2]; exact HV.out) HB0.out).mono ?_); rintro e w2 ⟨s2, A2, n2, c2, rfl, hW, hq2⟩; replace hq := bt3 hq2 HQ.out; have HW2 : Hd (WhO w2 (w.heap.size + 1 + 1 + 1) s2 A2 n2 c2 (a + b)) := ⟨hW.mono (by have := HQ.out.size; simpa using this)⟩; clear hW hq2; obtain ⟨hc, hf, hz, hy⟩ := bcell hq; have hs := hq.size; (try simp at hs); have h0' : w.heap.size < w2.heap.size := (by omega); have h1' : w.heap.size + 1 < w2.heap.size := (by omega); have h2' : w.heap.size + 1 + 1 < w2.heap.size := (by omega); clear hs))
  go_wp2_with fail
  refine bodyPost_ret (v := .agg #[.int .i64 s2, .slice A2 n2 c2]) (by simp (maxDischargeDepth := 7) [results, Try.results184, go_sem, *]) rfl ⟨s2, A2, n2, c2, rfl, ?_, ?_⟩
  · exact ((HW2.out.set _ _ (by omega) _).set _ _ (by omega) _).mono (by omega)
  · (repeat (first | exact Below.refl _ _ | assumption | refine Below.drew ?_ | refine below_drewN ?_ _ | refine ba _ ?_ | refine bs0 _ _ ?_ ?_ | refine bs1 _ _ _ ?_ ?_ | refine bs2 _ _ _ _ ?_ ?_ | refine bt3 (by assumption) ?_))

theorem NumS.neg_sign {s t : Int} {xs ys : List Int} {a b : Int} (h : NumS s xs a) (k : NumS t ys b) (h0 : s ≠ 0) (h1 : t ≠ 0) (h2 : s ≠ t) : t = -s := by
  have h3 := (h.one h0).1; have h4 := (k.one h1).1; omega
theorem len_le {xs ys : List Int} {n m : Nat} (hn : n = xs.length) (hm : m = ys.length) (h : Canon 16777216 xs) (k : Canon 16777216 ys) (hv : val 16777216 ys ≤ val 16777216 xs) : m ≤ n := by
  rcases Nat.lt_or_ge n m with h1 | h1
  · have := h.len_lt (by decide) k (by omega); omega
  · exact h1

set_option maxHeartbeats 4000000 in
theorem s_Add3 (s t : Int) (A A' : Option Addr) (n m c c' : Nat) (a b : Int) (w : World) (hX : WhP w s A n c a) (hY : WhP w t A' m c' b) (hb0 : Bd (a + b)) (h0 : s ≠ 0) (h1 : t ≠ 0) (h2 : s ≠ t) (hv : ∀ xs ys, NumS s xs a → NumS t ys b → val 16777216 ys ≤ val 16777216 xs) :
    Calls Try.prog 184 #[.agg #[.int .i64 s, .slice A n c], .agg #[.int .i64 t, .slice A' m c']] w (RetWh (a + b) w) := by
  obtain ⟨xs, hX⟩ := hX.opened
  obtain ⟨ys, hY⟩ := hY.opened
  have HX : Hd (WhD w s A n c xs a) := ⟨hX⟩
  have HY : Hd (WhD w t A' m c' ys b) := ⟨hY⟩
  have HB0 : Hd (Bd (a + b)) := ⟨hb0⟩
  replace hv := hv xs ys hX.num hY.num
  have HV : Hd (a + b = s * (val 16777216 xs - val 16777216 ys)) := ⟨by rw [hX.num.eq, hY.num.eq, NumS.neg_sign hX.num hY.num h0 h1 h2, Int.mul_sub, Int.neg_mul]; omega⟩
  have HS1 : Hd (s = 1 ∨ s = -1) := ⟨(hX.num.one h0).1⟩
  have HML : Hd (m ≤ n ∧ val 16777216 ys ≤ val 16777216 xs) := ⟨len_le hX.len hY.len hX.can hY.can hv, hv⟩
  have e0 : (s == 0) = false := by simpa using h0
  have e1 : (t == 0) = false := by simpa using h1
  have e2 : (s == t) = false := by simpa using h2
  have hcge : (0 : Int) ≤ cmpI (val 16777216 xs) (val 16777216 ys) := by unfold cmpI; rw [if_neg (by omega)]; split <;> omega
  clear h0 h1 h2 hv
  clear hX hY hb0
  go_enter Try.func184, Try.ntmps184
  go_wp2_with (go_at_call 182; (with_reducible refine (s_CmpL A A' n m c c' xs ys _ HX.out.len HY.out.len (HX.out.reads.below (by (repeat (first | exact Below.refl _ _ | assumption | refine Below.drew ?_ | refine below_drewN ?_ _ | refine ba _ ?_ | refine bs0 _ _ ?_ ?_ | refine bs1 _ _ _ ?_ ?_ | refine bs2 _ _ _ _ ?_ ?_ | refine bt3 (by assumption) ?_)))) (HY.out.reads.below (by (repeat (first | exact Below.refl _ _ | assumption | refine Below.drew ?_ | refine below_drewN ?_ _ | refine ba _ ?_ | refine bs0 _ _ ?_ ?_ | refine bs1 _ _ _ ?_ ?_ | refine bs2 _ _ _ _ ?_ ?_ | refine bt3 (by assumption) ?_)))) HX.out.can HY.out.can HX.out.lim5 HY.out.lim5).mono ?_); rintro e w' ⟨rfl, ⟨nd, rfl⟩⟩)
  have d1 : ¬ (w.heap.size + 1 + 1 = w.heap.size) := by omega
  have d2 : ¬ (w.heap.size = w.heap.size + 1 + 1) := by omega
  go_region_held3 (fun w' => w'.cell? ⟨w.heap.size, 0, none⟩ = some (.int .i64 s) ∧ w'.cell? ⟨w.heap.size, 1, none⟩ = some (.slice A n c) ∧ w'.cell? ⟨w.heap.size + 1, 0, none⟩ = some (.int .i64 t) ∧ w'.cell? ⟨w.heap.size + 1, 1, none⟩ = some (.slice A' m c')) ((first | assumption | (exact keep4 hq (by first | assumption | (refine ⟨?_, ?_, ?_, ?_⟩ <;> go_simp))) | go_keep | (constructor <;> go_simp)))
    (first | (go_at_call 217; (with_reducible refine (s_MinusL A A' n m c c' xs ys _ HX.out.len HY.out.len (HX.out.reads.below (by (repeat (first | exact Below.refl _ _ | assumption | refine Below.drew ?_ | refine below_drewN ?_ _ | refine ba _ ?_ | refine bs0 _ _ ?_ ?_ | refine bs1 _ _ _ ?_ ?_ | refine bs2 _ _ _ _ ?_ ?_ | refine bt3 (by assumption) ?_)))) (HY.out.reads.below (by (repeat (first | exact Below.refl _ _ | assumption | refine Below.drew ?_ | refine below_drewN ?_ _ | refine ba _ ?_ | refine bs0 _ _ ?_ ?_ | refine bs1 _ _ _ ?_ ?_ | refine bs2 _ _ _ _ ?_ ?_ | refine bt3 (by assumption) ?_)))) HX.out.rng HY.out.rng HX.out.lim5 HML.out.1 HML.out.2).mono ?_); rintro e w1 ⟨A1, n1, c1, zs, rfl, hn1, ⟨hz1, hz2, hz3⟩, hO, hq⟩; have HO1 : Hd (n1 = zs.length ∧ Rng 16777216 zs ∧ zs.length ≤ 100001 ∧ val 16777216 zs = _) := ⟨⟨hn1, hz1, hz2, hz3⟩⟩; have HOO : Hd (O64 w1 _ (.slice A1 n1 c1) zs) := ⟨hO⟩; have HQ : Hd (Below _ _ w1) := ⟨hq⟩; clear hn1 hz1 hz2 hz3 hO) | (go_at_call 211; (with_reducible refine (s_MakeW s A1 n1 c1 zs (a + b) w1 HO1.out.1 HOO.out.reads (limz HO1.out.1 HO1.out.2.2.1) HOO.out.cap.2 HO1.out.2.1 (sg2 HS1.out) (by rw [HO1.out.2.2.2]; exact HV.out) HB0.out).mono ?_); rintro e w2 ⟨s2, A2, n2, c2, rfl, hW, hq2⟩; replace hq := bt3 hq2 HQ.out; have HW2 : Hd (WhO w2 (w.heap.size + 1 + 1 + 1) s2 A2 n2 c2 (a + b)) := ⟨hW.mono (by have := HQ.out.size; simpa using this)⟩; clear hW hq2; obtain ⟨hc, hf, hz, hy⟩ := bcell hq; have hs := hq.size; (try simp at hs); have h0' : w.heap.size < w2.heap.size := (by omega); have h1' : w.heap.size + 1 < w2.heap.size := (by omega); have h2' : w.heap.size + 1 + 1 < w2.heap.size := (by omega); clear hs))
  go_wp2_with fail
  refine bodyPost_ret (v := .agg #[.int .i64 s2, .slice A2 n2 c2]) (by simp (maxDischargeDepth := 7) [results, Try.results184, go_sem, *]) rfl ⟨s2, A2, n2, c2, rfl, ?_, ?_⟩
  · exact ((HW2.out.set _ _ (by omega) _).set _ _ (by omega) _).mono (by omega)
  · (repeat (first | exact Below.refl _ _ | assumption | refine Below.drew ?_ | refine below_drewN ?_ _ | refine ba _ ?_ | refine bs0 _ _ ?_ ?_ | refine bs1 _ _ _ ?_ ?_ | refine bs2 _ _ _ _ ?_ ?_ | refine bt3 (by assumption) ?_))

set_option maxHeartbeats 4000000 in
theorem s_Add4 (s t : Int) (A A' : Option Addr) (n m c c' : Nat) (a b : Int) (w : World) (hX : WhP w s A n c a) (hY : WhP w t A' m c' b) (hb0 : Bd (a + b)) (h0 : s ≠ 0) (h1 : t ≠ 0) (h2 : s ≠ t) (hv : ∀ xs ys, NumS s xs a → NumS t ys b → val 16777216 xs < val 16777216 ys) :
    Calls Try.prog 184 #[.agg #[.int .i64 s, .slice A n c], .agg #[.int .i64 t, .slice A' m c']] w (RetWh (a + b) w) := by
  obtain ⟨xs, hX⟩ := hX.opened
  obtain ⟨ys, hY⟩ := hY.opened
  have HX : Hd (WhD w s A n c xs a) := ⟨hX⟩
  have HY : Hd (WhD w t A' m c' ys b) := ⟨hY⟩
  have HB0 : Hd (Bd (a + b)) := ⟨hb0⟩
  replace hv := hv xs ys hX.num hY.num
  have HV : Hd (a + b = t * (val 16777216 ys - val 16777216 xs)) := ⟨by rw [hX.num.eq, hY.num.eq, NumS.neg_sign hX.num hY.num h0 h1 h2, Int.mul_sub, Int.neg_mul, Int.neg_mul]; omega⟩
  have HS1 : Hd (t = 1 ∨ t = -1) := ⟨(hY.num.one h1).1⟩
  have HML : Hd (n ≤ m ∧ val 16777216 xs ≤ val 16777216 ys) := ⟨len_le hY.len hX.len hY.can hX.can (by omega), by omega⟩
  have e0 : (s == 0) = false := by simpa using h0
  have e1 : (t == 0) = false := by simpa using h1
  have e2 : (s == t) = false := by simpa using h2
  have hcge : cmpI (val 16777216 xs) (val 16777216 ys) = -1 := if_pos hv
  clear h0 h1 h2 hv
  clear hX hY hb0
  go_enter Try.func184, Try.ntmps184
  go_wp2_with (go_at_call 182; (with_reducible refine (s_CmpL A A' n m c c' xs ys _ HX.out.len HY.out.len (HX.out.reads.below (by (repeat (first | exact Below.refl _ _ | assumption | refine Below.drew ?_ | refine below_drewN ?_ _ | refine ba _ ?_ | refine bs0 _ _ ?_ ?_ | refine bs1 _ _ _ ?_ ?_ | refine bs2 _ _ _ _ ?_ ?_ | refine bt3 (by assumption) ?_)))) (HY.out.reads.below (by (repeat (first | exact Below.refl _ _ | assumption | refine Below.drew ?_ | refine below_drewN ?_ _ | refine ba _ ?_ | refine bs0 _ _ ?_ ?_ | refine bs1 _ _ _ ?_ ?_ | refine bs2 _ _ _ _ ?_ ?_ | refine bt3 (by assumption) ?_)))) HX.out.can HY.out.can HX.out.lim5 HY.out.lim5).mono ?_); rintro e w' ⟨rfl, ⟨nd, rfl⟩⟩)
  have d1 : ¬ (w.heap.size + 1 + 1 = w.heap.size) := by omega
  have d2 : ¬ (w.heap.size = w.heap.size + 1 + 1) := by omega
  go_region_held3 (fun w' => w'.cell? ⟨w.heap.size, 0, none⟩ = some (.int .i64 s) ∧ w'.cell? ⟨w.heap.size, 1, none⟩ = some (.slice A n c) ∧ w'.cell? ⟨w.heap.size + 1, 0, none⟩ = some (.int .i64 t) ∧ w'.cell? ⟨w.heap.size + 1, 1, none⟩ = some (.slice A' m c')) ((first | assumption | (exact keep4 hq (by first | assumption | (refine ⟨?_, ?_, ?_, ?_⟩ <;> go_simp))) | go_keep | (constructor <;> go_simp)))
    (first | (go_at_call 217; (with_reducible refine (s_MinusL A' A m n c' c ys xs _ HY.out.len HX.out.len (HY.out.reads.below (by (repeat (first | exact Below.refl _ _ | assumption | refine Below.drew ?_ | refine below_drewN ?_ _ | refine ba _ ?_ | refine bs0 _ _ ?_ ?_ | refine bs1 _ _ _ ?_ ?_ | refine bs2 _ _ _ _ ?_ ?_ | refine bt3 (by assumption) ?_)))) (HX.out.reads.below (by (repeat (first | exact Below.refl _ _ | assumption | refine Below.drew ?_ | refine below_drewN ?_ _ | refine ba _ ?_ | refine bs0 _ _ ?_ ?_ | refine bs1 _ _ _ ?_ ?_ | refine bs2 _ _ _ _ ?_ ?_ | refine bt3 (by assumption) ?_)))) HY.out.rng HX.out.rng HY.out.lim5 HML.out.1 HML.out.2).mono ?_); rintro e w1 ⟨A1, n1, c1, zs, rfl, hn1, ⟨hz1, hz2, hz3⟩, hO, hq⟩; have HO1 : Hd (n1 = zs.length ∧ Rng 16777216 zs ∧ zs.length ≤ 100001 ∧ val 16777216 zs = _) := ⟨⟨hn1, hz1, hz2, hz3⟩⟩; have HOO : Hd (O64 w1 _ (.slice A1 n1 c1) zs) := ⟨hO⟩; have HQ : Hd (Below _ _ w1) := ⟨hq⟩; clear hn1 hz1 hz2 hz3 hO) | (go_at_call 211; (with_reducible refine (s_MakeW t A1 n1 c1 zs (a + b) w1 HO1.out.1 HOO.out.reads (limz HO1.out.1 HO1.out.2.2.1) HOO.out.cap.2 HO1.out.2.1 (sg2 HS1.out) (by rw [HO1.out.2.2.2]; exact HV.out) HB0.out).mono ?_); rintro e w2 ⟨s2, A2, n2, c2, rfl, hW, hq2⟩; replace hq := bt3 hq2 HQ.out; have HW2 : Hd (WhO w2 (w.heap.size + 1 + 1 + 1) s2 A2 n2 c2 (a + b)) := ⟨hW.mono (by have := HQ.out.size; simpa using this)⟩; clear hW hq2; obtain ⟨hc, hf, hz, hy⟩ := bcell hq; have hs := hq.size; (try simp at hs); have h0' : w.heap.size < w2.heap.size := (by omega); have h1' : w.heap.size + 1 < w2.heap.size := (by omega); have h2' : w.heap.size + 1 + 1 < w2.heap.size := (by omega); clear hs))
  go_wp2_with fail
  refine bodyPost_ret (v := .agg #[.int .i64 s2, .slice A2 n2 c2]) (by simp (maxDischargeDepth := 7) [results, Try.results184, go_sem, *]) rfl ⟨s2, A2, n2, c2, rfl, ?_, ?_⟩
  · exact ((HW2.out.set _ _ (by omega) _).set _ _ (by omega) _).mono (by omega)
  · (repeat (first | exact Below.refl _ _ | assumption | refine Below.drew ?_ | refine below_drewN ?_ _ | refine ba _ ?_ | refine bs0 _ _ ?_ ?_ | refine bs1 _ _ _ ?_ ?_ | refine bs2 _ _ _ _ ?_ ?_ | refine bt3 (by assumption) ?_))

theorem NumS.uniq {s : Int} {xs ys : List Int} {a : Int} (h : NumS s xs a) (k : NumS s ys a) (h0 : s ≠ 0) : val 16777216 xs = val 16777216 ys := by
  have h1 := h.eq; have h2 := k.eq
  rcases (h.one h0).1 with rfl | rfl <;> omega
/-- the sum of two whole numbers -/
theorem s_AddW (s t : Int) (A A' : Option Addr) (n m c c' : Nat) (a b : Int) (w : World) (hX : WhP w s A n c a) (hY : WhP w t A' m c' b) (hb0 : Bd (a + b)) :
    Calls Try.prog 184 #[.agg #[.int .i64 s, .slice A n c], .agg #[.int .i64 t, .slice A' m c']] w (RetWh (a + b) w) := by
  by_cases h0 : s = 0
  · exact s_Add0 s t A A' n m c c' a b w hX hY hb0 h0
  · by_cases h1 : t = 0
    · exact s_Add1 s t A A' n m c c' a b w hX hY hb0 h0 h1
    · by_cases h2 : s = t
      · exact s_Add2 s t A A' n m c c' a b w hX hY hb0 h0 h1 h2
      · obtain ⟨xs, kX⟩ := hX.opened
        obtain ⟨ys, kY⟩ := hY.opened
        rcases Int.lt_or_le (val 16777216 xs) (val 16777216 ys) with hv | hv
        · exact s_Add4 s t A A' n m c c' a b w hX hY hb0 h0 h1 h2 (fun us vs hu hv' => by rw [hu.uniq kX.num h0, hv'.uniq kY.num h1]; exact hv)
        · exact s_Add3 s t A A' n m c c' a b w hX hY hb0 h0 h1 h2 (fun us vs hu hv' => by rw [hu.uniq kX.num h0, hv'.uniq kY.num h1]; exact hv)

set_option maxHeartbeats 4000000 in
theorem s_NegW (s : Int) (A : Option Addr) (n c : Nat) (a : Int) (w : World) (hX : WhP w s A n c a) (hb0 : Bd (-a)) :
    Calls Try.prog 199 #[.agg #[.int .i64 s, .slice A n c]] w (RetWh (-a) w) := by
  obtain ⟨xs, hX⟩ := hX.opened
  have HX : Hd (WhD w s A n c xs a) := ⟨hX⟩
  have HB0 : Hd (Bd (-a)) := ⟨hb0⟩
  have HE : Hd ((-a) = (-s) * val 16777216 xs) := ⟨by rw [hX.num.eq, Int.neg_mul]⟩
  have HS1 : Hd ((-s) = 1 ∨ (-s) = -1 ∨ val 16777216 xs = 0) := ⟨by rcases hX.sg with h | h | h <;> simp [h]⟩
  have hs3 : s = 0 ∨ s = 1 ∨ s = -1 := by rcases hX.num.sgn with h | h <;> omega
  clear hX hb0
  rcases hs3 with rfl | rfl | rfl
  · have HE2 : Hd ((-a) = 0 * val 16777216 xs) := ⟨by have := HE.out; omega⟩
    have HS2 : Hd ((0 : Int) = 1 ∨ (0 : Int) = -1 ∨ val 16777216 xs = 0) := ⟨by have := HS1.out; omega⟩
    clear HE HS1
    go_enter Try.func199, Try.ntmps199
    go_wp2_with (go_at_call 211; (with_reducible refine (s_MakeW 0 A n c xs (-a) _ HX.out.len (HX.out.reads.below (by (repeat (first | exact Below.refl _ _ | assumption | refine Below.drew ?_ | refine below_drewN ?_ _ | refine ba _ ?_ | refine bs0 _ _ ?_ ?_ | refine bs1 _ _ _ ?_ ?_ | refine bs2 _ _ _ _ ?_ ?_ | refine bt3 (by assumption) ?_)))) HX.out.lim HX.out.cap HX.out.rng HS2.out HE2.out HB0.out).mono ?_); rintro e w2 ⟨s2, A2, n2, c2, rfl, hW, hq⟩; have HW2 : Hd (WhO w2 (w.heap.size + 1 + 1) s2 A2 n2 c2 (-a)) := ⟨hW.mono (by simp)⟩; clear hW; obtain ⟨hc, hf, hz, hy⟩ := bcell hq; have hs := hq.size; (try simp at hs); have h0' : w.heap.size < w2.heap.size := (by omega); have h1' : w.heap.size + 1 < w2.heap.size := (by omega); clear hs)
    refine bodyPost_ret (v := .agg #[.int .i64 s2, .slice A2 n2 c2]) (by simp (maxDischargeDepth := 7) [results, Try.results199, go_sem, *]) rfl ⟨s2, A2, n2, c2, rfl, ?_, ?_⟩
    · exact ((HW2.out.set _ _ (by omega) _).set _ _ (by omega) _).mono (by omega)
    · (repeat (first | exact Below.refl _ _ | assumption | refine Below.drew ?_ | refine below_drewN ?_ _ | refine ba _ ?_ | refine bs0 _ _ ?_ ?_ | refine bs1 _ _ _ ?_ ?_ | refine bs2 _ _ _ _ ?_ ?_ | refine bt3 (by assumption) ?_))
  · have HE2 : Hd ((-a) = (-1) * val 16777216 xs) := ⟨by have := HE.out; omega⟩
    have HS2 : Hd (((-1) : Int) = 1 ∨ ((-1) : Int) = -1 ∨ val 16777216 xs = 0) := ⟨by have := HS1.out; omega⟩
    clear HE HS1
    go_enter Try.func199, Try.ntmps199
    go_wp2_with (go_at_call 211; (with_reducible refine (s_MakeW (-1) A n c xs (-a) _ HX.out.len (HX.out.reads.below (by (repeat (first | exact Below.refl _ _ | assumption | refine Below.drew ?_ | refine below_drewN ?_ _ | refine ba _ ?_ | refine bs0 _ _ ?_ ?_ | refine bs1 _ _ _ ?_ ?_ | refine bs2 _ _ _ _ ?_ ?_ | refine bt3 (by assumption) ?_)))) HX.out.lim HX.out.cap HX.out.rng HS2.out HE2.out HB0.out).mono ?_); rintro e w2 ⟨s2, A2, n2, c2, rfl, hW, hq⟩; have HW2 : Hd (WhO w2 (w.heap.size + 1 + 1) s2 A2 n2 c2 (-a)) := ⟨hW.mono (by simp)⟩; clear hW; obtain ⟨hc, hf, hz, hy⟩ := bcell hq; have hs := hq.size; (try simp at hs); have h0' : w.heap.size < w2.heap.size := (by omega); have h1' : w.heap.size + 1 < w2.heap.size := (by omega); clear hs)
    refine bodyPost_ret (v := .agg #[.int .i64 s2, .slice A2 n2 c2]) (by simp (maxDischargeDepth := 7) [results, Try.results199, go_sem, *]) rfl ⟨s2, A2, n2, c2, rfl, ?_, ?_⟩
    · exact ((HW2.out.set _ _ (by omega) _).set _ _ (by omega) _).mono (by omega)
    · (repeat (first | exact Below.refl _ _ | assumption | refine Below.drew ?_ | refine below_drewN ?_ _ | refine ba _ ?_ | refine bs0 _ _ ?_ ?_ | refine bs1 _ _ _ ?_ ?_ | refine bs2 _ _ _ _ ?_ ?_ | refine bt3 (by assumption) ?_))
  · have HE2 : Hd ((-a) = 1 * val 16777216 xs) := ⟨by have := HE.out; omega⟩
    have HS2 : Hd ((1 : Int) = 1 ∨ (1 : Int) = -1 ∨ val 16777216 xs = 0) := ⟨by have := HS1.out; omega⟩
    clear HE HS1
    go_enter Try.func199, Try.ntmps199
    go_wp2_with (go_at_call 211; (with_reducible refine (s_MakeW 1 A n c xs (-a) _ HX.out.len (HX.out.reads.below (by (repeat (first | exact Below.refl _ _ | assumption | refine Below.drew ?_ | refine below_drewN ?_ _ | refine ba _ ?_ | refine bs0 _ _ ?_ ?_ | refine bs1 _ _ _ ?_ ?_ | refine bs2 _ _ _ _ ?_ ?_ | refine bt3 (by assumption) ?_)))) HX.out.lim HX.out.cap HX.out.rng HS2.out HE2.out HB0.out).mono ?_); rintro e w2 ⟨s2, A2, n2, c2, rfl, hW, hq⟩; have HW2 : Hd (WhO w2 (w.heap.size + 1 + 1) s2 A2 n2 c2 (-a)) := ⟨hW.mono (by simp)⟩; clear hW; obtain ⟨hc, hf, hz, hy⟩ := bcell hq; have hs := hq.size; (try simp at hs); have h0' : w.heap.size < w2.heap.size := (by omega); have h1' : w.heap.size + 1 < w2.heap.size := (by omega); clear hs)
    refine bodyPost_ret (v := .agg #[.int .i64 s2, .slice A2 n2 c2]) (by simp (maxDischargeDepth := 7) [results, Try.results199, go_sem, *]) rfl ⟨s2, A2, n2, c2, rfl, ?_, ?_⟩
    · exact ((HW2.out.set _ _ (by omega) _).set _ _ (by omega) _).mono (by omega)
    · (repeat (first | exact Below.refl _ _ | assumption | refine Below.drew ?_ | refine below_drewN ?_ _ | refine ba _ ?_ | refine bs0 _ _ ?_ ?_ | refine bs1 _ _ _ ?_ ?_ | refine bs2 _ _ _ _ ?_ ?_ | refine bt3 (by assumption) ?_))

set_option maxHeartbeats 4000000 in
theorem s_AbsW (s : Int) (A : Option Addr) (n c : Nat) (a : Int) (w : World) (hX : WhP w s A n c a) (hb0 : Bd (a.natAbs : Int)) :
    Calls Try.prog 200 #[.agg #[.int .i64 s, .slice A n c]] w (RetWh (a.natAbs : Int) w) := by
  obtain ⟨xs, hX⟩ := hX.opened
  have HX : Hd (WhD w s A n c xs a) := ⟨hX⟩
  have HB0 : Hd (Bd (a.natAbs : Int)) := ⟨hb0⟩
  have HE : Hd ((a.natAbs : Int) = (s * s) * val 16777216 xs) := ⟨by have h1 := hX.num.eq; have h2 := hX.num.sg; have h3 := val_nonneg (B := 16777216) (by decide) hX.rng; rcases h2 with h | h | h <;> simp [h] at h1 ⊢ <;> omega⟩
  have HS1 : Hd ((s * s) = 1 ∨ (s * s) = -1 ∨ val 16777216 xs = 0) := ⟨by rcases hX.sg with h | h | h <;> simp [h]⟩
  have hs3 : s = 0 ∨ s = 1 ∨ s = -1 := by rcases hX.num.sgn with h | h <;> omega
  clear hX hb0
  rcases hs3 with rfl | rfl | rfl
  · have HE2 : Hd ((a.natAbs : Int) = 0 * val 16777216 xs) := ⟨by have := HE.out; omega⟩
    have HS2 : Hd ((0 : Int) = 1 ∨ (0 : Int) = -1 ∨ val 16777216 xs = 0) := ⟨by have := HS1.out; omega⟩
    clear HE HS1
    go_enter Try.func200, Try.ntmps200
    go_wp2_with (go_at_call 211; (with_reducible refine (s_MakeW 0 A n c xs (a.natAbs : Int) _ HX.out.len (HX.out.reads.below (by (repeat (first | exact Below.refl _ _ | assumption | refine Below.drew ?_ | refine below_drewN ?_ _ | refine ba _ ?_ | refine bs0 _ _ ?_ ?_ | refine bs1 _ _ _ ?_ ?_ | refine bs2 _ _ _ _ ?_ ?_ | refine bt3 (by assumption) ?_)))) HX.out.lim HX.out.cap HX.out.rng HS2.out HE2.out HB0.out).mono ?_); rintro e w2 ⟨s2, A2, n2, c2, rfl, hW, hq⟩; have HW2 : Hd (WhO w2 (w.heap.size + 1 + 1) s2 A2 n2 c2 (a.natAbs : Int)) := ⟨hW.mono (by simp)⟩; clear hW; obtain ⟨hc, hf, hz, hy⟩ := bcell hq; have hs := hq.size; (try simp at hs); have h0' : w.heap.size < w2.heap.size := (by omega); have h1' : w.heap.size + 1 < w2.heap.size := (by omega); clear hs)
    refine bodyPost_ret (v := .agg #[.int .i64 s2, .slice A2 n2 c2]) (by simp (maxDischargeDepth := 7) [results, Try.results200, go_sem, *]) rfl ⟨s2, A2, n2, c2, rfl, ?_, ?_⟩
    · exact ((HW2.out.set _ _ (by omega) _).set _ _ (by omega) _).mono (by omega)
    · (repeat (first | exact Below.refl _ _ | assumption | refine Below.drew ?_ | refine below_drewN ?_ _ | refine ba _ ?_ | refine bs0 _ _ ?_ ?_ | refine bs1 _ _ _ ?_ ?_ | refine bs2 _ _ _ _ ?_ ?_ | refine bt3 (by assumption) ?_))
  · have HE2 : Hd ((a.natAbs : Int) = 1 * val 16777216 xs) := ⟨by have := HE.out; omega⟩
    have HS2 : Hd ((1 : Int) = 1 ∨ (1 : Int) = -1 ∨ val 16777216 xs = 0) := ⟨by have := HS1.out; omega⟩
    clear HE HS1
    go_enter Try.func200, Try.ntmps200
    go_wp2_with (go_at_call 211; (with_reducible refine (s_MakeW 1 A n c xs (a.natAbs : Int) _ HX.out.len (HX.out.reads.below (by (repeat (first | exact Below.refl _ _ | assumption | refine Below.drew ?_ | refine below_drewN ?_ _ | refine ba _ ?_ | refine bs0 _ _ ?_ ?_ | refine bs1 _ _ _ ?_ ?_ | refine bs2 _ _ _ _ ?_ ?_ | refine bt3 (by assumption) ?_)))) HX.out.lim HX.out.cap HX.out.rng HS2.out HE2.out HB0.out).mono ?_); rintro e w2 ⟨s2, A2, n2, c2, rfl, hW, hq⟩; have HW2 : Hd (WhO w2 (w.heap.size + 1 + 1) s2 A2 n2 c2 (a.natAbs : Int)) := ⟨hW.mono (by simp)⟩; clear hW; obtain ⟨hc, hf, hz, hy⟩ := bcell hq; have hs := hq.size; (try simp at hs); have h0' : w.heap.size < w2.heap.size := (by omega); have h1' : w.heap.size + 1 < w2.heap.size := (by omega); clear hs)
    refine bodyPost_ret (v := .agg #[.int .i64 s2, .slice A2 n2 c2]) (by simp (maxDischargeDepth := 7) [results, Try.results200, go_sem, *]) rfl ⟨s2, A2, n2, c2, rfl, ?_, ?_⟩
    · exact ((HW2.out.set _ _ (by omega) _).set _ _ (by omega) _).mono (by omega)
    · (repeat (first | exact Below.refl _ _ | assumption | refine Below.drew ?_ | refine below_drewN ?_ _ | refine ba _ ?_ | refine bs0 _ _ ?_ ?_ | refine bs1 _ _ _ ?_ ?_ | refine bs2 _ _ _ _ ?_ ?_ | refine bt3 (by assumption) ?_))
  · have HE2 : Hd ((a.natAbs : Int) = 1 * val 16777216 xs) := ⟨by have := HE.out; omega⟩
    have HS2 : Hd ((1 : Int) = 1 ∨ (1 : Int) = -1 ∨ val 16777216 xs = 0) := ⟨by have := HS1.out; omega⟩
    clear HE HS1
    go_enter Try.func200, Try.ntmps200
    go_wp2_with (go_at_call 211; (with_reducible refine (s_MakeW 1 A n c xs (a.natAbs : Int) _ HX.out.len (HX.out.reads.below (by (repeat (first | exact Below.refl _ _ | assumption | refine Below.drew ?_ | refine below_drewN ?_ _ | refine ba _ ?_ | refine bs0 _ _ ?_ ?_ | refine bs1 _ _ _ ?_ ?_ | refine bs2 _ _ _ _ ?_ ?_ | refine bt3 (by assumption) ?_)))) HX.out.lim HX.out.cap HX.out.rng HS2.out HE2.out HB0.out).mono ?_); rintro e w2 ⟨s2, A2, n2, c2, rfl, hW, hq⟩; have HW2 : Hd (WhO w2 (w.heap.size + 1 + 1) s2 A2 n2 c2 (a.natAbs : Int)) := ⟨hW.mono (by simp)⟩; clear hW; obtain ⟨hc, hf, hz, hy⟩ := bcell hq; have hs := hq.size; (try simp at hs); have h0' : w.heap.size < w2.heap.size := (by omega); have h1' : w.heap.size + 1 < w2.heap.size := (by omega); clear hs)
    refine bodyPost_ret (v := .agg #[.int .i64 s2, .slice A2 n2 c2]) (by simp (maxDischargeDepth := 7) [results, Try.results200, go_sem, *]) rfl ⟨s2, A2, n2, c2, rfl, ?_, ?_⟩
    · exact ((HW2.out.set _ _ (by omega) _).set _ _ (by omega) _).mono (by omega)
    · (repeat (first | exact Below.refl _ _ | assumption | refine Below.drew ?_ | refine below_drewN ?_ _ | refine ba _ ?_ | refine bs0 _ _ ?_ ?_ | refine bs1 _ _ _ ?_ ?_ | refine bs2 _ _ _ _ ?_ ?_ | refine bt3 (by assumption) ?_))

end Go.Proofs.Ytmiafbbndonpaaa
