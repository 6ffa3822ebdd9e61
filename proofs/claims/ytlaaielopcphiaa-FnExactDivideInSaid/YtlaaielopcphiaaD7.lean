/- Contracts: cut quotients with a mark, in the reference. -/
import Derived.Test.YtlaaielopcphiaaD6
import Derived.Test.YtlaaielopcphiaaGc
set_option linter.unusedVariables false
set_option linter.unusedSimpArgs false
set_option exponentiation.threshold 40000
namespace Go.Proofs.Ytlaaielopcphiaa
open Go.RowKit Num Flt
theorem WhP.sgn {w : World} {s : Int} {A : Option Addr} {n c : Nat} {a : Int} (h : WhP w s A n c a) (ha : a ≠ 0) : s = a.sign ∧ (s = 1 ∨ s = -1) := by
  obtain ⟨xs, _, _, _, hN, _⟩ := h
  have he := hN.eq
  rcases hN.sgn with ⟨rfl, _⟩ | ⟨hs, hx⟩
  · rw [Int.zero_mul] at he; exact absurd he ha
  · have hp := hN.can.pos (by decide) hx
    refine ⟨?_, hs⟩
    rcases hs with rfl | rfl
    · rw [he, Int.one_mul, Int.sign_eq_one_of_pos hp]
    · rw [he, Int.neg_mul, Int.one_mul, Int.sign_neg, Int.sign_eq_one_of_pos hp]
theorem bd_small1 {v : Int} (h : v = 1 ∨ v = -1) : Bd v := by
  have k1 : TOP = 2 ^ (24 * 100000) := p24 100000
  have k2 : (2 : Int) ^ 2 ≤ 2 ^ (24 * 100000) := pow_le (by decide) (by decide)
  rw [← k1] at k2
  unfold Bd
  generalize TOP = T at *
  omega
structure MkH (w wx : World) (s : Int) (A : Option Addr) (n c : Nat) : Prop where
  bel : Below w.heap.size w wx
  b0 : Blk wx w.heap.size 31 #[.int .i64 s, .slice A n c]
  b1 : Blk wx (w.heap.size + 1) 33 #[.int .i64 0, .slice none 0 0, .int .i64 0]
theorem MkH.below {w wx w' : World} {s : Int} {A : Option Addr} {n c : Nat} (h : MkH w wx s A n c) (hb : Below wx.heap.size wx w') : MkH w w' s A n c :=
  ⟨bt3 hb h.bel, h.b0.below hb h.b0.lt, h.b1.below hb h.b1.lt⟩
theorem MkH.start (w : World) (s : Int) (A : Option Addr) (n c : Nat) : MkH w ((w.alloc (Obj.cells #[.int .i64 s, .slice A n c] 31)).alloc (Obj.cells #[.int .i64 0, .slice none 0 0, .int .i64 0] 33)) s A n c := by
  refine ⟨ba _ (ba _ (Below.refl _ _)), (Blk.new _ _ _).alloc _, ?_⟩
  have := Blk.new (w.alloc (Obj.cells #[.int .i64 s, .slice A n c] 31)) 33 #[.int .i64 0, .slice none 0 0, .int .i64 0]
  simpa using this
theorem MkH.put {w wx : World} {s t : Int} {A A' : Option Addr} {n c m c' : Nat} (h : MkH w wx s A n c) : MkH w ((wx.setCell ⟨w.heap.size, 0, none⟩ (.int .i64 t)).setCell ⟨w.heap.size, 1, none⟩ (.slice A' m c')) t A' m c' := by
  refine ⟨(h.bel.setCell (Nat.le_refl _) _).setCell (Nat.le_refl _) _, ?_, (h.b1.far (by simp) _).far (by simp) _⟩
  have := (h.b0.set_ 0 (.int .i64 t)).set_ 1 (.slice A' m c')
  simpa using this
set_option maxHeartbeats 4000000 in
theorem s_MarkF (s : Int) (A : Option Addr) (n c : Nat) (a e : Int) (l : Nat) (w : World) (hX : WhP w s A n c a) (he : -10000 ≤ e ∧ e ≤ 10000) (hl : -(l : Int) ≤ e - 1) (hls : l ≤ SC) (hb2 : Bd (a * 2)) (hbd : Bd (dv (a * 2) (e - 1))) :
    Calls Try.prog 119 #[.agg #[.int .i64 s, .slice A n c], .int .i64 e, .bool false] w (RetD (dv (a * 2) (e - 1)) l w) := by
  have HT := Hd.mk (MkH.start w s A n c)
  have HT0 := HT
  have HX := Hd.mk hX
  have HL := Hd.mk (fun w hX => s_LeftP s A n c a 1 w hX (by decide) (by simpa using hb2))
  simp only [Int.natCast_one, Int.pow_succ, Int.pow_zero, Int.one_mul] at HL
  have HM := Hd.mk (And.intro hl (And.intro hls (And.intro (show e - 1 ≤ 2400000 by omega) hbd)))
  have he1 : -10000 ≤ e := he.1
  have he2 : e ≤ 10000 := he.2
  clear hX hb2 hbd he hl hls
  go_enter Try.func119, Try.ntmps119
  have c0 : ((w.alloc (Obj.cells #[.int .i64 s, .slice A n c] 31)).alloc (Obj.cells #[.int .i64 0, .slice none 0 0, .int .i64 0] 33)).cell? _ = some (.int .i64 s) := HT.out.b0.cell 0; have c1 : ((w.alloc (Obj.cells #[.int .i64 s, .slice A n c] 31)).alloc (Obj.cells #[.int .i64 0, .slice none 0 0, .int .i64 0] 33)).cell? _ = some (.slice A n c) := HT.out.b0.cell 1; have f0 := HT.out.b0.frozen 0; have f1 := HT.out.b0.frozen 1; have r0 : ((w.alloc (Obj.cells #[.int .i64 s, .slice A n c] 31)).alloc (Obj.cells #[.int .i64 0, .slice none 0 0, .int .i64 0] 33)).cell? _ = some (.int .i64 0) := HT.out.b1.cell 0; have r1 : ((w.alloc (Obj.cells #[.int .i64 s, .slice A n c] 31)).alloc (Obj.cells #[.int .i64 0, .slice none 0 0, .int .i64 0] 33)).cell? _ = some (.slice none 0 0) := HT.out.b1.cell 1; have r2 : ((w.alloc (Obj.cells #[.int .i64 s, .slice A n c] 31)).alloc (Obj.cells #[.int .i64 0, .slice none 0 0, .int .i64 0] 33)).cell? _ = some (.int .i64 0) := HT.out.b1.cell 2; have g0 := HT.out.b1.frozen 0; have g1 := HT.out.b1.frozen 1; have g2 := HT.out.b1.frozen 2
  go_wp2_with (go_at_call 84; (with_reducible refine (HL.out _ (HX.out.below (bt3 (by (repeat (first | exact Below.refl _ _ | assumption | refine Below.drew ?_ | refine bdn ?_ | refine ba _ ?_ | refine bs0 _ _ ?_ ?_ | refine bs1 _ _ _ ?_ ?_ | refine bs2 _ _ _ _ ?_ ?_ | refine bs3 _ _ _ _ _ ?_ ?_ | refine bt3 (by assumption) ?_))) HT.out.bel))).mono ?_); rintro e1 w1 ⟨s1, A1, n1, c1', rfl, hO, hb⟩; replace HT := Hd.mk (HT.out.below (bt3 hb (by (repeat (first | exact Below.refl _ _ | assumption | refine Below.drew ?_ | refine bdn ?_ | refine ba _ ?_ | refine bs0 _ _ ?_ ?_ | refine bs1 _ _ _ ?_ ?_ | refine bs2 _ _ _ _ ?_ ?_ | refine bs3 _ _ _ _ _ ?_ ?_ | refine bt3 (by assumption) ?_))))); have H1 := Hd.mk (hO.mono (show w.heap.size + 1 + 1 ≤ _ from HT0.out.b1.lt)); have c0 : w1.cell? _ = some (.int .i64 s) := HT.out.b0.cell 0; have c1 : w1.cell? _ = some (.slice A n c) := HT.out.b0.cell 1; have f0 := HT.out.b0.frozen 0; have f1 := HT.out.b0.frozen 1; have r0 : w1.cell? _ = some (.int .i64 0) := HT.out.b1.cell 0; have r1 : w1.cell? _ = some (.slice none 0 0) := HT.out.b1.cell 1; have r2 : w1.cell? _ = some (.int .i64 0) := HT.out.b1.cell 2; have g0 := HT.out.b1.frozen 0; have g1 := HT.out.b1.frozen 1; have g2 := HT.out.b1.frozen 2; clear hO hb)
  clear c0 c1 f0 f1 r0 r1 r2 g0 g1 g2
  have HTP := Hd.mk (MkH.put (t := s1) (A' := A1) (m := n1) (c' := c1') HT.out); have HP := Hd.mk ((H1.out.set w.heap.size 0 (by omega) (.int .i64 s1)).set w.heap.size 1 (by omega) (.slice A1 n1 c1')); replace HT := HTP; clear HTP H1; generalize (w1.setCell ⟨w.heap.size, 0, none⟩ (.int .i64 s1)).setCell ⟨w.heap.size, 1, none⟩ (.slice A1 n1 c1') = w2 at *
  have c0 : w2.cell? _ = some (.int .i64 s1) := HT.out.b0.cell 0; have c1 : w2.cell? _ = some (.slice A1 n1 c1') := HT.out.b0.cell 1; have f0 := HT.out.b0.frozen 0; have f1 := HT.out.b0.frozen 1; have r0 : w2.cell? _ = some (.int .i64 0) := HT.out.b1.cell 0; have r1 : w2.cell? _ = some (.slice none 0 0) := HT.out.b1.cell 1; have r2 : w2.cell? _ = some (.int .i64 0) := HT.out.b1.cell 2; have g0 := HT.out.b1.frozen 0; have g1 := HT.out.b1.frozen 1; have g2 := HT.out.b1.frozen 2
  go_wp2_with (go_at_call 42; (with_reducible refine (s_DMake s1 A1 n1 c1' (a * 2) (e - 1) l _ (HP.out.wh.below (by (repeat (first | exact Below.refl _ _ | assumption | refine Below.drew ?_ | refine bdn ?_ | refine ba _ ?_ | refine bs0 _ _ ?_ ?_ | refine bs1 _ _ _ ?_ ?_ | refine bs2 _ _ _ _ ?_ ?_ | refine bs3 _ _ _ _ _ ?_ ?_ | refine bt3 (by assumption) ?_)))) HM.out.1 HM.out.2.1 HM.out.2.2.1 HM.out.2.2.2).mono ?_); rintro e4 w4 ⟨s4, A4, n4, c4, x4, rfl, hD, hb⟩; have hD := hD.mono (show w.heap.size + 1 + 1 ≤ _ from HT.out.b1.lt); replace HT := Hd.mk (HT.out.below (bt3 hb (by (repeat (first | exact Below.refl _ _ | assumption | refine Below.drew ?_ | refine bdn ?_ | refine ba _ ?_ | refine bs0 _ _ ?_ ?_ | refine bs1 _ _ _ ?_ ?_ | refine bs2 _ _ _ _ ?_ ?_ | refine bs3 _ _ _ _ _ ?_ ?_ | refine bt3 (by assumption) ?_))))); have H4 := Hd.mk hD; have c0 : w4.cell? _ = some (.int .i64 s1) := HT.out.b0.cell 0; have c1 : w4.cell? _ = some (.slice A1 n1 c1') := HT.out.b0.cell 1; have f0 := HT.out.b0.frozen 0; have f1 := HT.out.b0.frozen 1; have r0 : w4.cell? _ = some (.int .i64 0) := HT.out.b1.cell 0; have r1 : w4.cell? _ = some (.slice none 0 0) := HT.out.b1.cell 1; have r2 : w4.cell? _ = some (.int .i64 0) := HT.out.b1.cell 2; have g0 := HT.out.b1.frozen 0; have g1 := HT.out.b1.frozen 1; have g2 := HT.out.b1.frozen 2; clear hD hb)
  refine bodyPost_ret (v := .agg #[.int .i64 s4, .slice A4 n4 c4, .int .i64 x4]) (by simp (maxDischargeDepth := 7) [results, Try.results119, go_sem, *]) rfl ⟨s4, A4, n4, c4, x4, rfl, (((H4.out.set _ _ (by omega) _).set _ _ (by omega) _).set _ _ (by omega) _).mono (by omega), ?_⟩; (have hbb := HT.out.bel); (repeat (first | with_reducible exact hbb | with_reducible refine Below.setCell ?_ (show w.heap.size ≤ _ by dsimp only; omega) _ | with_reducible refine Below.drew ?_ | with_reducible refine bdn ?_ | with_reducible refine ba _ ?_))
set_option maxHeartbeats 8000000 in
theorem s_MarkT (s : Int) (A : Option Addr) (n c : Nat) (a e : Int) (l : Nat) (w : World) (hX : WhP w s A n c a) (he : -10000 ≤ e ∧ e ≤ 10000) (hl : -(l : Int) ≤ e - 1) (hls : l ≤ SC) (ha : a ≠ 0) (hb2 : Bd (a * 2)) (hb3 : Bd (a * 2 + a.sign)) (hbd : Bd (dv (a * 2 + a.sign) (e - 1))) :
    Calls Try.prog 119 #[.agg #[.int .i64 s, .slice A n c], .int .i64 e, .bool true] w (RetD (dv (a * 2 + a.sign) (e - 1)) l w) := by
  have HT := Hd.mk (MkH.start w s A n c)
  have HT0 := HT
  have HX := Hd.mk hX
  have HL := Hd.mk (fun w hX => s_LeftP s A n c a 1 w hX (by decide) (by simpa using hb2))
  simp only [Int.natCast_one, Int.pow_succ, Int.pow_zero, Int.one_mul] at HL
  have HM := Hd.mk (And.intro hl (And.intro hls (And.intro (show e - 1 ≤ 2400000 by omega) hbd)))
  have HA := Hd.mk ha
  have HB3 := Hd.mk hb3
  have he1 : -10000 ≤ e := he.1
  have he2 : e ≤ 10000 := he.2
  clear hX hb2 hbd he hl hls ha hb3
  go_enter Try.func119, Try.ntmps119
  have c0 : ((w.alloc (Obj.cells #[.int .i64 s, .slice A n c] 31)).alloc (Obj.cells #[.int .i64 0, .slice none 0 0, .int .i64 0] 33)).cell? _ = some (.int .i64 s) := HT.out.b0.cell 0; have c1 : ((w.alloc (Obj.cells #[.int .i64 s, .slice A n c] 31)).alloc (Obj.cells #[.int .i64 0, .slice none 0 0, .int .i64 0] 33)).cell? _ = some (.slice A n c) := HT.out.b0.cell 1; have f0 := HT.out.b0.frozen 0; have f1 := HT.out.b0.frozen 1; have r0 : ((w.alloc (Obj.cells #[.int .i64 s, .slice A n c] 31)).alloc (Obj.cells #[.int .i64 0, .slice none 0 0, .int .i64 0] 33)).cell? _ = some (.int .i64 0) := HT.out.b1.cell 0; have r1 : ((w.alloc (Obj.cells #[.int .i64 s, .slice A n c] 31)).alloc (Obj.cells #[.int .i64 0, .slice none 0 0, .int .i64 0] 33)).cell? _ = some (.slice none 0 0) := HT.out.b1.cell 1; have r2 : ((w.alloc (Obj.cells #[.int .i64 s, .slice A n c] 31)).alloc (Obj.cells #[.int .i64 0, .slice none 0 0, .int .i64 0] 33)).cell? _ = some (.int .i64 0) := HT.out.b1.cell 2; have g0 := HT.out.b1.frozen 0; have g1 := HT.out.b1.frozen 1; have g2 := HT.out.b1.frozen 2
  go_wp2_with (go_at_call 84; (with_reducible refine (HL.out _ (HX.out.below (bt3 (by (repeat (first | exact Below.refl _ _ | assumption | refine Below.drew ?_ | refine bdn ?_ | refine ba _ ?_ | refine bs0 _ _ ?_ ?_ | refine bs1 _ _ _ ?_ ?_ | refine bs2 _ _ _ _ ?_ ?_ | refine bs3 _ _ _ _ _ ?_ ?_ | refine bt3 (by assumption) ?_))) HT.out.bel))).mono ?_); rintro e1 w1 ⟨s1, A1, n1, c1', rfl, hO, hb⟩; replace HT := Hd.mk (HT.out.below (bt3 hb (by (repeat (first | exact Below.refl _ _ | assumption | refine Below.drew ?_ | refine bdn ?_ | refine ba _ ?_ | refine bs0 _ _ ?_ ?_ | refine bs1 _ _ _ ?_ ?_ | refine bs2 _ _ _ _ ?_ ?_ | refine bs3 _ _ _ _ _ ?_ ?_ | refine bt3 (by assumption) ?_))))); have H1 := Hd.mk (hO.mono (show w.heap.size + 1 + 1 ≤ _ from HT0.out.b1.lt)); have c0 : w1.cell? _ = some (.int .i64 s) := HT.out.b0.cell 0; have c1 : w1.cell? _ = some (.slice A n c) := HT.out.b0.cell 1; have f0 := HT.out.b0.frozen 0; have f1 := HT.out.b0.frozen 1; have r0 : w1.cell? _ = some (.int .i64 0) := HT.out.b1.cell 0; have r1 : w1.cell? _ = some (.slice none 0 0) := HT.out.b1.cell 1; have r2 : w1.cell? _ = some (.int .i64 0) := HT.out.b1.cell 2; have g0 := HT.out.b1.frozen 0; have g1 := HT.out.b1.frozen 1; have g2 := HT.out.b1.frozen 2; clear hO hb)
  clear c0 c1 f0 f1 r0 r1 r2 g0 g1 g2
  have HTP := Hd.mk (MkH.put (t := s1) (A' := A1) (m := n1) (c' := c1') HT.out); have HP := Hd.mk ((H1.out.set w.heap.size 0 (by omega) (.int .i64 s1)).set w.heap.size 1 (by omega) (.slice A1 n1 c1')); replace HT := HTP; clear HTP H1; generalize (w1.setCell ⟨w.heap.size, 0, none⟩ (.int .i64 s1)).setCell ⟨w.heap.size, 1, none⟩ (.slice A1 n1 c1') = w2 at *
  have HS1 : Hd (s1 = a.sign ∧ (-16777216 < s1 ∧ s1 < 16777216) ∧ Bd s1) := ⟨by
    have hs := HP.out.wh.sgn (show a * 2 ≠ 0 by have := HA.out; omega)
    have e2 : (a * 2).sign = a.sign := by
      rcases Int.lt_or_gt_of_ne HA.out with h | h
      · rw [Int.sign_eq_neg_one_of_neg h, Int.sign_eq_neg_one_of_neg (by omega)]
      · rw [Int.sign_eq_one_of_pos h, Int.sign_eq_one_of_pos (by omega)]
    refine ⟨by rw [← e2]; exact hs.1, by omega, bd_small1 hs.2⟩⟩
  rw [← HS1.out.1] at HB3 HM
  have c0 : w2.cell? _ = some (.int .i64 s1) := HT.out.b0.cell 0; have c1 : w2.cell? _ = some (.slice A1 n1 c1') := HT.out.b0.cell 1; have f0 := HT.out.b0.frozen 0; have f1 := HT.out.b0.frozen 1; have r0 : w2.cell? _ = some (.int .i64 0) := HT.out.b1.cell 0; have r1 : w2.cell? _ = some (.slice none 0 0) := HT.out.b1.cell 1; have r2 : w2.cell? _ = some (.int .i64 0) := HT.out.b1.cell 2; have g0 := HT.out.b1.frozen 0; have g1 := HT.out.b1.frozen 1; have g2 := HT.out.b1.frozen 2
  go_region_with (first | (go_at_call 80; (with_reducible refine (s_Of s1 _ HS1.out.2.1 HS1.out.2.2).mono ?_); rintro e5 w5 ⟨s5, A5, n5, c5, rfl, hO, hb⟩; replace HP := Hd.mk (HP.out.keep (bt3 hb (by (repeat (first | exact Below.refl _ _ | assumption | refine Below.drew ?_ | refine bdn ?_ | refine ba _ ?_ | refine bs0 _ _ ?_ ?_ | refine bs1 _ _ _ ?_ ?_ | refine bs2 _ _ _ _ ?_ ?_ | refine bs3 _ _ _ _ _ ?_ ?_ | refine bt3 (by assumption) ?_))))); replace HT := Hd.mk (HT.out.below (bt3 hb (by (repeat (first | exact Below.refl _ _ | assumption | refine Below.drew ?_ | refine bdn ?_ | refine ba _ ?_ | refine bs0 _ _ ?_ ?_ | refine bs1 _ _ _ ?_ ?_ | refine bs2 _ _ _ _ ?_ ?_ | refine bs3 _ _ _ _ _ ?_ ?_ | refine bt3 (by assumption) ?_))))); have H5 := Hd.mk hO.wh; have c0 : w5.cell? _ = some (.int .i64 s1) := HT.out.b0.cell 0; have c1 : w5.cell? _ = some (.slice A1 n1 c1') := HT.out.b0.cell 1; have f0 := HT.out.b0.frozen 0; have f1 := HT.out.b0.frozen 1; have r0 : w5.cell? _ = some (.int .i64 0) := HT.out.b1.cell 0; have r1 : w5.cell? _ = some (.slice none 0 0) := HT.out.b1.cell 1; have r2 : w5.cell? _ = some (.int .i64 0) := HT.out.b1.cell 2; have g0 := HT.out.b1.frozen 0; have g1 := HT.out.b1.frozen 1; have g2 := HT.out.b1.frozen 2; clear hO hb) | (go_at_call 88; (with_reducible refine (s_AddW s1 s5 A1 A5 n1 n5 c1' c5 (a * 2) s1 _ (HP.out.wh.below (by (repeat (first | exact Below.refl _ _ | assumption | refine Below.drew ?_ | refine bdn ?_ | refine ba _ ?_ | refine bs0 _ _ ?_ ?_ | refine bs1 _ _ _ ?_ ?_ | refine bs2 _ _ _ _ ?_ ?_ | refine bs3 _ _ _ _ _ ?_ ?_ | refine bt3 (by assumption) ?_)))) (H5.out.below (by (repeat (first | exact Below.refl _ _ | assumption | refine Below.drew ?_ | refine bdn ?_ | refine ba _ ?_ | refine bs0 _ _ ?_ ?_ | refine bs1 _ _ _ ?_ ?_ | refine bs2 _ _ _ _ ?_ ?_ | refine bs3 _ _ _ _ _ ?_ ?_ | refine bt3 (by assumption) ?_)))) HB3.out).mono ?_); rintro e6 w6 ⟨s6, A6, n6, c6, rfl, hO, hb⟩; have hO := hO.mono (show w.heap.size + 1 + 1 ≤ _ from HT.out.b1.lt); replace HT := Hd.mk (HT.out.below (bt3 hb (by (repeat (first | exact Below.refl _ _ | assumption | refine Below.drew ?_ | refine bdn ?_ | refine ba _ ?_ | refine bs0 _ _ ?_ ?_ | refine bs1 _ _ _ ?_ ?_ | refine bs2 _ _ _ _ ?_ ?_ | refine bs3 _ _ _ _ _ ?_ ?_ | refine bt3 (by assumption) ?_))))); have H6 := Hd.mk hO; have c0 : w6.cell? _ = some (.int .i64 s1) := HT.out.b0.cell 0; have c1 : w6.cell? _ = some (.slice A1 n1 c1') := HT.out.b0.cell 1; have f0 := HT.out.b0.frozen 0; have f1 := HT.out.b0.frozen 1; have r0 : w6.cell? _ = some (.int .i64 0) := HT.out.b1.cell 0; have r1 : w6.cell? _ = some (.slice none 0 0) := HT.out.b1.cell 1; have r2 : w6.cell? _ = some (.int .i64 0) := HT.out.b1.cell 2; have g0 := HT.out.b1.frozen 0; have g1 := HT.out.b1.frozen 1; have g2 := HT.out.b1.frozen 2; clear hO hb))
  all_goals go_wp2_with fail
  all_goals clear c0 c1 f0 f1 r0 r1 r2 g0 g1 g2
  all_goals (have HTP := Hd.mk (MkH.put (t := s6) (A' := A6) (m := n6) (c' := c6) HT.out); have HP := Hd.mk ((H6.out.set w.heap.size 0 (by omega) (.int .i64 s6)).set w.heap.size 1 (by omega) (.slice A6 n6 c6)); replace HT := HTP; clear HTP H6; generalize (w6.setCell ⟨w.heap.size, 0, none⟩ (.int .i64 s6)).setCell ⟨w.heap.size, 1, none⟩ (.slice A6 n6 c6) = w8 at *)
  all_goals (have c0 : w8.cell? _ = some (.int .i64 s6) := HT.out.b0.cell 0; have c1 : w8.cell? _ = some (.slice A6 n6 c6) := HT.out.b0.cell 1; have f0 := HT.out.b0.frozen 0; have f1 := HT.out.b0.frozen 1; have r0 : w8.cell? _ = some (.int .i64 0) := HT.out.b1.cell 0; have r1 : w8.cell? _ = some (.slice none 0 0) := HT.out.b1.cell 1; have r2 : w8.cell? _ = some (.int .i64 0) := HT.out.b1.cell 2; have g0 := HT.out.b1.frozen 0; have g1 := HT.out.b1.frozen 1; have g2 := HT.out.b1.frozen 2)
  all_goals go_wp2_with (go_at_call 42; (with_reducible refine (s_DMake s6 A6 n6 c6 (a * 2 + s1) (e - 1) l _ (HP.out.wh.below (by (repeat (first | exact Below.refl _ _ | assumption | refine Below.drew ?_ | refine bdn ?_ | refine ba _ ?_ | refine bs0 _ _ ?_ ?_ | refine bs1 _ _ _ ?_ ?_ | refine bs2 _ _ _ _ ?_ ?_ | refine bs3 _ _ _ _ _ ?_ ?_ | refine bt3 (by assumption) ?_)))) HM.out.1 HM.out.2.1 HM.out.2.2.1 HM.out.2.2.2).mono ?_); rintro e4 w4 ⟨s4, A4, n4, c4, x4, rfl, hD, hb⟩; have hD := hD.mono (show w.heap.size + 1 + 1 ≤ _ from HT.out.b1.lt); replace HT := Hd.mk (HT.out.below (bt3 hb (by (repeat (first | exact Below.refl _ _ | assumption | refine Below.drew ?_ | refine bdn ?_ | refine ba _ ?_ | refine bs0 _ _ ?_ ?_ | refine bs1 _ _ _ ?_ ?_ | refine bs2 _ _ _ _ ?_ ?_ | refine bs3 _ _ _ _ _ ?_ ?_ | refine bt3 (by assumption) ?_))))); have H4 := Hd.mk hD; have c0 : w4.cell? _ = some (.int .i64 s6) := HT.out.b0.cell 0; have c1 : w4.cell? _ = some (.slice A6 n6 c6) := HT.out.b0.cell 1; have f0 := HT.out.b0.frozen 0; have f1 := HT.out.b0.frozen 1; have r0 : w4.cell? _ = some (.int .i64 0) := HT.out.b1.cell 0; have r1 : w4.cell? _ = some (.slice none 0 0) := HT.out.b1.cell 1; have r2 : w4.cell? _ = some (.int .i64 0) := HT.out.b1.cell 2; have g0 := HT.out.b1.frozen 0; have g1 := HT.out.b1.frozen 1; have g2 := HT.out.b1.frozen 2; clear hD hb)
  all_goals (refine bodyPost_ret (v := .agg #[.int .i64 s4, .slice A4 n4 c4, .int .i64 x4]) (by simp (maxDischargeDepth := 7) [results, Try.results119, go_sem, *]) rfl ⟨s4, A4, n4, c4, x4, rfl, by rw [← HS1.out.1]; exact (((H4.out.set _ _ (by omega) _).set _ _ (by omega) _).set _ _ (by omega) _).mono (by omega), ?_⟩)
  all_goals (have hbb := HT.out.bel; (repeat (first | with_reducible exact hbb | with_reducible refine Below.setCell ?_ (show w.heap.size ≤ _ by dsimp only; omega) _ | with_reducible refine Below.drew ?_ | with_reducible refine bdn ?_ | with_reducible refine ba _ ?_)))
end Go.Proofs.Ytlaaielopcphiaa
