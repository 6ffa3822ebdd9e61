/- Contracts: draws of two floats and a mode. -/
import Derived.Test.YtflgjecpjaiecaaGreatY2q3
import Derived.Test.YtflgjecpjaiecaaGreatGhq3
set_option linter.unusedVariables false
set_option linter.unusedSimpArgs false
namespace Go.Proofs.YtflgjecpjaiecaaGreat
open Go.RowKit Num Flt
/-- what the draws of a code hold: the code's source -/
def RetTwo (w : World) (e : Ending) (w' : World) : Prop := ∃ x y, e = .returned (.tuple #[.float .f32 x, .float .f32 y]) ∧ W x ∧ W y ∧ Below w.heap.size w w'
/-- a source g, made behind w -/
structure SrcAt (w wx : World) (g : Nat) : Prop where
  src : Src wx g
  ge : w.heap.size ≤ g
  bel : Below w.heap.size w wx
theorem SrcAt.grown {w wx w' : World} {g : Nat} (h : SrcAt w wx g) (hs : Src w' g) (hg : wx.grownBy w' (some g)) : SrcAt w w' g := ⟨hs, h.ge, below_grown h.bel h.ge h.bel.size hg⟩
theorem SrcAt.below {w wx w' : World} {g : Nat} (h : SrcAt w wx g) (hb : Below wx.heap.size wx w') : SrcAt w w' g := ⟨h.src.below hb, h.ge, bt3 hb h.bel⟩
theorem CodeP.more' {w w' : World} {A : Option Addr} {n : Nat} {xs : List Nat} (h : CodeP w w.heap.size A n xs) (hb : Below w.heap.size w w') : CodeP w' w'.heap.size A n xs := (h.below hb).more hb.size
theorem s_StepW (x : Nat) (d : Int) (w : World) (hx : W x) (hn : ¬ nan x) (hd : -100 ≤ d ∧ d ≤ 100) : Calls Tryz.prog 182 #[.float .f32 x, .int .i64 d] w (RetFW w) := by
  refine (s_StepG x d w hx hn hd).mono fun e w' h => ?_
  obtain ⟨rfl, m, rfl⟩ := h
  exact ⟨_, rfl, W_atPn _ (by omega) (by omega), bdn (Below.refl _ _)⟩
set_option maxHeartbeats 4000000 in
theorem s_Two1 (A : Option Addr) (n c : Nat) (xs : List Nat) (w : World) (hC : CodeP w w.heap.size A n xs) :
    Calls Tryz.prog 109 #[.slice A n c] w (RetTwo w) := by
  have HC := Hd.mk hC
  clear hC
  go_enter Tryz.func109, Tryz.ntmps109
  go_upto_region 3 with (first | (go_at_call 108; (with_reducible refine (s_From A n c xs _ (HC.out.more' (by (repeat (first | exact Below.refl _ _ | assumption | refine Below.drew ?_ | refine bdn ?_ | refine ba _ ?_ | refine bs0 _ _ ?_ ?_ | refine bs1 _ _ _ ?_ ?_ | refine bs2 _ _ _ _ ?_ ?_ | refine bs3 _ _ _ _ _ ?_ ?_ | refine bt3 (by assumption) ?_))))).mono ?_); rintro e1 w1 ⟨g, rfl, hg, hs, hb⟩; have HS : Hd (SrcAt w w1 g) := ⟨hs, by (first | assumption | (simpa using hg)), bt3 hb (by (repeat (first | exact Below.refl _ _ | assumption | refine Below.drew ?_ | refine bdn ?_ | refine ba _ ?_ | refine bs0 _ _ ?_ ?_ | refine bs1 _ _ _ ?_ ?_ | refine bs2 _ _ _ _ ?_ ?_ | refine bs3 _ _ _ _ _ ?_ ?_ | refine bt3 (by assumption) ?_)))⟩; clear hg hs hb) | (go_at_call 146; (with_reducible refine (s_Spoil g _ (HS.out.below (by (repeat (first | exact Below.refl _ _ | assumption | refine Below.drew ?_ | refine bdn ?_ | refine ba _ ?_ | refine bs0 _ _ ?_ ?_ | refine bs1 _ _ _ ?_ ?_ | refine bs2 _ _ _ _ ?_ ?_ | refine bs3 _ _ _ _ _ ?_ ?_ | refine bt3 (by assumption) ?_)))).src).mono ?_); rintro e3 w3 ⟨x, rfl, hy, hs, hg⟩; have HX := Hd.mk hy; replace HS := Hd.mk ((HS.out.below (by (repeat (first | exact Below.refl _ _ | assumption | refine Below.drew ?_ | refine bdn ?_ | refine ba _ ?_ | refine bs0 _ _ ?_ ?_ | refine bs1 _ _ _ ?_ ?_ | refine bs2 _ _ _ _ ?_ ?_ | refine bs3 _ _ _ _ _ ?_ ?_ | refine bt3 (by assumption) ?_)))).grown hs hg); clear hs hg hy))
  have Q1 := Hd.mk (fun w => s_NaN x w)
  go_upto_region 4 with (go_at_call 119; (with_reducible refine (s_Next g _ _ (HS.out.below (by (repeat (first | exact Below.refl _ _ | assumption | refine Below.drew ?_ | refine bdn ?_ | refine ba _ ?_ | refine bs0 _ _ ?_ ?_ | refine bs1 _ _ _ ?_ ?_ | refine bs2 _ _ _ _ ?_ ?_ | refine bs3 _ _ _ _ _ ?_ ?_ | refine bt3 (by assumption) ?_)))).src (by omega) (by omega)).mono ?_); rintro e2 w2 ⟨k1, rfl, hk1, hs, hg⟩; replace HS := Hd.mk ((HS.out.below (by (repeat (first | exact Below.refl _ _ | assumption | refine Below.drew ?_ | refine bdn ?_ | refine ba _ ?_ | refine bs0 _ _ ?_ ?_ | refine bs1 _ _ _ ?_ ?_ | refine bs2 _ _ _ _ ?_ ?_ | refine bs3 _ _ _ _ _ ?_ ?_ | refine bt3 (by assumption) ?_)))).grown hs hg); clear hs hg)
  rcases (show k1 = 0 ∨ k1 = 1 ∨ k1 = 2 ∨ k1 = 3 ∨ k1 = 4 ∨ k1 = 5 by omega) with rfl | rfl | rfl | rfl | rfl | rfl
  · go_wp2_with fail
    go_ret2
    exact ⟨_, _, rfl, HX.out, HX.out, HS.out.bel⟩
  · go_wp2_with (go_at_call 104; (with_reducible refine (s_TurnedA x _ HX.out).mono ?_); rintro e4 w4 ⟨y, rfl, hy, hb⟩; have HY := Hd.mk hy; replace HS := Hd.mk (HS.out.below hb); clear hy hb)
    go_ret2
    exact ⟨_, _, rfl, HX.out, HY.out, HS.out.bel⟩
  · by_cases hn : nan x
    · rw [decide_eq_true hn] at Q1
      clear hn
      go_wp2_with (first | (go_at_call 181; (with_reducible refine (Q1.out _).mono ?_); rintro e w' ⟨rfl, rfl⟩) | (go_at_call 146; (with_reducible refine (s_Spoil g _ (HS.out.below (by (repeat (first | exact Below.refl _ _ | assumption | refine Below.drew ?_ | refine bdn ?_ | refine ba _ ?_ | refine bs0 _ _ ?_ ?_ | refine bs1 _ _ _ ?_ ?_ | refine bs2 _ _ _ _ ?_ ?_ | refine bs3 _ _ _ _ _ ?_ ?_ | refine bt3 (by assumption) ?_)))).src).mono ?_); rintro e3 w3 ⟨y, rfl, hy, hs, hg⟩; have HY := Hd.mk hy; replace HS := Hd.mk ((HS.out.below (by (repeat (first | exact Below.refl _ _ | assumption | refine Below.drew ?_ | refine bdn ?_ | refine ba _ ?_ | refine bs0 _ _ ?_ ?_ | refine bs1 _ _ _ ?_ ?_ | refine bs2 _ _ _ _ ?_ ?_ | refine bs3 _ _ _ _ _ ?_ ?_ | refine bt3 (by assumption) ?_)))).grown hs hg); clear hs hg hy))
      go_ret2
      exact ⟨_, _, rfl, HX.out, HY.out, HS.out.bel⟩
    · rw [decide_eq_false hn] at Q1
      have HD := Hd.mk (fun d w hd => s_StepW x d w HX.out hn hd)
      clear hn
      go_wp2_with (first | (go_at_call 181; (with_reducible refine (Q1.out _).mono ?_); rintro e w' ⟨rfl, rfl⟩) | (go_at_call 119; (with_reducible refine (s_Next g _ _ (HS.out.below (by (repeat (first | exact Below.refl _ _ | assumption | refine Below.drew ?_ | refine bdn ?_ | refine ba _ ?_ | refine bs0 _ _ ?_ ?_ | refine bs1 _ _ _ ?_ ?_ | refine bs2 _ _ _ _ ?_ ?_ | refine bs3 _ _ _ _ _ ?_ ?_ | refine bt3 (by assumption) ?_)))).src (by omega) (by omega)).mono ?_); rintro e2 w2 ⟨k1, rfl, hk1, hs, hg⟩; replace HS := Hd.mk ((HS.out.below (by (repeat (first | exact Below.refl _ _ | assumption | refine Below.drew ?_ | refine bdn ?_ | refine ba _ ?_ | refine bs0 _ _ ?_ ?_ | refine bs1 _ _ _ ?_ ?_ | refine bs2 _ _ _ _ ?_ ?_ | refine bs3 _ _ _ _ _ ?_ ?_ | refine bt3 (by assumption) ?_)))).grown hs hg); clear hs hg) | (go_at_call 182; (with_reducible refine (HD.out _ _ (by omega)).mono ?_); rintro e4 w4 ⟨y, rfl, hy, hb⟩; have HY := Hd.mk hy; replace HS := Hd.mk (HS.out.below hb); clear hy hb))
      go_ret2
      exact ⟨_, _, rfl, HX.out, HY.out, HS.out.bel⟩
  · go_wp2_with (go_at_call 146; (with_reducible refine (s_Spoil g _ (HS.out.below (by (repeat (first | exact Below.refl _ _ | assumption | refine Below.drew ?_ | refine bdn ?_ | refine ba _ ?_ | refine bs0 _ _ ?_ ?_ | refine bs1 _ _ _ ?_ ?_ | refine bs2 _ _ _ _ ?_ ?_ | refine bs3 _ _ _ _ _ ?_ ?_ | refine bt3 (by assumption) ?_)))).src).mono ?_); rintro e3 w3 ⟨y, rfl, hy, hs, hg⟩; have HY := Hd.mk hy; replace HS := Hd.mk ((HS.out.below (by (repeat (first | exact Below.refl _ _ | assumption | refine Below.drew ?_ | refine bdn ?_ | refine ba _ ?_ | refine bs0 _ _ ?_ ?_ | refine bs1 _ _ _ ?_ ?_ | refine bs2 _ _ _ _ ?_ ?_ | refine bs3 _ _ _ _ _ ?_ ?_ | refine bt3 (by assumption) ?_)))).grown hs hg); clear hs hg hy)
    go_ret2
    exact ⟨_, _, rfl, HX.out, HY.out, HS.out.bel⟩
  · go_wp2_with (go_at_call 146; (with_reducible refine (s_Spoil g _ (HS.out.below (by (repeat (first | exact Below.refl _ _ | assumption | refine Below.drew ?_ | refine bdn ?_ | refine ba _ ?_ | refine bs0 _ _ ?_ ?_ | refine bs1 _ _ _ ?_ ?_ | refine bs2 _ _ _ _ ?_ ?_ | refine bs3 _ _ _ _ _ ?_ ?_ | refine bt3 (by assumption) ?_)))).src).mono ?_); rintro e3 w3 ⟨y, rfl, hy, hs, hg⟩; have HY := Hd.mk hy; replace HS := Hd.mk ((HS.out.below (by (repeat (first | exact Below.refl _ _ | assumption | refine Below.drew ?_ | refine bdn ?_ | refine ba _ ?_ | refine bs0 _ _ ?_ ?_ | refine bs1 _ _ _ ?_ ?_ | refine bs2 _ _ _ _ ?_ ?_ | refine bs3 _ _ _ _ _ ?_ ?_ | refine bt3 (by assumption) ?_)))).grown hs hg); clear hs hg hy)
    go_ret2
    exact ⟨_, _, rfl, HX.out, HY.out, HS.out.bel⟩
  · go_wp2_with (go_at_call 146; (with_reducible refine (s_Spoil g _ (HS.out.below (by (repeat (first | exact Below.refl _ _ | assumption | refine Below.drew ?_ | refine bdn ?_ | refine ba _ ?_ | refine bs0 _ _ ?_ ?_ | refine bs1 _ _ _ ?_ ?_ | refine bs2 _ _ _ _ ?_ ?_ | refine bs3 _ _ _ _ _ ?_ ?_ | refine bt3 (by assumption) ?_)))).src).mono ?_); rintro e3 w3 ⟨y, rfl, hy, hs, hg⟩; have HY := Hd.mk hy; replace HS := Hd.mk ((HS.out.below (by (repeat (first | exact Below.refl _ _ | assumption | refine Below.drew ?_ | refine bdn ?_ | refine ba _ ?_ | refine bs0 _ _ ?_ ?_ | refine bs1 _ _ _ ?_ ?_ | refine bs2 _ _ _ _ ?_ ?_ | refine bs3 _ _ _ _ _ ?_ ?_ | refine bt3 (by assumption) ?_)))).grown hs hg); clear hs hg hy)
    go_ret2
    exact ⟨_, _, rfl, HX.out, HY.out, HS.out.bel⟩
/-- two floats and a number -/
def RetD4 (w : World) (e : Ending) (w' : World) : Prop := ∃ x y m, e = .returned (.tuple #[.float .f32 x, .float .f32 y, .int .i64 m]) ∧ W x ∧ W y ∧ Below w.heap.size w w'
set_option maxHeartbeats 4000000 in
theorem s_Draw4 (A : Option Addr) (n c : Nat) (xs : List Nat) (w : World) (hC : CodeP w w.heap.size A n xs) :
    Calls Tryz.prog 101 #[.slice A n c] w (RetD4 w) := by
  have HC := Hd.mk hC
  clear hC
  go_enter Tryz.func101, Tryz.ntmps101
  go_wp2_with (first | (go_at_call 108; (with_reducible refine (s_From A n c xs _ (HC.out.more' (by (repeat (first | exact Below.refl _ _ | assumption | refine Below.drew ?_ | refine bdn ?_ | refine ba _ ?_ | refine bs0 _ _ ?_ ?_ | refine bs1 _ _ _ ?_ ?_ | refine bs2 _ _ _ _ ?_ ?_ | refine bs3 _ _ _ _ _ ?_ ?_ | refine bt3 (by assumption) ?_))))).mono ?_); rintro e1 w1 ⟨g, rfl, hg, hs, hb⟩; have HS : Hd (SrcAt w w1 g) := ⟨hs, by (first | assumption | (simpa using hg)), bt3 hb (by (repeat (first | exact Below.refl _ _ | assumption | refine Below.drew ?_ | refine bdn ?_ | refine ba _ ?_ | refine bs0 _ _ ?_ ?_ | refine bs1 _ _ _ ?_ ?_ | refine bs2 _ _ _ _ ?_ ?_ | refine bs3 _ _ _ _ _ ?_ ?_ | refine bt3 (by assumption) ?_)))⟩; have hq1 : Below w.heap.size w w1 := HS.out.bel; clear hg hs hb) | (go_at_call 109; (with_reducible refine (s_Two1 A n c xs _ (HC.out.more' (by (repeat (first | exact Below.refl _ _ | assumption | refine Below.drew ?_ | refine bdn ?_ | refine ba _ ?_ | refine bs0 _ _ ?_ ?_ | refine bs1 _ _ _ ?_ ?_ | refine bs2 _ _ _ _ ?_ ?_ | refine bs3 _ _ _ _ _ ?_ ?_ | refine bt3 (by assumption) ?_))))).mono ?_); rintro e3 w3 ⟨x, y, rfl, hx, hy, hb⟩; have HX := Hd.mk (And.intro hx hy); replace HS := Hd.mk (HS.out.below (bt3 hb (by (repeat (first | exact Below.refl _ _ | assumption | refine Below.drew ?_ | refine bdn ?_ | refine ba _ ?_ | refine bs0 _ _ ?_ ?_ | refine bs1 _ _ _ ?_ ?_ | refine bs2 _ _ _ _ ?_ ?_ | refine bs3 _ _ _ _ _ ?_ ?_ | refine bt3 (by assumption) ?_))))); have hq3 : Below w.heap.size w w3 := HS.out.bel; clear hx hy hb) | (go_at_call 110; refine (s_Pick g _ _ _ [(0 : Int), 1, 2, 3, 4, 0, 1, 2, 3, 4, 5, -1] _ (HS.out.below (by (repeat (first | exact Below.refl _ _ | assumption | refine Below.drew ?_ | refine bdn ?_ | refine ba _ ?_ | refine bs0 _ _ ?_ ?_ | refine bs1 _ _ _ ?_ ?_ | refine bs2 _ _ _ _ ?_ ?_ | refine bs3 _ _ _ _ _ ?_ ?_ | refine bt3 (by assumption) ?_)))).src (Blk.new _ _ _) rfl (by decide) (by decide) (by have := HS.out.src.lt; omega)).mono ?_; rintro e4 w4 ⟨k2, hk2, rfl, hs, hg⟩; replace HS := Hd.mk ((HS.out.below (by (repeat (first | exact Below.refl _ _ | assumption | refine Below.drew ?_ | refine bdn ?_ | refine ba _ ?_ | refine bs0 _ _ ?_ ?_ | refine bs1 _ _ _ ?_ ?_ | refine bs2 _ _ _ _ ?_ ?_ | refine bs3 _ _ _ _ _ ?_ ?_ | refine bt3 (by assumption) ?_)))).grown hs hg); clear hs hg hk2; generalize List.getD [(0 : Int), 1, 2, 3, 4, 0, 1, 2, 3, 4, 5, -1] k2 0 = m at *))
  refine bodyPost_ret (v := .tuple #[.float .f32 x, .float .f32 y, .int .i64 m]) (by simp (maxDischargeDepth := 7) [results, Tryz.results101, go_sem]) rfl ⟨_, _, _, rfl, HX.out.1, HX.out.2, HS.out.bel⟩
set_option maxHeartbeats 4000000 in
theorem s_DrawSpread (A : Option Addr) (n c : Nat) (xs : List Nat) (w : World) (hC : CodeP w w.heap.size A n xs) :
    Calls Tryz.prog 41 #[.slice A n c] w (RetD4 w) := by
  have HC := Hd.mk hC
  clear hC
  go_enter Tryz.func41, Tryz.ntmps41
  go_wp2_with (first | (go_at_call 108; (with_reducible refine (s_From A n c xs _ (HC.out.more' (by (repeat (first | exact Below.refl _ _ | assumption | refine Below.drew ?_ | refine bdn ?_ | refine ba _ ?_ | refine bs0 _ _ ?_ ?_ | refine bs1 _ _ _ ?_ ?_ | refine bs2 _ _ _ _ ?_ ?_ | refine bs3 _ _ _ _ _ ?_ ?_ | refine bt3 (by assumption) ?_))))).mono ?_); rintro e1 w1 ⟨g, rfl, hg, hs, hb⟩; have HS : Hd (SrcAt w w1 g) := ⟨hs, by (first | assumption | (simpa using hg)), bt3 hb (by (repeat (first | exact Below.refl _ _ | assumption | refine Below.drew ?_ | refine bdn ?_ | refine ba _ ?_ | refine bs0 _ _ ?_ ?_ | refine bs1 _ _ _ ?_ ?_ | refine bs2 _ _ _ _ ?_ ?_ | refine bs3 _ _ _ _ _ ?_ ?_ | refine bt3 (by assumption) ?_)))⟩; have hq1 : Below w.heap.size w w1 := HS.out.bel; clear hg hs hb) | (go_at_call 109; (with_reducible refine (s_Two1 A n c xs _ (HC.out.more' (by (repeat (first | exact Below.refl _ _ | assumption | refine Below.drew ?_ | refine bdn ?_ | refine ba _ ?_ | refine bs0 _ _ ?_ ?_ | refine bs1 _ _ _ ?_ ?_ | refine bs2 _ _ _ _ ?_ ?_ | refine bs3 _ _ _ _ _ ?_ ?_ | refine bt3 (by assumption) ?_))))).mono ?_); rintro e3 w3 ⟨x, y, rfl, hx, hy, hb⟩; have HX := Hd.mk (And.intro hx hy); replace HS := Hd.mk (HS.out.below (bt3 hb (by (repeat (first | exact Below.refl _ _ | assumption | refine Below.drew ?_ | refine bdn ?_ | refine ba _ ?_ | refine bs0 _ _ ?_ ?_ | refine bs1 _ _ _ ?_ ?_ | refine bs2 _ _ _ _ ?_ ?_ | refine bs3 _ _ _ _ _ ?_ ?_ | refine bt3 (by assumption) ?_))))); have hq3 : Below w.heap.size w w3 := HS.out.bel; clear hx hy hb) | (go_at_call 110; refine (s_Pick g _ _ _ [(0 : Int), 1, 2, 3, 0, 1, 2, 3, 4] _ (HS.out.below (by (repeat (first | exact Below.refl _ _ | assumption | refine Below.drew ?_ | refine bdn ?_ | refine ba _ ?_ | refine bs0 _ _ ?_ ?_ | refine bs1 _ _ _ ?_ ?_ | refine bs2 _ _ _ _ ?_ ?_ | refine bs3 _ _ _ _ _ ?_ ?_ | refine bt3 (by assumption) ?_)))).src (Blk.new _ _ _) rfl (by decide) (by decide) (by have := HS.out.src.lt; omega)).mono ?_; rintro e4 w4 ⟨k2, hk2, rfl, hs, hg⟩; replace HS := Hd.mk ((HS.out.below (by (repeat (first | exact Below.refl _ _ | assumption | refine Below.drew ?_ | refine bdn ?_ | refine ba _ ?_ | refine bs0 _ _ ?_ ?_ | refine bs1 _ _ _ ?_ ?_ | refine bs2 _ _ _ _ ?_ ?_ | refine bs3 _ _ _ _ _ ?_ ?_ | refine bt3 (by assumption) ?_)))).grown hs hg); clear hs hg hk2; generalize List.getD [(0 : Int), 1, 2, 3, 0, 1, 2, 3, 4] k2 0 = m at *))
  refine bodyPost_ret (v := .tuple #[.float .f32 x, .float .f32 y, .int .i64 m]) (by simp (maxDischargeDepth := 7) [results, Tryz.results41, go_sem]) rfl ⟨_, _, _, rfl, HX.out.1, HX.out.2, HS.out.bel⟩
set_option maxHeartbeats 4000000 in
theorem s_DrawMul (A : Option Addr) (n c : Nat) (xs : List Nat) (w : World) (hC : CodeP w w.heap.size A n xs) : Calls Tryz.prog 35 #[.slice A n c] w (RetD4 w) := by
  have HC := Hd.mk hC; clear hC; (go_enter Tryz.func35, Tryz.ntmps35); (go_wp2_with (go_at_call 101; (with_reducible refine (s_Draw4 A n c xs _ HC.out).mono ?_); rintro e3 w3 ⟨x, y, m, rfl, hx, hy, hb⟩; have HX := Hd.mk (And.intro hx (And.intro hy hb)); clear hx hy hb)); refine bodyPost_ret (v := .tuple #[.float .f32 x, .float .f32 y, .int .i64 m]) (by simp (maxDischargeDepth := 7) [results, Tryz.results35, go_sem]) rfl ⟨_, _, _, rfl, HX.out.1, HX.out.2.1, HX.out.2.2⟩
set_option maxHeartbeats 4000000 in
theorem s_DrawDiv (A : Option Addr) (n c : Nat) (xs : List Nat) (w : World) (hC : CodeP w w.heap.size A n xs) : Calls Tryz.prog 38 #[.slice A n c] w (RetD4 w) := by
  have HC := Hd.mk hC; clear hC; (go_enter Tryz.func38, Tryz.ntmps38); (go_wp2_with (go_at_call 101; (with_reducible refine (s_Draw4 A n c xs _ HC.out).mono ?_); rintro e3 w3 ⟨x, y, m, rfl, hx, hy, hb⟩; have HX := Hd.mk (And.intro hx (And.intro hy hb)); clear hx hy hb)); refine bodyPost_ret (v := .tuple #[.float .f32 x, .float .f32 y, .int .i64 m]) (by simp (maxDischargeDepth := 7) [results, Tryz.results38, go_sem]) rfl ⟨_, _, _, rfl, HX.out.1, HX.out.2.1, HX.out.2.2⟩
end Go.Proofs.YtflgjecpjaiecaaGreat
