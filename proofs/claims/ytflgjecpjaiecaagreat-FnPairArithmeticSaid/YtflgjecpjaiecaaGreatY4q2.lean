/- Contracts: draws of pairs. -/
import Derived.Test.YtflgjecpjaiecaaGreatY3q2
import Derived.Test.YtflgjecpjaiecaaGreatGuq2
set_option linter.unusedVariables false
set_option linter.unusedSimpArgs false
namespace Go.Proofs.YtflgjecpjaiecaaGreat
open Go.RowKit Num Flt
/-- a sum of which one is not finite is not finite -/
theorem add_nofin {x y s : Nat} (h : ¬ (fin x ∧ fin y)) (hs : floatBits .add .f32 x y = some s) : ¬ fin s := by
  have hs' : Ieee.single.add x y = some s := hs
  unfold Ieee.Format.add at hs'
  by_cases nx : nan x
  · obtain ⟨a, b, e⟩ := read_nanD nx
    rw [e] at hs'
    simp [Ieee.Datum.sum] at hs'
  · by_cases ny : nan y
    · obtain ⟨a, b, e⟩ := read_nanD ny
      rw [e] at hs'
      cases hr : Ieee.single.read x <;> rw [hr] at hs' <;> simp [Ieee.Datum.sum] at hs'
    · rcases read_or nx with ⟨fx, a, b, c, e1⟩ | ⟨fx, a, e1⟩
      · rcases read_or ny with ⟨fy, _⟩ | ⟨fy, b', e2⟩
        · exact absurd ⟨fx, fy⟩ h
        · rw [e1, e2] at hs'
          simp [Ieee.Datum.sum] at hs'
          rw [← hs']; exact (word_inf b').2.2
      · rcases read_or ny with ⟨fy, a', b', c', e2⟩ | ⟨fy, b', e2⟩
        · rw [e1, e2] at hs'
          simp [Ieee.Datum.sum] at hs'
          rw [← hs']; exact (word_inf a).2.2
        · rw [e1, e2] at hs'
          by_cases k : a = b'
          · simp [Ieee.Datum.sum, k] at hs'
            rw [← hs']; exact (word_inf b').2.2
          · simp [Ieee.Datum.sum, k] at hs'
set_option maxHeartbeats 4000000 in
theorem s_SumGN (x y : Nat) (w : World) (h : ¬ (fin x ∧ fin y)) :
    Calls Tryz.prog 126 #[.float .f32 x, .float .f32 y] w (RetV (.tuple #[.agg #[.float .f32 0, .float .f32 0], .bool false]) w) := by
  cases hb : floatBits .add .f32 x y with
  | none =>
    have k := fun w => run_float_nan (P := Tryz.prog) w .add (by simp) 22 .f32 x y hb
    have p1 : ∀ t, decide (fin ((Question.nanBits .f32 x y).cut t)) = false := fun t => decide_eq_false (fun k => by have := nan_cut x y t; unfold fin at k; unfold nan at this; omega)
    clear h hb
    go_enter Tryz.func126, Tryz.ntmps126
    go_wp2_with (go_at_call 125; (with_reducible refine (s_Finite _ _).mono ?_); rintro e w' ⟨rfl, ⟨nd, rfl⟩⟩)
    refine bodyPost_ret (v := .tuple #[.agg #[.float .f32 0, .float .f32 0], .bool false]) (by simp (maxDischargeDepth := 7) [results, Tryz.results126, go_sem, *]) rfl ⟨rfl, ?_⟩
    (repeat (first | exact Below.refl _ _ | assumption | refine Below.drew ?_ | refine bdn ?_ | refine ba _ ?_ | refine bs0 _ _ ?_ ?_ | refine bs1 _ _ _ ?_ ?_ | refine bs2 _ _ _ _ ?_ ?_ | refine bs3 _ _ _ _ _ ?_ ?_ | refine bt3 (by assumption) ?_))
  | some s =>
    have k := fun w => run_float_arith (P := Tryz.prog) w .add 22 .f32 x y s hb
    have p1 : decide (fin s) = false := decide_eq_false (add_nofin h hb)
    clear h hb
    go_enter Tryz.func126, Tryz.ntmps126
    go_wp2_with (go_at_call 125; (with_reducible refine (s_Finite s _).mono ?_); rintro e w' ⟨rfl, ⟨nd, rfl⟩⟩)
    refine bodyPost_ret (v := .tuple #[.agg #[.float .f32 0, .float .f32 0], .bool false]) (by simp (maxDischargeDepth := 7) [results, Tryz.results126, go_sem, *]) rfl ⟨rfl, ?_⟩
    (repeat (first | exact Below.refl _ _ | assumption | refine Below.drew ?_ | refine bdn ?_ | refine ba _ ?_ | refine bs0 _ _ ?_ ?_ | refine bs1 _ _ _ ?_ ?_ | refine bs2 _ _ _ _ ?_ ?_ | refine bs3 _ _ _ _ _ ?_ ?_ | refine bt3 (by assumption) ?_))
/-- a sum of any two floats -/
def RetPk2 (w : World) (e : Ending) (w' : World) : Prop := ∃ h l k, e = .returned (.tuple #[.agg #[.float .f32 h, .float .f32 l], .bool k]) ∧ W h ∧ W l ∧ Below w.heap.size w w'
theorem s_SumW (x y : Nat) (w : World) (hx : W x) (hy : W y) : Calls Tryz.prog 126 #[.float .f32 x, .float .f32 y] w (RetPk2 w) := by
  have w0 : W 0 := by unfold W; decide
  by_cases h : fin x ∧ fin y
  · refine (s_SumA x y w hx hy h.1 h.2).mono fun e w' k => ?_
    obtain ⟨rfl, hb⟩ := k
    refine ⟨_, _, _, rfl, ?_, ?_, hb⟩
    · unfold suH; split
      · exact addW_W x y
      · exact w0
    · unfold suL; split
      · exact (nrF_num _).1
      · exact w0
  · refine (s_SumGN x y w h).mono fun e w' k => ?_
    obtain ⟨rfl, hb⟩ := k
    exact ⟨_, _, _, rfl, w0, w0, hb⟩
/-! what a call with a source keeps -/
theorem Src.setFar {w : World} {g : Nat} (h : Src w g) {p : Addr} (hp : g < p.block) (u : Value) : Src (w.setCell p u) g := by
  obtain ⟨A, n, c, xs, a, hh, h⟩ := h
  exact ⟨A, n, c, xs, a, hh, h.blk.far (by omega) u, h.code.set (by omega) u, h.at1⟩
theorem grown_set {w w1 : World} {r : Option Nat} (h : w.grownBy w1 r) {p : Addr} (hp : w.heap.size ≤ p.block) (u : Value) : w.grownBy (w1.setCell p u) r :=
  ⟨h.os, h.tape, h.output, by simpa using h.size, fun i hi hne => (Below.heap_setCell w1 _ _ i (by omega)).trans (h.block i hi hne)⟩
structure DpH (w wk : World) (g : Nat) : Prop where
  src : Src wk g
  gr : w.grownBy wk (some g)
  b2 : Blk wk w.heap.size 30 #[.float .f32 0, .float .f32 0]
  gl : g < w.heap.size
theorem DpH.start {w : World} {g : Nat} (h : Src w g) : DpH w (w.alloc (Obj.cells #[.float .f32 0, .float .f32 0] 30)) g :=
  ⟨h.below (ba _ (Below.refl _ _)), gbelow _ (ba _ (Below.refl _ _)), Blk.new _ _ _, h.lt⟩
theorem DpH.next {w wk w' : World} {g : Nat} (h : DpH w wk g) (hs : Src w' g) (hg : wk.grownBy w' (some g)) : DpH w w' g :=
  ⟨hs, gtrans h.gr hg, h.b2.grown hg (by have := h.gl; intro e; injection e with e; omega), h.gl⟩
theorem DpH.below {w wk w' : World} {g : Nat} (h : DpH w wk g) (hb : Below wk.heap.size wk w') : DpH w w' g := h.next (h.src.below hb) (gbelow _ hb)
theorem DpH.fin {w wk : World} {g : Nat} (h : DpH w wk g) (u v : Value) : Src ((wk.setCell ⟨w.heap.size, 0, none⟩ u).setCell ⟨w.heap.size, 1, none⟩ v) g ∧ w.grownBy ((wk.setCell ⟨w.heap.size, 0, none⟩ u).setCell ⟨w.heap.size, 1, none⟩ v) (some g) :=
  ⟨(h.src.setFar (p := ⟨w.heap.size, 0, none⟩) h.gl u).setFar (p := ⟨w.heap.size, 1, none⟩) h.gl v, grown_set (grown_set h.gr (Nat.le_refl _) u) (Nat.le_refl _) v⟩
def RetPG (g : Nat) (w : World) (e : Ending) (w' : World) : Prop := ∃ h l, e = .returned (.agg #[.float .f32 h, .float .f32 l]) ∧ W h ∧ W l ∧ Src w' g ∧ w.grownBy w' (some g)
set_option maxRecDepth 20000 in
set_option maxHeartbeats 20000000 in
theorem s_DrawP (g : Nat) (w : World) (hS : Src w g) : Calls Tryz.prog 118 #[.pointer (some ⟨g, 0, none⟩)] w (RetPG g w) := by
  have HS := Hd.mk (DpH.start hS)
  obtain ⟨rm, nm, km, hm⟩ := fop_all .mul (by simp) 22
  obtain ⟨rq, nq, kq, hq⟩ := fop_all .quo (by simp) 22
  have HM := Hd.mk (And.intro hm hq)
  have HW := Hd.mk (And.intro (show W 0 by unfold W; decide) (show W 1065353216 by unfold W; decide))
  clear hS hm hq
  go_enter Tryz.func118, Tryz.ntmps118
  go_upto_region 3 with (first | (go_at_call 201; (with_reducible refine (s_Draw g _ HS.out.src).mono ?_); rintro e1 w1 ⟨x, rfl, hy, hs, hg⟩; have HX := Hd.mk hy; replace HS := Hd.mk (HS.out.next hs hg); have r0 : w1.cell? _ = some (.float .f32 0) := HS.out.b2.cell 0; have r1 : w1.cell? _ = some (.float .f32 0) := HS.out.b2.cell 1; have q0 := HS.out.b2.frozen 0; have q1 := HS.out.b2.frozen 1; have z0 : w.heap.size < w1.heap.size := HS.out.b2.lt; clear hs hg hy) | (go_at_call 119; (with_reducible refine (s_Next g _ _ HS.out.src (by omega) (by omega)).mono ?_); rintro e2 w2 ⟨k1, rfl, hk1, hs, hg⟩; replace HS := Hd.mk (HS.out.next hs hg); have r0 : w2.cell? _ = some (.float .f32 0) := HS.out.b2.cell 0; have r1 : w2.cell? _ = some (.float .f32 0) := HS.out.b2.cell 1; have q0 := HS.out.b2.frozen 0; have q1 := HS.out.b2.frozen 1; have z0 : w.heap.size < w2.heap.size := HS.out.b2.lt; clear hs hg))
  by_cases h0 : k1 = 0
  · subst h0
    go_wp2_with (go_at_call 146; (with_reducible refine (s_Spoil g _ HS.out.src).mono ?_); rintro e3 w3 ⟨y, rfl, hy, hs, hg⟩; have HY := Hd.mk hy; replace HS := Hd.mk (HS.out.next hs hg); have r0 : w3.cell? _ = some (.float .f32 0) := HS.out.b2.cell 0; have r1 : w3.cell? _ = some (.float .f32 0) := HS.out.b2.cell 1; have q0 := HS.out.b2.frozen 0; have q1 := HS.out.b2.frozen 1; have z0 : w.heap.size < w3.heap.size := HS.out.b2.lt; clear hs hg hy)
    refine bodyPost_ret (v := .agg #[.float .f32 (x), .float .f32 (y)]) (by simp (maxDischargeDepth := 7) [results, Tryz.results118, go_sem, *]) rfl ⟨_, _, rfl, HX.out, HY.out, ((HS.out.below (by (repeat (first | exact Below.refl _ _ | assumption | refine Below.drew ?_ | refine bdn ?_ | refine ba _ ?_ | refine bs0 _ _ ?_ ?_ | refine bs1 _ _ _ ?_ ?_ | refine bs2 _ _ _ _ ?_ ?_ | refine bs3 _ _ _ _ _ ?_ ?_ | refine bt3 (by assumption) ?_)))).fin _ _).1, ((HS.out.below (by (repeat (first | exact Below.refl _ _ | assumption | refine Below.drew ?_ | refine bdn ?_ | refine ba _ ?_ | refine bs0 _ _ ?_ ?_ | refine bs1 _ _ _ ?_ ?_ | refine bs2 _ _ _ _ ?_ ?_ | refine bs3 _ _ _ _ _ ?_ ?_ | refine bt3 (by assumption) ?_)))).fin _ _).2⟩
  · by_cases h1 : k1 = 1
    · subst h1
      go_wp2_with fail
      refine bodyPost_ret (v := .agg #[.float .f32 (x), .float .f32 (0)]) (by simp (maxDischargeDepth := 7) [results, Tryz.results118, go_sem, *]) rfl ⟨_, _, rfl, HX.out, HW.out.1, ((HS.out.below (by (repeat (first | exact Below.refl _ _ | assumption | refine Below.drew ?_ | refine bdn ?_ | refine ba _ ?_ | refine bs0 _ _ ?_ ?_ | refine bs1 _ _ _ ?_ ?_ | refine bs2 _ _ _ _ ?_ ?_ | refine bs3 _ _ _ _ _ ?_ ?_ | refine bt3 (by assumption) ?_)))).fin _ _).1, ((HS.out.below (by (repeat (first | exact Below.refl _ _ | assumption | refine Below.drew ?_ | refine bdn ?_ | refine ba _ ?_ | refine bs0 _ _ ?_ ?_ | refine bs1 _ _ _ ?_ ?_ | refine bs2 _ _ _ _ ?_ ?_ | refine bs3 _ _ _ _ _ ?_ ?_ | refine bt3 (by assumption) ?_)))).fin _ _).2⟩
    · have e0 : ((k1 : Int) == 0) = false := by simpa using h0
      have e1 : ((k1 : Int) == 1) = false := by simpa using (show (k1 : Int) ≠ 1 by omega)
      clear h0 h1
      go_upto_if 32 with (first | (go_at_call 119; (with_reducible refine (s_Next g _ _ HS.out.src (by omega) (by omega)).mono ?_); rintro e2 w2 ⟨k1, rfl, hk1, hs, hg⟩; replace HS := Hd.mk (HS.out.next hs hg); have r0 : w2.cell? _ = some (.float .f32 0) := HS.out.b2.cell 0; have r1 : w2.cell? _ = some (.float .f32 0) := HS.out.b2.cell 1; have q0 := HS.out.b2.frozen 0; have q1 := HS.out.b2.frozen 1; have z0 : w.heap.size < w2.heap.size := HS.out.b2.lt; clear hs hg) | (go_at_call 126; (with_reducible refine (s_SumW x _ _ HX.out (HM.out.2 _ _ _)).mono ?_); rintro e4 w4 ⟨h, l, k, rfl, hh, hl, hb⟩; have HP := Hd.mk (And.intro hh hl); replace HS := Hd.mk (HS.out.below (bt3 hb (by (repeat (first | exact Below.refl _ _ | assumption | refine Below.drew ?_ | refine bdn ?_ | refine ba _ ?_ | refine bs0 _ _ ?_ ?_ | refine bs1 _ _ _ ?_ ?_ | refine bs2 _ _ _ _ ?_ ?_ | refine bs3 _ _ _ _ _ ?_ ?_ | refine bt3 (by assumption) ?_))))); have r0 : w4.cell? _ = some (.float .f32 0) := HS.out.b2.cell 0; have r1 : w4.cell? _ = some (.float .f32 0) := HS.out.b2.cell 1; have q0 := HS.out.b2.frozen 0; have q1 := HS.out.b2.frozen 1; have z0 : w.heap.size < w4.heap.size := HS.out.b2.lt; clear hb hh hl))
      cases k
      · go_wp2_with (go_at_call 119; (with_reducible refine (s_Next g _ _ (HS.out.below (by (repeat (first | exact Below.refl _ _ | assumption | refine Below.drew ?_ | refine bdn ?_ | refine ba _ ?_ | refine bs0 _ _ ?_ ?_ | refine bs1 _ _ _ ?_ ?_ | refine bs2 _ _ _ _ ?_ ?_ | refine bs3 _ _ _ _ _ ?_ ?_ | refine bt3 (by assumption) ?_)))).src (by omega) (by omega)).mono ?_); rintro e5 w5 ⟨k2, rfl, hk2, hs, hg⟩; replace HS := Hd.mk ((HS.out.below (by (repeat (first | exact Below.refl _ _ | assumption | refine Below.drew ?_ | refine bdn ?_ | refine ba _ ?_ | refine bs0 _ _ ?_ ?_ | refine bs1 _ _ _ ?_ ?_ | refine bs2 _ _ _ _ ?_ ?_ | refine bs3 _ _ _ _ _ ?_ ?_ | refine bt3 (by assumption) ?_)))).next hs hg); have r0 : w5.cell? _ = some (.float .f32 0) := HS.out.b2.cell 0; have r1 : w5.cell? _ = some (.float .f32 0) := HS.out.b2.cell 1; have q0 := HS.out.b2.frozen 0; have q1 := HS.out.b2.frozen 1; have z0 : w.heap.size < w5.heap.size := HS.out.b2.lt; clear hs hg)
        refine bodyPost_ret (v := .agg #[.float .f32 (1065353216), .float .f32 (rq (floatOfInt .f32 (k2 : Int)) 1400897536 w5)]) (by simp (maxDischargeDepth := 7) [results, Tryz.results118, go_sem, *]) rfl ⟨_, _, rfl, HW.out.2, HM.out.2 _ _ _, ((HS.out.below (by (repeat (first | exact Below.refl _ _ | assumption | refine Below.drew ?_ | refine bdn ?_ | refine ba _ ?_ | refine bs0 _ _ ?_ ?_ | refine bs1 _ _ _ ?_ ?_ | refine bs2 _ _ _ _ ?_ ?_ | refine bs3 _ _ _ _ _ ?_ ?_ | refine bt3 (by assumption) ?_)))).fin _ _).1, ((HS.out.below (by (repeat (first | exact Below.refl _ _ | assumption | refine Below.drew ?_ | refine bdn ?_ | refine ba _ ?_ | refine bs0 _ _ ?_ ?_ | refine bs1 _ _ _ ?_ ?_ | refine bs2 _ _ _ _ ?_ ?_ | refine bs3 _ _ _ _ _ ?_ ?_ | refine bt3 (by assumption) ?_)))).fin _ _).2⟩
      · go_wp2_with fail
        refine bodyPost_ret (v := .agg #[.float .f32 h, .float .f32 l]) (by simp (maxDischargeDepth := 7) [results, Tryz.results118, go_sem, *]) rfl ⟨_, _, rfl, HP.out.1, HP.out.2, (HS.out.fin _ _).1.below (ba _ (Below.refl _ _)), gtrans (HS.out.fin _ _).2 (gbelow _ (ba _ (Below.refl _ _)))⟩
/-- two pairs -/
def RetPP (w : World) (e : Ending) (w' : World) : Prop := ∃ a b c d, e = .returned (.tuple #[.agg #[.float .f32 a, .float .f32 b], .agg #[.float .f32 c, .float .f32 d]]) ∧ W a ∧ W b ∧ W c ∧ W d ∧ Below w.heap.size w w'
abbrev Wz2 (w : World) : World := (w.alloc (Obj.cells #[.float .f32 0, .float .f32 0] 30)).alloc (Obj.cells #[.float .f32 0, .float .f32 0] 30)
structure DaH (w wk : World) (g : Nat) : Prop where
  src : Src wk g
  bel : Below w.heap.size w wk
  b2 : Blk wk w.heap.size 30 #[.float .f32 0, .float .f32 0]
  b3 : Blk wk (w.heap.size + 1) 30 #[.float .f32 0, .float .f32 0]
  gg : w.heap.size + 1 < g
theorem DaH.start {w w1 : World} {g : Nat} (hs : Src w1 g) (hg : (Wz2 w).heap.size ≤ g) (hb : Below (Wz2 w).heap.size (Wz2 w) w1) : DaH w w1 g := by
  have h2 : Blk (Wz2 w) w.heap.size 30 #[.float .f32 0, .float .f32 0] := (Blk.new _ _ _).alloc _
  have h3 : Blk (Wz2 w) (w.heap.size + 1) 30 #[.float .f32 0, .float .f32 0] := by
    have := Blk.new (w.alloc (Obj.cells #[.float .f32 0, .float .f32 0] 30)) 30 #[.float .f32 0, .float .f32 0]
    simpa [Wz2] using this
  exact ⟨hs, bt3 hb (ba _ (ba _ (Below.refl _ _))), h2.below hb h2.lt, h3.below hb h3.lt, Nat.lt_of_lt_of_le h3.lt hg⟩
theorem DaH.next {w wk w' : World} {g : Nat} (h : DaH w wk g) (hs : Src w' g) (hg : wk.grownBy w' (some g)) : DaH w w' g :=
  ⟨hs, below_grown h.bel (by have := h.gg; omega) h.bel.size hg, h.b2.grown hg (by have := h.gg; intro e; injection e with e; omega), h.b3.grown hg (by have := h.gg; intro e; injection e with e; omega), h.gg⟩
theorem DaH.below {w wk w' : World} {g : Nat} (h : DaH w wk g) (hb : Below wk.heap.size wk w') : DaH w w' g := h.next (h.src.below hb) (gbelow _ hb)
set_option maxRecDepth 20000 in
set_option maxHeartbeats 20000000 in
theorem s_DrawAP (A : Option Addr) (n c : Nat) (xs : List Nat) (w : World) (hC : CodeP w w.heap.size A n xs) :
    Calls Tryz.prog 43 #[.slice A n c] w (RetPP w) := by
  have HC := Hd.mk hC
  clear hC
  go_enter Tryz.func43, Tryz.ntmps43
  go_upto_region 3 with (first | (go_at_call 108; (with_reducible refine (s_From A n c xs _ (HC.out.more' (by (repeat (first | exact Below.refl _ _ | assumption | refine Below.drew ?_ | refine bdn ?_ | refine ba _ ?_ | refine bs0 _ _ ?_ ?_ | refine bs1 _ _ _ ?_ ?_ | refine bs2 _ _ _ _ ?_ ?_ | refine bs3 _ _ _ _ _ ?_ ?_ | refine bt3 (by assumption) ?_))))).mono ?_); rintro e1 w1 ⟨g, rfl, hg, hs, hb⟩; have HS := Hd.mk (DaH.start hs hg hb); clear hg hs hb) | (go_at_call 118; (with_reducible refine (s_DrawP g _ HS.out.src).mono ?_); rintro e2 w2 ⟨h, l, rfl, hh, hl, hs, hg⟩; have HP := Hd.mk (And.intro hh hl); replace HS := Hd.mk (HS.out.next hs hg); clear hs hg hh hl))
  have HN5 : Hd (Blk (w2.alloc (Obj.cells #[.float .f32 h, .float .f32 l] 30)) w2.heap.size 30 #[.float .f32 h, .float .f32 l] ∧ w2.heap.size ≠ g) := ⟨Blk.new _ _ _, by have := HS.out.src.lt; omega⟩
  have h5 : w.heap.size + 1 < w2.heap.size := HS.out.b3.lt
  replace HS : Hd (DaH w (w2.alloc (Obj.cells #[.float .f32 h, .float .f32 l] 30)) g) := ⟨HS.out.below (ba _ (Below.refl _ _))⟩
  generalize (w2.alloc (Obj.cells #[.float .f32 h, .float .f32 l] 30)) = W5 at *
  generalize w2.heap.size = g5 at *
  go_upto_if 12 with (go_at_call 119; (with_reducible refine (s_Next g _ _ HS.out.src (by omega) (by omega)).mono ?_); rintro e3 w3 ⟨k1, rfl, hk1, hs, hg⟩; have HB5 : Hd (Blk w3 g5 30 #[.float .f32 h, .float .f32 l]) := ⟨HN5.out.1.grown hg (by intro e; injection e with e; exact HN5.out.2 e)⟩; replace HS := Hd.mk (HS.out.next hs hg); clear hs hg)
  have c0 : w3.cell? ⟨g5, 0, none⟩ = some (.float .f32 h) := HB5.out.cell 0
  have c1 : w3.cell? ⟨g5, 1, none⟩ = some (.float .f32 l) := HB5.out.cell 1
  have c2 : g5 < w3.heap.size := HB5.out.lt
  have r0 : w3.cell? _ = some (.float .f32 0) := HS.out.b2.cell 0; have r1 : w3.cell? _ = some (.float .f32 0) := HS.out.b2.cell 1; have q0 := HS.out.b2.frozen 0; have q1 := HS.out.b2.frozen 1; have z0 : w.heap.size < w3.heap.size := HS.out.b2.lt; have s0 : w3.cell? _ = some (.float .f32 0) := HS.out.b3.cell 0; have s1 : w3.cell? _ = some (.float .f32 0) := HS.out.b3.cell 1; have p0 := HS.out.b3.frozen 0; have p1 := HS.out.b3.frozen 1; have z1 : w.heap.size + 1 < w3.heap.size := HS.out.b3.lt
  have hb3 : Below w.heap.size w w3 := HS.out.bel
  by_cases h0 : k1 = 0
  · subst h0
    go_upto_region 4 with fail
    go_region_held3 (fun w' => w'.cell? ⟨g5, 0, none⟩ = some (.float .f32 h) ∧ w'.cell? ⟨g5, 1, none⟩ = some (.float .f32 l)) ((first | assumption | exact ⟨c0, c1⟩ | exact ⟨a0, a1⟩ | exact ⟨b0, b1⟩ | go_keep | (refine ⟨?_, ?_⟩ <;> go_simp))) (first | (go_at_call 104; (with_reducible refine (s_TurnedA h _ HP.out.1).mono ?_); rintro e4 w4 ⟨y1, rfl, hy, hb⟩; have HY1 := Hd.mk hy; have hq1 : Below w3.heap.size w3 w4 := bt3 hb (by (repeat (first | exact Below.refl _ _ | assumption | refine Below.drew ?_ | refine bdn ?_ | refine ba _ ?_ | refine bs0 _ _ ?_ ?_ | refine bs1 _ _ _ ?_ ?_ | refine bs2 _ _ _ _ ?_ ?_ | refine bs3 _ _ _ _ _ ?_ ?_ | refine bt3 (by assumption) ?_))); have a0 : w4.cell? ⟨g5, 0, none⟩ = some (.float .f32 h) := cb hb (by go_simp); have a1 : w4.cell? ⟨g5, 1, none⟩ = some (.float .f32 l) := cb hb (by go_simp); obtain ⟨hc, hf, hz, hy'⟩ := bcell hb; have k0 : w.heap.size < w4.heap.size := hz _ (by first | assumption | exact z0); have k1' : w.heap.size + 1 < w4.heap.size := hz _ (by first | assumption | exact z1); have k5 : g5 < w4.heap.size := hz _ (by first | assumption | exact c2); have t0 : w4.cell? ⟨w.heap.size, 0, none⟩ = some (.float .f32 0) := cb hb (by first | assumption | exact r0); have t1 : w4.cell? ⟨w.heap.size, 1, none⟩ = some (.float .f32 0) := cb hb (by first | assumption | exact r1); have t2 : w4.cell? ⟨w.heap.size + 1, 0, none⟩ = some (.float .f32 0) := cb hb (by first | assumption | exact s0); have t3 : w4.cell? ⟨w.heap.size + 1, 1, none⟩ = some (.float .f32 0) := cb hb (by first | assumption | exact s1); have t4 : w4.frozen? ⟨w.heap.size, 0, none⟩ = false := (hf _ _ (by first | assumption | exact z0)).trans (by first | assumption | exact q0); have t5 : w4.frozen? ⟨w.heap.size, 1, none⟩ = false := (hf _ _ (by first | assumption | exact z0)).trans (by first | assumption | exact q1); have t6 : w4.frozen? ⟨w.heap.size + 1, 0, none⟩ = false := (hf _ _ (by first | assumption | exact z1)).trans (by first | assumption | exact p0); have t7 : w4.frozen? ⟨w.heap.size + 1, 1, none⟩ = false := (hf _ _ (by first | assumption | exact z1)).trans (by first | assumption | exact p1); clear hb hy hz hy') | (go_at_call 104; (with_reducible refine (s_TurnedA l _ HP.out.2).mono ?_); rintro e4 w4 ⟨y2, rfl, hy, hb⟩; have HY2 := Hd.mk hy; have hq2 : Below w3.heap.size w3 w4 := bt3 hb (by (repeat (first | exact Below.refl _ _ | assumption | refine Below.drew ?_ | refine bdn ?_ | refine ba _ ?_ | refine bs0 _ _ ?_ ?_ | refine bs1 _ _ _ ?_ ?_ | refine bs2 _ _ _ _ ?_ ?_ | refine bs3 _ _ _ _ _ ?_ ?_ | refine bt3 (by assumption) ?_))); have b0 : w4.cell? ⟨g5, 0, none⟩ = some (.float .f32 h) := cb hb (by go_simp); have b1 : w4.cell? ⟨g5, 1, none⟩ = some (.float .f32 l) := cb hb (by go_simp); obtain ⟨hc, hf, hz, hy'⟩ := bcell hb; have k0 : w.heap.size < w4.heap.size := hz _ (by first | assumption | exact z0); have k1' : w.heap.size + 1 < w4.heap.size := hz _ (by first | assumption | exact z1); have k5 : g5 < w4.heap.size := hz _ (by first | assumption | exact c2); have t0 : w4.cell? ⟨w.heap.size, 0, none⟩ = some (.float .f32 0) := cb hb (by first | assumption | exact r0); have t1 : w4.cell? ⟨w.heap.size, 1, none⟩ = some (.float .f32 0) := cb hb (by first | assumption | exact r1); have t2 : w4.cell? ⟨w.heap.size + 1, 0, none⟩ = some (.float .f32 0) := cb hb (by first | assumption | exact s0); have t3 : w4.cell? ⟨w.heap.size + 1, 1, none⟩ = some (.float .f32 0) := cb hb (by first | assumption | exact s1); have t4 : w4.frozen? ⟨w.heap.size, 0, none⟩ = false := (hf _ _ (by first | assumption | exact z0)).trans (by first | assumption | exact q0); have t5 : w4.frozen? ⟨w.heap.size, 1, none⟩ = false := (hf _ _ (by first | assumption | exact z0)).trans (by first | assumption | exact q1); have t6 : w4.frozen? ⟨w.heap.size + 1, 0, none⟩ = false := (hf _ _ (by first | assumption | exact z1)).trans (by first | assumption | exact p0); have t7 : w4.frozen? ⟨w.heap.size + 1, 1, none⟩ = false := (hf _ _ (by first | assumption | exact z1)).trans (by first | assumption | exact p1); clear hb hy hz hy'))
    all_goals
      go_wp2_with fail
      refine bodyPost_ret (v := .tuple #[.agg #[.float .f32 h, .float .f32 l], .agg #[.float .f32 y1, .float .f32 y2]]) (by simp (maxDischargeDepth := 7) [results, Tryz.results43, go_sem, *]) rfl ⟨_, _, _, _, rfl, HP.out.1, HP.out.2, HY1.out, HY2.out, ?_⟩
      (repeat (first | exact Below.refl _ _ | assumption | refine Below.drew ?_ | refine bdn ?_ | refine ba _ ?_ | refine bs0 _ _ ?_ ?_ | refine bs1 _ _ _ ?_ ?_ | refine bs2 _ _ _ _ ?_ ?_ | refine bs3 _ _ _ _ _ ?_ ?_ | refine bt3 (by assumption) ?_))
  · have e0 : ((k1 : Int) == 0) = false := by simpa using h0
    clear h0
    go_upto_region 5 with fail
    go_region_held3 (fun w' => w'.cell? ⟨g5, 0, none⟩ = some (.float .f32 h) ∧ w'.cell? ⟨g5, 1, none⟩ = some (.float .f32 l)) ((first | assumption | exact ⟨c0, c1⟩ | exact ⟨a0, a1⟩ | go_keep | (refine ⟨?_, ?_⟩ <;> go_simp))) ((go_at_call 118; (with_reducible refine (s_DrawP g _ (HS.out.src.below (by (repeat (first | exact Below.refl _ _ | assumption | refine Below.drew ?_ | refine bdn ?_ | refine ba _ ?_ | refine bs0 _ _ ?_ ?_ | refine bs1 _ _ _ ?_ ?_ | refine bs2 _ _ _ _ ?_ ?_ | refine bs3 _ _ _ _ _ ?_ ?_ | refine bt3 (by assumption) ?_))))).mono ?_); rintro e4 w4 ⟨h2, l2, rfl, hh, hl, hs, hg⟩; have HP2 := Hd.mk (And.intro hh hl); have HB6 := Hd.mk ((HB5.out.below (w' := _) (by (repeat (first | exact Below.refl _ _ | assumption | refine Below.drew ?_ | refine bdn ?_ | refine ba _ ?_ | refine bs0 _ _ ?_ ?_ | refine bs1 _ _ _ ?_ ?_ | refine bs2 _ _ _ _ ?_ ?_ | refine bs3 _ _ _ _ _ ?_ ?_ | refine bt3 (by assumption) ?_))) HB5.out.lt).grown hg (by intro e; injection e with e; exact HN5.out.2 e)); replace HS := Hd.mk ((HS.out.below (by (repeat (first | exact Below.refl _ _ | assumption | refine Below.drew ?_ | refine bdn ?_ | refine ba _ ?_ | refine bs0 _ _ ?_ ?_ | refine bs1 _ _ _ ?_ ?_ | refine bs2 _ _ _ _ ?_ ?_ | refine bs3 _ _ _ _ _ ?_ ?_ | refine bt3 (by assumption) ?_)))).next hs hg); have a0 : w4.cell? ⟨g5, 0, none⟩ = some (.float .f32 h) := HB6.out.cell 0; have a1 : w4.cell? ⟨g5, 1, none⟩ = some (.float .f32 l) := HB6.out.cell 1; have r0 : w4.cell? _ = some (.float .f32 0) := HS.out.b2.cell 0; have r1 : w4.cell? _ = some (.float .f32 0) := HS.out.b2.cell 1; have q0 := HS.out.b2.frozen 0; have q1 := HS.out.b2.frozen 1; have z0 : w.heap.size < w4.heap.size := HS.out.b2.lt; have s0 : w4.cell? _ = some (.float .f32 0) := HS.out.b3.cell 0; have s1 : w4.cell? _ = some (.float .f32 0) := HS.out.b3.cell 1; have p0 := HS.out.b3.frozen 0; have p1 := HS.out.b3.frozen 1; have z1 : w.heap.size + 1 < w4.heap.size := HS.out.b3.lt; have hb4 : Below w.heap.size w w4 := HS.out.bel; clear hs hg hh hl))
    all_goals
      go_wp2_with fail
      refine bodyPost_ret (v := .tuple #[.agg #[.float .f32 h, .float .f32 l], .agg #[.float .f32 h2, .float .f32 l2]]) (by simp (maxDischargeDepth := 7) [results, Tryz.results43, go_sem, *]) rfl ⟨_, _, _, _, rfl, HP.out.1, HP.out.2, HP2.out.1, HP2.out.2, ?_⟩
      (repeat (first | exact Below.refl _ _ | assumption | refine Below.drew ?_ | refine bdn ?_ | refine ba _ ?_ | refine bs0 _ _ ?_ ?_ | refine bs1 _ _ _ ?_ ?_ | refine bs2 _ _ _ _ ?_ ?_ | refine bs3 _ _ _ _ _ ?_ ?_ | refine bt3 (by assumption) ?_))
end Go.Proofs.YtflgjecpjaiecaaGreat
