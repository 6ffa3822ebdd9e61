/- For every code: growing keeps the sum, compressing keeps the sum and leaves falling floats, both as the reference tells. -/
import Derived.Test.YtflgjecpjaiecaaGreatB5q4
import Derived.Test.YtflgjecpjaiecaaGreatGfq4
set_option linter.unusedVariables false
set_option linter.unusedSimpArgs false
set_option exponentiation.threshold 30000
namespace Go.Proofs.YtflgjecpjaiecaaGreat
open Go.ChangeShapes Go.WideShapes Go.ChangeAt Go.RowKit Num Flt
/-- two floats of which the second is the smaller one in size -/
structure FlF (a b a1 b1 : Nat) : Prop where
  wa : (pl a < 0 ∧ a1 = ng a ∧ (FloatKind.f32.format.order a 0 == some .lt) = true) ∨ (a1 = a ∧ (FloatKind.f32.format.order a 0 == some .lt) = false)
  wb : (pl b < 0 ∧ b1 = ng b ∧ (FloatKind.f32.format.order b 0 == some .lt) = true) ∨ (b1 = b ∧ (FloatKind.f32.format.order b 0 == some .lt) = false)
  ka : ∀ w, (binOp .mul 22 (.float .f32 a) (.float .f32 3212836864)).run Tryz.prog w = .ok (.float .f32 (ng a)) w
  kb : ∀ w, (binOp .mul 22 (.float .f32 b) (.float .f32 3212836864)).run Tryz.prog w = .ok (.float .f32 (ng b)) w
  ge : (FloatKind.f32.format.order b1 a1 == some .gt || FloatKind.f32.format.order b1 a1 == some .eq) = false
  z : (FloatKind.f32.format.order b1 0 == some .eq) = false
theorem abs_way {a : Nat} (wa : W a) (na : ¬ nan a) : ∃ a1, ((pl a < 0 ∧ a1 = ng a ∧ (FloatKind.f32.format.order a 0 == some .lt) = true) ∨ (a1 = a ∧ (FloatKind.f32.format.order a 0 == some .lt) = false)) ∧ W a1 ∧ ¬ nan a1 ∧ pl a1 = (pl a).natAbs := by
  have h0 : (FloatKind.f32.format.order a 0 == some .lt) = decide (pl a < pl 0) := by rw [o_lt]; simp [na, show ¬ nan 0 by decide]
  have p0 : pl 0 = 0 := by decide
  rw [p0] at h0
  by_cases h : pl a < 0
  · refine ⟨ng a, Or.inl ⟨h, rfl, by rw [h0]; exact decide_eq_true h⟩, W_ng wa, fun k => na ((nan_ng wa).1 k), ?_⟩
    rw [pl_ng wa]; omega
  · exact ⟨a, Or.inr ⟨rfl, by rw [h0]; exact decide_eq_false h⟩, wa, na, by omega⟩
theorem fl_facts {a b : Nat} (wa : W a) (na : ¬ nan a) (wb : W b) (nb : ¬ nan b) (h1 : (pl b).natAbs < (pl a).natAbs) (h2 : pl b ≠ 0) : ∃ a1 b1, FlF a b a1 b1 := by
  obtain ⟨a1, x1, x2, x3, x4⟩ := abs_way wa na
  obtain ⟨b1, y1, y2, y3, y4⟩ := abs_way wb nb
  refine ⟨a1, b1, x1, y1, fun w => run_float_arith (P := Tryz.prog) w .mul 22 .f32 a 3212836864 (ng a) (f_turn a wa na), fun w => run_float_arith (P := Tryz.prog) w .mul 22 .f32 b 3212836864 (ng b) (f_turn b wb nb), ?_, ?_⟩
  · rw [o_ge]; exact decide_eq_false (fun k => by have := k.2.2; omega)
  · rw [q_eqs y3 (by decide)]
    have p0 : pl 0 = 0 := by decide
    exact decide_eq_false (by rw [p0]; omega)
set_option maxRecDepth 100000 in
set_option maxHeartbeats 40000000 in
theorem ExpnE.walk (A : Option Addr) (n c : Nat) (xs : List Nat) (w : World) (hn : n = xs.length) (hl : n ≤ maxLen) (hR : RB w w.heap.size A xs) (hx : ∀ x ∈ xs, x < 256) :
    Calls Tryz.prog 10 #[.slice A n c] w fun e w' => e = .returned (.bool true) ∧ Below w.heap.size w w' := by
  have HB0 := Hd.mk (fun w => l_big A n c w hl)
  by_cases hs : (4096 : Int) < n
  · rw [decide_eq_true hs] at HB0
    clear hs hn hl hR hx
    go_enter Tryz.func10, Tryz.ntmps10
    go_wp2_with (go_at_call 24; (with_reducible refine (HB0.out _).mono ?_); rintro e w' ⟨rfl, rfl⟩)
    go_ret
    exact ⟨rfl, Below.refl _ _⟩
  · rw [decide_eq_false hs] at HB0
    have HC := Hd.mk (code_of hn (by omega) hR hx)
    have HQ := Below.refl w.heap.size w
    clear hs hn hl hR hx
    go_enter Tryz.func10, Tryz.ntmps10
    go_upto_region 4 with (first | (go_at_call 24; (with_reducible refine (HB0.out _).mono ?_); rintro e w' ⟨rfl, rfl⟩) | (go_at_call 72; (with_reducible refine (s_DrawGE A n c xs _ (HC.out.more' HQ)).mono ?_); rintro e w1 ⟨A0, n0, c0, ls, x, rfl, h1, h2, h3, h4, h5, hb⟩; have HX := Hd.mk (XH.start (bt3 hb HQ) h3); have HL0 := Hd.mk (And.intro h1 (And.intro h2 (And.intro h4 h5))); clear h1 h2 h3 h4 h5 hb))
    have hn0 : (n0 : Int) ≤ 9 := by have := HL0.out.2.1; omega
    have HiG := Hd.mk (fun w hR => i_Grow A0 n0 c0 x ls w HL0.out.1 (by have := HL0.out.2.1; unfold LIM; omega) hR HL0.out.2.2.1 HL0.out.2.2.2)
    have HsG := Hd.mk (fun w hR => s_Grow A0 n0 c0 x ls w HL0.out.1 (by have := HL0.out.2.1; unfold LIM; omega) hR HL0.out.2.2.1 HL0.out.2.2.2)
    have HF := Hd.mk (gw_facts HL0.out.2.2.1 HL0.out.2.2.2)
    obtain ⟨gl, hgl⟩ : ∃ gl, gwL ls x = gl := ⟨_, rfl⟩
    obtain ⟨gc, hgc⟩ : ∃ gc, gwC ls x = gc := ⟨_, rfl⟩
    rw [hgl, hgc] at HiG HsG HF
    clear hgl hgc
    go_upto_if 70 with (first | (go_at_call 73; (with_reducible refine (HiG.out _ (HX.out.r0.below (by (repeat (first | exact Below.refl _ _ | assumption | refine Below.drew ?_ | refine bdn ?_ | refine ba _ ?_ | refine bs0 _ _ ?_ ?_ | refine bs1 _ _ _ ?_ ?_ | refine bs2 _ _ _ _ ?_ ?_ | refine bs3 _ _ _ _ _ ?_ ?_ | refine bt3 (by assumption) ?_))))).mono ?_); rintro e w2 ⟨A1, n1, c1, rfl, hO, hb⟩; have HN1 := Hd.mk hO.reads.1; replace HX := Hd.mk ((HX.out.below (bt3 hb (by (repeat (first | exact Below.refl _ _ | assumption | refine Below.drew ?_ | refine bdn ?_ | refine ba _ ?_ | refine bs0 _ _ ?_ ?_ | refine bs1 _ _ _ ?_ ?_ | refine bs2 _ _ _ _ ?_ ?_ | refine bs3 _ _ _ _ _ ?_ ?_ | refine bt3 (by assumption) ?_))))).set1 hO.reads.2); clear hO hb) | (go_at_call 74; (with_reducible refine (HsG.out _ (HX.out.r0.below (by (repeat (first | exact Below.refl _ _ | assumption | refine Below.drew ?_ | refine bdn ?_ | refine ba _ ?_ | refine bs0 _ _ ?_ ?_ | refine bs1 _ _ _ ?_ ?_ | refine bs2 _ _ _ _ ?_ ?_ | refine bs3 _ _ _ _ _ ?_ ?_ | refine bt3 (by assumption) ?_))))).mono ?_); rintro e w3 ⟨A2, n2, c2, rfl, hO, hb⟩; obtain rfl : n1 = n2 := HN1.out.trans hO.reads.1.symm; replace HX := Hd.mk ((HX.out.below (bt3 hb (by (repeat (first | exact Below.refl _ _ | assumption | refine Below.drew ?_ | refine bdn ?_ | refine ba _ ?_ | refine bs0 _ _ ?_ ?_ | refine bs1 _ _ _ ?_ ?_ | refine bs2 _ _ _ _ ?_ ?_ | refine bs3 _ _ _ _ _ ?_ ?_ | refine bt3 (by assumption) ?_))))).set2 hO.reads.2); clear hO hb) | (go_at_call 75; (with_reducible refine (l_fs9 A1 A2 n1 c1 c2 _ _ HN1.out (by have := HN1.out; have := HF.out.2.1; unfold LIM; omega) (HX.out.r1.below (by (repeat (first | exact Below.refl _ _ | assumption | refine Below.drew ?_ | refine bdn ?_ | refine ba _ ?_ | refine bs0 _ _ ?_ ?_ | refine bs1 _ _ _ ?_ ?_ | refine bs2 _ _ _ _ ?_ ?_ | refine bs3 _ _ _ _ _ ?_ ?_ | refine bt3 (by assumption) ?_)))) (HX.out.r2.below (by (repeat (first | exact Below.refl _ _ | assumption | refine Below.drew ?_ | refine bdn ?_ | refine ba _ ?_ | refine bs0 _ _ ?_ ?_ | refine bs1 _ _ _ ?_ ?_ | refine bs2 _ _ _ _ ?_ ?_ | refine bs3 _ _ _ _ _ ?_ ?_ | refine bt3 (by assumption) ?_)))) HF.out.1).mono ?_); rintro e w' ⟨rfl, ⟨nd, rfl⟩⟩))
    clear HiG HsG
    go_cut [] (fun wx => Below w.heap.size w wx)
    case first =>
      as_aux_lemma =>
        by_cases h0 : gc = 0
        · subst h0
          have HG := Hd.mk (HF.out.2.2 rfl)
          have hn1I : (n1 : Int) = (n0 : Int) + 1 := by have := HN1.out; have := HG.out.len; have := HL0.out.1; omega
          have HVL := Hd.mk (fun w hR => i_ValueOfExp A0 n0 c0 ls w HL0.out.1 (by have := HL0.out.2.1; unfold LIM; omega) hR HL0.out.2.2.1)
          have HVG := Hd.mk (fun w hR => i_ValueOfExp A1 n1 c1 gl w HN1.out (by have := HN1.out; have := HF.out.2.1; unfold LIM; omega) hR (fun y hy => (HF.out.1 y hy).1))
          have HV : Hd ((sumv ls).natAbs < 2 ^ 22000 ∧ (fv x).natAbs < 2 ^ 22000 ∧ (sumv ls + fv x).natAbs < 2 ^ 22000) := ⟨sumv_small (lst_fin HG.out.ls).2 (lst_fin HG.out.ls).1, Nat.lt_trans (fv_lt2 HG.out.fx) (Nat.pow_lt_pow_right (by decide) (by decide)), by rw [← HG.out.sum]; exact sumv_small HG.out.fg HG.out.len8⟩
          rw [show veV ls = sumv ls from if_pos HG.out.ls, HG.out.ls] at HVL
          rw [show veV gl = sumv gl from if_pos HG.out.lg, HG.out.lg, HG.out.sum] at HVG
          go_wp2_with (first | (go_at_call 76; (with_reducible refine (HVL.out _ (HX.out.r0.below (by (repeat (first | exact Below.refl _ _ | assumption | refine Below.drew ?_ | refine bdn ?_ | refine ba _ ?_ | refine bs0 _ _ ?_ ?_ | refine bs1 _ _ _ ?_ ?_ | refine bs2 _ _ _ _ ?_ ?_ | refine bs3 _ _ _ _ _ ?_ ?_ | refine bt3 (by assumption) ?_))))).mono ?_); rintro e w4 ⟨s4, A4, n4, c4, x4, rfl, hD, hb⟩; obtain ⟨L4, rfl, hO, hN⟩ := hD.dyn; skip; replace HX := Hd.mk ((HX.out.below (bt3 hb (by (repeat (first | exact Below.refl _ _ | assumption | refine Below.drew ?_ | refine bdn ?_ | refine ba _ ?_ | refine bs0 _ _ ?_ ?_ | refine bs1 _ _ _ ?_ ?_ | refine bs2 _ _ _ _ ?_ ?_ | refine bs3 _ _ _ _ _ ?_ ?_ | refine bt3 (by assumption) ?_))))).below (ba (Obj.cells #[.int .i64 s4, .slice A4 L4.length c4, .int .i64 x4] 66) (Below.refl _ _))); have D4 := Hd.mk (DyB.new hO hN); have N4 := Hd.mk hN; clear hD hO hN; have y4 : World.cell? (w4.alloc (Obj.cells #[.int .i64 s4, .slice A4 L4.length c4, .int .i64 x4] 66)) _ = some (.int .i64 s4) := D4.out.blk.cell 0; have v4 : World.cell? (w4.alloc (Obj.cells #[.int .i64 s4, .slice A4 L4.length c4, .int .i64 x4] 66)) _ = some (.slice A4 L4.length c4) := D4.out.blk.cell 1; have z4 : World.cell? (w4.alloc (Obj.cells #[.int .i64 s4, .slice A4 L4.length c4, .int .i64 x4] 66)) _ = some (.int .i64 x4) := D4.out.blk.cell 2; clear hb) | (go_at_call 56; (with_reducible refine (i_DyOf x _ HL0.out.2.2.2 HG.out.fx).mono ?_); rintro e w5 ⟨s5, A5, n5, c5, x5, rfl, hD, hb⟩; obtain ⟨L5, rfl, hO, hN⟩ := hD.dyn; replace D4 := Hd.mk ((D4.out.below (bt3 hb (by (repeat (first | exact Below.refl _ _ | assumption | refine Below.drew ?_ | refine bdn ?_ | refine ba _ ?_ | refine bs0 _ _ ?_ ?_ | refine bs1 _ _ _ ?_ ?_ | refine bs2 _ _ _ _ ?_ ?_ | refine bs3 _ _ _ _ _ ?_ ?_ | refine bt3 (by assumption) ?_))))).below (ba (Obj.cells #[.int .i64 s5, .slice A5 L5.length c5, .int .i64 x5] 66) (Below.refl _ _))); replace HX := Hd.mk ((HX.out.below (bt3 hb (by (repeat (first | exact Below.refl _ _ | assumption | refine Below.drew ?_ | refine bdn ?_ | refine ba _ ?_ | refine bs0 _ _ ?_ ?_ | refine bs1 _ _ _ ?_ ?_ | refine bs2 _ _ _ _ ?_ ?_ | refine bs3 _ _ _ _ _ ?_ ?_ | refine bt3 (by assumption) ?_))))).below (ba (Obj.cells #[.int .i64 s5, .slice A5 L5.length c5, .int .i64 x5] 66) (Below.refl _ _))); have D5 := Hd.mk (DyB.new hO hN); have N5 := Hd.mk hN; clear hD hO hN; have y4 : World.cell? (w5.alloc (Obj.cells #[.int .i64 s5, .slice A5 L5.length c5, .int .i64 x5] 66)) _ = some (.int .i64 s4) := D4.out.blk.cell 0; have v4 : World.cell? (w5.alloc (Obj.cells #[.int .i64 s5, .slice A5 L5.length c5, .int .i64 x5] 66)) _ = some (.slice A4 L4.length c4) := D4.out.blk.cell 1; have z4 : World.cell? (w5.alloc (Obj.cells #[.int .i64 s5, .slice A5 L5.length c5, .int .i64 x5] 66)) _ = some (.int .i64 x4) := D4.out.blk.cell 2; have y5 : World.cell? (w5.alloc (Obj.cells #[.int .i64 s5, .slice A5 L5.length c5, .int .i64 x5] 66)) _ = some (.int .i64 s5) := D5.out.blk.cell 0; have v5 : World.cell? (w5.alloc (Obj.cells #[.int .i64 s5, .slice A5 L5.length c5, .int .i64 x5] 66)) _ = some (.slice A5 L5.length c5) := D5.out.blk.cell 1; have z5 : World.cell? (w5.alloc (Obj.cells #[.int .i64 s5, .slice A5 L5.length c5, .int .i64 x5] 66)) _ = some (.int .i64 x5) := D5.out.blk.cell 2; clear hb) | (go_at_call 57; (with_reducible refine (i_AddDy s4 x4 A4 L4.length c4 L4 s5 x5 A5 L5.length c5 L5 (sumv ls) (fv x) _ rfl (D4.out.rd.below (by (repeat (first | exact Below.refl _ _ | assumption | refine Below.drew ?_ | refine bdn ?_ | refine ba _ ?_ | refine bs0 _ _ ?_ ?_ | refine bs1 _ _ _ ?_ ?_ | refine bs2 _ _ _ _ ?_ ?_ | refine bs3 _ _ _ _ _ ?_ ?_ | refine bt3 (by assumption) ?_)))) N4.out rfl (D5.out.rd.below (by (repeat (first | exact Below.refl _ _ | assumption | refine Below.drew ?_ | refine bdn ?_ | refine ba _ ?_ | refine bs0 _ _ ?_ ?_ | refine bs1 _ _ _ ?_ ?_ | refine bs2 _ _ _ _ ?_ ?_ | refine bs3 _ _ _ _ _ ?_ ?_ | refine bt3 (by assumption) ?_)))) N5.out HV.out.1 HV.out.2.1 HV.out.2.2).mono ?_); rintro e w6 ⟨s6, A6, n6, c6, x6, rfl, hD, hb⟩; obtain ⟨L6, rfl, hO, hN⟩ := hD.dyn; skip; replace HX := Hd.mk ((HX.out.below (bt3 hb (by (repeat (first | exact Below.refl _ _ | assumption | refine Below.drew ?_ | refine bdn ?_ | refine ba _ ?_ | refine bs0 _ _ ?_ ?_ | refine bs1 _ _ _ ?_ ?_ | refine bs2 _ _ _ _ ?_ ?_ | refine bs3 _ _ _ _ _ ?_ ?_ | refine bt3 (by assumption) ?_))))).below (ba (Obj.cells #[.int .i64 s6, .slice A6 L6.length c6, .int .i64 x6] 66) (Below.refl _ _))); have D6 := Hd.mk (DyB.new hO hN); have N6 := Hd.mk hN; clear hD hO hN; have y6 : World.cell? (w6.alloc (Obj.cells #[.int .i64 s6, .slice A6 L6.length c6, .int .i64 x6] 66)) _ = some (.int .i64 s6) := D6.out.blk.cell 0; have v6 : World.cell? (w6.alloc (Obj.cells #[.int .i64 s6, .slice A6 L6.length c6, .int .i64 x6] 66)) _ = some (.slice A6 L6.length c6) := D6.out.blk.cell 1; have z6 : World.cell? (w6.alloc (Obj.cells #[.int .i64 s6, .slice A6 L6.length c6, .int .i64 x6] 66)) _ = some (.int .i64 x6) := D6.out.blk.cell 2; clear hb D4 D5 N4 N5) | (go_at_call 76; (with_reducible refine (HVG.out _ (HX.out.r1.below (by (repeat (first | exact Below.refl _ _ | assumption | refine Below.drew ?_ | refine bdn ?_ | refine ba _ ?_ | refine bs0 _ _ ?_ ?_ | refine bs1 _ _ _ ?_ ?_ | refine bs2 _ _ _ _ ?_ ?_ | refine bs3 _ _ _ _ _ ?_ ?_ | refine bt3 (by assumption) ?_))))).mono ?_); rintro e w7 ⟨s7, A7, n7, c7, x7, rfl, hD, hb⟩; obtain ⟨L7, rfl, hO, hN⟩ := hD.dyn; obtain ⟨rfl, rfl, rfl⟩ := DyN.uniq N6.out hN; replace D6 := Hd.mk ((D6.out.below (bt3 hb (by (repeat (first | exact Below.refl _ _ | assumption | refine Below.drew ?_ | refine bdn ?_ | refine ba _ ?_ | refine bs0 _ _ ?_ ?_ | refine bs1 _ _ _ ?_ ?_ | refine bs2 _ _ _ _ ?_ ?_ | refine bs3 _ _ _ _ _ ?_ ?_ | refine bt3 (by assumption) ?_))))).below (ba (Obj.cells #[.int .i64 s6, .slice A7 L6.length c7, .int .i64 x6] 66) (Below.refl _ _))); replace HX := Hd.mk ((HX.out.below (bt3 hb (by (repeat (first | exact Below.refl _ _ | assumption | refine Below.drew ?_ | refine bdn ?_ | refine ba _ ?_ | refine bs0 _ _ ?_ ?_ | refine bs1 _ _ _ ?_ ?_ | refine bs2 _ _ _ _ ?_ ?_ | refine bs3 _ _ _ _ _ ?_ ?_ | refine bt3 (by assumption) ?_))))).below (ba (Obj.cells #[.int .i64 s6, .slice A7 L6.length c7, .int .i64 x6] 66) (Below.refl _ _))); have D7 := Hd.mk (DyB.new hO hN); have y6 : World.cell? (w7.alloc (Obj.cells #[.int .i64 s6, .slice A7 L6.length c7, .int .i64 x6] 66)) _ = some (.int .i64 s6) := D6.out.blk.cell 0; have v6 : World.cell? (w7.alloc (Obj.cells #[.int .i64 s6, .slice A7 L6.length c7, .int .i64 x6] 66)) _ = some (.slice A6 L6.length c6) := D6.out.blk.cell 1; have z6 : World.cell? (w7.alloc (Obj.cells #[.int .i64 s6, .slice A7 L6.length c7, .int .i64 x6] 66)) _ = some (.int .i64 x6) := D6.out.blk.cell 2; have y7 : World.cell? (w7.alloc (Obj.cells #[.int .i64 s6, .slice A7 L6.length c7, .int .i64 x6] 66)) _ = some (.int .i64 s6) := D7.out.blk.cell 0; have v7 : World.cell? (w7.alloc (Obj.cells #[.int .i64 s6, .slice A7 L6.length c7, .int .i64 x6] 66)) _ = some (.slice A7 L6.length c7) := D7.out.blk.cell 1; have z7 : World.cell? (w7.alloc (Obj.cells #[.int .i64 s6, .slice A7 L6.length c7, .int .i64 x6] 66)) _ = some (.int .i64 x6) := D7.out.blk.cell 2; clear hD hO hN hb) | (go_at_call 58; (with_reducible refine (l_dy9 s6 x6 A6 A7 _ c6 c7 L6 _ rfl D6.out.lim (D6.out.rd.below (by (repeat (first | exact Below.refl _ _ | assumption | refine Below.drew ?_ | refine bdn ?_ | refine ba _ ?_ | refine bs0 _ _ ?_ ?_ | refine bs1 _ _ _ ?_ ?_ | refine bs2 _ _ _ _ ?_ ?_ | refine bs3 _ _ _ _ _ ?_ ?_ | refine bt3 (by assumption) ?_)))) (D7.out.rd.below (by (repeat (first | exact Below.refl _ _ | assumption | refine Below.drew ?_ | refine bdn ?_ | refine ba _ ?_ | refine bs0 _ _ ?_ ?_ | refine bs1 _ _ _ ?_ ?_ | refine bs2 _ _ _ _ ?_ ?_ | refine bs3 _ _ _ _ _ ?_ ?_ | refine bt3 (by assumption) ?_))))).mono ?_); rintro e w8 ⟨rfl, hb⟩; replace HX := Hd.mk (HX.out.below (bt3 hb (by (repeat (first | exact Below.refl _ _ | assumption | refine Below.drew ?_ | refine bdn ?_ | refine ba _ ?_ | refine bs0 _ _ ?_ ?_ | refine bs1 _ _ _ ?_ ?_ | refine bs2 _ _ _ _ ?_ ?_ | refine bs3 _ _ _ _ _ ?_ ?_ | refine bt3 (by assumption) ?_))))); clear hb))
          go_meet
          exact bt3 (by (repeat (first | exact Below.refl _ _ | assumption | refine Below.drew ?_ | refine bdn ?_ | refine ba _ ?_ | refine bs0 _ _ ?_ ?_ | refine bs1 _ _ _ ?_ ?_ | refine bs2 _ _ _ _ ?_ ?_ | refine bs3 _ _ _ _ _ ?_ ?_ | refine bt3 (by assumption) ?_))) HX.out.bel
        · have hk : (gc == 0) = false := by simpa using h0
          clear h0
          go_wp2_with fail
          go_meet
          exact bt3 (by (repeat (first | exact Below.refl _ _ | assumption | refine Below.drew ?_ | refine bdn ?_ | refine ba _ ?_ | refine bs0 _ _ ?_ ?_ | refine bs1 _ _ _ ?_ ?_ | refine bs2 _ _ _ _ ?_ ?_ | refine bs3 _ _ _ _ _ ?_ ?_ | refine bt3 (by assumption) ?_))) HX.out.bel
    replace HQ := hcut
    clear hcut
    go_upto_region 16 with (go_at_call 77; (with_reducible refine (s_DrawCE A n c xs _ (HC.out.more' HQ)).mono ?_); rintro e w1 ⟨A3, n3, c3, zs, rfl, h1, h2, h3, h4, hb⟩; have HX := Hd.mk (XH.start (bt3 hb HQ) h3); have HL3 := Hd.mk (And.intro h1 (And.intro h2 h4)); clear h1 h2 h3 h4 hb)
    have hn3 : (n3 : Int) ≤ 9 := by have := HL3.out.2.1; omega
    have HiC := Hd.mk (fun w hR => i_Comp A3 n3 c3 zs w HL3.out.1 (by have := HL3.out.2.1; unfold LIM; omega) hR HL3.out.2.2)
    have HsC := Hd.mk (fun w hR => s_Comp A3 n3 c3 zs w HL3.out.1 (by have := HL3.out.2.1; unfold LIM; omega) hR HL3.out.2.2)
    have HiS := Hd.mk (fun w hR => i_SgE A3 n3 c3 zs w HL3.out.1 (by have := HL3.out.2.1; unfold LIM; omega) hR HL3.out.2.2)
    have HsS := Hd.mk (fun w hR => s_SgE A3 n3 c3 zs w HL3.out.1 (by have := HL3.out.2.1; unfold LIM; omega) hR HL3.out.2.2)
    have HE := Hd.mk (ce_facts HL3.out.2.2)
    obtain ⟨cl, hcl⟩ : ∃ cl, ceL zs = cl := ⟨_, rfl⟩
    obtain ⟨cc, hcc⟩ : ∃ cc, ceC zs = cc := ⟨_, rfl⟩
    obtain ⟨lc, hlc⟩ : ∃ lc, lstC zs = lc := ⟨_, rfl⟩
    obtain ⟨sg, hsg⟩ : ∃ sg, sgE zs = sg := ⟨_, rfl⟩
    rw [hcl, hcc] at HiC HsC HE
    rw [hlc, hsg] at HiS HsS
    have HV3 := Hd.mk (And.intro hlc hsg)
    clear hcl hcc hlc hsg
    go_upto_region 25 with (first | (go_at_call 78; (with_reducible refine (HiC.out _ (HX.out.r0.below (by (repeat (first | exact Below.refl _ _ | assumption | refine Below.drew ?_ | refine bdn ?_ | refine ba _ ?_ | refine bs0 _ _ ?_ ?_ | refine bs1 _ _ _ ?_ ?_ | refine bs2 _ _ _ _ ?_ ?_ | refine bs3 _ _ _ _ _ ?_ ?_ | refine bt3 (by assumption) ?_))))).mono ?_); rintro e w2 ⟨A1, n1, c1, rfl, hO, hb⟩; have HN1 := Hd.mk hO.reads.1; replace HX := Hd.mk ((HX.out.below (bt3 hb (by (repeat (first | exact Below.refl _ _ | assumption | refine Below.drew ?_ | refine bdn ?_ | refine ba _ ?_ | refine bs0 _ _ ?_ ?_ | refine bs1 _ _ _ ?_ ?_ | refine bs2 _ _ _ _ ?_ ?_ | refine bs3 _ _ _ _ _ ?_ ?_ | refine bt3 (by assumption) ?_))))).set1 hO.reads.2); clear hO hb) | (go_at_call 79; (with_reducible refine (HsC.out _ (HX.out.r0.below (by (repeat (first | exact Below.refl _ _ | assumption | refine Below.drew ?_ | refine bdn ?_ | refine ba _ ?_ | refine bs0 _ _ ?_ ?_ | refine bs1 _ _ _ ?_ ?_ | refine bs2 _ _ _ _ ?_ ?_ | refine bs3 _ _ _ _ _ ?_ ?_ | refine bt3 (by assumption) ?_))))).mono ?_); rintro e w3 ⟨A2, n2, c2, rfl, hO, hb⟩; obtain rfl : n1 = n2 := HN1.out.trans hO.reads.1.symm; replace HX := Hd.mk ((HX.out.below (bt3 hb (by (repeat (first | exact Below.refl _ _ | assumption | refine Below.drew ?_ | refine bdn ?_ | refine ba _ ?_ | refine bs0 _ _ ?_ ?_ | refine bs1 _ _ _ ?_ ?_ | refine bs2 _ _ _ _ ?_ ?_ | refine bs3 _ _ _ _ _ ?_ ?_ | refine bt3 (by assumption) ?_))))).set2 hO.reads.2); clear hO hb) | (go_at_call 75; (with_reducible refine (l_fs9 A1 A2 n1 c1 c2 _ _ HN1.out (by have := HN1.out; have := HE.out.2.1; unfold LIM; omega) (HX.out.r1.below (by (repeat (first | exact Below.refl _ _ | assumption | refine Below.drew ?_ | refine bdn ?_ | refine ba _ ?_ | refine bs0 _ _ ?_ ?_ | refine bs1 _ _ _ ?_ ?_ | refine bs2 _ _ _ _ ?_ ?_ | refine bs3 _ _ _ _ _ ?_ ?_ | refine bt3 (by assumption) ?_)))) (HX.out.r2.below (by (repeat (first | exact Below.refl _ _ | assumption | refine Below.drew ?_ | refine bdn ?_ | refine ba _ ?_ | refine bs0 _ _ ?_ ?_ | refine bs1 _ _ _ ?_ ?_ | refine bs2 _ _ _ _ ?_ ?_ | refine bs3 _ _ _ _ _ ?_ ?_ | refine bt3 (by assumption) ?_)))) HE.out.1).mono ?_); rintro e w' ⟨rfl, ⟨nd, rfl⟩⟩) | (go_at_call 80; (with_reducible refine (HiS.out _ (HX.out.r0.below (by (repeat (first | exact Below.refl _ _ | assumption | refine Below.drew ?_ | refine bdn ?_ | refine ba _ ?_ | refine bs0 _ _ ?_ ?_ | refine bs1 _ _ _ ?_ ?_ | refine bs2 _ _ _ _ ?_ ?_ | refine bs3 _ _ _ _ _ ?_ ?_ | refine bt3 (by assumption) ?_))))).mono ?_); rintro e w4 ⟨rfl, hb⟩; replace HX := Hd.mk (HX.out.below (bt3 hb (by (repeat (first | exact Below.refl _ _ | assumption | refine Below.drew ?_ | refine bdn ?_ | refine ba _ ?_ | refine bs0 _ _ ?_ ?_ | refine bs1 _ _ _ ?_ ?_ | refine bs2 _ _ _ _ ?_ ?_ | refine bs3 _ _ _ _ _ ?_ ?_ | refine bt3 (by assumption) ?_))))); clear hb) | (go_at_call 81; (with_reducible refine (HsS.out _ (HX.out.r0.below (by (repeat (first | exact Below.refl _ _ | assumption | refine Below.drew ?_ | refine bdn ?_ | refine ba _ ?_ | refine bs0 _ _ ?_ ?_ | refine bs1 _ _ _ ?_ ?_ | refine bs2 _ _ _ _ ?_ ?_ | refine bs3 _ _ _ _ _ ?_ ?_ | refine bt3 (by assumption) ?_))))).mono ?_); rintro e w4 ⟨rfl, hb⟩; replace HX := Hd.mk (HX.out.below (bt3 hb (by (repeat (first | exact Below.refl _ _ | assumption | refine Below.drew ?_ | refine bdn ?_ | refine ba _ ?_ | refine bs0 _ _ ?_ ?_ | refine bs1 _ _ _ ?_ ?_ | refine bs2 _ _ _ _ ?_ ?_ | refine bs3 _ _ _ _ _ ?_ ?_ | refine bt3 (by assumption) ?_))))); clear hb) | (go_at_call 82; (with_reducible refine (s_DrawRE A n c xs _ (HC.out.more' (bt3 (by (repeat (first | exact Below.refl _ _ | assumption | refine Below.drew ?_ | refine bdn ?_ | refine ba _ ?_ | refine bs0 _ _ ?_ ?_ | refine bs1 _ _ _ ?_ ?_ | refine bs2 _ _ _ _ ?_ ?_ | refine bs3 _ _ _ _ _ ?_ ?_ | refine bt3 (by assumption) ?_))) HX.out.bel))).mono ?_); rintro e w5 ⟨A5, n5, c5, os, m, rfl, h1, h2, h3, h4, hb⟩; replace HX := Hd.mk ((HX.out.below (bt3 hb (by (repeat (first | exact Below.refl _ _ | assumption | refine Below.drew ?_ | refine bdn ?_ | refine ba _ ?_ | refine bs0 _ _ ?_ ?_ | refine bs1 _ _ _ ?_ ?_ | refine bs2 _ _ _ _ ?_ ?_ | refine bs3 _ _ _ _ _ ?_ ?_ | refine bt3 (by assumption) ?_))))).set2 h3); have HL5 := Hd.mk (And.intro h1 (And.intro h2 h4)); clear h1 h2 h3 h4 hb))
    clear HiC HsC HiS HsS
    have HiR := Hd.mk (fun w hR => m_RoundE A5 n5 c5 os m w HL5.out.1 (by have := HL5.out.2.1; unfold LIM; omega) hR HL5.out.2.2)
    have HsR := Hd.mk (fun w hR => s_RoundE A5 n5 c5 os m w HL5.out.1 (by have := HL5.out.2.1; unfold LIM; omega) hR HL5.out.2.2)
    have HF5 := Hd.mk (fun w => l_f9 (reF os m) w (re_num os m).1 (re_num os m).2)
    unfold RetRE at HiR HsR
    generalize reF os m = rf at *
    generalize reFl os m = rl at *
    generalize reC os m = rc at *
    go_upto_if 193 with (first | (go_at_call 83; (with_reducible refine (HiR.out _ (HX.out.r2.below (by (repeat (first | exact Below.refl _ _ | assumption | refine Below.drew ?_ | refine bdn ?_ | refine ba _ ?_ | refine bs0 _ _ ?_ ?_ | refine bs1 _ _ _ ?_ ?_ | refine bs2 _ _ _ _ ?_ ?_ | refine bs3 _ _ _ _ _ ?_ ?_ | refine bt3 (by assumption) ?_))))).mono ?_); rintro e w4 ⟨rfl, hb⟩; replace HX := Hd.mk (HX.out.below (bt3 hb (by (repeat (first | exact Below.refl _ _ | assumption | refine Below.drew ?_ | refine bdn ?_ | refine ba _ ?_ | refine bs0 _ _ ?_ ?_ | refine bs1 _ _ _ ?_ ?_ | refine bs2 _ _ _ _ ?_ ?_ | refine bs3 _ _ _ _ _ ?_ ?_ | refine bt3 (by assumption) ?_))))); clear hb) | (go_at_call 84; (with_reducible refine (HsR.out _ (HX.out.r2.below (by (repeat (first | exact Below.refl _ _ | assumption | refine Below.drew ?_ | refine bdn ?_ | refine ba _ ?_ | refine bs0 _ _ ?_ ?_ | refine bs1 _ _ _ ?_ ?_ | refine bs2 _ _ _ _ ?_ ?_ | refine bs3 _ _ _ _ _ ?_ ?_ | refine bt3 (by assumption) ?_))))).mono ?_); rintro e w4 ⟨rfl, hb⟩; replace HX := Hd.mk (HX.out.below (bt3 hb (by (repeat (first | exact Below.refl _ _ | assumption | refine Below.drew ?_ | refine bdn ?_ | refine ba _ ?_ | refine bs0 _ _ ?_ ?_ | refine bs1 _ _ _ ?_ ?_ | refine bs2 _ _ _ _ ?_ ?_ | refine bs3 _ _ _ _ _ ?_ ?_ | refine bt3 (by assumption) ?_))))); clear hb) | (go_at_call 28; (with_reducible refine (HF5.out _).mono ?_); rintro e w' ⟨rfl, rfl⟩))
    clear HiR HsR HF5
    by_cases h0 : cc = 0
    · subst h0
      have HG := Hd.mk (HE.out.2.2.2 rfl)
      obtain rfl : lc = 0 := HV3.out.1.symm.trans HG.out.ls
      have hsg : sg = (sumv zs).sign := by rw [← HV3.out.2]; unfold sgE; rw [if_pos HG.out.ls]
      have HVZ := Hd.mk (fun w hR => i_ValueOfExp A3 n3 c3 zs w HL3.out.1 (by have := HL3.out.2.1; unfold LIM; omega) hR HL3.out.2.2)
      have HVC := Hd.mk (fun w hR => i_ValueOfExp A1 n1 c1 cl w HN1.out (by have := HN1.out; have := HE.out.2.1; unfold LIM; omega) hR (fun y hy => (HE.out.1 y hy).1))
      rw [show veV zs = sumv zs from if_pos HG.out.ls, HG.out.ls] at HVZ
      rw [show veV cl = sumv cl from if_pos HG.out.lz, HG.out.lz, HG.out.sum] at HVC
      have HSG := Hd.mk hsg
      clear hsg
      go_upto_region 35 with (first | (go_at_call 76; (with_reducible refine (HVZ.out _ (HX.out.r0.below (by (repeat (first | exact Below.refl _ _ | assumption | refine Below.drew ?_ | refine bdn ?_ | refine ba _ ?_ | refine bs0 _ _ ?_ ?_ | refine bs1 _ _ _ ?_ ?_ | refine bs2 _ _ _ _ ?_ ?_ | refine bs3 _ _ _ _ _ ?_ ?_ | refine bt3 (by assumption) ?_))))).mono ?_); rintro e w6 ⟨s6, A6, n6, c6, x6, rfl, hD, hb⟩; obtain ⟨L6, rfl, hO, hN⟩ := hD.dyn; skip; replace HX := Hd.mk ((HX.out.below (bt3 hb (by (repeat (first | exact Below.refl _ _ | assumption | refine Below.drew ?_ | refine bdn ?_ | refine ba _ ?_ | refine bs0 _ _ ?_ ?_ | refine bs1 _ _ _ ?_ ?_ | refine bs2 _ _ _ _ ?_ ?_ | refine bs3 _ _ _ _ _ ?_ ?_ | refine bt3 (by assumption) ?_))))).below (ba (Obj.cells #[.int .i64 s6, .slice A6 L6.length c6, .int .i64 x6] 66) (Below.refl _ _))); have D6 := Hd.mk (DyB.new hO hN); have N6 := Hd.mk hN; clear hD hO hN; obtain rfl : s6 = sg := N6.out.sgn.trans HSG.out.symm; have y6 : World.cell? (w6.alloc (Obj.cells #[.int .i64 s6, .slice A6 L6.length c6, .int .i64 x6] 66)) _ = some (.int .i64 s6) := D6.out.blk.cell 0; have v6 : World.cell? (w6.alloc (Obj.cells #[.int .i64 s6, .slice A6 L6.length c6, .int .i64 x6] 66)) _ = some (.slice A6 L6.length c6) := D6.out.blk.cell 1; have z6 : World.cell? (w6.alloc (Obj.cells #[.int .i64 s6, .slice A6 L6.length c6, .int .i64 x6] 66)) _ = some (.int .i64 x6) := D6.out.blk.cell 2; clear hb) | (go_at_call 76; (with_reducible refine (HVC.out _ (HX.out.r1.below (by (repeat (first | exact Below.refl _ _ | assumption | refine Below.drew ?_ | refine bdn ?_ | refine ba _ ?_ | refine bs0 _ _ ?_ ?_ | refine bs1 _ _ _ ?_ ?_ | refine bs2 _ _ _ _ ?_ ?_ | refine bs3 _ _ _ _ _ ?_ ?_ | refine bt3 (by assumption) ?_))))).mono ?_); rintro e w7 ⟨s7, A7, n7, c7, x7, rfl, hD, hb⟩; obtain ⟨L7, rfl, hO, hN⟩ := hD.dyn; obtain ⟨rfl, rfl, rfl⟩ := DyN.uniq N6.out hN; replace D6 := Hd.mk ((D6.out.below (bt3 hb (by (repeat (first | exact Below.refl _ _ | assumption | refine Below.drew ?_ | refine bdn ?_ | refine ba _ ?_ | refine bs0 _ _ ?_ ?_ | refine bs1 _ _ _ ?_ ?_ | refine bs2 _ _ _ _ ?_ ?_ | refine bs3 _ _ _ _ _ ?_ ?_ | refine bt3 (by assumption) ?_))))).below (ba (Obj.cells #[.int .i64 s6, .slice A7 L6.length c7, .int .i64 x6] 66) (Below.refl _ _))); replace HX := Hd.mk ((HX.out.below (bt3 hb (by (repeat (first | exact Below.refl _ _ | assumption | refine Below.drew ?_ | refine bdn ?_ | refine ba _ ?_ | refine bs0 _ _ ?_ ?_ | refine bs1 _ _ _ ?_ ?_ | refine bs2 _ _ _ _ ?_ ?_ | refine bs3 _ _ _ _ _ ?_ ?_ | refine bt3 (by assumption) ?_))))).below (ba (Obj.cells #[.int .i64 s6, .slice A7 L6.length c7, .int .i64 x6] 66) (Below.refl _ _))); have D7 := Hd.mk (DyB.new hO hN); have y6 : World.cell? (w7.alloc (Obj.cells #[.int .i64 s6, .slice A7 L6.length c7, .int .i64 x6] 66)) _ = some (.int .i64 s6) := D6.out.blk.cell 0; have v6 : World.cell? (w7.alloc (Obj.cells #[.int .i64 s6, .slice A7 L6.length c7, .int .i64 x6] 66)) _ = some (.slice A6 L6.length c6) := D6.out.blk.cell 1; have z6 : World.cell? (w7.alloc (Obj.cells #[.int .i64 s6, .slice A7 L6.length c7, .int .i64 x6] 66)) _ = some (.int .i64 x6) := D6.out.blk.cell 2; have y7 : World.cell? (w7.alloc (Obj.cells #[.int .i64 s6, .slice A7 L6.length c7, .int .i64 x6] 66)) _ = some (.int .i64 s6) := D7.out.blk.cell 0; have v7 : World.cell? (w7.alloc (Obj.cells #[.int .i64 s6, .slice A7 L6.length c7, .int .i64 x6] 66)) _ = some (.slice A7 L6.length c7) := D7.out.blk.cell 1; have z7 : World.cell? (w7.alloc (Obj.cells #[.int .i64 s6, .slice A7 L6.length c7, .int .i64 x6] 66)) _ = some (.int .i64 x6) := D7.out.blk.cell 2; clear hD hO hN hb) | (go_at_call 58; (with_reducible refine (l_dy9 s6 x6 A6 A7 _ c6 c7 L6 _ rfl D6.out.lim (D6.out.rd.below (by (repeat (first | exact Below.refl _ _ | assumption | refine Below.drew ?_ | refine bdn ?_ | refine ba _ ?_ | refine bs0 _ _ ?_ ?_ | refine bs1 _ _ _ ?_ ?_ | refine bs2 _ _ _ _ ?_ ?_ | refine bs3 _ _ _ _ _ ?_ ?_ | refine bt3 (by assumption) ?_)))) (D7.out.rd.below (by (repeat (first | exact Below.refl _ _ | assumption | refine Below.drew ?_ | refine bdn ?_ | refine ba _ ?_ | refine bs0 _ _ ?_ ?_ | refine bs1 _ _ _ ?_ ?_ | refine bs2 _ _ _ _ ?_ ?_ | refine bs3 _ _ _ _ _ ?_ ?_ | refine bt3 (by assumption) ?_))))).mono ?_); rintro e w8 ⟨rfl, hb⟩; replace HX := Hd.mk (HX.out.below (bt3 hb (by (repeat (first | exact Below.refl _ _ | assumption | refine Below.drew ?_ | refine bdn ?_ | refine ba _ ?_ | refine bs0 _ _ ?_ ?_ | refine bs1 _ _ _ ?_ ?_ | refine bs2 _ _ _ _ ?_ ?_ | refine bs3 _ _ _ _ _ ?_ ?_ | refine bt3 (by assumption) ?_))))); replace D6 := Hd.mk (D6.out.below (bt3 hb (by (repeat (first | exact Below.refl _ _ | assumption | refine Below.drew ?_ | refine bdn ?_ | refine ba _ ?_ | refine bs0 _ _ ?_ ?_ | refine bs1 _ _ _ ?_ ?_ | refine bs2 _ _ _ _ ?_ ?_ | refine bs3 _ _ _ _ _ ?_ ?_ | refine bt3 (by assumption) ?_))))); have y6 : World.cell? w8 _ = some (.int .i64 s6) := D6.out.blk.cell 0; have v6 : World.cell? w8 _ = some (.slice A6 L6.length c6) := D6.out.blk.cell 1; have z6 : World.cell? w8 _ = some (.int .i64 x6) := D6.out.blk.cell 2; clear hb))
      clear HVZ HVC HSG N6 HV3
      have hn1 : (n1 : Int) ≤ 9 := by have := HN1.out; have := HE.out.2.1; omega
      have HCL := Hd.mk (fun j (hj : j < cl.length) => HE.out.1 (cl.getD j 0) (by rw [List.getD_eq_getElem?_getD, List.getElem?_eq_getElem hj]; exact List.getElem_mem _))
      have HRW := Hd.mk (XH.start (l := cl) HX.out.bel HX.out.r1)
      clear HX D6 D7 y6 v6 z6 y7 v7 z7
      go_wp2_with fail
      go_loopw [38] (fun i wr => ∃ j : Nat, i = .int .i64 ((j : Int) + 1) ∧ Hd (XH w wr A1 cl none [] none [])) (fun i _ => 10 - (intOf i).toNat)
      case atStart => exact ⟨0, rfl, ⟨HRW.out.below (by (repeat (first | exact Below.refl _ _ | assumption | refine Below.drew ?_ | refine bdn ?_ | refine ba _ ?_ | refine bs0 _ _ ?_ ?_ | refine bs1 _ _ _ ?_ ?_ | refine bs2 _ _ _ _ ?_ ?_ | refine bs3 _ _ _ _ _ ?_ ?_ | refine bt3 (by assumption) ?_)))⟩⟩
      case round =>
        obtain ⟨j, rfl, HRW⟩ := hrel
        by_cases h1 : j + 1 < n1
        · have h1I : (j : Int) + 1 < (n1 : Int) := by omega
          have hj1 : j + 1 < cl.length := by have := HN1.out; omega
          have HP := Hd.mk (And.intro (HG.out.fall j hj1) (And.intro (HCL.out j (by omega)) (HCL.out (j + 1) hj1)))
          obtain ⟨ad, hA, hcx⟩ := HRW.out.r0.at_ (k := j) (by omega)
          subst hA
          obtain ⟨ad', hA', hcy⟩ := HRW.out.r0.at_ (k := j + 1) hj1
          obtain rfl := Option.some.inj hA'
          have HBB := Hd.mk HRW.out
          clear hA' HRW hj1
          generalize cl.getD j 0 = a at *
          generalize cl.getD (j + 1) 0 = b at *
          have hcz := hcy
          rw [show ad.add (j + 1) = ⟨ad.block, ad.off + (j + 1), none⟩ by unfold Addr.add; simp] at hcz
          have hcast : ((j + 1 : Nat) : Int) = (j : Int) + 1 := by omega
          have htn : ((j : Int) + 1).toNat = j + 1 := by omega
          have hnn : (0 : Int) ≤ (j : Int) + 1 := by omega
          have hj0 : (j : Int) < (n1 : Int) := by omega
          have hwr : IntKind.i64.wrap (j : Int) = (j : Int) := by rw [IntKind.wrap_i64]; omega
          have FL := Hd.mk (fl_facts HP.out.2.1.1 HP.out.2.1.2 HP.out.2.2.1 HP.out.2.2.2 HP.out.1.1 HP.out.1.2)
          clear HP h1
          obtain ⟨a1, b1, HFL⟩ := FL.out
          have ka := HFL.ka
          have kb := HFL.kb
          have hge := HFL.ge
          have hz := HFL.z
          have hwa := HFL.wa
          have hwb := HFL.wb
          clear FL HFL
          rcases hwa with ⟨_, rfl, ha⟩ | ⟨rfl, ha⟩ <;> rcases hwb with ⟨_, rfl, hb⟩ | ⟨rfl, hb⟩
          all_goals
            go_wp2
            go_quiet (fail)
            go_wp2_with fail
            go_roundw
            case rel => exact ⟨j + 1, by go_num, ⟨HBB.out.below (by (repeat (first | exact Below.refl _ _ | assumption | refine Below.drew ?_ | refine bdn ?_ | refine ba _ ?_ | refine bs0 _ _ ?_ ?_ | refine bs1 _ _ _ ?_ ?_ | refine bs2 _ _ _ _ ?_ ?_ | refine bs3 _ _ _ _ _ ?_ ?_ | refine bt3 (by assumption) ?_)))⟩⟩
            case measure => simp [intOf]; omega
        · have h1I : ¬ ((j : Int) + 1 < (n1 : Int)) := by omega
          go_wp2_with fail
          go_ret
          exact ⟨rfl, bt3 (by (repeat (first | exact Below.refl _ _ | assumption | refine Below.drew ?_ | refine bdn ?_ | refine ba _ ?_ | refine bs0 _ _ ?_ ?_ | refine bs1 _ _ _ ?_ ?_ | refine bs2 _ _ _ _ ?_ ?_ | refine bs3 _ _ _ _ _ ?_ ?_ | refine bt3 (by assumption) ?_))) HRW.out.bel⟩
    · have h1 := HE.out.2.2.1 h0
      have hn1 : n1 = 0 := by rw [HN1.out, h1]; rfl
      subst hn1
      have hk : (cc == 0) = false := by simpa using h0
      clear h0 h1
      go_wp2_with fail
      go_ret
      exact ⟨rfl, bt3 (by (repeat (first | exact Below.refl _ _ | assumption | refine Below.drew ?_ | refine bdn ?_ | refine ba _ ?_ | refine bs0 _ _ ?_ ?_ | refine bs1 _ _ _ ?_ ?_ | refine bs2 _ _ _ _ ?_ ?_ | refine bs3 _ _ _ _ _ ?_ ?_ | refine bt3 (by assumption) ?_))) HX.out.bel⟩
set_option maxRecDepth 100000 in
theorem ExpnE.lifted (os : Os) (started : os.Started) (H : Type) (enc : TypeId × Value → H) :
    ReturnsInHanded {} Tryz.checked os 10 .any (Rows.fnExpansionsSpec.pre6 enc Tryz.prog Tryz.f10 Rows.fnExpansionsRow.domain false) (Rows.fnExpansionsSpec.post enc Tryz.prog Tryz.f10 false true false false) := by
  refine returnsInHanded_of_change (C := Tryz.checked) rowOwn started (by kernel_rfl) Tryz.func10
    (ChangeSpec.witness6 (enc := enc) (C := Tryz.checked) false ⟨#[], #[.slice none 0 0], []⟩ 8 (by kernel_rfl) (by kernel_rfl) (by kernel_rfl) (by kernel_rfl)) ?_
  intro W base args ds gs before hval0 hW hcnd _
  have hval : ∀ (j : Nat) t v, Tryz.f10.params[j]? = some t → args[j]? = some v → Value.okWide Tryz.prog W .any base t v := hval0
  have hW' := hW
  obtain ⟨p, q, hA0, hV, rfl, hfz, hnd⟩ := hW
  have hA : DataW.TrodAll enc Tryz.prog W 0 (fun _ => true) true Tryz.f10.params.toList args.toList ds p := hA0
  rw [Tryz.params10] at hA hval
  obtain ⟨v0, vs0, d0, ds0, p0, q0, hv0, rfl, rfl, h0, r0⟩ := trodAll_cons hA
  obtain ⟨rfl, rfl, rfl⟩ := trodAll_nil r0
  obtain rfl : args = #[v0] := by cases args; simp_all
  obtain ⟨rfl, rfl⟩ := trodVars_none hV
  obtain ⟨A, n, c, xs, rfl, hn, hnc, hcm, hR, hx⟩ := open_by Tryz.underlying46 Tryz.underlying5 (by kernel_rfl) (hval 0 46 v0 rfl rfl) h0
  clear hA0 hval0
  refine (ExpnE.walk A n c xs W hn (Nat.le_trans hnc hcm) hR hx).mono fun e W' ⟨he, hg⟩ => ?_
  subst he
  exact ⟨_, rfl, post_law laidOut (by kernel_rfl) (by kernel_rfl) Tryz.underlying4 rfl hW' rfl hg⟩
theorem ExpnE.k10 : (Rows.fnExpansionsRow.inPlace == Tryz.prog.inPlace 10) = true := by kernel_rfl
theorem ExpnE.k11 : (Rows.fnExpansionsRow.unfollowed == Tryz.prog.unfollowed 10) = true := by kernel_rfl
theorem ExpnE.k12 : (Rows.fnExpansionsRow.recurses == Tryz.prog.recurses 10) = true := by kernel_rfl
theorem ExpnE.k13 : (Rows.fnExpansionsRow.named == Tryz.prog.varsNamed 10) = true := by kernel_rfl
theorem ExpnE.closed : joinedFacts Tryz.prog 10 Tryz.f10 Rows.fnExpansionsSpec Rows.fnExpansionsRow = true := by
  unfold joinedFacts
  simp only [Bool.and_eq_true]
  exact ⟨⟨⟨⟨⟨⟨⟨⟨⟨⟨⟨⟨⟨⟨⟨⟨⟨⟨⟨⟨⟨⟨⟨⟨⟨⟨⟨⟨⟨⟨⟨by kernel_rfl, laidOut⟩, fact_maps⟩, by kernel_rfl⟩, by kernel_rfl⟩, by kernel_rfl⟩, by kernel_rfl⟩, by kernel_rfl⟩, by kernel_rfl⟩, ExpnE.k10⟩, ExpnE.k11⟩, ExpnE.k12⟩, ExpnE.k13⟩, by kernel_rfl⟩, by kernel_rfl⟩, by kernel_rfl⟩, by kernel_rfl⟩, by kernel_rfl⟩, by kernel_rfl⟩, by kernel_rfl⟩, by kernel_rfl⟩, by kernel_rfl⟩, by kernel_rfl⟩, by kernel_rfl⟩, fact_stops⟩, fact_enter⟩, lifts_eq rfl⟩, by kernel_rfl⟩, by kernel_rfl⟩, by kernel_rfl⟩, by kernel_rfl⟩, by kernel_rfl⟩
theorem ExpnE.holds : Rows.FnExpansionsSaid :=
  OpenClaim.holds_of_wide 10 Tryz.f10 rfl rfl rfl rfl rfl rfl rfl ⟨rfl, rfl, rfl, rfl, rfl⟩ rfl rfl rfl rfl rfl (by kernel_rfl) Tryz.func10 ExpnE.closed
    (of_decide_eq_true (by kernel_rfl)) (by unfold Func.isWrapper; first | (rw [if_pos (by decide +kernel)]; kernel_rfl) | (rw [if_neg (by decide +kernel)]; exact ⟨rfl, rfl⟩))
    (fun os started H enc _ => ExpnE.lifted os started H enc)
#print axioms ExpnE.holds
end Go.Proofs.YtflgjecpjaiecaaGreat
