/- Gl: S25, merged. -/
import Derived.Test.YtmiafbbndonpaaaGj
/- Contracts: the halves of an interval, both sides. -/
set_option linter.unusedVariables false
set_option linter.unusedSimpArgs false
namespace Go.Proofs.Ytmiafbbndonpaaa
open Go.RowKit Num Flt
/-- the middle is one of the ends, as the language compares -/
def hvB (a b : Nat) : Bool := (FloatKind.f32.format.order (mdF a b) a == some .eq) || (FloatKind.f32.format.order (mdF a b) b == some .eq)
def hvC (a b : Nat) : Int := if IsIv a b then (if fin a ∧ fin b then (if hvB a b = true then 5 else 0) else 5) else 1
def hv1 (a b : Nat) : Nat := if hvC a b = 0 then a else 0
def hv2 (a b : Nat) : Nat := if hvC a b = 0 then mdF a b else 0
def hv3 (a b : Nat) : Nat := if hvC a b = 0 then b else 0
theorem hv_not {a b : Nat} {c : Int} (h : hvC a b = c) (hc : c ≠ 0) : hvC a b = c ∧ hv1 a b = 0 ∧ hv2 a b = 0 ∧ hv3 a b = 0 := by
  refine ⟨h, ?_, ?_, ?_⟩
  · unfold hv1; rw [h, if_neg hc]
  · unfold hv2; rw [h, if_neg hc]
  · unfold hv3; rw [h, if_neg hc]
theorem hv_bad {a b : Nat} (h : ¬ IsIv a b) : hvC a b = 1 ∧ hv1 a b = 0 ∧ hv2 a b = 0 ∧ hv3 a b = 0 := hv_not (by unfold hvC; rw [if_neg h]) (by omega)
theorem hv_inf {a b : Nat} (h : IsIv a b) (hn : ¬ (fin a ∧ fin b)) : hvC a b = 5 ∧ hv1 a b = 0 ∧ hv2 a b = 0 ∧ hv3 a b = 0 := hv_not (by unfold hvC; rw [if_pos h, if_neg hn]) (by omega)
theorem hv_eq {a b : Nat} (h : IsIv a b) (hn : fin a ∧ fin b) (hb : hvB a b = true) : hvC a b = 5 ∧ hv1 a b = 0 ∧ hv2 a b = 0 ∧ hv3 a b = 0 := hv_not (by unfold hvC; rw [if_pos h, if_pos hn, if_pos hb]) (by omega)
theorem hv_good {a b : Nat} (h : IsIv a b) (hn : fin a ∧ fin b) (hb : hvB a b = false) : hvC a b = 0 ∧ hv1 a b = a ∧ hv2 a b = mdF a b ∧ hv3 a b = b := by
  have h1 : hvC a b = 0 := by unfold hvC; rw [if_pos h, if_pos hn, hb]; rfl
  exact ⟨h1, by unfold hv1; rw [h1]; rfl, by unfold hv2; rw [h1]; rfl, by unfold hv3; rw [h1]; rfl⟩
theorem zp_zp (x : Nat) : zp (zp x) = zp x := by unfold zp; split <;> simp_all
theorem hv_num (a b : Nat) : ¬ nan (hv1 a b) ∧ ¬ nan (hv2 a b) ∧ ¬ nan (hv3 a b) := by
  by_cases h : hvC a b = 0
  · have hi : IsIv a b := by
      by_cases k : IsIv a b
      · exact k
      · rw [(hv_bad k).1] at h; omega
    unfold hv1 hv2 hv3
    rw [if_pos h, if_pos h, if_pos h]
    exact ⟨hi.1, (mdF_num a b).2, hi.2.1⟩
  · unfold hv1 hv2 hv3
    rw [if_neg h, if_neg h, if_neg h]
    decide
abbrev Wh3 (w : World) (a b : Nat) : World := ((w.alloc (Obj.cells #[.float .f32 a, .float .f32 b] 51)).alloc (Obj.cells #[.float .f32 0, .float .f32 0] 51)).alloc (Obj.cells #[.float .f32 0, .float .f32 0] 51)
structure HvH (w wx : World) (a b : Nat) : Prop where
  bel : Below w.heap.size w wx
  b0 : Blk wx w.heap.size 51 #[.float .f32 a, .float .f32 b]
  b1 : Blk wx (w.heap.size + 1) 51 #[.float .f32 0, .float .f32 0]
  b2 : Blk wx (w.heap.size + 1 + 1) 51 #[.float .f32 0, .float .f32 0]
theorem HvH.start (w : World) (a b : Nat) : HvH w (Wh3 w a b) a b := by
  refine ⟨ba _ (ba _ (ba _ (Below.refl _ _))), ((Blk.new _ _ _).alloc _).alloc _, ?_, ?_⟩
  · have := (Blk.new (w.alloc (Obj.cells #[.float .f32 a, .float .f32 b] 51)) 51 #[.float .f32 0, .float .f32 0]).alloc (Obj.cells #[.float .f32 0, .float .f32 0] 51)
    simpa [Wh3] using this
  · have := Blk.new ((w.alloc (Obj.cells #[.float .f32 a, .float .f32 b] 51)).alloc (Obj.cells #[.float .f32 0, .float .f32 0] 51)) 51 #[.float .f32 0, .float .f32 0]
    simpa [Wh3] using this
theorem HvH.below {w wb w' : World} {a b : Nat} (h : HvH w wb a b) (hb : Below wb.heap.size wb w') : HvH w w' a b :=
  ⟨bt3 hb h.bel, h.b0.below hb h.b0.lt, h.b1.below hb h.b1.lt, h.b2.below hb h.b2.lt⟩
def RetHV (a b : Nat) (w : World) : Ending → World → Prop := RetV (.tuple #[.agg #[.float .f32 (hv1 a b), .float .f32 (hv2 a b)], .agg #[.float .f32 (hv2 a b), .float .f32 (hv3 a b)], .int .i64 (hvC a b)]) w
set_option maxHeartbeats 4000000 in
theorem s_Halves (a b : Nat) (w : World) (ha : W a) (hb : W b) : Calls Try.prog 46 #[.agg #[.float .f32 a, .float .f32 b]] w (RetHV a b w) := by
  have HX : Hd (W a ∧ W b) := ⟨⟨ha, hb⟩⟩
  clear ha hb
  have HI := Hd.mk (fun w => s_Is a b w HX.out.1 HX.out.2)
  have HF := Hd.mk (fun w => s_Bounded a b w)
  have HH : Hd (HvH w (Wh3 w a b) a b) := ⟨HvH.start ..⟩
  by_cases h1 : IsIv a b
  · rw [decide_eq_true h1] at HI
    by_cases h2 : fin a ∧ fin b
    · rw [show (decide (fin a) && decide (fin b)) = true by simp [h2]] at HF
      have HC := Hd.mk (fun w => s_Middle a b w HX.out.1 HX.out.2 h2.1 h2.2)
      have HZ : Hd (zp a = a ∧ zp b = b ∧ zp (mdF a b) = mdF a b) := ⟨⟨zp_plain (iv_lo h1), zp_plain (iv_hi h1), zp_zp _⟩⟩
      have HM := Hd.mk (mdF_num a b)
      cases h3 : hvB a b
      · have HV := Hd.mk (hv_good h1 h2 h3)
        unfold hvB at h3
        generalize mdF a b = m at *
        obtain ⟨h4, h5⟩ := Bool.or_eq_false_iff.1 h3
        clear h1 h2 h3
        go_enter Try.func46, Try.ntmps46
        go_wp2_with (first | (go_at_call 76; (with_reducible refine (HI.out _).mono ?_); rintro e w1 ⟨rfl, hb⟩; replace HH := Hd.mk (HH.out.below hb); have c0 : w1.cell? _ = some (.float .f32 a) := HH.out.b0.cell 0; have c1 : w1.cell? _ = some (.float .f32 b) := HH.out.b0.cell 1; have r0 : w1.cell? _ = some (.float .f32 0) := HH.out.b1.cell 0; have r1 : w1.cell? _ = some (.float .f32 0) := HH.out.b1.cell 1; have r2 : w1.cell? _ = some (.float .f32 0) := HH.out.b2.cell 0; have r3 : w1.cell? _ = some (.float .f32 0) := HH.out.b2.cell 1; have q0 := HH.out.b1.frozen 0; have q1 := HH.out.b1.frozen 1; have q2 := HH.out.b2.frozen 0; have q3 := HH.out.b2.frozen 1; have hl2 := HH.out.b2.lt; clear hb) | (go_at_call 89; (with_reducible refine (HF.out _).mono ?_); rintro e w1 ⟨rfl, hb⟩; replace HH := Hd.mk (HH.out.below hb); have c0 : w1.cell? _ = some (.float .f32 a) := HH.out.b0.cell 0; have c1 : w1.cell? _ = some (.float .f32 b) := HH.out.b0.cell 1; have r0 : w1.cell? _ = some (.float .f32 0) := HH.out.b1.cell 0; have r1 : w1.cell? _ = some (.float .f32 0) := HH.out.b1.cell 1; have r2 : w1.cell? _ = some (.float .f32 0) := HH.out.b2.cell 0; have r3 : w1.cell? _ = some (.float .f32 0) := HH.out.b2.cell 1; have q0 := HH.out.b1.frozen 0; have q1 := HH.out.b1.frozen 1; have q2 := HH.out.b2.frozen 0; have q3 := HH.out.b2.frozen 1; have hl2 := HH.out.b2.lt; clear hb) | (go_at_call 90; (with_reducible refine (HC.out _).mono ?_); rintro e w1 ⟨rfl, hb⟩; replace HH := Hd.mk (HH.out.below hb); have c0 : w1.cell? _ = some (.float .f32 a) := HH.out.b0.cell 0; have c1 : w1.cell? _ = some (.float .f32 b) := HH.out.b0.cell 1; have r0 : w1.cell? _ = some (.float .f32 0) := HH.out.b1.cell 0; have r1 : w1.cell? _ = some (.float .f32 0) := HH.out.b1.cell 1; have r2 : w1.cell? _ = some (.float .f32 0) := HH.out.b2.cell 0; have r3 : w1.cell? _ = some (.float .f32 0) := HH.out.b2.cell 1; have q0 := HH.out.b1.frozen 0; have q1 := HH.out.b1.frozen 1; have q2 := HH.out.b2.frozen 0; have q3 := HH.out.b2.frozen 1; have hl2 := HH.out.b2.lt; clear hb))
        have n1 : ¬ (w.heap.size + 1 = w.heap.size) := by omega
        have n2 : ¬ (w.heap.size + 1 + 1 = w.heap.size) := by omega
        have n3 : ¬ (w.heap.size + 1 + 1 = w.heap.size + 1) := by omega
        go_region_held3 (fun w' => w'.cell? ⟨w.heap.size, 0, none⟩ = some (.float .f32 a) ∧ w'.cell? ⟨w.heap.size, 1, none⟩ = some (.float .f32 b)) ((first | assumption | (refine keep2 ?_ ⟨c0, c1⟩; (repeat (first | exact Below.refl _ _ | assumption | refine Below.drew ?_ | refine bdn ?_ | refine ba _ ?_ | refine bs0 _ _ ?_ ?_ | refine bs1 _ _ _ ?_ ?_ | refine bs2 _ _ _ _ ?_ ?_ | refine bs3 _ _ _ _ _ ?_ ?_ | refine bt3 (by assumption) ?_)); done) | go_keep | (refine ⟨?_, ?_⟩ <;> go_simp) | (constructor <;> go_simp)))
          (first | (go_at_call 101; (with_reducible refine (s_Make a m _ HX.out.1 HM.out.1).mono ?_); rintro e w4 ⟨rfl, hb⟩; have hq4 : Below w1.heap.size w1 w4 := bt3 hb (by (repeat (first | exact Below.refl _ _ | assumption | refine Below.drew ?_ | refine bdn ?_ | refine ba _ ?_ | refine bs0 _ _ ?_ ?_ | refine bs1 _ _ _ ?_ ?_ | refine bs2 _ _ _ _ ?_ ?_ | refine bs3 _ _ _ _ _ ?_ ?_ | refine bt3 (by assumption) ?_))); clear hb) | (go_at_call 101; (with_reducible refine (s_Make m b _ HM.out.1 HX.out.2).mono ?_); rintro e w5 ⟨rfl, hb⟩; have hq5 : Below w1.heap.size w1 w5 := bt3 hb (by (repeat (first | exact Below.refl _ _ | assumption | refine Below.drew ?_ | refine bdn ?_ | refine ba _ ?_ | refine bs0 _ _ ?_ ?_ | refine bs1 _ _ _ ?_ ?_ | refine bs2 _ _ _ _ ?_ ?_ | refine bs3 _ _ _ _ _ ?_ ?_ | refine bt3 (by assumption) ?_))); replace HH := Hd.mk (HH.out.below hq5); have g0 : w5.cell? _ = some (.float .f32 a) := HH.out.b0.cell 0; have g1 : w5.cell? _ = some (.float .f32 b) := HH.out.b0.cell 1; have k0 : w5.cell? _ = some (.float .f32 0) := HH.out.b1.cell 0; have k1 : w5.cell? _ = some (.float .f32 0) := HH.out.b1.cell 1; have k2 : w5.cell? _ = some (.float .f32 0) := HH.out.b2.cell 0; have k3 : w5.cell? _ = some (.float .f32 0) := HH.out.b2.cell 1; have p0 := HH.out.b1.frozen 0; have p1 := HH.out.b1.frozen 1; have p2 := HH.out.b2.frozen 0; have p3 := HH.out.b2.frozen 1; have hl5 := HH.out.b2.lt; clear hb))
        all_goals
          go_wp2_with fail
          refine bodyPost_ret (v := .tuple #[.agg #[.float .f32 (zp a), .float .f32 (zp m)], .agg #[.float .f32 (zp m), .float .f32 (zp b)], .int .i64 0]) (by simp (maxDischargeDepth := 7) [results, Try.results46, go_sem, *]) rfl ⟨?_, ?_⟩
          · rw [HV.out.1, HV.out.2.1, HV.out.2.2.1, HV.out.2.2.2, HZ.out.1, HZ.out.2.1, HZ.out.2.2]
          · (have hbb := HH.out.bel; (repeat (first | exact Below.refl _ _ | assumption | refine Below.drew ?_ | refine bdn ?_ | refine ba _ ?_ | refine bs0 _ _ ?_ ?_ | refine bs1 _ _ _ ?_ ?_ | refine bs2 _ _ _ _ ?_ ?_ | refine bs3 _ _ _ _ _ ?_ ?_ | refine bt3 (by assumption) ?_)))
      · have HV := Hd.mk (hv_eq h1 h2 h3)
        unfold hvB at h3
        generalize mdF a b = m at *
        have h4 : (FloatKind.f32.format.order m a == some .eq) = true ∨ ((FloatKind.f32.format.order m a == some .eq) = false ∧ (FloatKind.f32.format.order m b == some .eq) = true) := by
          cases h : (FloatKind.f32.format.order m a == some .eq)
          · rw [h] at h3; exact Or.inr ⟨rfl, by simpa using h3⟩
          · exact Or.inl rfl
        clear h1 h2 h3
        rcases h4 with h4 | ⟨h4, h5⟩
        · go_enter Try.func46, Try.ntmps46
          go_wp2_with (first | (go_at_call 76; (with_reducible refine (HI.out _).mono ?_); rintro e w1 ⟨rfl, hb⟩; replace HH := Hd.mk (HH.out.below hb); have c0 : w1.cell? _ = some (.float .f32 a) := HH.out.b0.cell 0; have c1 : w1.cell? _ = some (.float .f32 b) := HH.out.b0.cell 1; have r0 : w1.cell? _ = some (.float .f32 0) := HH.out.b1.cell 0; have r1 : w1.cell? _ = some (.float .f32 0) := HH.out.b1.cell 1; have r2 : w1.cell? _ = some (.float .f32 0) := HH.out.b2.cell 0; have r3 : w1.cell? _ = some (.float .f32 0) := HH.out.b2.cell 1; have q0 := HH.out.b1.frozen 0; have q1 := HH.out.b1.frozen 1; have q2 := HH.out.b2.frozen 0; have q3 := HH.out.b2.frozen 1; have hl2 := HH.out.b2.lt; clear hb) | (go_at_call 89; (with_reducible refine (HF.out _).mono ?_); rintro e w1 ⟨rfl, hb⟩; replace HH := Hd.mk (HH.out.below hb); have c0 : w1.cell? _ = some (.float .f32 a) := HH.out.b0.cell 0; have c1 : w1.cell? _ = some (.float .f32 b) := HH.out.b0.cell 1; have r0 : w1.cell? _ = some (.float .f32 0) := HH.out.b1.cell 0; have r1 : w1.cell? _ = some (.float .f32 0) := HH.out.b1.cell 1; have r2 : w1.cell? _ = some (.float .f32 0) := HH.out.b2.cell 0; have r3 : w1.cell? _ = some (.float .f32 0) := HH.out.b2.cell 1; have q0 := HH.out.b1.frozen 0; have q1 := HH.out.b1.frozen 1; have q2 := HH.out.b2.frozen 0; have q3 := HH.out.b2.frozen 1; have hl2 := HH.out.b2.lt; clear hb) | (go_at_call 90; (with_reducible refine (HC.out _).mono ?_); rintro e w1 ⟨rfl, hb⟩; replace HH := Hd.mk (HH.out.below hb); have c0 : w1.cell? _ = some (.float .f32 a) := HH.out.b0.cell 0; have c1 : w1.cell? _ = some (.float .f32 b) := HH.out.b0.cell 1; have r0 : w1.cell? _ = some (.float .f32 0) := HH.out.b1.cell 0; have r1 : w1.cell? _ = some (.float .f32 0) := HH.out.b1.cell 1; have r2 : w1.cell? _ = some (.float .f32 0) := HH.out.b2.cell 0; have r3 : w1.cell? _ = some (.float .f32 0) := HH.out.b2.cell 1; have q0 := HH.out.b1.frozen 0; have q1 := HH.out.b1.frozen 1; have q2 := HH.out.b2.frozen 0; have q3 := HH.out.b2.frozen 1; have hl2 := HH.out.b2.lt; clear hb))
          refine bodyPost_ret (v := .tuple #[.agg #[.float .f32 0, .float .f32 0], .agg #[.float .f32 0, .float .f32 0], .int .i64 5]) (by simp (maxDischargeDepth := 7) [results, Try.results46, go_sem, *]) rfl ⟨?_, ?_⟩
          · rw [HV.out.1, HV.out.2.1, HV.out.2.2.1, HV.out.2.2.2]
          · (have hbb := HH.out.bel; (repeat (first | exact Below.refl _ _ | assumption | refine Below.drew ?_ | refine bdn ?_ | refine ba _ ?_ | refine bs0 _ _ ?_ ?_ | refine bs1 _ _ _ ?_ ?_ | refine bs2 _ _ _ _ ?_ ?_ | refine bs3 _ _ _ _ _ ?_ ?_ | refine bt3 (by assumption) ?_)))
        · go_enter Try.func46, Try.ntmps46
          go_wp2_with (first | (go_at_call 76; (with_reducible refine (HI.out _).mono ?_); rintro e w1 ⟨rfl, hb⟩; replace HH := Hd.mk (HH.out.below hb); have c0 : w1.cell? _ = some (.float .f32 a) := HH.out.b0.cell 0; have c1 : w1.cell? _ = some (.float .f32 b) := HH.out.b0.cell 1; have r0 : w1.cell? _ = some (.float .f32 0) := HH.out.b1.cell 0; have r1 : w1.cell? _ = some (.float .f32 0) := HH.out.b1.cell 1; have r2 : w1.cell? _ = some (.float .f32 0) := HH.out.b2.cell 0; have r3 : w1.cell? _ = some (.float .f32 0) := HH.out.b2.cell 1; have q0 := HH.out.b1.frozen 0; have q1 := HH.out.b1.frozen 1; have q2 := HH.out.b2.frozen 0; have q3 := HH.out.b2.frozen 1; have hl2 := HH.out.b2.lt; clear hb) | (go_at_call 89; (with_reducible refine (HF.out _).mono ?_); rintro e w1 ⟨rfl, hb⟩; replace HH := Hd.mk (HH.out.below hb); have c0 : w1.cell? _ = some (.float .f32 a) := HH.out.b0.cell 0; have c1 : w1.cell? _ = some (.float .f32 b) := HH.out.b0.cell 1; have r0 : w1.cell? _ = some (.float .f32 0) := HH.out.b1.cell 0; have r1 : w1.cell? _ = some (.float .f32 0) := HH.out.b1.cell 1; have r2 : w1.cell? _ = some (.float .f32 0) := HH.out.b2.cell 0; have r3 : w1.cell? _ = some (.float .f32 0) := HH.out.b2.cell 1; have q0 := HH.out.b1.frozen 0; have q1 := HH.out.b1.frozen 1; have q2 := HH.out.b2.frozen 0; have q3 := HH.out.b2.frozen 1; have hl2 := HH.out.b2.lt; clear hb) | (go_at_call 90; (with_reducible refine (HC.out _).mono ?_); rintro e w1 ⟨rfl, hb⟩; replace HH := Hd.mk (HH.out.below hb); have c0 : w1.cell? _ = some (.float .f32 a) := HH.out.b0.cell 0; have c1 : w1.cell? _ = some (.float .f32 b) := HH.out.b0.cell 1; have r0 : w1.cell? _ = some (.float .f32 0) := HH.out.b1.cell 0; have r1 : w1.cell? _ = some (.float .f32 0) := HH.out.b1.cell 1; have r2 : w1.cell? _ = some (.float .f32 0) := HH.out.b2.cell 0; have r3 : w1.cell? _ = some (.float .f32 0) := HH.out.b2.cell 1; have q0 := HH.out.b1.frozen 0; have q1 := HH.out.b1.frozen 1; have q2 := HH.out.b2.frozen 0; have q3 := HH.out.b2.frozen 1; have hl2 := HH.out.b2.lt; clear hb))
          refine bodyPost_ret (v := .tuple #[.agg #[.float .f32 0, .float .f32 0], .agg #[.float .f32 0, .float .f32 0], .int .i64 5]) (by simp (maxDischargeDepth := 7) [results, Try.results46, go_sem, *]) rfl ⟨?_, ?_⟩
          · rw [HV.out.1, HV.out.2.1, HV.out.2.2.1, HV.out.2.2.2]
          · (have hbb := HH.out.bel; (repeat (first | exact Below.refl _ _ | assumption | refine Below.drew ?_ | refine bdn ?_ | refine ba _ ?_ | refine bs0 _ _ ?_ ?_ | refine bs1 _ _ _ ?_ ?_ | refine bs2 _ _ _ _ ?_ ?_ | refine bs3 _ _ _ _ _ ?_ ?_ | refine bt3 (by assumption) ?_)))
    · rw [show (decide (fin a) && decide (fin b)) = false by simpa using h2] at HF
      have HV := Hd.mk (hv_inf h1 h2)
      clear h1 h2
      go_enter Try.func46, Try.ntmps46
      go_wp2_with (first | (go_at_call 76; (with_reducible refine (HI.out _).mono ?_); rintro e w1 ⟨rfl, hb⟩; replace HH := Hd.mk (HH.out.below hb); have c0 : w1.cell? _ = some (.float .f32 a) := HH.out.b0.cell 0; have c1 : w1.cell? _ = some (.float .f32 b) := HH.out.b0.cell 1; have r0 : w1.cell? _ = some (.float .f32 0) := HH.out.b1.cell 0; have r1 : w1.cell? _ = some (.float .f32 0) := HH.out.b1.cell 1; have r2 : w1.cell? _ = some (.float .f32 0) := HH.out.b2.cell 0; have r3 : w1.cell? _ = some (.float .f32 0) := HH.out.b2.cell 1; have q0 := HH.out.b1.frozen 0; have q1 := HH.out.b1.frozen 1; have q2 := HH.out.b2.frozen 0; have q3 := HH.out.b2.frozen 1; have hl2 := HH.out.b2.lt; clear hb) | (go_at_call 89; (with_reducible refine (HF.out _).mono ?_); rintro e w1 ⟨rfl, hb⟩; replace HH := Hd.mk (HH.out.below hb); have c0 : w1.cell? _ = some (.float .f32 a) := HH.out.b0.cell 0; have c1 : w1.cell? _ = some (.float .f32 b) := HH.out.b0.cell 1; have r0 : w1.cell? _ = some (.float .f32 0) := HH.out.b1.cell 0; have r1 : w1.cell? _ = some (.float .f32 0) := HH.out.b1.cell 1; have r2 : w1.cell? _ = some (.float .f32 0) := HH.out.b2.cell 0; have r3 : w1.cell? _ = some (.float .f32 0) := HH.out.b2.cell 1; have q0 := HH.out.b1.frozen 0; have q1 := HH.out.b1.frozen 1; have q2 := HH.out.b2.frozen 0; have q3 := HH.out.b2.frozen 1; have hl2 := HH.out.b2.lt; clear hb))
      refine bodyPost_ret (v := .tuple #[.agg #[.float .f32 0, .float .f32 0], .agg #[.float .f32 0, .float .f32 0], .int .i64 5]) (by simp (maxDischargeDepth := 7) [results, Try.results46, go_sem, *]) rfl ⟨?_, ?_⟩
      · rw [HV.out.1, HV.out.2.1, HV.out.2.2.1, HV.out.2.2.2]
      · (have hbb := HH.out.bel; (repeat (first | exact Below.refl _ _ | assumption | refine Below.drew ?_ | refine bdn ?_ | refine ba _ ?_ | refine bs0 _ _ ?_ ?_ | refine bs1 _ _ _ ?_ ?_ | refine bs2 _ _ _ _ ?_ ?_ | refine bs3 _ _ _ _ _ ?_ ?_ | refine bt3 (by assumption) ?_)))
  · rw [decide_eq_false h1] at HI
    have HV := Hd.mk (hv_bad h1)
    clear h1
    go_enter Try.func46, Try.ntmps46
    go_wp2_with (first | (go_at_call 76; (with_reducible refine (HI.out _).mono ?_); rintro e w1 ⟨rfl, hb⟩; replace HH := Hd.mk (HH.out.below hb); have c0 : w1.cell? _ = some (.float .f32 a) := HH.out.b0.cell 0; have c1 : w1.cell? _ = some (.float .f32 b) := HH.out.b0.cell 1; have r0 : w1.cell? _ = some (.float .f32 0) := HH.out.b1.cell 0; have r1 : w1.cell? _ = some (.float .f32 0) := HH.out.b1.cell 1; have r2 : w1.cell? _ = some (.float .f32 0) := HH.out.b2.cell 0; have r3 : w1.cell? _ = some (.float .f32 0) := HH.out.b2.cell 1; have q0 := HH.out.b1.frozen 0; have q1 := HH.out.b1.frozen 1; have q2 := HH.out.b2.frozen 0; have q3 := HH.out.b2.frozen 1; have hl2 := HH.out.b2.lt; clear hb))
    refine bodyPost_ret (v := .tuple #[.agg #[.float .f32 0, .float .f32 0], .agg #[.float .f32 0, .float .f32 0], .int .i64 1]) (by simp (maxDischargeDepth := 7) [results, Try.results46, go_sem, *]) rfl ⟨?_, ?_⟩
    · rw [HV.out.1, HV.out.2.1, HV.out.2.2.1, HV.out.2.2.2]
    · (have hbb := HH.out.bel; (repeat (first | exact Below.refl _ _ | assumption | refine Below.drew ?_ | refine bdn ?_ | refine ba _ ?_ | refine bs0 _ _ ?_ ?_ | refine bs1 _ _ _ ?_ ?_ | refine bs2 _ _ _ _ ?_ ?_ | refine bs3 _ _ _ _ _ ?_ ?_ | refine bt3 (by assumption) ?_)))
/-- what halves answers for finite ends -/
def RetHw (a b : Nat) (ok : Bool) (w : World) : Ending → World → Prop := RetV (.tuple #[.agg #[.float .f32 (if ok = true then a else 0), .float .f32 (if ok = true then mdF a b else 0)], .agg #[.float .f32 (if ok = true then mdF a b else 0), .float .f32 (if ok = true then b else 0)], .bool ok]) w
set_option maxHeartbeats 4000000 in
theorem i_halvesN (a b : Nat) (w : World) (hi : IsIv a b) (h2 : ¬ (fin a ∧ fin b)) : Calls Try.prog 102 #[.agg #[.float .f32 a, .float .f32 b]] w (RetHw a b false w) := by
  have HF := Hd.mk (fun w => i_endless a b w hi.1 hi.2.1)
  have HH : Hd (HvH w (Wh3 w a b) a b) := ⟨HvH.start ..⟩
  rw [show (decide (fin a) && decide (fin b)) = false by simpa using h2] at HF
  clear hi h2
  go_enter Try.func102, Try.ntmps102
  go_wp2_with (first | (go_at_call 91; (with_reducible refine (HF.out _).mono ?_); rintro e w1 ⟨rfl, hb⟩; replace HH := Hd.mk (HH.out.below hb); have c0 : w1.cell? _ = some (.float .f32 a) := HH.out.b0.cell 0; have c1 : w1.cell? _ = some (.float .f32 b) := HH.out.b0.cell 1; have r0 : w1.cell? _ = some (.float .f32 0) := HH.out.b1.cell 0; have r1 : w1.cell? _ = some (.float .f32 0) := HH.out.b1.cell 1; have r2 : w1.cell? _ = some (.float .f32 0) := HH.out.b2.cell 0; have r3 : w1.cell? _ = some (.float .f32 0) := HH.out.b2.cell 1; have q0 := HH.out.b1.frozen 0; have q1 := HH.out.b1.frozen 1; have q2 := HH.out.b2.frozen 0; have q3 := HH.out.b2.frozen 1; have hl2 := HH.out.b2.lt; clear hb))
  refine bodyPost_ret (v := .tuple #[.agg #[.float .f32 0, .float .f32 0], .agg #[.float .f32 0, .float .f32 0], .bool false]) (by simp (maxDischargeDepth := 7) [results, Try.results102, go_sem, *]) rfl ⟨?_, ?_⟩
  · simp
  · (have hbb := HH.out.bel; (repeat (first | exact Below.refl _ _ | assumption | refine Below.drew ?_ | refine bdn ?_ | refine ba _ ?_ | refine bs0 _ _ ?_ ?_ | refine bs1 _ _ _ ?_ ?_ | refine bs2 _ _ _ _ ?_ ?_ | refine bs3 _ _ _ _ _ ?_ ?_ | refine bt3 (by assumption) ?_)))
set_option maxHeartbeats 4000000 in
theorem i_halvesF (a b : Nat) (w : World) (ha : W a) (hb : W b) (hi : IsIv a b) (h2 : fin a ∧ fin b) : Calls Try.prog 102 #[.agg #[.float .f32 a, .float .f32 b]] w (RetHw a b (!hvB a b) w) := by
  have HF := Hd.mk (fun w => i_endless a b w hi.1 hi.2.1)
  have HH : Hd (HvH w (Wh3 w a b) a b) := ⟨HvH.start ..⟩
  rw [show (decide (fin a) && decide (fin b)) = true by simp [h2]] at HF
  have HC := Hd.mk (fun w => i_Middle a b w ha hb h2.1 h2.2)
  unfold RetHw
  cases h3 : hvB a b
  · unfold hvB at h3
    generalize mdF a b = m at *
    obtain ⟨h4, h5⟩ := Bool.or_eq_false_iff.1 h3
    clear h2 h3 hi ha hb
    go_enter Try.func102, Try.ntmps102
    go_wp2_with (first | (go_at_call 91; (with_reducible refine (HF.out _).mono ?_); rintro e w1 ⟨rfl, hb⟩; replace HH := Hd.mk (HH.out.below hb); have c0 : w1.cell? _ = some (.float .f32 a) := HH.out.b0.cell 0; have c1 : w1.cell? _ = some (.float .f32 b) := HH.out.b0.cell 1; have r0 : w1.cell? _ = some (.float .f32 0) := HH.out.b1.cell 0; have r1 : w1.cell? _ = some (.float .f32 0) := HH.out.b1.cell 1; have r2 : w1.cell? _ = some (.float .f32 0) := HH.out.b2.cell 0; have r3 : w1.cell? _ = some (.float .f32 0) := HH.out.b2.cell 1; have q0 := HH.out.b1.frozen 0; have q1 := HH.out.b1.frozen 1; have q2 := HH.out.b2.frozen 0; have q3 := HH.out.b2.frozen 1; have hl2 := HH.out.b2.lt; clear hb) | (go_at_call 92; (with_reducible refine (HC.out _).mono ?_); rintro e w1 ⟨rfl, hb⟩; replace HH := Hd.mk (HH.out.below hb); have c0 : w1.cell? _ = some (.float .f32 a) := HH.out.b0.cell 0; have c1 : w1.cell? _ = some (.float .f32 b) := HH.out.b0.cell 1; have r0 : w1.cell? _ = some (.float .f32 0) := HH.out.b1.cell 0; have r1 : w1.cell? _ = some (.float .f32 0) := HH.out.b1.cell 1; have r2 : w1.cell? _ = some (.float .f32 0) := HH.out.b2.cell 0; have r3 : w1.cell? _ = some (.float .f32 0) := HH.out.b2.cell 1; have q0 := HH.out.b1.frozen 0; have q1 := HH.out.b1.frozen 1; have q2 := HH.out.b2.frozen 0; have q3 := HH.out.b2.frozen 1; have hl2 := HH.out.b2.lt; clear hb))
    have n1 : ¬ (w.heap.size + 1 = w.heap.size) := by omega
    have n2 : ¬ (w.heap.size + 1 + 1 = w.heap.size) := by omega
    have n3 : ¬ (w.heap.size + 1 + 1 = w.heap.size + 1) := by omega
    go_region_held3 (fun w' => w'.cell? ⟨w.heap.size, 0, none⟩ = some (.float .f32 a) ∧ w'.cell? ⟨w.heap.size, 1, none⟩ = some (.float .f32 b)) ((first | assumption | go_keep | (refine ⟨?_, ?_⟩ <;> go_simp) | (constructor <;> go_simp)))
      (first | fail)
    all_goals
      go_wp2_with fail
      refine bodyPost_ret (v := .tuple #[.agg #[.float .f32 a, .float .f32 m], .agg #[.float .f32 m, .float .f32 b], .bool true]) (by simp (maxDischargeDepth := 7) [results, Try.results102, go_sem, *]) rfl ⟨?_, ?_⟩
      · simp
      · (have hbb := HH.out.bel; (repeat (first | exact Below.refl _ _ | assumption | refine Below.drew ?_ | refine bdn ?_ | refine ba _ ?_ | refine bs0 _ _ ?_ ?_ | refine bs1 _ _ _ ?_ ?_ | refine bs2 _ _ _ _ ?_ ?_ | refine bs3 _ _ _ _ _ ?_ ?_ | refine bt3 (by assumption) ?_)))
  · unfold hvB at h3
    generalize mdF a b = m at *
    have h4 : (FloatKind.f32.format.order m a == some .eq) = true ∨ ((FloatKind.f32.format.order m a == some .eq) = false ∧ (FloatKind.f32.format.order m b == some .eq) = true) := by
      cases h : (FloatKind.f32.format.order m a == some .eq)
      · rw [h] at h3; exact Or.inr ⟨rfl, by simpa using h3⟩
      · exact Or.inl rfl
    clear h2 h3 hi ha hb
    rcases h4 with h4 | ⟨h4, h5⟩
    · go_enter Try.func102, Try.ntmps102
      go_wp2_with (first | (go_at_call 91; (with_reducible refine (HF.out _).mono ?_); rintro e w1 ⟨rfl, hb⟩; replace HH := Hd.mk (HH.out.below hb); have c0 : w1.cell? _ = some (.float .f32 a) := HH.out.b0.cell 0; have c1 : w1.cell? _ = some (.float .f32 b) := HH.out.b0.cell 1; have r0 : w1.cell? _ = some (.float .f32 0) := HH.out.b1.cell 0; have r1 : w1.cell? _ = some (.float .f32 0) := HH.out.b1.cell 1; have r2 : w1.cell? _ = some (.float .f32 0) := HH.out.b2.cell 0; have r3 : w1.cell? _ = some (.float .f32 0) := HH.out.b2.cell 1; have q0 := HH.out.b1.frozen 0; have q1 := HH.out.b1.frozen 1; have q2 := HH.out.b2.frozen 0; have q3 := HH.out.b2.frozen 1; have hl2 := HH.out.b2.lt; clear hb) | (go_at_call 92; (with_reducible refine (HC.out _).mono ?_); rintro e w1 ⟨rfl, hb⟩; replace HH := Hd.mk (HH.out.below hb); have c0 : w1.cell? _ = some (.float .f32 a) := HH.out.b0.cell 0; have c1 : w1.cell? _ = some (.float .f32 b) := HH.out.b0.cell 1; have r0 : w1.cell? _ = some (.float .f32 0) := HH.out.b1.cell 0; have r1 : w1.cell? _ = some (.float .f32 0) := HH.out.b1.cell 1; have r2 : w1.cell? _ = some (.float .f32 0) := HH.out.b2.cell 0; have r3 : w1.cell? _ = some (.float .f32 0) := HH.out.b2.cell 1; have q0 := HH.out.b1.frozen 0; have q1 := HH.out.b1.frozen 1; have q2 := HH.out.b2.frozen 0; have q3 := HH.out.b2.frozen 1; have hl2 := HH.out.b2.lt; clear hb))
      refine bodyPost_ret (v := .tuple #[.agg #[.float .f32 0, .float .f32 0], .agg #[.float .f32 0, .float .f32 0], .bool false]) (by simp (maxDischargeDepth := 7) [results, Try.results102, go_sem, *]) rfl ⟨?_, ?_⟩
      · simp
      · (have hbb := HH.out.bel; (repeat (first | exact Below.refl _ _ | assumption | refine Below.drew ?_ | refine bdn ?_ | refine ba _ ?_ | refine bs0 _ _ ?_ ?_ | refine bs1 _ _ _ ?_ ?_ | refine bs2 _ _ _ _ ?_ ?_ | refine bs3 _ _ _ _ _ ?_ ?_ | refine bt3 (by assumption) ?_)))
    · go_enter Try.func102, Try.ntmps102
      go_wp2_with (first | (go_at_call 91; (with_reducible refine (HF.out _).mono ?_); rintro e w1 ⟨rfl, hb⟩; replace HH := Hd.mk (HH.out.below hb); have c0 : w1.cell? _ = some (.float .f32 a) := HH.out.b0.cell 0; have c1 : w1.cell? _ = some (.float .f32 b) := HH.out.b0.cell 1; have r0 : w1.cell? _ = some (.float .f32 0) := HH.out.b1.cell 0; have r1 : w1.cell? _ = some (.float .f32 0) := HH.out.b1.cell 1; have r2 : w1.cell? _ = some (.float .f32 0) := HH.out.b2.cell 0; have r3 : w1.cell? _ = some (.float .f32 0) := HH.out.b2.cell 1; have q0 := HH.out.b1.frozen 0; have q1 := HH.out.b1.frozen 1; have q2 := HH.out.b2.frozen 0; have q3 := HH.out.b2.frozen 1; have hl2 := HH.out.b2.lt; clear hb) | (go_at_call 92; (with_reducible refine (HC.out _).mono ?_); rintro e w1 ⟨rfl, hb⟩; replace HH := Hd.mk (HH.out.below hb); have c0 : w1.cell? _ = some (.float .f32 a) := HH.out.b0.cell 0; have c1 : w1.cell? _ = some (.float .f32 b) := HH.out.b0.cell 1; have r0 : w1.cell? _ = some (.float .f32 0) := HH.out.b1.cell 0; have r1 : w1.cell? _ = some (.float .f32 0) := HH.out.b1.cell 1; have r2 : w1.cell? _ = some (.float .f32 0) := HH.out.b2.cell 0; have r3 : w1.cell? _ = some (.float .f32 0) := HH.out.b2.cell 1; have q0 := HH.out.b1.frozen 0; have q1 := HH.out.b1.frozen 1; have q2 := HH.out.b2.frozen 0; have q3 := HH.out.b2.frozen 1; have hl2 := HH.out.b2.lt; clear hb))
      refine bodyPost_ret (v := .tuple #[.agg #[.float .f32 0, .float .f32 0], .agg #[.float .f32 0, .float .f32 0], .bool false]) (by simp (maxDischargeDepth := 7) [results, Try.results102, go_sem, *]) rfl ⟨?_, ?_⟩
      · simp
      · (have hbb := HH.out.bel; (repeat (first | exact Below.refl _ _ | assumption | refine Below.drew ?_ | refine bdn ?_ | refine ba _ ?_ | refine bs0 _ _ ?_ ?_ | refine bs1 _ _ _ ?_ ?_ | refine bs2 _ _ _ _ ?_ ?_ | refine bs3 _ _ _ _ _ ?_ ?_ | refine bt3 (by assumption) ?_)))
set_option maxHeartbeats 4000000 in
theorem i_Halves (a b : Nat) (w : World) (ha : W a) (hb : W b) : Calls Try.prog 47 #[.agg #[.float .f32 a, .float .f32 b]] w (RetHV a b w) := by
  have HI := Hd.mk (fun w => i_IsInterval a b w ha hb)
  have HH : Hd (HvH w (Wh3 w a b) a b) := ⟨HvH.start ..⟩
  by_cases h1 : IsIv a b
  · rw [decide_eq_true h1] at HI
    by_cases h2 : fin a ∧ fin b
    · have HC := Hd.mk (fun w => i_halvesF a b w ha hb h1 h2)
      cases h3 : hvB a b
      · have HV := Hd.mk (hv_good h1 h2 h3)
        rw [h3] at HC
        unfold RetHw at HC
        simp only [Bool.not_false, ↓reduceIte] at HC
        generalize mdF a b = m at *
        clear h1 h2 h3 ha hb
        go_enter Try.func47, Try.ntmps47
        go_wp2_with (first | (go_at_call 80; (with_reducible refine (HI.out _).mono ?_); rintro e w1 ⟨rfl, hb⟩; replace HH := Hd.mk (HH.out.below hb); have c0 : w1.cell? _ = some (.float .f32 a) := HH.out.b0.cell 0; have c1 : w1.cell? _ = some (.float .f32 b) := HH.out.b0.cell 1; have r0 : w1.cell? _ = some (.float .f32 0) := HH.out.b1.cell 0; have r1 : w1.cell? _ = some (.float .f32 0) := HH.out.b1.cell 1; have r2 : w1.cell? _ = some (.float .f32 0) := HH.out.b2.cell 0; have r3 : w1.cell? _ = some (.float .f32 0) := HH.out.b2.cell 1; have q0 := HH.out.b1.frozen 0; have q1 := HH.out.b1.frozen 1; have q2 := HH.out.b2.frozen 0; have q3 := HH.out.b2.frozen 1; have hl2 := HH.out.b2.lt; clear hb) | (go_at_call 102; (with_reducible refine (HC.out _).mono ?_); rintro e w1 ⟨rfl, hb⟩; replace HH := Hd.mk (HH.out.below hb); have HH2 : Hd (HvH w ((w1.alloc (Obj.cells #[.float .f32 a, .float .f32 m] 51)).alloc (Obj.cells #[.float .f32 m, .float .f32 b] 51)) a b) := ⟨HH.out.below (ba _ (ba _ (Below.refl _ _)))⟩; have r0 : ((w1.alloc (Obj.cells #[.float .f32 a, .float .f32 m] 51)).alloc (Obj.cells #[.float .f32 m, .float .f32 b] 51)).cell? _ = some (.float .f32 0) := HH2.out.b1.cell 0; have r1 : ((w1.alloc (Obj.cells #[.float .f32 a, .float .f32 m] 51)).alloc (Obj.cells #[.float .f32 m, .float .f32 b] 51)).cell? _ = some (.float .f32 0) := HH2.out.b1.cell 1; have r2 : ((w1.alloc (Obj.cells #[.float .f32 a, .float .f32 m] 51)).alloc (Obj.cells #[.float .f32 m, .float .f32 b] 51)).cell? _ = some (.float .f32 0) := HH2.out.b2.cell 0; have r3 : ((w1.alloc (Obj.cells #[.float .f32 a, .float .f32 m] 51)).alloc (Obj.cells #[.float .f32 m, .float .f32 b] 51)).cell? _ = some (.float .f32 0) := HH2.out.b2.cell 1; have q0 := HH2.out.b1.frozen 0; have q1 := HH2.out.b1.frozen 1; have q2 := HH2.out.b2.frozen 0; have q3 := HH2.out.b2.frozen 1; have hl2 := HH.out.b2.lt; have hl3 : w.heap.size + 1 < w1.heap.size := (by omega); have m1 : ¬ (w.heap.size + 1 = w1.heap.size) := (by omega); have m2 : ¬ (w1.heap.size = w.heap.size + 1) := (by omega); have m3 : ¬ (w1.heap.size = w.heap.size + 1 + 1) := (by omega); have m4 : ¬ (w1.heap.size + 1 = w.heap.size + 1) := (by omega); have m5 : ¬ (w1.heap.size + 1 = w.heap.size + 1 + 1) := (by omega); have m6 : ¬ (w1.heap.size = w.heap.size) := (by omega); clear hb))
        go_region
        all_goals
          go_wp2_with fail
          refine bodyPost_ret (v := .tuple #[.agg #[.float .f32 a, .float .f32 m], .agg #[.float .f32 m, .float .f32 b], .int .i64 0]) (by simp (maxDischargeDepth := 7) [results, Try.results47, go_sem, *]) rfl ⟨?_, ?_⟩
          · rw [HV.out.1, HV.out.2.1, HV.out.2.2.1, HV.out.2.2.2]
          · (have hbb := HH.out.bel; (repeat (first | exact Below.refl _ _ | assumption | refine Below.drew ?_ | refine bdn ?_ | refine ba _ ?_ | refine bs0 _ _ ?_ ?_ | refine bs1 _ _ _ ?_ ?_ | refine bs2 _ _ _ _ ?_ ?_ | refine bs3 _ _ _ _ _ ?_ ?_ | refine bt3 (by assumption) ?_)))
      · have HV := Hd.mk (hv_eq h1 h2 h3)
        rw [h3] at HC
        unfold RetHw at HC
        simp only [Bool.not_true, Bool.false_eq_true, ↓reduceIte] at HC
        clear h1 h2 h3 ha hb
        go_enter Try.func47, Try.ntmps47
        go_wp2_with (first | (go_at_call 80; (with_reducible refine (HI.out _).mono ?_); rintro e w1 ⟨rfl, hb⟩; replace HH := Hd.mk (HH.out.below hb); have c0 : w1.cell? _ = some (.float .f32 a) := HH.out.b0.cell 0; have c1 : w1.cell? _ = some (.float .f32 b) := HH.out.b0.cell 1; have r0 : w1.cell? _ = some (.float .f32 0) := HH.out.b1.cell 0; have r1 : w1.cell? _ = some (.float .f32 0) := HH.out.b1.cell 1; have r2 : w1.cell? _ = some (.float .f32 0) := HH.out.b2.cell 0; have r3 : w1.cell? _ = some (.float .f32 0) := HH.out.b2.cell 1; have q0 := HH.out.b1.frozen 0; have q1 := HH.out.b1.frozen 1; have q2 := HH.out.b2.frozen 0; have q3 := HH.out.b2.frozen 1; have hl2 := HH.out.b2.lt; clear hb) | (go_at_call 102; (with_reducible refine (HC.out _).mono ?_); rintro e w1 ⟨rfl, hb⟩; replace HH := Hd.mk (HH.out.below hb); have HH2 : Hd (HvH w ((w1.alloc (Obj.cells #[.float .f32 0, .float .f32 0] 51)).alloc (Obj.cells #[.float .f32 0, .float .f32 0] 51)) a b) := ⟨HH.out.below (ba _ (ba _ (Below.refl _ _)))⟩; have r0 : ((w1.alloc (Obj.cells #[.float .f32 0, .float .f32 0] 51)).alloc (Obj.cells #[.float .f32 0, .float .f32 0] 51)).cell? _ = some (.float .f32 0) := HH2.out.b1.cell 0; have r1 : ((w1.alloc (Obj.cells #[.float .f32 0, .float .f32 0] 51)).alloc (Obj.cells #[.float .f32 0, .float .f32 0] 51)).cell? _ = some (.float .f32 0) := HH2.out.b1.cell 1; have r2 : ((w1.alloc (Obj.cells #[.float .f32 0, .float .f32 0] 51)).alloc (Obj.cells #[.float .f32 0, .float .f32 0] 51)).cell? _ = some (.float .f32 0) := HH2.out.b2.cell 0; have r3 : ((w1.alloc (Obj.cells #[.float .f32 0, .float .f32 0] 51)).alloc (Obj.cells #[.float .f32 0, .float .f32 0] 51)).cell? _ = some (.float .f32 0) := HH2.out.b2.cell 1; have q0 := HH2.out.b1.frozen 0; have q1 := HH2.out.b1.frozen 1; have q2 := HH2.out.b2.frozen 0; have q3 := HH2.out.b2.frozen 1; have hl2 := HH.out.b2.lt; have hl3 : w.heap.size + 1 < w1.heap.size := (by omega); have m1 : ¬ (w.heap.size + 1 = w1.heap.size) := (by omega); have m2 : ¬ (w1.heap.size = w.heap.size + 1) := (by omega); have m3 : ¬ (w1.heap.size = w.heap.size + 1 + 1) := (by omega); have m4 : ¬ (w1.heap.size + 1 = w.heap.size + 1) := (by omega); have m5 : ¬ (w1.heap.size + 1 = w.heap.size + 1 + 1) := (by omega); have m6 : ¬ (w1.heap.size = w.heap.size) := (by omega); clear hb))
        refine bodyPost_ret (v := .tuple #[.agg #[.float .f32 0, .float .f32 0], .agg #[.float .f32 0, .float .f32 0], .int .i64 5]) (by simp (maxDischargeDepth := 7) [results, Try.results47, go_sem, *]) rfl ⟨?_, ?_⟩
        · rw [HV.out.1, HV.out.2.1, HV.out.2.2.1, HV.out.2.2.2]
        · (have hbb := HH.out.bel; (repeat (first | exact Below.refl _ _ | assumption | refine Below.drew ?_ | refine bdn ?_ | refine ba _ ?_ | refine bs0 _ _ ?_ ?_ | refine bs1 _ _ _ ?_ ?_ | refine bs2 _ _ _ _ ?_ ?_ | refine bs3 _ _ _ _ _ ?_ ?_ | refine bt3 (by assumption) ?_)))
    · have HV := Hd.mk (hv_inf h1 h2)
      have HC := Hd.mk (fun w => i_halvesN a b w h1 h2)
      unfold RetHw at HC
      simp only [Bool.false_eq_true, ↓reduceIte] at HC
      clear h1 h2 ha hb
      go_enter Try.func47, Try.ntmps47
      go_wp2_with (first | (go_at_call 80; (with_reducible refine (HI.out _).mono ?_); rintro e w1 ⟨rfl, hb⟩; replace HH := Hd.mk (HH.out.below hb); have c0 : w1.cell? _ = some (.float .f32 a) := HH.out.b0.cell 0; have c1 : w1.cell? _ = some (.float .f32 b) := HH.out.b0.cell 1; have r0 : w1.cell? _ = some (.float .f32 0) := HH.out.b1.cell 0; have r1 : w1.cell? _ = some (.float .f32 0) := HH.out.b1.cell 1; have r2 : w1.cell? _ = some (.float .f32 0) := HH.out.b2.cell 0; have r3 : w1.cell? _ = some (.float .f32 0) := HH.out.b2.cell 1; have q0 := HH.out.b1.frozen 0; have q1 := HH.out.b1.frozen 1; have q2 := HH.out.b2.frozen 0; have q3 := HH.out.b2.frozen 1; have hl2 := HH.out.b2.lt; clear hb) | (go_at_call 102; (with_reducible refine (HC.out _).mono ?_); rintro e w1 ⟨rfl, hb⟩; replace HH := Hd.mk (HH.out.below hb); have HH2 : Hd (HvH w ((w1.alloc (Obj.cells #[.float .f32 0, .float .f32 0] 51)).alloc (Obj.cells #[.float .f32 0, .float .f32 0] 51)) a b) := ⟨HH.out.below (ba _ (ba _ (Below.refl _ _)))⟩; have r0 : ((w1.alloc (Obj.cells #[.float .f32 0, .float .f32 0] 51)).alloc (Obj.cells #[.float .f32 0, .float .f32 0] 51)).cell? _ = some (.float .f32 0) := HH2.out.b1.cell 0; have r1 : ((w1.alloc (Obj.cells #[.float .f32 0, .float .f32 0] 51)).alloc (Obj.cells #[.float .f32 0, .float .f32 0] 51)).cell? _ = some (.float .f32 0) := HH2.out.b1.cell 1; have r2 : ((w1.alloc (Obj.cells #[.float .f32 0, .float .f32 0] 51)).alloc (Obj.cells #[.float .f32 0, .float .f32 0] 51)).cell? _ = some (.float .f32 0) := HH2.out.b2.cell 0; have r3 : ((w1.alloc (Obj.cells #[.float .f32 0, .float .f32 0] 51)).alloc (Obj.cells #[.float .f32 0, .float .f32 0] 51)).cell? _ = some (.float .f32 0) := HH2.out.b2.cell 1; have q0 := HH2.out.b1.frozen 0; have q1 := HH2.out.b1.frozen 1; have q2 := HH2.out.b2.frozen 0; have q3 := HH2.out.b2.frozen 1; have hl2 := HH.out.b2.lt; have hl3 : w.heap.size + 1 < w1.heap.size := (by omega); have m1 : ¬ (w.heap.size + 1 = w1.heap.size) := (by omega); have m2 : ¬ (w1.heap.size = w.heap.size + 1) := (by omega); have m3 : ¬ (w1.heap.size = w.heap.size + 1 + 1) := (by omega); have m4 : ¬ (w1.heap.size + 1 = w.heap.size + 1) := (by omega); have m5 : ¬ (w1.heap.size + 1 = w.heap.size + 1 + 1) := (by omega); have m6 : ¬ (w1.heap.size = w.heap.size) := (by omega); clear hb))
      refine bodyPost_ret (v := .tuple #[.agg #[.float .f32 0, .float .f32 0], .agg #[.float .f32 0, .float .f32 0], .int .i64 5]) (by simp (maxDischargeDepth := 7) [results, Try.results47, go_sem, *]) rfl ⟨?_, ?_⟩
      · rw [HV.out.1, HV.out.2.1, HV.out.2.2.1, HV.out.2.2.2]
      · (have hbb := HH.out.bel; (repeat (first | exact Below.refl _ _ | assumption | refine Below.drew ?_ | refine bdn ?_ | refine ba _ ?_ | refine bs0 _ _ ?_ ?_ | refine bs1 _ _ _ ?_ ?_ | refine bs2 _ _ _ _ ?_ ?_ | refine bs3 _ _ _ _ _ ?_ ?_ | refine bt3 (by assumption) ?_)))
  · rw [decide_eq_false h1] at HI
    have HV := Hd.mk (hv_bad h1)
    clear h1 ha hb
    go_enter Try.func47, Try.ntmps47
    go_wp2_with (first | (go_at_call 80; (with_reducible refine (HI.out _).mono ?_); rintro e w1 ⟨rfl, hb⟩; replace HH := Hd.mk (HH.out.below hb); have c0 : w1.cell? _ = some (.float .f32 a) := HH.out.b0.cell 0; have c1 : w1.cell? _ = some (.float .f32 b) := HH.out.b0.cell 1; have r0 : w1.cell? _ = some (.float .f32 0) := HH.out.b1.cell 0; have r1 : w1.cell? _ = some (.float .f32 0) := HH.out.b1.cell 1; have r2 : w1.cell? _ = some (.float .f32 0) := HH.out.b2.cell 0; have r3 : w1.cell? _ = some (.float .f32 0) := HH.out.b2.cell 1; have q0 := HH.out.b1.frozen 0; have q1 := HH.out.b1.frozen 1; have q2 := HH.out.b2.frozen 0; have q3 := HH.out.b2.frozen 1; have hl2 := HH.out.b2.lt; clear hb))
    refine bodyPost_ret (v := .tuple #[.agg #[.float .f32 0, .float .f32 0], .agg #[.float .f32 0, .float .f32 0], .int .i64 1]) (by simp (maxDischargeDepth := 7) [results, Try.results47, go_sem, *]) rfl ⟨?_, ?_⟩
    · rw [HV.out.1, HV.out.2.1, HV.out.2.2.1, HV.out.2.2.2]
    · (have hbb := HH.out.bel; (repeat (first | exact Below.refl _ _ | assumption | refine Below.drew ?_ | refine bdn ?_ | refine ba _ ?_ | refine bs0 _ _ ?_ ?_ | refine bs1 _ _ _ ?_ ?_ | refine bs2 _ _ _ _ ?_ ?_ | refine bs3 _ _ _ _ _ ?_ ?_ | refine bt3 (by assumption) ?_)))
end Go.Proofs.Ytmiafbbndonpaaa
