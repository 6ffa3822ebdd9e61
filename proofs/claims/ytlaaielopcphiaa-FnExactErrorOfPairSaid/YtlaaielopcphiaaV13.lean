/- Contracts: dyadic results beyond the limits, both sides. -/
import Derived.Test.YtlaaielopcphiaaHa
import Derived.Test.YtlaaielopcphiaaGy
set_option linter.unusedVariables false
set_option linter.unusedSimpArgs false
set_option exponentiation.threshold 40000
namespace Go.Proofs.Ytlaaielopcphiaa
open Go.RowKit Num Flt
/-- the parts fit -/
def fitD (m x : Int) : Prop := bln m.natAbs ≤ 2400 ∧ -3000 ≤ x ∧ x ≤ 3000
theorem dyF_bd {m x V : Int} {l : Nat} (h : DyF m x V l) : Bd m := dv_bd (e := x) (by rw [← h.val]; exact h.bd)
set_option maxHeartbeats 4000000 in
theorem i_fromBigN (g : Nat) (m : Int) (w : World) (hB : Big w g m) (hl : ¬ bln m.natAbs ≤ 2400) : Calls Try.prog 71 #[.pointer (some ⟨g, 0, none⟩)] w fun e w' => e = .returned (.tuple #[.agg #[.int .i64 0, .slice none 0 0], .bool false]) ∧ Below w.heap.size w w' := by
  have HB := Hd.mk hB
  have hlI : (bln m.natAbs : Int) > 2400 := by omega
  have hl2 : (2400 : Int) < (bln m.natAbs : Int) := hlI
  clear hB hl
  go_enter Try.func71, Try.ntmps71
  go_wp2_with ((go_at_call 105; (with_reducible refine (m_BitLen g m _ (HB.out.below (by (repeat (first | exact Below.refl _ _ | assumption | refine Below.drew ?_ | refine bdn ?_ | refine ba _ ?_ | refine bs0 _ _ ?_ ?_ | refine bs1 _ _ _ ?_ ?_ | refine bs2 _ _ _ _ ?_ ?_ | refine bs3 _ _ _ _ _ ?_ ?_ | refine bt3 (by assumption) ?_))))).mono ?_); rintro e w' ⟨rfl, rfl⟩))
  refine bodyPost_ret (v := .tuple #[.agg #[.int .i64 0, .slice none 0 0], .bool false]) (by simp (maxDischargeDepth := 7) [results, Try.results71, go_sem, *]) rfl ⟨rfl, ?_⟩
  (repeat (first | exact Below.refl _ _ | assumption | refine Below.drew ?_ | refine bdn ?_ | refine ba _ ?_ | refine bs0 _ _ ?_ ?_ | refine bs1 _ _ _ ?_ ?_ | refine bs2 _ _ _ _ ?_ ?_ | refine bs3 _ _ _ _ _ ?_ ?_ | refine bt3 (by assumption) ?_))
set_option maxHeartbeats 4000000 in
theorem n_DyadicC (g : Nat) (e V : Int) (l : Nat) (w : World) (hX : NuP w g e V l) (hs : ∀ m x, DyF m x V l → fitD m x) : Calls Try.prog 31 #[.agg #[.pointer (some ⟨g, 0, none⟩), .int .i64 e]] w (RetDC V l 0 w) := by
  have HX := Hd.mk hX
  have HSM := Hd.mk (fun m x (h : DyF m x V l) => And.intro (hs m x h) (dyF_bd h))
  clear hX hs
  go_enter Try.func31, Try.ntmps31
  go_upto_region 2 with (go_at_call 70; (with_reducible refine (n_Odd g e V l _ (HX.out.below (by (repeat (first | exact Below.refl _ _ | assumption | refine Below.drew ?_ | refine bdn ?_ | refine ba _ ?_ | refine bs0 _ _ ?_ ?_ | refine bs1 _ _ _ ?_ ?_ | refine bs2 _ _ _ _ ?_ ?_ | refine bs3 _ _ _ _ _ ?_ ?_ | refine bt3 (by assumption) ?_))))).mono ?_); rintro e1 w1 ⟨g1, x, m, rfl, hB1, hF1, hb⟩; have HH := Hd.mk ((DvH.start w g e).below hb); have HM := Hd.mk (And.intro hB1 hF1); have c0 : w1.cell? _ = some (.pointer (some ⟨g, 0, none⟩)) := HH.out.b0.cell 0; have c1 : w1.cell? _ = some (.int .i64 e) := HH.out.b0.cell 1; have f0 := HH.out.b0.frozen 0; have f1 := HH.out.b0.frozen 1; clear hB1 hF1 hb)
  have HP := Hd.mk (HH.out.put (g' := g1) (e' := x))
  have HB := Hd.mk ((HM.out.1.setT HH.out.b0 (by decide) (by decide) 0 (.pointer (some ⟨g1, 0, none⟩))).setT (HH.out.b0.set_ 0 (.pointer (some ⟨g1, 0, none⟩))) (by decide) (by decide) 1 (.int .i64 x))
  have HF := Hd.mk HM.out.2
  have HS := Hd.mk (HSM.out m x HF.out)
  clear HH HM HSM c0 c1 f0 f1
  generalize (w1.setCell ⟨w.heap.size, 0, none⟩ (.pointer (some ⟨g1, 0, none⟩))).setCell ⟨w.heap.size, 1, none⟩ (.int .i64 x) = wy at *
  have HH := HP
  have c0 : wy.cell? _ = some (.pointer (some ⟨g1, 0, none⟩)) := HH.out.b0.cell 0; have c1 : wy.cell? _ = some (.int .i64 x) := HH.out.b0.cell 1; have f0 := HH.out.b0.frozen 0; have f1 := HH.out.b0.frozen 1
  replace HS : Hd (bln m.natAbs ≤ 2400 ∧ -3000 ≤ x ∧ x ≤ 3000 ∧ Bd m) := ⟨⟨HS.out.1.1, HS.out.1.2.1, HS.out.1.2.2, HS.out.2⟩⟩
  have x1 : ¬ (x < -3000) := by have := HS.out.2.1; omega
  have x2 : ¬ (x > 3000) := by have := HS.out.2.2.1; omega
  have x3 : ¬ (3000 < x) := x2
  clear HP
  go_upto_region 3 with (go_at_call 71; (with_reducible refine (i_fromBig g1 m _ (HB.out.below (by (repeat (first | exact Below.refl _ _ | assumption | refine Below.drew ?_ | refine bdn ?_ | refine ba _ ?_ | refine bs0 _ _ ?_ ?_ | refine bs1 _ _ _ ?_ ?_ | refine bs2 _ _ _ _ ?_ ?_ | refine bs3 _ _ _ _ _ ?_ ?_ | refine bt3 (by assumption) ?_)))) HS.out.1 HS.out.2.2.2).mono ?_); rintro e2 w2 ⟨A, n, c, rfl, hW, hb⟩; have HG := Hd.mk ((HH.out.below hb).below (ba (Obj.cells #[.int .i64 m.sign, .slice A n c] 31) (Below.refl _ _))); have HW := Hd.mk (hW.keep (ba (Obj.cells #[.int .i64 m.sign, .slice A n c] 31) (Below.refl _ _))); have HT := Hd.mk (Blk.new w2 31 #[.int .i64 m.sign, .slice A n c]); have HN := Hd.mk (And.intro (HH.out.below hb).b1.lt HH.out.b1.lt); clear hW hb)
  generalize w2.alloc (Obj.cells #[.int .i64 m.sign, .slice A n c] 31) = w3 at *
  have hn := HN.out
  generalize w2.heap.size = gt at *
  generalize wy.heap.size = gy at *
  have d0 : w3.cell? _ = some (.pointer (some ⟨g1, 0, none⟩)) := HG.out.b0.cell 0
  have d1 : w3.cell? _ = some (.int .i64 x) := HG.out.b0.cell 1
  have r0 : w3.cell? _ = some (.int .i64 0) := HG.out.b1.cell 0
  have r1 : w3.cell? _ = some (.slice none 0 0) := HG.out.b1.cell 1
  have r2 : w3.cell? _ = some (.int .i64 0) := HG.out.b1.cell 2
  have t0 : w3.cell? _ = some (.int .i64 m.sign) := HT.out.cell 0
  have t1 : w3.cell? _ = some (.slice A n c) := HT.out.cell 1
  have g0 := HG.out.b1.frozen 0
  have g1' := HG.out.b1.frozen 1
  have g2 := HG.out.b1.frozen 2
  go_wp2_with fail
  refine bodyPost_ret (v := .tuple #[.agg #[.int .i64 m.sign, .slice A n c, .int .i64 x], .int .i64 0]) (by simp (maxDischargeDepth := 7) [results, Try.results31, go_sem, *]) rfl ⟨m.sign, A, n, c, x, rfl, ⟨m, ?_, HF.out⟩, ?_⟩
  · exact (((HW.out.set _ _ (by omega) _).set _ _ (by omega) _).set _ _ (by omega) _).mono (by omega)
  · have hbb := HG.out.bel
    (repeat (first | exact Below.refl _ _ | assumption | refine Below.drew ?_ | refine bdn ?_ | refine ba _ ?_ | refine bs0 _ _ ?_ ?_ | refine bs1 _ _ _ ?_ ?_ | refine bs2 _ _ _ _ ?_ ?_ | refine bs3 _ _ _ _ _ ?_ ?_ | refine bt3 (by assumption) ?_))
set_option maxHeartbeats 4000000 in
theorem n_DyadicN (g : Nat) (e V : Int) (l : Nat) (w : World) (hX : NuP w g e V l) (hsc : l ≤ SC) (hs : ∀ m x, DyF m x V l → ¬ fitD m x) : Calls Try.prog 31 #[.agg #[.pointer (some ⟨g, 0, none⟩), .int .i64 e]] w (RetDC 0 l 3 w) := by
  have HSC := Hd.mk hsc
  clear hsc
  have HX := Hd.mk hX
  have HSM := Hd.mk (fun m x (h : DyF m x V l) => And.intro (hs m x h) (dyF_bd h))
  clear hX hs
  go_enter Try.func31, Try.ntmps31
  go_upto_region 2 with (go_at_call 70; (with_reducible refine (n_Odd g e V l _ (HX.out.below (by (repeat (first | exact Below.refl _ _ | assumption | refine Below.drew ?_ | refine bdn ?_ | refine ba _ ?_ | refine bs0 _ _ ?_ ?_ | refine bs1 _ _ _ ?_ ?_ | refine bs2 _ _ _ _ ?_ ?_ | refine bs3 _ _ _ _ _ ?_ ?_ | refine bt3 (by assumption) ?_))))).mono ?_); rintro e1 w1 ⟨g1, x, m, rfl, hB1, hF1, hb⟩; have HH := Hd.mk ((DvH.start w g e).below hb); have HM := Hd.mk (And.intro hB1 hF1); have c0 : w1.cell? _ = some (.pointer (some ⟨g, 0, none⟩)) := HH.out.b0.cell 0; have c1 : w1.cell? _ = some (.int .i64 e) := HH.out.b0.cell 1; have f0 := HH.out.b0.frozen 0; have f1 := HH.out.b0.frozen 1; clear hB1 hF1 hb)
  have HP := Hd.mk (HH.out.put (g' := g1) (e' := x))
  have HB := Hd.mk ((HM.out.1.setT HH.out.b0 (by decide) (by decide) 0 (.pointer (some ⟨g1, 0, none⟩))).setT (HH.out.b0.set_ 0 (.pointer (some ⟨g1, 0, none⟩))) (by decide) (by decide) 1 (.int .i64 x))
  have HF := Hd.mk HM.out.2
  have HS := Hd.mk (HSM.out m x HF.out)
  clear HH HM HSM c0 c1 f0 f1
  generalize (w1.setCell ⟨w.heap.size, 0, none⟩ (.pointer (some ⟨g1, 0, none⟩))).setCell ⟨w.heap.size, 1, none⟩ (.int .i64 x) = wy at *
  have HH := HP
  have c0 : wy.cell? _ = some (.pointer (some ⟨g1, 0, none⟩)) := HH.out.b0.cell 0; have c1 : wy.cell? _ = some (.int .i64 x) := HH.out.b0.cell 1; have f0 := HH.out.b0.frozen 0; have f1 := HH.out.b0.frozen 1
  clear HP
  by_cases hln : bln m.natAbs ≤ 2400
  · have HLN := Hd.mk hln
    have hx : x < -3000 ∨ (¬ x < -3000 ∧ 3000 < x) := by
      by_cases k1 : x < -3000
      · exact Or.inl k1
      · refine Or.inr ⟨k1, ?_⟩
        rcases Int.lt_or_le 3000 x with k2 | k2
        · exact k2
        · exact absurd ⟨hln, by omega, k2⟩ HS.out.1
    clear hln
    go_upto_region 3 with (go_at_call 71; (with_reducible refine (i_fromBig g1 m _ (HB.out.below (by (repeat (first | exact Below.refl _ _ | assumption | refine Below.drew ?_ | refine bdn ?_ | refine ba _ ?_ | refine bs0 _ _ ?_ ?_ | refine bs1 _ _ _ ?_ ?_ | refine bs2 _ _ _ _ ?_ ?_ | refine bs3 _ _ _ _ _ ?_ ?_ | refine bt3 (by assumption) ?_)))) HLN.out HS.out.2).mono ?_); rintro e2 w2 ⟨A, n, c, rfl, hW, hb⟩; have HG := Hd.mk ((HH.out.below hb).below (ba (Obj.cells #[.int .i64 m.sign, .slice A n c] 31) (Below.refl _ _))); have HW := Hd.mk (hW.keep (ba (Obj.cells #[.int .i64 m.sign, .slice A n c] 31) (Below.refl _ _))); have HT := Hd.mk (Blk.new w2 31 #[.int .i64 m.sign, .slice A n c]); have HN := Hd.mk (And.intro (HH.out.below hb).b1.lt HH.out.b1.lt); clear hW hb)
    generalize w2.alloc (Obj.cells #[.int .i64 m.sign, .slice A n c] 31) = w3 at *
    have hn := HN.out
    generalize w2.heap.size = gt at *
    generalize wy.heap.size = gy at *
    have d0 : w3.cell? _ = some (.pointer (some ⟨g1, 0, none⟩)) := HG.out.b0.cell 0
    have d1 : w3.cell? _ = some (.int .i64 x) := HG.out.b0.cell 1
    have r0 : w3.cell? _ = some (.int .i64 0) := HG.out.b1.cell 0
    have r1 : w3.cell? _ = some (.slice none 0 0) := HG.out.b1.cell 1
    have r2 : w3.cell? _ = some (.int .i64 0) := HG.out.b1.cell 2
    have t0 : w3.cell? _ = some (.int .i64 m.sign) := HT.out.cell 0
    have t1 : w3.cell? _ = some (.slice A n c) := HT.out.cell 1
    have g0 := HG.out.b1.frozen 0
    have g1' := HG.out.b1.frozen 1
    have g2 := HG.out.b1.frozen 2
    rcases hx with x1 | ⟨x1, x2⟩
    · go_wp2_with fail
      refine bodyPost_ret (v := .tuple #[.agg #[.int .i64 0, .slice none 0 0, .int .i64 0], .int .i64 3]) (by simp (maxDischargeDepth := 7) [results, Try.results31, go_sem, *]) rfl ⟨0, none, 0, 0, 0, rfl, dyO_zero _ _ _ HSC.out, ?_⟩; (have hbb := HG.out.bel); (repeat (first | exact Below.refl _ _ | assumption | refine Below.drew ?_ | refine bdn ?_ | refine ba _ ?_ | refine bs0 _ _ ?_ ?_ | refine bs1 _ _ _ ?_ ?_ | refine bs2 _ _ _ _ ?_ ?_ | refine bs3 _ _ _ _ _ ?_ ?_ | refine bt3 (by assumption) ?_))
    · have x3 : x > 3000 := x2
      go_wp2_with fail
      refine bodyPost_ret (v := .tuple #[.agg #[.int .i64 0, .slice none 0 0, .int .i64 0], .int .i64 3]) (by simp (maxDischargeDepth := 7) [results, Try.results31, go_sem, *]) rfl ⟨0, none, 0, 0, 0, rfl, dyO_zero _ _ _ HSC.out, ?_⟩; (have hbb := HG.out.bel); (repeat (first | exact Below.refl _ _ | assumption | refine Below.drew ?_ | refine bdn ?_ | refine ba _ ?_ | refine bs0 _ _ ?_ ?_ | refine bs1 _ _ _ ?_ ?_ | refine bs2 _ _ _ _ ?_ ?_ | refine bs3 _ _ _ _ _ ?_ ?_ | refine bt3 (by assumption) ?_))
  · have HLN := Hd.mk hln
    clear hln
    go_upto_region 3 with (go_at_call 71; (with_reducible refine (i_fromBigN g1 m _ (HB.out.below (by (repeat (first | exact Below.refl _ _ | assumption | refine Below.drew ?_ | refine bdn ?_ | refine ba _ ?_ | refine bs0 _ _ ?_ ?_ | refine bs1 _ _ _ ?_ ?_ | refine bs2 _ _ _ _ ?_ ?_ | refine bs3 _ _ _ _ _ ?_ ?_ | refine bt3 (by assumption) ?_)))) HLN.out).mono ?_); rintro e2 w2 ⟨rfl, hb⟩; have HG := Hd.mk ((HH.out.below hb).below (ba (Obj.cells #[.int .i64 0, .slice none 0 0] 31) (Below.refl _ _))); have HN := Hd.mk (And.intro (HH.out.below hb).b1.lt HH.out.b1.lt); clear hb)
    generalize w2.alloc (Obj.cells #[.int .i64 0, .slice none 0 0] 31) = w3 at *
    have hn := HN.out
    generalize w2.heap.size = gt at *
    generalize wy.heap.size = gy at *
    have r0 : w3.cell? _ = some (.int .i64 0) := HG.out.b1.cell 0
    have r1 : w3.cell? _ = some (.slice none 0 0) := HG.out.b1.cell 1
    have r2 : w3.cell? _ = some (.int .i64 0) := HG.out.b1.cell 2
    have g0 := HG.out.b1.frozen 0
    have g1' := HG.out.b1.frozen 1
    have g2 := HG.out.b1.frozen 2
    go_wp2_with fail
    refine bodyPost_ret (v := .tuple #[.agg #[.int .i64 0, .slice none 0 0, .int .i64 0], .int .i64 3]) (by simp (maxDischargeDepth := 7) [results, Try.results31, go_sem, *]) rfl ⟨0, none, 0, 0, 0, rfl, dyO_zero _ _ _ HSC.out, ?_⟩; (have hbb := HG.out.bel); (repeat (first | exact Below.refl _ _ | assumption | refine Below.drew ?_ | refine bdn ?_ | refine ba _ ?_ | refine bs0 _ _ ?_ ?_ | refine bs1 _ _ _ ?_ ?_ | refine bs2 _ _ _ _ ?_ ?_ | refine bs3 _ _ _ _ _ ?_ ?_ | refine bt3 (by assumption) ?_))
end Go.Proofs.Ytlaaielopcphiaa
