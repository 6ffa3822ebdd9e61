/- Contracts: powers of floats, rounded, in the program. -/
import Derived.Test.YtlaaielopcphiaaGreatW4
import Derived.Test.YtlaaielopcphiaaGreatGk
import Derived.Test.YtlaaielopcphiaaGreatGc
set_option linter.unusedVariables false
set_option linter.unusedSimpArgs false
set_option exponentiation.threshold 40000
namespace Go.Proofs.YtlaaielopcphiaaGreat
open Go.RowKit Num Flt
@[go_sem] theorem run_fieldN0 (p : Option Addr) (x : Int) (w : World) : Sem.run Tryz.prog (Instr.field 92 (.agg #[.pointer p, .int .i64 x]) 0) w = .ok (.pointer p) w := by
  simp [Instr.field, go_sem]
@[go_sem] theorem run_fieldN1 (p : Option Addr) (x : Int) (w : World) : Sem.run Tryz.prog (Instr.field 92 (.agg #[.pointer p, .int .i64 x]) 1) w = .ok (.int .i64 x) w := by
  simp [Instr.field, go_sem]
theorem fin_num9 {x : Nat} (h : fin x) : ¬ nan x := by unfold nan; unfold fin at h; omega
theorem one_parts : mv 1065353216 = 8388608 ∧ pe 1065353216 = 126 := by decide
set_option maxHeartbeats 4000000 in
theorem n_One (w : World) : Calls Tryz.prog 73 #[.float .f32 1065353216] w fun e' w' => ∃ g, e' = .returned (.agg #[.pointer (some ⟨g, 0, none⟩), .int .i64 (-23)]) ∧ Big w' g 8388608 ∧ Below w.heap.size w w' := by
  have HP := Hd.mk (fun w => m_Parts 1065353216 w (by unfold W; omega) (by unfold fin; omega))
  rw [one_parts.1, one_parts.2] at HP
  go_enter Tryz.func73, Tryz.ntmps73
  go_wp2_with (first | (go_at_call 145; (with_reducible refine (HP.out _).mono ?_); rintro e w' ⟨rfl, rfl⟩) | (go_at_call 138; (with_reducible refine (m_New 8388608 _ (by decide) (by decide)).mono ?_); rintro e w2 ⟨g, rfl, hge, hB, hb⟩; have HB := Hd.mk hB; have HK := Hd.mk (Blk.below (Blk.new w _ _) hb (by simp)); clear hge hB; obtain ⟨hc, hf, hz, hy⟩ := bcell hb; have hs := hb.size; (try simp at hs); have h0' : w.heap.size < w2.heap.size := (by omega); clear hs))
  refine bodyPost_ret (v := .agg #[.pointer (some ⟨g, 0, none⟩), .int .i64 (-23)]) (by simp (maxDischargeDepth := 7) [results, Tryz.results73, go_sem, *]) rfl ⟨g, rfl, ?_, ?_⟩
  · exact ((HB.out.setT HK.out (by decide) (by decide) 0 _).setT (HK.out.set_ 0 _) (by decide) (by decide) 1 _)
  · (repeat (first | exact Below.refl _ _ | assumption | refine Below.drew ?_ | refine bdn ?_ | refine ba _ ?_ | refine bs0 _ _ ?_ ?_ | refine bs1 _ _ _ ?_ ?_ | refine bs2 _ _ _ _ ?_ ?_ | refine bs3 _ _ _ _ _ ?_ ?_ | refine bt3 (by assumption) ?_))
theorem one_nu (x : Nat) : NuF 8388608 (-23) (pw x 0) 149 := by
  have h := nuF_float (x := 1065353216) (by unfold fin; omega)
  rw [one_parts.1, one_parts.2] at h
  have e : fv 1065353216 = pw x 0 := by
    rw [pw_zero]
    unfold fv
    rw [one_parts.1, one_parts.2]
    unfold dv SC
    rw [show ((-149 : Int) + ((126 : Nat) : Int) + ((20000 : Nat) : Int)).toNat = 19977 by omega, show ((0 : Int) + ((20000 : Nat) : Int)).toNat = 23 + 19977 by omega, Int.pow_add, ← Int.mul_assoc]
    rfl
  rw [e] at h
  exact h
set_option maxRecDepth 20000 in
set_option maxHeartbeats 4000000 in
theorem i_PowF (x n : Nat) (mode : Int) (w : World) (hx : W x) (hf : fin x) (hn : n ≤ 20) (hmd : 0 ≤ mode ∧ mode ≤ 4) : Calls Tryz.prog 155 #[.float .f32 x, .int .i64 n, .int .i64 mode] w (RetV (.float .f32 (zp (rF mode (pw x n)))) w) := by
  have hd : decide (fin x) = true := decide_eq_true hf
  have HNN := Hd.mk (fin_num9 hf)
  have HX := Hd.mk (And.intro hx hf)
  have HSX := Hd.mk (show ((fv x).natAbs : Int) ≤ 2 ^ 504 * 2 ^ 30000 by rw [← pw_one]; exact pw_abs hf (by decide))
  have HMD := Hd.mk hmd
  clear hx hf hmd
  go_enter Tryz.func155, Tryz.ntmps155
  go_wp2_with (first | (go_at_call 208; (with_reducible refine (i_isInf x _ HNN.out).mono ?_); rintro e w' ⟨rfl, rfl⟩) | (go_at_call 73; (with_reducible refine (n_Of x _ HX.out.1 HX.out.2).mono ?_); rintro e1 w1 ⟨g1, x1, rfl, hN, hb⟩; have HQ := Hd.mk (bt3 hb (by (repeat (first | exact Below.refl _ _ | assumption | refine Below.drew ?_ | refine bdn ?_ | refine ba _ ?_ | refine bs0 _ _ ?_ ?_ | refine bs1 _ _ _ ?_ ?_ | refine bs2 _ _ _ _ ?_ ?_ | refine bs3 _ _ _ _ _ ?_ ?_ | refine bt3 (by assumption) ?_)) : Below w.heap.size w _)); have H1 := Hd.mk hN; clear hN hb) | (go_at_call 161; (with_reducible refine (n_Odd g1 x1 (fv x) 149 _ (H1.out.below (by (repeat (first | exact Below.refl _ _ | assumption | refine Below.drew ?_ | refine bdn ?_ | refine ba _ ?_ | refine bs0 _ _ ?_ ?_ | refine bs1 _ _ _ ?_ ?_ | refine bs2 _ _ _ _ ?_ ?_ | refine bs3 _ _ _ _ _ ?_ ?_ | refine bt3 (by assumption) ?_))))).mono ?_); rintro e2 w2 ⟨g2, x2, m2, rfl, hB, hF, hb⟩; replace HQ := Hd.mk (bt3 hb (bt3 (by (repeat (first | exact Below.refl _ _ | assumption | refine Below.drew ?_ | refine bdn ?_ | refine ba _ ?_ | refine bs0 _ _ ?_ ?_ | refine bs1 _ _ _ ?_ ?_ | refine bs2 _ _ _ _ ?_ ?_ | refine bs3 _ _ _ _ _ ?_ ?_ | refine bt3 (by assumption) ?_))) HQ.out)); have H2 := Hd.mk (show NuP w2 g2 x2 (fv x) 149 from ⟨m2, hB, ⟨hF.val, hF.lo, hF.lsc, hF.hi, hF.bd⟩⟩); have hx2 : x2 ≤ 20000 := dyF_small hF HSX.out; clear hB hF hb H1) | (go_at_call 73; have hno := H3; clear hno; (with_reducible refine (n_One _).mono ?_); rintro e4 w4 ⟨g4, rfl, hB, hb⟩; have hb := bt3 hb (show Below w3.heap.size w3 _ by (repeat (first | exact Below.refl _ _ | assumption | refine Below.drew ?_ | refine bdn ?_ | refine ba _ ?_ | refine bs0 _ _ ?_ ?_ | refine bs1 _ _ _ ?_ ?_ | refine bs2 _ _ _ _ ?_ ?_ | refine bs3 _ _ _ _ _ ?_ ?_ | refine bt3 (by assumption) ?_))); replace H2 := Hd.mk (H2.out.below hb); replace H3 := Hd.mk (H3.out.below hb); replace HQ := Hd.mk (bt3 hb HQ.out); clear hB hb) | (go_at_call 73; (with_reducible refine (n_One _).mono ?_); rintro e3 w3 ⟨g3, rfl, hB, hb⟩; have hb := bt3 hb (show Below w2.heap.size w2 _ by (repeat (first | exact Below.refl _ _ | assumption | refine Below.drew ?_ | refine bdn ?_ | refine ba _ ?_ | refine bs0 _ _ ?_ ?_ | refine bs1 _ _ _ ?_ ?_ | refine bs2 _ _ _ _ ?_ ?_ | refine bs3 _ _ _ _ _ ?_ ?_ | refine bt3 (by assumption) ?_))); replace H2 := Hd.mk (H2.out.below hb); have H3 := Hd.mk hB; replace HQ := Hd.mk (bt3 hb HQ.out); clear hB hb))
  go_loopw [27] (fun iv wr => ∃ (k g : Nat) (e : Int), iv = .int .i64 k ∧ k ≤ n ∧ e ≤ 20000 ∧ Hd (Blk wr w4.heap.size 92 #[.pointer (some ⟨g2, 0, none⟩), .int .i64 x2]) ∧ Hd (NuP wr g2 x2 (fv x) 149) ∧ Hd (Blk wr (w4.heap.size + 1) 92 #[.pointer (some ⟨g, 0, none⟩), .int .i64 e]) ∧ Hd (NuP wr g e (pw x k) (149 + 149 * k)) ∧ Hd (Below w.heap.size w wr))
    (fun iv _ => n - (intOf iv).toNat)
  case atStart =>
    refine ⟨0, g3, -23, rfl, by omega, by omega, ⟨?_⟩, ⟨?_⟩, ⟨?_⟩, ⟨?_⟩, ⟨?_⟩⟩
    · exact (Blk.new _ _ _).alloc _
    · exact H2.out.below (ba _ (ba _ (Below.refl _ _)))
    · have := Blk.new (w4.alloc (Obj.cells #[.pointer (some ⟨g2, 0, none⟩), .int .i64 x2] 92)) 92 #[.pointer (some ⟨g3, 0, none⟩), .int .i64 (-23)]
      simpa using this
    · exact ⟨_, H3.out.below (ba _ (ba _ (Below.refl _ _))), one_nu x⟩
    · exact ba _ (ba _ HQ.out)
  case round =>
    obtain ⟨k, g, e, rfl, hk, he, HB7, HN7, HB8, HN8, HB⟩ := hrel
    have c0 : wr.cell? _ = some (.pointer (some ⟨g, 0, none⟩)) := HB8.out.cell 0
    have c1 : wr.cell? _ = some (.int .i64 e) := HB8.out.cell 1
    have HLE := Hd.mk HQ.out.size
    by_cases h1 : k < n
    · have d0 : wr.cell? _ = some (.pointer (some ⟨g2, 0, none⟩)) := HB7.out.cell 0
      have d1 : wr.cell? _ = some (.int .i64 x2) := HB7.out.cell 1
      have hki : (k : Int) < n := by omega
      have hki2 : (k : Int) ≤ 20 := by omega
      have HPW := Hd.mk (pw_succ HX.out.2 (show k ≤ 20 by omega))
      have HBM : Hd (Bd (mulV (pw x k) (fv x))) := ⟨by rw [HPW.out]; exact pw_bd HX.out.2 (by omega)⟩
      have HSK := Hd.mk (pw_abs HX.out.2 (show k + 1 ≤ 21 by omega))
      go_wp2_with (first | (go_at_call 93; (with_reducible refine (n_Mul g g2 e x2 (pw x k) (fv x) (149 + 149 * k) 149 _ (HN8.out.below (by (repeat (first | exact Below.refl _ _ | assumption | refine Below.drew ?_ | refine bdn ?_ | refine ba _ ?_ | refine bs0 _ _ ?_ ?_ | refine bs1 _ _ _ ?_ ?_ | refine bs2 _ _ _ _ ?_ ?_ | refine bs3 _ _ _ _ _ ?_ ?_ | refine bt3 (by assumption) ?_)))) (HN7.out.below (by (repeat (first | exact Below.refl _ _ | assumption | refine Below.drew ?_ | refine bdn ?_ | refine ba _ ?_ | refine bs0 _ _ ?_ ?_ | refine bs1 _ _ _ ?_ ?_ | refine bs2 _ _ _ _ ?_ ?_ | refine bs3 _ _ _ _ _ ?_ ?_ | refine bt3 (by assumption) ?_)))) (by unfold SC; omega) (by omega) HBM.out).mono ?_); rintro e5 w5 ⟨g5, x5, rfl, hN, hb⟩; have hb := bt3 hb (show Below wr.heap.size wr _ by (repeat (first | exact Below.refl _ _ | assumption | refine Below.drew ?_ | refine bdn ?_ | refine ba _ ?_ | refine bs0 _ _ ?_ ?_ | refine bs1 _ _ _ ?_ ?_ | refine bs2 _ _ _ _ ?_ ?_ | refine bs3 _ _ _ _ _ ?_ ?_ | refine bt3 (by assumption) ?_))); replace HB7 := Hd.mk (HB7.out.below hb HB7.out.lt); replace HB8 := Hd.mk (HB8.out.below hb HB8.out.lt); replace HN7 := Hd.mk (HN7.out.below hb); replace HB := Hd.mk (bt3 hb HB.out); have H5 := Hd.mk hN; clear hN hb) | (go_at_call 161; (with_reducible refine (n_Odd g5 x5 (mulV (pw x k) (fv x)) (149 + 149 * k + 149) _ (H5.out.below (by (repeat (first | exact Below.refl _ _ | assumption | refine Below.drew ?_ | refine bdn ?_ | refine ba _ ?_ | refine bs0 _ _ ?_ ?_ | refine bs1 _ _ _ ?_ ?_ | refine bs2 _ _ _ _ ?_ ?_ | refine bs3 _ _ _ _ _ ?_ ?_ | refine bt3 (by assumption) ?_))))).mono ?_); rintro e6 w6 ⟨g6, x6, m6, rfl, hB, hF, hb⟩; have hb := bt3 hb (show Below w5.heap.size w5 _ by (repeat (first | exact Below.refl _ _ | assumption | refine Below.drew ?_ | refine bdn ?_ | refine ba _ ?_ | refine bs0 _ _ ?_ ?_ | refine bs1 _ _ _ ?_ ?_ | refine bs2 _ _ _ _ ?_ ?_ | refine bs3 _ _ _ _ _ ?_ ?_ | refine bt3 (by assumption) ?_))); replace HB7 := Hd.mk (HB7.out.below hb HB7.out.lt); replace HB8 := Hd.mk (HB8.out.below hb HB8.out.lt); replace HN7 := Hd.mk (HN7.out.below hb); replace HB := Hd.mk (bt3 hb HB.out); rw [HPW.out] at hF; have H6 := Hd.mk (show NuP w6 g6 x6 (pw x (k + 1)) (149 + 149 * k + 149) from ⟨m6, hB, ⟨hF.val, hF.lo, hF.lsc, hF.hi, hF.bd⟩⟩); have hx6 : x6 ≤ 20000 := dyF_small hF HSK.out; have q0 : w6.cell? _ = some (.pointer (some ⟨g, 0, none⟩)) := HB8.out.cell 0; have q1 : w6.cell? _ = some (.int .i64 e) := HB8.out.cell 1; have f0 := HB8.out.frozen 0; have f1 := HB8.out.frozen 1; clear hB hF hb))
      go_roundw
      case rel =>
        refine ⟨k + 1, g6, x6, by go_num, by omega, hx6, ⟨?_⟩, ⟨?_⟩, ⟨?_⟩, ⟨?_⟩, ⟨?_⟩⟩
        · exact (HB7.out.far (by simp) _).far (by simp) _
        · exact HN7.out.set2 HB8.out (by decide) (by decide) _ _
        · have := (HB8.out.set_ 0 (.pointer (some ⟨g6, 0, none⟩))).set_ 1 (.int .i64 x6)
          simpa using this
        · exact H6.out.set2 HB8.out (by decide) (by decide) _ _
        · exact (HB.out.setCell (Nat.le_succ_of_le HLE.out) _).setCell (Nat.le_succ_of_le HLE.out) _
      case measure => (simp [intOf]; try omega)
    · obtain rfl : k = n := by omega
      generalize hy : rF mode (pw x k) = y at *
      generalize hff : rFl mode (pw x k) = f at *
      have HYF := Hd.mk (And.intro hy hff)
      have HWY : Hd (W y) := ⟨by rw [← hy]; exact (rF_num _ _).1⟩
      clear hy hff
      go_wp2_with (first | (go_at_call 70; (with_reducible refine (n_RoundR g e (pw x k) mode (149 + 149 * k) _ y f (HN8.out.below (by (repeat (first | exact Below.refl _ _ | assumption | refine Below.drew ?_ | refine bdn ?_ | refine ba _ ?_ | refine bs0 _ _ ?_ ?_ | refine bs1 _ _ _ ?_ ?_ | refine bs2 _ _ _ _ ?_ ?_ | refine bs3 _ _ _ _ _ ?_ ?_ | refine bt3 (by assumption) ?_)))) HMD.out HYF.out.1 HYF.out.2).mono ?_); rintro e7 w7 ⟨rfl, hb⟩; replace HB := Hd.mk (bt3 hb (bt3 (by (repeat (first | exact Below.refl _ _ | assumption | refine Below.drew ?_ | refine bdn ?_ | refine ba _ ?_ | refine bs0 _ _ ?_ ?_ | refine bs1 _ _ _ ?_ ?_ | refine bs2 _ _ _ _ ?_ ?_ | refine bs3 _ _ _ _ _ ?_ ?_ | refine bt3 (by assumption) ?_))) HB.out)); clear hb) | (go_at_call 74; (with_reducible refine (i_plain y _ HWY.out).mono ?_); rintro e w' ⟨rfl, rfl⟩))
      go_ret
      exact ⟨rfl, bt3 (by (repeat (first | exact Below.refl _ _ | assumption | refine Below.drew ?_ | refine bdn ?_ | refine ba _ ?_ | refine bs0 _ _ ?_ ?_ | refine bs1 _ _ _ ?_ ?_ | refine bs2 _ _ _ _ ?_ ?_ | refine bs3 _ _ _ _ _ ?_ ?_ | refine bt3 (by assumption) ?_))) HB.out⟩
set_option maxHeartbeats 4000000 in
theorem i_PowI (x n : Nat) (mode : Int) (w : World) (hx : W x) (hnn : ¬ nan x) (hf : ¬ fin x) : Calls Tryz.prog 155 #[.float .f32 x, .int .i64 n, .int .i64 mode] w (RetV (.float .f32 (zp (ra mode x n))) w) := by
  have hd : decide (fin x) = false := decide_eq_false hf
  have HNN := Hd.mk hnn
  have e : zp (ra mode x n) = if n % 2 = 0 then 2139095040 else x := by
    unfold ra; rw [if_neg hf]
    split
    · rfl
    · have := inf_word hx hnn hf
      unfold zp; rw [if_neg (by omega)]
  rw [e]
  have ht : ((n : Int)).tmod 2 = ((n % 2 : Nat) : Int) := by rw [Int.tmod_eq_emod_of_nonneg (by omega)]; omega
  by_cases he : n % 2 = 0
  · rw [if_pos he]
    rw [he] at ht
    have h0 : ((n : Int)).tmod 2 = 0 := ht
    have h0' : (n : Int) % 2 = 0 := by omega
    clear e ht he hf hx
    go_enter Tryz.func155, Tryz.ntmps155
    go_wp2_with (first | (go_at_call 208; (with_reducible refine (i_isInf x _ HNN.out).mono ?_); rintro e w' ⟨rfl, rfl⟩) | (go_at_call 131; (with_reducible refine (i_inf1 _).mono ?_); rintro e w' ⟨rfl, rfl⟩))
    go_ret
    exact ⟨rfl, by (repeat (first | exact Below.refl _ _ | assumption | refine Below.drew ?_ | refine bdn ?_ | refine ba _ ?_ | refine bs0 _ _ ?_ ?_ | refine bs1 _ _ _ ?_ ?_ | refine bs2 _ _ _ _ ?_ ?_ | refine bs3 _ _ _ _ _ ?_ ?_ | refine bt3 (by assumption) ?_))⟩
  · rw [if_neg he]
    have h0 : ¬ ((n : Int)).tmod 2 = 0 := by rw [ht]; omega
    have h0' : ¬ (n : Int) % 2 = 0 := by omega
    clear e ht he hf hx
    go_enter Tryz.func155, Tryz.ntmps155
    go_wp2_with (first | (go_at_call 208; (with_reducible refine (i_isInf x _ HNN.out).mono ?_); rintro e w' ⟨rfl, rfl⟩) | (go_at_call 131; (with_reducible refine (i_inf1 _).mono ?_); rintro e w' ⟨rfl, rfl⟩))
    go_ret
    exact ⟨rfl, by (repeat (first | exact Below.refl _ _ | assumption | refine Below.drew ?_ | refine bdn ?_ | refine ba _ ?_ | refine bs0 _ _ ?_ ?_ | refine bs1 _ _ _ ?_ ?_ | refine bs2 _ _ _ _ ?_ ?_ | refine bs3 _ _ _ _ _ ?_ ?_ | refine bt3 (by assumption) ?_))⟩
theorem i_Pow (x n : Nat) (mode : Int) (w : World) (hx : W x) (hnn : ¬ nan x) (hn : n ≤ 20) (hmd : 0 ≤ mode ∧ mode ≤ 4) : Calls Tryz.prog 155 #[.float .f32 x, .int .i64 n, .int .i64 mode] w (RetV (.float .f32 (zp (ra mode x n))) w) := by
  by_cases hf : fin x
  · have := i_PowF x n mode w hx hf hn hmd
    have e : ra mode x n = rF mode (pw x n) := by unfold ra; rw [if_pos hf]
    rwa [e]
  · exact i_PowI x n mode w hx hnn hf
theorem s_Raise (x n : Nat) (w : World) (hx : W x) (hnn : ¬ nan x) (hn : n ≤ 20) : Calls Tryz.prog 150 #[.float .f32 x, .int .i64 n] w (RetV (.tuple #[.float .f32 (ra 1 x n), .float .f32 (ra 2 x n)]) w) := by
  by_cases hf : fin x
  · have := s_RaiseF x n w hx hf hn
    have e : ∀ m, ra m x n = rF m (pw x n) := fun m => by unfold ra; rw [if_pos hf]
    rwa [e, e]
  · exact s_RaiseI x n w hx hnn hf
end Go.Proofs.YtlaaielopcphiaaGreat
