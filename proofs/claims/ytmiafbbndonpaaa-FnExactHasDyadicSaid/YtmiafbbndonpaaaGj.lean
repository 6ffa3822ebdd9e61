/- Gj: S23, merged. -/
import Derived.Test.YtmiafbbndonpaaaGi
/- Contracts: the middle of an interval, both sides. -/
set_option linter.unusedVariables false
set_option linter.unusedSimpArgs false
namespace Go.Proofs.Ytmiafbbndonpaaa
open Go.RowKit Num Flt
theorem dv_half {m e : Int} (h : -20000 < e) : dv m e = 2 * dv m (e - 1) := by
  unfold dv
  have hsc : (SC : Int) = 20000 := rfl
  have : (e + SC).toNat = (e - 1 + SC).toNat + 1 := by omega
  rw [this, Int.pow_succ]
  generalize (2 : Int) ^ (e - 1 + SC).toNat = p
  rw [Int.mul_comm p 2, Int.mul_left_comm]
theorem bd_half {V : Int} (h : Bd V) : Bd (V / 2) := by
  unfold Bd at *; generalize TOP = T at *; omega
theorem dy_half {m e V : Int} {l : Nat} (h : DyF m e V l) (hl : l < 20000) (hm : m ≠ 0) : DyF m (e - 1) (V / 2) (l + 1) := by
  have hsc : (SC : Nat) = 20000 := rfl
  have h1 := h.lo
  have h2 := dv_half (m := m) (e := e) (by omega)
  exact ⟨by rw [h.val, h2]; omega, by omega, by omega, by have := h.hi; omega, fun k => absurd k hm, h.odd, bd_half h.bd⟩
theorem nu_half {m e V : Int} {l : Nat} (h : NuF m e V l) (hl : l < 20000) : NuF m (e - 1) (V / 2) (l + 1) := by
  have hsc : (SC : Nat) = 20000 := rfl
  have h1 := h.lo
  have h2 := dv_half (m := m) (e := e) (by omega)
  exact ⟨by rw [h.val, h2]; omega, by omega, by omega, by have := h.hi; omega, bd_half h.bd⟩
theorem DyP.half {w : World} {s : Int} {A : Option Addr} {n c l : Nat} {e V : Int} (h : DyP w s A n c e V l) (hl : l < 20000) (hs : s ≠ 0) : DyP w s A n c (e - 1) (V / 2) (l + 1) := by
  obtain ⟨m, h1, h2⟩ := h
  exact ⟨m, h1, dy_half h2 hl (fun k => hs (h1.zero.2 k))⟩
theorem DyP.bounds {w : World} {s : Int} {A : Option Addr} {n c l : Nat} {e V : Int} (h : DyP w s A n c e V l) : -20000 ≤ e ∧ e ≤ 2400000 := by
  obtain ⟨m, h1, h2⟩ := h
  have hsc : (SC : Nat) = 20000 := rfl
  have := h2.lo; have := h2.lsc; have := h2.hi; omega
theorem DyP.zero {w : World} {s : Int} {A : Option Addr} {n c l : Nat} {e V : Int} (h : DyP w s A n c e V l) (hs : s = 0) : V = 0 := by
  have := dy_sign h; rw [hs] at this
  exact Int.sign_eq_zero_iff_zero.1 this.symm
set_option maxHeartbeats 4000000 in
theorem n_Half (i : Nat) (e V : Int) (l : Nat) (w : World) (hX : NuP w i e V l) (hl : l < 20000) :
    Calls Try.prog 154 #[.agg #[.pointer (some ⟨i, 0, none⟩), .int .i64 e], .int .i64 (-1)] w (RetN (V / 2) (l + 1) w) := by
  obtain ⟨m, hB, hF⟩ := hX
  have hlo := hF.lo
  have hhi := hF.hi
  have HB := Hd.mk hB
  have HF := Hd.mk (nu_half hF hl)
  have hw : IntKind.i64.wrap (e + -1) = e - 1 := by rw [IntKind.wrap_i64]; omega
  clear hB hF
  go_enter Try.func154, Try.ntmps154
  go_wp2
  refine bodyPost_ret (v := .agg #[.pointer (some ⟨i, 0, none⟩), .int .i64 (e - 1)]) (by simp (maxDischargeDepth := 7) [results, Try.results154, go_sem, *]) rfl ⟨i, e - 1, rfl, NuP.of (HB.out.below ?_) HF.out, ?_⟩
  · (repeat (first | exact Below.refl _ _ | assumption | refine Below.drew ?_ | refine bdn ?_ | refine ba _ ?_ | refine bs0 _ _ ?_ ?_ | refine bs1 _ _ _ ?_ ?_ | refine bs2 _ _ _ _ ?_ ?_ | refine bs3 _ _ _ _ _ ?_ ?_ | refine bt3 (by assumption) ?_))
  · (repeat (first | exact Below.refl _ _ | assumption | refine Below.drew ?_ | refine bdn ?_ | refine ba _ ?_ | refine bs0 _ _ ?_ ?_ | refine bs1 _ _ _ ?_ ?_ | refine bs2 _ _ _ _ ?_ ?_ | refine bs3 _ _ _ _ _ ?_ ?_ | refine bt3 (by assumption) ?_))
/-! infinite ends -/
theorem wide_lt {x : Nat} (hn : ¬ nan x) : wide x < 18446744073709551616 ∧ wide x % 9223372036854775808 ≤ 9218868437227405312 ∧ ((wide x % 9223372036854775808 = 9218868437227405312) ↔ ¬ fin x) := by
  have hw : ∀ (s : Bool) {r : Nat}, r < 9223372036854775808 → Ieee.double.word s r < 18446744073709551616 ∧ Ieee.double.word s r % 9223372036854775808 = r := by
    intro s r h
    unfold Ieee.Format.word
    show (if s = true then 9223372036854775808 + r else r) < _ ∧ (if s = true then 9223372036854775808 + r else r) % _ = r
    split <;> omega
  unfold wide
  by_cases h : x % 2147483648 = 0
  · rw [wide_zero h, Option.getD_some]
    have := hw (sgf Ieee.single x) (r := 0) (by decide)
    refine ⟨this.1, by omega, ?_⟩
    rw [this.2]; unfold fin; omega
  · by_cases h2 : fin x
    · rw [wide_num h h2, Option.getD_some]
      have hm : mg 8388608 (x % 2147483648) ≠ 0 := fun k => h ((mg_zero _).1 k)
      have hlt := mg_lt (x % 2147483648)
      have he := ex_le (r := x % 2147483648) h2
      have hl : (mg 8388608 (x % 2147483648)).log2 ≤ 23 := by have := (Nat.log2_lt hm (k := 24)).2 (by simpa using hlt); omega
      have hd := drung_le (place := -149 + (ex 8388608 (x % 2147483648) : Nat)) hm (by omega) (by omega)
      have := hw (sgf Ieee.single x) (r := drung (mg 8388608 (x % 2147483648)) (-149 + (ex 8388608 (x % 2147483648) : Nat))) (by omega)
      refine ⟨this.1, by omega, ?_⟩
      rw [this.2]
      exact ⟨fun k => by omega, fun k => absurd h2 k⟩
    · rw [wide_inf (by unfold fin at h2; unfold nan at hn; omega), Option.getD_some]
      have := hw (sgf Ieee.single x) (r := Ieee.double.infRung) (by decide)
      refine ⟨this.1, by rw [this.2]; decide, ?_⟩
      rw [this.2]
      exact ⟨fun _ => h2, fun _ => by decide⟩
theorem abs_bits {X : Nat} (h : X < 18446744073709551616) : bits .andNot .u64 (X : Int) 9223372036854775808 = ((X % 9223372036854775808 : Nat) : Int) := by
  rw [u64_andNot _ _ (by omega) (by omega) (by omega) (by omega)]
  have e : (18446744073709551615 - (9223372036854775808 : Int).toNat : Nat) = 2 ^ 63 - 1 := by decide
  have h63 : (2 : Nat) ^ 63 = 9223372036854775808 := by decide
  rw [Int.toNat_natCast, e, Nat.and_two_pow_sub_one_eq_mod, h63]
set_option maxHeartbeats 4000000 in
theorem l_AbsD (X Y : Nat) (w : World) (h : X < 18446744073709551616) (hY : X % 9223372036854775808 = Y) : Calls Try.prog 197 #[.float .f64 X] w fun e w' => e = .returned (.float .f64 Y) ∧ w = w' := by
  have k1 := run_f64bits
  have k2 := run_f64frombits
  have k3 := abs_bits h
  rw [hY] at k3
  clear h hY
  go_enter Try.func197, Try.ntmps197
  go_wp2
  go_ret
  exact ⟨by simp, rfl⟩
set_option maxHeartbeats 4000000 in
theorem l_InfD (X Y : Nat) (b : Bool) (w : World) (h : X < 18446744073709551616) (hY : X % 9223372036854775808 = Y) (hl : Y ≤ 9218868437227405312) (hb : b = decide (Y = 9218868437227405312)) : Calls Try.prog 148 #[.float .f64 X, .int .i64 0] w fun e w' => e = .returned (.bool b) ∧ w = w' := by
  have HX : Hd (X < 18446744073709551616 ∧ X % 9223372036854775808 = Y) := ⟨⟨h, hY⟩⟩
  have k3 : (FloatKind.f64.format.order Y 9218868437227405311 == some .gt) = b := by
    rw [d_ord hl (by omega), hb]
    by_cases hy : Y = 9218868437227405312
    · subst hy; decide
    · rw [cmpb_gt (by omega)]; symm; exact decide_eq_false hy
  clear h hY hl hb
  go_enter Try.func148, Try.ntmps148
  go_wp2_with (go_at_call 197; (with_reducible refine (l_AbsD X Y _ HX.out.1 HX.out.2).mono ?_); rintro e w' ⟨rfl, rfl⟩)
  go_ret
  exact ⟨rfl, rfl⟩
set_option maxHeartbeats 4000000 in
theorem i_isInf (x : Nat) (w : World) (hn : ¬ nan x) : Calls Try.prog 83 #[.float .f32 x] w fun e w' => e = .returned (.bool (!decide (fin x))) ∧ w = w' := by
  have k1 := fun w => run_convert_float_float (P := Try.prog) w 28 62 .f32 .f64 x (wide x) (by kernel_rfl) Try.underlying62 (wide_some hn)
  have h := wide_lt hn
  have HX : Hd (wide x < 18446744073709551616 ∧ wide x % 9223372036854775808 ≤ 9218868437227405312 ∧ (!decide (fin x)) = decide (wide x % 9223372036854775808 = 9218868437227405312)) := ⟨⟨h.1, h.2.1, by
    by_cases hf : fin x
    · rw [decide_eq_true hf, decide_eq_false (fun k => (h.2.2.1 k) hf)]; rfl
    · rw [decide_eq_false hf, decide_eq_true (h.2.2.2 hf)]; rfl⟩⟩
  generalize hb : (!decide (fin x)) = b at *
  generalize hX : wide x = X at *
  clear h hn hb hX
  go_enter Try.func83, Try.ntmps83
  go_wp2_with (go_at_call 148; (with_reducible refine (l_InfD X _ b _ HX.out.1 rfl HX.out.2.1 HX.out.2.2).mono ?_); rintro e w' ⟨rfl, rfl⟩)
  go_ret
  exact ⟨rfl, rfl⟩
set_option maxHeartbeats 4000000 in
theorem i_endless (a b : Nat) (w : World) (ha : ¬ nan a) (hb : ¬ nan b) : Calls Try.prog 91 #[.agg #[.float .f32 a, .float .f32 b]] w (RetV (.bool (!(decide (fin a) && decide (fin b)))) w) := by
  have HX : Hd (¬ nan a ∧ ¬ nan b) := ⟨⟨ha, hb⟩⟩
  clear ha hb
  have hc := fun w => i_isInf a w HX.out.1
  have hd := fun w => i_isInf b w HX.out.2
  have HC := Hd.mk hc
  have HD := Hd.mk hd
  clear hc hd
  cases ha : decide (fin a)
  · rw [ha] at HC
    go_enter Try.func91, Try.ntmps91
    go_wp2_with (first | (go_at_call 83; (with_reducible refine (HC.out _).mono ?_); rintro e w' ⟨rfl, rfl⟩) | (go_at_call 83; (with_reducible refine (HD.out _).mono ?_); rintro e w' ⟨rfl, rfl⟩))
    go_ret
    exact ⟨by simp, by (repeat (first | exact Below.refl _ _ | assumption | refine Below.drew ?_ | refine bdn ?_ | refine ba _ ?_ | refine bs0 _ _ ?_ ?_ | refine bs1 _ _ _ ?_ ?_ | refine bs2 _ _ _ _ ?_ ?_ | refine bs3 _ _ _ _ _ ?_ ?_ | refine bt3 (by assumption) ?_))⟩
  · rw [ha] at HC
    go_enter Try.func91, Try.ntmps91
    go_wp2_with (first | (go_at_call 83; (with_reducible refine (HC.out _).mono ?_); rintro e w' ⟨rfl, rfl⟩) | (go_at_call 83; (with_reducible refine (HD.out _).mono ?_); rintro e w' ⟨rfl, rfl⟩))
    go_ret
    exact ⟨by simp, by (repeat (first | exact Below.refl _ _ | assumption | refine Below.drew ?_ | refine bdn ?_ | refine ba _ ?_ | refine bs0 _ _ ?_ ?_ | refine bs1 _ _ _ ?_ ?_ | refine bs2 _ _ _ _ ?_ ?_ | refine bs3 _ _ _ _ _ ?_ ?_ | refine bt3 (by assumption) ?_))⟩
set_option maxHeartbeats 4000000 in
theorem s_Bounded (a b : Nat) (w : World) : Calls Try.prog 89 #[.agg #[.float .f32 a, .float .f32 b]] w (RetV (.bool (decide (fin a) && decide (fin b))) w) := by
  cases ha : decide (fin a)
  · go_enter Try.func89, Try.ntmps89
    go_wp2_with (go_at_call 93; (with_reducible refine (s_Finite _ _).mono ?_); rintro e w' ⟨rfl, ⟨nd, rfl⟩⟩)
    go_ret
    exact ⟨by simp, by (repeat (first | exact Below.refl _ _ | assumption | refine Below.drew ?_ | refine bdn ?_ | refine ba _ ?_ | refine bs0 _ _ ?_ ?_ | refine bs1 _ _ _ ?_ ?_ | refine bs2 _ _ _ _ ?_ ?_ | refine bs3 _ _ _ _ _ ?_ ?_ | refine bt3 (by assumption) ?_))⟩
  · go_enter Try.func89, Try.ntmps89
    go_wp2_with (go_at_call 93; (with_reducible refine (s_Finite _ _).mono ?_); rintro e w' ⟨rfl, ⟨nd, rfl⟩⟩)
    go_ret
    exact ⟨by simp, by (repeat (first | exact Below.refl _ _ | assumption | refine Below.drew ?_ | refine bdn ?_ | refine ba _ ?_ | refine bs0 _ _ ?_ ?_ | refine bs1 _ _ _ ?_ ?_ | refine bs2 _ _ _ _ ?_ ?_ | refine bs3 _ _ _ _ _ ?_ ?_ | refine bt3 (by assumption) ?_))⟩
theorem wrap_m1 {e : Int} (h0 : -20000 ≤ e) (h1 : e ≤ 2400000) : wrap64 (e - 1) = e - 1 := by unfold wrap64; omega
def mdF (a b : Nat) : Nat := nrF ((fv a + fv b) / 2)
/-- what the reference's middle holds behind the sum -/
structure MidC (w wx : World) (g : Nat) (s : Int) (A : Option Addr) (n c : Nat) (e V : Int) : Prop where
  bel : Below w.heap.size w wx
  c0 : wx.cell? ⟨g, 0, none⟩ = some (.int .i64 s)
  c1 : wx.cell? ⟨g, 1, none⟩ = some (.slice A n c)
  c2 : wx.cell? ⟨g, 2, none⟩ = some (.int .i64 e)
  f2 : wx.frozen? ⟨g, 2, none⟩ = false
  dy : DyP wx s A n c e V 149
  stb : ∀ o u, DyP (wx.setCell ⟨g, o, none⟩ u) s A n c e V 149
  lt : w.heap.size < g
theorem MidC.ofSet {w wx : World} {g B : Nat} {s : Int} {A : Option Addr} {n c : Nat} {e V : Int} (hb : Below w.heap.size w wx) (hD : DyO wx B s A n c e V 149) (hg : g < B) (hB : Blk wx g 35 #[.int .i64 0, .slice none 0 0, .int .i64 0]) (hlt : w.heap.size < g) :
    MidC w (((wx.setCell ⟨g, 0, none⟩ (.int .i64 s)).setCell ⟨g, 1, none⟩ (.slice A n c)).setCell ⟨g, 2, none⟩ (.int .i64 e)) g s A n c e V := by
  have K : Blk (((wx.setCell ⟨g, 0, none⟩ (.int .i64 s)).setCell ⟨g, 1, none⟩ (.slice A n c)).setCell ⟨g, 2, none⟩ (.int .i64 e)) g 35 #[.int .i64 s, .slice A n c, .int .i64 e] := ((hB.set_ 0 _).set_ 1 _).set_ 2 _
  have hs := ((hD.set g 0 hg (.int .i64 s)).set g 1 hg (.slice A n c)).set g 2 hg (.int .i64 e)
  exact ⟨((hb.setCell (by simp; omega) _).setCell (by simp; omega) _).setCell (by simp; omega) _, K.cell 0, K.cell 1, K.cell 2, K.frozen 2, hs.dp, fun o u => (hs.set g o hg u).dp, hlt⟩
theorem MidC.ofNew {w wx : World} {s : Int} {A : Option Addr} {n c : Nat} {e V : Int} (hb : Below w.heap.size w wx) (hD : DyP wx s A n c e V 149) (hlt : w.heap.size < wx.heap.size) :
    MidC w (wx.alloc (Obj.cells #[.int .i64 s, .slice A n c, .int .i64 e] 35)) wx.heap.size s A n c e V := by
  have K := Blk.new wx 35 #[.int .i64 s, .slice A n c, .int .i64 e]
  have hb2 : Below wx.heap.size wx (wx.alloc (Obj.cells #[.int .i64 s, .slice A n c, .int .i64 e] 35)) := ba _ (Below.refl _ _)
  exact ⟨ba _ hb, K.cell 0, K.cell 1, K.cell 2, K.frozen 2, hD.below hb2, fun o u => hD.below (hb2.setCell (Nat.le_refl _) u), hlt⟩
set_option maxHeartbeats 4000000 in
theorem s_Middle (a b : Nat) (w : World) (ha : W a) (hb : W b) (fa : fin a) (fb : fin b) :
    Calls Try.prog 90 #[.agg #[.float .f32 a, .float .f32 b]] w (RetV (.float .f32 (mdF a b)) w) := by
  have HX : Hd (W a ∧ fin a ∧ W b ∧ fin b ∧ Bd (fv a + fv b)) := ⟨⟨ha, fa, hb, fb, fv_bd2 fa fb⟩⟩
  unfold mdF
  have HB0 : Hd (Below w.heap.size w (w.alloc (Obj.cells #[.float .f32 a, .float .f32 b] 51))) := ⟨ba _ (Below.refl _ _)⟩
  have HK : Hd (Blk (w.alloc (Obj.cells #[.float .f32 a, .float .f32 b] 51)) w.heap.size 51 #[.float .f32 a, .float .f32 b]) := ⟨Blk.new _ _ _⟩
  clear ha hb fa fb
  go_enter Try.func90, Try.ntmps90
  go_wp2_with fail
  generalize hwb : w.alloc (Obj.cells #[.float .f32 a, .float .f32 b] 51) = wb at *
  clear hwb
  have d0 : wb.cell? _ = some (.float .f32 a) := HK.out.cell 0
  have d1 : wb.cell? _ = some (.float .f32 b) := HK.out.cell 1
  go_cut [3] (fun s3 wx => ∃ g s A n c e, s3 = .pointer (some ⟨g, 0, none⟩) ∧ Hd (MidC w wx g s A n c e (fv a + fv b)))
  case first =>
    go_region_held3 (fun w' => w'.cell? ⟨w.heap.size, 0, none⟩ = some (.float .f32 a) ∧ w'.cell? ⟨w.heap.size, 1, none⟩ = some (.float .f32 b)) ((first | assumption | (refine keep2 ?_ ⟨d0, d1⟩; (repeat (first | exact Below.refl _ _ | assumption | refine Below.drew ?_ | refine bdn ?_ | refine ba _ ?_ | refine bs0 _ _ ?_ ?_ | refine bs1 _ _ _ ?_ ?_ | refine bs2 _ _ _ _ ?_ ?_ | refine bs3 _ _ _ _ _ ?_ ?_ | refine bt3 (by assumption) ?_)); done) | go_keep | (refine ⟨?_, ?_⟩ <;> go_simp) | (constructor <;> go_simp)))
      (first | (go_at_call 106; (with_reducible refine (s_DOf a _ HX.out.1 HX.out.2.1).mono ?_); rintro e3 w3 ⟨s3, A3, n3, c3, x3, rfl, hD, hb⟩; have hq3 : Below wb.heap.size wb w3 := bt3 hb (by (repeat (first | exact Below.refl _ _ | assumption | refine Below.drew ?_ | refine bdn ?_ | refine ba _ ?_ | refine bs0 _ _ ?_ ?_ | refine bs1 _ _ _ ?_ ?_ | refine bs2 _ _ _ _ ?_ ?_ | refine bs3 _ _ _ _ _ ?_ ?_ | refine bt3 (by assumption) ?_))); have H3 : Hd (DyP w3 s3 A3 n3 c3 x3 (fv a) 149) := ⟨hD.dp⟩; (try have B3 : Blk w3 wb.heap.size 35 #[.int .i64 0, .slice none 0 0, .int .i64 0] := (by first | exact Blk.below (Blk.new _ _ _) hb (by simp) | exact Blk.below (Blk.drew (Blk.new _ _ _)) hb (by simp))); clear hD hb) | (go_at_call 106; (with_reducible refine (s_DOf b _ HX.out.2.2.1 HX.out.2.2.2.1).mono ?_); rintro e4 w4 ⟨s4, A4, n4, c4, x4, rfl, hD, hb⟩; have hq4 : Below wb.heap.size wb w4 := bt3 hb (by (repeat (first | exact Below.refl _ _ | assumption | refine Below.drew ?_ | refine bdn ?_ | refine ba _ ?_ | refine bs0 _ _ ?_ ?_ | refine bs1 _ _ _ ?_ ?_ | refine bs2 _ _ _ _ ?_ ?_ | refine bs3 _ _ _ _ _ ?_ ?_ | refine bt3 (by assumption) ?_))); have H4 : Hd (DyP w4 s4 A4 n4 c4 x4 (fv b) 149) := ⟨hD.dp⟩; replace H3 : Hd (DyP w4 s3 A3 n3 c3 x3 (fv a) 149) := ⟨H3.out.below (bt3 hb (by (repeat (first | exact Below.refl _ _ | assumption | refine Below.drew ?_ | refine bdn ?_ | refine ba _ ?_ | refine bs0 _ _ ?_ ?_ | refine bs1 _ _ _ ?_ ?_ | refine bs2 _ _ _ _ ?_ ?_ | refine bs3 _ _ _ _ _ ?_ ?_ | refine bt3 (by assumption) ?_))))⟩; (first | have B4 : Blk w4 w3.heap.size 35 #[.int .i64 0, .slice none 0 0, .int .i64 0] := (by first | exact Blk.below (Blk.new _ _ _) hb (by simp) | exact Blk.below (Blk.drew (Blk.new _ _ _)) hb (by simp)) | have B4 := Blk.below B3 (bt3 hb (by (repeat (first | exact Below.refl _ _ | assumption | refine Below.drew ?_ | refine bdn ?_ | refine ba _ ?_ | refine bs0 _ _ ?_ ?_ | refine bs1 _ _ _ ?_ ?_ | refine bs2 _ _ _ _ ?_ ?_ | refine bs3 _ _ _ _ _ ?_ ?_ | refine bt3 (by assumption) ?_))) : Below w3.heap.size w3 w4) B3.lt | (fail_if_success (have := B3.lt))); clear hD hb) | (go_at_call 130; (with_reducible refine (s_DAdd s3 s4 x3 x4 (fv a) (fv b) A3 A4 n3 n4 c3 c4 149 _ (H3.out.below (by (repeat (first | exact Below.refl _ _ | assumption | refine Below.drew ?_ | refine bdn ?_ | refine ba _ ?_ | refine bs0 _ _ ?_ ?_ | refine bs1 _ _ _ ?_ ?_ | refine bs2 _ _ _ _ ?_ ?_ | refine bs3 _ _ _ _ _ ?_ ?_ | refine bt3 (by assumption) ?_)))) (H4.out.below (by (repeat (first | exact Below.refl _ _ | assumption | refine Below.drew ?_ | refine bdn ?_ | refine ba _ ?_ | refine bs0 _ _ ?_ ?_ | refine bs1 _ _ _ ?_ ?_ | refine bs2 _ _ _ _ ?_ ?_ | refine bs3 _ _ _ _ _ ?_ ?_ | refine bt3 (by assumption) ?_)))) HX.out.2.2.2.2).mono ?_); rintro e5 w5 ⟨s5, A5, n5, c5, x5, rfl, hD, hb⟩; have hq5 : Below wb.heap.size wb w5 := bt3 hb (by (repeat (first | exact Below.refl _ _ | assumption | refine Below.drew ?_ | refine bdn ?_ | refine ba _ ?_ | refine bs0 _ _ ?_ ?_ | refine bs1 _ _ _ ?_ ?_ | refine bs2 _ _ _ _ ?_ ?_ | refine bs3 _ _ _ _ _ ?_ ?_ | refine bt3 (by assumption) ?_))); have H5 := Hd.mk hD; (first | (have B5 : Blk w5 w4.heap.size 35 #[.int .i64 0, .slice none 0 0, .int .i64 0] := (by first | exact Blk.below (Blk.new _ _ _) hb (by simp) | exact Blk.below (Blk.drew (Blk.new _ _ _)) hb (by simp)); have p0 : w5.cell? _ = some (.int .i64 0) := B5.cell 0; have p1 : w5.cell? _ = some (.slice none 0 0) := B5.cell 1; have p2 : w5.cell? _ = some (.int .i64 0) := B5.cell 2; have z0 := B5.frozen 0; have z1 := B5.frozen 1; have z2 := B5.frozen 2) | (have B5 := Blk.below B4 (bt3 hb (by (repeat (first | exact Below.refl _ _ | assumption | refine Below.drew ?_ | refine bdn ?_ | refine ba _ ?_ | refine bs0 _ _ ?_ ?_ | refine bs1 _ _ _ ?_ ?_ | refine bs2 _ _ _ _ ?_ ?_ | refine bs3 _ _ _ _ _ ?_ ?_ | refine bt3 (by assumption) ?_))) : Below w4.heap.size w4 w5) B4.lt; have p0 : w5.cell? _ = some (.int .i64 0) := B5.cell 0; have p1 : w5.cell? _ = some (.slice none 0 0) := B5.cell 1; have p2 : w5.cell? _ = some (.int .i64 0) := B5.cell 2; have z0 := B5.frozen 0; have z1 := B5.frozen 1; have z2 := B5.frozen 2) | (fail_if_success (have hno := hb.os; have := Blk.below B4 (bt3 hb (by (repeat (first | exact Below.refl _ _ | assumption | refine Below.drew ?_ | refine bdn ?_ | refine ba _ ?_ | refine bs0 _ _ ?_ ?_ | refine bs1 _ _ _ ?_ ?_ | refine bs2 _ _ _ _ ?_ ?_ | refine bs3 _ _ _ _ _ ?_ ?_ | refine bt3 (by assumption) ?_))) : Below w4.heap.size w4 w5) B4.lt))); clear hD hb))
    all_goals
      go_wp2_with fail
      go_meet
      have hlt0 := HK.out.lt
      first
      | exact ⟨w5.heap.size, s5, A5, n5, c5, x5, rfl, ⟨MidC.ofNew (bt3 hq5 HB0.out) H5.out.dp (Nat.lt_of_lt_of_le hlt0 hq5.size)⟩⟩
      | exact ⟨w4.heap.size, s5, A5, n5, c5, x5, rfl, ⟨MidC.ofSet (bt3 hq5 HB0.out) H5.out (by simp) B5 (Nat.lt_of_lt_of_le hlt0 hq4.size)⟩⟩
      | exact ⟨w3.heap.size, s5, A5, n5, c5, x5, rfl, ⟨MidC.ofSet (bt3 hq5 HB0.out) H5.out B4.lt B5 (Nat.lt_of_lt_of_le hlt0 hq3.size)⟩⟩
      | exact ⟨wb.heap.size, s5, A5, n5, c5, x5, rfl, ⟨MidC.ofSet (bt3 hq5 HB0.out) H5.out B4.lt B5 hlt0⟩⟩
  case rest =>
    obtain ⟨g, s1, A1, n1, c1, e1, rfl, HM⟩ := hcut
    have m0 := HM.out.c0
    have m1 := HM.out.c1
    have m2 := HM.out.c2
    have mf := HM.out.f2
    have hbe := HM.out.dy.bounds
    have hw := wrap_m1 hbe.1 hbe.2
    have hw2 : IntKind.i64.wrap (e1 - 1) = e1 - 1 := by rw [IntKind.wrap_i64]; omega
    by_cases h0 : s1 = 0
    · have hV := HM.out.dy.zero h0
      have HV : Hd (nrF ((fv a + fv b) / 2) = 0) := ⟨by rw [hV]; decide⟩
      subst h0
      clear hV
      go_wp2
      go_ret
      exact ⟨by rw [HV.out] <;> rfl, HM.out.bel.setCell (by have := HM.out.lt; simp; omega) _⟩
    · have h1 : (s1 == 0) = false := by simpa using h0
      have HD : Hd (∀ u, DyP (wc.setCell ⟨g, 2, none⟩ u) s1 A1 n1 c1 (e1 - 1) ((fv a + fv b) / 2) 150) := ⟨fun u => (HM.out.stb 2 u).half (by omega) h0⟩
      have HB2 : Hd (∀ u, Below w.heap.size w (wc.setCell ⟨g, 2, none⟩ u)) := ⟨fun u => HM.out.bel.setCell (by have := HM.out.lt; simp; omega) _⟩
      have HY : Hd (W (rF 0 ((fv a + fv b) / 2))) := ⟨(rF_num _ _).1⟩
      generalize hy : rF 0 ((fv a + fv b) / 2) = y at *
      have HY2 := Hd.mk hy
      have HZ : Hd (nrF ((fv a + fv b) / 2) = zp y) := ⟨by unfold nrF; rw [hy]⟩
      clear h0 hy
      go_wp2_with (first | (go_at_call 98; (with_reducible refine (s_RoundR s1 A1 n1 c1 (e1 - 1) _ 0 150 _ y _ (HD.out _) (by decide) HY2.out rfl).mono ?_); rintro e' w9 ⟨rfl, hb⟩; have HB : Hd (Below w.heap.size w w9) := ⟨bt3 hb (HB2.out _)⟩; clear hb) | (go_at_call 153; (with_reducible refine (s_Zero y _ HY.out).mono ?_); rintro e w' ⟨rfl, rfl⟩))
      go_ret
      exact ⟨by rw [HZ.out] <;> rfl, HB.out⟩
set_option maxHeartbeats 4000000 in
theorem i_Middle (a b : Nat) (w : World) (ha : W a) (hb : W b) (fa : fin a) (fb : fin b) :
    Calls Try.prog 92 #[.agg #[.float .f32 a, .float .f32 b]] w (RetV (.float .f32 (mdF a b)) w) := by
  have HX : Hd (W a ∧ fin a ∧ W b ∧ fin b ∧ Bd (fv a + fv b)) := ⟨⟨ha, fa, hb, fb, fv_bd2 fa fb⟩⟩
  have HB0 : Hd (Below w.heap.size w (w.alloc (Obj.cells #[.float .f32 a, .float .f32 b] 51))) := ⟨ba _ (Below.refl _ _)⟩
  have HK : Hd (Blk (w.alloc (Obj.cells #[.float .f32 a, .float .f32 b] 51)) w.heap.size 51 #[.float .f32 a, .float .f32 b]) := ⟨Blk.new _ _ _⟩
  unfold mdF nrF
  generalize hy : rF 0 ((fv a + fv b) / 2) = y at *
  have HY : Hd (rF 0 ((fv a + fv b) / 2) = y ∧ W y) := ⟨⟨hy, by rw [← hy]; exact (rF_num _ _).1⟩⟩
  clear ha hb fa fb hy
  go_enter Try.func92, Try.ntmps92
  go_wp2_with fail
  generalize hwb : w.alloc (Obj.cells #[.float .f32 a, .float .f32 b] 51) = wb at *
  clear hwb
  have d0 : wb.cell? _ = some (.float .f32 a) := HK.out.cell 0
  have d1 : wb.cell? _ = some (.float .f32 b) := HK.out.cell 1
  go_region_held3 (fun w' => w'.cell? ⟨w.heap.size, 0, none⟩ = some (.float .f32 a) ∧ w'.cell? ⟨w.heap.size, 1, none⟩ = some (.float .f32 b)) ((first | assumption | (refine keep2 ?_ ⟨d0, d1⟩; (repeat (first | exact Below.refl _ _ | assumption | refine Below.drew ?_ | refine bdn ?_ | refine ba _ ?_ | refine bs0 _ _ ?_ ?_ | refine bs1 _ _ _ ?_ ?_ | refine bs2 _ _ _ _ ?_ ?_ | refine bs3 _ _ _ _ _ ?_ ?_ | refine bt3 (by assumption) ?_)); done) | go_keep | (refine ⟨?_, ?_⟩ <;> go_simp) | (constructor <;> go_simp)))
    (first | (go_at_call 84; (with_reducible refine (n_Of a _ HX.out.1 HX.out.2.1).mono ?_); rintro e3 w3 ⟨g3, x3, rfl, hN, hb⟩; have hq3 : Below wb.heap.size wb w3 := bt3 hb (by (repeat (first | exact Below.refl _ _ | assumption | refine Below.drew ?_ | refine bdn ?_ | refine ba _ ?_ | refine bs0 _ _ ?_ ?_ | refine bs1 _ _ _ ?_ ?_ | refine bs2 _ _ _ _ ?_ ?_ | refine bs3 _ _ _ _ _ ?_ ?_ | refine bt3 (by assumption) ?_))); have H3 := Hd.mk hN; clear hN hb) | (go_at_call 84; (with_reducible refine (n_Of b _ HX.out.2.2.1 HX.out.2.2.2.1).mono ?_); rintro e4 w4 ⟨g4, x4, rfl, hN, hb⟩; have hq4 : Below wb.heap.size wb w4 := bt3 hb (by (repeat (first | exact Below.refl _ _ | assumption | refine Below.drew ?_ | refine bdn ?_ | refine ba _ ?_ | refine bs0 _ _ ?_ ?_ | refine bs1 _ _ _ ?_ ?_ | refine bs2 _ _ _ _ ?_ ?_ | refine bs3 _ _ _ _ _ ?_ ?_ | refine bt3 (by assumption) ?_))); replace H3 : Hd (NuP w4 g3 x3 (fv a) 149) := ⟨H3.out.below (bt3 hb (by (repeat (first | exact Below.refl _ _ | assumption | refine Below.drew ?_ | refine bdn ?_ | refine ba _ ?_ | refine bs0 _ _ ?_ ?_ | refine bs1 _ _ _ ?_ ?_ | refine bs2 _ _ _ _ ?_ ?_ | refine bs3 _ _ _ _ _ ?_ ?_ | refine bt3 (by assumption) ?_))))⟩; have H4 := Hd.mk hN; clear hN hb) | (go_at_call 109; (with_reducible refine (n_Add g3 g4 x3 x4 (fv a) (fv b) 149 _ (H3.out.below (by (repeat (first | exact Below.refl _ _ | assumption | refine Below.drew ?_ | refine bdn ?_ | refine ba _ ?_ | refine bs0 _ _ ?_ ?_ | refine bs1 _ _ _ ?_ ?_ | refine bs2 _ _ _ _ ?_ ?_ | refine bs3 _ _ _ _ _ ?_ ?_ | refine bt3 (by assumption) ?_)))) (H4.out.below (by (repeat (first | exact Below.refl _ _ | assumption | refine Below.drew ?_ | refine bdn ?_ | refine ba _ ?_ | refine bs0 _ _ ?_ ?_ | refine bs1 _ _ _ ?_ ?_ | refine bs2 _ _ _ _ ?_ ?_ | refine bs3 _ _ _ _ _ ?_ ?_ | refine bt3 (by assumption) ?_)))) HX.out.2.2.2.2).mono ?_); rintro e5 w5 ⟨g5, x5, rfl, hN, hb⟩; have hq5 : Below wb.heap.size wb w5 := bt3 hb (by (repeat (first | exact Below.refl _ _ | assumption | refine Below.drew ?_ | refine bdn ?_ | refine ba _ ?_ | refine bs0 _ _ ?_ ?_ | refine bs1 _ _ _ ?_ ?_ | refine bs2 _ _ _ _ ?_ ?_ | refine bs3 _ _ _ _ _ ?_ ?_ | refine bt3 (by assumption) ?_))); have H5 := Hd.mk hN; clear hN hb) | (go_at_call 154; (with_reducible refine (n_Half g5 x5 (fv a + fv b) 149 _ (H5.out.below (by (repeat (first | exact Below.refl _ _ | assumption | refine Below.drew ?_ | refine bdn ?_ | refine ba _ ?_ | refine bs0 _ _ ?_ ?_ | refine bs1 _ _ _ ?_ ?_ | refine bs2 _ _ _ _ ?_ ?_ | refine bs3 _ _ _ _ _ ?_ ?_ | refine bt3 (by assumption) ?_)))) (by omega)).mono ?_); rintro e6 w6 ⟨g6, x6, rfl, hN, hb⟩; have hq6 : Below wb.heap.size wb w6 := bt3 hb (by (repeat (first | exact Below.refl _ _ | assumption | refine Below.drew ?_ | refine bdn ?_ | refine ba _ ?_ | refine bs0 _ _ ?_ ?_ | refine bs1 _ _ _ ?_ ?_ | refine bs2 _ _ _ _ ?_ ?_ | refine bs3 _ _ _ _ _ ?_ ?_ | refine bt3 (by assumption) ?_))); have H6 := Hd.mk hN; clear hN hb) | (go_at_call 100; (with_reducible refine (n_RoundR g6 x6 ((fv a + fv b) / 2) 0 (149 + 1) _ y _ (H6.out.below (by (repeat (first | exact Below.refl _ _ | assumption | refine Below.drew ?_ | refine bdn ?_ | refine ba _ ?_ | refine bs0 _ _ ?_ ?_ | refine bs1 _ _ _ ?_ ?_ | refine bs2 _ _ _ _ ?_ ?_ | refine bs3 _ _ _ _ _ ?_ ?_ | refine bt3 (by assumption) ?_)))) (by decide) HY.out.1 rfl).mono ?_); rintro e7 w7 ⟨rfl, hb⟩; have hq7 : Below wb.heap.size wb w7 := bt3 hb (by (repeat (first | exact Below.refl _ _ | assumption | refine Below.drew ?_ | refine bdn ?_ | refine ba _ ?_ | refine bs0 _ _ ?_ ?_ | refine bs1 _ _ _ ?_ ?_ | refine bs2 _ _ _ _ ?_ ?_ | refine bs3 _ _ _ _ _ ?_ ?_ | refine bt3 (by assumption) ?_))); clear hb))
  go_wp2_with (go_at_call 155; (with_reducible refine (i_plain y _ HY.out.2).mono ?_); rintro e w' ⟨rfl, rfl⟩)
  go_ret
  exact ⟨rfl, bt3 (by (repeat (first | exact Below.refl _ _ | assumption | refine Below.drew ?_ | refine bdn ?_ | refine ba _ ?_ | refine bs0 _ _ ?_ ?_ | refine bs1 _ _ _ ?_ ?_ | refine bs2 _ _ _ _ ?_ ?_ | refine bs3 _ _ _ _ _ ?_ ?_ | refine bt3 (by assumption) ?_))) HB0.out⟩
/-! the answers of MiddleOf -/
def moC (a b : Nat) : Int := if IsIv a b then (if fin a ∧ fin b then 0 else 5) else 1
def moF (a b : Nat) : Nat := if moC a b = 0 then mdF a b else 0
theorem mo_bad {a b : Nat} (h : ¬ IsIv a b) : moC a b = 1 ∧ moF a b = 0 := by
  have h1 : moC a b = 1 := by unfold moC; rw [if_neg h]
  exact ⟨h1, by unfold moF; rw [h1]; rfl⟩
theorem mo_inf {a b : Nat} (h : IsIv a b) (hn : ¬ (fin a ∧ fin b)) : moC a b = 5 ∧ moF a b = 0 := by
  have h1 : moC a b = 5 := by unfold moC; rw [if_pos h, if_neg hn]
  exact ⟨h1, by unfold moF; rw [h1]; rfl⟩
theorem mo_good {a b : Nat} (h : IsIv a b) (hn : fin a ∧ fin b) : moC a b = 0 ∧ moF a b = mdF a b := by
  have h1 : moC a b = 0 := by unfold moC; rw [if_pos h, if_pos hn]
  exact ⟨h1, by unfold moF; rw [h1]; rfl⟩
theorem mdF_num (a b : Nat) : W (mdF a b) ∧ ¬ nan (mdF a b) := nrF_num _
theorem mo_num (a b : Nat) : ¬ nan (moF a b) := by
  unfold moF; split
  · exact (mdF_num a b).2
  · decide
def RetMO (a b : Nat) (w : World) : Ending → World → Prop := RetV (.tuple #[.float .f32 (moF a b), .int .i64 (moC a b)]) w
set_option maxHeartbeats 4000000 in
theorem s_MidOf (a b : Nat) (w : World) (ha : W a) (hb : W b) : Calls Try.prog 38 #[.agg #[.float .f32 a, .float .f32 b]] w (RetMO a b w) := by
  have HX : Hd (W a ∧ W b) := ⟨⟨ha, hb⟩⟩
  clear ha hb
  have HI := Hd.mk (fun w => s_Is a b w HX.out.1 HX.out.2)
  have HF := Hd.mk (fun w => s_Bounded a b w)
  by_cases h1 : IsIv a b
  · rw [decide_eq_true h1] at HI
    by_cases h2 : fin a ∧ fin b
    · rw [show (decide (fin a) && decide (fin b)) = true by simp [h2]] at HF
      have HV := Hd.mk (mo_good h1 h2)
      have HC := Hd.mk (fun w => s_Middle a b w HX.out.1 HX.out.2 h2.1 h2.2)
      clear h1 h2
      go_enter Try.func38, Try.ntmps38
      go_wp2_with (first | (go_at_call 76; (with_reducible refine (HI.out _).mono ?_); rintro e w' ⟨rfl, hb⟩; (try replace hb := bt3 hb (by assumption)); obtain ⟨hc, hf, hz, hy⟩ := bcell hb; have hs := hb.size; (try simp at hs); (try have h0 : w.heap.size < w'.heap.size := by omega); (try have h1 : w.heap.size + 1 < w'.heap.size := by omega); (try have h2 : w.heap.size + 1 + 1 < w'.heap.size := by omega); (try have h3 : w.heap.size + 1 + 1 + 1 < w'.heap.size := by omega); clear hs) | (go_at_call 89; (with_reducible refine (HF.out _).mono ?_); rintro e w' ⟨rfl, hb⟩; (try replace hb := bt3 hb (by assumption)); obtain ⟨hc, hf, hz, hy⟩ := bcell hb; have hs := hb.size; (try simp at hs); (try have h0 : w.heap.size < w'.heap.size := by omega); (try have h1 : w.heap.size + 1 < w'.heap.size := by omega); (try have h2 : w.heap.size + 1 + 1 < w'.heap.size := by omega); (try have h3 : w.heap.size + 1 + 1 + 1 < w'.heap.size := by omega); clear hs) | (go_at_call 90; (with_reducible refine (HC.out _).mono ?_); rintro e w' ⟨rfl, hb⟩; (try replace hb := bt3 hb (by assumption)); obtain ⟨hc, hf, hz, hy⟩ := bcell hb; have hs := hb.size; (try simp at hs); (try have h0 : w.heap.size < w'.heap.size := by omega); (try have h1 : w.heap.size + 1 < w'.heap.size := by omega); (try have h2 : w.heap.size + 1 + 1 < w'.heap.size := by omega); (try have h3 : w.heap.size + 1 + 1 + 1 < w'.heap.size := by omega); clear hs))
      go_ret2
      exact ⟨by rw [HV.out.1, HV.out.2] <;> rfl, by (repeat (first | exact Below.refl _ _ | assumption | refine Below.drew ?_ | refine bdn ?_ | refine ba _ ?_ | refine bs0 _ _ ?_ ?_ | refine bs1 _ _ _ ?_ ?_ | refine bs2 _ _ _ _ ?_ ?_ | refine bs3 _ _ _ _ _ ?_ ?_ | refine bt3 (by assumption) ?_))⟩
    · rw [show (decide (fin a) && decide (fin b)) = false by simpa using h2] at HF
      have HV := Hd.mk (mo_inf h1 h2)
      clear h1 h2
      go_enter Try.func38, Try.ntmps38
      go_wp2_with (first | (go_at_call 76; (with_reducible refine (HI.out _).mono ?_); rintro e w' ⟨rfl, hb⟩; (try replace hb := bt3 hb (by assumption)); obtain ⟨hc, hf, hz, hy⟩ := bcell hb; have hs := hb.size; (try simp at hs); (try have h0 : w.heap.size < w'.heap.size := by omega); (try have h1 : w.heap.size + 1 < w'.heap.size := by omega); (try have h2 : w.heap.size + 1 + 1 < w'.heap.size := by omega); (try have h3 : w.heap.size + 1 + 1 + 1 < w'.heap.size := by omega); clear hs) | (go_at_call 89; (with_reducible refine (HF.out _).mono ?_); rintro e w' ⟨rfl, hb⟩; (try replace hb := bt3 hb (by assumption)); obtain ⟨hc, hf, hz, hy⟩ := bcell hb; have hs := hb.size; (try simp at hs); (try have h0 : w.heap.size < w'.heap.size := by omega); (try have h1 : w.heap.size + 1 < w'.heap.size := by omega); (try have h2 : w.heap.size + 1 + 1 < w'.heap.size := by omega); (try have h3 : w.heap.size + 1 + 1 + 1 < w'.heap.size := by omega); clear hs))
      go_ret2
      exact ⟨by rw [HV.out.1, HV.out.2] <;> rfl, by (repeat (first | exact Below.refl _ _ | assumption | refine Below.drew ?_ | refine bdn ?_ | refine ba _ ?_ | refine bs0 _ _ ?_ ?_ | refine bs1 _ _ _ ?_ ?_ | refine bs2 _ _ _ _ ?_ ?_ | refine bs3 _ _ _ _ _ ?_ ?_ | refine bt3 (by assumption) ?_))⟩
  · rw [decide_eq_false h1] at HI
    have HV := Hd.mk (mo_bad h1)
    clear h1
    go_enter Try.func38, Try.ntmps38
    go_wp2_with (first | (go_at_call 76; (with_reducible refine (HI.out _).mono ?_); rintro e w' ⟨rfl, hb⟩; (try replace hb := bt3 hb (by assumption)); obtain ⟨hc, hf, hz, hy⟩ := bcell hb; have hs := hb.size; (try simp at hs); (try have h0 : w.heap.size < w'.heap.size := by omega); (try have h1 : w.heap.size + 1 < w'.heap.size := by omega); (try have h2 : w.heap.size + 1 + 1 < w'.heap.size := by omega); (try have h3 : w.heap.size + 1 + 1 + 1 < w'.heap.size := by omega); clear hs) | (go_at_call 89; (with_reducible refine (HF.out _).mono ?_); rintro e w' ⟨rfl, hb⟩; (try replace hb := bt3 hb (by assumption)); obtain ⟨hc, hf, hz, hy⟩ := bcell hb; have hs := hb.size; (try simp at hs); (try have h0 : w.heap.size < w'.heap.size := by omega); (try have h1 : w.heap.size + 1 < w'.heap.size := by omega); (try have h2 : w.heap.size + 1 + 1 < w'.heap.size := by omega); (try have h3 : w.heap.size + 1 + 1 + 1 < w'.heap.size := by omega); clear hs))
    go_ret2
    exact ⟨by rw [HV.out.1, HV.out.2] <;> rfl, by (repeat (first | exact Below.refl _ _ | assumption | refine Below.drew ?_ | refine bdn ?_ | refine ba _ ?_ | refine bs0 _ _ ?_ ?_ | refine bs1 _ _ _ ?_ ?_ | refine bs2 _ _ _ _ ?_ ?_ | refine bs3 _ _ _ _ _ ?_ ?_ | refine bt3 (by assumption) ?_))⟩
set_option maxHeartbeats 4000000 in
theorem i_MidOf (a b : Nat) (w : World) (ha : W a) (hb : W b) : Calls Try.prog 39 #[.agg #[.float .f32 a, .float .f32 b]] w (RetMO a b w) := by
  have HX : Hd (W a ∧ W b) := ⟨⟨ha, hb⟩⟩
  clear ha hb
  have HI := Hd.mk (fun w => i_IsInterval a b w HX.out.1 HX.out.2)
  by_cases h1 : IsIv a b
  · rw [decide_eq_true h1] at HI
    have HF := Hd.mk (fun w => i_endless a b w h1.1 h1.2.1)
    by_cases h2 : fin a ∧ fin b
    · rw [show (decide (fin a) && decide (fin b)) = true by simp [h2]] at HF
      have HV := Hd.mk (mo_good h1 h2)
      have HC := Hd.mk (fun w => i_Middle a b w HX.out.1 HX.out.2 h2.1 h2.2)
      clear h1 h2
      go_enter Try.func39, Try.ntmps39
      go_wp2_with (first | (go_at_call 80; (with_reducible refine (HI.out _).mono ?_); rintro e w' ⟨rfl, hb⟩; (try replace hb := bt3 hb (by assumption)); obtain ⟨hc, hf, hz, hy⟩ := bcell hb; have hs := hb.size; (try simp at hs); (try have h0 : w.heap.size < w'.heap.size := by omega); (try have h1 : w.heap.size + 1 < w'.heap.size := by omega); (try have h2 : w.heap.size + 1 + 1 < w'.heap.size := by omega); (try have h3 : w.heap.size + 1 + 1 + 1 < w'.heap.size := by omega); clear hs) | (go_at_call 91; (with_reducible refine (HF.out _).mono ?_); rintro e w' ⟨rfl, hb⟩; (try replace hb := bt3 hb (by assumption)); obtain ⟨hc, hf, hz, hy⟩ := bcell hb; have hs := hb.size; (try simp at hs); (try have h0 : w.heap.size < w'.heap.size := by omega); (try have h1 : w.heap.size + 1 < w'.heap.size := by omega); (try have h2 : w.heap.size + 1 + 1 < w'.heap.size := by omega); (try have h3 : w.heap.size + 1 + 1 + 1 < w'.heap.size := by omega); clear hs) | (go_at_call 92; (with_reducible refine (HC.out _).mono ?_); rintro e w' ⟨rfl, hb⟩; (try replace hb := bt3 hb (by assumption)); obtain ⟨hc, hf, hz, hy⟩ := bcell hb; have hs := hb.size; (try simp at hs); (try have h0 : w.heap.size < w'.heap.size := by omega); (try have h1 : w.heap.size + 1 < w'.heap.size := by omega); (try have h2 : w.heap.size + 1 + 1 < w'.heap.size := by omega); (try have h3 : w.heap.size + 1 + 1 + 1 < w'.heap.size := by omega); clear hs))
      go_ret2
      exact ⟨by rw [HV.out.1, HV.out.2] <;> rfl, by (repeat (first | exact Below.refl _ _ | assumption | refine Below.drew ?_ | refine bdn ?_ | refine ba _ ?_ | refine bs0 _ _ ?_ ?_ | refine bs1 _ _ _ ?_ ?_ | refine bs2 _ _ _ _ ?_ ?_ | refine bs3 _ _ _ _ _ ?_ ?_ | refine bt3 (by assumption) ?_))⟩
    · rw [show (decide (fin a) && decide (fin b)) = false by simpa using h2] at HF
      have HV := Hd.mk (mo_inf h1 h2)
      clear h1 h2
      go_enter Try.func39, Try.ntmps39
      go_wp2_with (first | (go_at_call 80; (with_reducible refine (HI.out _).mono ?_); rintro e w' ⟨rfl, hb⟩; (try replace hb := bt3 hb (by assumption)); obtain ⟨hc, hf, hz, hy⟩ := bcell hb; have hs := hb.size; (try simp at hs); (try have h0 : w.heap.size < w'.heap.size := by omega); (try have h1 : w.heap.size + 1 < w'.heap.size := by omega); (try have h2 : w.heap.size + 1 + 1 < w'.heap.size := by omega); (try have h3 : w.heap.size + 1 + 1 + 1 < w'.heap.size := by omega); clear hs) | (go_at_call 91; (with_reducible refine (HF.out _).mono ?_); rintro e w' ⟨rfl, hb⟩; (try replace hb := bt3 hb (by assumption)); obtain ⟨hc, hf, hz, hy⟩ := bcell hb; have hs := hb.size; (try simp at hs); (try have h0 : w.heap.size < w'.heap.size := by omega); (try have h1 : w.heap.size + 1 < w'.heap.size := by omega); (try have h2 : w.heap.size + 1 + 1 < w'.heap.size := by omega); (try have h3 : w.heap.size + 1 + 1 + 1 < w'.heap.size := by omega); clear hs))
      go_ret2
      exact ⟨by rw [HV.out.1, HV.out.2] <;> rfl, by (repeat (first | exact Below.refl _ _ | assumption | refine Below.drew ?_ | refine bdn ?_ | refine ba _ ?_ | refine bs0 _ _ ?_ ?_ | refine bs1 _ _ _ ?_ ?_ | refine bs2 _ _ _ _ ?_ ?_ | refine bs3 _ _ _ _ _ ?_ ?_ | refine bt3 (by assumption) ?_))⟩
  · rw [decide_eq_false h1] at HI
    have HV := Hd.mk (mo_bad h1)
    clear h1
    go_enter Try.func39, Try.ntmps39
    go_wp2_with (first | (go_at_call 80; (with_reducible refine (HI.out _).mono ?_); rintro e w' ⟨rfl, hb⟩; (try replace hb := bt3 hb (by assumption)); obtain ⟨hc, hf, hz, hy⟩ := bcell hb; have hs := hb.size; (try simp at hs); (try have h0 : w.heap.size < w'.heap.size := by omega); (try have h1 : w.heap.size + 1 < w'.heap.size := by omega); (try have h2 : w.heap.size + 1 + 1 < w'.heap.size := by omega); (try have h3 : w.heap.size + 1 + 1 + 1 < w'.heap.size := by omega); clear hs))
    go_ret2
    exact ⟨by rw [HV.out.1, HV.out.2] <;> rfl, by (repeat (first | exact Below.refl _ _ | assumption | refine Below.drew ?_ | refine bdn ?_ | refine ba _ ?_ | refine bs0 _ _ ?_ ?_ | refine bs1 _ _ _ ?_ ?_ | refine bs2 _ _ _ _ ?_ ?_ | refine bs3 _ _ _ _ _ ?_ ?_ | refine bt3 (by assumption) ?_))⟩
end Go.Proofs.Ytmiafbbndonpaaa
