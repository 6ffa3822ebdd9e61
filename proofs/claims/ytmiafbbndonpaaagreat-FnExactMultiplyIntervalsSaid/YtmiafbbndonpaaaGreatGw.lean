/- Gw: S39 S40 S41 S42, merged. -/
import Derived.Test.YtmiafbbndonpaaaGreatGq
import Derived.Test.YtmiafbbndonpaaaGreatGs
/- Contracts: products of ends of intervals, both sides. -/
set_option linter.unusedVariables false
set_option linter.unusedSimpArgs false
namespace Go.Proofs.YtmiafbbndonpaaaGreat
open Go.RowKit Num Flt
/-- infinite, with a sign -/
def infS (b : Bool) : Nat := if b = true then 4286578688 else 2139095040
def isZ (x : Nat) : Prop := x = 0 ∨ x = 2147483648
instance (x : Nat) : Decidable (isZ x) := by unfold isZ; infer_instance
/-- an end of a product -/
def meF (x y : Nat) (mode : Int) : Nat := if isZ x ∨ isZ y then 0 else if fin x ∧ fin y then zp (rF mode (mulV (fv x) (fv y))) else infS (mB x != mB y)
theorem W_z : W 0 := by unfold W; decide
theorem infS_num (b : Bool) : W (infS b) ∧ ¬ nan (infS b) ∧ zp (infS b) = infS b := by cases b <;> exact ⟨by unfold W; decide, by decide, rfl⟩
theorem eq0_no {x : Nat} (hx : W x) (h : ¬ isZ x) : (FloatKind.f32.format.order x 0 == some .eq) = false := by rw [o_eq0 x hx]; exact decide_eq_false h
theorem eq0_ye {x : Nat} (hx : W x) (h : isZ x) : (FloatKind.f32.format.order x 0 == some .eq) = true := by rw [o_eq0 x hx]; exact decide_eq_true h
theorem me_zero {x y : Nat} (mode : Int) (h : isZ x ∨ isZ y) : meF x y mode = 0 := by unfold meF; rw [if_pos h]
theorem me_fin {x y : Nat} (mode : Int) (h : ¬ (isZ x ∨ isZ y)) (hf : fin x ∧ fin y) : meF x y mode = zp (rF mode (mulV (fv x) (fv y))) := by unfold meF; rw [if_neg h, if_pos hf]
theorem me_inf {x y : Nat} (mode : Int) (h : ¬ (isZ x ∨ isZ y)) (hf : ¬ (fin x ∧ fin y)) : meF x y mode = infS (mB x != mB y) := by unfold meF; rw [if_neg h, if_neg hf]
theorem me_num (x y : Nat) (mode : Int) : W (meF x y mode) ∧ ¬ nan (meF x y mode) ∧ zp (meF x y mode) = meF x y mode := by
  unfold meF
  split
  · exact ⟨W_z, by decide, rfl⟩
  · split
    · have := rF_num mode (mulV (fv x) (fv y))
      exact ⟨W_zp this.1, fun h => this.2 ((nan_zp _).1 h), by unfold zp; split <;> simp_all⟩
    · exact infS_num _
theorem read_i {x : Nat} (hw : W x) (hn : ¬ nan x) (h : ¬ fin x) : Ieee.single.read x = .infinity (mB x) := by
  have e := read_inf Ieee.single (x := x) (by decide) (by
    show x % 2147483648 = 2139095040
    unfold fin at h; unfold nan at hn; omega)
  rw [e]
  show Ieee.Datum.infinity (sgf Ieee.single x) = _
  rw [sg_eq hw]; rfl
theorem pm_ne {x : Nat} (hw : W x) (h : fin x) (hz : ¬ isZ x) : pm x ≠ 0 := by
  intro k
  have h1 := mv_sv hw
  rw [k] at h1
  have h2 : mv x = 0 := by rw [h1]; cases sgf Ieee.single x <;> rfl
  exact hz ((mv_zero hw).1 h2)
theorem word_i (b : Bool) : Ieee.single.word b Ieee.single.infRung = infS b := by cases b <;> rfl
theorem mul_inf {x y : Nat} (hx : W x) (hy : W y) (nx : ¬ nan x) (ny : ¬ nan y) (h : ¬ (isZ x ∨ isZ y)) (hf : ¬ (fin x ∧ fin y)) : floatBits .mul .f32 x y = some (infS (mB x != mB y)) := by
  have zx : ¬ isZ x := fun k => h (Or.inl k)
  have zy : ¬ isZ y := fun k => h (Or.inr k)
  show Ieee.single.mul x y = _
  unfold Ieee.Format.mul
  by_cases h1 : fin x
  · have h2 : ¬ fin y := fun k => hf ⟨h1, k⟩
    rw [read_v h1, read_i hy ny h2, sg_eq hx]
    show Option.map _ (if pm x = 0 then none else some _) = _
    rw [if_neg (pm_ne hx h1 zx)]
    show some (Ieee.single.word (mB y ^^ mB x) Ieee.single.infRung) = _
    rw [word_i]
    cases mB x <;> cases mB y <;> rfl
  · rw [read_i hx nx h1]
    by_cases h2 : fin y
    · rw [read_v h2, sg_eq hy]
      show Option.map _ (if pm y = 0 then none else some _) = _
      rw [if_neg (pm_ne hy h2 zy)]
      show some (Ieee.single.word (mB x ^^ mB y) Ieee.single.infRung) = _
      rw [word_i]
      try (cases mB x <;> cases mB y <;> rfl)
    · rw [read_i hy ny h2]
      show some (Ieee.single.word (mB x ^^ mB y) Ieee.single.infRung) = _
      rw [word_i]
      try (cases mB x <;> cases mB y <;> rfl)
/-- what the reference's ends answer -/
def RetE (x y : Nat) (w : World) (e : Ending) (w' : World) : Prop := ∃ r1 r2, e = .returned (.tuple #[.float .f32 r1, .float .f32 r2]) ∧ (W r1 ∧ ¬ nan r1 ∧ zp r1 = meF x y 1) ∧ (W r2 ∧ ¬ nan r2 ∧ zp r2 = meF x y 2) ∧ Below w.heap.size w w'
/-- what the reference's ends hold behind the product -/
structure EnH (w wx : World) (g : Nat) (s : Int) (A : Option Addr) (n c : Nat) (e R : Int) : Prop where
  bel : Below w.heap.size w wx
  b1 : Blk wx g 62 #[.int .i64 s, .slice A n c, .int .i64 e]
  dy : DyP wx s A n c e R (149 + 149)
set_option maxHeartbeats 4000000 in
theorem s_EndsZ (x y : Nat) (w : World) (hx : W x) (hy : W y) (nx : ¬ nan x) (ny : ¬ nan y) (h : isZ x ∨ isZ y) : Calls Tryz.prog 72 #[.float .f32 x, .float .f32 y] w (RetE x y w) := by
  have ex := o_eq0 x hx
  have ey := o_eq0 y hy
  have HV := Hd.mk (And.intro (me_zero 1 h) (me_zero 2 h))
  by_cases h0 : x = 0 ∨ x = 2147483648
  · rw [decide_eq_true h0] at ex
    clear hx hy nx ny h h0 ey
    go_enter Tryz.func72, Tryz.ntmps72
    go_wp2_with fail
    go_ret2
    exact ⟨0, 0, rfl, ⟨W_z, by decide, by rw [HV.out.1] <;> rfl⟩, ⟨W_z, by decide, by rw [HV.out.2] <;> rfl⟩, by (repeat (first | exact Below.refl _ _ | assumption | refine Below.drew ?_ | refine bdn ?_ | refine ba _ ?_ | refine bs0 _ _ ?_ ?_ | refine bs1 _ _ _ ?_ ?_ | refine bs2 _ _ _ _ ?_ ?_ | refine bs3 _ _ _ _ _ ?_ ?_ | refine bt3 (by assumption) ?_))⟩
  · have h1 : y = 0 ∨ y = 2147483648 := by rcases h with h | h; exact absurd h h0; exact h
    rw [decide_eq_false h0] at ex
    rw [decide_eq_true h1] at ey
    clear hx hy nx ny h h0 h1
    go_enter Tryz.func72, Tryz.ntmps72
    go_wp2_with fail
    go_ret2
    exact ⟨0, 0, rfl, ⟨W_z, by decide, by rw [HV.out.1] <;> rfl⟩, ⟨W_z, by decide, by rw [HV.out.2] <;> rfl⟩, by (repeat (first | exact Below.refl _ _ | assumption | refine Below.drew ?_ | refine bdn ?_ | refine ba _ ?_ | refine bs0 _ _ ?_ ?_ | refine bs1 _ _ _ ?_ ?_ | refine bs2 _ _ _ _ ?_ ?_ | refine bs3 _ _ _ _ _ ?_ ?_ | refine bt3 (by assumption) ?_))⟩
set_option maxHeartbeats 4000000 in
theorem s_EndsI (x y : Nat) (w : World) (hx : W x) (hy : W y) (nx : ¬ nan x) (ny : ¬ nan y) (h : ¬ (isZ x ∨ isZ y)) (hf : ¬ (fin x ∧ fin y)) : Calls Tryz.prog 72 #[.float .f32 x, .float .f32 y] w (RetE x y w) := by
  have ex := eq0_no hx (fun k => h (Or.inl k))
  have ey := eq0_no hy (fun k => h (Or.inr k))
  have HV := Hd.mk (And.intro (me_inf 1 h hf) (And.intro (me_inf 2 h hf) (infS_num (mB x != mB y))))
  have k := fun w => run_float_arith (P := Tryz.prog) w .mul 22 .f32 x y _ (mul_inf hx hy nx ny h hf)
  have p := no_fin hf
  generalize infS (mB x != mB y) = r at *
  clear hx hy nx ny h hf
  rcases p with p1 | ⟨p1, p2⟩
  · go_enter Tryz.func72, Tryz.ntmps72
    go_wp2_with (go_at_call 47; (with_reducible refine (s_Finite _ _).mono ?_); rintro e w' ⟨rfl, ⟨nd, rfl⟩⟩)
    go_ret2
    exact ⟨r, r, rfl, ⟨HV.out.2.2.1, HV.out.2.2.2.1, by rw [HV.out.1]; exact HV.out.2.2.2.2⟩, ⟨HV.out.2.2.1, HV.out.2.2.2.1, by rw [HV.out.2.1]; exact HV.out.2.2.2.2⟩, by (repeat (first | exact Below.refl _ _ | assumption | refine Below.drew ?_ | refine bdn ?_ | refine ba _ ?_ | refine bs0 _ _ ?_ ?_ | refine bs1 _ _ _ ?_ ?_ | refine bs2 _ _ _ _ ?_ ?_ | refine bs3 _ _ _ _ _ ?_ ?_ | refine bt3 (by assumption) ?_))⟩
  · go_enter Tryz.func72, Tryz.ntmps72
    go_wp2_with (go_at_call 47; (with_reducible refine (s_Finite _ _).mono ?_); rintro e w' ⟨rfl, ⟨nd, rfl⟩⟩)
    go_ret2
    exact ⟨r, r, rfl, ⟨HV.out.2.2.1, HV.out.2.2.2.1, by rw [HV.out.1]; exact HV.out.2.2.2.2⟩, ⟨HV.out.2.2.1, HV.out.2.2.2.1, by rw [HV.out.2.1]; exact HV.out.2.2.2.2⟩, by (repeat (first | exact Below.refl _ _ | assumption | refine Below.drew ?_ | refine bdn ?_ | refine ba _ ?_ | refine bs0 _ _ ?_ ?_ | refine bs1 _ _ _ ?_ ?_ | refine bs2 _ _ _ _ ?_ ?_ | refine bs3 _ _ _ _ _ ?_ ?_ | refine bt3 (by assumption) ?_))⟩
set_option maxHeartbeats 4000000 in
theorem s_EndsF (x y : Nat) (w : World) (hx : W x) (hy : W y) (nx : ¬ nan x) (ny : ¬ nan y) (h : ¬ (isZ x ∨ isZ y)) (hf : fin x ∧ fin y) : Calls Tryz.prog 72 #[.float .f32 x, .float .f32 y] w (RetE x y w) := by
  have ex := eq0_no hx (fun k => h (Or.inl k))
  have ey := eq0_no hy (fun k => h (Or.inr k))
  have HV := Hd.mk (And.intro (me_fin 1 h hf) (me_fin 2 h hf))
  have HX : Hd (W x ∧ fin x ∧ W y ∧ fin y ∧ Bd (mulV (fv x) (fv y))) := ⟨⟨hx, hf.1, hy, hf.2, mul_bd hf.1 hf.2⟩⟩
  have p1 : decide (fin x) = true := decide_eq_true hf.1
  have p2 : decide (fin y) = true := decide_eq_true hf.2
  clear hx hy nx ny h hf
  go_enter Tryz.func72, Tryz.ntmps72
  go_wp2_with (first | (go_at_call 47; (with_reducible refine (s_Finite _ _).mono ?_); rintro e w' ⟨rfl, ⟨nd, rfl⟩⟩) | (go_at_call 51; (with_reducible refine (s_DOf x _ HX.out.1 HX.out.2.1).mono ?_); rintro e3 w3 ⟨s3, A3, n3, c3, x3, rfl, hD, hb⟩; have hq : Below w.heap.size w w3 := bt3 hb (by (repeat (first | exact Below.refl _ _ | assumption | refine Below.drew ?_ | refine bdn ?_ | refine ba _ ?_ | refine bs0 _ _ ?_ ?_ | refine bs1 _ _ _ ?_ ?_ | refine bs2 _ _ _ _ ?_ ?_ | refine bs3 _ _ _ _ _ ?_ ?_ | refine bt3 (by assumption) ?_))); have H3 := Hd.mk hD.dp; clear hD hb) | (go_at_call 51; (with_reducible refine (s_DOf y _ HX.out.2.2.1 HX.out.2.2.2.1).mono ?_); rintro e4 w4 ⟨s4, A4, n4, c4, x4, rfl, hD, hb⟩; replace hq : Below w.heap.size w w4 := bt3 hb hq; replace H3 := Hd.mk (H3.out.below hb); have H4 := Hd.mk hD.dp; clear hD hb) | (go_at_call 96; (with_reducible refine (s_DMul s3 s4 x3 x4 (fv x) (fv y) A3 A4 n3 n4 c3 c4 149 149 _ H3.out H4.out sc298 HX.out.2.2.2.2).mono ?_); rintro e5 w5 ⟨s5, A5, n5, c5, x5, rfl, hD, hb⟩; replace hq : Below w.heap.size w w5 := bt3 hb hq; have HP : Hd (EnH w (w5.alloc (Obj.cells #[.int .i64 s5, .slice A5 n5 c5, .int .i64 x5] 62)) w5.heap.size s5 A5 n5 c5 x5 (mulV (fv x) (fv y))) := ⟨⟨ba _ hq, Blk.new _ _ _, hD.dp.below (ba _ (Below.refl _ _))⟩⟩; clear hD hb))
  generalize hwb : (w5.alloc (Obj.cells #[.int .i64 s5, .slice A5 n5 c5, .int .i64 x5] 62)) = wb at *
  clear hwb
  generalize w5.heap.size = gd at *
  have c0 : wb.cell? _ = some (.int .i64 s5) := HP.out.b1.cell 0
  have c1 : wb.cell? _ = some (.slice A5 n5 c5) := HP.out.b1.cell 1
  have c2 : wb.cell? _ = some (.int .i64 x5) := HP.out.b1.cell 2
  clear hq
  go_region_held3 (fun w' => w'.cell? ⟨gd, 0, none⟩ = some (.int .i64 s5) ∧ w'.cell? ⟨gd, 1, none⟩ = some (.slice A5 n5 c5) ∧ w'.cell? ⟨gd, 2, none⟩ = some (.int .i64 x5)) ((first | assumption | (refine keep3 (W := wb) ?_ ⟨c0, c1, c2⟩; (repeat (first | exact Below.refl _ _ | assumption | refine Below.drew ?_ | refine bdn ?_ | refine ba _ ?_ | refine bs0 _ _ ?_ ?_ | refine bs1 _ _ _ ?_ ?_ | refine bs2 _ _ _ _ ?_ ?_ | refine bs3 _ _ _ _ _ ?_ ?_ | refine bt3 (by assumption) ?_)); done) | go_keep | (refine ⟨?_, ?_, ?_⟩ <;> go_simp) | (constructor <;> go_simp)))
    (first | (go_at_call 58; (with_reducible refine (s_Down s5 A5 n5 c5 x5 (mulV (fv x) (fv y)) (149 + 149) _ (HP.out.dy.below (by (repeat (first | exact Below.refl _ _ | assumption | refine Below.drew ?_ | refine bdn ?_ | refine ba _ ?_ | refine bs0 _ _ ?_ ?_ | refine bs1 _ _ _ ?_ ?_ | refine bs2 _ _ _ _ ?_ ?_ | refine bs3 _ _ _ _ _ ?_ ?_ | refine bt3 (by assumption) ?_))))).mono ?_); rintro e6 wc ⟨rfl, hb⟩; have hqc : Below wb.heap.size wb wc := bt3 hb (by (repeat (first | exact Below.refl _ _ | assumption | refine Below.drew ?_ | refine bdn ?_ | refine ba _ ?_ | refine bs0 _ _ ?_ ?_ | refine bs1 _ _ _ ?_ ?_ | refine bs2 _ _ _ _ ?_ ?_ | refine bs3 _ _ _ _ _ ?_ ?_ | refine bt3 (by assumption) ?_))); clear hb) | (go_at_call 49; (with_reducible refine (s_Up s5 A5 n5 c5 x5 (mulV (fv x) (fv y)) (149 + 149) _ (HP.out.dy.below (by (repeat (first | exact Below.refl _ _ | assumption | refine Below.drew ?_ | refine bdn ?_ | refine ba _ ?_ | refine bs0 _ _ ?_ ?_ | refine bs1 _ _ _ ?_ ?_ | refine bs2 _ _ _ _ ?_ ?_ | refine bs3 _ _ _ _ _ ?_ ?_ | refine bt3 (by assumption) ?_))))).mono ?_); rintro e7 we ⟨rfl, hb⟩; have hqe : Below wb.heap.size wb we := bt3 hb (by (repeat (first | exact Below.refl _ _ | assumption | refine Below.drew ?_ | refine bdn ?_ | refine ba _ ?_ | refine bs0 _ _ ?_ ?_ | refine bs1 _ _ _ ?_ ?_ | refine bs2 _ _ _ _ ?_ ?_ | refine bs3 _ _ _ _ _ ?_ ?_ | refine bt3 (by assumption) ?_))); clear hb))
  all_goals
    go_wp2_with fail
    go_ret2
    have hbb : Below w.heap.size w wb := HP.out.bel
    exact ⟨_, _, rfl, ⟨(rF_num _ _).1, (rF_num _ _).2, by rw [HV.out.1]⟩, ⟨(rF_num _ _).1, (rF_num _ _).2, by rw [HV.out.2]⟩, by (repeat (first | exact Below.refl _ _ | assumption | refine Below.drew ?_ | refine bdn ?_ | refine ba _ ?_ | refine bs0 _ _ ?_ ?_ | refine bs1 _ _ _ ?_ ?_ | refine bs2 _ _ _ _ ?_ ?_ | refine bs3 _ _ _ _ _ ?_ ?_ | refine bt3 (by assumption) ?_))⟩
theorem s_Ends (x y : Nat) (w : World) (hx : W x) (hy : W y) (nx : ¬ nan x) (ny : ¬ nan y) : Calls Tryz.prog 72 #[.float .f32 x, .float .f32 y] w (RetE x y w) := by
  by_cases h : isZ x ∨ isZ y
  · exact s_EndsZ x y w hx hy nx ny h
  · by_cases hf : fin x ∧ fin y
    · exact s_EndsF x y w hx hy nx ny h hf
    · exact s_EndsI x y w hx hy nx ny h hf
/-! the program -/
theorem sig_lt {x : Nat} (hx : W x) (nx : ¬ nan x) (hz : ¬ isZ x) : (FloatKind.f32.format.order x 0 == some .lt) = mB x := by
  rw [o_lt]
  unfold mB
  refine decide_eq_decide.2 ?_
  unfold W at hx
  unfold isZ at hz
  constructor
  · rintro ⟨_, _, h⟩
    unfold pl at h; split at h <;> split at h <;> omega
  · intro h
    refine ⟨nx, by decide, ?_⟩
    unfold pl; split <;> split <;> omega
theorem sig_gt {x : Nat} (hx : W x) (nx : ¬ nan x) (hz : ¬ isZ x) : (FloatKind.f32.format.order x 0 == some .gt) = !mB x := by
  rw [o_gt]
  unfold mB
  rw [← decide_not]
  refine decide_eq_decide.2 ?_
  unfold W at hx
  unfold isZ at hz
  constructor
  · rintro ⟨_, _, h⟩
    unfold pl at h; split at h <;> split at h <;> omega
  · intro h
    refine ⟨nx, by decide, ?_⟩
    unfold pl; split <;> split <;> omega
set_option maxHeartbeats 4000000 in
theorem i_signOf (x : Nat) (w : World) (hx : W x) (nx : ¬ nan x) (hz : ¬ isZ x) :
    Calls Tryz.prog 99 #[.float .f32 x] w fun e w' => e = .returned (.int .i64 (if mB x = true then -1 else 1)) ∧ w = w' := by
  have l1 := sig_lt hx nx hz
  have l2 := sig_gt hx nx hz
  clear hx nx hz
  generalize mB x = b at *
  cases b
  · go_enter Tryz.func99, Tryz.ntmps99
    go_wp2_with fail
    go_ret
    exact ⟨rfl, rfl⟩
  · go_enter Tryz.func99, Tryz.ntmps99
    go_wp2_with fail
    go_ret
    exact ⟨rfl, rfl⟩
set_option maxHeartbeats 4000000 in
theorem i_mulIn (x y : Nat) (mode : Int) (w : World) (hx : W x) (hy : W y) (h : ¬ (isZ x ∨ isZ y)) (hf : fin x ∧ fin y) (hmd : 0 ≤ mode ∧ mode ≤ 4) :
    Calls Tryz.prog 100 #[.float .f32 x, .float .f32 y, .int .i64 mode] w (RetAI (mulV (fv x) (fv y)) mode w) := by
  have ex := eq0_no hx (fun k => h (Or.inl k))
  have ey := eq0_no hy (fun k => h (Or.inr k))
  have HX : Hd (W x ∧ fin x ∧ W y ∧ fin y ∧ Bd (mulV (fv x) (fv y)) ∧ (0 ≤ mode ∧ mode ≤ 4)) := ⟨⟨hx, hf.1, hy, hf.2, mul_bd hf.1 hf.2, hmd⟩⟩
  clear hx hy h hf hmd
  go_enter Tryz.func100, Tryz.ntmps100
  go_wp2_with (first | (go_at_call 86; (with_reducible refine (n_OfB x _ HX.out.1 HX.out.2.1).mono ?_); rintro e3 w3 ⟨g3, x3, rfl, hx3, hN, hb⟩; have hq : Below w.heap.size w w3 := bt3 hb (by (repeat (first | exact Below.refl _ _ | assumption | refine Below.drew ?_ | refine bdn ?_ | refine ba _ ?_ | refine bs0 _ _ ?_ ?_ | refine bs1 _ _ _ ?_ ?_ | refine bs2 _ _ _ _ ?_ ?_ | refine bs3 _ _ _ _ _ ?_ ?_ | refine bt3 (by assumption) ?_))); have H3 := Hd.mk hN; clear hN hb) | (go_at_call 86; (with_reducible refine (n_OfB y _ HX.out.2.2.1 HX.out.2.2.2.1).mono ?_); rintro e4 w4 ⟨g4, x4, rfl, hx4, hN, hb⟩; replace hq : Below w.heap.size w w4 := bt3 hb hq; replace H3 := Hd.mk (H3.out.below hb); have H4 := Hd.mk hN; clear hN hb) | (go_at_call 98; (with_reducible refine (n_Mul g3 g4 x3 x4 (fv x) (fv y) 149 149 _ H3.out H4.out sc298 (by omega) HX.out.2.2.2.2.1).mono ?_); rintro e5 w5 ⟨g5, x5, rfl, hN, hb⟩; replace hq : Below w.heap.size w w5 := bt3 hb hq; have H5 := Hd.mk hN; clear hN hb) | (go_at_call 90; (with_reducible refine (n_Round g5 x5 (mulV (fv x) (fv y)) mode (149 + 149) _ H5.out HX.out.2.2.2.2.2).mono ?_); rintro e9 w9 ⟨rfl, hb⟩; have HB9 : Hd (Below w.heap.size w w9) := ⟨bt3 hb (by (repeat (first | exact Below.refl _ _ | assumption | refine Below.drew ?_ | refine bdn ?_ | refine ba _ ?_ | refine bs0 _ _ ?_ ?_ | refine bs1 _ _ _ ?_ ?_ | refine bs2 _ _ _ _ ?_ ?_ | refine bs3 _ _ _ _ _ ?_ ?_ | refine bt3 (by assumption) ?_)))⟩; clear hb))
  go_ret2
  exact ⟨_, _, rfl, (rF_num _ _).1, rfl, HB9.out⟩
set_option maxHeartbeats 4000000 in
theorem i_mulEndZ (x y : Nat) (mode : Int) (w : World) (hx : W x) (hy : W y) (nx : ¬ nan x) (ny : ¬ nan y) (h : isZ x ∨ isZ y) : Calls Tryz.prog 75 #[.float .f32 x, .float .f32 y, .int .i64 mode] w (RetV (.float .f32 (meF x y mode)) w) := by
  have ex := o_eq0 x hx
  have ey := o_eq0 y hy
  have HV := Hd.mk (me_zero mode h)
  by_cases h0 : x = 0 ∨ x = 2147483648
  · rw [decide_eq_true h0] at ex
    clear hx hy nx ny h h0 ey
    go_enter Tryz.func75, Tryz.ntmps75
    go_wp2_with fail
    go_ret
    exact ⟨by rw [HV.out] <;> rfl, by (repeat (first | exact Below.refl _ _ | assumption | refine Below.drew ?_ | refine bdn ?_ | refine ba _ ?_ | refine bs0 _ _ ?_ ?_ | refine bs1 _ _ _ ?_ ?_ | refine bs2 _ _ _ _ ?_ ?_ | refine bs3 _ _ _ _ _ ?_ ?_ | refine bt3 (by assumption) ?_))⟩
  · have h1 : y = 0 ∨ y = 2147483648 := by rcases h with h | h; exact absurd h h0; exact h
    rw [decide_eq_false h0] at ex
    rw [decide_eq_true h1] at ey
    clear hx hy nx ny h h0 h1
    go_enter Tryz.func75, Tryz.ntmps75
    go_wp2_with fail
    go_ret
    exact ⟨by rw [HV.out] <;> rfl, by (repeat (first | exact Below.refl _ _ | assumption | refine Below.drew ?_ | refine bdn ?_ | refine ba _ ?_ | refine bs0 _ _ ?_ ?_ | refine bs1 _ _ _ ?_ ?_ | refine bs2 _ _ _ _ ?_ ?_ | refine bs3 _ _ _ _ _ ?_ ?_ | refine bt3 (by assumption) ?_))⟩
theorem bne_neg (b1 b2 : Bool) : (!decide ((if b1 = true then (-1 : Int) else 1) = (if b2 = true then -1 else 1))) = (b1 != b2) := by cases b1 <;> cases b2 <;> rfl
set_option maxHeartbeats 4000000 in
theorem i_mulEndI (x y : Nat) (mode : Int) (w : World) (hx : W x) (hy : W y) (nx : ¬ nan x) (ny : ¬ nan y) (h : ¬ (isZ x ∨ isZ y)) (hf : ¬ (fin x ∧ fin y)) : Calls Tryz.prog 75 #[.float .f32 x, .float .f32 y, .int .i64 mode] w (RetV (.float .f32 (meF x y mode)) w) := by
  have ex := eq0_no hx (fun k => h (Or.inl k))
  have ey := eq0_no hy (fun k => h (Or.inr k))
  have HI := Hd.mk (fun w => i_isInf x w nx)
  have HJ := Hd.mk (fun w => i_isInf y w ny)
  have HS := Hd.mk (fun w => i_signOf x w hx nx (fun k => h (Or.inl k)))
  have HT := Hd.mk (fun w => i_signOf y w hy ny (fun k => h (Or.inr k)))
  have HV := Hd.mk (me_inf mode h hf)
  have p := no_fin hf
  clear hx hy nx ny h hf
  generalize decide (fin x) = f1 at *
  generalize decide (fin y) = f2 at *
  generalize mB x = b1 at *
  generalize mB y = b2 at *
  rcases p with rfl | ⟨rfl, rfl⟩ <;> cases b1 <;> cases b2
  all_goals
    go_enter Tryz.func75, Tryz.ntmps75
    go_wp2_with (first | (go_at_call 85; (with_reducible refine (HI.out _).mono ?_); rintro e w' ⟨rfl, rfl⟩) | (go_at_call 85; (with_reducible refine (HJ.out _).mono ?_); rintro e w' ⟨rfl, rfl⟩) | (go_at_call 99; (with_reducible refine (HS.out _).mono ?_); rintro e w' ⟨rfl, rfl⟩) | (go_at_call 99; (with_reducible refine (HT.out _).mono ?_); rintro e w' ⟨rfl, rfl⟩) | (go_at_call 53; (with_reducible refine (i_inf1 _).mono ?_); rintro e w' ⟨rfl, rfl⟩) | (go_at_call 53; (with_reducible refine (i_inf2 _).mono ?_); rintro e w' ⟨rfl, rfl⟩))
    go_ret
    exact ⟨by rw [HV.out] <;> rfl, by (repeat (first | exact Below.refl _ _ | assumption | refine Below.drew ?_ | refine bdn ?_ | refine ba _ ?_ | refine bs0 _ _ ?_ ?_ | refine bs1 _ _ _ ?_ ?_ | refine bs2 _ _ _ _ ?_ ?_ | refine bs3 _ _ _ _ _ ?_ ?_ | refine bt3 (by assumption) ?_))⟩
set_option maxHeartbeats 4000000 in
theorem i_mulEndF (x y : Nat) (mode : Int) (w : World) (hx : W x) (hy : W y) (nx : ¬ nan x) (ny : ¬ nan y) (h : ¬ (isZ x ∨ isZ y)) (hf : fin x ∧ fin y) (hmd : 0 ≤ mode ∧ mode ≤ 4) : Calls Tryz.prog 75 #[.float .f32 x, .float .f32 y, .int .i64 mode] w (RetV (.float .f32 (meF x y mode)) w) := by
  have ex := eq0_no hx (fun k => h (Or.inl k))
  have ey := eq0_no hy (fun k => h (Or.inr k))
  have HI := Hd.mk (fun w => i_isInf x w nx)
  have HJ := Hd.mk (fun w => i_isInf y w ny)
  rw [decide_eq_true hf.1] at HI
  rw [decide_eq_true hf.2] at HJ
  have HV := Hd.mk (me_fin mode h hf)
  have HC := Hd.mk (fun w => i_mulIn x y mode w hx hy h hf hmd)
  clear hx hy nx ny h hf hmd
  go_enter Tryz.func75, Tryz.ntmps75
  go_wp2_with (first | (go_at_call 85; (with_reducible refine (HI.out _).mono ?_); rintro e w' ⟨rfl, rfl⟩) | (go_at_call 85; (with_reducible refine (HJ.out _).mono ?_); rintro e w' ⟨rfl, rfl⟩) | (go_at_call 100; (with_reducible refine (HC.out _).mono ?_); rintro e5 w5 ⟨r, f, rfl, hW, hz, hb⟩; have HR := Hd.mk (And.intro hW hz); have HB : Hd (Below w.heap.size w w5) := ⟨bt3 hb (by (repeat (first | exact Below.refl _ _ | assumption | refine Below.drew ?_ | refine bdn ?_ | refine ba _ ?_ | refine bs0 _ _ ?_ ?_ | refine bs1 _ _ _ ?_ ?_ | refine bs2 _ _ _ _ ?_ ?_ | refine bs3 _ _ _ _ _ ?_ ?_ | refine bt3 (by assumption) ?_)))⟩; clear hW hz hb) | (go_at_call 57; (with_reducible refine (i_plain r _ HR.out.1).mono ?_); rintro e w' ⟨rfl, rfl⟩))
  go_ret
  exact ⟨by rw [HV.out, ← HR.out.2] <;> rfl, HB.out⟩
theorem i_mulEnd (x y : Nat) (mode : Int) (w : World) (hx : W x) (hy : W y) (nx : ¬ nan x) (ny : ¬ nan y) (hmd : 0 ≤ mode ∧ mode ≤ 4) : Calls Tryz.prog 75 #[.float .f32 x, .float .f32 y, .int .i64 mode] w (RetV (.float .f32 (meF x y mode)) w) := by
  by_cases h : isZ x ∨ isZ y
  · exact i_mulEndZ x y mode w hx hy nx ny h
  · by_cases hf : fin x ∧ fin y
    · exact i_mulEndF x y mode w hx hy nx ny h hf hmd
    · exact i_mulEndI x y mode w hx hy nx ny h hf
/-- what the closure answers: a fresh row of one float -/
def RetC1 (r : Nat) (w : World) (e : Ending) (w' : World) : Prop := ∃ g, e = .returned (.slice (some ⟨g, 0, none⟩) 1 1) ∧ Below w.heap.size w w' ∧ w'.cell? ⟨g, 0, none⟩ = some (.float .f32 r) ∧ g < w'.heap.size
set_option maxHeartbeats 4000000 in
theorem i_mulC (x y : Nat) (mode : Int) (w : World) (hx : W x) (hy : W y) (nx : ¬ nan x) (ny : ¬ nan y) (hmd : 0 ≤ mode ∧ mode ≤ 4) : Calls Tryz.prog 74 #[.float .f32 x, .float .f32 y, .int .i64 mode] w (RetC1 (meF x y mode) w) := by
  have HC := Hd.mk (fun w => i_mulEnd x y mode w hx hy nx ny hmd)
  clear hx hy nx ny hmd
  generalize meF x y mode = r at *
  go_enter Tryz.func74, Tryz.ntmps74
  go_wp2_with (first | (go_at_call 75; (with_reducible refine (HC.out _).mono ?_); rintro e5 w5 ⟨rfl, hb⟩; have HB : Hd (Below w.heap.size w w5) := ⟨bt3 hb (by (repeat (first | exact Below.refl _ _ | assumption | refine Below.drew ?_ | refine bdn ?_ | refine ba _ ?_ | refine bs0 _ _ ?_ ?_ | refine bs1 _ _ _ ?_ ?_ | refine bs2 _ _ _ _ ?_ ?_ | refine bs3 _ _ _ _ _ ?_ ?_ | refine bt3 (by assumption) ?_)))⟩; clear hb))
  go_ret
  exact ⟨_, rfl, by have hbb := HB.out; (repeat (first | exact Below.refl _ _ | assumption | refine Below.drew ?_ | refine bdn ?_ | refine ba _ ?_ | refine bs0 _ _ ?_ ?_ | refine bs1 _ _ _ ?_ ?_ | refine bs2 _ _ _ _ ?_ ?_ | refine bs3 _ _ _ _ _ ?_ ?_ | refine bt3 (by assumption) ?_)), by go_simp, by simp⟩
end Go.Proofs.YtmiafbbndonpaaaGreat

/- Contracts: products of intervals, the reference. -/
set_option linter.unusedVariables false
set_option linter.unusedSimpArgs false
namespace Go.Proofs.YtmiafbbndonpaaaGreat
open Go.RowKit Num Flt
/-- the lesser and the greater of two floats, the first one kept where both are alike -/
def stpL (lo m : Nat) : Nat := if pl m < pl lo then m else lo
def stpH (hi m : Nat) : Nat := if pl hi < pl m then m else hi
/-- one of two -/
def pk (a b k : Nat) : Nat := if k = 0 then a else b
/-- the ends of a product behind t pairs of ends -/
def mlo (a b c d : Nat) : Nat → Nat
  | 0 => 2139095040
  | t + 1 => stpL (mlo a b c d t) (meF (pk a b (t / 2)) (pk c d (t % 2)) 1)
def mhi (a b c d : Nat) : Nat → Nat
  | 0 => 4286578688
  | t + 1 => stpH (mhi a b c d t) (meF (pk a b (t / 2)) (pk c d (t % 2)) 2)
def Nm (x : Nat) : Prop := W x ∧ ¬ nan x ∧ zp x = x
theorem stpL_num {x y : Nat} (hx : Nm x) (hy : Nm y) : Nm (stpL x y) := by unfold stpL; split; exact hy; exact hx
theorem stpH_num {x y : Nat} (hx : Nm x) (hy : Nm y) : Nm (stpH x y) := by unfold stpH; split; exact hy; exact hx
theorem mlo_num (a b c d t : Nat) : Nm (mlo a b c d t) := by
  induction t with
  | zero => exact infS_num false
  | succ t ih => exact stpL_num ih (me_num _ _ _)
theorem mhi_num (a b c d t : Nat) : Nm (mhi a b c d t) := by
  induction t with
  | zero => exact infS_num true
  | succ t ih => exact stpH_num ih (me_num _ _ _)
theorem pk_W {a b : Nat} (ha : W a) (hb : W b) (k : Nat) : W (pk a b k) := by unfold pk; split; exact ha; exact hb
theorem pk_n {a b : Nat} (ha : ¬ nan a) (hb : ¬ nan b) (k : Nat) : ¬ nan (pk a b k) := by unfold pk; split; exact ha; exact hb
/-- what both ends are behind t pairs -/
abbrev MlR (a b c d t L H : Nat) : Prop := (W L ∧ ¬ nan L ∧ zp L = mlo a b c d t) ∧ (W H ∧ ¬ nan H ∧ zp H = mhi a b c d t)
abbrev EdR (a b c d k j r1 r2 : Nat) : Prop := (W r1 ∧ ¬ nan r1 ∧ zp r1 = meF (pk a b k) (pk c d j) 1) ∧ (W r2 ∧ ¬ nan r2 ∧ zp r2 = meF (pk a b k) (pk c d j) 2)
theorem MlR.start (a b c d : Nat) : MlR a b c d (2 * 0) 2139095040 4286578688 := ⟨infS_num false, infS_num true⟩
theorem MlR.next {a b c d k j L H r1 r2 : Nat} (h : MlR a b c d (2 * k + j) L H) (hj : j < 2) (hr : EdR a b c d k j r1 r2) : MlR a b c d (2 * k + (j + 1)) (if pl r1 < pl L then r1 else L) (if pl H < pl r2 then r2 else H) := by
  have e1 : (2 * k + j) / 2 = k := by omega
  have e2 : (2 * k + j) % 2 = j := by omega
  have f1 : mlo a b c d (2 * k + (j + 1)) = stpL (mlo a b c d (2 * k + j)) (meF (pk a b k) (pk c d j) 1) := by
    show stpL _ (meF (pk a b ((2 * k + j) / 2)) (pk c d ((2 * k + j) % 2)) 1) = _
    rw [e1, e2]; rfl
  have f2 : mhi a b c d (2 * k + (j + 1)) = stpH (mhi a b c d (2 * k + j)) (meF (pk a b k) (pk c d j) 2) := by
    show stpH _ (meF (pk a b ((2 * k + j) / 2)) (pk c d ((2 * k + j) % 2)) 2) = _
    rw [e1, e2]; rfl
  unfold MlR
  rw [f1, f2, ← h.1.2.2, ← h.2.2.2, ← hr.1.2.2, ← hr.2.2.2]
  unfold stpL stpH
  rw [pl_zp, pl_zp, pl_zp, pl_zp]
  constructor
  · split
    · exact ⟨hr.1.1, hr.1.2.1, rfl⟩
    · exact ⟨h.1.1, h.1.2.1, rfl⟩
  · split
    · exact ⟨hr.2.1, hr.2.2.1, rfl⟩
    · exact ⟨h.2.1, h.2.2.1, rfl⟩
theorem o_ltn {x y : Nat} (hx : ¬ nan x) (hy : ¬ nan y) : (FloatKind.f32.format.order x y == some .lt) = decide (pl x < pl y) := by
  rw [o_lt]; exact decide_eq_decide.2 ⟨fun h => h.2.2, fun h => ⟨hx, hy, h⟩⟩
theorem o_gtn {x y : Nat} (hx : ¬ nan x) (hy : ¬ nan y) : (FloatKind.f32.format.order x y == some .gt) = decide (pl y < pl x) := by
  rw [o_gt]; exact decide_eq_decide.2 ⟨fun h => h.2.2, fun h => ⟨hx, hy, h⟩⟩
/-- what the reference's product holds in its loops: two rows of ends, the result's block -/
structure MIH (w wx : World) (g1 g2 a b c d : Nat) : Prop where
  bel : Below w.heap.size w wx
  b2 : Blk wx (w.heap.size + 1 + 1) 27 #[.float .f32 0, .float .f32 0]
  c0 : wx.cell? ⟨g1, 0, none⟩ = some (.float .f32 a)
  c1 : wx.cell? ⟨g1, 1, none⟩ = some (.float .f32 b)
  d0 : wx.cell? ⟨g2, 0, none⟩ = some (.float .f32 c)
  d1 : wx.cell? ⟨g2, 1, none⟩ = some (.float .f32 d)
theorem MIH.below {w wx w' : World} {g1 g2 a b c d : Nat} (h : MIH w wx g1 g2 a b c d) (hb : Below wx.heap.size wx w') : MIH w w' g1 g2 a b c d :=
  ⟨bt3 hb h.bel, h.b2.below hb h.b2.lt, cb hb h.c0, cb hb h.c1, cb hb h.d0, cb hb h.d1⟩
theorem two_at {wx : World} {g a b : Nat} (h0 : wx.cell? ⟨g, 0, none⟩ = some (.float .f32 a)) (h1 : wx.cell? ⟨g, 1, none⟩ = some (.float .f32 b)) {k : Nat} (hk : k < 2) : wx.cell? ⟨g, k, none⟩ = some (.float .f32 (pk a b k)) := by
  obtain rfl | rfl : k = 0 ∨ k = 1 := by omega
  · exact h0
  · exact h1
set_option maxHeartbeats 4000000 in
theorem s_Mul6 (a b c d : Nat) (w : World) (ha : W a) (hb : W b) (hc : W c) (hd : W d) (na : ¬ nan a) (nb : ¬ nan b) (nc : ¬ nan c) (nd : ¬ nan d) :
    Calls Tryz.prog 43 #[.agg #[.float .f32 a, .float .f32 b], .agg #[.float .f32 c, .float .f32 d]] w (RetV (.agg #[.float .f32 (mlo a b c d 4), .float .f32 (mhi a b c d 4)]) w) := by
  have HE := Hd.mk (fun (k j : Nat) (w : World) => s_Ends (pk a b k) (pk c d j) w (pk_W ha hb k) (pk_W hc hd j) (pk_n na nb k) (pk_n nc nd j))
  have HS := Hd.mk (MlR.start a b c d)
  have ng1 : Op.negFloat .f32 2139095040 = 4286578688 := by rfl
  have p0 : (Wi3 w a b c d).cell? _ = some (.float .f32 a) := (Wi3.b0 w a b c d).cell 0
  have p1 : (Wi3 w a b c d).cell? _ = some (.float .f32 b) := (Wi3.b0 w a b c d).cell 1
  have p2 : (Wi3 w a b c d).cell? _ = some (.float .f32 c) := (Wi3.b1 w a b c d).cell 0
  have p3 : (Wi3 w a b c d).cell? _ = some (.float .f32 d) := (Wi3.b1 w a b c d).cell 1
  have HW := Hd.mk (And.intro (Wi3.b2 w a b c d) (Wi3.bel w a b c d))
  clear ha hb hc hd na nb nc nd
  go_enter Tryz.func43, Tryz.ntmps43
  go_upto_region 2 with (go_at_call 46; (with_reducible refine (s_Huge _).mono ?_); rintro e w' ⟨rfl, rfl⟩)
  go_cut [7, 8] (fun v7 v8 wx => ∃ g1 g2, v7 = .slice (some ⟨g1, 0, none⟩) 2 2 ∧ v8 = .slice (some ⟨g2, 0, none⟩) 2 2 ∧ Hd (MIH w wx g1 g2 a b c d))
  case first =>
    go_region
    all_goals
      go_wp2_with fail
      go_meet
      exact ⟨_, _, rfl, rfl, ⟨⟨by have h := HW.out.2; (repeat (first | exact Below.refl _ _ | assumption | refine Below.drew ?_ | refine bdn ?_ | refine ba _ ?_ | refine bs0 _ _ ?_ ?_ | refine bs1 _ _ _ ?_ ?_ | refine bs2 _ _ _ _ ?_ ?_ | refine bs3 _ _ _ _ _ ?_ ?_ | refine bt3 (by assumption) ?_)), ((HW.out.1.drew).alloc _).alloc _, by go_simp, by go_simp, by go_simp, by go_simp⟩⟩⟩
  case rest =>
    obtain ⟨g1, g2, rfl, rfl, HM⟩ := hcut
    go_wp2_with fail
    go_loopw [5, 6, 9] (fun lo hi i wr => ∃ (k L H : Nat), i = .int .i64 k ∧ (k : Int) ≤ 2 ∧ lo = .float .f32 L ∧ hi = .float .f32 H ∧ Hd (MlR a b c d (2 * k) L H) ∧ Hd (MIH w wr g1 g2 a b c d))
      (fun _ _ i _ => 2 - (intOf i).toNat)
    case atStart => exact ⟨0, 2139095040, 4286578688, rfl, by omega, rfl, rfl, HS, HM⟩
    case round =>
      obtain ⟨k, L, H, rfl, hk, rfl, rfl, HR, HB⟩ := hrel
      by_cases h1 : k < 2
      · have k1 : (0 : Int) ≤ k := by omega
        have k2 : (k : Int) < 2 := by omega
        go_wp2_with fail
        go_loopw [5, 6, 10] (fun lo hi i wi => ∃ (j L H : Nat), i = .int .i64 j ∧ (j : Int) ≤ 2 ∧ lo = .float .f32 L ∧ hi = .float .f32 H ∧ Hd (MlR a b c d (2 * k + j) L H) ∧ Hd (MIH w wi g1 g2 a b c d))
          (fun _ _ i _ => 2 - (intOf i).toNat)
        case atStart => exact ⟨0, L, H, rfl, by omega, rfl, rfl, HR, HB⟩
        case round =>
          clear HR HB
          obtain ⟨j, L, H, rfl, hj, rfl, rfl, HR, HB⟩ := hrel
          by_cases h2 : j < 2
          · have j1 : (0 : Int) ≤ j := by omega
            have j2 : (j : Int) < 2 := by omega
            have u1 := two_at HB.out.c0 HB.out.c1 h1
            have u2 := two_at HB.out.d0 HB.out.d1 h2
            have HC := Hd.mk (HE.out k j)
            have HX : Hd (∀ r1 r2, (W r1 ∧ ¬ nan r1 ∧ zp r1 = meF (pk a b k) (pk c d j) 1) → (W r2 ∧ ¬ nan r2 ∧ zp r2 = meF (pk a b k) (pk c d j) 2) → EdR a b c d k j r1 r2) := ⟨fun _ _ h1 h2 => ⟨h1, h2⟩⟩
            generalize hxx : pk a b k = x at u1 HC HX
            generalize hyy : pk c d j = y at u2 HC HX
            clear hxx hyy
            go_upto_region 9 with fail
            go_cut [11, 12] from 30 to 53 (fun v11 v12 wx => ∃ r1 r2, v11 = .float .f32 r1 ∧ v12 = .float .f32 r2 ∧ Hd (EdR a b c d k j r1 r2) ∧ Hd (MIH w wx g1 g2 a b c d))
            case first =>
              go_region_held3 (fun w' => w'.cell? ⟨g1, k, none⟩ = some (.float .f32 x) ∧ w'.cell? ⟨g2, j, none⟩ = some (.float .f32 y)) ((first | assumption | exact ⟨u1, u2⟩ | exact ⟨v1, v2⟩ | go_keep | (refine ⟨?_, ?_⟩ <;> go_simp) | (constructor <;> go_simp)))
                (first | (go_at_call 72; (with_reducible refine (HC.out _).mono ?_); rintro e5 w5 ⟨r1, r2, rfl, hr1, hr2, hb⟩; have hb2 : Below wr.heap.size wr w5 := bt3 hb (by (repeat (first | exact Below.refl _ _ | assumption | refine Below.drew ?_ | refine bdn ?_ | refine ba _ ?_ | refine bs0 _ _ ?_ ?_ | refine bs1 _ _ _ ?_ ?_ | refine bs2 _ _ _ _ ?_ ?_ | refine bs3 _ _ _ _ _ ?_ ?_ | refine bt3 (by assumption) ?_))); clear hb; have hb := hb2; clear hb2; replace HB := Hd.mk (HB.out.below hb); have HD := Hd.mk (HX.out r1 r2 hr1 hr2); have v1 := cb hb u1; have v2 := cb hb u2; clear hr1 hr2 hb))
              all_goals
                go_wp2_with fail
                go_meet
                exact ⟨r1, r2, rfl, rfl, HD, HB⟩
            case rest =>
              clear HB u1 u2 HC HX
              obtain ⟨r1, r2, rfl, rfl, HD, HB⟩ := hcut
              have HN := Hd.mk (HR.out.next h2 HD.out)
              have cl := o_ltn HD.out.1.2.1 HR.out.1.2.1
              have cg := o_gtn HD.out.2.2.1 HR.out.2.2.1
              clear HR HD
              by_cases q1 : pl r1 < pl L
              · rw [decide_eq_true q1] at cl
                rw [if_pos q1] at HN
                by_cases q2 : pl H < pl r2
                · rw [decide_eq_true q2] at cg
                  rw [if_pos q2] at HN
                  clear q1 q2
                  go_wp2_with fail
                  go_roundw
                  case rel => exact ⟨j + 1, r1, r2, by go_num, by omega, rfl, rfl, HN, HB⟩
                  case measure => simp [intOf]; omega
                · rw [decide_eq_false q2] at cg
                  rw [if_neg q2] at HN
                  clear q1 q2
                  go_wp2_with fail
                  go_roundw
                  case rel => exact ⟨j + 1, r1, H, by go_num, by omega, rfl, rfl, HN, HB⟩
                  case measure => simp [intOf]; omega
              · rw [decide_eq_false q1] at cl
                rw [if_neg q1] at HN
                by_cases q2 : pl H < pl r2
                · rw [decide_eq_true q2] at cg
                  rw [if_pos q2] at HN
                  clear q1 q2
                  go_wp2_with fail
                  go_roundw
                  case rel => exact ⟨j + 1, L, r2, by go_num, by omega, rfl, rfl, HN, HB⟩
                  case measure => simp [intOf]; omega
                · rw [decide_eq_false q2] at cg
                  rw [if_neg q2] at HN
                  clear q1 q2
                  go_wp2_with fail
                  go_roundw
                  case rel => exact ⟨j + 1, L, H, by go_num, by omega, rfl, rfl, HN, HB⟩
                  case measure => simp [intOf]; omega
          · obtain rfl : j = 2 := by omega
            go_wp2_with fail
            go_roundw
            case rel => exact ⟨k + 1, L, H, by go_num, by omega, rfl, rfl, HR, HB⟩
            case measure => simp [intOf]; omega
      · obtain rfl : k = 2 := by omega
        have HLM := HR
        clear HR
        go_wp2_with (go_at_call 60; (with_reducible refine (s_Make _ _ _ HLM.out.1.1 HLM.out.2.1).mono ?_); rintro e12 w9 ⟨rfl, hb⟩; replace HB := Hd.mk (HB.out.below hb); clear hb; have r0 : w9.cell? _ = some (.float .f32 0) := HB.out.b2.cell 0; have r1 : w9.cell? _ = some (.float .f32 0) := HB.out.b2.cell 1; have q0 := HB.out.b2.frozen 0; have q1 := HB.out.b2.frozen 1)
        refine bodyPost_ret (v := .agg #[.float .f32 (zp L), .float .f32 (zp H)]) (by simp (maxDischargeDepth := 7) [results, Tryz.results43, go_sem, *]) rfl ⟨?_, ?_⟩
        · rw [HLM.out.1.2.2, HLM.out.2.2.2]
        · have hbb := HB.out.bel
          (repeat (first | exact Below.refl _ _ | assumption | refine Below.drew ?_ | refine bdn ?_ | refine ba _ ?_ | refine bs0 _ _ ?_ ?_ | refine bs1 _ _ _ ?_ ?_ | refine bs2 _ _ _ _ ?_ ?_ | refine bs3 _ _ _ _ _ ?_ ?_ | refine bt3 (by assumption) ?_))
end Go.Proofs.YtmiafbbndonpaaaGreat

/- Contracts: products of intervals, the program. -/
set_option linter.unusedVariables false
set_option linter.unusedSimpArgs false
namespace Go.Proofs.YtmiafbbndonpaaaGreat
open Go.RowKit Num Flt
/-- what the program's product holds in its loops -/
structure OvH (w wx : World) (gx a b c d lo hi : Nat) : Prop where
  bel : Below w.heap.size w wx
  b1 : Blk wx (w.heap.size + 1) 27 #[.float .f32 c, .float .f32 d]
  b2 : Blk wx (w.heap.size + 1 + 1) 27 #[.float .f32 0, .float .f32 0]
  b3 : Blk wx (w.heap.size + 1 + 1 + 1) 27 #[.float .f32 lo, .float .f32 hi]
  bx : Blk wx gx 22 #[.float .f32 a, .float .f32 b]
  ne : gx ≠ w.heap.size + 1 + 1 + 1
theorem OvH.below {w wx w' : World} {gx a b c d lo hi : Nat} (h : OvH w wx gx a b c d lo hi) (hb : Below wx.heap.size wx w') : OvH w w' gx a b c d lo hi :=
  ⟨bt3 hb h.bel, h.b1.below hb h.b1.lt, h.b2.below hb h.b2.lt, h.b3.below hb h.b3.lt, h.bx.below hb h.bx.lt, h.ne⟩
theorem OvH.setL {w wx : World} {gx a b c d lo hi : Nat} (h : OvH w wx gx a b c d lo hi) (m : Nat) : OvH w (wx.setCell ⟨w.heap.size + 1 + 1 + 1, 0, none⟩ (.float .f32 m)) gx a b c d m hi :=
  ⟨h.bel.setCell (by simp; omega) _, h.b1.far (by first | (simp; done) | (simp; omega)) _, h.b2.far (by first | (simp; done) | (simp; omega)) _, h.b3.set_ 0 _, h.bx.far (by simpa using h.ne) _, h.ne⟩
theorem OvH.setH {w wx : World} {gx a b c d lo hi : Nat} (h : OvH w wx gx a b c d lo hi) (m : Nat) : OvH w (wx.setCell ⟨w.heap.size + 1 + 1 + 1, 1, none⟩ (.float .f32 m)) gx a b c d lo m :=
  ⟨h.bel.setCell (by simp; omega) _, h.b1.far (by first | (simp; done) | (simp; omega)) _, h.b2.far (by first | (simp; done) | (simp; omega)) _, h.b3.set_ 1 _, h.bx.far (by simpa using h.ne) _, h.ne⟩
abbrev Wo4 (w : World) (a b c d : Nat) : World := (((w.alloc (Obj.cells #[.float .f32 a, .float .f32 b] 27)).alloc (Obj.cells #[.float .f32 c, .float .f32 d] 27)).alloc (Obj.cells #[.float .f32 0, .float .f32 0] 27)).alloc (Obj.cells #[.float .f32 2139095040, .float .f32 4286578688] 27)
theorem OvH.start (w : World) (a b c d : Nat) : OvH w ((Wo4 w a b c d).alloc (Obj.cells #[.float .f32 a, .float .f32 b] 22)) (w.heap.size + 1 + 1 + 1 + 1) a b c d 2139095040 4286578688 := by
  refine ⟨ba _ (ba _ (ba _ (ba _ (ba _ (Below.refl _ _))))), ?_, ?_, ?_, ?_, by omega⟩
  · have := (((Blk.new (w.alloc (Obj.cells #[.float .f32 a, .float .f32 b] 27)) 27 #[.float .f32 c, .float .f32 d]).alloc (Obj.cells #[.float .f32 0, .float .f32 0] 27)).alloc (Obj.cells #[.float .f32 2139095040, .float .f32 4286578688] 27)).alloc (Obj.cells #[.float .f32 a, .float .f32 b] 22)
    simpa using this
  · have := ((Blk.new ((w.alloc (Obj.cells #[.float .f32 a, .float .f32 b] 27)).alloc (Obj.cells #[.float .f32 c, .float .f32 d] 27)) 27 #[.float .f32 0, .float .f32 0]).alloc (Obj.cells #[.float .f32 2139095040, .float .f32 4286578688] 27)).alloc (Obj.cells #[.float .f32 a, .float .f32 b] 22)
    simpa using this
  · have := (Blk.new (((w.alloc (Obj.cells #[.float .f32 a, .float .f32 b] 27)).alloc (Obj.cells #[.float .f32 c, .float .f32 d] 27)).alloc (Obj.cells #[.float .f32 0, .float .f32 0] 27)) 27 #[.float .f32 2139095040, .float .f32 4286578688]).alloc (Obj.cells #[.float .f32 a, .float .f32 b] 22)
    simpa using this
  · have := Blk.new (Wo4 w a b c d) 22 #[.float .f32 a, .float .f32 b]
    simpa [Wo4] using this
theorem blk_at {wx : World} {g a b : Nat} {t : TypeId} (h : Blk wx g t #[.float .f32 a, .float .f32 b]) {k : Nat} (hk : k < 2) : wx.cell? ⟨g, k, none⟩ = some (.float .f32 (pk a b k)) := two_at (h.cell 0) (h.cell 1) hk
set_option maxHeartbeats 4000000 in
theorem i_over (a b c d : Nat) (w : World) (ha : W a) (hb : W b) (hc : W c) (hd : W d) (na : ¬ nan a) (nb : ¬ nan b) (nc : ¬ nan c) (nd : ¬ nan d) :
    Calls Tryz.prog 73 #[.agg #[.float .f32 a, .float .f32 b], .agg #[.float .f32 c, .float .f32 d], .func (.func 74) #[] #[]] w (RetV (.agg #[.float .f32 (mlo a b c d 4), .float .f32 (mhi a b c d 4)]) w) := by
  have HE := Hd.mk (fun (k j : Nat) (mode : Int) (hmd : 0 ≤ mode ∧ mode ≤ 4) (w : World) => i_mulC (pk a b k) (pk c d j) mode w (pk_W ha hb k) (pk_W hc hd j) (pk_n na nb k) (pk_n nc nd j) hmd)
  have HS := Hd.mk (OvH.start w a b c d)
  clear ha hb hc hd na nb nc nd
  go_enter Tryz.func73, Tryz.ntmps73
  go_wp2_with (first | (go_at_call 53; (with_reducible refine (i_inf1 _).mono ?_); rintro e w' ⟨rfl, rfl⟩) | (go_at_call 53; (with_reducible refine (i_inf2 _).mono ?_); rintro e w' ⟨rfl, rfl⟩))
  go_loopw [25] (fun i wr => ∃ k : Nat, i = .int .i64 k ∧ (k : Int) ≤ 2 ∧ Hd (OvH w wr (w.heap.size + 1 + 1 + 1 + 1) a b c d (mlo a b c d (2 * k)) (mhi a b c d (2 * k))))
    (fun i _ => 2 - (intOf i).toNat)
  case atStart => exact ⟨0, rfl, by omega, HS⟩
  case round =>
    obtain ⟨k, rfl, hk, HB⟩ := hrel
    by_cases h1 : k < 2
    · have k1 : (0 : Int) ≤ k := by omega
      have k2 : (k : Int) < 2 := by omega
      have u1 := blk_at HB.out.bx h1
      have e0 : wr.cell? _ = some (.float .f32 c) := HB.out.b1.cell 0
      have e1 : wr.cell? _ = some (.float .f32 d) := HB.out.b1.cell 1
      have HY0 := Hd.mk (Blk.new wr 22 #[.float .f32 c, .float .f32 d])
      have HGY : Hd (wr.heap.size ≠ w.heap.size + 1 + 1 + 1) := ⟨by have := HB.out.b3.lt; omega⟩
      have HB1 := Hd.mk (HB.out.below (ba (Obj.cells #[.float .f32 c, .float .f32 d] 22) (Below.refl _ _)))
      go_wp2_with fail
      clear u1 e0 e1 HB
      generalize wr.heap.size = gy at *
      go_loopw [35] (fun i wi => ∃ j : Nat, i = .int .i64 j ∧ (j : Int) ≤ 2 ∧ Hd (OvH w wi (w.heap.size + 1 + 1 + 1 + 1) a b c d (mlo a b c d (2 * k + j)) (mhi a b c d (2 * k + j))) ∧ Hd (Blk wi gy 22 #[.float .f32 c, .float .f32 d]))
        (fun i _ => 2 - (intOf i).toNat)
      case atStart => exact ⟨0, rfl, by omega, HB1, HY0⟩
      case round =>
        clear HB1 HY0
        obtain ⟨j, rfl, hj, HC, HY⟩ := hrel
        by_cases h2 : j < 2
        · have j1 : (0 : Int) ≤ j := by omega
          have j2 : (j : Int) < 2 := by omega
          have v1 := blk_at HY.out h2
          have HM1 := Hd.mk (HE.out k j 1 (by decide))
          have HM2 := Hd.mk (HE.out k j 2 (by decide))
          have q0 : (2 * k + j) / 2 = k := by omega
          have q00 : (2 * k + j) % 2 = j := by omega
          have HN : Hd (mlo a b c d (2 * k + (j + 1)) = stpL (mlo a b c d (2 * k + j)) (meF (pk a b k) (pk c d j) 1) ∧ mhi a b c d (2 * k + (j + 1)) = stpH (mhi a b c d (2 * k + j)) (meF (pk a b k) (pk c d j) 2)) := ⟨by
            constructor
            · show stpL _ (meF (pk a b ((2 * k + j) / 2)) (pk c d ((2 * k + j) % 2)) 1) = _
              rw [q0, q00]; rfl
            · show stpH _ (meF (pk a b ((2 * k + j) / 2)) (pk c d ((2 * k + j) % 2)) 2) = _
              rw [q0, q00]; rfl⟩
          have cl := o_ltn (me_num (pk a b k) (pk c d j) 1).2.1 (mlo_num a b c d (2 * k + j)).2.1
          have cg := o_gtn (me_num (pk a b k) (pk c d j) 2).2.1 (mhi_num a b c d (2 * k + j)).2.1
          clear q0 q00
          generalize mlo a b c d (2 * k + j) = lo at *
          generalize mhi a b c d (2 * k + j) = hi at *
          generalize pk a b k = x at *
          generalize pk c d j = y at *
          generalize meF x y 1 = m1 at *
          generalize meF x y 2 = m2 at *
          unfold stpL stpH at HN
          by_cases q1 : pl m1 < pl lo
          · rw [decide_eq_true q1] at cl
            rw [if_pos q1] at HN
            by_cases q2 : pl hi < pl m2
            · rw [decide_eq_true q2] at cg
              rw [if_pos q2] at HN
              clear q1 q2
              go_wp2_with (go_at_call 74; (with_reducible refine (HM1.out _).mono ?_); rintro e3 w3 ⟨g3, rfl, hb, hcell3, hlt⟩; have hb3 : Below wr.heap.size wr w3 := bt3 hb (by (repeat (first | exact Below.refl _ _ | assumption | refine Below.drew ?_ | refine bdn ?_ | refine ba _ ?_ | refine bs0 _ _ ?_ ?_ | refine bs1 _ _ _ ?_ ?_ | refine bs2 _ _ _ _ ?_ ?_ | refine bs3 _ _ _ _ _ ?_ ?_ | refine bt3 (by assumption) ?_))); clear hb; have HC3 := Hd.mk (HC.out.below hb3); have HY3 := Hd.mk (HY.out.below hb3 HY.out.lt); have o0 : w3.cell? _ = some (.float .f32 lo) := HC3.out.b3.cell 0; have o1 : w3.cell? _ = some (.float .f32 hi) := HC3.out.b3.cell 1; have f0 := HC3.out.b3.frozen 0; have f1 := HC3.out.b3.frozen 1; clear hb3 hlt)
              refine wp_loop_rounds 2 ?_; rw [rounds_succ]; go_wp2_with fail; rw [rounds_succ]; go_wp2_with (go_at_call 74; (with_reducible refine (HM2.out _).mono ?_); rintro e4 w4 ⟨g4, rfl, hb, hcell4, hlt⟩; have HC4 := Hd.mk ((HC3.out.setL m1).below hb); have HY4 := Hd.mk ((HY3.out.far (by simpa using HGY.out) _).below hb (HY3.out.far (by simpa using HGY.out) _).lt); have o2 : w4.cell? _ = some (.float .f32 m1) := HC4.out.b3.cell 0; have o3 : w4.cell? _ = some (.float .f32 hi) := HC4.out.b3.cell 1; have f2 := HC4.out.b3.frozen 0; have f3 := HC4.out.b3.frozen 1; clear hb hlt)
              refine wp_loop_rounds 2 ?_; rw [rounds_succ]; go_wp2_with fail; rw [rounds_succ]; go_wp2_with fail
              go_roundw
              case rel => exact ⟨j + 1, by go_num, by omega, ⟨by rw [HN.out.1, HN.out.2]; exact HC4.out.setH m2⟩, ⟨HY4.out.far (by simpa using HGY.out) _⟩⟩
              case measure => simp [intOf]; omega
            · rw [decide_eq_false q2] at cg
              rw [if_neg q2] at HN
              clear q1 q2
              go_wp2_with (go_at_call 74; (with_reducible refine (HM1.out _).mono ?_); rintro e3 w3 ⟨g3, rfl, hb, hcell3, hlt⟩; have hb3 : Below wr.heap.size wr w3 := bt3 hb (by (repeat (first | exact Below.refl _ _ | assumption | refine Below.drew ?_ | refine bdn ?_ | refine ba _ ?_ | refine bs0 _ _ ?_ ?_ | refine bs1 _ _ _ ?_ ?_ | refine bs2 _ _ _ _ ?_ ?_ | refine bs3 _ _ _ _ _ ?_ ?_ | refine bt3 (by assumption) ?_))); clear hb; have HC3 := Hd.mk (HC.out.below hb3); have HY3 := Hd.mk (HY.out.below hb3 HY.out.lt); have o0 : w3.cell? _ = some (.float .f32 lo) := HC3.out.b3.cell 0; have o1 : w3.cell? _ = some (.float .f32 hi) := HC3.out.b3.cell 1; have f0 := HC3.out.b3.frozen 0; have f1 := HC3.out.b3.frozen 1; clear hb3 hlt)
              refine wp_loop_rounds 2 ?_; rw [rounds_succ]; go_wp2_with fail; rw [rounds_succ]; go_wp2_with (go_at_call 74; (with_reducible refine (HM2.out _).mono ?_); rintro e4 w4 ⟨g4, rfl, hb, hcell4, hlt⟩; have HC4 := Hd.mk ((HC3.out.setL m1).below hb); have HY4 := Hd.mk ((HY3.out.far (by simpa using HGY.out) _).below hb (HY3.out.far (by simpa using HGY.out) _).lt); have o2 : w4.cell? _ = some (.float .f32 m1) := HC4.out.b3.cell 0; have o3 : w4.cell? _ = some (.float .f32 hi) := HC4.out.b3.cell 1; have f2 := HC4.out.b3.frozen 0; have f3 := HC4.out.b3.frozen 1; clear hb hlt)
              refine wp_loop_rounds 2 ?_; rw [rounds_succ]; go_wp2_with fail; rw [rounds_succ]; go_wp2_with fail
              go_roundw
              case rel => exact ⟨j + 1, by go_num, by omega, ⟨by rw [HN.out.1, HN.out.2]; exact HC4.out⟩, HY4⟩
              case measure => simp [intOf]; omega
          · rw [decide_eq_false q1] at cl
            rw [if_neg q1] at HN
            by_cases q2 : pl hi < pl m2
            · rw [decide_eq_true q2] at cg
              rw [if_pos q2] at HN
              clear q1 q2
              go_wp2_with (go_at_call 74; (with_reducible refine (HM1.out _).mono ?_); rintro e3 w3 ⟨g3, rfl, hb, hcell3, hlt⟩; have hb3 : Below wr.heap.size wr w3 := bt3 hb (by (repeat (first | exact Below.refl _ _ | assumption | refine Below.drew ?_ | refine bdn ?_ | refine ba _ ?_ | refine bs0 _ _ ?_ ?_ | refine bs1 _ _ _ ?_ ?_ | refine bs2 _ _ _ _ ?_ ?_ | refine bs3 _ _ _ _ _ ?_ ?_ | refine bt3 (by assumption) ?_))); clear hb; have HC3 := Hd.mk (HC.out.below hb3); have HY3 := Hd.mk (HY.out.below hb3 HY.out.lt); have o0 : w3.cell? _ = some (.float .f32 lo) := HC3.out.b3.cell 0; have o1 : w3.cell? _ = some (.float .f32 hi) := HC3.out.b3.cell 1; have f0 := HC3.out.b3.frozen 0; have f1 := HC3.out.b3.frozen 1; clear hb3 hlt)
              refine wp_loop_rounds 2 ?_; rw [rounds_succ]; go_wp2_with fail; rw [rounds_succ]; go_wp2_with (go_at_call 74; (with_reducible refine (HM2.out _).mono ?_); rintro e4 w4 ⟨g4, rfl, hb, hcell4, hlt⟩; have HC4 := Hd.mk (HC3.out.below hb); have HY4 := Hd.mk (HY3.out.below hb HY3.out.lt); have o2 : w4.cell? _ = some (.float .f32 lo) := HC4.out.b3.cell 0; have o3 : w4.cell? _ = some (.float .f32 hi) := HC4.out.b3.cell 1; have f2 := HC4.out.b3.frozen 0; have f3 := HC4.out.b3.frozen 1; clear hb hlt)
              refine wp_loop_rounds 2 ?_; rw [rounds_succ]; go_wp2_with fail; rw [rounds_succ]; go_wp2_with fail
              go_roundw
              case rel => exact ⟨j + 1, by go_num, by omega, ⟨by rw [HN.out.1, HN.out.2]; exact HC4.out.setH m2⟩, ⟨HY4.out.far (by simpa using HGY.out) _⟩⟩
              case measure => simp [intOf]; omega
            · rw [decide_eq_false q2] at cg
              rw [if_neg q2] at HN
              clear q1 q2
              go_wp2_with (go_at_call 74; (with_reducible refine (HM1.out _).mono ?_); rintro e3 w3 ⟨g3, rfl, hb, hcell3, hlt⟩; have hb3 : Below wr.heap.size wr w3 := bt3 hb (by (repeat (first | exact Below.refl _ _ | assumption | refine Below.drew ?_ | refine bdn ?_ | refine ba _ ?_ | refine bs0 _ _ ?_ ?_ | refine bs1 _ _ _ ?_ ?_ | refine bs2 _ _ _ _ ?_ ?_ | refine bs3 _ _ _ _ _ ?_ ?_ | refine bt3 (by assumption) ?_))); clear hb; have HC3 := Hd.mk (HC.out.below hb3); have HY3 := Hd.mk (HY.out.below hb3 HY.out.lt); have o0 : w3.cell? _ = some (.float .f32 lo) := HC3.out.b3.cell 0; have o1 : w3.cell? _ = some (.float .f32 hi) := HC3.out.b3.cell 1; have f0 := HC3.out.b3.frozen 0; have f1 := HC3.out.b3.frozen 1; clear hb3 hlt)
              refine wp_loop_rounds 2 ?_; rw [rounds_succ]; go_wp2_with fail; rw [rounds_succ]; go_wp2_with (go_at_call 74; (with_reducible refine (HM2.out _).mono ?_); rintro e4 w4 ⟨g4, rfl, hb, hcell4, hlt⟩; have HC4 := Hd.mk (HC3.out.below hb); have HY4 := Hd.mk (HY3.out.below hb HY3.out.lt); have o2 : w4.cell? _ = some (.float .f32 lo) := HC4.out.b3.cell 0; have o3 : w4.cell? _ = some (.float .f32 hi) := HC4.out.b3.cell 1; have f2 := HC4.out.b3.frozen 0; have f3 := HC4.out.b3.frozen 1; clear hb hlt)
              refine wp_loop_rounds 2 ?_; rw [rounds_succ]; go_wp2_with fail; rw [rounds_succ]; go_wp2_with fail
              go_roundw
              case rel => exact ⟨j + 1, by go_num, by omega, ⟨by rw [HN.out.1, HN.out.2]; exact HC4.out⟩, HY4⟩
              case measure => simp [intOf]; omega
        · obtain rfl : j = 2 := by omega
          go_wp2_with fail
          go_roundw
          case rel => exact ⟨k + 1, by go_num, by omega, HC⟩
          case measure => simp [intOf]; omega
    · obtain rfl : k = 2 := by omega
      have r0 : wr.cell? _ = some (.float .f32 0) := HB.out.b2.cell 0
      have r1 : wr.cell? _ = some (.float .f32 0) := HB.out.b2.cell 1
      have q0 := HB.out.b2.frozen 0
      have q1 := HB.out.b2.frozen 1
      have o0 : wr.cell? _ = some (.float .f32 (mlo a b c d (2 * 2))) := HB.out.b3.cell 0
      have o1 : wr.cell? _ = some (.float .f32 (mhi a b c d (2 * 2))) := HB.out.b3.cell 1
      go_wp2_with fail
      refine bodyPost_ret (v := .agg #[.float .f32 (mlo a b c d (2 * 2)), .float .f32 (mhi a b c d (2 * 2))]) (by simp (maxDischargeDepth := 7) [results, Tryz.results73, go_sem, *]) rfl ⟨rfl, ?_⟩
      have hbb := HB.out.bel
      (repeat (first | exact Below.refl _ _ | assumption | refine Below.drew ?_ | refine bdn ?_ | refine ba _ ?_ | refine bs0 _ _ ?_ ?_ | refine bs1 _ _ _ ?_ ?_ | refine bs2 _ _ _ _ ?_ ?_ | refine bs3 _ _ _ _ _ ?_ ?_ | refine bt3 (by assumption) ?_))
set_option maxHeartbeats 4000000 in
theorem i_mulI (a b c d : Nat) (w : World) (ha : W a) (hb : W b) (hc : W c) (hd : W d) (na : ¬ nan a) (nb : ¬ nan b) (nc : ¬ nan c) (nd : ¬ nan d) :
    Calls Tryz.prog 44 #[.agg #[.float .f32 a, .float .f32 b], .agg #[.float .f32 c, .float .f32 d]] w (RetV (.agg #[.float .f32 (mlo a b c d 4), .float .f32 (mhi a b c d 4)]) w) := by
  have HC := Hd.mk (fun w => i_over a b c d w ha hb hc hd na nb nc nd)
  generalize mlo a b c d 4 = lo at *
  generalize mhi a b c d 4 = hi at *
  clear ha hb hc hd na nb nc nd
  go_enter Tryz.func44, Tryz.ntmps44
  go_wp2_with (go_at_call 73; (with_reducible refine (HC.out _).mono ?_); rintro e5 w9 ⟨rfl, hb⟩; have HK := Hd.mk ((Wi3.b2 w a b c d).below hb (Wi3.b2 w a b c d).lt); have HBW : Hd (Below w.heap.size w w9) := ⟨bt3 hb (Wi3.bel w a b c d)⟩; have r0 : w9.cell? _ = some (.float .f32 0) := HK.out.cell 0; have r1 : w9.cell? _ = some (.float .f32 0) := HK.out.cell 1; have q0 := HK.out.frozen 0; have q1 := HK.out.frozen 1; clear hb)
  refine bodyPost_ret (v := .agg #[.float .f32 lo, .float .f32 hi]) (by simp (maxDischargeDepth := 7) [results, Tryz.results44, go_sem, *]) rfl ⟨rfl, ?_⟩
  have hbb := HBW.out
  (repeat (first | exact Below.refl _ _ | assumption | refine Below.drew ?_ | refine bdn ?_ | refine ba _ ?_ | refine bs0 _ _ ?_ ?_ | refine bs1 _ _ _ ?_ ?_ | refine bs2 _ _ _ _ ?_ ?_ | refine bs3 _ _ _ _ _ ?_ ?_ | refine bt3 (by assumption) ?_))
end Go.Proofs.YtmiafbbndonpaaaGreat

/- Contracts: products of intervals, both sides, the exported functions. -/
set_option linter.unusedVariables false
set_option linter.unusedSimpArgs false
namespace Go.Proofs.YtmiafbbndonpaaaGreat
open Go.RowKit Num Flt
set_option maxHeartbeats 4000000 in
theorem s_MulIvG (a b c d : Nat) (w : World) (ha : W a) (hb : W b) (hc : W c) (hd : W d) (h1 : IsIv a b) (h2 : IsIv c d) : Calls Tryz.prog 24 #[.agg #[.float .f32 a, .float .f32 b], .agg #[.float .f32 c, .float .f32 d]] w (RetI2 0 (mlo a b c d 4) (mhi a b c d 4) w) := by
  have HI := Hd.mk (fun w => s_Both a b c d w ha hb hc hd)
  rw [both_of ⟨h1, h2⟩] at HI
  have HC := Hd.mk (fun w => s_Mul6 a b c d w ha hb hc hd h1.1 h1.2.1 h2.1 h2.2.1)
  generalize mlo a b c d 4 = lo at *
  generalize mhi a b c d 4 = hi at *
  clear ha hb hc hd h1 h2
  have d0 : (Wi3 w a b c d).cell? _ = some (.float .f32 a) := (Wi3.b0 w a b c d).cell 0; have d1 : (Wi3 w a b c d).cell? _ = some (.float .f32 b) := (Wi3.b0 w a b c d).cell 1; have d2 : (Wi3 w a b c d).cell? _ = some (.float .f32 c) := (Wi3.b1 w a b c d).cell 0; have d3 : (Wi3 w a b c d).cell? _ = some (.float .f32 d) := (Wi3.b1 w a b c d).cell 1; have n1 : ¬ (w.heap.size + 1 + 1 = w.heap.size) := (by omega); have n2 : ¬ (w.heap.size + 1 + 1 = w.heap.size + 1) := (by omega)
  go_enter Tryz.func24, Tryz.ntmps24
  go_wp2_with (first | (go_at_call 30; (with_reducible refine (HI.out _).mono ?_); rintro e w9 ⟨rfl, hb⟩; have hq9 : Below (Wi3 w a b c d).heap.size (Wi3 w a b c d) w9 := bt3 hb (by (repeat (first | exact Below.refl _ _ | assumption | refine Below.drew ?_ | refine bdn ?_ | refine ba _ ?_ | refine bs0 _ _ ?_ ?_ | refine bs1 _ _ _ ?_ ?_ | refine bs2 _ _ _ _ ?_ ?_ | refine bs3 _ _ _ _ _ ?_ ?_ | refine bt3 (by assumption) ?_))); clear hb; have HK := Hd.mk ((Wi3.b2 w a b c d).below hq9 (Wi3.b2 w a b c d).lt); have r0 : w9.cell? _ = some (.float .f32 0) := HK.out.cell 0; have r1 : w9.cell? _ = some (.float .f32 0) := HK.out.cell 1; have q0 := HK.out.frozen 0; have q1 := HK.out.frozen 1; have HKa := Hd.mk ((Wi3.b0 w a b c d).below hq9 (Wi3.b0 w a b c d).lt); have HKb := Hd.mk ((Wi3.b1 w a b c d).below hq9 (Wi3.b1 w a b c d).lt); have u0 : w9.cell? _ = some (.float .f32 a) := HKa.out.cell 0; have u1 : w9.cell? _ = some (.float .f32 b) := HKa.out.cell 1; have u2 : w9.cell? _ = some (.float .f32 c) := HKb.out.cell 0; have u3 : w9.cell? _ = some (.float .f32 d) := HKb.out.cell 1) | (go_at_call 43; (with_reducible refine (HC.out _).mono ?_); rintro e w9 ⟨rfl, hb⟩; have hq9 : Below (Wi3 w a b c d).heap.size (Wi3 w a b c d) w9 := bt3 hb (by (repeat (first | exact Below.refl _ _ | assumption | refine Below.drew ?_ | refine bdn ?_ | refine ba _ ?_ | refine bs0 _ _ ?_ ?_ | refine bs1 _ _ _ ?_ ?_ | refine bs2 _ _ _ _ ?_ ?_ | refine bs3 _ _ _ _ _ ?_ ?_ | refine bt3 (by assumption) ?_))); clear hb; have HK := Hd.mk ((Wi3.b2 w a b c d).below hq9 (Wi3.b2 w a b c d).lt); have r0 : w9.cell? _ = some (.float .f32 0) := HK.out.cell 0; have r1 : w9.cell? _ = some (.float .f32 0) := HK.out.cell 1; have q0 := HK.out.frozen 0; have q1 := HK.out.frozen 1; have HKa := Hd.mk ((Wi3.b0 w a b c d).below hq9 (Wi3.b0 w a b c d).lt); have HKb := Hd.mk ((Wi3.b1 w a b c d).below hq9 (Wi3.b1 w a b c d).lt); have u0 : w9.cell? _ = some (.float .f32 a) := HKa.out.cell 0; have u1 : w9.cell? _ = some (.float .f32 b) := HKa.out.cell 1; have u2 : w9.cell? _ = some (.float .f32 c) := HKb.out.cell 0; have u3 : w9.cell? _ = some (.float .f32 d) := HKb.out.cell 1))
  refine bodyPost_ret (v := .tuple #[.agg #[.float .f32 (lo), .float .f32 (hi)], .int .i64 0]) (by simp (maxDischargeDepth := 7) [results, Tryz.results24, go_sem, *]) rfl ⟨rfl, (by have hbb : Below w.heap.size w w9 := bt3 hq9 (Wi3.bel w a b c d); (repeat (first | exact Below.refl _ _ | assumption | refine Below.drew ?_ | refine bdn ?_ | refine ba _ ?_ | refine bs0 _ _ ?_ ?_ | refine bs1 _ _ _ ?_ ?_ | refine bs2 _ _ _ _ ?_ ?_ | refine bs3 _ _ _ _ _ ?_ ?_ | refine bt3 (by assumption) ?_)))⟩
set_option maxHeartbeats 4000000 in
theorem s_MulIvN (a b c d : Nat) (w : World) (ha : W a) (hb : W b) (hc : W c) (hd : W d) (h : bothC a b c d = 1) : Calls Tryz.prog 24 #[.agg #[.float .f32 a, .float .f32 b], .agg #[.float .f32 c, .float .f32 d]] w (RetI2 1 0 0 w) := by
  have HI := Hd.mk (fun w => s_Both a b c d w ha hb hc hd)
  rw [h] at HI
  clear ha hb hc hd h
  have d0 : (Wi3 w a b c d).cell? _ = some (.float .f32 a) := (Wi3.b0 w a b c d).cell 0; have d1 : (Wi3 w a b c d).cell? _ = some (.float .f32 b) := (Wi3.b0 w a b c d).cell 1; have d2 : (Wi3 w a b c d).cell? _ = some (.float .f32 c) := (Wi3.b1 w a b c d).cell 0; have d3 : (Wi3 w a b c d).cell? _ = some (.float .f32 d) := (Wi3.b1 w a b c d).cell 1; have n1 : ¬ (w.heap.size + 1 + 1 = w.heap.size) := (by omega); have n2 : ¬ (w.heap.size + 1 + 1 = w.heap.size + 1) := (by omega)
  go_enter Tryz.func24, Tryz.ntmps24
  go_wp2_with (first | (go_at_call 30; (with_reducible refine (HI.out _).mono ?_); rintro e w9 ⟨rfl, hb⟩; have hq9 : Below (Wi3 w a b c d).heap.size (Wi3 w a b c d) w9 := bt3 hb (by (repeat (first | exact Below.refl _ _ | assumption | refine Below.drew ?_ | refine bdn ?_ | refine ba _ ?_ | refine bs0 _ _ ?_ ?_ | refine bs1 _ _ _ ?_ ?_ | refine bs2 _ _ _ _ ?_ ?_ | refine bs3 _ _ _ _ _ ?_ ?_ | refine bt3 (by assumption) ?_))); clear hb; have HK := Hd.mk ((Wi3.b2 w a b c d).below hq9 (Wi3.b2 w a b c d).lt); have r0 : w9.cell? _ = some (.float .f32 0) := HK.out.cell 0; have r1 : w9.cell? _ = some (.float .f32 0) := HK.out.cell 1; have q0 := HK.out.frozen 0; have q1 := HK.out.frozen 1; have HKa := Hd.mk ((Wi3.b0 w a b c d).below hq9 (Wi3.b0 w a b c d).lt); have HKb := Hd.mk ((Wi3.b1 w a b c d).below hq9 (Wi3.b1 w a b c d).lt); have u0 : w9.cell? _ = some (.float .f32 a) := HKa.out.cell 0; have u1 : w9.cell? _ = some (.float .f32 b) := HKa.out.cell 1; have u2 : w9.cell? _ = some (.float .f32 c) := HKb.out.cell 0; have u3 : w9.cell? _ = some (.float .f32 d) := HKb.out.cell 1))
  refine bodyPost_ret (v := .tuple #[.agg #[.float .f32 (0), .float .f32 (0)], .int .i64 1]) (by simp (maxDischargeDepth := 7) [results, Tryz.results24, go_sem, *]) rfl ⟨rfl, (by have hbb : Below w.heap.size w w9 := bt3 hq9 (Wi3.bel w a b c d); (repeat (first | exact Below.refl _ _ | assumption | refine Below.drew ?_ | refine bdn ?_ | refine ba _ ?_ | refine bs0 _ _ ?_ ?_ | refine bs1 _ _ _ ?_ ?_ | refine bs2 _ _ _ _ ?_ ?_ | refine bs3 _ _ _ _ _ ?_ ?_ | refine bt3 (by assumption) ?_)))⟩
set_option maxHeartbeats 4000000 in
theorem i_MulIvG (a b c d : Nat) (w : World) (ha : W a) (hb : W b) (hc : W c) (hd : W d) (h1 : IsIv a b) (h2 : IsIv c d) : Calls Tryz.prog 25 #[.agg #[.float .f32 a, .float .f32 b], .agg #[.float .f32 c, .float .f32 d]] w (RetI2 0 (mlo a b c d 4) (mhi a b c d 4) w) := by
  have HI := Hd.mk (fun (g k : Nat) (w : World) => i_areIntervals g k a b c d w ha hb hc hd)
  rw [show (decide (IsIv a b) && decide (IsIv c d)) = true by simp [h1, h2]] at HI
  have HC := Hd.mk (fun w => i_mulI a b c d w ha hb hc hd h1.1 h1.2.1 h2.1 h2.2.1)
  generalize mlo a b c d 4 = lo at *
  generalize mhi a b c d 4 = hi at *
  clear ha hb hc hd h1 h2
  have d0 : (Wi3 w a b c d).cell? _ = some (.float .f32 a) := (Wi3.b0 w a b c d).cell 0; have d1 : (Wi3 w a b c d).cell? _ = some (.float .f32 b) := (Wi3.b0 w a b c d).cell 1; have d2 : (Wi3 w a b c d).cell? _ = some (.float .f32 c) := (Wi3.b1 w a b c d).cell 0; have d3 : (Wi3 w a b c d).cell? _ = some (.float .f32 d) := (Wi3.b1 w a b c d).cell 1; have n1 : ¬ (w.heap.size + 1 + 1 = w.heap.size) := (by omega); have n2 : ¬ (w.heap.size + 1 + 1 = w.heap.size + 1) := (by omega)
  go_enter Tryz.func25, Tryz.ntmps25
  go_wp2_with (first | (go_at_call 32; (with_reducible refine (HI.out _ _ _ (by go_simp) (by go_simp) (by go_simp) (by go_simp)).mono ?_); rintro e w9 ⟨rfl, hb⟩; have hq9 : Below (Wi3 w a b c d).heap.size (Wi3 w a b c d) w9 := bt3 hb (by (repeat (first | exact Below.refl _ _ | assumption | refine Below.drew ?_ | refine bdn ?_ | refine ba _ ?_ | refine bs0 _ _ ?_ ?_ | refine bs1 _ _ _ ?_ ?_ | refine bs2 _ _ _ _ ?_ ?_ | refine bs3 _ _ _ _ _ ?_ ?_ | refine bt3 (by assumption) ?_))); clear hb; have HK := Hd.mk ((Wi3.b2 w a b c d).below hq9 (Wi3.b2 w a b c d).lt); have r0 : w9.cell? _ = some (.float .f32 0) := HK.out.cell 0; have r1 : w9.cell? _ = some (.float .f32 0) := HK.out.cell 1; have q0 := HK.out.frozen 0; have q1 := HK.out.frozen 1; have HKa := Hd.mk ((Wi3.b0 w a b c d).below hq9 (Wi3.b0 w a b c d).lt); have HKb := Hd.mk ((Wi3.b1 w a b c d).below hq9 (Wi3.b1 w a b c d).lt); have u0 : w9.cell? _ = some (.float .f32 a) := HKa.out.cell 0; have u1 : w9.cell? _ = some (.float .f32 b) := HKa.out.cell 1; have u2 : w9.cell? _ = some (.float .f32 c) := HKb.out.cell 0; have u3 : w9.cell? _ = some (.float .f32 d) := HKb.out.cell 1) | (go_at_call 44; (with_reducible refine (HC.out _).mono ?_); rintro e w9 ⟨rfl, hb⟩; have hq9 : Below (Wi3 w a b c d).heap.size (Wi3 w a b c d) w9 := bt3 hb (by (repeat (first | exact Below.refl _ _ | assumption | refine Below.drew ?_ | refine bdn ?_ | refine ba _ ?_ | refine bs0 _ _ ?_ ?_ | refine bs1 _ _ _ ?_ ?_ | refine bs2 _ _ _ _ ?_ ?_ | refine bs3 _ _ _ _ _ ?_ ?_ | refine bt3 (by assumption) ?_))); clear hb; have HK := Hd.mk ((Wi3.b2 w a b c d).below hq9 (Wi3.b2 w a b c d).lt); have r0 : w9.cell? _ = some (.float .f32 0) := HK.out.cell 0; have r1 : w9.cell? _ = some (.float .f32 0) := HK.out.cell 1; have q0 := HK.out.frozen 0; have q1 := HK.out.frozen 1; have HKa := Hd.mk ((Wi3.b0 w a b c d).below hq9 (Wi3.b0 w a b c d).lt); have HKb := Hd.mk ((Wi3.b1 w a b c d).below hq9 (Wi3.b1 w a b c d).lt); have u0 : w9.cell? _ = some (.float .f32 a) := HKa.out.cell 0; have u1 : w9.cell? _ = some (.float .f32 b) := HKa.out.cell 1; have u2 : w9.cell? _ = some (.float .f32 c) := HKb.out.cell 0; have u3 : w9.cell? _ = some (.float .f32 d) := HKb.out.cell 1))
  refine bodyPost_ret (v := .tuple #[.agg #[.float .f32 (lo), .float .f32 (hi)], .int .i64 0]) (by simp (maxDischargeDepth := 7) [results, Tryz.results25, go_sem, *]) rfl ⟨rfl, (by have hbb : Below w.heap.size w w9 := bt3 hq9 (Wi3.bel w a b c d); (repeat (first | exact Below.refl _ _ | assumption | refine Below.drew ?_ | refine bdn ?_ | refine ba _ ?_ | refine bs0 _ _ ?_ ?_ | refine bs1 _ _ _ ?_ ?_ | refine bs2 _ _ _ _ ?_ ?_ | refine bs3 _ _ _ _ _ ?_ ?_ | refine bt3 (by assumption) ?_)))⟩
set_option maxHeartbeats 4000000 in
theorem i_MulIvN (a b c d : Nat) (w : World) (ha : W a) (hb : W b) (hc : W c) (hd : W d) (h : ¬ (IsIv a b ∧ IsIv c d)) : Calls Tryz.prog 25 #[.agg #[.float .f32 a, .float .f32 b], .agg #[.float .f32 c, .float .f32 d]] w (RetI2 1 0 0 w) := by
  have HI := Hd.mk (fun (g k : Nat) (w : World) => i_areIntervals g k a b c d w ha hb hc hd)
  rw [show (decide (IsIv a b) && decide (IsIv c d)) = false by simpa using h] at HI
  clear ha hb hc hd h
  have d0 : (Wi3 w a b c d).cell? _ = some (.float .f32 a) := (Wi3.b0 w a b c d).cell 0; have d1 : (Wi3 w a b c d).cell? _ = some (.float .f32 b) := (Wi3.b0 w a b c d).cell 1; have d2 : (Wi3 w a b c d).cell? _ = some (.float .f32 c) := (Wi3.b1 w a b c d).cell 0; have d3 : (Wi3 w a b c d).cell? _ = some (.float .f32 d) := (Wi3.b1 w a b c d).cell 1; have n1 : ¬ (w.heap.size + 1 + 1 = w.heap.size) := (by omega); have n2 : ¬ (w.heap.size + 1 + 1 = w.heap.size + 1) := (by omega)
  go_enter Tryz.func25, Tryz.ntmps25
  go_wp2_with (first | (go_at_call 32; (with_reducible refine (HI.out _ _ _ (by go_simp) (by go_simp) (by go_simp) (by go_simp)).mono ?_); rintro e w9 ⟨rfl, hb⟩; have hq9 : Below (Wi3 w a b c d).heap.size (Wi3 w a b c d) w9 := bt3 hb (by (repeat (first | exact Below.refl _ _ | assumption | refine Below.drew ?_ | refine bdn ?_ | refine ba _ ?_ | refine bs0 _ _ ?_ ?_ | refine bs1 _ _ _ ?_ ?_ | refine bs2 _ _ _ _ ?_ ?_ | refine bs3 _ _ _ _ _ ?_ ?_ | refine bt3 (by assumption) ?_))); clear hb; have HK := Hd.mk ((Wi3.b2 w a b c d).below hq9 (Wi3.b2 w a b c d).lt); have r0 : w9.cell? _ = some (.float .f32 0) := HK.out.cell 0; have r1 : w9.cell? _ = some (.float .f32 0) := HK.out.cell 1; have q0 := HK.out.frozen 0; have q1 := HK.out.frozen 1; have HKa := Hd.mk ((Wi3.b0 w a b c d).below hq9 (Wi3.b0 w a b c d).lt); have HKb := Hd.mk ((Wi3.b1 w a b c d).below hq9 (Wi3.b1 w a b c d).lt); have u0 : w9.cell? _ = some (.float .f32 a) := HKa.out.cell 0; have u1 : w9.cell? _ = some (.float .f32 b) := HKa.out.cell 1; have u2 : w9.cell? _ = some (.float .f32 c) := HKb.out.cell 0; have u3 : w9.cell? _ = some (.float .f32 d) := HKb.out.cell 1))
  refine bodyPost_ret (v := .tuple #[.agg #[.float .f32 (0), .float .f32 (0)], .int .i64 1]) (by simp (maxDischargeDepth := 7) [results, Tryz.results25, go_sem, *]) rfl ⟨rfl, (by have hbb : Below w.heap.size w w9 := bt3 hq9 (Wi3.bel w a b c d); (repeat (first | exact Below.refl _ _ | assumption | refine Below.drew ?_ | refine bdn ?_ | refine ba _ ?_ | refine bs0 _ _ ?_ ?_ | refine bs1 _ _ _ ?_ ?_ | refine bs2 _ _ _ _ ?_ ?_ | refine bs3 _ _ _ _ _ ?_ ?_ | refine bt3 (by assumption) ?_)))⟩
def mvL (a b c d : Nat) : Nat := if bothC a b c d = 0 then mlo a b c d 4 else 0
def mvH (a b c d : Nat) : Nat := if bothC a b c d = 0 then mhi a b c d 4 else 0
theorem mv_num (a b c d : Nat) : ¬ nan (mvL a b c d) ∧ ¬ nan (mvH a b c d) := by
  unfold mvL mvH
  split
  · exact ⟨(mlo_num a b c d 4).2.1, (mhi_num a b c d 4).2.1⟩
  · decide
theorem s_MulIv (a b c d : Nat) (w : World) (ha : W a) (hb : W b) (hc : W c) (hd : W d) : Calls Tryz.prog 24 #[.agg #[.float .f32 a, .float .f32 b], .agg #[.float .f32 c, .float .f32 d]] w (RetI2 (bothC a b c d) (mvL a b c d) (mvH a b c d) w) := by
  unfold mvL mvH
  by_cases h : IsIv a b ∧ IsIv c d
  · rw [both_of h, if_pos rfl, if_pos rfl]; exact s_MulIvG a b c d w ha hb hc hd h.1 h.2
  · have hb0 := both_no h
    rw [hb0, if_neg (by decide), if_neg (by decide)]; exact s_MulIvN a b c d w ha hb hc hd hb0
theorem i_MulIv (a b c d : Nat) (w : World) (ha : W a) (hb : W b) (hc : W c) (hd : W d) : Calls Tryz.prog 25 #[.agg #[.float .f32 a, .float .f32 b], .agg #[.float .f32 c, .float .f32 d]] w (RetI2 (bothC a b c d) (mvL a b c d) (mvH a b c d) w) := by
  unfold mvL mvH
  by_cases h : IsIv a b ∧ IsIv c d
  · rw [both_of h, if_pos rfl, if_pos rfl]; exact i_MulIvG a b c d w ha hb hc hd h.1 h.2
  · rw [both_no h, if_neg (by decide), if_neg (by decide)]; exact i_MulIvN a b c d w ha hb hc hd h
end Go.Proofs.YtmiafbbndonpaaaGreat
