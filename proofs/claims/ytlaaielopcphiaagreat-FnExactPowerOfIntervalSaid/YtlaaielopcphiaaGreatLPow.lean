/- For every interval and every whole number the program's PowerOfInterval answers as the reference's does. -/
import Derived.Test.YtlaaielopcphiaaGreatW7
import Derived.Test.YtlaaielopcphiaaGreatGa
import Derived.Test.YtlaaielopcphiaaGreatGf
set_option linter.unusedVariables false
set_option linter.unusedSimpArgs false
namespace Go.Proofs.YtlaaielopcphiaaGreat
open Go.ChangeShapes Go.WideShapes Go.ChangeAt Go.RowKit Num Flt
/-- the place of the statement's interval -/
structure LqS (w wx : World) (a b : Nat) : Prop where
  bel : Below w.heap.size w wx
  b0 : Blk wx w.heap.size 41 #[.float .f32 a, .float .f32 b]
theorem LqS.below {w wx w' : World} {a b : Nat} (h : LqS w wx a b) (hb : Below wx.heap.size wx w') : LqS w w' a b :=
  ⟨bt3 hb h.bel, h.b0.below hb h.b0.lt⟩
theorem LqS.start (w : World) (a b : Nat) : LqS w (w.alloc (Obj.cells #[.float .f32 a, .float .f32 b] 41)) a b :=
  ⟨ba _ (Below.refl _ _), Blk.new _ _ _⟩
set_option maxHeartbeats 4000000 in
theorem PowE.walk (a b : Nat) (z : Int) (w : World) (ha : W a) (hb : W b) :
    Calls Tryz.prog 4 #[.agg #[.float .f32 a, .float .f32 b], .int .i64 z] w fun e w' => e = .returned (.bool true) ∧ Below w.heap.size w w' := by
  have HT := Hd.mk (LqS.start w a b)
  have HN := Hd.mk (px_num (z := z) ha hb)
  have HS := Hd.mk (fun w => s_PowX a b z w ha hb)
  have HI := Hd.mk (fun w => i_PowX a b z w ha hb)
  generalize pxL a b z = p at *
  generalize pxH a b z = q at *
  generalize pxC a b z = C at *
  clear ha hb
  go_enter Tryz.func4, Tryz.ntmps4
  have c0 : (w.alloc (Obj.cells #[.float .f32 a, .float .f32 b] 41)).cell? _ = some (.float .f32 a) := HT.out.b0.cell 0; have c1 : (w.alloc (Obj.cells #[.float .f32 a, .float .f32 b] 41)).cell? _ = some (.float .f32 b) := HT.out.b0.cell 1
  go_wp2_with (first | (go_at_call 15; have hno := HP; clear hno; (with_reducible refine (l_toInterval a b _).mono ?_); rintro e3 w3 ⟨rfl, hb⟩; have hb := bt3 hb (show Below (w2.alloc (Obj.cells #[.float .f32 p, .float .f32 q] 42)).heap.size (w2.alloc (Obj.cells #[.float .f32 p, .float .f32 q] 42)) _ by (repeat (first | exact Below.refl _ _ | assumption | refine Below.drew ?_ | refine bdn ?_ | refine ba _ ?_ | refine bs0 _ _ ?_ ?_ | refine bs1 _ _ _ ?_ ?_ | refine bs2 _ _ _ _ ?_ ?_ | refine bs3 _ _ _ _ _ ?_ ?_ | refine bt3 (by assumption) ?_))); replace HT := Hd.mk (HT.out.below hb); replace HP := Hd.mk (HP.out.below hb HP.out.lt); clear hb) | (go_at_call 15; (with_reducible refine (l_toInterval a b _).mono ?_); rintro e1 w1 ⟨rfl, hb⟩; replace HT := Hd.mk (HT.out.below (bt3 hb (by (repeat (first | exact Below.refl _ _ | assumption | refine Below.drew ?_ | refine bdn ?_ | refine ba _ ?_ | refine bs0 _ _ ?_ ?_ | refine bs1 _ _ _ ?_ ?_ | refine bs2 _ _ _ _ ?_ ?_ | refine bs3 _ _ _ _ _ ?_ ?_ | refine bt3 (by assumption) ?_))))); clear hb) | (go_at_call 14; (with_reducible refine (HS.out _).mono ?_); rintro e2 w2 ⟨rfl, hb⟩; replace HT := Hd.mk ((HT.out.below (bt3 hb (by (repeat (first | exact Below.refl _ _ | assumption | refine Below.drew ?_ | refine bdn ?_ | refine ba _ ?_ | refine bs0 _ _ ?_ ?_ | refine bs1 _ _ _ ?_ ?_ | refine bs2 _ _ _ _ ?_ ?_ | refine bs3 _ _ _ _ _ ?_ ?_ | refine bt3 (by assumption) ?_))))).below (ba (Obj.cells #[.float .f32 p, .float .f32 q] 42) (Below.refl _ _))); have HP := Hd.mk (Blk.new w2 42 #[.float .f32 p, .float .f32 q]); have c0 : (w2.alloc (Obj.cells #[.float .f32 p, .float .f32 q] 42)).cell? _ = some (.float .f32 a) := HT.out.b0.cell 0; have c1 : (w2.alloc (Obj.cells #[.float .f32 p, .float .f32 q] 42)).cell? _ = some (.float .f32 b) := HT.out.b0.cell 1; clear hb) | (go_at_call 16; (with_reducible refine (HI.out _).mono ?_); rintro e4 w4 ⟨rfl, hb⟩; have hb := bt3 hb (show Below w3.heap.size w3 _ by (repeat (first | exact Below.refl _ _ | assumption | refine Below.drew ?_ | refine bdn ?_ | refine ba _ ?_ | refine bs0 _ _ ?_ ?_ | refine bs1 _ _ _ ?_ ?_ | refine bs2 _ _ _ _ ?_ ?_ | refine bs3 _ _ _ _ _ ?_ ?_ | refine bt3 (by assumption) ?_))); replace HT := Hd.mk (HT.out.below hb); replace HP := Hd.mk ((HP.out.below hb HP.out.lt).alloc (Obj.cells #[.float .f32 p, .float .f32 q] 42)); replace HT := Hd.mk (HT.out.below (ba (Obj.cells #[.float .f32 p, .float .f32 q] 42) (Below.refl _ _))); have k0 : (w4.alloc (Obj.cells #[.float .f32 p, .float .f32 q] 42)).cell? _ = some (.float .f32 p) := HP.out.cell 0; have k1 : (w4.alloc (Obj.cells #[.float .f32 p, .float .f32 q] 42)).cell? _ = some (.float .f32 q) := HP.out.cell 1; clear hb) | (go_at_call 17; (with_reducible refine (l_eqInterval p q _ HN.out.1 HN.out.2).mono ?_); rintro e5 w5 ⟨rfl, hb⟩; replace HT := Hd.mk (HT.out.below (bt3 hb (by (repeat (first | exact Below.refl _ _ | assumption | refine Below.drew ?_ | refine bdn ?_ | refine ba _ ?_ | refine bs0 _ _ ?_ ?_ | refine bs1 _ _ _ ?_ ?_ | refine bs2 _ _ _ _ ?_ ?_ | refine bs3 _ _ _ _ _ ?_ ?_ | refine bt3 (by assumption) ?_))))); clear hb))
  go_ret
  exact ⟨rfl, bt3 (by (repeat (first | exact Below.refl _ _ | assumption | refine Below.drew ?_ | refine bdn ?_ | refine ba _ ?_ | refine bs0 _ _ ?_ ?_ | refine bs1 _ _ _ ?_ ?_ | refine bs2 _ _ _ _ ?_ ?_ | refine bs3 _ _ _ _ _ ?_ ?_ | refine bt3 (by assumption) ?_))) HT.out.bel⟩
set_option maxRecDepth 100000 in
theorem PowE.lifted (os : Os) (started : os.Started) (H : Type) (enc : TypeId × Value → H) :
    ReturnsInHanded {} Tryz.checked os 4 .any (Rows.fnExactPowerOfIntervalSpec.pre6 enc Tryz.prog Tryz.f4 Rows.fnExactPowerOfIntervalRow.domain false) (Rows.fnExactPowerOfIntervalSpec.post enc Tryz.prog Tryz.f4 false true false false) := by
  refine returnsInHanded_of_change (C := Tryz.checked) rowOwn started (by kernel_rfl) Tryz.func4
    (ChangeSpec.witness6 (enc := enc) (C := Tryz.checked) false ⟨#[], #[.agg #[.float .f32 0, .float .f32 0], .int .i64 0], []⟩ 8 (by kernel_rfl) (by kernel_rfl) (by kernel_rfl) (by kernel_rfl)) ?_
  intro W base args ds gs before hval0 hW hcnd _
  have hval : ∀ (j : Nat) t v, Tryz.f4.params[j]? = some t → args[j]? = some v → Value.okWide Tryz.prog W .any base t v := hval0
  have hW' := hW
  obtain ⟨p, q, hA0, hV, rfl, hfz, hnd⟩ := hW
  have hA : DataW.TrodAll enc Tryz.prog W 0 (fun _ => true) true Tryz.f4.params.toList args.toList ds p := hA0
  rw [Tryz.params4] at hA hval
  obtain ⟨v0, vs0, d0, ds0, p0, q0, hv0, rfl, rfl, h0, r0⟩ := trodAll_cons hA
  obtain ⟨v1, vs1, d1, ds1, p1, q1, hv1, rfl, rfl, h1, r1⟩ := trodAll_cons r0
  subst hv1
  obtain ⟨rfl, rfl, rfl⟩ := trodAll_nil r1
  obtain rfl : args = #[v0, v1] := by cases args; simp_all
  obtain ⟨rfl, rfl⟩ := trodVars_none hV
  obtain ⟨a, b, rfl, rfl, rfl, wa, wb⟩ := open_f2 Tryz.underlying41 (by kernel_rfl) (by kernel_rfl) Tryz.underlying28 Tryz.underlying28 (hval 0 41 v0 rfl rfl) h0
  obtain ⟨z, rfl, rfl, rfl, wz⟩ := open_int Tryz.underlying2 (hval 1 2 v1 rfl rfl) h1
  clear hA0 hval0
  refine (PowE.walk a b z W (Flt.W_of_wf wa) (Flt.W_of_wf wb)).mono fun e W' ⟨he, hg⟩ => ?_
  subst he
  exact ⟨_, rfl, post_law laidOut (by kernel_rfl) (by kernel_rfl) Tryz.underlying4 rfl hW' rfl hg⟩
theorem PowE.k10 : (Rows.fnExactPowerOfIntervalRow.inPlace == Tryz.prog.inPlace 4) = true := by kernel_rfl
theorem PowE.k11 : (Rows.fnExactPowerOfIntervalRow.unfollowed == Tryz.prog.unfollowed 4) = true := by kernel_rfl
theorem PowE.k12 : (Rows.fnExactPowerOfIntervalRow.recurses == Tryz.prog.recurses 4) = true := by kernel_rfl
theorem PowE.k13 : (Rows.fnExactPowerOfIntervalRow.named == Tryz.prog.varsNamed 4) = true := by kernel_rfl
theorem PowE.closed : joinedFacts Tryz.prog 4 Tryz.f4 Rows.fnExactPowerOfIntervalSpec Rows.fnExactPowerOfIntervalRow = true := by
  unfold joinedFacts
  simp only [Bool.and_eq_true]
  exact ⟨⟨⟨⟨⟨⟨⟨⟨⟨⟨⟨⟨⟨⟨⟨⟨⟨⟨⟨⟨⟨⟨⟨⟨⟨⟨⟨⟨⟨⟨⟨by kernel_rfl, laidOut⟩, fact_maps⟩, by kernel_rfl⟩, by kernel_rfl⟩, by kernel_rfl⟩, by kernel_rfl⟩, by kernel_rfl⟩, by kernel_rfl⟩, PowE.k10⟩, PowE.k11⟩, PowE.k12⟩, PowE.k13⟩, by kernel_rfl⟩, by kernel_rfl⟩, by kernel_rfl⟩, by kernel_rfl⟩, by kernel_rfl⟩, by kernel_rfl⟩, by kernel_rfl⟩, by kernel_rfl⟩, by kernel_rfl⟩, by kernel_rfl⟩, by kernel_rfl⟩, fact_stops⟩, fact_enter⟩, lifts_eq rfl⟩, by kernel_rfl⟩, by kernel_rfl⟩, by kernel_rfl⟩, by kernel_rfl⟩, by kernel_rfl⟩
theorem PowE.holds : Rows.FnExactPowerOfIntervalSaid :=
  OpenClaim.holds_of_wide 4 Tryz.f4 rfl rfl rfl rfl rfl rfl rfl ⟨rfl, rfl, rfl, rfl, rfl⟩ rfl rfl rfl rfl rfl (by kernel_rfl) Tryz.func4 PowE.closed
    (of_decide_eq_true (by kernel_rfl)) (by unfold Func.isWrapper; first | (rw [if_pos (by decide +kernel)]; kernel_rfl) | (rw [if_neg (by decide +kernel)]; exact ⟨rfl, rfl⟩))
    (fun os started H enc _ => PowE.lifted os started H enc)
#print axioms PowE.holds
end Go.Proofs.YtlaaielopcphiaaGreat
