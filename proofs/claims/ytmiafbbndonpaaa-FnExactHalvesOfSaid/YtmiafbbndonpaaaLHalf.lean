/- For every interval the program's HalvesOf answers as the reference's does. -/
import Derived.Test.YtmiafbbndonpaaaGl
import Derived.Test.YtmiafbbndonpaaaGf
set_option linter.unusedVariables false
set_option linter.unusedSimpArgs false
namespace Go.Proofs.Ytmiafbbndonpaaa
open Go.ChangeShapes Go.WideShapes Go.ChangeAt Go.RowKit Num Flt
theorem two_new (w1 : World) (x y z : Nat) : Blk ((w1.alloc (Obj.cells #[.float .f32 x, .float .f32 y] 51)).alloc (Obj.cells #[.float .f32 y, .float .f32 z] 51)) w1.heap.size 51 #[.float .f32 x, .float .f32 y] ∧ Blk ((w1.alloc (Obj.cells #[.float .f32 x, .float .f32 y] 51)).alloc (Obj.cells #[.float .f32 y, .float .f32 z] 51)) (w1.heap.size + 1) 51 #[.float .f32 y, .float .f32 z] := by
  refine ⟨(Blk.new _ _ _).alloc _, ?_⟩
  have := Blk.new (w1.alloc (Obj.cells #[.float .f32 x, .float .f32 y] 51)) 51 #[.float .f32 y, .float .f32 z]
  simpa using this
structure LvH (w wx : World) (a b : Nat) : Prop where
  bel : Below w.heap.size w wx
  b0 : Blk wx w.heap.size 44 #[.float .f32 a, .float .f32 b]
theorem LvH.below {w wb w' : World} {a b : Nat} (h : LvH w wb a b) (hb : Below wb.heap.size wb w') : LvH w w' a b := ⟨bt3 hb h.bel, h.b0.below hb h.b0.lt⟩
set_option maxHeartbeats 4000000 in
theorem HalfOf.walk (a b : Nat) (w : World) (ha : W a) (hb : W b) :
    Calls Try.prog 11 #[.agg #[.float .f32 a, .float .f32 b]] w fun e w' => e = .returned (.bool true) ∧ Below w.heap.size w w' := by
  have HN := Hd.mk (hv_num a b)
  have HC := Hd.mk (fun w => s_Halves a b w ha hb)
  have HD := Hd.mk (fun w => i_Halves a b w ha hb)
  unfold RetHV at HC HD
  generalize hv1 a b = x at *
  generalize hv2 a b = y at *
  generalize hv3 a b = z at *
  generalize hvC a b = c at *
  have HL : Hd (LvH w (w.alloc (Obj.cells #[.float .f32 a, .float .f32 b] 44)) a b) := ⟨⟨ba _ (Below.refl _ _), Blk.new _ _ _⟩⟩
  clear ha hb
  go_enter Try.func11, Try.ntmps11
  go_wp2_with (first | (go_at_call 46; (with_reducible refine (HC.out _).mono ?_); rintro e w1 ⟨rfl, hb⟩; replace HL := Hd.mk (HL.out.below hb); have D1 := Hd.mk (two_new w1 x y z); have HL1 : Hd (LvH w ((w1.alloc (Obj.cells #[.float .f32 x, .float .f32 y] 51)).alloc (Obj.cells #[.float .f32 y, .float .f32 z] 51)) a b) := ⟨HL.out.below (ba _ (ba _ (Below.refl _ _)))⟩; have a0 : ((w1.alloc (Obj.cells #[.float .f32 x, .float .f32 y] 51)).alloc (Obj.cells #[.float .f32 y, .float .f32 z] 51)).cell? _ = some (.float .f32 a) := HL1.out.b0.cell 0; have a1 : ((w1.alloc (Obj.cells #[.float .f32 x, .float .f32 y] 51)).alloc (Obj.cells #[.float .f32 y, .float .f32 z] 51)).cell? _ = some (.float .f32 b) := HL1.out.b0.cell 1; clear hb) | (go_at_call 30; have hno := D1; clear hno; (with_reducible refine (l_toInterval _ _ _).mono ?_); rintro e w2 ⟨rfl, hb⟩; have HL2 := Hd.mk (HL1.out.below hb); have D2 := Hd.mk (And.intro (D1.out.1.below hb D1.out.1.lt) (D1.out.2.below hb D1.out.2.lt)); clear hb) | (go_at_call 30; (with_reducible refine (l_toInterval _ _ _).mono ?_); rintro e w0 ⟨rfl, hb⟩; replace HL := Hd.mk (HL.out.below hb); clear hb) | (go_at_call 47; (with_reducible refine (HD.out _).mono ?_); rintro e w3 ⟨rfl, hb⟩; have HB3 := Hd.mk (bt3 hb HL2.out.bel); have hb4 : Below w3.heap.size w3 ((w3.alloc (Obj.cells #[.float .f32 x, .float .f32 y] 51)).alloc (Obj.cells #[.float .f32 y, .float .f32 z] 51)) := (ba _ (ba _ (Below.refl _ _))); have D3 := Hd.mk (And.intro ((D2.out.1.below hb D2.out.1.lt).below hb4 (D2.out.1.below hb D2.out.1.lt).lt) ((D2.out.2.below hb D2.out.2.lt).below hb4 (D2.out.2.below hb D2.out.2.lt).lt)); have D4 := Hd.mk (two_new w3 x y z); have HB4 := Hd.mk (bt3 hb4 HB3.out); have a0 : ((w3.alloc (Obj.cells #[.float .f32 x, .float .f32 y] 51)).alloc (Obj.cells #[.float .f32 y, .float .f32 z] 51)).cell? _ = some (.float .f32 x) := D3.out.1.cell 0; have a1 : ((w3.alloc (Obj.cells #[.float .f32 x, .float .f32 y] 51)).alloc (Obj.cells #[.float .f32 y, .float .f32 z] 51)).cell? _ = some (.float .f32 y) := D3.out.1.cell 1; have a2 : ((w3.alloc (Obj.cells #[.float .f32 x, .float .f32 y] 51)).alloc (Obj.cells #[.float .f32 y, .float .f32 z] 51)).cell? _ = some (.float .f32 y) := D3.out.2.cell 0; have a3 : ((w3.alloc (Obj.cells #[.float .f32 x, .float .f32 y] 51)).alloc (Obj.cells #[.float .f32 y, .float .f32 z] 51)).cell? _ = some (.float .f32 z) := D3.out.2.cell 1; have b0 : ((w3.alloc (Obj.cells #[.float .f32 x, .float .f32 y] 51)).alloc (Obj.cells #[.float .f32 y, .float .f32 z] 51)).cell? _ = some (.float .f32 x) := D4.out.1.cell 0; have b1 : ((w3.alloc (Obj.cells #[.float .f32 x, .float .f32 y] 51)).alloc (Obj.cells #[.float .f32 y, .float .f32 z] 51)).cell? _ = some (.float .f32 y) := D4.out.1.cell 1; have b2 : ((w3.alloc (Obj.cells #[.float .f32 x, .float .f32 y] 51)).alloc (Obj.cells #[.float .f32 y, .float .f32 z] 51)).cell? _ = some (.float .f32 y) := D4.out.2.cell 0; have b3 : ((w3.alloc (Obj.cells #[.float .f32 x, .float .f32 y] 51)).alloc (Obj.cells #[.float .f32 y, .float .f32 z] 51)).cell? _ = some (.float .f32 z) := D4.out.2.cell 1; clear hb hb4) | (go_at_call 48; have hno := D5; clear hno; (with_reducible refine (l_eqInterval y z _ HN.out.2.1 HN.out.2.2).mono ?_); rintro e w5 ⟨rfl, hb⟩; have HB6 : Hd (Below w.heap.size w w5) := ⟨bt3 hb HB5.out⟩; clear hb) | (go_at_call 48; have hno := D4; clear hno; (with_reducible refine (l_eqInterval x y _ HN.out.1 HN.out.2.1).mono ?_); rintro e w4 ⟨rfl, hb⟩; have D5 := Hd.mk (And.intro (D3.out.2.below hb D3.out.2.lt) (D4.out.2.below hb D4.out.2.lt)); have a2 : w4.cell? _ = some (.float .f32 y) := D5.out.1.cell 0; have a3 : w4.cell? _ = some (.float .f32 z) := D5.out.1.cell 1; have b2 : w4.cell? _ = some (.float .f32 y) := D5.out.2.cell 0; have b3 : w4.cell? _ = some (.float .f32 z) := D5.out.2.cell 1; have HB5 := Hd.mk (bt3 hb HB4.out); clear hb))
  go_ret
  exact ⟨rfl, HB6.out⟩
set_option maxRecDepth 100000 in
theorem HalfOf.lifted (os : Os) (started : os.Started) (H : Type) (enc : TypeId × Value → H) :
    ReturnsInHanded {} Try.checked os 11 .any (Rows.fnExactHalvesOfSpec.pre6 enc Try.prog Try.f11 Rows.fnExactHalvesOfRow.domain false) (Rows.fnExactHalvesOfSpec.post enc Try.prog Try.f11 false true false false) := by
  refine returnsInHanded_of_change (C := Try.checked) rowOwn started (by kernel_rfl) Try.func11
    (ChangeSpec.witness6 (enc := enc) (C := Try.checked) false ⟨#[], #[.agg #[.float .f32 0, .float .f32 0]], []⟩ 8 (by kernel_rfl) (by kernel_rfl) (by kernel_rfl) (by kernel_rfl)) ?_
  intro W base args ds gs before hval0 hW hcnd _
  have hval : ∀ (j : Nat) t v, Try.f11.params[j]? = some t → args[j]? = some v → Value.okWide Try.prog W .any base t v := hval0
  have hW' := hW
  obtain ⟨p, q, hA0, hV, rfl, hfz, hnd⟩ := hW
  have hA : DataW.TrodAll enc Try.prog W 0 (fun _ => true) true Try.f11.params.toList args.toList ds p := hA0
  rw [Try.params11] at hA hval
  obtain ⟨v0, vs0, d0, ds0, p0, q0, hv0, rfl, rfl, h0, r0⟩ := trodAll_cons hA
  obtain ⟨rfl, rfl, rfl⟩ := trodAll_nil r0
  obtain rfl : args = #[v0] := by cases args; simp_all
  obtain ⟨rfl, rfl⟩ := trodVars_none hV
  obtain ⟨a, b, rfl, rfl, rfl, wa, wb⟩ := open_f2 Try.underlying44 (by kernel_rfl) (by kernel_rfl) Try.underlying28 Try.underlying28 (hval 0 44 v0 rfl rfl) h0
  clear hA0 hval0
  refine (HalfOf.walk a b W (Flt.W_of_wf wa) (Flt.W_of_wf wb)).mono fun e W' ⟨he, hg⟩ => ?_
  subst he
  exact ⟨_, rfl, post_law laidOut (by kernel_rfl) (by kernel_rfl) Try.underlying4 rfl hW' rfl hg⟩
theorem HalfOf.k10 : (Rows.fnExactHalvesOfRow.inPlace == Try.prog.inPlace 11) = true := by kernel_rfl
theorem HalfOf.k11 : (Rows.fnExactHalvesOfRow.unfollowed == Try.prog.unfollowed 11) = true := by kernel_rfl
theorem HalfOf.k12 : (Rows.fnExactHalvesOfRow.recurses == Try.prog.recurses 11) = true := by kernel_rfl
theorem HalfOf.k13 : (Rows.fnExactHalvesOfRow.named == Try.prog.varsNamed 11) = true := by kernel_rfl
theorem HalfOf.closed : joinedFacts Try.prog 11 Try.f11 Rows.fnExactHalvesOfSpec Rows.fnExactHalvesOfRow = true := by
  unfold joinedFacts
  simp only [Bool.and_eq_true]
  exact ⟨⟨⟨⟨⟨⟨⟨⟨⟨⟨⟨⟨⟨⟨⟨⟨⟨⟨⟨⟨⟨⟨⟨⟨⟨⟨⟨⟨⟨⟨⟨by kernel_rfl, laidOut⟩, fact_maps⟩, by kernel_rfl⟩, by kernel_rfl⟩, by kernel_rfl⟩, by kernel_rfl⟩, by kernel_rfl⟩, by kernel_rfl⟩, HalfOf.k10⟩, HalfOf.k11⟩, HalfOf.k12⟩, HalfOf.k13⟩, by kernel_rfl⟩, by kernel_rfl⟩, by kernel_rfl⟩, by kernel_rfl⟩, by kernel_rfl⟩, by kernel_rfl⟩, by kernel_rfl⟩, by kernel_rfl⟩, by kernel_rfl⟩, by kernel_rfl⟩, by kernel_rfl⟩, fact_stops⟩, fact_enter⟩, lifts_eq rfl⟩, by kernel_rfl⟩, by kernel_rfl⟩, by kernel_rfl⟩, by kernel_rfl⟩, by kernel_rfl⟩
theorem HalfOf.holds : Rows.FnExactHalvesOfSaid :=
  OpenClaim.holds_of_wide 11 Try.f11 rfl rfl rfl rfl rfl rfl rfl ⟨rfl, rfl, rfl, rfl, rfl⟩ rfl rfl rfl rfl rfl (by kernel_rfl) Try.func11 HalfOf.closed
    (of_decide_eq_true (by kernel_rfl)) (by unfold Func.isWrapper; first | (rw [if_pos (by decide +kernel)]; kernel_rfl) | (rw [if_neg (by decide +kernel)]; exact ⟨rfl, rfl⟩))
    (fun os started H enc _ => HalfOf.lifted os started H enc)
#print axioms HalfOf.holds
end Go.Proofs.Ytmiafbbndonpaaa
