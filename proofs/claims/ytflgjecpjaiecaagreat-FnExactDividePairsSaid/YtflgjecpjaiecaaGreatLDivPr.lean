/- For every two pairs the program's DividePairs answers as the reference's does. -/
import Derived.Test.YtflgjecpjaiecaaGreatQ4
import Derived.Test.YtflgjecpjaiecaaGreatGf
set_option linter.unusedVariables false
set_option linter.unusedSimpArgs false
namespace Go.Proofs.YtflgjecpjaiecaaGreat
open Go.ChangeShapes Go.WideShapes Go.ChangeAt Go.RowKit Num Flt
set_option maxHeartbeats 4000000 in
theorem DivPrE.walk (a b c d : Nat) (w : World) (ha : W a) (hb : W b) (hc : W c) (hd : W d) :
    Calls Tryz.prog 4 #[.agg #[.float .f32 a, .float .f32 b], .agg #[.float .f32 c, .float .f32 d]] w fun e w' => e = .returned (.bool true) ∧ Below w.heap.size w w' := by
  have HN := Hd.mk (dp_num a b c d)
  have HCs := Hd.mk (fun w => s_DivPairs a b c d w ha hb hc hd)
  have HCi := Hd.mk (fun w => i_DivPairs a b c d w ha hb hc hd)
  unfold RetX2 at HCs HCi
  generalize DPh a b c d = xx at *
  generalize DPl a b c d = yy at *
  generalize DPc a b c d = kk at *
  clear ha hb hc hd
  go_enter Tryz.func4, Tryz.ntmps4
  go_upto_region 1 with fail
  have hB0 : Below w.heap.size w ((w.alloc (Obj.cells #[.float .f32 a, .float .f32 b] 29)).alloc (Obj.cells #[.float .f32 c, .float .f32 d] 29)) := ((Below.refl _ _).alloc (by simp) _).alloc (by simp) _
  have c0 : (((w.alloc (Obj.cells #[.float .f32 a, .float .f32 b] 29)).alloc (Obj.cells #[.float .f32 c, .float .f32 d] 29))).cell? ⟨w.heap.size, 0, none⟩ = some (.float .f32 a) := by go_simp
  have c1 : (((w.alloc (Obj.cells #[.float .f32 a, .float .f32 b] 29)).alloc (Obj.cells #[.float .f32 c, .float .f32 d] 29))).cell? ⟨w.heap.size, 1, none⟩ = some (.float .f32 b) := by go_simp
  have c2 : (((w.alloc (Obj.cells #[.float .f32 a, .float .f32 b] 29)).alloc (Obj.cells #[.float .f32 c, .float .f32 d] 29))).cell? ⟨w.heap.size + 1, 0, none⟩ = some (.float .f32 c) := by go_simp
  have c3 : (((w.alloc (Obj.cells #[.float .f32 a, .float .f32 b] 29)).alloc (Obj.cells #[.float .f32 c, .float .f32 d] 29))).cell? ⟨w.heap.size + 1, 1, none⟩ = some (.float .f32 d) := by go_simp
  generalize ((w.alloc (Obj.cells #[.float .f32 a, .float .f32 b] 29)).alloc (Obj.cells #[.float .f32 c, .float .f32 d] 29)) = W0 at *
  go_cut [5, 6] (fun s5 s6 wx => Cut1 W0 xx yy kk s5 s6 wx)
  case first =>
    go_region_held3 (fun w' => w'.cell? ⟨w.heap.size, 0, none⟩ = some (.float .f32 a) ∧ w'.cell? ⟨w.heap.size, 1, none⟩ = some (.float .f32 b) ∧ w'.cell? ⟨w.heap.size + 1, 0, none⟩ = some (.float .f32 c) ∧ w'.cell? ⟨w.heap.size + 1, 1, none⟩ = some (.float .f32 d)) ((refine keep4 (W := W0) ?_ ⟨c0, c1, c2, c3⟩; (repeat (first | exact Below.refl _ _ | refine Below.drew ?_ | refine below_drewN _ ?_ | refine ba _ ?_ | refine bs0 _ _ ?_ ?_ | refine bs1 _ _ _ ?_ ?_ | refine bs2 _ _ _ _ ?_ ?_ | refine bs3 _ _ _ _ _ ?_ ?_ | refine bt3 (by assumption) ?_))))
      (first | (go_at_call 15; (with_reducible refine (l_toPair _ _ _).mono ?_); rintro e w' ⟨rfl, hb⟩; (try replace hb := bt3 hb (by assumption)); obtain ⟨hc, hf, hz, hy⟩ := bcell hb; have hs := hb.size; (try simp at hs); (try have h0 : w.heap.size < w'.heap.size := by omega); (try have h1 : w.heap.size + 1 < w'.heap.size := by omega); (try have h2 : w.heap.size + 1 + 1 < w'.heap.size := by omega); clear hs) | (go_at_call 14; (with_reducible refine (HCs.out _).mono ?_); rintro e w' ⟨rfl, hb⟩; (try replace hb := bt3 hb (by assumption)); obtain ⟨hc, hf, hz, hy⟩ := bcell hb; have hs := hb.size; (try simp at hs); (try have h0 : w.heap.size < w'.heap.size := by omega); (try have h1 : w.heap.size + 1 < w'.heap.size := by omega); (try have h2 : w.heap.size + 1 + 1 < w'.heap.size := by omega); clear hs))
    all_goals
      go_wp2_with fail
      go_meet
      refine ⟨rfl, _, rfl, ?_, ?_, ?_⟩
      · go_simp
      · go_simp
      · (repeat (first | exact Below.refl _ _ | refine Below.drew ?_ | refine below_drewN _ ?_ | refine ba _ ?_ | refine bs0 _ _ ?_ ?_ | refine bs1 _ _ _ ?_ ?_ | refine bs2 _ _ _ _ ?_ ?_ | refine bs3 _ _ _ _ _ ?_ ?_ | refine bt3 (by assumption) ?_))
  case rest =>
    obtain ⟨rfl, g, rfl, g0, g1, hW⟩ := hcut
    have d0 := cb hW c0
    have d1 := cb hW c1
    have d2 := cb hW c2
    have d3 := cb hW c3
    go_upto_region 2 with fail
    go_cut [7, 8] (fun s7 s8 wx => Cut1 wc xx yy kk s7 s8 wx)
    case first =>
      go_region_held3 (fun w' => w'.cell? ⟨w.heap.size, 0, none⟩ = some (.float .f32 a) ∧ w'.cell? ⟨w.heap.size, 1, none⟩ = some (.float .f32 b) ∧ w'.cell? ⟨w.heap.size + 1, 0, none⟩ = some (.float .f32 c) ∧ w'.cell? ⟨w.heap.size + 1, 1, none⟩ = some (.float .f32 d)) ((refine keep4 (W := wc) ?_ ⟨d0, d1, d2, d3⟩; (repeat (first | exact Below.refl _ _ | refine Below.drew ?_ | refine below_drewN _ ?_ | refine ba _ ?_ | refine bs0 _ _ ?_ ?_ | refine bs1 _ _ _ ?_ ?_ | refine bs2 _ _ _ _ ?_ ?_ | refine bs3 _ _ _ _ _ ?_ ?_ | refine bt3 (by assumption) ?_))))
        (first | (go_at_call 15; (with_reducible refine (l_toPair _ _ _).mono ?_); rintro e w' ⟨rfl, hb⟩; (try replace hb := bt3 hb (by assumption)); obtain ⟨hc, hf, hz, hy⟩ := bcell hb; have hs := hb.size; (try simp at hs); (try have h0 : w.heap.size < w'.heap.size := by omega); (try have h1 : w.heap.size + 1 < w'.heap.size := by omega); (try have h2 : w.heap.size + 1 + 1 < w'.heap.size := by omega); clear hs) | (go_at_call 16; (with_reducible refine (HCi.out _).mono ?_); rintro e w' ⟨rfl, hb⟩; (try replace hb := bt3 hb (by assumption)); obtain ⟨hc, hf, hz, hy⟩ := bcell hb; have hs := hb.size; (try simp at hs); (try have h0 : w.heap.size < w'.heap.size := by omega); (try have h1 : w.heap.size + 1 < w'.heap.size := by omega); (try have h2 : w.heap.size + 1 + 1 < w'.heap.size := by omega); clear hs))
      all_goals
        go_wp2_with fail
        go_meet
        refine ⟨rfl, _, rfl, ?_, ?_, ?_⟩
        · go_simp
        · go_simp
        · (repeat (first | exact Below.refl _ _ | refine Below.drew ?_ | refine below_drewN _ ?_ | refine ba _ ?_ | refine bs0 _ _ ?_ ?_ | refine bs1 _ _ _ ?_ ?_ | refine bs2 _ _ _ _ ?_ ?_ | refine bs3 _ _ _ _ _ ?_ ?_ | refine bt3 (by assumption) ?_))
    case rest =>
      obtain ⟨rfl, k, rfl, k0, k1, hW2⟩ := hcut
      have e0 := cb hW2 g0
      have e1 := cb hW2 g1
      go_wp2_with (go_at_call 17; (with_reducible refine (l_eqPair _ _ _ HN.out.1 HN.out.2).mono ?_); rintro e w' ⟨rfl, hb⟩)
      go_ret
      refine ⟨rfl, ?_⟩
      exact bt3' (bt3' (bt3' hB0 hW) hW2) hb
set_option maxRecDepth 100000 in
theorem DivPrE.lifted (os : Os) (started : os.Started) (H : Type) (enc : TypeId × Value → H) :
    ReturnsInHanded {} Tryz.checked os 4 .any (Rows.fnExactDividePairsSpec.pre6 enc Tryz.prog Tryz.f4 Rows.fnExactDividePairsRow.domain false) (Rows.fnExactDividePairsSpec.post enc Tryz.prog Tryz.f4 false true false false) := by
  refine returnsInHanded_of_change (C := Tryz.checked) rowOwn started (by kernel_rfl) Tryz.func4
    (ChangeSpec.witness6 (enc := enc) (C := Tryz.checked) false ⟨#[], #[.agg #[.float .f32 0, .float .f32 0], .agg #[.float .f32 0, .float .f32 0]], []⟩ 8 (by kernel_rfl) (by kernel_rfl) (by kernel_rfl) (by kernel_rfl)) ?_
  intro W base args ds gs before hval0 hW hcnd _
  have hval : ∀ (j : Nat) t v, Tryz.f4.params[j]? = some t → args[j]? = some v → Value.okWide Tryz.prog W .any base t v := hval0
  have hW' := hW
  obtain ⟨p, q, hA0, hV, rfl, hfz, hnd⟩ := hW
  have hA : DataW.TrodAll enc Tryz.prog W 0 (fun _ => true) true Tryz.f4.params.toList args.toList ds p := hA0
  rw [Tryz.params4] at hA hval
  obtain ⟨v0, vs0, d0, ds0, p0, q0, hv0, rfl, rfl, h0, r0⟩ := trodAll_cons hA
  obtain ⟨v1, vs1, d1, ds1, p1, q1, hv1, rfl, rfl, h1, r1⟩ := trodAll_cons r0
  subst hv1
  obtain ⟨rfl, rfl, rfl⟩ := trodAll_nil r1
  obtain rfl : args = #[v0, v1] := by cases args; simp_all
  obtain ⟨rfl, rfl⟩ := trodVars_none hV
  obtain ⟨a, b, rfl, rfl, rfl, wa, wb⟩ := open_f2 Tryz.underlying29 (by kernel_rfl) (by kernel_rfl) Tryz.underlying22 Tryz.underlying22 (hval 0 29 v0 rfl rfl) h0
  obtain ⟨c, d, rfl, rfl, rfl, wc, wd⟩ := open_f2 Tryz.underlying29 (by kernel_rfl) (by kernel_rfl) Tryz.underlying22 Tryz.underlying22 (hval 1 29 v1 rfl rfl) h1
  clear hA0 hval0
  refine (DivPrE.walk a b c d W (Flt.W_of_wf wa) (Flt.W_of_wf wb) (Flt.W_of_wf wc) (Flt.W_of_wf wd)).mono fun e W' ⟨he, hg⟩ => ?_
  subst he
  exact ⟨_, rfl, post_law laidOut (by kernel_rfl) (by kernel_rfl) Tryz.underlying4 rfl hW' rfl hg⟩
theorem DivPrE.k10 : (Rows.fnExactDividePairsRow.inPlace == Tryz.prog.inPlace 4) = true := by kernel_rfl
theorem DivPrE.k11 : (Rows.fnExactDividePairsRow.unfollowed == Tryz.prog.unfollowed 4) = true := by kernel_rfl
theorem DivPrE.k12 : (Rows.fnExactDividePairsRow.recurses == Tryz.prog.recurses 4) = true := by kernel_rfl
theorem DivPrE.k13 : (Rows.fnExactDividePairsRow.named == Tryz.prog.varsNamed 4) = true := by kernel_rfl
theorem DivPrE.closed : joinedFacts Tryz.prog 4 Tryz.f4 Rows.fnExactDividePairsSpec Rows.fnExactDividePairsRow = true := by
  unfold joinedFacts
  simp only [Bool.and_eq_true]
  exact ⟨⟨⟨⟨⟨⟨⟨⟨⟨⟨⟨⟨⟨⟨⟨⟨⟨⟨⟨⟨⟨⟨⟨⟨⟨⟨⟨⟨⟨⟨⟨by kernel_rfl, laidOut⟩, fact_maps⟩, by kernel_rfl⟩, by kernel_rfl⟩, by kernel_rfl⟩, by kernel_rfl⟩, by kernel_rfl⟩, by kernel_rfl⟩, DivPrE.k10⟩, DivPrE.k11⟩, DivPrE.k12⟩, DivPrE.k13⟩, by kernel_rfl⟩, by kernel_rfl⟩, by kernel_rfl⟩, by kernel_rfl⟩, by kernel_rfl⟩, by kernel_rfl⟩, by kernel_rfl⟩, by kernel_rfl⟩, by kernel_rfl⟩, by kernel_rfl⟩, by kernel_rfl⟩, fact_stops⟩, fact_enter⟩, lifts_eq rfl⟩, by kernel_rfl⟩, by kernel_rfl⟩, by kernel_rfl⟩, by kernel_rfl⟩, by kernel_rfl⟩
theorem DivPrE.holds : Rows.FnExactDividePairsSaid :=
  OpenClaim.holds_of_wide 4 Tryz.f4 rfl rfl rfl rfl rfl rfl rfl ⟨rfl, rfl, rfl, rfl, rfl⟩ rfl rfl rfl rfl rfl (by kernel_rfl) Tryz.func4 DivPrE.closed
    (of_decide_eq_true (by kernel_rfl)) (by unfold Func.isWrapper; first | (rw [if_pos (by decide +kernel)]; kernel_rfl) | (rw [if_neg (by decide +kernel)]; exact ⟨rfl, rfl⟩))
    (fun os started H enc _ => DivPrE.lifted os started H enc)
#print axioms DivPrE.holds
end Go.Proofs.YtflgjecpjaiecaaGreat
