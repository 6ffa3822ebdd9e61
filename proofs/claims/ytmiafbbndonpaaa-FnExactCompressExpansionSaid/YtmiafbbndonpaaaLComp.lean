/- For every list of floats the program's CompressExpansion answers as the reference's does, and shares no memory. -/
import Derived.Test.YtmiafbbndonpaaaGr
import Derived.Test.YtmiafbbndonpaaaGf
set_option linter.unusedVariables false
set_option linter.unusedSimpArgs false
namespace Go.Proofs.Ytmiafbbndonpaaa
open Go.ChangeShapes Go.WideShapes Go.ChangeAt Go.RowKit Num Flt
/-- what the statement holds behind the program's call: the reference's answer, the argument's copy, the program's answer -/
structure GwS (w wk : World) (g3 : Nat) (A2 A4 : Option Addr) (c2 c4 : Nat) (L X3 X4 : List Nat) : Prop where
  bel : Below w.heap.size w wk
  o2 : OF wk 0 (.slice A2 L.length c2) L
  o3 : OF wk 0 (.slice (some ⟨g3, 0, none⟩) X3.length X3.length) X3
  o4 : OF wk 0 (.slice A4 L.length c4) X4
  d2 : ∀ k, (Value.slice A2 L.length c2).ownBlock = some k → k < g3
  d4 : ∀ k, (Value.slice A4 L.length c4).ownBlock = some k → g3 < k
  lo : w.heap.size ≤ g3
  lt : g3 < wk.heap.size
variable {w wk w' : World} {g3 : Nat} {A2 A4 : Option Addr} {c2 c4 : Nat} {L X3 X4 Y : List Nat}
theorem GwS.below (h : GwS w wk g3 A2 A4 c2 c4 L X3 X4) (hb : Below wk.heap.size wk w') : GwS w w' g3 A2 A4 c2 c4 L X3 X4 :=
  ⟨bt3 hb h.bel, h.o2.keep hb, h.o3.keep hb, h.o4.keep hb, h.d2, h.d4, h.lo, Nat.lt_of_lt_of_le h.lt hb.size⟩
theorem own_or {v : Value} {g : Nat} (h : ∀ k, v.ownBlock = some k → k ≠ g) : v.ownBlock = none ∨ v.ownBlock ≠ some g := by
  cases hv : v.ownBlock with
  | none => exact Or.inl rfl
  | some k => exact Or.inr (fun e => h k hv (Option.some.inj e))
theorem GwS.mark3 (h : GwS w wk g3 A2 A4 c2 c4 L X3 X4) (hg : wk.grownBy w' (some g3)) (hl : Y.length = X3.length) (ho : OF w' 0 (.slice (some ⟨g3, 0, none⟩) X3.length X3.length) Y) : GwS w w' g3 A2 A4 c2 c4 L Y X4 :=
  ⟨h.bel.grown hg h.bel.size (fun k hk => by cases hk; exact h.lo), h.o2.kept hg (own_or fun k hk => by have := h.d2 k hk; omega), by rw [hl]; exact ho, h.o4.kept hg (own_or fun k hk => by have := h.d4 k hk; omega), h.d2, h.d4, h.lo, Nat.lt_of_lt_of_le h.lt hg.size⟩
theorem GwS.mark4 (h : GwS w wk g3 A2 A4 c2 c4 L X3 X4) (hg : wk.grownBy w' (Value.slice A4 L.length c4).ownBlock) (ho : OF w' 0 (.slice A4 L.length c4) Y) : GwS w w' g3 A2 A4 c2 c4 L X3 Y := by
  refine ⟨h.bel.grown hg h.bel.size (fun k hk => by have := h.d4 k hk; have := h.lo; omega), h.o2.kept hg ?_, h.o3.kept hg ?_, ho, h.d2, h.d4, h.lo, Nat.lt_of_lt_of_le h.lt hg.size⟩
  · cases h4 : (Value.slice A4 L.length c4).ownBlock with
    | none => cases h2 : (Value.slice A2 L.length c2).ownBlock with
      | none => exact Or.inl rfl
      | some k => exact Or.inr (by simp)
    | some j => exact own_or fun k hk => by have := h.d2 k hk; have := h.d4 j h4; omega
  · cases h4 : (Value.slice A4 L.length c4).ownBlock with
    | none => exact Or.inr (by simp [Value.ownBlock])
    | some j =>
      refine own_or (fun k hk => ?_)
      have e : g3 = k := by simpa [Value.ownBlock] using hk
      have := h.d4 j h4
      omega
theorem GwS.start {w w2 w3 w4 : World} {B2 : Nat} (hB : Below w.heap.size w w2) (h2 : OF w2 B2 (.slice A2 L.length c2) L) (hb3 : Below w2.heap.size w2 w3) (h3 : RowF w3 g3 X3) (hg3 : w2.heap.size ≤ g3) (hl : X3.length ≤ LIM) (hb4 : Below w3.heap.size w3 w4) (h4 : OF w4 w3.heap.size (.slice A4 L.length c4) L) : GwS w w4 g3 A2 A4 c2 c4 L X3 L := by
  have hlt := h3.lt
  refine ⟨bt3 hb4 (bt3 hb3 hB), ((h2.keep hb3).keep hb4).mono (Nat.zero_le _), ((OF.of_row h3 (Nat.zero_le _) hl).keep hb4), h4.mono (Nat.zero_le _), fun k hk => Nat.lt_of_lt_of_le (h2.own_lt hk) hg3, fun k hk => ?_, Nat.le_trans hB.size hg3, Nat.lt_of_lt_of_le hlt hb4.size⟩
  rcases h4.2 with ⟨e, _⟩ | ⟨g, cap, cur, e, hg, _⟩
  · rw [e] at hk; simp [Value.ownBlock] at hk
  · rw [e] at hk
    have : g = k := by simpa [Value.ownBlock] using hk
    omega
set_option maxRecDepth 4000 in
set_option maxHeartbeats 4000000 in
theorem CompE.walk (A : Option Addr) (n c : Nat) (xs : List Nat) (w : World) (hn : n = xs.length) (hl : n ≤ maxLen) (hR : RF w A xs) (hx : ∀ x ∈ xs, W x) :
    Calls Try.prog 14 #[.slice A n c] w fun e w' => e = .returned (.bool true) ∧ Below w.heap.size w w' := by
  by_cases hbig : 1048576 < n
  · have hnI : (n : Int) ≤ 9223372036854775807 := by unfold maxLen at hl; omega
    have hbI : 1048576 < (n : Int) := by omega
    clear hbig hl hR hx hn
    go_enter Try.func14, Try.ntmps14
    go_wp2
    go_ret
    exact ⟨rfl, Below.refl _ _⟩
  · have HR : Hd (RF w A xs) := ⟨hR⟩
    have HN : Hd (n = xs.length ∧ n ≤ LIM ∧ xs.length ≤ LIM ∧ ∀ x ∈ xs, W x) := ⟨⟨hn, by unfold LIM; omega, by unfold LIM; omega, hx⟩⟩
    have HL : Hd ((ceL xs).length ≤ LIM ∧ ∀ y ∈ ceL xs, W y) := ⟨⟨by have := (ceL_ok xs).1; unfold LIM; omega, (ceL_ok xs).2⟩⟩
    have hnI : (n : Int) ≤ 1048576 := by omega
    have HS := Hd.mk (fun A n c (w : World) (hR : RF w A xs) (hn : n = xs.length) => s_Comp A n c xs w hn (by have := HN.out.2.2.1; omega) hR hx)
    have HI := Hd.mk (fun A n c (w : World) (hR : RF w A xs) (hn : n = xs.length) => i_Comp A n c xs w hn (by have := HN.out.2.2.1; omega) hR hx)
    have HS := Hd.mk (fun (A : Option Addr) (c : Nat) (w : World) (d : Unit) (hR : RF w A xs) => HS.out A xs.length c w hR rfl)
    have HI := Hd.mk (fun (A : Option Addr) (c : Nat) (w : World) (d : Unit) (hR : RF w A xs) => HI.out A xs.length c w hR rfl)
    have hx1 : (xs.length : Int) ≤ 1048576 := by omega
    have hL1 : ((ceL xs).length : Int) ≤ 8 := by have := (ceL_ok xs).1; omega
    have k1 : ¬ (1 + (xs.length : Int) < 0) := by omega
    have k2 : ¬ (1 + ((ceL xs).length : Int) < 0) := by omega
    generalize ceL xs = L at *
    generalize ceC xs = C at *
    clear hbig hl hR hx hn
    go_enter Try.func14, Try.ntmps14
    go_wp2_with (first | (go_at_call 19; have hno := ST; clear hno; (with_reducible refine (l_toF A n c xs _ HN.out.1 HN.out.2.1 (HR.out.below (bt3 (by (repeat (first | exact Below.refl _ _ | assumption | refine Below.drew ?_ | refine bdn ?_ | refine ba _ ?_ | refine bs0 _ _ ?_ ?_ | refine bs1 _ _ _ ?_ ?_ | refine bs2 _ _ _ _ ?_ ?_ | refine bs3 _ _ _ _ _ ?_ ?_ | refine bt3 (by assumption) ?_))) ST.out.bel))).mono ?_); rintro e5 w5 ⟨g5, rfl, hg5, hr5, hb⟩; replace ST := Hd.mk (ST.out.below (bt3 hb (by (repeat (first | exact Below.refl _ _ | assumption | refine Below.drew ?_ | refine bdn ?_ | refine ba _ ?_ | refine bs0 _ _ ?_ ?_ | refine bs1 _ _ _ ?_ ?_ | refine bs2 _ _ _ _ ?_ ?_ | refine bs3 _ _ _ _ _ ?_ ?_ | refine bt3 (by assumption) ?_))))); have H5 : Hd (RowF w5 g5 xs) := ⟨hr5⟩; clear hg5 hr5 hb) | (go_at_call 19; have hno := H2; clear hno; (with_reducible refine (l_toF A n c xs _ HN.out.1 HN.out.2.1 (HR.out.below HB2.out)).mono ?_); rintro e3 w3 ⟨g3, rfl, hg3, hr3, hb⟩; have H3 := Hd.mk (And.intro hr3 (And.intro hg3 hb)); clear hg3 hr3 hb) | (go_at_call 19; (with_reducible refine (l_toF A n c xs _ HN.out.1 HN.out.2.1 HR.out).mono ?_); rintro e1 w1 ⟨g1, rfl, hg1, hr1, hb⟩; have HB1 : Hd (Below w.heap.size w w1) := ⟨bt3 hb (by (repeat (first | exact Below.refl _ _ | assumption | refine Below.drew ?_ | refine bdn ?_ | refine ba _ ?_ | refine bs0 _ _ ?_ ?_ | refine bs1 _ _ _ ?_ ?_ | refine bs2 _ _ _ _ ?_ ?_ | refine bs3 _ _ _ _ _ ?_ ?_ | refine bt3 (by assumption) ?_)))⟩; have H1 : Hd (RowF w1 g1 xs) := ⟨hr1⟩; clear hg1 hr1 hb) | (go_at_call 53; (with_reducible refine (HS.out _ _ _ () H1.out.reads).mono ?_); rintro e2 w2 ⟨A2, n2, c2, rfl, hO, hb⟩; obtain rfl := hO.reads.1; have HB2 : Hd (Below w.heap.size w w2) := ⟨bt3 hb HB1.out⟩; have H2 := Hd.mk hO; clear hO hb) | (go_at_call 54; have hno := ST; clear hno; (with_reducible refine (HI.out _ _ _ () H5.out.reads).mono ?_); rintro e9 w9 ⟨A9, n9, c9, rfl, hO, hb⟩; obtain rfl := hO.reads.1; replace ST := Hd.mk (ST.out.below hb); have H9 := Hd.mk hO; clear hO hb) | (go_at_call 54; (with_reducible refine (HI.out _ _ _ () H3.out.1.reads).mono ?_); rintro e4 w4 ⟨A4, n4, c4, rfl, hO, hb⟩; obtain rfl := hO.reads.1; have ST := Hd.mk (GwS.start HB2.out H2.out H3.out.2.2 H3.out.1 H3.out.2.1 HN.out.2.2.1 hb hO); clear hO hb) | (go_at_call 21; (with_reducible refine (l_eqF A9 A2 _ _ _ L _ rfl HL.out.1 (H9.out.reads.2.below (by (repeat (first | exact Below.refl _ _ | assumption | refine Below.drew ?_ | refine bdn ?_ | refine ba _ ?_ | refine bs0 _ _ ?_ ?_ | refine bs1 _ _ _ ?_ ?_ | refine bs2 _ _ _ _ ?_ ?_ | refine bs3 _ _ _ _ _ ?_ ?_ | refine bt3 (by assumption) ?_)))) (ST.out.o2.reads.2.below (by (repeat (first | exact Below.refl _ _ | assumption | refine Below.drew ?_ | refine bdn ?_ | refine ba _ ?_ | refine bs0 _ _ ?_ ?_ | refine bs1 _ _ _ ?_ ?_ | refine bs2 _ _ _ _ ?_ ?_ | refine bs3 _ _ _ _ _ ?_ ?_ | refine bt3 (by assumption) ?_)))) HL.out.2).mono ?_); rintro e w' ⟨rfl, ⟨nd, rfl⟩⟩) | (go_at_call 21; (with_reducible refine (l_eqF A4 A2 _ _ _ L _ rfl HL.out.1 (ST.out.o4.reads.2.below (by (repeat (first | exact Below.refl _ _ | assumption | refine Below.drew ?_ | refine bdn ?_ | refine ba _ ?_ | refine bs0 _ _ ?_ ?_ | refine bs1 _ _ _ ?_ ?_ | refine bs2 _ _ _ _ ?_ ?_ | refine bs3 _ _ _ _ _ ?_ ?_ | refine bt3 (by assumption) ?_)))) (ST.out.o2.reads.2.below (by (repeat (first | exact Below.refl _ _ | assumption | refine Below.drew ?_ | refine bdn ?_ | refine ba _ ?_ | refine bs0 _ _ ?_ ?_ | refine bs1 _ _ _ ?_ ?_ | refine bs2 _ _ _ _ ?_ ?_ | refine bs3 _ _ _ _ _ ?_ ?_ | refine bt3 (by assumption) ?_)))) HL.out.2).mono ?_); rintro e w' ⟨rfl, ⟨nd, rfl⟩⟩) | (go_at_call 21; (with_reducible refine (l_eqF (some ⟨g3, 0, none⟩) (some ⟨g5, 0, none⟩) _ _ _ xs _ rfl HN.out.2.2.1 (ST.out.o3.reads.2.below (by (repeat (first | exact Below.refl _ _ | assumption | refine Below.drew ?_ | refine bdn ?_ | refine ba _ ?_ | refine bs0 _ _ ?_ ?_ | refine bs1 _ _ _ ?_ ?_ | refine bs2 _ _ _ _ ?_ ?_ | refine bs3 _ _ _ _ _ ?_ ?_ | refine bt3 (by assumption) ?_)))) (H5.out.reads.below (by (repeat (first | exact Below.refl _ _ | assumption | refine Below.drew ?_ | refine bdn ?_ | refine ba _ ?_ | refine bs0 _ _ ?_ ?_ | refine bs1 _ _ _ ?_ ?_ | refine bs2 _ _ _ _ ?_ ?_ | refine bs3 _ _ _ _ _ ?_ ?_ | refine bt3 (by assumption) ?_)))) HN.out.2.2.2).mono ?_); rintro e w' ⟨rfl, ⟨nd, rfl⟩⟩) | (go_at_call 35; (with_reducible refine (l_mark (some ⟨g3, 0, none⟩) 0 _ _ xs _ (ST.out.o3.keep (by (repeat (first | exact Below.refl _ _ | assumption | refine Below.drew ?_ | refine bdn ?_ | refine ba _ ?_ | refine bs0 _ _ ?_ ?_ | refine bs1 _ _ _ ?_ ?_ | refine bs2 _ _ _ _ ?_ ?_ | refine bs3 _ _ _ _ _ ?_ ?_ | refine bt3 (by assumption) ?_)))) HN.out.2.2.1).mono ?_); rintro e6 w6 ⟨rfl, hO, hg⟩; replace ST := Hd.mk ((ST.out.below (by (repeat (first | exact Below.refl _ _ | assumption | refine Below.drew ?_ | refine bdn ?_ | refine ba _ ?_ | refine bs0 _ _ ?_ ?_ | refine bs1 _ _ _ ?_ ?_ | refine bs2 _ _ _ _ ?_ ?_ | refine bs3 _ _ _ _ _ ?_ ?_ | refine bt3 (by assumption) ?_)))).mark3 hg (mkL_len _) hO); clear hO hg) | (go_at_call 35; (with_reducible refine (l_mark A4 0 _ _ L _ (ST.out.o4.keep (by (repeat (first | exact Below.refl _ _ | assumption | refine Below.drew ?_ | refine bdn ?_ | refine ba _ ?_ | refine bs0 _ _ ?_ ?_ | refine bs1 _ _ _ ?_ ?_ | refine bs2 _ _ _ _ ?_ ?_ | refine bs3 _ _ _ _ _ ?_ ?_ | refine bt3 (by assumption) ?_)))) HL.out.1).mono ?_); rintro e7 w7 ⟨rfl, hO, hg⟩; replace ST := Hd.mk ((ST.out.below (by (repeat (first | exact Below.refl _ _ | assumption | refine Below.drew ?_ | refine bdn ?_ | refine ba _ ?_ | refine bs0 _ _ ?_ ?_ | refine bs1 _ _ _ ?_ ?_ | refine bs2 _ _ _ _ ?_ ?_ | refine bs3 _ _ _ _ _ ?_ ?_ | refine bt3 (by assumption) ?_)))).mark4 hg hO); clear hO hg) | (go_at_call 55; (with_reducible refine (l_held A4 _ _ _ (ST.out.o4.reads.2.below (by (repeat (first | exact Below.refl _ _ | assumption | refine Below.drew ?_ | refine bdn ?_ | refine ba _ ?_ | refine bs0 _ _ ?_ ?_ | refine bs1 _ _ _ ?_ ?_ | refine bs2 _ _ _ _ ?_ ?_ | refine bs3 _ _ _ _ _ ?_ ?_ | refine bt3 (by assumption) ?_)))) HL.out.1).mono ?_); rintro e w' ⟨rfl, rfl⟩))
    go_ret
    exact ⟨rfl, bt3 (by (repeat (first | exact Below.refl _ _ | assumption | refine Below.drew ?_ | refine bdn ?_ | refine ba _ ?_ | refine bs0 _ _ ?_ ?_ | refine bs1 _ _ _ ?_ ?_ | refine bs2 _ _ _ _ ?_ ?_ | refine bs3 _ _ _ _ _ ?_ ?_ | refine bt3 (by assumption) ?_))) ST.out.bel⟩
set_option maxRecDepth 100000 in
theorem CompE.lifted (os : Os) (started : os.Started) (H : Type) (enc : TypeId × Value → H) :
    ReturnsInHanded {} Try.checked os 14 .any (Rows.fnExactCompressExpansionSpec.pre6 enc Try.prog Try.f14 Rows.fnExactCompressExpansionRow.domain false) (Rows.fnExactCompressExpansionSpec.post enc Try.prog Try.f14 false true false false) := by
  refine returnsInHanded_of_change (C := Try.checked) rowOwn started (by kernel_rfl) Try.func14
    (ChangeSpec.witness6 (enc := enc) (C := Try.checked) false ⟨#[], #[.slice none 0 0], []⟩ 8 (by kernel_rfl) (by kernel_rfl) (by kernel_rfl) (by kernel_rfl)) ?_
  intro W base args ds gs before hval0 hW hcnd _
  have hval : ∀ (j : Nat) t v, Try.f14.params[j]? = some t → args[j]? = some v → Value.okWide Try.prog W .any base t v := hval0
  have hW' := hW
  obtain ⟨p, q, hA0, hV, rfl, hfz, hnd⟩ := hW
  have hA : DataW.TrodAll enc Try.prog W 0 (fun _ => true) true Try.f14.params.toList args.toList ds p := hA0
  rw [Try.params14] at hA hval
  obtain ⟨v0, vs0, d0, ds0, p0, q0, hv0, rfl, rfl, h0, r0⟩ := trodAll_cons hA
  obtain ⟨rfl, rfl, rfl⟩ := trodAll_nil r0
  obtain rfl : args = #[v0] := by cases args; simp_all
  obtain ⟨rfl, rfl⟩ := trodVars_none hV
  obtain ⟨A, n, c, xs, rfl, hn, hnc, hcm, hR, hx⟩ := open_fl Try.underlying22 Try.underlying28 (by kernel_rfl) (hval 0 22 v0 rfl rfl) h0
  clear hA0 hval0
  refine (CompE.walk A n c xs W hn (Nat.le_trans hnc hcm) hR hx).mono fun e W' ⟨he, hg⟩ => ?_
  subst he
  exact ⟨_, rfl, post_law laidOut (by kernel_rfl) (by kernel_rfl) Try.underlying4 rfl hW' rfl hg⟩
theorem CompE.k10 : (Rows.fnExactCompressExpansionRow.inPlace == Try.prog.inPlace 14) = true := by kernel_rfl
theorem CompE.k11 : (Rows.fnExactCompressExpansionRow.unfollowed == Try.prog.unfollowed 14) = true := by kernel_rfl
theorem CompE.k12 : (Rows.fnExactCompressExpansionRow.recurses == Try.prog.recurses 14) = true := by kernel_rfl
theorem CompE.k13 : (Rows.fnExactCompressExpansionRow.named == Try.prog.varsNamed 14) = true := by kernel_rfl
theorem CompE.closed : joinedFacts Try.prog 14 Try.f14 Rows.fnExactCompressExpansionSpec Rows.fnExactCompressExpansionRow = true := by
  unfold joinedFacts
  simp only [Bool.and_eq_true]
  exact ⟨⟨⟨⟨⟨⟨⟨⟨⟨⟨⟨⟨⟨⟨⟨⟨⟨⟨⟨⟨⟨⟨⟨⟨⟨⟨⟨⟨⟨⟨⟨by kernel_rfl, laidOut⟩, fact_maps⟩, by kernel_rfl⟩, by kernel_rfl⟩, by kernel_rfl⟩, by kernel_rfl⟩, by kernel_rfl⟩, by kernel_rfl⟩, CompE.k10⟩, CompE.k11⟩, CompE.k12⟩, CompE.k13⟩, by kernel_rfl⟩, by kernel_rfl⟩, by kernel_rfl⟩, by kernel_rfl⟩, by kernel_rfl⟩, by kernel_rfl⟩, by kernel_rfl⟩, by kernel_rfl⟩, by kernel_rfl⟩, by kernel_rfl⟩, by kernel_rfl⟩, fact_stops⟩, fact_enter⟩, lifts_eq rfl⟩, by kernel_rfl⟩, by kernel_rfl⟩, by kernel_rfl⟩, by kernel_rfl⟩, by kernel_rfl⟩
theorem CompE.holds : Rows.FnExactCompressExpansionSaid :=
  OpenClaim.holds_of_wide 14 Try.f14 rfl rfl rfl rfl rfl rfl rfl ⟨rfl, rfl, rfl, rfl, rfl⟩ rfl rfl rfl rfl rfl (by kernel_rfl) Try.func14 CompE.closed
    (of_decide_eq_true (by kernel_rfl)) (by unfold Func.isWrapper; first | (rw [if_pos (by decide +kernel)]; kernel_rfl) | (rw [if_neg (by decide +kernel)]; exact ⟨rfl, rfl⟩))
    (fun os started H enc _ => CompE.lifted os started H enc)
#print axioms CompE.holds
end Go.Proofs.Ytmiafbbndonpaaa
