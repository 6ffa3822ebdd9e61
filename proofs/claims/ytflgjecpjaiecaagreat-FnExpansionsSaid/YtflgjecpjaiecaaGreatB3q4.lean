/- Contracts: draws of expansions. -/
import Derived.Test.YtflgjecpjaiecaaGreatGoq4
import Derived.Test.YtflgjecpjaiecaaGreatY3q4
set_option linter.unusedVariables false
set_option linter.unusedSimpArgs false
namespace Go.Proofs.YtflgjecpjaiecaaGreat
open Go.RowKit Num Flt
theorem OF.own_ge {w : World} {B : Nat} {v : Value} {xs : List Nat} (h : OF w B v xs) {k : Nat} (hk : v.ownBlock = some k) : B ≤ k := by
  rcases h.2 with ⟨rfl, _⟩ | ⟨g, cap, cur, rfl, hg, hh, _⟩
  · simp [Value.ownBlock] at hk
  · have e : g = k := by simpa [Value.ownBlock] using hk
    omega
theorem OF.at0 {w : World} {B : Nat} {v : Value} {xs : List Nat} (h : OF w B v xs) (hl : 0 < xs.length) : ∃ g c, v = .slice (some ⟨g, 0, none⟩) xs.length c ∧ B ≤ g ∧ w.cell? ⟨g, 0, none⟩ = some (.float .f32 (xs.getD 0 0)) ∧ w.frozen? ⟨g, 0, none⟩ = false := by
  obtain ⟨h1, h2⟩ := h
  rcases h2 with ⟨_, h0⟩ | ⟨g, cap, cur, hv, hg, hrow, hcap, hml, hsz, htk⟩
  · omega
  · refine ⟨g, cap, hv, hg, ?_, Blk.frozen hrow 0⟩
    rw [Blk.cell hrow]
    have e : (cur.toList.take (xs.length * 1))[0]? = (cF xs)[0]? := by rw [htk]
    rw [List.getElem?_take_of_lt (by omega), Array.getElem?_toList] at e
    rw [e, cF_at xs 0 hl]
theorem OF.set0 {w : World} {B g n c : Nat} {xs : List Nat} (h : OF w B (.slice (some ⟨g, 0, none⟩) n c) xs) (y : Nat) : OF (w.setCell ⟨g, 0, none⟩ (.float .f32 y)) B (.slice (some ⟨g, 0, none⟩) n c) (xs.set 0 y) := by
  obtain ⟨h1, h2⟩ := h
  rcases h2 with ⟨hv, h0⟩ | ⟨g', cap, cur, hv, hg, hrow, hcap, hml, hsz, htk⟩
  · obtain ⟨e, _⟩ := Value.slice.inj hv; cases e
  · obtain ⟨e1, e2, e3⟩ := Value.slice.inj hv
    have e4 : g = g' := congrArg Addr.block (Option.some.inj e1)
    subst e4 e3
    refine ⟨by simp [cF], Or.inr ⟨g, c, cur.setIfInBounds 0 (.float .f32 y), by rw [List.length_set, e2], hg, Blk.set_ hrow 0 _, by simpa using hcap, hml, by simpa using hsz, ?_⟩⟩
    rw [List.length_set, Array.toList_setIfInBounds, List.take_set, htk]
    simp [cF, List.map_set]
theorem Src.belowB {w w' : World} {g B : Nat} (h : Src w g) (hb : Below B w w') (hg : g < B) : Src w' g := by
  obtain ⟨A, n, c, xs, a, hh, h⟩ := h
  exact ⟨A, n, c, xs, a, hh, h.blk.below hb hg, h.code.keep (fun p hp => hb.cell (Nat.lt_trans hp hg)), h.at1⟩
/-- what a draw of an expansion holds -/
structure SoH (w wk : World) (g : Nat) (v : Value) (ys : List Nat) : Prop where
  src : Src wk g
  lt : g < w.heap.size
  gr : w.grownBy wk (some g)
  row : OF wk w.heap.size v ys
  wf : ∀ y ∈ ys, W y
theorem SoH.start {w : World} {g : Nat} (h : Src w g) : SoH w (w.alloc (.cells #[] 22)) g (.slice (some ⟨w.heap.size, 0, none⟩) 0 0) [] :=
  ⟨h.below (ba _ (Below.refl _ _)), h.lt, gbelow _ (ba _ (Below.refl _ _)), own_emptyF _ _ (Nat.le_refl _), by simp⟩
theorem SoH.nil {w wk : World} {g : Nat} {v : Value} {ys : List Nat} (h : SoH w wk g v ys) : SoH w wk g (.slice none 0 0) [] := ⟨h.src, h.lt, h.gr, OF.nil _ _, by simp⟩
theorem SoH.size1 {w wk : World} {g : Nat} {v : Value} {ys : List Nat} (h : SoH w wk g v ys) : w.heap.size ≤ wk.heap.size := h.gr.size
theorem SoH.next {w wk w' : World} {g : Nat} {v : Value} {ys : List Nat} (h : SoH w wk g v ys) (hs : Src w' g) (hg : wk.grownBy w' (some g)) : SoH w w' g v ys := by
  refine ⟨hs, h.lt, gtrans h.gr hg, h.row.kept hg ?_, h.wf⟩
  cases hv : v.ownBlock with
  | none => exact Or.inl rfl
  | some k => exact Or.inr (fun e => by have := h.row.own_ge hv; have := h.lt; cases e; omega)
theorem SoH.below {w wk w' : World} {g : Nat} {v : Value} {ys : List Nat} (h : SoH w wk g v ys) (hb : Below wk.heap.size wk w') : SoH w w' g v ys := h.next (h.src.below hb) (gbelow _ hb)
theorem SoH.push {w wk w' : World} {g : Nat} {v v' : Value} {ys : List Nat} {y : Nat} (h : SoH w wk g v ys) (ho : OF w' w.heap.size v' (ys ++ [y])) (hb : Below w.heap.size wk w') (hy : W y) : SoH w w' g v' (ys ++ [y]) := by
  refine ⟨h.src.belowB hb h.lt, h.lt, ⟨hb.os.trans h.gr.os, hb.tape.trans h.gr.tape, hb.output.trans h.gr.output, Nat.le_trans h.gr.size hb.size, fun i hi hne => (hb.block i hi).trans (h.gr.block i hi hne)⟩, ho, ?_⟩
  intro z hz
  rcases List.mem_append.1 hz with hz | hz
  · exact h.wf z hz
  · simp at hz; subst hz; exact hy
theorem SoH.put {w wk : World} {g g' n c : Nat} {ys : List Nat} (h : SoH w wk g (.slice (some ⟨g', 0, none⟩) n c) ys) (hg : w.heap.size ≤ g') {y : Nat} (hy : W y) : SoH w (wk.setCell ⟨g', 0, none⟩ (.float .f32 y)) g (.slice (some ⟨g', 0, none⟩) n c) (ys.set 0 y) := by
  have hb : Below w.heap.size wk (wk.setCell ⟨g', 0, none⟩ (.float .f32 y)) := (Below.refl _ _).setCell hg _
  refine ⟨h.src.belowB hb h.lt, h.lt, ⟨hb.os.trans h.gr.os, hb.tape.trans h.gr.tape, hb.output.trans h.gr.output, Nat.le_trans h.gr.size hb.size, fun i hi hne => (hb.block i hi).trans (h.gr.block i hi hne)⟩, h.row.set0 y, ?_⟩
  intro z hz
  rcases List.mem_or_eq_of_mem_set hz with k | k
  · exact h.wf z k
  · subst k; exact hy
def RetLG (g : Nat) (w : World) (e : Ending) (w' : World) : Prop := ∃ A n c xs, e = .returned (.slice A n c) ∧ SoH w w' g (.slice A n c) xs ∧ xs.length ≤ 9
def lenOf : Value → Nat
  | .slice _ n _ => n
  | _ => 0
set_option maxRecDepth 20000 in
set_option maxHeartbeats 20000000 in
theorem s_Some (g : Nat) (w : World) (hS : Src w g) : Calls Tryz.prog 145 #[.pointer (some ⟨g, 0, none⟩)] w (RetLG g w) := by
  have HS := Hd.mk (SoH.start hS)
  have H1 := Hd.mk (show W 1065353216 by unfold W; decide)
  clear hS
  go_enter Tryz.func145, Tryz.ntmps145
  go_wp2_with (go_at_call 119; (with_reducible refine (s_Next g _ _ (HS.out.below (by (repeat (first | exact Below.refl _ _ | assumption | refine Below.drew ?_ | refine bdn ?_ | refine ba _ ?_ | refine bs0 _ _ ?_ ?_ | refine bs1 _ _ _ ?_ ?_ | refine bs2 _ _ _ _ ?_ ?_ | refine bs3 _ _ _ _ _ ?_ ?_ | refine bt3 (by assumption) ?_)))).src (by omega) (by omega)).mono ?_); rintro e1 w1 ⟨k1, rfl, hk1, hs, hg⟩; replace HS := Hd.mk ((HS.out.below (by (repeat (first | exact Below.refl _ _ | assumption | refine Below.drew ?_ | refine bdn ?_ | refine ba _ ?_ | refine bs0 _ _ ?_ ?_ | refine bs1 _ _ _ ?_ ?_ | refine bs2 _ _ _ _ ?_ ?_ | refine bs3 _ _ _ _ _ ?_ ?_ | refine bt3 (by assumption) ?_)))).next hs hg); clear hs hg)
  go_loopw [3, 4] (fun v i wr => ∃ (k : Nat) (ys : List Nat), i = .int .i64 k ∧ Hd (ys.length + k = 1 + k1) ∧ Hd (SoH w wr g v ys)) (fun _ i _ => (intOf i).toNat)
  case atStart => exact ⟨1 + k1, [], by go_num, ⟨by simp⟩, HS⟩
  case round =>
    obtain ⟨k, ys, rfl, HL, HS⟩ := hrel
    have HLY : Hd (ys.length < LIM) := ⟨by have := HL.out; unfold LIM; omega⟩
    have hk6 : (k : Int) ≤ 6 := by have := HL.out; omega
    by_cases h1 : 0 < k
    · have h1I : (k : Int) > 0 := by omega
      go_wp2_with (first | (go_at_call 201; (with_reducible refine (s_Draw g _ (HS.out.below (by (repeat (first | exact Below.refl _ _ | assumption | refine Below.drew ?_ | refine bdn ?_ | refine ba _ ?_ | refine bs0 _ _ ?_ ?_ | refine bs1 _ _ _ ?_ ?_ | refine bs2 _ _ _ _ ?_ ?_ | refine bs3 _ _ _ _ _ ?_ ?_ | refine bt3 (by assumption) ?_)))).src).mono ?_); rintro e2 w2 ⟨x, rfl, hx, hs, hg⟩; replace HS := Hd.mk ((HS.out.below (by (repeat (first | exact Below.refl _ _ | assumption | refine Below.drew ?_ | refine bdn ?_ | refine ba _ ?_ | refine bs0 _ _ ?_ ?_ | refine bs1 _ _ _ ?_ ?_ | refine bs2 _ _ _ _ ?_ ?_ | refine bs3 _ _ _ _ _ ?_ ?_ | refine bt3 (by assumption) ?_)))).next hs hg); have HX := Hd.mk hx; clear hs hg hx) | (at_builtin; refine wpList_pushF _ rfl (.tmp 13) (.tmp 16) rfl w.heap.size _ ys rfl ((HS.out.below (by (repeat (first | exact Below.refl _ _ | assumption | refine Below.drew ?_ | refine bdn ?_ | refine ba _ ?_ | refine bs0 _ _ ?_ ?_ | refine bs1 _ _ _ ?_ ?_ | refine bs2 _ _ _ _ ?_ ?_ | refine bs3 _ _ _ _ _ ?_ ?_ | refine bt3 (by assumption) ?_)))).row) _ 1 (x) rfl (by go_simp) HLY.out ((HS.out.below (by (repeat (first | exact Below.refl _ _ | assumption | refine Below.drew ?_ | refine bdn ?_ | refine ba _ ?_ | refine bs0 _ _ ?_ ?_ | refine bs1 _ _ _ ?_ ?_ | refine bs2 _ _ _ _ ?_ ?_ | refine bs3 _ _ _ _ _ ?_ ?_ | refine bt3 (by assumption) ?_)))).size1) ?_; intro v1 w3 ho1 hb1 hk1; clear hk1; replace HS := Hd.mk ((HS.out.below (by (repeat (first | exact Below.refl _ _ | assumption | refine Below.drew ?_ | refine bdn ?_ | refine ba _ ?_ | refine bs0 _ _ ?_ ?_ | refine bs1 _ _ _ ?_ ?_ | refine bs2 _ _ _ _ ?_ ?_ | refine bs3 _ _ _ _ _ ?_ ?_ | refine bt3 (by assumption) ?_)))).push ho1 hb1 HX.out); clear ho1 hb1))
      go_roundw
      case rel => exact ⟨k - 1, _, by go_num, ⟨by have := HL.out; simp; omega⟩, HS⟩
      case measure => simp [intOf]; omega
    · obtain rfl : k = 0 := by omega
      have HL1 : Hd (0 < ys.length ∧ ys.length ≤ 5) := ⟨by have := HL.out; omega⟩
      clear h1 hk6 HL
      go_upto_region 7 with (go_at_call 119; (with_reducible refine (s_Next g _ _ (HS.out.below (by (repeat (first | exact Below.refl _ _ | assumption | refine Below.drew ?_ | refine bdn ?_ | refine ba _ ?_ | refine bs0 _ _ ?_ ?_ | refine bs1 _ _ _ ?_ ?_ | refine bs2 _ _ _ _ ?_ ?_ | refine bs3 _ _ _ _ _ ?_ ?_ | refine bt3 (by assumption) ?_)))).src (by omega) (by omega)).mono ?_); rintro e1 w1 ⟨k2, rfl, hk2, hs, hg⟩; replace HS := Hd.mk ((HS.out.below (by (repeat (first | exact Below.refl _ _ | assumption | refine Below.drew ?_ | refine bdn ?_ | refine ba _ ?_ | refine bs0 _ _ ?_ ?_ | refine bs1 _ _ _ ?_ ?_ | refine bs2 _ _ _ _ ?_ ?_ | refine bs3 _ _ _ _ _ ?_ ?_ | refine bt3 (by assumption) ?_)))).next hs hg); clear hs hg)
      by_cases q0 : k2 = 0
      · subst q0
        go_wp2_with fail
        go_loopw [3] (fun v wr => ∃ (zs : List Nat), Hd (zs.length ≤ 9) ∧ Hd (SoH w wr g v zs)) (fun v _ => 9 - lenOf v)
        case atStart => exact ⟨ys, ⟨by have := HL1.out; omega⟩, HS⟩
        case round =>
          obtain ⟨zs, HZ, HS⟩ := hrel
          obtain ⟨A1, c1, rfl, hr1⟩ := HS.out.row.form
          clear hr1
          have HLY : Hd (zs.length < LIM) := ⟨by have := HZ.out; unfold LIM; omega⟩
          have hz9 : (zs.length : Int) ≤ 9 := by have := HZ.out; omega
          by_cases h8 : (zs.length : Int) ≤ 8
          · go_wp2_with (at_builtin; refine wpList_pushF _ rfl (.tmp 25) (.tmp 26) rfl w.heap.size _ zs rfl ((HS.out.below (by (repeat (first | exact Below.refl _ _ | assumption | refine Below.drew ?_ | refine bdn ?_ | refine ba _ ?_ | refine bs0 _ _ ?_ ?_ | refine bs1 _ _ _ ?_ ?_ | refine bs2 _ _ _ _ ?_ ?_ | refine bs3 _ _ _ _ _ ?_ ?_ | refine bt3 (by assumption) ?_)))).row) _ 1 (1065353216) rfl (by go_simp) HLY.out ((HS.out.below (by (repeat (first | exact Below.refl _ _ | assumption | refine Below.drew ?_ | refine bdn ?_ | refine ba _ ?_ | refine bs0 _ _ ?_ ?_ | refine bs1 _ _ _ ?_ ?_ | refine bs2 _ _ _ _ ?_ ?_ | refine bs3 _ _ _ _ _ ?_ ?_ | refine bt3 (by assumption) ?_)))).size1) ?_; intro v1 w3 ho1 hb1 hk1; clear hk1; replace HS := Hd.mk ((HS.out.below (by (repeat (first | exact Below.refl _ _ | assumption | refine Below.drew ?_ | refine bdn ?_ | refine ba _ ?_ | refine bs0 _ _ ?_ ?_ | refine bs1 _ _ _ ?_ ?_ | refine bs2 _ _ _ _ ?_ ?_ | refine bs3 _ _ _ _ _ ?_ ?_ | refine bt3 (by assumption) ?_)))).push ho1 hb1 H1.out); clear ho1 hb1)
            go_roundw
            case rel => exact ⟨_, _, _, _, _, _, _, ⟨_, ⟨by simp; omega⟩, HS⟩, rfl⟩
            case measure =>
              obtain ⟨A2, c2, hv2, hr2⟩ := HS.out.row.form
              rw [hv2]; simp [lenOf]; omega
          · go_wp2_with fail
            go_ret
            exact ⟨_, _, _, zs, rfl, HS.out, HZ.out⟩
      · have e0 : ((k2 : Int) == 0) = false := by simpa using q0
        by_cases q1 : k2 = 1
        · subst q1
          go_wp2_with fail
          go_ret
          exact ⟨_, _, _, [], rfl, HS.out.nil, by simp⟩
        · have e1 : ((k2 : Int) == 1) = false := by simpa using (show (k2 : Int) ≠ 1 by omega)
          obtain ⟨g2, c2, rfl, hg2, hc2, hf2⟩ := HS.out.row.at0 HL1.out.1
          have hl0 : (0 : Int) < ys.length := by have := HL1.out; omega
          by_cases q2 : k2 = 2
          · subst q2
            clear hc2 hf2
            go_wp2_with ((go_at_call 146; (with_reducible refine (s_Spoil g _ (HS.out.below (by (repeat (first | exact Below.refl _ _ | assumption | refine Below.drew ?_ | refine bdn ?_ | refine ba _ ?_ | refine bs0 _ _ ?_ ?_ | refine bs1 _ _ _ ?_ ?_ | refine bs2 _ _ _ _ ?_ ?_ | refine bs3 _ _ _ _ _ ?_ ?_ | refine bt3 (by assumption) ?_)))).src).mono ?_); rintro e2 w2 ⟨x, rfl, hx, hs, hg⟩; replace HS := Hd.mk ((HS.out.below (by (repeat (first | exact Below.refl _ _ | assumption | refine Below.drew ?_ | refine bdn ?_ | refine ba _ ?_ | refine bs0 _ _ ?_ ?_ | refine bs1 _ _ _ ?_ ?_ | refine bs2 _ _ _ _ ?_ ?_ | refine bs3 _ _ _ _ _ ?_ ?_ | refine bt3 (by assumption) ?_)))).next hs hg); have HX := Hd.mk hx; clear hs hg hx); obtain ⟨g3, c3, hv3, hg3, hc3, hf3⟩ := HS.out.row.at0 HL1.out.1; obtain ⟨e3, -, e4⟩ := Value.slice.inj hv3; obtain rfl : g2 = g3 := congrArg Addr.block (Option.some.inj e3); clear e3 e4 hv3 hg3)
            go_ret
            exact ⟨_, _, _, _, rfl, HS.out.put hg2 HX.out, by simp; have := HL1.out; omega⟩
          · have e2 : ((k2 : Int) == 2) = false := by simpa using (show (k2 : Int) ≠ 2 by omega)
            have HW0 : Hd (W (ys.getD 0 0)) := ⟨HS.out.wf _ (by rw [List.getD_eq_getElem?_getD, List.getElem?_eq_getElem HL1.out.1]; exact List.getElem_mem _)⟩
            generalize ys.getD 0 0 = y0 at *
            by_cases q3 : k2 = 3
            · subst q3
              go_wp2_with (first | (go_at_call 104; (with_reducible refine (s_TurnedA _ _ HW0.out).mono ?_); rintro e2 w2 ⟨x, rfl, hx, hb⟩; replace HS := Hd.mk (HS.out.below (bt3 hb (by (repeat (first | exact Below.refl _ _ | assumption | refine Below.drew ?_ | refine bdn ?_ | refine ba _ ?_ | refine bs0 _ _ ?_ ?_ | refine bs1 _ _ _ ?_ ?_ | refine bs2 _ _ _ _ ?_ ?_ | refine bs3 _ _ _ _ _ ?_ ?_ | refine bt3 (by assumption) ?_))))); have HX := Hd.mk hx; clear hb hx) | (at_builtin; refine wpList_pushF _ rfl (.tmp 40) (.tmp 45) rfl w.heap.size _ ys rfl ((HS.out.below (by (repeat (first | exact Below.refl _ _ | assumption | refine Below.drew ?_ | refine bdn ?_ | refine ba _ ?_ | refine bs0 _ _ ?_ ?_ | refine bs1 _ _ _ ?_ ?_ | refine bs2 _ _ _ _ ?_ ?_ | refine bs3 _ _ _ _ _ ?_ ?_ | refine bt3 (by assumption) ?_)))).row) _ 1 (x) rfl (by go_simp) HLY.out ((HS.out.below (by (repeat (first | exact Below.refl _ _ | assumption | refine Below.drew ?_ | refine bdn ?_ | refine ba _ ?_ | refine bs0 _ _ ?_ ?_ | refine bs1 _ _ _ ?_ ?_ | refine bs2 _ _ _ _ ?_ ?_ | refine bs3 _ _ _ _ _ ?_ ?_ | refine bt3 (by assumption) ?_)))).size1) ?_; intro v1 w3 ho1 hb1 hk1; clear hk1; replace HS := Hd.mk ((HS.out.below (by (repeat (first | exact Below.refl _ _ | assumption | refine Below.drew ?_ | refine bdn ?_ | refine ba _ ?_ | refine bs0 _ _ ?_ ?_ | refine bs1 _ _ _ ?_ ?_ | refine bs2 _ _ _ _ ?_ ?_ | refine bs3 _ _ _ _ _ ?_ ?_ | refine bt3 (by assumption) ?_)))).push ho1 hb1 HX.out); clear ho1 hb1))
              obtain ⟨A5, c5, rfl, hr5⟩ := HS.out.row.form
              go_ret
              exact ⟨_, _, _, _, rfl, HS.out, by simp; have := HL1.out; omega⟩
            · have e3 : ((k2 : Int) == 3) = false := by simpa using (show (k2 : Int) ≠ 3 by omega)
              by_cases q4 : k2 = 4
              · subst q4
                go_wp2_with (first | (go_at_call 104; (with_reducible refine (s_TurnedA _ _ HW0.out).mono ?_); rintro e2 w2 ⟨x, rfl, hx, hb⟩; replace HS := Hd.mk (HS.out.below (bt3 hb (by (repeat (first | exact Below.refl _ _ | assumption | refine Below.drew ?_ | refine bdn ?_ | refine ba _ ?_ | refine bs0 _ _ ?_ ?_ | refine bs1 _ _ _ ?_ ?_ | refine bs2 _ _ _ _ ?_ ?_ | refine bs3 _ _ _ _ _ ?_ ?_ | refine bt3 (by assumption) ?_))))); have HX := Hd.mk hx; clear hb hx) | (at_builtin; refine wpList_pushF _ rfl (.tmp 40) (.tmp 45) rfl w.heap.size _ ys rfl ((HS.out.below (by (repeat (first | exact Below.refl _ _ | assumption | refine Below.drew ?_ | refine bdn ?_ | refine ba _ ?_ | refine bs0 _ _ ?_ ?_ | refine bs1 _ _ _ ?_ ?_ | refine bs2 _ _ _ _ ?_ ?_ | refine bs3 _ _ _ _ _ ?_ ?_ | refine bt3 (by assumption) ?_)))).row) _ 1 (x) rfl (by go_simp) HLY.out ((HS.out.below (by (repeat (first | exact Below.refl _ _ | assumption | refine Below.drew ?_ | refine bdn ?_ | refine ba _ ?_ | refine bs0 _ _ ?_ ?_ | refine bs1 _ _ _ ?_ ?_ | refine bs2 _ _ _ _ ?_ ?_ | refine bs3 _ _ _ _ _ ?_ ?_ | refine bt3 (by assumption) ?_)))).size1) ?_; intro v1 w3 ho1 hb1 hk1; clear hk1; replace HS := Hd.mk ((HS.out.below (by (repeat (first | exact Below.refl _ _ | assumption | refine Below.drew ?_ | refine bdn ?_ | refine ba _ ?_ | refine bs0 _ _ ?_ ?_ | refine bs1 _ _ _ ?_ ?_ | refine bs2 _ _ _ _ ?_ ?_ | refine bs3 _ _ _ _ _ ?_ ?_ | refine bt3 (by assumption) ?_)))).push ho1 hb1 HX.out); clear ho1 hb1))
                obtain ⟨A5, c5, rfl, hr5⟩ := HS.out.row.form
                go_ret
                exact ⟨_, _, _, _, rfl, HS.out, by simp; have := HL1.out; omega⟩
              · have e4 : ((k2 : Int) == 4) = false := by simpa using (show (k2 : Int) ≠ 4 by omega)
                by_cases q5 : k2 = 5
                · subst q5
                  go_wp2_with (first | (go_at_call 104; (with_reducible refine (s_TurnedA _ _ HW0.out).mono ?_); rintro e2 w2 ⟨x, rfl, hx, hb⟩; replace HS := Hd.mk (HS.out.below (bt3 hb (by (repeat (first | exact Below.refl _ _ | assumption | refine Below.drew ?_ | refine bdn ?_ | refine ba _ ?_ | refine bs0 _ _ ?_ ?_ | refine bs1 _ _ _ ?_ ?_ | refine bs2 _ _ _ _ ?_ ?_ | refine bs3 _ _ _ _ _ ?_ ?_ | refine bt3 (by assumption) ?_))))); have HX := Hd.mk hx; clear hb hx) | (at_builtin; refine wpList_pushF _ rfl (.tmp 40) (.tmp 45) rfl w.heap.size _ ys rfl ((HS.out.below (by (repeat (first | exact Below.refl _ _ | assumption | refine Below.drew ?_ | refine bdn ?_ | refine ba _ ?_ | refine bs0 _ _ ?_ ?_ | refine bs1 _ _ _ ?_ ?_ | refine bs2 _ _ _ _ ?_ ?_ | refine bs3 _ _ _ _ _ ?_ ?_ | refine bt3 (by assumption) ?_)))).row) _ 1 (x) rfl (by go_simp) HLY.out ((HS.out.below (by (repeat (first | exact Below.refl _ _ | assumption | refine Below.drew ?_ | refine bdn ?_ | refine ba _ ?_ | refine bs0 _ _ ?_ ?_ | refine bs1 _ _ _ ?_ ?_ | refine bs2 _ _ _ _ ?_ ?_ | refine bs3 _ _ _ _ _ ?_ ?_ | refine bt3 (by assumption) ?_)))).size1) ?_; intro v1 w3 ho1 hb1 hk1; clear hk1; replace HS := Hd.mk ((HS.out.below (by (repeat (first | exact Below.refl _ _ | assumption | refine Below.drew ?_ | refine bdn ?_ | refine ba _ ?_ | refine bs0 _ _ ?_ ?_ | refine bs1 _ _ _ ?_ ?_ | refine bs2 _ _ _ _ ?_ ?_ | refine bs3 _ _ _ _ _ ?_ ?_ | refine bt3 (by assumption) ?_)))).push ho1 hb1 HX.out); clear ho1 hb1))
                  obtain ⟨A5, c5, rfl, hr5⟩ := HS.out.row.form
                  go_ret
                  exact ⟨_, _, _, _, rfl, HS.out, by simp; have := HL1.out; omega⟩
                · have e5 : ((k2 : Int) == 5) = false := by simpa using (show (k2 : Int) ≠ 5 by omega)
                  go_wp2_with fail
                  go_ret
                  exact ⟨_, _, _, ys, rfl, HS.out, by have := HL1.out; omega⟩
/-- an expansion drawn -/
def RetFL (w : World) (e : Ending) (w' : World) : Prop := ∃ A n c xs, e = .returned (.slice A n c) ∧ n = xs.length ∧ n ≤ 9 ∧ RF w' A xs ∧ (∀ x ∈ xs, W x) ∧ Below w.heap.size w w'
def RetFLx (w : World) (e : Ending) (w' : World) : Prop := ∃ A n c xs y, e = .returned (.tuple #[.slice A n c, .float .f32 y]) ∧ n = xs.length ∧ n ≤ 9 ∧ RF w' A xs ∧ (∀ x ∈ xs, W x) ∧ W y ∧ Below w.heap.size w w'
def RetFLm (w : World) (e : Ending) (w' : World) : Prop := ∃ A n c xs m, e = .returned (.tuple #[.slice A n c, .int .i64 m]) ∧ n = xs.length ∧ n ≤ 9 ∧ RF w' A xs ∧ (∀ x ∈ xs, W x) ∧ Below w.heap.size w w'
/-- the draw of an expansion after the source's -/
structure SoW (w wk : World) (g : Nat) (A : Option Addr) (n c : Nat) (ys : List Nat) : Prop where
  src : Src wk g
  ge : w.heap.size ≤ g
  bel : Below w.heap.size w wk
  own : ∃ w0, SoH w0 wk g (.slice A n c) ys
theorem SoW.start {w w1 w2 : World} {g : Nat} {A : Option Addr} {n c : Nat} {ys : List Nat} (h : SrcAt w w1 g) (k : SoH w1 w2 g (.slice A n c) ys) : SoW w w2 g A n c ys :=
  ⟨k.src, h.ge, below_grown h.bel h.ge h.bel.size k.gr, _, k⟩
theorem SoW.next {w wk w' : World} {g : Nat} {A : Option Addr} {n c : Nat} {ys : List Nat} (h : SoW w wk g A n c ys) (hs : Src w' g) (hg : wk.grownBy w' (some g)) : SoW w w' g A n c ys := by
  obtain ⟨h1, h2, h3, w0, h4⟩ := h
  exact ⟨hs, h2, below_grown h3 h2 h3.size hg, w0, h4.next hs hg⟩
theorem SoW.below {w wk w' : World} {g : Nat} {A : Option Addr} {n c : Nat} {ys : List Nat} (h : SoW w wk g A n c ys) (hb : Below wk.heap.size wk w') : SoW w w' g A n c ys := h.next (h.src.below hb) (gbelow _ hb)
theorem SoW.row {w wk : World} {g : Nat} {A : Option Addr} {n c : Nat} {ys : List Nat} (h : SoW w wk g A n c ys) : n = ys.length ∧ RF wk A ys ∧ ∀ y ∈ ys, W y := by
  obtain ⟨h1, h2, h3, w0, h4⟩ := h
  exact ⟨h4.row.reads.1, h4.row.reads.2, h4.wf⟩
set_option maxHeartbeats 4000000 in
theorem s_DrawVE (A : Option Addr) (n c : Nat) (xs : List Nat) (w : World) (hC : CodeP w w.heap.size A n xs) : Calls Tryz.prog 150 #[.slice A n c] w (RetFL w) := by
  have HC := Hd.mk hC
  clear hC
  go_enter Tryz.func150, Tryz.ntmps150
  go_wp2_with (first | (go_at_call 108; (with_reducible refine (s_From A n c xs _ (HC.out.more' (by (repeat (first | exact Below.refl _ _ | assumption | refine Below.drew ?_ | refine bdn ?_ | refine ba _ ?_ | refine bs0 _ _ ?_ ?_ | refine bs1 _ _ _ ?_ ?_ | refine bs2 _ _ _ _ ?_ ?_ | refine bs3 _ _ _ _ _ ?_ ?_ | refine bt3 (by assumption) ?_))))).mono ?_); rintro e1 w1 ⟨g, rfl, hg, hs, hb⟩; have HA : Hd (SrcAt w w1 g) := ⟨hs, by (first | assumption | (simpa using hg)), bt3 hb (by (repeat (first | exact Below.refl _ _ | assumption | refine Below.drew ?_ | refine bdn ?_ | refine ba _ ?_ | refine bs0 _ _ ?_ ?_ | refine bs1 _ _ _ ?_ ?_ | refine bs2 _ _ _ _ ?_ ?_ | refine bs3 _ _ _ _ _ ?_ ?_ | refine bt3 (by assumption) ?_)))⟩; have hq1 : Below w.heap.size w w1 := HA.out.bel; clear hg hs hb) | (go_at_call 145; (with_reducible refine (s_Some g _ (HA.out.below (by (repeat (first | exact Below.refl _ _ | assumption | refine Below.drew ?_ | refine bdn ?_ | refine ba _ ?_ | refine bs0 _ _ ?_ ?_ | refine bs1 _ _ _ ?_ ?_ | refine bs2 _ _ _ _ ?_ ?_ | refine bs3 _ _ _ _ _ ?_ ?_ | refine bt3 (by assumption) ?_)))).src).mono ?_); rintro e2 w2 ⟨A2, n2, c2, ys, rfl, hk, hl9⟩; have HS := Hd.mk (SoW.start (HA.out.below (by (repeat (first | exact Below.refl _ _ | assumption | refine Below.drew ?_ | refine bdn ?_ | refine ba _ ?_ | refine bs0 _ _ ?_ ?_ | refine bs1 _ _ _ ?_ ?_ | refine bs2 _ _ _ _ ?_ ?_ | refine bs3 _ _ _ _ _ ?_ ?_ | refine bt3 (by assumption) ?_)))) hk); have hq2 : Below w.heap.size w w2 := HS.out.bel; have HL := Hd.mk hl9; clear hk hl9))
  refine bodyPost_ret (v := .slice A2 n2 c2) (by simp (maxDischargeDepth := 7) [results, Tryz.results150, go_sem]) rfl ⟨A2, n2, c2, ys, rfl, HS.out.row.1, (by rw [HS.out.row.1]; exact HL.out), HS.out.row.2.1, HS.out.row.2.2, HS.out.bel⟩
set_option maxHeartbeats 4000000 in
theorem s_DrawGE (A : Option Addr) (n c : Nat) (xs : List Nat) (w : World) (hC : CodeP w w.heap.size A n xs) : Calls Tryz.prog 72 #[.slice A n c] w (RetFLx w) := by
  have HC := Hd.mk hC
  clear hC
  go_enter Tryz.func72, Tryz.ntmps72
  go_wp2_with (first | (go_at_call 108; (with_reducible refine (s_From A n c xs _ (HC.out.more' (by (repeat (first | exact Below.refl _ _ | assumption | refine Below.drew ?_ | refine bdn ?_ | refine ba _ ?_ | refine bs0 _ _ ?_ ?_ | refine bs1 _ _ _ ?_ ?_ | refine bs2 _ _ _ _ ?_ ?_ | refine bs3 _ _ _ _ _ ?_ ?_ | refine bt3 (by assumption) ?_))))).mono ?_); rintro e1 w1 ⟨g, rfl, hg, hs, hb⟩; have HA : Hd (SrcAt w w1 g) := ⟨hs, by (first | assumption | (simpa using hg)), bt3 hb (by (repeat (first | exact Below.refl _ _ | assumption | refine Below.drew ?_ | refine bdn ?_ | refine ba _ ?_ | refine bs0 _ _ ?_ ?_ | refine bs1 _ _ _ ?_ ?_ | refine bs2 _ _ _ _ ?_ ?_ | refine bs3 _ _ _ _ _ ?_ ?_ | refine bt3 (by assumption) ?_)))⟩; have hq1 : Below w.heap.size w w1 := HA.out.bel; clear hg hs hb) | (go_at_call 145; (with_reducible refine (s_Some g _ (HA.out.below (by (repeat (first | exact Below.refl _ _ | assumption | refine Below.drew ?_ | refine bdn ?_ | refine ba _ ?_ | refine bs0 _ _ ?_ ?_ | refine bs1 _ _ _ ?_ ?_ | refine bs2 _ _ _ _ ?_ ?_ | refine bs3 _ _ _ _ _ ?_ ?_ | refine bt3 (by assumption) ?_)))).src).mono ?_); rintro e2 w2 ⟨A2, n2, c2, ys, rfl, hk, hl9⟩; have HS := Hd.mk (SoW.start (HA.out.below (by (repeat (first | exact Below.refl _ _ | assumption | refine Below.drew ?_ | refine bdn ?_ | refine ba _ ?_ | refine bs0 _ _ ?_ ?_ | refine bs1 _ _ _ ?_ ?_ | refine bs2 _ _ _ _ ?_ ?_ | refine bs3 _ _ _ _ _ ?_ ?_ | refine bt3 (by assumption) ?_)))) hk); have hq2 : Below w.heap.size w w2 := HS.out.bel; have HL := Hd.mk hl9; clear hk hl9) | (go_at_call 146; (with_reducible refine (s_Spoil g _ (HS.out.below (by (repeat (first | exact Below.refl _ _ | assumption | refine Below.drew ?_ | refine bdn ?_ | refine ba _ ?_ | refine bs0 _ _ ?_ ?_ | refine bs1 _ _ _ ?_ ?_ | refine bs2 _ _ _ _ ?_ ?_ | refine bs3 _ _ _ _ _ ?_ ?_ | refine bt3 (by assumption) ?_)))).src).mono ?_); rintro e3 w3 ⟨x, rfl, hx, hs, hg⟩; replace HS := Hd.mk ((HS.out.below (by (repeat (first | exact Below.refl _ _ | assumption | refine Below.drew ?_ | refine bdn ?_ | refine ba _ ?_ | refine bs0 _ _ ?_ ?_ | refine bs1 _ _ _ ?_ ?_ | refine bs2 _ _ _ _ ?_ ?_ | refine bs3 _ _ _ _ _ ?_ ?_ | refine bt3 (by assumption) ?_)))).next hs hg); have HX := Hd.mk hx; clear hs hg hx))
  refine bodyPost_ret (v := .tuple #[.slice A2 n2 c2, .float .f32 x]) (by simp (maxDischargeDepth := 7) [results, Tryz.results72, go_sem]) rfl ⟨A2, n2, c2, ys, x, rfl, HS.out.row.1, (by rw [HS.out.row.1]; exact HL.out), HS.out.row.2.1, HS.out.row.2.2, HX.out, HS.out.bel⟩
set_option maxHeartbeats 4000000 in
theorem s_DrawRE (A : Option Addr) (n c : Nat) (xs : List Nat) (w : World) (hC : CodeP w w.heap.size A n xs) : Calls Tryz.prog 82 #[.slice A n c] w (RetFLm w) := by
  have HC := Hd.mk hC
  clear hC
  go_enter Tryz.func82, Tryz.ntmps82
  go_wp2_with (first | (go_at_call 108; (with_reducible refine (s_From A n c xs _ (HC.out.more' (by (repeat (first | exact Below.refl _ _ | assumption | refine Below.drew ?_ | refine bdn ?_ | refine ba _ ?_ | refine bs0 _ _ ?_ ?_ | refine bs1 _ _ _ ?_ ?_ | refine bs2 _ _ _ _ ?_ ?_ | refine bs3 _ _ _ _ _ ?_ ?_ | refine bt3 (by assumption) ?_))))).mono ?_); rintro e1 w1 ⟨g, rfl, hg, hs, hb⟩; have HA : Hd (SrcAt w w1 g) := ⟨hs, by (first | assumption | (simpa using hg)), bt3 hb (by (repeat (first | exact Below.refl _ _ | assumption | refine Below.drew ?_ | refine bdn ?_ | refine ba _ ?_ | refine bs0 _ _ ?_ ?_ | refine bs1 _ _ _ ?_ ?_ | refine bs2 _ _ _ _ ?_ ?_ | refine bs3 _ _ _ _ _ ?_ ?_ | refine bt3 (by assumption) ?_)))⟩; have hq1 : Below w.heap.size w w1 := HA.out.bel; clear hg hs hb) | (go_at_call 145; (with_reducible refine (s_Some g _ (HA.out.below (by (repeat (first | exact Below.refl _ _ | assumption | refine Below.drew ?_ | refine bdn ?_ | refine ba _ ?_ | refine bs0 _ _ ?_ ?_ | refine bs1 _ _ _ ?_ ?_ | refine bs2 _ _ _ _ ?_ ?_ | refine bs3 _ _ _ _ _ ?_ ?_ | refine bt3 (by assumption) ?_)))).src).mono ?_); rintro e2 w2 ⟨A2, n2, c2, ys, rfl, hk, hl9⟩; have HS := Hd.mk (SoW.start (HA.out.below (by (repeat (first | exact Below.refl _ _ | assumption | refine Below.drew ?_ | refine bdn ?_ | refine ba _ ?_ | refine bs0 _ _ ?_ ?_ | refine bs1 _ _ _ ?_ ?_ | refine bs2 _ _ _ _ ?_ ?_ | refine bs3 _ _ _ _ _ ?_ ?_ | refine bt3 (by assumption) ?_)))) hk); have hq2 : Below w.heap.size w w2 := HS.out.bel; have HL := Hd.mk hl9; clear hk hl9) | (go_at_call 110; refine (s_Pick g _ _ _ [(0 : Int), 1, 2, 3, 4, 5] _ (HS.out.below (by (repeat (first | exact Below.refl _ _ | assumption | refine Below.drew ?_ | refine bdn ?_ | refine ba _ ?_ | refine bs0 _ _ ?_ ?_ | refine bs1 _ _ _ ?_ ?_ | refine bs2 _ _ _ _ ?_ ?_ | refine bs3 _ _ _ _ _ ?_ ?_ | refine bt3 (by assumption) ?_)))).src (Blk.new _ _ _) rfl (by decide) (by decide) (by have := HS.out.src.lt; omega)).mono ?_; rintro e3 w3 ⟨k3, hk3, rfl, hs, hg⟩; replace HS := Hd.mk ((HS.out.below (by (repeat (first | exact Below.refl _ _ | assumption | refine Below.drew ?_ | refine bdn ?_ | refine ba _ ?_ | refine bs0 _ _ ?_ ?_ | refine bs1 _ _ _ ?_ ?_ | refine bs2 _ _ _ _ ?_ ?_ | refine bs3 _ _ _ _ _ ?_ ?_ | refine bt3 (by assumption) ?_)))).next hs hg); clear hs hg hk3; generalize List.getD [(0 : Int), 1, 2, 3, 4, 5] k3 0 = m at *))
  refine bodyPost_ret (v := .tuple #[.slice A2 n2 c2, .int .i64 m]) (by simp (maxDischargeDepth := 7) [results, Tryz.results82, go_sem]) rfl ⟨A2, n2, c2, ys, m, rfl, HS.out.row.1, (by rw [HS.out.row.1]; exact HL.out), HS.out.row.2.1, HS.out.row.2.2, HS.out.bel⟩
set_option maxHeartbeats 4000000 in
theorem s_DrawCE (A : Option Addr) (n c : Nat) (xs : List Nat) (w : World) (hC : CodeP w w.heap.size A n xs) : Calls Tryz.prog 77 #[.slice A n c] w (RetFL w) := by
  have HC := Hd.mk hC
  clear hC
  go_enter Tryz.func77, Tryz.ntmps77
  go_wp2_with (go_at_call 150; (with_reducible refine (s_DrawVE A n c xs _ HC.out).mono ?_); rintro e2 w2 ⟨A2, n2, c2, ys, rfl, h1, h2, h3, h4, h5⟩; have HS := Hd.mk (And.intro h1 (And.intro h2 (And.intro h3 (And.intro h4 h5)))); clear h1 h2 h3 h4 h5)
  refine bodyPost_ret (v := .slice A2 n2 c2) (by simp (maxDischargeDepth := 7) [results, Tryz.results77, go_sem]) rfl ⟨A2, n2, c2, ys, rfl, HS.out⟩
end Go.Proofs.YtflgjecpjaiecaaGreat
