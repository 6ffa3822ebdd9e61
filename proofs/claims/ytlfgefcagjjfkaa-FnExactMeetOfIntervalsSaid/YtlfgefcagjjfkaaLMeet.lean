/- For every two intervals the program's MeetOfIntervals answers as the reference's does, for all float words. -/
import Derived.Test.YtlfgefcagjjfkaaF7
import Derived.Test.YtlfgefcagjjfkaaRow
set_option linter.unusedVariables false
set_option linter.unusedSimpArgs false
namespace Go.Proofs.Ytlfgefcagjjfkaa
open Go.ChangeShapes Go.WideShapes Go.ChangeAt Go.RowKit Flt
set_option linter.unusedVariables false
set_option maxHeartbeats 2000000 in
theorem Meet.walk0 (a b c d : Nat) (w : World) (ha : W a) (hb : W b) (hc : W c) (hd : W d) (hi : IsIv a b) (hj : IsIv c d) (hm : pl (mxW a c) ≤ pl (mnW b d)) :
    Calls Try.prog 11 #[.agg #[.float .f32 a, .float .f32 b], .agg #[.float .f32 c, .float .f32 d]] w fun e w' => e = .returned (.bool true) ∧ Below w.heap.size w w' := by
  have HI : Hd (IsIv a b) := ⟨hi⟩
  have HJ : Hd (IsIv c d) := ⟨hj⟩
  have HM : Hd (pl (mxW a c) ≤ pl (mnW b d)) := ⟨hm⟩
  have HN : Hd (¬ nan (mxW a c) ∧ ¬ nan (mnW b d)) := ⟨⟨nan_mxW hi.1 hj.1, nan_mnW hi.2.1 hj.2.1⟩⟩
  clear hi hj hm
  have HA : Hd (W a) := ⟨ha⟩
  have HB : Hd (W b) := ⟨hb⟩
  have HC : Hd (W c) := ⟨hc⟩
  have HD : Hd (W d) := ⟨hd⟩
  clear ha hb hc hd
  go_enter Try.func11, Try.ntmps11
  go_upto_region 1 with fail
  have hB0 : Below w.heap.size w ((w.alloc (Obj.cells #[.float .f32 a, .float .f32 b] 30)).alloc (Obj.cells #[.float .f32 c, .float .f32 d] 30)) := ((Below.refl _ _).alloc (by simp) _).alloc (by simp) _
  have c0 : (((w.alloc (Obj.cells #[.float .f32 a, .float .f32 b] 30)).alloc (Obj.cells #[.float .f32 c, .float .f32 d] 30))).cell? ⟨w.heap.size, 0, none⟩ = some (.float .f32 a) := by go_simp
  have c1 : (((w.alloc (Obj.cells #[.float .f32 a, .float .f32 b] 30)).alloc (Obj.cells #[.float .f32 c, .float .f32 d] 30))).cell? ⟨w.heap.size, 1, none⟩ = some (.float .f32 b) := by go_simp
  have c2 : (((w.alloc (Obj.cells #[.float .f32 a, .float .f32 b] 30)).alloc (Obj.cells #[.float .f32 c, .float .f32 d] 30))).cell? ⟨w.heap.size + 1, 0, none⟩ = some (.float .f32 c) := by go_simp
  have c3 : (((w.alloc (Obj.cells #[.float .f32 a, .float .f32 b] 30)).alloc (Obj.cells #[.float .f32 c, .float .f32 d] 30))).cell? ⟨w.heap.size + 1, 1, none⟩ = some (.float .f32 d) := by go_simp
  generalize ((w.alloc (Obj.cells #[.float .f32 a, .float .f32 b] 30)).alloc (Obj.cells #[.float .f32 c, .float .f32 d] 30)) = W0 at *
  go_cut [5, 6] (fun s5 s6 wx => Cut1 W0 (mxW a c) (mnW b d) 0 s5 s6 wx)
  case first =>
    go_region_held3 (fun w' => w'.cell? ⟨w.heap.size, 0, none⟩ = some (.float .f32 a) ∧ w'.cell? ⟨w.heap.size, 1, none⟩ = some (.float .f32 b) ∧ w'.cell? ⟨w.heap.size + 1, 0, none⟩ = some (.float .f32 c) ∧ w'.cell? ⟨w.heap.size + 1, 1, none⟩ = some (.float .f32 d)) ((refine keep4 (W := W0) ?_ ⟨c0, c1, c2, c3⟩; (repeat (first | exact Below.refl _ _ | refine Below.drew ?_ | refine below_drewN _ ?_ | refine ba _ ?_ | refine bs0 _ _ ?_ ?_ | refine bs1 _ _ _ ?_ ?_ | refine bs2 _ _ _ _ ?_ ?_ | refine bs3 _ _ _ _ _ ?_ ?_ | refine bt3 (by assumption) ?_))))
      (first | (go_at_call 18; (with_reducible refine (l_toInterval _ _ _).mono ?_); rintro e w' ⟨rfl, hb⟩; (try replace hb := bt3 hb (by assumption)); obtain ⟨hc, hf, hz, hy⟩ := bcell hb; have hs := hb.size; (try simp at hs); (try have h0 : w.heap.size < w'.heap.size := by omega); (try have h1 : w.heap.size + 1 < w'.heap.size := by omega); (try have h2 : w.heap.size + 1 + 1 < w'.heap.size := by omega); clear hs) | (go_at_call 33; (with_reducible refine (s_MeetOfIntervals _ _ _ _ _ HA.out HB.out HC.out HD.out HI.out HJ.out HM.out).mono ?_); rintro e w' ⟨rfl, hb⟩; (try replace hb := bt3 hb (by assumption)); obtain ⟨hc, hf, hz, hy⟩ := bcell hb; have hs := hb.size; (try simp at hs); (try have h0 : w.heap.size < w'.heap.size := by omega); (try have h1 : w.heap.size + 1 < w'.heap.size := by omega); (try have h2 : w.heap.size + 1 + 1 < w'.heap.size := by omega); clear hs))
    all_goals
      go_wp2_with fail
      go_meet
      refine ⟨rfl, _, rfl, ?_, ?_, ?_⟩
      · go_simp
      · go_simp
      · (repeat (first | exact Below.refl _ _ | refine Below.drew ?_ | refine below_drewN _ ?_ | refine ba _ ?_ | refine bs0 _ _ ?_ ?_ | refine bs1 _ _ _ ?_ ?_ | refine bs2 _ _ _ _ ?_ ?_ | refine bs3 _ _ _ _ _ ?_ ?_ | refine bt3 (by assumption) ?_))
  case rest =>
    obtain ⟨rfl, g, rfl, g0, g1, hW⟩ := hcut
    have d0 := cb hW c0
    have d1 := cb hW c1
    have d2 := cb hW c2
    have d3 := cb hW c3
    go_upto_region 2 with fail
    go_cut [7, 8] (fun s7 s8 wx => Cut1 wc (mxW a c) (mnW b d) 0 s7 s8 wx)
    case first =>
      go_region_held3 (fun w' => w'.cell? ⟨w.heap.size, 0, none⟩ = some (.float .f32 a) ∧ w'.cell? ⟨w.heap.size, 1, none⟩ = some (.float .f32 b) ∧ w'.cell? ⟨w.heap.size + 1, 0, none⟩ = some (.float .f32 c) ∧ w'.cell? ⟨w.heap.size + 1, 1, none⟩ = some (.float .f32 d)) ((refine keep4 (W := wc) ?_ ⟨d0, d1, d2, d3⟩; (repeat (first | exact Below.refl _ _ | refine Below.drew ?_ | refine below_drewN _ ?_ | refine ba _ ?_ | refine bs0 _ _ ?_ ?_ | refine bs1 _ _ _ ?_ ?_ | refine bs2 _ _ _ _ ?_ ?_ | refine bs3 _ _ _ _ _ ?_ ?_ | refine bt3 (by assumption) ?_))))
        (first | (go_at_call 18; (with_reducible refine (l_toInterval _ _ _).mono ?_); rintro e w' ⟨rfl, hb⟩; (try replace hb := bt3 hb (by assumption)); obtain ⟨hc, hf, hz, hy⟩ := bcell hb; have hs := hb.size; (try simp at hs); (try have h0 : w.heap.size < w'.heap.size := by omega); (try have h1 : w.heap.size + 1 < w'.heap.size := by omega); (try have h2 : w.heap.size + 1 + 1 < w'.heap.size := by omega); clear hs) | (go_at_call 34; (with_reducible refine (i_MeetOfIntervals _ _ _ _ _ HA.out HB.out HC.out HD.out HI.out HJ.out HM.out).mono ?_); rintro e w' ⟨rfl, hb⟩; (try replace hb := bt3 hb (by assumption)); obtain ⟨hc, hf, hz, hy⟩ := bcell hb; have hs := hb.size; (try simp at hs); (try have h0 : w.heap.size < w'.heap.size := by omega); (try have h1 : w.heap.size + 1 < w'.heap.size := by omega); (try have h2 : w.heap.size + 1 + 1 < w'.heap.size := by omega); clear hs))
      all_goals
        go_wp2_with fail
        go_meet
        refine ⟨rfl, _, rfl, ?_, ?_, ?_⟩
        · go_simp
        · go_simp
        · (repeat (first | exact Below.refl _ _ | refine Below.drew ?_ | refine below_drewN _ ?_ | refine ba _ ?_ | refine bs0 _ _ ?_ ?_ | refine bs1 _ _ _ ?_ ?_ | refine bs2 _ _ _ _ ?_ ?_ | refine bs3 _ _ _ _ _ ?_ ?_ | refine bt3 (by assumption) ?_))
    case rest =>
      obtain ⟨rfl, k, rfl, k0, k1, hW2⟩ := hcut
      have e0 := cb hW2 g0
      have e1 := cb hW2 g1
      go_wp2_with (go_at_call 28; (with_reducible refine (l_eqInterval _ _ _ HN.out.1 HN.out.2).mono ?_); rintro e w' ⟨rfl, hb⟩)
      go_ret
      refine ⟨rfl, ?_⟩
      exact bt3' (bt3' (bt3' hB0 hW) hW2) hb
set_option maxHeartbeats 2000000 in
theorem Meet.walk1 (a b c d : Nat) (w : World) (ha : W a) (hb : W b) (hc : W c) (hd : W d) (hi : IsIv a b) (hj : IsIv c d) (hm : ¬ pl (mxW a c) ≤ pl (mnW b d)) :
    Calls Try.prog 11 #[.agg #[.float .f32 a, .float .f32 b], .agg #[.float .f32 c, .float .f32 d]] w fun e w' => e = .returned (.bool true) ∧ Below w.heap.size w w' := by
  have HI : Hd (IsIv a b) := ⟨hi⟩
  have HJ : Hd (IsIv c d) := ⟨hj⟩
  have HM : Hd (pl (mnW b d) < pl (mxW a c)) := ⟨by omega⟩
  have HN : Hd (¬ nan 0 ∧ ¬ nan 0) := ⟨⟨by decide, by decide⟩⟩
  clear hi hj hm
  have HA : Hd (W a) := ⟨ha⟩
  have HB : Hd (W b) := ⟨hb⟩
  have HC : Hd (W c) := ⟨hc⟩
  have HD : Hd (W d) := ⟨hd⟩
  clear ha hb hc hd
  go_enter Try.func11, Try.ntmps11
  go_upto_region 1 with fail
  have hB0 : Below w.heap.size w ((w.alloc (Obj.cells #[.float .f32 a, .float .f32 b] 30)).alloc (Obj.cells #[.float .f32 c, .float .f32 d] 30)) := ((Below.refl _ _).alloc (by simp) _).alloc (by simp) _
  have c0 : (((w.alloc (Obj.cells #[.float .f32 a, .float .f32 b] 30)).alloc (Obj.cells #[.float .f32 c, .float .f32 d] 30))).cell? ⟨w.heap.size, 0, none⟩ = some (.float .f32 a) := by go_simp
  have c1 : (((w.alloc (Obj.cells #[.float .f32 a, .float .f32 b] 30)).alloc (Obj.cells #[.float .f32 c, .float .f32 d] 30))).cell? ⟨w.heap.size, 1, none⟩ = some (.float .f32 b) := by go_simp
  have c2 : (((w.alloc (Obj.cells #[.float .f32 a, .float .f32 b] 30)).alloc (Obj.cells #[.float .f32 c, .float .f32 d] 30))).cell? ⟨w.heap.size + 1, 0, none⟩ = some (.float .f32 c) := by go_simp
  have c3 : (((w.alloc (Obj.cells #[.float .f32 a, .float .f32 b] 30)).alloc (Obj.cells #[.float .f32 c, .float .f32 d] 30))).cell? ⟨w.heap.size + 1, 1, none⟩ = some (.float .f32 d) := by go_simp
  generalize ((w.alloc (Obj.cells #[.float .f32 a, .float .f32 b] 30)).alloc (Obj.cells #[.float .f32 c, .float .f32 d] 30)) = W0 at *
  go_cut [5, 6] (fun s5 s6 wx => Cut1 W0 0 0 4 s5 s6 wx)
  case first =>
    go_region_held3 (fun w' => w'.cell? ⟨w.heap.size, 0, none⟩ = some (.float .f32 a) ∧ w'.cell? ⟨w.heap.size, 1, none⟩ = some (.float .f32 b) ∧ w'.cell? ⟨w.heap.size + 1, 0, none⟩ = some (.float .f32 c) ∧ w'.cell? ⟨w.heap.size + 1, 1, none⟩ = some (.float .f32 d)) ((refine keep4 (W := W0) ?_ ⟨c0, c1, c2, c3⟩; (repeat (first | exact Below.refl _ _ | refine Below.drew ?_ | refine below_drewN _ ?_ | refine ba _ ?_ | refine bs0 _ _ ?_ ?_ | refine bs1 _ _ _ ?_ ?_ | refine bs2 _ _ _ _ ?_ ?_ | refine bs3 _ _ _ _ _ ?_ ?_ | refine bt3 (by assumption) ?_))))
      (first | (go_at_call 18; (with_reducible refine (l_toInterval _ _ _).mono ?_); rintro e w' ⟨rfl, hb⟩; (try replace hb := bt3 hb (by assumption)); obtain ⟨hc, hf, hz, hy⟩ := bcell hb; have hs := hb.size; (try simp at hs); (try have h0 : w.heap.size < w'.heap.size := by omega); (try have h1 : w.heap.size + 1 < w'.heap.size := by omega); (try have h2 : w.heap.size + 1 + 1 < w'.heap.size := by omega); clear hs) | (go_at_call 33; (with_reducible refine (s_MeetNone _ _ _ _ _ HA.out HB.out HC.out HD.out HI.out HJ.out (Int.not_le.2 HM.out)).mono ?_); rintro e w' ⟨rfl, hb⟩; (try replace hb := bt3 hb (by assumption)); obtain ⟨hc, hf, hz, hy⟩ := bcell hb; have hs := hb.size; (try simp at hs); (try have h0 : w.heap.size < w'.heap.size := by omega); (try have h1 : w.heap.size + 1 < w'.heap.size := by omega); (try have h2 : w.heap.size + 1 + 1 < w'.heap.size := by omega); clear hs))
    all_goals
      go_wp2_with fail
      go_meet
      refine ⟨rfl, _, rfl, ?_, ?_, ?_⟩
      · go_simp
      · go_simp
      · (repeat (first | exact Below.refl _ _ | refine Below.drew ?_ | refine below_drewN _ ?_ | refine ba _ ?_ | refine bs0 _ _ ?_ ?_ | refine bs1 _ _ _ ?_ ?_ | refine bs2 _ _ _ _ ?_ ?_ | refine bs3 _ _ _ _ _ ?_ ?_ | refine bt3 (by assumption) ?_))
  case rest =>
    obtain ⟨rfl, g, rfl, g0, g1, hW⟩ := hcut
    have d0 := cb hW c0
    have d1 := cb hW c1
    have d2 := cb hW c2
    have d3 := cb hW c3
    go_upto_region 2 with fail
    go_cut [7, 8] (fun s7 s8 wx => Cut1 wc 0 0 4 s7 s8 wx)
    case first =>
      go_region_held3 (fun w' => w'.cell? ⟨w.heap.size, 0, none⟩ = some (.float .f32 a) ∧ w'.cell? ⟨w.heap.size, 1, none⟩ = some (.float .f32 b) ∧ w'.cell? ⟨w.heap.size + 1, 0, none⟩ = some (.float .f32 c) ∧ w'.cell? ⟨w.heap.size + 1, 1, none⟩ = some (.float .f32 d)) ((refine keep4 (W := wc) ?_ ⟨d0, d1, d2, d3⟩; (repeat (first | exact Below.refl _ _ | refine Below.drew ?_ | refine below_drewN _ ?_ | refine ba _ ?_ | refine bs0 _ _ ?_ ?_ | refine bs1 _ _ _ ?_ ?_ | refine bs2 _ _ _ _ ?_ ?_ | refine bs3 _ _ _ _ _ ?_ ?_ | refine bt3 (by assumption) ?_))))
        (first | (go_at_call 18; (with_reducible refine (l_toInterval _ _ _).mono ?_); rintro e w' ⟨rfl, hb⟩; (try replace hb := bt3 hb (by assumption)); obtain ⟨hc, hf, hz, hy⟩ := bcell hb; have hs := hb.size; (try simp at hs); (try have h0 : w.heap.size < w'.heap.size := by omega); (try have h1 : w.heap.size + 1 < w'.heap.size := by omega); (try have h2 : w.heap.size + 1 + 1 < w'.heap.size := by omega); clear hs) | (go_at_call 34; (with_reducible refine (i_MeetNone _ _ _ _ _ HA.out HB.out HC.out HD.out HI.out HJ.out (Int.not_le.2 HM.out)).mono ?_); rintro e w' ⟨rfl, hb⟩; (try replace hb := bt3 hb (by assumption)); obtain ⟨hc, hf, hz, hy⟩ := bcell hb; have hs := hb.size; (try simp at hs); (try have h0 : w.heap.size < w'.heap.size := by omega); (try have h1 : w.heap.size + 1 < w'.heap.size := by omega); (try have h2 : w.heap.size + 1 + 1 < w'.heap.size := by omega); clear hs))
      all_goals
        go_wp2_with fail
        go_meet
        refine ⟨rfl, _, rfl, ?_, ?_, ?_⟩
        · go_simp
        · go_simp
        · (repeat (first | exact Below.refl _ _ | refine Below.drew ?_ | refine below_drewN _ ?_ | refine ba _ ?_ | refine bs0 _ _ ?_ ?_ | refine bs1 _ _ _ ?_ ?_ | refine bs2 _ _ _ _ ?_ ?_ | refine bs3 _ _ _ _ _ ?_ ?_ | refine bt3 (by assumption) ?_))
    case rest =>
      obtain ⟨rfl, k, rfl, k0, k1, hW2⟩ := hcut
      have e0 := cb hW2 g0
      have e1 := cb hW2 g1
      go_wp2_with (go_at_call 28; (with_reducible refine (l_eqInterval _ _ _ HN.out.1 HN.out.2).mono ?_); rintro e w' ⟨rfl, hb⟩)
      go_ret
      refine ⟨rfl, ?_⟩
      exact bt3' (bt3' (bt3' hB0 hW) hW2) hb
set_option maxHeartbeats 2000000 in
theorem Meet.walk2 (a b c d : Nat) (w : World) (ha : W a) (hb : W b) (hc : W c) (hd : W d) (hn : ¬ (IsIv a b ∧ IsIv c d)) :
    Calls Try.prog 11 #[.agg #[.float .f32 a, .float .f32 b], .agg #[.float .f32 c, .float .f32 d]] w fun e w' => e = .returned (.bool true) ∧ Below w.heap.size w w' := by
  have HB0 : Hd (IsIv a b → ¬ IsIv c d) := ⟨fun x y => hn ⟨x, y⟩⟩
  have HN : Hd (¬ nan 0 ∧ ¬ nan 0) := ⟨⟨by decide, by decide⟩⟩
  clear hn
  have HA : Hd (W a) := ⟨ha⟩
  have HB : Hd (W b) := ⟨hb⟩
  have HC : Hd (W c) := ⟨hc⟩
  have HD : Hd (W d) := ⟨hd⟩
  clear ha hb hc hd
  go_enter Try.func11, Try.ntmps11
  go_upto_region 1 with fail
  have hB0 : Below w.heap.size w ((w.alloc (Obj.cells #[.float .f32 a, .float .f32 b] 30)).alloc (Obj.cells #[.float .f32 c, .float .f32 d] 30)) := ((Below.refl _ _).alloc (by simp) _).alloc (by simp) _
  have c0 : (((w.alloc (Obj.cells #[.float .f32 a, .float .f32 b] 30)).alloc (Obj.cells #[.float .f32 c, .float .f32 d] 30))).cell? ⟨w.heap.size, 0, none⟩ = some (.float .f32 a) := by go_simp
  have c1 : (((w.alloc (Obj.cells #[.float .f32 a, .float .f32 b] 30)).alloc (Obj.cells #[.float .f32 c, .float .f32 d] 30))).cell? ⟨w.heap.size, 1, none⟩ = some (.float .f32 b) := by go_simp
  have c2 : (((w.alloc (Obj.cells #[.float .f32 a, .float .f32 b] 30)).alloc (Obj.cells #[.float .f32 c, .float .f32 d] 30))).cell? ⟨w.heap.size + 1, 0, none⟩ = some (.float .f32 c) := by go_simp
  have c3 : (((w.alloc (Obj.cells #[.float .f32 a, .float .f32 b] 30)).alloc (Obj.cells #[.float .f32 c, .float .f32 d] 30))).cell? ⟨w.heap.size + 1, 1, none⟩ = some (.float .f32 d) := by go_simp
  generalize ((w.alloc (Obj.cells #[.float .f32 a, .float .f32 b] 30)).alloc (Obj.cells #[.float .f32 c, .float .f32 d] 30)) = W0 at *
  go_cut [5, 6] (fun s5 s6 wx => Cut1 W0 0 0 1 s5 s6 wx)
  case first =>
    go_region_held3 (fun w' => w'.cell? ⟨w.heap.size, 0, none⟩ = some (.float .f32 a) ∧ w'.cell? ⟨w.heap.size, 1, none⟩ = some (.float .f32 b) ∧ w'.cell? ⟨w.heap.size + 1, 0, none⟩ = some (.float .f32 c) ∧ w'.cell? ⟨w.heap.size + 1, 1, none⟩ = some (.float .f32 d)) ((refine keep4 (W := W0) ?_ ⟨c0, c1, c2, c3⟩; (repeat (first | exact Below.refl _ _ | refine Below.drew ?_ | refine below_drewN _ ?_ | refine ba _ ?_ | refine bs0 _ _ ?_ ?_ | refine bs1 _ _ _ ?_ ?_ | refine bs2 _ _ _ _ ?_ ?_ | refine bs3 _ _ _ _ _ ?_ ?_ | refine bt3 (by assumption) ?_))))
      (first | (go_at_call 18; (with_reducible refine (l_toInterval _ _ _).mono ?_); rintro e w' ⟨rfl, hb⟩; (try replace hb := bt3 hb (by assumption)); obtain ⟨hc, hf, hz, hy⟩ := bcell hb; have hs := hb.size; (try simp at hs); (try have h0 : w.heap.size < w'.heap.size := by omega); (try have h1 : w.heap.size + 1 < w'.heap.size := by omega); (try have h2 : w.heap.size + 1 + 1 < w'.heap.size := by omega); clear hs) | (go_at_call 33; (with_reducible refine (s_MeetOfIntervalsN _ _ _ _ _ HA.out HB.out HC.out HD.out (fun k => absurd k.2 (HB0.out k.1))).mono ?_); rintro e w' ⟨rfl, hb⟩; (try replace hb := bt3 hb (by assumption)); obtain ⟨hc, hf, hz, hy⟩ := bcell hb; have hs := hb.size; (try simp at hs); (try have h0 : w.heap.size < w'.heap.size := by omega); (try have h1 : w.heap.size + 1 < w'.heap.size := by omega); (try have h2 : w.heap.size + 1 + 1 < w'.heap.size := by omega); clear hs))
    all_goals
      go_wp2_with fail
      go_meet
      refine ⟨rfl, _, rfl, ?_, ?_, ?_⟩
      · go_simp
      · go_simp
      · (repeat (first | exact Below.refl _ _ | refine Below.drew ?_ | refine below_drewN _ ?_ | refine ba _ ?_ | refine bs0 _ _ ?_ ?_ | refine bs1 _ _ _ ?_ ?_ | refine bs2 _ _ _ _ ?_ ?_ | refine bs3 _ _ _ _ _ ?_ ?_ | refine bt3 (by assumption) ?_))
  case rest =>
    obtain ⟨rfl, g, rfl, g0, g1, hW⟩ := hcut
    have d0 := cb hW c0
    have d1 := cb hW c1
    have d2 := cb hW c2
    have d3 := cb hW c3
    go_upto_region 2 with fail
    go_cut [7, 8] (fun s7 s8 wx => Cut1 wc 0 0 1 s7 s8 wx)
    case first =>
      go_region_held3 (fun w' => w'.cell? ⟨w.heap.size, 0, none⟩ = some (.float .f32 a) ∧ w'.cell? ⟨w.heap.size, 1, none⟩ = some (.float .f32 b) ∧ w'.cell? ⟨w.heap.size + 1, 0, none⟩ = some (.float .f32 c) ∧ w'.cell? ⟨w.heap.size + 1, 1, none⟩ = some (.float .f32 d)) ((refine keep4 (W := wc) ?_ ⟨d0, d1, d2, d3⟩; (repeat (first | exact Below.refl _ _ | refine Below.drew ?_ | refine below_drewN _ ?_ | refine ba _ ?_ | refine bs0 _ _ ?_ ?_ | refine bs1 _ _ _ ?_ ?_ | refine bs2 _ _ _ _ ?_ ?_ | refine bs3 _ _ _ _ _ ?_ ?_ | refine bt3 (by assumption) ?_))))
        (first | (go_at_call 18; (with_reducible refine (l_toInterval _ _ _).mono ?_); rintro e w' ⟨rfl, hb⟩; (try replace hb := bt3 hb (by assumption)); obtain ⟨hc, hf, hz, hy⟩ := bcell hb; have hs := hb.size; (try simp at hs); (try have h0 : w.heap.size < w'.heap.size := by omega); (try have h1 : w.heap.size + 1 < w'.heap.size := by omega); (try have h2 : w.heap.size + 1 + 1 < w'.heap.size := by omega); clear hs) | (go_at_call 34; (with_reducible refine (i_MeetOfIntervalsN _ _ _ _ _ HA.out HB.out HC.out HD.out (fun k => absurd k.2 (HB0.out k.1))).mono ?_); rintro e w' ⟨rfl, hb⟩; (try replace hb := bt3 hb (by assumption)); obtain ⟨hc, hf, hz, hy⟩ := bcell hb; have hs := hb.size; (try simp at hs); (try have h0 : w.heap.size < w'.heap.size := by omega); (try have h1 : w.heap.size + 1 < w'.heap.size := by omega); (try have h2 : w.heap.size + 1 + 1 < w'.heap.size := by omega); clear hs))
      all_goals
        go_wp2_with fail
        go_meet
        refine ⟨rfl, _, rfl, ?_, ?_, ?_⟩
        · go_simp
        · go_simp
        · (repeat (first | exact Below.refl _ _ | refine Below.drew ?_ | refine below_drewN _ ?_ | refine ba _ ?_ | refine bs0 _ _ ?_ ?_ | refine bs1 _ _ _ ?_ ?_ | refine bs2 _ _ _ _ ?_ ?_ | refine bs3 _ _ _ _ _ ?_ ?_ | refine bt3 (by assumption) ?_))
    case rest =>
      obtain ⟨rfl, k, rfl, k0, k1, hW2⟩ := hcut
      have e0 := cb hW2 g0
      have e1 := cb hW2 g1
      go_wp2_with (go_at_call 28; (with_reducible refine (l_eqInterval _ _ _ HN.out.1 HN.out.2).mono ?_); rintro e w' ⟨rfl, hb⟩)
      go_ret
      refine ⟨rfl, ?_⟩
      exact bt3' (bt3' (bt3' hB0 hW) hW2) hb
theorem Meet.walk (a b c d : Nat) (w : World) (ha : W a) (hb : W b) (hc : W c) (hd : W d) :
    Calls Try.prog 11 #[.agg #[.float .f32 a, .float .f32 b], .agg #[.float .f32 c, .float .f32 d]] w fun e w' => e = .returned (.bool true) ∧ Below w.heap.size w w' := by
  by_cases h : IsIv a b ∧ IsIv c d
  · by_cases h1 : pl (mxW a c) ≤ pl (mnW b d)
    · exact Meet.walk0 a b c d w ha hb hc hd h.1 h.2 h1
    · exact Meet.walk1 a b c d w ha hb hc hd h.1 h.2 h1
  · exact Meet.walk2 a b c d w ha hb hc hd h
set_option maxRecDepth 100000 in
theorem Meet.lifted (os : Os) (started : os.Started) (H : Type) (enc : TypeId × Value → H) :
    ReturnsInHanded {} Try.checked os 11 .any (Rows.fnExactMeetOfIntervalsSpec.pre6 enc Try.prog Try.f11 Rows.fnExactMeetOfIntervalsRow.domain false) (Rows.fnExactMeetOfIntervalsSpec.post enc Try.prog Try.f11 false true false false) := by
  refine returnsInHanded_of_change (C := Try.checked) rowOwn started (by kernel_rfl) Try.func11
    (ChangeSpec.witness6 (enc := enc) (C := Try.checked) false ⟨#[], #[.agg #[.float .f32 0, .float .f32 0], .agg #[.float .f32 0, .float .f32 0]], []⟩ 8 (by kernel_rfl) (by kernel_rfl) (by kernel_rfl) (by kernel_rfl)) ?_
  intro W base args ds gs before hval0 hW hcnd _
  have hval : ∀ (j : Nat) t v, Try.f11.params[j]? = some t → args[j]? = some v → Value.okWide Try.prog W .any base t v := hval0
  have hW' := hW
  obtain ⟨p, q, hA0, hV, rfl, hfz, hnd⟩ := hW
  have hA : DataW.TrodAll enc Try.prog W 0 (fun _ => true) true Try.f11.params.toList args.toList ds p := hA0
  rw [Try.params11] at hA hval
  obtain ⟨v0, vs0, d0, ds0, p0, q0, hv0, rfl, rfl, h0, r0⟩ := trodAll_cons hA
  obtain ⟨v1, vs1, d1, ds1, p1, q1, hv1, rfl, rfl, h1, r1⟩ := trodAll_cons r0
  subst hv1
  obtain ⟨rfl, rfl, rfl⟩ := trodAll_nil r1
  obtain rfl : args = #[v0, v1] := by cases args; simp_all
  obtain ⟨rfl, rfl⟩ := trodVars_none hV
  obtain ⟨a, b, rfl, rfl, rfl, wa, wb⟩ := open_f2 Try.underlying30 (by kernel_rfl) (by kernel_rfl) Try.underlying22 Try.underlying22 (hval 0 30 v0 rfl rfl) h0
  obtain ⟨c, d, rfl, rfl, rfl, wc, wd⟩ := open_f2 Try.underlying30 (by kernel_rfl) (by kernel_rfl) Try.underlying22 Try.underlying22 (hval 1 30 v1 rfl rfl) h1
  clear hA0 hval0
  simp only [List.append_nil] at hW'
  refine (Meet.walk a b c d W (Flt.W_of_wf wa) (Flt.W_of_wf wb) (Flt.W_of_wf wc) (Flt.W_of_wf wd)).mono fun e W' ⟨he, hg⟩ => ?_
  subst he
  exact ⟨_, rfl, post_of_below (pa := []) (pv := []) hW' (fun _ _ _ => (trodAll_cons_mk (shut_bool Try.underlying4 _) trodAll_mk0)) (fun sp _ => (trodAll_cons_mk (shut_f2 Try.underlying30 (by kernel_rfl) (by kernel_rfl) Try.underlying22 Try.underlying22 wa wb) (trodAll_cons_mk (shut_f2 Try.underlying30 (by kernel_rfl) (by kernel_rfl) Try.underlying22 Try.underlying22 wc wd) trodAll_mk0))) (fun _ _ => rfl) rfl hg (ok_one (by kernel_rfl) rfl (okWide_bool_mk Try.underlying4 _))⟩
theorem Meet.holds : Rows.FnExactMeetOfIntervalsSaid :=
  OpenClaim.holds_of_wide 11 Try.f11 rfl rfl rfl rfl rfl rfl rfl ⟨rfl, rfl, rfl, rfl, rfl⟩ rfl rfl rfl rfl rfl (by kernel_rfl) Try.func11 (by kernel_rfl)
    (of_decide_eq_true (by kernel_rfl)) (by unfold Func.isWrapper; first | (rw [if_pos (by decide +kernel)]; kernel_rfl) | (rw [if_neg (by decide +kernel)]; exact ⟨rfl, rfl⟩))
    (fun os started H enc _ => Meet.lifted os started H enc)
#print axioms Meet.holds
end Go.Proofs.Ytlfgefcagjjfkaa
