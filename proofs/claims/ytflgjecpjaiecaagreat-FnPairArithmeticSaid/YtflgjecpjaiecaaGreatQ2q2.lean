/- Contracts: quotients of pairs, the reference's side. -/
import Derived.Test.YtflgjecpjaiecaaGreatQ1q2
set_option linter.unusedVariables false
set_option linter.unusedSimpArgs false
namespace Go.Proofs.YtflgjecpjaiecaaGreat
open Go.RowKit Num Flt
theorem subW_W (x y : Nat) : W (subW x y) := by
  unfold subW
  cases h : floatBits .sub .f32 x y with
  | none => show 0 < 4294967296; decide
  | some r => have := W_of_wf (floatBits_wf h); exact this
theorem mp_W (c d A : Nat) : W (mpHi c d A 0) ∧ W (mpLo c d A 0) := ⟨addW_W _ _, subW_W _ _⟩
theorem ap_W (a b c d : Nat) : W (apHi a b c d) ∧ W (apLo a b c d) := ⟨addW_W _ _, subW_W _ _⟩
theorem zero_fw : W 0 ∧ fin 0 := ⟨by unfold W; decide, by decide⟩
set_option maxHeartbeats 4000000 in
theorem s_OverN2 (a b c d : Nat) (w : World) (ha : W a) (hb : W b) (hc : W c) (hd : W d) (fa : fin a) (fb : fin b) (fc : fin c) (fd : fin d) (hz : ¬ (c = 0 ∨ c = 2147483648)) (fA : fin (quW a c)) (hk : mpOk c d (quW a c) 0 = false) (H L : Nat) : Calls Tryz.prog 93 #[.agg #[.float .f32 a, .float .f32 b], .agg #[.float .f32 c, .float .f32 d]] w (RetA false H L w) := by
  have qs := quo_some fa fc hc hz
  have kq := fun w => run_float_arith (P := Tryz.prog) w .quo 22 .f32 a c _ qs.1
  have CA := Hd.mk (fun w => s_Finite (quW a c) w)
  rw [decide_eq_true fA] at CA
  have HT := Hd.mk (fun w => s_TimesP c d (quW a c) 0 w hc hd qs.2.1 zero_fw.1 fc fd fA zero_fw.2)
  rw [hk] at HT
  clear ha hb hc hd fa fb fc fd hz hk fA qs
  generalize quW a c = A at *
  go_enter Tryz.func93, Tryz.ntmps93
  go_wp2_with (first | (go_at_call 125; (with_reducible refine (CA.out _).mono ?_); rintro e w' ⟨rfl, ⟨nd, rfl⟩⟩) | (go_at_call 123; (with_reducible refine (HT.out _).mono ?_); rintro e1 w1 ⟨ph, pl, rfl, hhl, hb⟩; have HH := Hd.mk hhl; have HP := Hd.mk ((PW.start w a b c d).below (bt3 hb (by (repeat (first | exact Below.refl _ _ | assumption | refine Below.drew ?_ | refine bdn ?_ | refine ba _ ?_ | refine bs0 _ _ ?_ ?_ | refine bs1 _ _ _ ?_ ?_ | refine bs2 _ _ _ _ ?_ ?_ | refine bs3 _ _ _ _ _ ?_ ?_ | refine bt3 (by assumption) ?_))))); have c0 : w1.cell? _ = some (.float .f32 a) := HP.out.b0.cell 0; have c1 : w1.cell? _ = some (.float .f32 b) := HP.out.b0.cell 1; have d0 : w1.cell? _ = some (.float .f32 c) := HP.out.b1.cell 0; have d1 : w1.cell? _ = some (.float .f32 d) := HP.out.b1.cell 1; have z0 : w.heap.size < w1.heap.size := HP.out.b0.lt; have z1 : w.heap.size + 1 < w1.heap.size := HP.out.b1.lt; have z2 : w.heap.size + 1 + 1 < w1.heap.size := HP.out.b2.lt; have r0 : w1.cell? _ = some (.float .f32 0) := HP.out.b2.cell 0; have r1 : w1.cell? _ = some (.float .f32 0) := HP.out.b2.cell 1; have q0 := HP.out.b2.frozen 0; have q1 := HP.out.b2.frozen 1; clear hb hhl))
  refine bodyPost_ret (v := .tuple #[.agg #[.float .f32 0, .float .f32 0], .bool false]) (by simp (maxDischargeDepth := 7) [results, Tryz.results93, go_sem, *]) rfl ⟨0, 0, rfl, fun k => (by cases k), (by have hbb := HP.out.bel; (repeat (first | exact Below.refl _ _ | assumption | refine Below.drew ?_ | refine bdn ?_ | refine ba _ ?_ | refine bs0 _ _ ?_ ?_ | refine bs1 _ _ _ ?_ ?_ | refine bs2 _ _ _ _ ?_ ?_ | refine bs3 _ _ _ _ _ ?_ ?_ | refine bt3 (by assumption) ?_)))⟩
theorem times_yes (c d A : Nat) (w : World) (hc : W c) (hd : W d) (hA : W A) (fc : fin c) (fd : fin d) (fA : fin A) (hk : mpOk c d A 0 = true) : Calls Tryz.prog 123 #[.agg #[.float .f32 c, .float .f32 d], .agg #[.float .f32 A, .float .f32 0]] w (RetV (.tuple #[.agg #[.float .f32 (mpHi c d A 0), .float .f32 (mpLo c d A 0)], .bool true]) w) := by
  have h := s_TimesP c d A 0 w hc hd hA zero_fw.1 fc fd fA zero_fw.2
  rw [hk] at h
  exact h.mono fun e w' k => RetA.yes k
set_option maxHeartbeats 4000000 in
theorem s_OverN3 (a b c d : Nat) (w : World) (ha : W a) (hb : W b) (hc : W c) (hd : W d) (fa : fin a) (fb : fin b) (fc : fin c) (fd : fin d) (hz : ¬ (c = 0 ∨ c = 2147483648)) (fA : fin (quW a c)) (hk : mpOk c d (quW a c) 0 = true) (hk2 : apOk a b (ng (mpHi c d (quW a c) 0)) (ng (mpLo c d (quW a c) 0)) = false) (H L : Nat) : Calls Tryz.prog 93 #[.agg #[.float .f32 a, .float .f32 b], .agg #[.float .f32 c, .float .f32 d]] w (RetA false H L w) := by
  have qs := quo_some fa fc hc hz; have kq := fun w => run_float_arith (P := Tryz.prog) w .quo 22 .f32 a c _ qs.1; have hm := mpOk_num hk; have hmw := mp_W c d (quW a c)
  have CA := Hd.mk (fun w => s_Finite (quW a c) w)
  rw [decide_eq_true fA] at CA
  have HT := Hd.mk (fun w => times_yes c d (quW a c) w hc hd qs.2.1 fc fd fA hk)
  have T1 := Hd.mk (fun w => s_Turned (mpHi c d (quW a c) 0) w hmw.1 (fin_num hm.1))
  have T2 := Hd.mk (fun w => s_Turned (mpLo c d (quW a c) 0) w hmw.2 (fin_num hm.2))
  have HA2 := Hd.mk (fun w => s_AddP a b (ng (mpHi c d (quW a c) 0)) (ng (mpLo c d (quW a c) 0)) w ha hb (W_ng hmw.1) (W_ng hmw.2) fa fb (fin_ngx hmw.1 hm.1) (fin_ngx hmw.2 hm.2))
  rw [hk2] at HA2
  clear ha hb hc hd fa fb fc fd hz hk fA qs hm hmw hk2
  generalize apHi a b (ng (mpHi c d (quW a c) 0)) (ng (mpLo c d (quW a c) 0)) = Rh at *
  generalize apLo a b (ng (mpHi c d (quW a c) 0)) (ng (mpLo c d (quW a c) 0)) = Rl at *
  generalize mpHi c d (quW a c) 0 = Ph at *
  generalize mpLo c d (quW a c) 0 = Pl at *
  generalize quW a c = A at *
  go_enter Tryz.func93, Tryz.ntmps93
  go_upto_region 7 with (first | (go_at_call 125; (with_reducible refine (CA.out _).mono ?_); rintro e w' ⟨rfl, ⟨nd, rfl⟩⟩) | (go_at_call 123; (with_reducible refine (HT.out _).mono ?_); rintro e1 w1 ⟨rfl, hb⟩; have HP := Hd.mk ((PW.start w a b c d).below (bt3 hb (by (repeat (first | exact Below.refl _ _ | assumption | refine Below.drew ?_ | refine bdn ?_ | refine ba _ ?_ | refine bs0 _ _ ?_ ?_ | refine bs1 _ _ _ ?_ ?_ | refine bs2 _ _ _ _ ?_ ?_ | refine bs3 _ _ _ _ _ ?_ ?_ | refine bt3 (by assumption) ?_))))); have c0 : w1.cell? _ = some (.float .f32 a) := HP.out.b0.cell 0; have c1 : w1.cell? _ = some (.float .f32 b) := HP.out.b0.cell 1; have d0 : w1.cell? _ = some (.float .f32 c) := HP.out.b1.cell 0; have d1 : w1.cell? _ = some (.float .f32 d) := HP.out.b1.cell 1; have z0 : w.heap.size < w1.heap.size := HP.out.b0.lt; have z1 : w.heap.size + 1 < w1.heap.size := HP.out.b1.lt; have z2 : w.heap.size + 1 + 1 < w1.heap.size := HP.out.b2.lt; have r0 : w1.cell? _ = some (.float .f32 0) := HP.out.b2.cell 0; have r1 : w1.cell? _ = some (.float .f32 0) := HP.out.b2.cell 1; have q0 := HP.out.b2.frozen 0; have q1 := HP.out.b2.frozen 1; clear hb))
  have HP7 : Hd (PW w (w1.alloc (Obj.cells #[.float .f32 Ph, .float .f32 Pl] 30)) a b c d) := ⟨HP.out.below (ba _ (Below.refl _ _))⟩; have p0 : (w1.alloc (Obj.cells #[.float .f32 Ph, .float .f32 Pl] 30)).cell? ⟨w1.heap.size, 0, none⟩ = some (.float .f32 Ph) := (by go_simp); have p1 : (w1.alloc (Obj.cells #[.float .f32 Ph, .float .f32 Pl] 30)).cell? ⟨w1.heap.size, 1, none⟩ = some (.float .f32 Pl) := (by go_simp); have pz : w1.heap.size < (w1.alloc (Obj.cells #[.float .f32 Ph, .float .f32 Pl] 30)).heap.size := (by simp); generalize (w1.alloc (Obj.cells #[.float .f32 Ph, .float .f32 Pl] 30)) = W7 at *; generalize w1.heap.size = gp at *; (repeat (first | clear r0 | clear r1 | clear q0 | clear q1 | clear c0 | clear c1 | clear d0 | clear d1 | clear z0 | clear z1 | clear z2)); clear HP HT; have HP := HP7; clear HP7; have c0 : W7.cell? _ = some (.float .f32 a) := HP.out.b0.cell 0; have c1 : W7.cell? _ = some (.float .f32 b) := HP.out.b0.cell 1; have d0 : W7.cell? _ = some (.float .f32 c) := HP.out.b1.cell 0; have d1 : W7.cell? _ = some (.float .f32 d) := HP.out.b1.cell 1; have z0 : w.heap.size < W7.heap.size := HP.out.b0.lt; have z1 : w.heap.size + 1 < W7.heap.size := HP.out.b1.lt; have z2 : w.heap.size + 1 + 1 < W7.heap.size := HP.out.b2.lt
  go_cut [9, 10] (fun s9 s10 wx => Cut7 W7 (fun x y => (false = true → x = Rh ∧ y = Rl)) false s9 s10 wx)
  case first =>
    go_region_held3 (fun w' => w'.cell? ⟨w.heap.size, 0, none⟩ = some (.float .f32 a) ∧ w'.cell? ⟨w.heap.size, 1, none⟩ = some (.float .f32 b) ∧ w'.cell? ⟨gp, 0, none⟩ = some (.float .f32 Ph) ∧ w'.cell? ⟨gp, 1, none⟩ = some (.float .f32 Pl)) ((first | assumption | (refine keep4 (W := W7) ?_ ⟨c0, c1, p0, p1⟩; (repeat (first | exact Below.refl _ _ | assumption | refine Below.drew ?_ | refine bdn ?_ | refine ba _ ?_ | refine bs0 _ _ ?_ ?_ | refine bs1 _ _ _ ?_ ?_ | refine bs2 _ _ _ _ ?_ ?_ | refine bs3 _ _ _ _ _ ?_ ?_ | refine bt3 (by assumption) ?_)); done) | go_keep | (refine ⟨?_, ?_, ?_, ?_⟩ <;> go_simp))) (first | (go_at_call 104; (with_reducible refine (T1.out _).mono ?_); rintro e w' ⟨rfl, rfl⟩) | (go_at_call 104; (with_reducible refine (T2.out _).mono ?_); rintro e w' ⟨rfl, rfl⟩) | (go_at_call 121; (with_reducible refine (HA2.out _).mono ?_); rintro e2 w2 ⟨rh, rl, rfl, hhl, hb⟩; have hq2 : Below W7.heap.size W7 w2 := bt3 hb (by (repeat (first | exact Below.refl _ _ | assumption | refine Below.drew ?_ | refine bdn ?_ | refine ba _ ?_ | refine bs0 _ _ ?_ ?_ | refine bs1 _ _ _ ?_ ?_ | refine bs2 _ _ _ _ ?_ ?_ | refine bs3 _ _ _ _ _ ?_ ?_ | refine bt3 (by assumption) ?_))); have HH := Hd.mk hhl; obtain ⟨hc, hf, hz, hy⟩ := bcell hb; have hs := hb.size; (try simp at hs); (try have h0 : W7.heap.size < w2.heap.size := (by omega)); clear hb hhl hs))
    all_goals
      go_wp2_with fail
      go_meet; refine ⟨rfl, _, _, _, rfl, HH, ⟨?_⟩, ?_⟩; (first | go_simp | (go_simp; done)); (repeat (first | exact Below.refl _ _ | assumption | refine Below.drew ?_ | refine bdn ?_ | refine ba _ ?_ | refine bs0 _ _ ?_ ?_ | refine bs1 _ _ _ ?_ ?_ | refine bs2 _ _ _ _ ?_ ?_ | refine bs3 _ _ _ _ _ ?_ ?_ | refine bt3 (by assumption) ?_))
  case rest =>
    obtain ⟨rfl, g, x, y, rfl, HX, HC, hW⟩ := hcut; replace HP := Hd.mk (HP.out.below hW); have c0 : wc.cell? _ = some (.float .f32 a) := HP.out.b0.cell 0; have c1 : wc.cell? _ = some (.float .f32 b) := HP.out.b0.cell 1; have d0 : wc.cell? _ = some (.float .f32 c) := HP.out.b1.cell 0; have d1 : wc.cell? _ = some (.float .f32 d) := HP.out.b1.cell 1; have z0 : w.heap.size < wc.heap.size := HP.out.b0.lt; have z1 : w.heap.size + 1 < wc.heap.size := HP.out.b1.lt; have z2 : w.heap.size + 1 + 1 < wc.heap.size := HP.out.b2.lt; have r0 : wc.cell? _ = some (.float .f32 0) := HP.out.b2.cell 0; have r1 : wc.cell? _ = some (.float .f32 0) := HP.out.b2.cell 1; have q0 := HP.out.b2.frozen 0; have q1 := HP.out.b2.frozen 1; have hcx := HC.out; have gz : g < wc.heap.size := World.block_lt_of_cell? _ _ hcx
    go_wp2_with fail
    refine bodyPost_ret (v := .tuple #[.agg #[.float .f32 0, .float .f32 0], .bool false]) (by simp (maxDischargeDepth := 7) [results, Tryz.results93, go_sem, *]) rfl ⟨0, 0, rfl, fun k => (by cases k), (by have hbb := HP.out.bel; (repeat (first | exact Below.refl _ _ | assumption | refine Below.drew ?_ | refine bdn ?_ | refine ba _ ?_ | refine bs0 _ _ ?_ ?_ | refine bs1 _ _ _ ?_ ?_ | refine bs2 _ _ _ _ ?_ ?_ | refine bs3 _ _ _ _ _ ?_ ?_ | refine bt3 (by assumption) ?_)))⟩
theorem dp_det {A B oh ol : Nat} (fA : fin A) (dq : fin A → fin B → oh = addW A B ∧ ol = qkL A B) : (decide (fin B) && prB oh ol) = (decide (fin B) && prB (addW A B) (qkL A B)) ∧ ((decide (fin B) && prB (addW A B) (qkL A B)) = true → oh = addW A B ∧ ol = qkL A B) := by
  by_cases h : fin B
  · obtain ⟨rfl, rfl⟩ := dq fA h
    exact ⟨rfl, fun _ => ⟨rfl, rfl⟩⟩
  · rw [decide_eq_false h]; simp
set_option maxHeartbeats 20000000 in
theorem s_OverY (a b c d : Nat) (w : World) (ha : W a) (hb : W b) (hc : W c) (hd : W d) (fa : fin a) (fb : fin b) (fc : fin c) (fd : fin d) (hz : ¬ (c = 0 ∨ c = 2147483648)) (fA : fin (quW a c)) (hk : mpOk c d (quW a c) 0 = true) (hk2 : apOk a b (ng (mpHi c d (quW a c) 0)) (ng (mpLo c d (quW a c) 0)) = true) : Calls Tryz.prog 93 #[.agg #[.float .f32 a, .float .f32 b], .agg #[.float .f32 c, .float .f32 d]] w (RetA (decide (fin (dpB a b c d)) && prB (dpHi a b c d) (dpLo a b c d)) (dpHi a b c d) (dpLo a b c d) w) := by
  show Calls Tryz.prog 93 #[.agg #[.float .f32 a, .float .f32 b], .agg #[.float .f32 c, .float .f32 d]] w (RetA (decide (fin (quW (apHi a b (ng (mpHi c d (quW a c) 0)) (ng (mpLo c d (quW a c) 0))) c)) && prB (addW (quW a c) (quW (apHi a b (ng (mpHi c d (quW a c) 0)) (ng (mpLo c d (quW a c) 0))) c)) (qkL (quW a c) (quW (apHi a b (ng (mpHi c d (quW a c) 0)) (ng (mpLo c d (quW a c) 0))) c))) (addW (quW a c) (quW (apHi a b (ng (mpHi c d (quW a c) 0)) (ng (mpLo c d (quW a c) 0))) c)) (qkL (quW a c) (quW (apHi a b (ng (mpHi c d (quW a c) 0)) (ng (mpLo c d (quW a c) 0))) c)) w)
  have qs := quo_some fa fc hc hz; have kq := fun w => run_float_arith (P := Tryz.prog) w .quo 22 .f32 a c _ qs.1; have hm := mpOk_num hk; have hmw := mp_W c d (quW a c)
  have CA := Hd.mk (fun w => s_Finite (quW a c) w)
  rw [decide_eq_true fA] at CA
  have HT := Hd.mk (fun w => times_yes c d (quW a c) w hc hd qs.2.1 fc fd fA hk)
  have T1 := Hd.mk (fun w => s_Turned (mpHi c d (quW a c) 0) w hmw.1 (fin_num hm.1))
  have T2 := Hd.mk (fun w => s_Turned (mpLo c d (quW a c) 0) w hmw.2 (fin_num hm.2))
  have hA2 := fun w => s_AddP a b (ng (mpHi c d (quW a c) 0)) (ng (mpLo c d (quW a c) 0)) w ha hb (W_ng hmw.1) (W_ng hmw.2) fa fb (fin_ngx hmw.1 hm.1) (fin_ngx hmw.2 hm.2)
  rw [hk2] at hA2
  have HA2 := Hd.mk (fun w => (hA2 w).mono fun e w' k => RetA.yes k)
  have hr := (apOk_num hk2).1
  have q2 := quo_some hr fc hc hz
  have kq2 := fun w => run_float_arith (P := Tryz.prog) w .quo 22 .f32 _ c _ q2.1
  have HG := Hd.mk fA
  clear ha hb hc hd fa fb fc fd hz hk fA qs hm hmw hk2 hA2 hr q2
  generalize apHi a b (ng (mpHi c d (quW a c) 0)) (ng (mpLo c d (quW a c) 0)) = Rh at *
  generalize apLo a b (ng (mpHi c d (quW a c) 0)) (ng (mpLo c d (quW a c) 0)) = Rl at *
  generalize mpHi c d (quW a c) 0 = Ph at *
  generalize mpLo c d (quW a c) 0 = Pl at *
  generalize quW a c = A at *
  generalize quW Rh c = B at *
  go_enter Tryz.func93, Tryz.ntmps93
  go_upto_region 7 with (first | (go_at_call 125; (with_reducible refine (CA.out _).mono ?_); rintro e w' ⟨rfl, ⟨nd, rfl⟩⟩) | (go_at_call 123; (with_reducible refine (HT.out _).mono ?_); rintro e1 w1 ⟨rfl, hb⟩; have HP := Hd.mk ((PW.start w a b c d).below (bt3 hb (by (repeat (first | exact Below.refl _ _ | assumption | refine Below.drew ?_ | refine bdn ?_ | refine ba _ ?_ | refine bs0 _ _ ?_ ?_ | refine bs1 _ _ _ ?_ ?_ | refine bs2 _ _ _ _ ?_ ?_ | refine bs3 _ _ _ _ _ ?_ ?_ | refine bt3 (by assumption) ?_))))); have c0 : w1.cell? _ = some (.float .f32 a) := HP.out.b0.cell 0; have c1 : w1.cell? _ = some (.float .f32 b) := HP.out.b0.cell 1; have d0 : w1.cell? _ = some (.float .f32 c) := HP.out.b1.cell 0; have d1 : w1.cell? _ = some (.float .f32 d) := HP.out.b1.cell 1; have z0 : w.heap.size < w1.heap.size := HP.out.b0.lt; have z1 : w.heap.size + 1 < w1.heap.size := HP.out.b1.lt; have z2 : w.heap.size + 1 + 1 < w1.heap.size := HP.out.b2.lt; have r0 : w1.cell? _ = some (.float .f32 0) := HP.out.b2.cell 0; have r1 : w1.cell? _ = some (.float .f32 0) := HP.out.b2.cell 1; have q0 := HP.out.b2.frozen 0; have q1 := HP.out.b2.frozen 1; clear hb))
  have HP7 : Hd (PW w (w1.alloc (Obj.cells #[.float .f32 Ph, .float .f32 Pl] 30)) a b c d) := ⟨HP.out.below (ba _ (Below.refl _ _))⟩; have p0 : (w1.alloc (Obj.cells #[.float .f32 Ph, .float .f32 Pl] 30)).cell? ⟨w1.heap.size, 0, none⟩ = some (.float .f32 Ph) := (by go_simp); have p1 : (w1.alloc (Obj.cells #[.float .f32 Ph, .float .f32 Pl] 30)).cell? ⟨w1.heap.size, 1, none⟩ = some (.float .f32 Pl) := (by go_simp); have pz : w1.heap.size < (w1.alloc (Obj.cells #[.float .f32 Ph, .float .f32 Pl] 30)).heap.size := (by simp); generalize (w1.alloc (Obj.cells #[.float .f32 Ph, .float .f32 Pl] 30)) = W7 at *; generalize w1.heap.size = gp at *; (repeat (first | clear r0 | clear r1 | clear q0 | clear q1 | clear c0 | clear c1 | clear d0 | clear d1 | clear z0 | clear z1 | clear z2)); clear HP HT; have HP := HP7; clear HP7; have c0 : W7.cell? _ = some (.float .f32 a) := HP.out.b0.cell 0; have c1 : W7.cell? _ = some (.float .f32 b) := HP.out.b0.cell 1; have d0 : W7.cell? _ = some (.float .f32 c) := HP.out.b1.cell 0; have d1 : W7.cell? _ = some (.float .f32 d) := HP.out.b1.cell 1; have z0 : w.heap.size < W7.heap.size := HP.out.b0.lt; have z1 : w.heap.size + 1 < W7.heap.size := HP.out.b1.lt; have z2 : w.heap.size + 1 + 1 < W7.heap.size := HP.out.b2.lt
  go_cut [9, 10] (fun s9 s10 wx => Cut7 W7 (fun x y => (x = Rh ∧ y = Rl)) true s9 s10 wx)
  case first =>
    go_region_held3 (fun w' => w'.cell? ⟨w.heap.size, 0, none⟩ = some (.float .f32 a) ∧ w'.cell? ⟨w.heap.size, 1, none⟩ = some (.float .f32 b) ∧ w'.cell? ⟨gp, 0, none⟩ = some (.float .f32 Ph) ∧ w'.cell? ⟨gp, 1, none⟩ = some (.float .f32 Pl)) ((first | assumption | (refine keep4 (W := W7) ?_ ⟨c0, c1, p0, p1⟩; (repeat (first | exact Below.refl _ _ | assumption | refine Below.drew ?_ | refine bdn ?_ | refine ba _ ?_ | refine bs0 _ _ ?_ ?_ | refine bs1 _ _ _ ?_ ?_ | refine bs2 _ _ _ _ ?_ ?_ | refine bs3 _ _ _ _ _ ?_ ?_ | refine bt3 (by assumption) ?_)); done) | go_keep | (refine ⟨?_, ?_, ?_, ?_⟩ <;> go_simp))) (first | (go_at_call 104; (with_reducible refine (T1.out _).mono ?_); rintro e w' ⟨rfl, rfl⟩) | (go_at_call 104; (with_reducible refine (T2.out _).mono ?_); rintro e w' ⟨rfl, rfl⟩) | (go_at_call 121; (with_reducible refine (HA2.out _).mono ?_); rintro e2 w2 ⟨rfl, hb⟩; have hq2 : Below W7.heap.size W7 w2 := bt3 hb (by (repeat (first | exact Below.refl _ _ | assumption | refine Below.drew ?_ | refine bdn ?_ | refine ba _ ?_ | refine bs0 _ _ ?_ ?_ | refine bs1 _ _ _ ?_ ?_ | refine bs2 _ _ _ _ ?_ ?_ | refine bs3 _ _ _ _ _ ?_ ?_ | refine bt3 (by assumption) ?_))); obtain ⟨hc, hf, hz, hy⟩ := bcell hb; have hs := hb.size; (try simp at hs); (try have h0 : W7.heap.size < w2.heap.size := (by omega)); clear hb hs))
    all_goals
      go_wp2_with fail
      go_meet; refine ⟨rfl, _, Rh, Rl, rfl, ⟨⟨rfl, rfl⟩⟩, ⟨?_⟩, ?_⟩; (first | go_simp | (go_simp; done)); (repeat (first | exact Below.refl _ _ | assumption | refine Below.drew ?_ | refine bdn ?_ | refine ba _ ?_ | refine bs0 _ _ ?_ ?_ | refine bs1 _ _ _ ?_ ?_ | refine bs2 _ _ _ _ ?_ ?_ | refine bs3 _ _ _ _ _ ?_ ?_ | refine bt3 (by assumption) ?_))
  case rest =>
    obtain ⟨rfl, g, x, y, rfl, HX, HC, hW⟩ := hcut; replace HP := Hd.mk (HP.out.below hW); have c0 : wc.cell? _ = some (.float .f32 a) := HP.out.b0.cell 0; have c1 : wc.cell? _ = some (.float .f32 b) := HP.out.b0.cell 1; have d0 : wc.cell? _ = some (.float .f32 c) := HP.out.b1.cell 0; have d1 : wc.cell? _ = some (.float .f32 d) := HP.out.b1.cell 1; have z0 : w.heap.size < wc.heap.size := HP.out.b0.lt; have z1 : w.heap.size + 1 < wc.heap.size := HP.out.b1.lt; have z2 : w.heap.size + 1 + 1 < wc.heap.size := HP.out.b2.lt; have r0 : wc.cell? _ = some (.float .f32 0) := HP.out.b2.cell 0; have r1 : wc.cell? _ = some (.float .f32 0) := HP.out.b2.cell 1; have q0 := HP.out.b2.frozen 0; have q1 := HP.out.b2.frozen 1; have hcx := HC.out; have gz : g < wc.heap.size := World.block_lt_of_cell? _ _ hcx
    obtain ⟨rfl, rfl⟩ := HX.out
    go_upto_region 12 with (go_at_call 158; (with_reducible refine (s_Quick A _ _).mono ?_); rintro e5 w5 ⟨oh, ol, rfl, hoh, hol, hdet, hb⟩; have HO := Hd.mk (And.intro hoh (And.intro hol hdet)); clear hoh hol hdet; replace HP := Hd.mk (HP.out.below (bt3 hb (by (repeat (first | exact Below.refl _ _ | assumption | refine Below.drew ?_ | refine bdn ?_ | refine ba _ ?_ | refine bs0 _ _ ?_ ?_ | refine bs1 _ _ _ ?_ ?_ | refine bs2 _ _ _ _ ?_ ?_ | refine bs3 _ _ _ _ _ ?_ ?_ | refine bt3 (by assumption) ?_))))); have c0 : w5.cell? _ = some (.float .f32 a) := HP.out.b0.cell 0; have c1 : w5.cell? _ = some (.float .f32 b) := HP.out.b0.cell 1; have d0 : w5.cell? _ = some (.float .f32 c) := HP.out.b1.cell 0; have d1 : w5.cell? _ = some (.float .f32 d) := HP.out.b1.cell 1; have z0 : w.heap.size < w5.heap.size := HP.out.b0.lt; have z1 : w.heap.size + 1 < w5.heap.size := HP.out.b1.lt; have z2 : w.heap.size + 1 + 1 < w5.heap.size := HP.out.b2.lt; have r0 : w5.cell? _ = some (.float .f32 0) := HP.out.b2.cell 0; have r1 : w5.cell? _ = some (.float .f32 0) := HP.out.b2.cell 1; have q0 := HP.out.b2.frozen 0; have q1 := HP.out.b2.frozen 1; clear hb)
    have HK := Hd.mk (dp_det HG.out HO.out.2.2)
    have C1 := Hd.mk (fun w => s_Finite B w)
    have C5 := Hd.mk (fun w => s_l05Is oh ol w HO.out.1 HO.out.2.1)
    generalize decide (fin B) = b4 at *
    generalize prB oh ol = b5 at HK C5
    generalize prB (addW A B) (qkL A B) = b6 at *
    generalize addW A B = H at *
    generalize qkL A B = L at *
    clear HO HG kq kq2 T1 T2 HA2 CA
    have HP9 : Hd (PW w (w5.alloc (Obj.cells #[.float .f32 oh, .float .f32 ol] 30)) a b c d) := ⟨HP.out.below (ba _ (Below.refl _ _))⟩
    have y2 : (w5.alloc (Obj.cells #[.float .f32 oh, .float .f32 ol] 30)).cell? ⟨w5.heap.size, 0, none⟩ = some (.float .f32 oh) := by go_simp
    have y3 : (w5.alloc (Obj.cells #[.float .f32 oh, .float .f32 ol] 30)).cell? ⟨w5.heap.size, 1, none⟩ = some (.float .f32 ol) := by go_simp
    generalize (w5.alloc (Obj.cells #[.float .f32 oh, .float .f32 ol] 30)) = W8 at *
    have e3 : ¬ (w.heap.size + 1 + 1 = w5.heap.size) := by omega
    have e4 : ¬ (w5.heap.size = w.heap.size + 1 + 1) := by omega
    clear HP
    repeat (first | clear r0 | clear r1 | clear q0 | clear q1 | clear c0 | clear c1 | clear d0 | clear d1 | clear z0 | clear z1 | clear z2)
    generalize w5.heap.size = go at *
    have HP := HP9
    have r0 : W8.cell? _ = some (.float .f32 0) := HP.out.b2.cell 0
    have r1 : W8.cell? _ = some (.float .f32 0) := HP.out.b2.cell 1
    have q0 := HP.out.b2.frozen 0
    have q1 := HP.out.b2.frozen 1
    clear HP9
    cases b4
    · first | (go_region_with (first | (go_at_call 125; (with_reducible refine (C1.out _).mono ?_); rintro e w' ⟨rfl, ⟨nd, rfl⟩⟩) | (go_at_call 140; (with_reducible refine (C5.out _).mono ?_); rintro e5 w6 ⟨rfl, hb⟩; have x2 : w6.cell? ⟨go, 0, none⟩ = some (.float .f32 oh) := cb hb (by go_simp); have x3 : w6.cell? ⟨go, 1, none⟩ = some (.float .f32 ol) := cb hb (by go_simp); replace HP := Hd.mk (HP.out.below (bt3 hb (by (repeat (first | exact Below.refl _ _ | assumption | refine Below.drew ?_ | refine bdn ?_ | refine ba _ ?_ | refine bs0 _ _ ?_ ?_ | refine bs1 _ _ _ ?_ ?_ | refine bs2 _ _ _ _ ?_ ?_ | refine bs3 _ _ _ _ _ ?_ ?_ | refine bt3 (by assumption) ?_))))); have r0 : w6.cell? _ = some (.float .f32 0) := HP.out.b2.cell 0; have r1 : w6.cell? _ = some (.float .f32 0) := HP.out.b2.cell 1; have q0 := HP.out.b2.frozen 0; have q1 := HP.out.b2.frozen 1; clear hb))) | fail
      all_goals
        go_wp2_with fail
        refine bodyPost_ret (v := .tuple #[.agg #[.float .f32 oh, .float .f32 ol], .bool false]) (by simp (maxDischargeDepth := 7) [results, Tryz.results93, go_sem, *]) rfl ⟨oh, ol, by rw [← HK.out.1] <;> simp, HK.out.2, (by have hbb := HP.out.bel; (repeat (first | exact Below.refl _ _ | assumption | refine Below.drew ?_ | refine bdn ?_ | refine ba _ ?_ | refine bs0 _ _ ?_ ?_ | refine bs1 _ _ _ ?_ ?_ | refine bs2 _ _ _ _ ?_ ?_ | refine bs3 _ _ _ _ _ ?_ ?_ | refine bt3 (by assumption) ?_)))⟩
    · first | ((go_region_held3 (fun w' => w'.cell? ⟨go, 0, none⟩ = some (.float .f32 oh) ∧ w'.cell? ⟨go, 1, none⟩ = some (.float .f32 ol)) ((first | assumption | exact ⟨y2, y3⟩ | exact ⟨x2, x3⟩ | go_keep | (refine ⟨?_, ?_⟩ <;> go_simp) | (constructor <;> go_simp))) (first | (go_at_call 125; (with_reducible refine (C1.out _).mono ?_); rintro e w' ⟨rfl, ⟨nd, rfl⟩⟩) | (go_at_call 140; (with_reducible refine (C5.out _).mono ?_); rintro e5 w6 ⟨rfl, hb⟩; have x2 : w6.cell? ⟨go, 0, none⟩ = some (.float .f32 oh) := cb hb (by go_simp); have x3 : w6.cell? ⟨go, 1, none⟩ = some (.float .f32 ol) := cb hb (by go_simp); replace HP := Hd.mk (HP.out.below (bt3 hb (by (repeat (first | exact Below.refl _ _ | assumption | refine Below.drew ?_ | refine bdn ?_ | refine ba _ ?_ | refine bs0 _ _ ?_ ?_ | refine bs1 _ _ _ ?_ ?_ | refine bs2 _ _ _ _ ?_ ?_ | refine bs3 _ _ _ _ _ ?_ ?_ | refine bt3 (by assumption) ?_))))); have r0 : w6.cell? _ = some (.float .f32 0) := HP.out.b2.cell 0; have r1 : w6.cell? _ = some (.float .f32 0) := HP.out.b2.cell 1; have q0 := HP.out.b2.frozen 0; have q1 := HP.out.b2.frozen 1; clear hb)))) | fail
      all_goals
        go_wp2_with fail
        refine bodyPost_ret (v := .tuple #[.agg #[.float .f32 oh, .float .f32 ol], .bool b5]) (by simp (maxDischargeDepth := 7) [results, Tryz.results93, go_sem, *]) rfl ⟨oh, ol, by rw [← HK.out.1] <;> simp, HK.out.2, (by have hbb := HP.out.bel; (repeat (first | exact Below.refl _ _ | assumption | refine Below.drew ?_ | refine bdn ?_ | refine ba _ ?_ | refine bs0 _ _ ?_ ?_ | refine bs1 _ _ _ ?_ ?_ | refine bs2 _ _ _ _ ?_ ?_ | refine bs3 _ _ _ _ _ ?_ ?_ | refine bt3 (by assumption) ?_)))⟩
end Go.Proofs.YtflgjecpjaiecaaGreat
