/- Gv: S37 S38, merged. -/
import Derived.Test.YtflgjecpjaiecaaGreatGu
import Derived.Deep.QuietTactic
import Derived.BigQuiet
/- Contracts: products of pairs, both sides. -/
set_option linter.unusedVariables false
set_option linter.unusedSimpArgs false
namespace Go.Proofs.YtflgjecpjaiecaaGreat
open Go.RowKit Num Flt
def mpC (A B : Nat) : Nat := addW A B
def mpD (A B sl : Nat) : Nat := addW sl (addW A B)
def mpH (A B sl sh : Nat) : Nat := addW sh (mpD A B sl)
def mpL (A B sl sh : Nat) : Nat := qkL sh (mpD A B sl)
def mpK (A B sl sh : Nat) : Bool := decide (fin A) && decide (fin B) && decide (fin (addW A B)) && decide (fin (mpD A B sl)) && prB (mpH A B sl sh) (mpL A B sl sh)
theorem mp_det {A B C D sl sh oh ol : Nat} (dC : fin A → fin B → C = addW A B) (dD : fin C → D = addW sl C) (dq : fin D → oh = addW sh D ∧ ol = qkL sh D) : (decide (fin A) && decide (fin B) && decide (fin C) && decide (fin D) && prB oh ol) = mpK A B sl sh ∧ (mpK A B sl sh = true → oh = mpH A B sl sh ∧ ol = mpL A B sl sh) := by
  unfold mpK
  by_cases h1 : fin A
  · by_cases h2 : fin B
    · obtain rfl := dC h1 h2
      by_cases h3 : fin (addW A B)
      · obtain rfl := dD h3
        by_cases h4 : fin (addW sl (addW A B))
        · obtain ⟨rfl, rfl⟩ := dq h4
          exact ⟨rfl, fun _ => ⟨rfl, rfl⟩⟩
        · have h5 : decide (fin (mpD A B sl)) = false := decide_eq_false h4
          rw [decide_eq_false h4, h5]; simp
      · rw [decide_eq_false h3]; simp
    · rw [decide_eq_false h2]; simp
  · rw [decide_eq_false h1]; simp
theorem mp_det2 {A B C D sl sh oh ol : Nat} {k : Bool} (dC : fin A → fin B → C = addW A B) (dD : fin C → D = addW sl C) (dq : fin D → oh = addW sh D ∧ ol = qkL sh D ∧ k = (decide (fin oh) && decide (fin ol))) : ((decide (fin A ∧ fin B ∧ fin C ∧ fin D)) && k && prB oh ol) = mpK A B sl sh ∧ (mpK A B sl sh = true → oh = mpH A B sl sh ∧ ol = mpL A B sl sh) := by
  have h1 := mp_det dC dD (fun h => ⟨(dq h).1, (dq h).2.1⟩)
  refine ⟨?_, h1.2⟩
  rw [← h1.1]
  by_cases h4 : fin D
  · have e := (dq h4).2.2
    rw [e]
    unfold prB
    by_cases a1 : fin A <;> by_cases a2 : fin B <;> by_cases a3 : fin C <;> cases decide (fin oh) <;> cases decide (fin ol) <;> simp [h4, a1, a2, a3]
  · rw [decide_eq_false h4, decide_eq_false (fun j => h4 j.2.2.2)]; simp
theorem i_areFinite4 (g c x1 x2 x3 x4 : Nat) (w : World) (h1 : W x1) (h2 : W x2) (h3 : W x3) (h4 : W x4) (c0 : w.cell? ⟨g, 0, none⟩ = some (.float .f32 x1)) (c1 : w.cell? ⟨g, 1, none⟩ = some (.float .f32 x2)) (c2 : w.cell? ⟨g, 2, none⟩ = some (.float .f32 x3)) (c3 : w.cell? ⟨g, 3, none⟩ = some (.float .f32 x4)) :
    Calls Tryz.prog 88 #[.slice (some ⟨g, 0, none⟩) 4 c] w fun e w' => e = .returned (.bool (decide (fin x1 ∧ fin x2 ∧ fin x3 ∧ fin x4))) ∧ w = w' := by
  have h := i_areFinite g 0 4 c [x1, x2, x3, x4] w rfl (by decide) (by intro x hx; simp at hx; rcases hx with rfl | rfl | rfl | rfl; exact h1; exact h2; exact h3; exact h4) (by
    intro j hj
    obtain rfl | rfl | rfl | rfl : j = 0 ∨ j = 1 ∨ j = 2 ∨ j = 3 := by omega
    · exact c0
    · exact c1
    · exact c2
    · exact c3)
  simpa [allFin] using h
theorem muls_r (A B : Nat) : ∃ (r : World → Nat) (n : Nat), (∀ w, (binOp .add 22 (.float .f32 A) (.float .f32 B)).run Tryz.prog w = .ok (.float .f32 (r w)) (w.drewN n)) ∧ (∀ w, W (r w)) ∧ (fin A → fin B → ∀ w, r w = addW A B) := by
  obtain ⟨r, n, h1, h2, h3⟩ := fop_any .add (by simp) 22 A B
  exact ⟨r, n, h1, h2, fun q1 q2 w => h3 _ (addW_eq q1 q2) w⟩
set_option maxHeartbeats 20000000 in
theorem s_TimesY (a b c d : Nat) (w : World) (ha : W a) (hb : W b) (hc : W c) (hd : W d) (fa : fin a) (fb : fin b) (fc : fin c) (fd : fin d) (f1 : fin (muF a c)) : Calls Tryz.prog 123 #[.agg #[.float .f32 a, .float .f32 b], .agg #[.float .f32 c, .float .f32 d]] w (RetA (mpK (muF a d) (muF b c) (prL a c) (muF a c)) (mpH (muF a d) (muF b c) (prL a c) (muF a c)) (mpL (muF a d) (muF b c) (prL a c) (muF a c)) w) := by
  have HS1 := Hd.mk (fun w => s_ProdY a c w ha hc fa fc f1)
  have hs := (prod_rest ha hc fa fc f1).1
  have HG := Hd.mk f1
  have k1 := fun w => run_float_arith (P := Tryz.prog) w .mul 22 .f32 a d _ (mul_eq fa fd)
  have k2 := fun w => run_float_arith (P := Tryz.prog) w .mul 22 .f32 b c _ (mul_eq fb fc)
  have hC2 := muls_r (muF a d) (muF b c)
  have HF := Hd.mk (fun y => fop_add 22 (prL a c) y hs)
  clear ha hb hc hd fa fb fc fd f1 hs
  generalize muF a d = A at *
  generalize muF b c = B at *
  generalize prL a c = sl at *
  generalize muF a c = sh at *
  obtain ⟨r, n, k3, hWr, hdr⟩ := hC2
  have HR := Hd.mk (And.intro hWr hdr)
  clear hWr hdr
  go_enter Tryz.func123, Tryz.ntmps123
  go_upto_region 4 with (go_at_call 134; (with_reducible refine (HS1.out _).mono ?_); rintro e1 w1 ⟨rfl, hb⟩; have HP := Hd.mk ((PW.start w a b c d).below hb); have c0 : w1.cell? _ = some (.float .f32 a) := HP.out.b0.cell 0; have c1 : w1.cell? _ = some (.float .f32 b) := HP.out.b0.cell 1; have d0 : w1.cell? _ = some (.float .f32 c) := HP.out.b1.cell 0; have d1 : w1.cell? _ = some (.float .f32 d) := HP.out.b1.cell 1; have z0 : w.heap.size < w1.heap.size := HP.out.b0.lt; have z1 : w.heap.size + 1 < w1.heap.size := HP.out.b1.lt; have z2 : w.heap.size + 1 + 1 < w1.heap.size := HP.out.b2.lt; have r0 : w1.cell? _ = some (.float .f32 0) := HP.out.b2.cell 0; have r1 : w1.cell? _ = some (.float .f32 0) := HP.out.b2.cell 1; have q0 := HP.out.b2.frozen 0; have q1 := HP.out.b2.frozen 1; clear hb)
  go_quiet (fail)
  go_upto_region 6 with fail
  generalize hC : r _ = C at *
  obtain ⟨r2, n2, k4, hWr2, hdr2⟩ := HF.out C
  have HR2 := Hd.mk (And.intro hWr2 hdr2)
  clear hWr2 hdr2
  go_upto_region 7 with fail
  generalize hD : r2 _ = D at *
  go_upto_region 8 with (go_at_call 158; (with_reducible refine (s_Quick sh _ _).mono ?_); rintro e3 w3 ⟨oh, ol, rfl, hoh, hol, hdet, hb⟩; have HO := Hd.mk (And.intro hoh (And.intro hol hdet)); clear hoh hol hdet; replace HP := Hd.mk (HP.out.below (bt3 hb (by (repeat (first | exact Below.refl _ _ | assumption | refine Below.drew ?_ | refine bdn ?_ | refine ba _ ?_ | refine bs0 _ _ ?_ ?_ | refine bs1 _ _ _ ?_ ?_ | refine bs2 _ _ _ _ ?_ ?_ | refine bs3 _ _ _ _ _ ?_ ?_ | refine bt3 (by assumption) ?_))))); have c0 : w3.cell? _ = some (.float .f32 a) := HP.out.b0.cell 0; have c1 : w3.cell? _ = some (.float .f32 b) := HP.out.b0.cell 1; have d0 : w3.cell? _ = some (.float .f32 c) := HP.out.b1.cell 0; have d1 : w3.cell? _ = some (.float .f32 d) := HP.out.b1.cell 1; have z0 : w.heap.size < w3.heap.size := HP.out.b0.lt; have z1 : w.heap.size + 1 < w3.heap.size := HP.out.b1.lt; have z2 : w.heap.size + 1 + 1 < w3.heap.size := HP.out.b2.lt; have r0 : w3.cell? _ = some (.float .f32 0) := HP.out.b2.cell 0; have r1 : w3.cell? _ = some (.float .f32 0) := HP.out.b2.cell 1; have q0 := HP.out.b2.frozen 0; have q1 := HP.out.b2.frozen 1; clear hb)
  have HK := Hd.mk (mp_det (A := A) (B := B) (sl := sl) (fun h1 h2 => hC ▸ HR.out.2 h1 h2 _) (fun h => hD ▸ HR2.out.2 h _) (HO.out.2.2 HG.out))
  clear hC hD HF HR HR2 HS1 k1 k2 k3 k4
  have C1 := Hd.mk (fun w => s_Finite A w)
  have C2 := Hd.mk (fun w => s_Finite B w)
  have C3 := Hd.mk (fun w => s_Finite C w)
  have C4 := Hd.mk (fun w => s_Finite D w)
  have C5 := Hd.mk (fun w => s_l05Is oh ol w HO.out.1 HO.out.2.1)
  generalize decide (fin A) = b1 at HK C1
  generalize decide (fin B) = b2 at HK C2
  generalize decide (fin C) = b3 at HK C3
  generalize decide (fin D) = b4 at HK C4
  generalize prB oh ol = b5 at HK C5
  generalize mpK A B sl sh = K at *
  generalize mpH A B sl sh = H at *
  generalize mpL A B sl sh = L at *
  clear HO HG
  have HP9 : Hd (PW w (w3.alloc (Obj.cells #[.float .f32 oh, .float .f32 ol] 30)) a b c d) := ⟨HP.out.below (ba _ (Below.refl _ _))⟩
  have y2 : (w3.alloc (Obj.cells #[.float .f32 oh, .float .f32 ol] 30)).cell? ⟨w3.heap.size, 0, none⟩ = some (.float .f32 oh) := by go_simp
  have y3 : (w3.alloc (Obj.cells #[.float .f32 oh, .float .f32 ol] 30)).cell? ⟨w3.heap.size, 1, none⟩ = some (.float .f32 ol) := by go_simp
  generalize (w3.alloc (Obj.cells #[.float .f32 oh, .float .f32 ol] 30)) = W8 at *
  have e3 : ¬ (w.heap.size + 1 + 1 = w3.heap.size) := by omega
  have e4 : ¬ (w3.heap.size = w.heap.size + 1 + 1) := by omega
  clear HP
  repeat (first | clear r0 | clear r1 | clear q0 | clear q1 | clear c0 | clear c1 | clear d0 | clear d1 | clear z0 | clear z1 | clear z2)
  generalize w3.heap.size = go at *
  have HP := HP9
  have r0 : W8.cell? _ = some (.float .f32 0) := HP.out.b2.cell 0
  have r1 : W8.cell? _ = some (.float .f32 0) := HP.out.b2.cell 1
  have q0 := HP.out.b2.frozen 0
  have q1 := HP.out.b2.frozen 1
  clear HP9
  rcases (show b1 = false ∨ (b1 = true ∧ b2 = false) ∨ (b1 = true ∧ b2 = true ∧ b3 = false) ∨ (b1 = true ∧ b2 = true ∧ b3 = true ∧ b4 = false) ∨ (b1 = true ∧ b2 = true ∧ b3 = true ∧ b4 = true) by cases b1 <;> cases b2 <;> cases b3 <;> cases b4 <;> simp) with rfl | ⟨rfl, rfl⟩ | ⟨rfl, rfl, rfl⟩ | ⟨rfl, rfl, rfl, rfl⟩ | ⟨rfl, rfl, rfl, rfl⟩
  · first | (go_region_with (first | (go_at_call 125; (first | (with_reducible refine (C1.out _).mono ?_) | (with_reducible refine (C2.out _).mono ?_) | (with_reducible refine (C3.out _).mono ?_) | (with_reducible refine (C4.out _).mono ?_)); rintro e w' ⟨rfl, ⟨nd, rfl⟩⟩) | (go_at_call 140; (with_reducible refine (C5.out _).mono ?_); rintro e5 w5 ⟨rfl, hb⟩; have x2 : w5.cell? ⟨go, 0, none⟩ = some (.float .f32 oh) := cb hb (by go_simp); have x3 : w5.cell? ⟨go, 1, none⟩ = some (.float .f32 ol) := cb hb (by go_simp); replace HP := Hd.mk (HP.out.below (bt3 hb (by (repeat (first | exact Below.refl _ _ | assumption | refine Below.drew ?_ | refine bdn ?_ | refine ba _ ?_ | refine bs0 _ _ ?_ ?_ | refine bs1 _ _ _ ?_ ?_ | refine bs2 _ _ _ _ ?_ ?_ | refine bs3 _ _ _ _ _ ?_ ?_ | refine bt3 (by assumption) ?_))))); have r0 : w5.cell? _ = some (.float .f32 0) := HP.out.b2.cell 0; have r1 : w5.cell? _ = some (.float .f32 0) := HP.out.b2.cell 1; have q0 := HP.out.b2.frozen 0; have q1 := HP.out.b2.frozen 1; clear hb))) | fail
    all_goals
      go_wp2_with fail
      refine bodyPost_ret (v := .tuple #[.agg #[.float .f32 oh, .float .f32 ol], .bool false]) (by simp (maxDischargeDepth := 7) [results, Tryz.results123, go_sem, *]) rfl ⟨oh, ol, by rw [← HK.out.1] <;> simp, HK.out.2, (by have hbb := HP.out.bel; (repeat (first | exact Below.refl _ _ | assumption | refine Below.drew ?_ | refine bdn ?_ | refine ba _ ?_ | refine bs0 _ _ ?_ ?_ | refine bs1 _ _ _ ?_ ?_ | refine bs2 _ _ _ _ ?_ ?_ | refine bs3 _ _ _ _ _ ?_ ?_ | refine bt3 (by assumption) ?_)))⟩
  · first | (go_region_with (first | (go_at_call 125; (first | (with_reducible refine (C1.out _).mono ?_) | (with_reducible refine (C2.out _).mono ?_) | (with_reducible refine (C3.out _).mono ?_) | (with_reducible refine (C4.out _).mono ?_)); rintro e w' ⟨rfl, ⟨nd, rfl⟩⟩) | (go_at_call 140; (with_reducible refine (C5.out _).mono ?_); rintro e5 w5 ⟨rfl, hb⟩; have x2 : w5.cell? ⟨go, 0, none⟩ = some (.float .f32 oh) := cb hb (by go_simp); have x3 : w5.cell? ⟨go, 1, none⟩ = some (.float .f32 ol) := cb hb (by go_simp); replace HP := Hd.mk (HP.out.below (bt3 hb (by (repeat (first | exact Below.refl _ _ | assumption | refine Below.drew ?_ | refine bdn ?_ | refine ba _ ?_ | refine bs0 _ _ ?_ ?_ | refine bs1 _ _ _ ?_ ?_ | refine bs2 _ _ _ _ ?_ ?_ | refine bs3 _ _ _ _ _ ?_ ?_ | refine bt3 (by assumption) ?_))))); have r0 : w5.cell? _ = some (.float .f32 0) := HP.out.b2.cell 0; have r1 : w5.cell? _ = some (.float .f32 0) := HP.out.b2.cell 1; have q0 := HP.out.b2.frozen 0; have q1 := HP.out.b2.frozen 1; clear hb))) | fail
    all_goals
      go_wp2_with fail
      refine bodyPost_ret (v := .tuple #[.agg #[.float .f32 oh, .float .f32 ol], .bool false]) (by simp (maxDischargeDepth := 7) [results, Tryz.results123, go_sem, *]) rfl ⟨oh, ol, by rw [← HK.out.1] <;> simp, HK.out.2, (by have hbb := HP.out.bel; (repeat (first | exact Below.refl _ _ | assumption | refine Below.drew ?_ | refine bdn ?_ | refine ba _ ?_ | refine bs0 _ _ ?_ ?_ | refine bs1 _ _ _ ?_ ?_ | refine bs2 _ _ _ _ ?_ ?_ | refine bs3 _ _ _ _ _ ?_ ?_ | refine bt3 (by assumption) ?_)))⟩
  · first | (go_region_with (first | (go_at_call 125; (first | (with_reducible refine (C1.out _).mono ?_) | (with_reducible refine (C2.out _).mono ?_) | (with_reducible refine (C3.out _).mono ?_) | (with_reducible refine (C4.out _).mono ?_)); rintro e w' ⟨rfl, ⟨nd, rfl⟩⟩) | (go_at_call 140; (with_reducible refine (C5.out _).mono ?_); rintro e5 w5 ⟨rfl, hb⟩; have x2 : w5.cell? ⟨go, 0, none⟩ = some (.float .f32 oh) := cb hb (by go_simp); have x3 : w5.cell? ⟨go, 1, none⟩ = some (.float .f32 ol) := cb hb (by go_simp); replace HP := Hd.mk (HP.out.below (bt3 hb (by (repeat (first | exact Below.refl _ _ | assumption | refine Below.drew ?_ | refine bdn ?_ | refine ba _ ?_ | refine bs0 _ _ ?_ ?_ | refine bs1 _ _ _ ?_ ?_ | refine bs2 _ _ _ _ ?_ ?_ | refine bs3 _ _ _ _ _ ?_ ?_ | refine bt3 (by assumption) ?_))))); have r0 : w5.cell? _ = some (.float .f32 0) := HP.out.b2.cell 0; have r1 : w5.cell? _ = some (.float .f32 0) := HP.out.b2.cell 1; have q0 := HP.out.b2.frozen 0; have q1 := HP.out.b2.frozen 1; clear hb))) | fail
    all_goals
      go_wp2_with fail
      refine bodyPost_ret (v := .tuple #[.agg #[.float .f32 oh, .float .f32 ol], .bool false]) (by simp (maxDischargeDepth := 7) [results, Tryz.results123, go_sem, *]) rfl ⟨oh, ol, by rw [← HK.out.1] <;> simp, HK.out.2, (by have hbb := HP.out.bel; (repeat (first | exact Below.refl _ _ | assumption | refine Below.drew ?_ | refine bdn ?_ | refine ba _ ?_ | refine bs0 _ _ ?_ ?_ | refine bs1 _ _ _ ?_ ?_ | refine bs2 _ _ _ _ ?_ ?_ | refine bs3 _ _ _ _ _ ?_ ?_ | refine bt3 (by assumption) ?_)))⟩
  · first | (go_region_with (first | (go_at_call 125; (first | (with_reducible refine (C1.out _).mono ?_) | (with_reducible refine (C2.out _).mono ?_) | (with_reducible refine (C3.out _).mono ?_) | (with_reducible refine (C4.out _).mono ?_)); rintro e w' ⟨rfl, ⟨nd, rfl⟩⟩) | (go_at_call 140; (with_reducible refine (C5.out _).mono ?_); rintro e5 w5 ⟨rfl, hb⟩; have x2 : w5.cell? ⟨go, 0, none⟩ = some (.float .f32 oh) := cb hb (by go_simp); have x3 : w5.cell? ⟨go, 1, none⟩ = some (.float .f32 ol) := cb hb (by go_simp); replace HP := Hd.mk (HP.out.below (bt3 hb (by (repeat (first | exact Below.refl _ _ | assumption | refine Below.drew ?_ | refine bdn ?_ | refine ba _ ?_ | refine bs0 _ _ ?_ ?_ | refine bs1 _ _ _ ?_ ?_ | refine bs2 _ _ _ _ ?_ ?_ | refine bs3 _ _ _ _ _ ?_ ?_ | refine bt3 (by assumption) ?_))))); have r0 : w5.cell? _ = some (.float .f32 0) := HP.out.b2.cell 0; have r1 : w5.cell? _ = some (.float .f32 0) := HP.out.b2.cell 1; have q0 := HP.out.b2.frozen 0; have q1 := HP.out.b2.frozen 1; clear hb))) | fail
    all_goals
      go_wp2_with fail
      refine bodyPost_ret (v := .tuple #[.agg #[.float .f32 oh, .float .f32 ol], .bool false]) (by simp (maxDischargeDepth := 7) [results, Tryz.results123, go_sem, *]) rfl ⟨oh, ol, by rw [← HK.out.1] <;> simp, HK.out.2, (by have hbb := HP.out.bel; (repeat (first | exact Below.refl _ _ | assumption | refine Below.drew ?_ | refine bdn ?_ | refine ba _ ?_ | refine bs0 _ _ ?_ ?_ | refine bs1 _ _ _ ?_ ?_ | refine bs2 _ _ _ _ ?_ ?_ | refine bs3 _ _ _ _ _ ?_ ?_ | refine bt3 (by assumption) ?_)))⟩
  · first | ((go_region_held3 (fun w' => w'.cell? ⟨go, 0, none⟩ = some (.float .f32 oh) ∧ w'.cell? ⟨go, 1, none⟩ = some (.float .f32 ol)) ((first | assumption | exact ⟨y2, y3⟩ | exact ⟨x2, x3⟩ | go_keep | (refine ⟨?_, ?_⟩ <;> go_simp) | (constructor <;> go_simp))) (first | (go_at_call 125; (first | (with_reducible refine (C1.out _).mono ?_) | (with_reducible refine (C2.out _).mono ?_) | (with_reducible refine (C3.out _).mono ?_) | (with_reducible refine (C4.out _).mono ?_)); rintro e w' ⟨rfl, ⟨nd, rfl⟩⟩) | (go_at_call 140; (with_reducible refine (C5.out _).mono ?_); rintro e5 w5 ⟨rfl, hb⟩; have x2 : w5.cell? ⟨go, 0, none⟩ = some (.float .f32 oh) := cb hb (by go_simp); have x3 : w5.cell? ⟨go, 1, none⟩ = some (.float .f32 ol) := cb hb (by go_simp); replace HP := Hd.mk (HP.out.below (bt3 hb (by (repeat (first | exact Below.refl _ _ | assumption | refine Below.drew ?_ | refine bdn ?_ | refine ba _ ?_ | refine bs0 _ _ ?_ ?_ | refine bs1 _ _ _ ?_ ?_ | refine bs2 _ _ _ _ ?_ ?_ | refine bs3 _ _ _ _ _ ?_ ?_ | refine bt3 (by assumption) ?_))))); have r0 : w5.cell? _ = some (.float .f32 0) := HP.out.b2.cell 0; have r1 : w5.cell? _ = some (.float .f32 0) := HP.out.b2.cell 1; have q0 := HP.out.b2.frozen 0; have q1 := HP.out.b2.frozen 1; clear hb)))) | fail
    all_goals
      go_wp2_with fail
      refine bodyPost_ret (v := .tuple #[.agg #[.float .f32 oh, .float .f32 ol], .bool b5]) (by simp (maxDischargeDepth := 7) [results, Tryz.results123, go_sem, *]) rfl ⟨oh, ol, by rw [← HK.out.1] <;> simp, HK.out.2, (by have hbb := HP.out.bel; (repeat (first | exact Below.refl _ _ | assumption | refine Below.drew ?_ | refine bdn ?_ | refine ba _ ?_ | refine bs0 _ _ ?_ ?_ | refine bs1 _ _ _ ?_ ?_ | refine bs2 _ _ _ _ ?_ ?_ | refine bs3 _ _ _ _ _ ?_ ?_ | refine bt3 (by assumption) ?_)))⟩
end Go.Proofs.YtflgjecpjaiecaaGreat

/- Contracts: products of pairs, both sides, the rest and the exported functions. -/
set_option linter.unusedVariables false
set_option linter.unusedSimpArgs false
namespace Go.Proofs.YtflgjecpjaiecaaGreat
open Go.RowKit Num Flt
set_option maxHeartbeats 4000000 in
theorem i_TimesY (a b c d : Nat) (w : World) (ha : W a) (hb : W b) (hc : W c) (hd : W d) (fa : fin a) (fb : fin b) (fc : fin c) (fd : fin d) (f1 : fin (muF a c)) : Calls Tryz.prog 122 #[.agg #[.float .f32 a, .float .f32 b], .agg #[.float .f32 c, .float .f32 d]] w (RetA (mpK (muF a d) (muF b c) (prL a c) (muF a c)) (mpH (muF a d) (muF b c) (prL a c) (muF a c)) (mpL (muF a d) (muF b c) (prL a c) (muF a c)) w) := by
  have HS1 := Hd.mk (fun w => i_ProdY a c w ha hc fa fc f1)
  have hs := (prod_rest ha hc fa fc f1).1
  have HG := Hd.mk (And.intro f1 (And.intro (muF_W fa fd) (muF_W fb fc)))
  have k1 := fun w => run_float_arith (P := Tryz.prog) w .mul 22 .f32 a d _ (mul_eq fa fd)
  have k2 := fun w => run_float_arith (P := Tryz.prog) w .mul 22 .f32 b c _ (mul_eq fb fc)
  have hC2 := muls_r (muF a d) (muF b c)
  have HF := Hd.mk (fun y => fop_add 22 (prL a c) y hs)
  clear ha hb hc hd fa fb fc fd f1 hs
  generalize muF a d = A at *
  generalize muF b c = B at *
  generalize prL a c = sl at *
  generalize muF a c = sh at *
  obtain ⟨r, n, k3, hWr, hdr⟩ := hC2
  have HR := Hd.mk (And.intro hWr hdr)
  clear hWr hdr
  go_enter Tryz.func122, Tryz.ntmps122
  go_upto_region 7 with (go_at_call 133; (with_reducible refine (HS1.out _).mono ?_); rintro e1 w1 ⟨rfl, hb⟩; have HP := Hd.mk ((PW.start w a b c d).below hb); have c0 : w1.cell? _ = some (.float .f32 a) := HP.out.b0.cell 0; have c1 : w1.cell? _ = some (.float .f32 b) := HP.out.b0.cell 1; have d0 : w1.cell? _ = some (.float .f32 c) := HP.out.b1.cell 0; have d1 : w1.cell? _ = some (.float .f32 d) := HP.out.b1.cell 1; have z0 : w.heap.size < w1.heap.size := HP.out.b0.lt; have z1 : w.heap.size + 1 < w1.heap.size := HP.out.b1.lt; have z2 : w.heap.size + 1 + 1 < w1.heap.size := HP.out.b2.lt; have r0 : w1.cell? _ = some (.float .f32 0) := HP.out.b2.cell 0; have r1 : w1.cell? _ = some (.float .f32 0) := HP.out.b2.cell 1; have q0 := HP.out.b2.frozen 0; have q1 := HP.out.b2.frozen 1; clear hb)
  generalize hC : r _ = C at *
  obtain ⟨r2, n2, k5, hWr2, hdr2⟩ := HF.out C
  have HR2 := Hd.mk (And.intro hWr2 hdr2)
  clear hWr2 hdr2
  go_upto_region 8 with fail
  generalize hD : r2 _ = D at *
  go_upto_region 9 with (go_at_call 160; (with_reducible refine (i_quick sh _ _).mono ?_); rintro e3 w3 ⟨oh, ol, k4, rfl, hoh, hol, hdet, hkf, hb⟩; have HO := Hd.mk (And.intro hoh (And.intro hol (And.intro hdet hkf))); clear hoh hol hdet hkf; replace HP := Hd.mk (HP.out.below (bt3 hb (by (repeat (first | exact Below.refl _ _ | assumption | refine Below.drew ?_ | refine bdn ?_ | refine ba _ ?_ | refine bs0 _ _ ?_ ?_ | refine bs1 _ _ _ ?_ ?_ | refine bs2 _ _ _ _ ?_ ?_ | refine bs3 _ _ _ _ _ ?_ ?_ | refine bt3 (by assumption) ?_))))); have c0 : w3.cell? _ = some (.float .f32 a) := HP.out.b0.cell 0; have c1 : w3.cell? _ = some (.float .f32 b) := HP.out.b0.cell 1; have d0 : w3.cell? _ = some (.float .f32 c) := HP.out.b1.cell 0; have d1 : w3.cell? _ = some (.float .f32 d) := HP.out.b1.cell 1; have z0 : w.heap.size < w3.heap.size := HP.out.b0.lt; have z1 : w.heap.size + 1 < w3.heap.size := HP.out.b1.lt; have z2 : w.heap.size + 1 + 1 < w3.heap.size := HP.out.b2.lt; have r0 : w3.cell? _ = some (.float .f32 0) := HP.out.b2.cell 0; have r1 : w3.cell? _ = some (.float .f32 0) := HP.out.b2.cell 1; have q0 := HP.out.b2.frozen 0; have q1 := HP.out.b2.frozen 1; clear hb)
  have HK := Hd.mk (mp_det2 (A := A) (B := B) (sl := sl) (k := k4) (fun h1 h2 => hC ▸ HR.out.2 h1 h2 _) (fun h => hD ▸ HR2.out.2 h _) (HO.out.2.2.1 HG.out.1))
  have HA := Hd.mk (fun (q c : Nat) (w : World) => i_areFinite4 q c A B C D w HG.out.2.1 HG.out.2.2 (hC ▸ HR.out.1 _) (hD ▸ HR2.out.1 _))
  clear hC hD HF HR HR2 HS1 k1 k2 k3 k5
  have C5 := Hd.mk (fun w => i_IsPair oh ol w HO.out.1 HO.out.2.1)
  generalize decide (fin A ∧ fin B ∧ fin C ∧ fin D) = b1 at HK HA
  generalize prB oh ol = b5 at HK C5
  generalize mpK A B sl sh = K at *
  generalize mpH A B sl sh = H at *
  generalize mpL A B sl sh = L at *
  clear HO HG
  rcases (show b1 = false ∨ (b1 = true ∧ k4 = false) ∨ (b1 = true ∧ k4 = true ∧ b5 = false) ∨ (b1 = true ∧ k4 = true ∧ b5 = true) by cases b1 <;> cases k4 <;> cases b5 <;> simp) with rfl | ⟨rfl, rfl⟩ | ⟨rfl, rfl, rfl⟩ | ⟨rfl, rfl, rfl⟩
  · go_wp2_with (first | (go_at_call 88; (with_reducible refine (HA.out _ _ _ (by go_simp) (by go_simp) (by go_simp) (by go_simp)).mono ?_); rintro e w' ⟨rfl, rfl⟩) | (go_at_call 47; (with_reducible refine (C5.out _).mono ?_); rintro e5 w5 ⟨rfl, hb⟩; have x2 : w5.cell? ⟨w3.heap.size, 0, none⟩ = some (.float .f32 oh) := cb hb (by go_simp); have x3 : w5.cell? ⟨w3.heap.size, 1, none⟩ = some (.float .f32 ol) := cb hb (by go_simp); replace HP := Hd.mk (HP.out.below (bt3 hb (by (repeat (first | exact Below.refl _ _ | assumption | refine Below.drew ?_ | refine bdn ?_ | refine ba _ ?_ | refine bs0 _ _ ?_ ?_ | refine bs1 _ _ _ ?_ ?_ | refine bs2 _ _ _ _ ?_ ?_ | refine bs3 _ _ _ _ _ ?_ ?_ | refine bt3 (by assumption) ?_))))); have r0 : w5.cell? _ = some (.float .f32 0) := HP.out.b2.cell 0; have r1 : w5.cell? _ = some (.float .f32 0) := HP.out.b2.cell 1; have q0 := HP.out.b2.frozen 0; have q1 := HP.out.b2.frozen 1; clear hb))
    refine bodyPost_ret (v := .tuple #[.agg #[.float .f32 0, .float .f32 0], .bool false]) (by simp (maxDischargeDepth := 7) [results, Tryz.results122, go_sem, *]) rfl ⟨0, 0, by rw [← HK.out.1] <;> simp, fun k => absurd (HK.out.1.trans k) (by simp), (by have hbb := HP.out.bel; (repeat (first | exact Below.refl _ _ | assumption | refine Below.drew ?_ | refine bdn ?_ | refine ba _ ?_ | refine bs0 _ _ ?_ ?_ | refine bs1 _ _ _ ?_ ?_ | refine bs2 _ _ _ _ ?_ ?_ | refine bs3 _ _ _ _ _ ?_ ?_ | refine bt3 (by assumption) ?_)))⟩
  · go_wp2_with (first | (go_at_call 88; (with_reducible refine (HA.out _ _ _ (by go_simp) (by go_simp) (by go_simp) (by go_simp)).mono ?_); rintro e w' ⟨rfl, rfl⟩) | (go_at_call 47; (with_reducible refine (C5.out _).mono ?_); rintro e5 w5 ⟨rfl, hb⟩; have x2 : w5.cell? ⟨w3.heap.size, 0, none⟩ = some (.float .f32 oh) := cb hb (by go_simp); have x3 : w5.cell? ⟨w3.heap.size, 1, none⟩ = some (.float .f32 ol) := cb hb (by go_simp); replace HP := Hd.mk (HP.out.below (bt3 hb (by (repeat (first | exact Below.refl _ _ | assumption | refine Below.drew ?_ | refine bdn ?_ | refine ba _ ?_ | refine bs0 _ _ ?_ ?_ | refine bs1 _ _ _ ?_ ?_ | refine bs2 _ _ _ _ ?_ ?_ | refine bs3 _ _ _ _ _ ?_ ?_ | refine bt3 (by assumption) ?_))))); have r0 : w5.cell? _ = some (.float .f32 0) := HP.out.b2.cell 0; have r1 : w5.cell? _ = some (.float .f32 0) := HP.out.b2.cell 1; have q0 := HP.out.b2.frozen 0; have q1 := HP.out.b2.frozen 1; clear hb))
    refine bodyPost_ret (v := .tuple #[.agg #[.float .f32 0, .float .f32 0], .bool false]) (by simp (maxDischargeDepth := 7) [results, Tryz.results122, go_sem, *]) rfl ⟨0, 0, by rw [← HK.out.1] <;> simp, fun k => absurd (HK.out.1.trans k) (by simp), (by have hbb := HP.out.bel; (repeat (first | exact Below.refl _ _ | assumption | refine Below.drew ?_ | refine bdn ?_ | refine ba _ ?_ | refine bs0 _ _ ?_ ?_ | refine bs1 _ _ _ ?_ ?_ | refine bs2 _ _ _ _ ?_ ?_ | refine bs3 _ _ _ _ _ ?_ ?_ | refine bt3 (by assumption) ?_)))⟩
  · go_wp2_with (first | (go_at_call 88; (with_reducible refine (HA.out _ _ _ (by go_simp) (by go_simp) (by go_simp) (by go_simp)).mono ?_); rintro e w' ⟨rfl, rfl⟩) | (go_at_call 47; (with_reducible refine (C5.out _).mono ?_); rintro e5 w5 ⟨rfl, hb⟩; have x2 : w5.cell? ⟨w3.heap.size, 0, none⟩ = some (.float .f32 oh) := cb hb (by go_simp); have x3 : w5.cell? ⟨w3.heap.size, 1, none⟩ = some (.float .f32 ol) := cb hb (by go_simp); replace HP := Hd.mk (HP.out.below (bt3 hb (by (repeat (first | exact Below.refl _ _ | assumption | refine Below.drew ?_ | refine bdn ?_ | refine ba _ ?_ | refine bs0 _ _ ?_ ?_ | refine bs1 _ _ _ ?_ ?_ | refine bs2 _ _ _ _ ?_ ?_ | refine bs3 _ _ _ _ _ ?_ ?_ | refine bt3 (by assumption) ?_))))); have r0 : w5.cell? _ = some (.float .f32 0) := HP.out.b2.cell 0; have r1 : w5.cell? _ = some (.float .f32 0) := HP.out.b2.cell 1; have q0 := HP.out.b2.frozen 0; have q1 := HP.out.b2.frozen 1; clear hb))
    refine bodyPost_ret (v := .tuple #[.agg #[.float .f32 0, .float .f32 0], .bool false]) (by simp (maxDischargeDepth := 7) [results, Tryz.results122, go_sem, *]) rfl ⟨0, 0, by rw [← HK.out.1] <;> simp, fun k => absurd (HK.out.1.trans k) (by simp), (by have hbb := HP.out.bel; (repeat (first | exact Below.refl _ _ | assumption | refine Below.drew ?_ | refine bdn ?_ | refine ba _ ?_ | refine bs0 _ _ ?_ ?_ | refine bs1 _ _ _ ?_ ?_ | refine bs2 _ _ _ _ ?_ ?_ | refine bs3 _ _ _ _ _ ?_ ?_ | refine bt3 (by assumption) ?_)))⟩
  · go_wp2_with (first | (go_at_call 88; (with_reducible refine (HA.out _ _ _ (by go_simp) (by go_simp) (by go_simp) (by go_simp)).mono ?_); rintro e w' ⟨rfl, rfl⟩) | (go_at_call 47; (with_reducible refine (C5.out _).mono ?_); rintro e5 w5 ⟨rfl, hb⟩; have x2 : w5.cell? ⟨w3.heap.size, 0, none⟩ = some (.float .f32 oh) := cb hb (by go_simp); have x3 : w5.cell? ⟨w3.heap.size, 1, none⟩ = some (.float .f32 ol) := cb hb (by go_simp); replace HP := Hd.mk (HP.out.below (bt3 hb (by (repeat (first | exact Below.refl _ _ | assumption | refine Below.drew ?_ | refine bdn ?_ | refine ba _ ?_ | refine bs0 _ _ ?_ ?_ | refine bs1 _ _ _ ?_ ?_ | refine bs2 _ _ _ _ ?_ ?_ | refine bs3 _ _ _ _ _ ?_ ?_ | refine bt3 (by assumption) ?_))))); have r0 : w5.cell? _ = some (.float .f32 0) := HP.out.b2.cell 0; have r1 : w5.cell? _ = some (.float .f32 0) := HP.out.b2.cell 1; have q0 := HP.out.b2.frozen 0; have q1 := HP.out.b2.frozen 1; clear hb))
    refine bodyPost_ret (v := .tuple #[.agg #[.float .f32 oh, .float .f32 ol], .bool true]) (by simp (maxDischargeDepth := 7) [results, Tryz.results122, go_sem, *]) rfl ⟨oh, ol, by rw [← HK.out.1] <;> simp, HK.out.2, (by have hbb := HP.out.bel; (repeat (first | exact Below.refl _ _ | assumption | refine Below.drew ?_ | refine bdn ?_ | refine ba _ ?_ | refine bs0 _ _ ?_ ?_ | refine bs1 _ _ _ ?_ ?_ | refine bs2 _ _ _ _ ?_ ?_ | refine bs3 _ _ _ _ _ ?_ ?_ | refine bt3 (by assumption) ?_)))⟩
set_option maxHeartbeats 4000000 in
theorem s_TimesN (a b c d : Nat) (w : World) (ha : W a) (hb : W b) (hc : W c) (hd : W d) (fa : fin a) (fb : fin b) (fc : fin c) (fd : fin d) (hn : ¬ fin (muF a c)) (H L : Nat) : Calls Tryz.prog 123 #[.agg #[.float .f32 a, .float .f32 b], .agg #[.float .f32 c, .float .f32 d]] w (RetA false H L w) := by
  have HS1 := Hd.mk (fun w => s_ProdN a c w fa fc hn)
  clear ha hb hc hd fa fb fc fd hn
  go_enter Tryz.func123, Tryz.ntmps123
  go_wp2_with (go_at_call 134; (with_reducible refine (HS1.out _).mono ?_); rintro e1 w1 ⟨rfl, hb⟩; have HP := Hd.mk ((PW.start w a b c d).below hb); have c0 : w1.cell? _ = some (.float .f32 a) := HP.out.b0.cell 0; have c1 : w1.cell? _ = some (.float .f32 b) := HP.out.b0.cell 1; have d0 : w1.cell? _ = some (.float .f32 c) := HP.out.b1.cell 0; have d1 : w1.cell? _ = some (.float .f32 d) := HP.out.b1.cell 1; have z0 : w.heap.size < w1.heap.size := HP.out.b0.lt; have z1 : w.heap.size + 1 < w1.heap.size := HP.out.b1.lt; have z2 : w.heap.size + 1 + 1 < w1.heap.size := HP.out.b2.lt; have r0 : w1.cell? _ = some (.float .f32 0) := HP.out.b2.cell 0; have r1 : w1.cell? _ = some (.float .f32 0) := HP.out.b2.cell 1; have q0 := HP.out.b2.frozen 0; have q1 := HP.out.b2.frozen 1; clear hb)
  refine bodyPost_ret (v := .tuple #[.agg #[.float .f32 0, .float .f32 0], .bool false]) (by simp (maxDischargeDepth := 7) [results, Tryz.results123, go_sem, *]) rfl ⟨0, 0, rfl, fun k => (by cases k), (by have hbb := HP.out.bel; (repeat (first | exact Below.refl _ _ | assumption | refine Below.drew ?_ | refine bdn ?_ | refine ba _ ?_ | refine bs0 _ _ ?_ ?_ | refine bs1 _ _ _ ?_ ?_ | refine bs2 _ _ _ _ ?_ ?_ | refine bs3 _ _ _ _ _ ?_ ?_ | refine bt3 (by assumption) ?_)))⟩
set_option maxHeartbeats 4000000 in
theorem i_TimesN (a b c d : Nat) (w : World) (ha : W a) (hb : W b) (hc : W c) (hd : W d) (fa : fin a) (fb : fin b) (fc : fin c) (fd : fin d) (hn : ¬ fin (muF a c)) (H L : Nat) : Calls Tryz.prog 122 #[.agg #[.float .f32 a, .float .f32 b], .agg #[.float .f32 c, .float .f32 d]] w (RetA false H L w) := by
  have HS1 := Hd.mk (fun w => i_ProdN a c w fa fc hn)
  clear ha hb hc hd fa fb fc fd hn
  go_enter Tryz.func122, Tryz.ntmps122
  go_wp2_with (go_at_call 133; (with_reducible refine (HS1.out _).mono ?_); rintro e1 w1 ⟨rfl, hb⟩; have HP := Hd.mk ((PW.start w a b c d).below hb); have c0 : w1.cell? _ = some (.float .f32 a) := HP.out.b0.cell 0; have c1 : w1.cell? _ = some (.float .f32 b) := HP.out.b0.cell 1; have d0 : w1.cell? _ = some (.float .f32 c) := HP.out.b1.cell 0; have d1 : w1.cell? _ = some (.float .f32 d) := HP.out.b1.cell 1; have z0 : w.heap.size < w1.heap.size := HP.out.b0.lt; have z1 : w.heap.size + 1 < w1.heap.size := HP.out.b1.lt; have z2 : w.heap.size + 1 + 1 < w1.heap.size := HP.out.b2.lt; have r0 : w1.cell? _ = some (.float .f32 0) := HP.out.b2.cell 0; have r1 : w1.cell? _ = some (.float .f32 0) := HP.out.b2.cell 1; have q0 := HP.out.b2.frozen 0; have q1 := HP.out.b2.frozen 1; clear hb)
  refine bodyPost_ret (v := .tuple #[.agg #[.float .f32 0, .float .f32 0], .bool false]) (by simp (maxDischargeDepth := 7) [results, Tryz.results122, go_sem, *]) rfl ⟨0, 0, rfl, fun k => (by cases k), (by have hbb := HP.out.bel; (repeat (first | exact Below.refl _ _ | assumption | refine Below.drew ?_ | refine bdn ?_ | refine ba _ ?_ | refine bs0 _ _ ?_ ?_ | refine bs1 _ _ _ ?_ ?_ | refine bs2 _ _ _ _ ?_ ?_ | refine bs3 _ _ _ _ _ ?_ ?_ | refine bt3 (by assumption) ?_)))⟩
def mpOk (a b c d : Nat) : Bool := decide (fin (muF a c)) && (mpK (muF a d) (muF b c) (prL a c) (muF a c))
def mpHi (a b c d : Nat) : Nat := (mpH (muF a d) (muF b c) (prL a c) (muF a c))
def mpLo (a b c d : Nat) : Nat := (mpL (muF a d) (muF b c) (prL a c) (muF a c))
theorem mpOk_Y {a b c d : Nat} (h : fin (muF a c)) : mpOk a b c d = (mpK (muF a d) (muF b c) (prL a c) (muF a c)) := by
  unfold mpOk; rw [decide_eq_true h]; simp
theorem mpOk_N {a b c d : Nat} (h : ¬ fin (muF a c)) : mpOk a b c d = false := by
  unfold mpOk; rw [decide_eq_false h]; simp
theorem s_TimesP (a b c d : Nat) (w : World) (ha : W a) (hb : W b) (hc : W c) (hd : W d) (fa : fin a) (fb : fin b) (fc : fin c) (fd : fin d) : Calls Tryz.prog 123 #[.agg #[.float .f32 a, .float .f32 b], .agg #[.float .f32 c, .float .f32 d]] w (RetA (mpOk a b c d) (mpHi a b c d) (mpLo a b c d) w) := by
  by_cases h : fin (muF a c)
  · rw [mpOk_Y h]; exact s_TimesY a b c d w ha hb hc hd fa fb fc fd h
  · rw [mpOk_N h]; exact s_TimesN a b c d w ha hb hc hd fa fb fc fd h _ _
theorem i_TimesP (a b c d : Nat) (w : World) (ha : W a) (hb : W b) (hc : W c) (hd : W d) (fa : fin a) (fb : fin b) (fc : fin c) (fd : fin d) : Calls Tryz.prog 122 #[.agg #[.float .f32 a, .float .f32 b], .agg #[.float .f32 c, .float .f32 d]] w (RetA (mpOk a b c d) (mpHi a b c d) (mpLo a b c d) w) := by
  by_cases h : fin (muF a c)
  · rw [mpOk_Y h]; exact i_TimesY a b c d w ha hb hc hd fa fb fc fd h
  · rw [mpOk_N h]; exact i_TimesN a b c d w ha hb hc hd fa fb fc fd h _ _
set_option maxHeartbeats 4000000 in
theorem s_MulX (a b c d : Nat) (w : World) (ha : W a) (hb : W b) (hc : W c) (hd : W d) (K : Bool) (H L : Nat) (HO' : (prB a b && prB c d) = true → ∀ w, Calls Tryz.prog 123 #[.agg #[.float .f32 a, .float .f32 b], .agg #[.float .f32 c, .float .f32 d]] w (RetA K H L w)) : Calls Tryz.prog 50 #[.agg #[.float .f32 a, .float .f32 b], .agg #[.float .f32 c, .float .f32 d]] w (RetX (prB a b && prB c d) K H L w) := by
  have HT := Hd.mk (fun w => s_Two a b c d w ha hb hc hd)
  clear ha hb hc hd
  generalize (prB a b && prB c d) = P at *
  cases P
  · go_enter Tryz.func50, Tryz.ntmps50
    go_wp2_with (go_at_call 92; (with_reducible refine (HT.out _).mono ?_); rintro e1 w1 ⟨rfl, hb⟩; have HP := Hd.mk ((PW.start w a b c d).below hb); have c0 : w1.cell? _ = some (.float .f32 a) := HP.out.b0.cell 0; have c1 : w1.cell? _ = some (.float .f32 b) := HP.out.b0.cell 1; have d0 : w1.cell? _ = some (.float .f32 c) := HP.out.b1.cell 0; have d1 : w1.cell? _ = some (.float .f32 d) := HP.out.b1.cell 1; have z0 : w.heap.size < w1.heap.size := HP.out.b0.lt; have z1 : w.heap.size + 1 < w1.heap.size := HP.out.b1.lt; have z2 : w.heap.size + 1 + 1 < w1.heap.size := HP.out.b2.lt; have r0 : w1.cell? _ = some (.float .f32 0) := HP.out.b2.cell 0; have r1 : w1.cell? _ = some (.float .f32 0) := HP.out.b2.cell 1; have q0 := HP.out.b2.frozen 0; have q1 := HP.out.b2.frozen 1; clear hb)
    refine bodyPost_ret (v := .tuple #[.agg #[.float .f32 0, .float .f32 0], .int .i64 1]) (by simp (maxDischargeDepth := 7) [results, Tryz.results50, go_sem, *]) rfl ⟨rfl, (by have hbb := HP.out.bel; (repeat (first | exact Below.refl _ _ | assumption | refine Below.drew ?_ | refine bdn ?_ | refine ba _ ?_ | refine bs0 _ _ ?_ ?_ | refine bs1 _ _ _ ?_ ?_ | refine bs2 _ _ _ _ ?_ ?_ | refine bs3 _ _ _ _ _ ?_ ?_ | refine bt3 (by assumption) ?_)))⟩
  · have HO := Hd.mk (HO' rfl)
    clear HO'
    cases K
    · go_enter Tryz.func50, Tryz.ntmps50
      go_wp2_with (first | (go_at_call 92; (with_reducible refine (HT.out _).mono ?_); rintro e1 w1 ⟨rfl, hb⟩; have HP := Hd.mk ((PW.start w a b c d).below hb); have c0 : w1.cell? _ = some (.float .f32 a) := HP.out.b0.cell 0; have c1 : w1.cell? _ = some (.float .f32 b) := HP.out.b0.cell 1; have d0 : w1.cell? _ = some (.float .f32 c) := HP.out.b1.cell 0; have d1 : w1.cell? _ = some (.float .f32 d) := HP.out.b1.cell 1; have z0 : w.heap.size < w1.heap.size := HP.out.b0.lt; have z1 : w.heap.size + 1 < w1.heap.size := HP.out.b1.lt; have z2 : w.heap.size + 1 + 1 < w1.heap.size := HP.out.b2.lt; have r0 : w1.cell? _ = some (.float .f32 0) := HP.out.b2.cell 0; have r1 : w1.cell? _ = some (.float .f32 0) := HP.out.b2.cell 1; have q0 := HP.out.b2.frozen 0; have q1 := HP.out.b2.frozen 1; clear hb) | (go_at_call 123; (with_reducible refine (HO.out _).mono ?_); rintro e2 w2 ⟨oh, ol, rfl, hhl, hb⟩; have HL := Hd.mk hhl; replace HP := Hd.mk (HP.out.below (bt3 hb (by (repeat (first | exact Below.refl _ _ | assumption | refine Below.drew ?_ | refine bdn ?_ | refine ba _ ?_ | refine bs0 _ _ ?_ ?_ | refine bs1 _ _ _ ?_ ?_ | refine bs2 _ _ _ _ ?_ ?_ | refine bs3 _ _ _ _ _ ?_ ?_ | refine bt3 (by assumption) ?_))))); have c0 : w2.cell? _ = some (.float .f32 a) := HP.out.b0.cell 0; have c1 : w2.cell? _ = some (.float .f32 b) := HP.out.b0.cell 1; have d0 : w2.cell? _ = some (.float .f32 c) := HP.out.b1.cell 0; have d1 : w2.cell? _ = some (.float .f32 d) := HP.out.b1.cell 1; have z0 : w.heap.size < w2.heap.size := HP.out.b0.lt; have z1 : w.heap.size + 1 < w2.heap.size := HP.out.b1.lt; have z2 : w.heap.size + 1 + 1 < w2.heap.size := HP.out.b2.lt; have r0 : w2.cell? _ = some (.float .f32 0) := HP.out.b2.cell 0; have r1 : w2.cell? _ = some (.float .f32 0) := HP.out.b2.cell 1; have q0 := HP.out.b2.frozen 0; have q1 := HP.out.b2.frozen 1; clear hb hhl))
      refine bodyPost_ret (v := .tuple #[.agg #[.float .f32 0, .float .f32 0], .int .i64 3]) (by simp (maxDischargeDepth := 7) [results, Tryz.results50, go_sem, *]) rfl ⟨rfl, (by have hbb := HP.out.bel; (repeat (first | exact Below.refl _ _ | assumption | refine Below.drew ?_ | refine bdn ?_ | refine ba _ ?_ | refine bs0 _ _ ?_ ?_ | refine bs1 _ _ _ ?_ ?_ | refine bs2 _ _ _ _ ?_ ?_ | refine bs3 _ _ _ _ _ ?_ ?_ | refine bt3 (by assumption) ?_)))⟩
    · go_enter Tryz.func50, Tryz.ntmps50
      go_wp2_with (first | (go_at_call 92; (with_reducible refine (HT.out _).mono ?_); rintro e1 w1 ⟨rfl, hb⟩; have HP := Hd.mk ((PW.start w a b c d).below hb); have c0 : w1.cell? _ = some (.float .f32 a) := HP.out.b0.cell 0; have c1 : w1.cell? _ = some (.float .f32 b) := HP.out.b0.cell 1; have d0 : w1.cell? _ = some (.float .f32 c) := HP.out.b1.cell 0; have d1 : w1.cell? _ = some (.float .f32 d) := HP.out.b1.cell 1; have z0 : w.heap.size < w1.heap.size := HP.out.b0.lt; have z1 : w.heap.size + 1 < w1.heap.size := HP.out.b1.lt; have z2 : w.heap.size + 1 + 1 < w1.heap.size := HP.out.b2.lt; have r0 : w1.cell? _ = some (.float .f32 0) := HP.out.b2.cell 0; have r1 : w1.cell? _ = some (.float .f32 0) := HP.out.b2.cell 1; have q0 := HP.out.b2.frozen 0; have q1 := HP.out.b2.frozen 1; clear hb) | (go_at_call 123; (with_reducible refine (HO.out _).mono ?_); rintro e2 w2 ⟨oh, ol, rfl, hhl, hb⟩; have HL := Hd.mk hhl; replace HP := Hd.mk (HP.out.below (bt3 hb (by (repeat (first | exact Below.refl _ _ | assumption | refine Below.drew ?_ | refine bdn ?_ | refine ba _ ?_ | refine bs0 _ _ ?_ ?_ | refine bs1 _ _ _ ?_ ?_ | refine bs2 _ _ _ _ ?_ ?_ | refine bs3 _ _ _ _ _ ?_ ?_ | refine bt3 (by assumption) ?_))))); have c0 : w2.cell? _ = some (.float .f32 a) := HP.out.b0.cell 0; have c1 : w2.cell? _ = some (.float .f32 b) := HP.out.b0.cell 1; have d0 : w2.cell? _ = some (.float .f32 c) := HP.out.b1.cell 0; have d1 : w2.cell? _ = some (.float .f32 d) := HP.out.b1.cell 1; have z0 : w.heap.size < w2.heap.size := HP.out.b0.lt; have z1 : w.heap.size + 1 < w2.heap.size := HP.out.b1.lt; have z2 : w.heap.size + 1 + 1 < w2.heap.size := HP.out.b2.lt; have r0 : w2.cell? _ = some (.float .f32 0) := HP.out.b2.cell 0; have r1 : w2.cell? _ = some (.float .f32 0) := HP.out.b2.cell 1; have q0 := HP.out.b2.frozen 0; have q1 := HP.out.b2.frozen 1; clear hb hhl))
      refine bodyPost_ret (v := .tuple #[.agg #[.float .f32 oh, .float .f32 ol], .int .i64 0]) (by simp (maxDischargeDepth := 7) [results, Tryz.results50, go_sem, *]) rfl ⟨by rw [(HL.out (by simp)).1, (HL.out (by simp)).2] <;> rfl, (by have hbb := HP.out.bel; (repeat (first | exact Below.refl _ _ | assumption | refine Below.drew ?_ | refine bdn ?_ | refine ba _ ?_ | refine bs0 _ _ ?_ ?_ | refine bs1 _ _ _ ?_ ?_ | refine bs2 _ _ _ _ ?_ ?_ | refine bs3 _ _ _ _ _ ?_ ?_ | refine bt3 (by assumption) ?_)))⟩
set_option maxHeartbeats 4000000 in
theorem i_MulX (a b c d : Nat) (w : World) (ha : W a) (hb : W b) (hc : W c) (hd : W d) (K : Bool) (H L : Nat) (HO' : (prB a b && prB c d) = true → ∀ w, Calls Tryz.prog 122 #[.agg #[.float .f32 a, .float .f32 b], .agg #[.float .f32 c, .float .f32 d]] w (RetA K H L w)) : Calls Tryz.prog 49 #[.agg #[.float .f32 a, .float .f32 b], .agg #[.float .f32 c, .float .f32 d]] w (RetX (prB a b && prB c d) K H L w) := by
  have H1 := Hd.mk (fun w => i_IsPair a b w ha hb)
  have H2 := Hd.mk (fun w => i_IsPair c d w hc hd)
  clear ha hb hc hd
  generalize prB a b = b1 at *
  generalize prB c d = b2 at *
  rcases (show b1 = false ∨ (b1 = true ∧ b2 = false) ∨ (b1 = true ∧ b2 = true) by cases b1 <;> cases b2 <;> simp) with rfl | ⟨rfl, rfl⟩ | ⟨rfl, rfl⟩
  · go_enter Tryz.func49, Tryz.ntmps49
    go_wp2_with (first | (go_at_call 47; (with_reducible refine (H1.out _).mono ?_); rintro e1 w1 ⟨rfl, hb⟩; have HP := Hd.mk ((PW.start w a b c d).below hb); have c0 : w1.cell? _ = some (.float .f32 a) := HP.out.b0.cell 0; have c1 : w1.cell? _ = some (.float .f32 b) := HP.out.b0.cell 1; have d0 : w1.cell? _ = some (.float .f32 c) := HP.out.b1.cell 0; have d1 : w1.cell? _ = some (.float .f32 d) := HP.out.b1.cell 1; have z0 : w.heap.size < w1.heap.size := HP.out.b0.lt; have z1 : w.heap.size + 1 < w1.heap.size := HP.out.b1.lt; have z2 : w.heap.size + 1 + 1 < w1.heap.size := HP.out.b2.lt; have r0 : w1.cell? _ = some (.float .f32 0) := HP.out.b2.cell 0; have r1 : w1.cell? _ = some (.float .f32 0) := HP.out.b2.cell 1; have q0 := HP.out.b2.frozen 0; have q1 := HP.out.b2.frozen 1; clear hb) | (go_at_call 47; (with_reducible refine (H2.out _).mono ?_); rintro e2 w2 ⟨rfl, hb⟩; replace HP := Hd.mk (HP.out.below (bt3 hb (by (repeat (first | exact Below.refl _ _ | assumption | refine Below.drew ?_ | refine bdn ?_ | refine ba _ ?_ | refine bs0 _ _ ?_ ?_ | refine bs1 _ _ _ ?_ ?_ | refine bs2 _ _ _ _ ?_ ?_ | refine bs3 _ _ _ _ _ ?_ ?_ | refine bt3 (by assumption) ?_))))); have c0 : w2.cell? _ = some (.float .f32 a) := HP.out.b0.cell 0; have c1 : w2.cell? _ = some (.float .f32 b) := HP.out.b0.cell 1; have d0 : w2.cell? _ = some (.float .f32 c) := HP.out.b1.cell 0; have d1 : w2.cell? _ = some (.float .f32 d) := HP.out.b1.cell 1; have z0 : w.heap.size < w2.heap.size := HP.out.b0.lt; have z1 : w.heap.size + 1 < w2.heap.size := HP.out.b1.lt; have z2 : w.heap.size + 1 + 1 < w2.heap.size := HP.out.b2.lt; have r0 : w2.cell? _ = some (.float .f32 0) := HP.out.b2.cell 0; have r1 : w2.cell? _ = some (.float .f32 0) := HP.out.b2.cell 1; have q0 := HP.out.b2.frozen 0; have q1 := HP.out.b2.frozen 1; clear hb))
    refine bodyPost_ret (v := .tuple #[.agg #[.float .f32 0, .float .f32 0], .int .i64 1]) (by simp (maxDischargeDepth := 7) [results, Tryz.results49, go_sem, *]) rfl ⟨rfl, (by have hbb := HP.out.bel; (repeat (first | exact Below.refl _ _ | assumption | refine Below.drew ?_ | refine bdn ?_ | refine ba _ ?_ | refine bs0 _ _ ?_ ?_ | refine bs1 _ _ _ ?_ ?_ | refine bs2 _ _ _ _ ?_ ?_ | refine bs3 _ _ _ _ _ ?_ ?_ | refine bt3 (by assumption) ?_)))⟩
  · go_enter Tryz.func49, Tryz.ntmps49
    go_wp2_with (first | (go_at_call 47; (with_reducible refine (H1.out _).mono ?_); rintro e1 w1 ⟨rfl, hb⟩; have HP := Hd.mk ((PW.start w a b c d).below hb); have c0 : w1.cell? _ = some (.float .f32 a) := HP.out.b0.cell 0; have c1 : w1.cell? _ = some (.float .f32 b) := HP.out.b0.cell 1; have d0 : w1.cell? _ = some (.float .f32 c) := HP.out.b1.cell 0; have d1 : w1.cell? _ = some (.float .f32 d) := HP.out.b1.cell 1; have z0 : w.heap.size < w1.heap.size := HP.out.b0.lt; have z1 : w.heap.size + 1 < w1.heap.size := HP.out.b1.lt; have z2 : w.heap.size + 1 + 1 < w1.heap.size := HP.out.b2.lt; have r0 : w1.cell? _ = some (.float .f32 0) := HP.out.b2.cell 0; have r1 : w1.cell? _ = some (.float .f32 0) := HP.out.b2.cell 1; have q0 := HP.out.b2.frozen 0; have q1 := HP.out.b2.frozen 1; clear hb) | (go_at_call 47; (with_reducible refine (H2.out _).mono ?_); rintro e2 w2 ⟨rfl, hb⟩; replace HP := Hd.mk (HP.out.below (bt3 hb (by (repeat (first | exact Below.refl _ _ | assumption | refine Below.drew ?_ | refine bdn ?_ | refine ba _ ?_ | refine bs0 _ _ ?_ ?_ | refine bs1 _ _ _ ?_ ?_ | refine bs2 _ _ _ _ ?_ ?_ | refine bs3 _ _ _ _ _ ?_ ?_ | refine bt3 (by assumption) ?_))))); have c0 : w2.cell? _ = some (.float .f32 a) := HP.out.b0.cell 0; have c1 : w2.cell? _ = some (.float .f32 b) := HP.out.b0.cell 1; have d0 : w2.cell? _ = some (.float .f32 c) := HP.out.b1.cell 0; have d1 : w2.cell? _ = some (.float .f32 d) := HP.out.b1.cell 1; have z0 : w.heap.size < w2.heap.size := HP.out.b0.lt; have z1 : w.heap.size + 1 < w2.heap.size := HP.out.b1.lt; have z2 : w.heap.size + 1 + 1 < w2.heap.size := HP.out.b2.lt; have r0 : w2.cell? _ = some (.float .f32 0) := HP.out.b2.cell 0; have r1 : w2.cell? _ = some (.float .f32 0) := HP.out.b2.cell 1; have q0 := HP.out.b2.frozen 0; have q1 := HP.out.b2.frozen 1; clear hb))
    refine bodyPost_ret (v := .tuple #[.agg #[.float .f32 0, .float .f32 0], .int .i64 1]) (by simp (maxDischargeDepth := 7) [results, Tryz.results49, go_sem, *]) rfl ⟨rfl, (by have hbb := HP.out.bel; (repeat (first | exact Below.refl _ _ | assumption | refine Below.drew ?_ | refine bdn ?_ | refine ba _ ?_ | refine bs0 _ _ ?_ ?_ | refine bs1 _ _ _ ?_ ?_ | refine bs2 _ _ _ _ ?_ ?_ | refine bs3 _ _ _ _ _ ?_ ?_ | refine bt3 (by assumption) ?_)))⟩
  · have HO := Hd.mk (HO' rfl)
    clear HO'
    cases K
    · go_enter Tryz.func49, Tryz.ntmps49
      go_wp2_with (first | (go_at_call 47; (with_reducible refine (H1.out _).mono ?_); rintro e1 w1 ⟨rfl, hb⟩; have HP := Hd.mk ((PW.start w a b c d).below hb); have c0 : w1.cell? _ = some (.float .f32 a) := HP.out.b0.cell 0; have c1 : w1.cell? _ = some (.float .f32 b) := HP.out.b0.cell 1; have d0 : w1.cell? _ = some (.float .f32 c) := HP.out.b1.cell 0; have d1 : w1.cell? _ = some (.float .f32 d) := HP.out.b1.cell 1; have z0 : w.heap.size < w1.heap.size := HP.out.b0.lt; have z1 : w.heap.size + 1 < w1.heap.size := HP.out.b1.lt; have z2 : w.heap.size + 1 + 1 < w1.heap.size := HP.out.b2.lt; have r0 : w1.cell? _ = some (.float .f32 0) := HP.out.b2.cell 0; have r1 : w1.cell? _ = some (.float .f32 0) := HP.out.b2.cell 1; have q0 := HP.out.b2.frozen 0; have q1 := HP.out.b2.frozen 1; clear hb) | (go_at_call 47; (with_reducible refine (H2.out _).mono ?_); rintro e2 w2 ⟨rfl, hb⟩; replace HP := Hd.mk (HP.out.below (bt3 hb (by (repeat (first | exact Below.refl _ _ | assumption | refine Below.drew ?_ | refine bdn ?_ | refine ba _ ?_ | refine bs0 _ _ ?_ ?_ | refine bs1 _ _ _ ?_ ?_ | refine bs2 _ _ _ _ ?_ ?_ | refine bs3 _ _ _ _ _ ?_ ?_ | refine bt3 (by assumption) ?_))))); have c0 : w2.cell? _ = some (.float .f32 a) := HP.out.b0.cell 0; have c1 : w2.cell? _ = some (.float .f32 b) := HP.out.b0.cell 1; have d0 : w2.cell? _ = some (.float .f32 c) := HP.out.b1.cell 0; have d1 : w2.cell? _ = some (.float .f32 d) := HP.out.b1.cell 1; have z0 : w.heap.size < w2.heap.size := HP.out.b0.lt; have z1 : w.heap.size + 1 < w2.heap.size := HP.out.b1.lt; have z2 : w.heap.size + 1 + 1 < w2.heap.size := HP.out.b2.lt; have r0 : w2.cell? _ = some (.float .f32 0) := HP.out.b2.cell 0; have r1 : w2.cell? _ = some (.float .f32 0) := HP.out.b2.cell 1; have q0 := HP.out.b2.frozen 0; have q1 := HP.out.b2.frozen 1; clear hb) | (go_at_call 122; (with_reducible refine (HO.out _).mono ?_); rintro e3 w3 ⟨oh, ol, rfl, hhl, hb⟩; have HL := Hd.mk hhl; replace HP := Hd.mk (HP.out.below (bt3 hb (by (repeat (first | exact Below.refl _ _ | assumption | refine Below.drew ?_ | refine bdn ?_ | refine ba _ ?_ | refine bs0 _ _ ?_ ?_ | refine bs1 _ _ _ ?_ ?_ | refine bs2 _ _ _ _ ?_ ?_ | refine bs3 _ _ _ _ _ ?_ ?_ | refine bt3 (by assumption) ?_))))); have c0 : w3.cell? _ = some (.float .f32 a) := HP.out.b0.cell 0; have c1 : w3.cell? _ = some (.float .f32 b) := HP.out.b0.cell 1; have d0 : w3.cell? _ = some (.float .f32 c) := HP.out.b1.cell 0; have d1 : w3.cell? _ = some (.float .f32 d) := HP.out.b1.cell 1; have z0 : w.heap.size < w3.heap.size := HP.out.b0.lt; have z1 : w.heap.size + 1 < w3.heap.size := HP.out.b1.lt; have z2 : w.heap.size + 1 + 1 < w3.heap.size := HP.out.b2.lt; have r0 : w3.cell? _ = some (.float .f32 0) := HP.out.b2.cell 0; have r1 : w3.cell? _ = some (.float .f32 0) := HP.out.b2.cell 1; have q0 := HP.out.b2.frozen 0; have q1 := HP.out.b2.frozen 1; clear hb hhl) | (go_at_call 94; (with_reducible refine (i_limited oh ol _ _).mono ?_); rintro e4 w4 ⟨rfl, hb⟩; replace HP := Hd.mk (HP.out.below (bt3 hb (by (repeat (first | exact Below.refl _ _ | assumption | refine Below.drew ?_ | refine bdn ?_ | refine ba _ ?_ | refine bs0 _ _ ?_ ?_ | refine bs1 _ _ _ ?_ ?_ | refine bs2 _ _ _ _ ?_ ?_ | refine bs3 _ _ _ _ _ ?_ ?_ | refine bt3 (by assumption) ?_))))); have c0 : w4.cell? _ = some (.float .f32 a) := HP.out.b0.cell 0; have c1 : w4.cell? _ = some (.float .f32 b) := HP.out.b0.cell 1; have d0 : w4.cell? _ = some (.float .f32 c) := HP.out.b1.cell 0; have d1 : w4.cell? _ = some (.float .f32 d) := HP.out.b1.cell 1; have z0 : w.heap.size < w4.heap.size := HP.out.b0.lt; have z1 : w.heap.size + 1 < w4.heap.size := HP.out.b1.lt; have z2 : w.heap.size + 1 + 1 < w4.heap.size := HP.out.b2.lt; have r0 : w4.cell? _ = some (.float .f32 0) := HP.out.b2.cell 0; have r1 : w4.cell? _ = some (.float .f32 0) := HP.out.b2.cell 1; have q0 := HP.out.b2.frozen 0; have q1 := HP.out.b2.frozen 1; clear hb))
      refine bodyPost_ret (v := .tuple #[.agg #[.float .f32 0, .float .f32 0], .int .i64 3]) (by simp (maxDischargeDepth := 7) [results, Tryz.results49, go_sem, *]) rfl ⟨rfl, (by have hbb := HP.out.bel; (repeat (first | exact Below.refl _ _ | assumption | refine Below.drew ?_ | refine bdn ?_ | refine ba _ ?_ | refine bs0 _ _ ?_ ?_ | refine bs1 _ _ _ ?_ ?_ | refine bs2 _ _ _ _ ?_ ?_ | refine bs3 _ _ _ _ _ ?_ ?_ | refine bt3 (by assumption) ?_)))⟩
    · go_enter Tryz.func49, Tryz.ntmps49
      go_wp2_with (first | (go_at_call 47; (with_reducible refine (H1.out _).mono ?_); rintro e1 w1 ⟨rfl, hb⟩; have HP := Hd.mk ((PW.start w a b c d).below hb); have c0 : w1.cell? _ = some (.float .f32 a) := HP.out.b0.cell 0; have c1 : w1.cell? _ = some (.float .f32 b) := HP.out.b0.cell 1; have d0 : w1.cell? _ = some (.float .f32 c) := HP.out.b1.cell 0; have d1 : w1.cell? _ = some (.float .f32 d) := HP.out.b1.cell 1; have z0 : w.heap.size < w1.heap.size := HP.out.b0.lt; have z1 : w.heap.size + 1 < w1.heap.size := HP.out.b1.lt; have z2 : w.heap.size + 1 + 1 < w1.heap.size := HP.out.b2.lt; have r0 : w1.cell? _ = some (.float .f32 0) := HP.out.b2.cell 0; have r1 : w1.cell? _ = some (.float .f32 0) := HP.out.b2.cell 1; have q0 := HP.out.b2.frozen 0; have q1 := HP.out.b2.frozen 1; clear hb) | (go_at_call 47; (with_reducible refine (H2.out _).mono ?_); rintro e2 w2 ⟨rfl, hb⟩; replace HP := Hd.mk (HP.out.below (bt3 hb (by (repeat (first | exact Below.refl _ _ | assumption | refine Below.drew ?_ | refine bdn ?_ | refine ba _ ?_ | refine bs0 _ _ ?_ ?_ | refine bs1 _ _ _ ?_ ?_ | refine bs2 _ _ _ _ ?_ ?_ | refine bs3 _ _ _ _ _ ?_ ?_ | refine bt3 (by assumption) ?_))))); have c0 : w2.cell? _ = some (.float .f32 a) := HP.out.b0.cell 0; have c1 : w2.cell? _ = some (.float .f32 b) := HP.out.b0.cell 1; have d0 : w2.cell? _ = some (.float .f32 c) := HP.out.b1.cell 0; have d1 : w2.cell? _ = some (.float .f32 d) := HP.out.b1.cell 1; have z0 : w.heap.size < w2.heap.size := HP.out.b0.lt; have z1 : w.heap.size + 1 < w2.heap.size := HP.out.b1.lt; have z2 : w.heap.size + 1 + 1 < w2.heap.size := HP.out.b2.lt; have r0 : w2.cell? _ = some (.float .f32 0) := HP.out.b2.cell 0; have r1 : w2.cell? _ = some (.float .f32 0) := HP.out.b2.cell 1; have q0 := HP.out.b2.frozen 0; have q1 := HP.out.b2.frozen 1; clear hb) | (go_at_call 122; (with_reducible refine (HO.out _).mono ?_); rintro e3 w3 ⟨oh, ol, rfl, hhl, hb⟩; have HL := Hd.mk hhl; replace HP := Hd.mk (HP.out.below (bt3 hb (by (repeat (first | exact Below.refl _ _ | assumption | refine Below.drew ?_ | refine bdn ?_ | refine ba _ ?_ | refine bs0 _ _ ?_ ?_ | refine bs1 _ _ _ ?_ ?_ | refine bs2 _ _ _ _ ?_ ?_ | refine bs3 _ _ _ _ _ ?_ ?_ | refine bt3 (by assumption) ?_))))); have c0 : w3.cell? _ = some (.float .f32 a) := HP.out.b0.cell 0; have c1 : w3.cell? _ = some (.float .f32 b) := HP.out.b0.cell 1; have d0 : w3.cell? _ = some (.float .f32 c) := HP.out.b1.cell 0; have d1 : w3.cell? _ = some (.float .f32 d) := HP.out.b1.cell 1; have z0 : w.heap.size < w3.heap.size := HP.out.b0.lt; have z1 : w.heap.size + 1 < w3.heap.size := HP.out.b1.lt; have z2 : w.heap.size + 1 + 1 < w3.heap.size := HP.out.b2.lt; have r0 : w3.cell? _ = some (.float .f32 0) := HP.out.b2.cell 0; have r1 : w3.cell? _ = some (.float .f32 0) := HP.out.b2.cell 1; have q0 := HP.out.b2.frozen 0; have q1 := HP.out.b2.frozen 1; clear hb hhl) | (go_at_call 94; (with_reducible refine (i_limited oh ol _ _).mono ?_); rintro e4 w4 ⟨rfl, hb⟩; replace HP := Hd.mk (HP.out.below (bt3 hb (by (repeat (first | exact Below.refl _ _ | assumption | refine Below.drew ?_ | refine bdn ?_ | refine ba _ ?_ | refine bs0 _ _ ?_ ?_ | refine bs1 _ _ _ ?_ ?_ | refine bs2 _ _ _ _ ?_ ?_ | refine bs3 _ _ _ _ _ ?_ ?_ | refine bt3 (by assumption) ?_))))); have c0 : w4.cell? _ = some (.float .f32 a) := HP.out.b0.cell 0; have c1 : w4.cell? _ = some (.float .f32 b) := HP.out.b0.cell 1; have d0 : w4.cell? _ = some (.float .f32 c) := HP.out.b1.cell 0; have d1 : w4.cell? _ = some (.float .f32 d) := HP.out.b1.cell 1; have z0 : w.heap.size < w4.heap.size := HP.out.b0.lt; have z1 : w.heap.size + 1 < w4.heap.size := HP.out.b1.lt; have z2 : w.heap.size + 1 + 1 < w4.heap.size := HP.out.b2.lt; have r0 : w4.cell? _ = some (.float .f32 0) := HP.out.b2.cell 0; have r1 : w4.cell? _ = some (.float .f32 0) := HP.out.b2.cell 1; have q0 := HP.out.b2.frozen 0; have q1 := HP.out.b2.frozen 1; clear hb))
      refine bodyPost_ret (v := .tuple #[.agg #[.float .f32 oh, .float .f32 ol], .int .i64 0]) (by simp (maxDischargeDepth := 7) [results, Tryz.results49, go_sem, *]) rfl ⟨by rw [(HL.out (by simp)).1, (HL.out (by simp)).2] <;> rfl, (by have hbb := HP.out.bel; (repeat (first | exact Below.refl _ _ | assumption | refine Below.drew ?_ | refine bdn ?_ | refine ba _ ?_ | refine bs0 _ _ ?_ ?_ | refine bs1 _ _ _ ?_ ?_ | refine bs2 _ _ _ _ ?_ ?_ | refine bs3 _ _ _ _ _ ?_ ?_ | refine bt3 (by assumption) ?_)))⟩
theorem mpOk_num {a b c d : Nat} (h : mpOk a b c d = true) : fin (mpHi a b c d) ∧ fin (mpLo a b c d) := by
  unfold mpOk at h
  rw [Bool.and_eq_true] at h
  have h2 := h.2
  unfold mpK at h2
  rw [Bool.and_eq_true] at h2
  exact prB_fin h2.2
def MPh (a b c d : Nat) : Nat := exV (prB a b && prB c d) (mpOk a b c d) (mpHi a b c d)
def MPl (a b c d : Nat) : Nat := exV (prB a b && prB c d) (mpOk a b c d) (mpLo a b c d)
def MPc (a b c d : Nat) : Int := exC (prB a b && prB c d) (mpOk a b c d)
theorem mp_num (a b c d : Nat) : ¬ nan (MPh a b c d) ∧ ¬ nan (MPl a b c d) := ⟨exV_num (fun h => (mpOk_num h).1), exV_num (fun h => (mpOk_num h).2)⟩
theorem s_MulPairs (a b c d : Nat) (w : World) (ha : W a) (hb : W b) (hc : W c) (hd : W d) : Calls Tryz.prog 50 #[.agg #[.float .f32 a, .float .f32 b], .agg #[.float .f32 c, .float .f32 d]] w (RetX2 (MPh a b c d) (MPl a b c d) (MPc a b c d) w) := by
  refine s_MulX a b c d w ha hb hc hd (mpOk a b c d) (mpHi a b c d) (mpLo a b c d) (fun h w => ?_)
  rw [Bool.and_eq_true] at h
  exact s_TimesP a b c d w ha hb hc hd (prB_fin h.1).1 (prB_fin h.1).2 (prB_fin h.2).1 (prB_fin h.2).2
theorem i_MulPairs (a b c d : Nat) (w : World) (ha : W a) (hb : W b) (hc : W c) (hd : W d) : Calls Tryz.prog 49 #[.agg #[.float .f32 a, .float .f32 b], .agg #[.float .f32 c, .float .f32 d]] w (RetX2 (MPh a b c d) (MPl a b c d) (MPc a b c d) w) := by
  refine i_MulX a b c d w ha hb hc hd (mpOk a b c d) (mpHi a b c d) (mpLo a b c d) (fun h w => ?_)
  rw [Bool.and_eq_true] at h
  exact i_TimesP a b c d w ha hb hc hd (prB_fin h.1).1 (prB_fin h.1).2 (prB_fin h.2).1 (prB_fin h.2).2
end Go.Proofs.YtflgjecpjaiecaaGreat
