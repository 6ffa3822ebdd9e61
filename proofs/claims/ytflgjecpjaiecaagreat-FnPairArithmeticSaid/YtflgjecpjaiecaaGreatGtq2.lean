/- Gt: S34, merged. -/
import Derived.Test.YtflgjecpjaiecaaGreatGsq2
/- Contracts: sums of pairs, both sides. -/
set_option linter.unusedVariables false
set_option linter.unusedSimpArgs false
namespace Go.Proofs.YtflgjecpjaiecaaGreat
open Go.RowKit Num Flt
abbrev Wq3 (w : World) (a b c d : Nat) : World := ((w.alloc (Obj.cells #[.float .f32 a, .float .f32 b] 30)).alloc (Obj.cells #[.float .f32 c, .float .f32 d] 30)).alloc (Obj.cells #[.float .f32 0, .float .f32 0] 30)
/-- what a function of two pairs holds: the pairs, and the result -/
structure PW (w wx : World) (a b c d : Nat) : Prop where
  bel : Below w.heap.size w wx
  b0 : Blk wx w.heap.size 30 #[.float .f32 a, .float .f32 b]
  b1 : Blk wx (w.heap.size + 1) 30 #[.float .f32 c, .float .f32 d]
  b2 : Blk wx (w.heap.size + 1 + 1) 30 #[.float .f32 0, .float .f32 0]
theorem PW.start (w : World) (a b c d : Nat) : PW w (Wq3 w a b c d) a b c d := by
  refine ⟨ba _ (ba _ (ba _ (Below.refl _ _))), ((Blk.new _ _ _).alloc _).alloc _, ?_, ?_⟩
  · have := (Blk.new (w.alloc (Obj.cells #[.float .f32 a, .float .f32 b] 30)) 30 #[.float .f32 c, .float .f32 d]).alloc (Obj.cells #[.float .f32 0, .float .f32 0] 30)
    simpa [Wq3] using this
  · have := Blk.new ((w.alloc (Obj.cells #[.float .f32 a, .float .f32 b] 30)).alloc (Obj.cells #[.float .f32 c, .float .f32 d] 30)) 30 #[.float .f32 0, .float .f32 0]
    simpa [Wq3] using this
theorem PW.below {w wx w' : World} {a b c d : Nat} (h : PW w wx a b c d) (hb : Below wx.heap.size wx w') : PW w w' a b c d :=
  ⟨bt3 hb h.bel, h.b0.below hb h.b0.lt, h.b1.below hb h.b1.lt, h.b2.below hb h.b2.lt⟩
/-- the answers of sums and products of pairs -/
def RetA (K : Bool) (H L : Nat) (w : World) (e : Ending) (w' : World) : Prop := ∃ h l, e = .returned (.tuple #[.agg #[.float .f32 h, .float .f32 l], .bool K]) ∧ (K = true → h = H ∧ l = L) ∧ Below w.heap.size w w'
def apG (f sh tl : Nat) : Nat := addW tl (qkL sh f)
def apH (f sh tl : Nat) : Nat := addW (addW sh f) (apG f sh tl)
def apL (f sh tl : Nat) : Nat := qkL (addW sh f) (apG f sh tl)
def apK (f sh tl : Nat) : Bool := decide (fin f) && decide (fin (addW sh f)) && decide (fin (qkL sh f)) && decide (fin (apG f sh tl)) && prB (apH f sh tl) (apL f sh tl)
theorem ap_det {f sh tl vh vl g oh ol : Nat} (d3 : fin f → vh = addW sh f ∧ vl = qkL sh f) (dg : fin vl → g = addW tl vl) (d4 : fin vh → fin g → oh = addW vh g ∧ ol = qkL vh g) : (decide (fin f) && decide (fin vh) && decide (fin vl) && decide (fin g) && prB oh ol) = apK f sh tl ∧ (apK f sh tl = true → oh = apH f sh tl ∧ ol = apL f sh tl) := by
  unfold apK
  by_cases h1 : fin f
  · obtain ⟨rfl, rfl⟩ := d3 h1
    by_cases h2 : fin (qkL sh f)
    · obtain rfl := dg h2
      by_cases h3 : fin (addW sh f)
      · by_cases h4 : fin (addW tl (qkL sh f))
        · obtain ⟨rfl, rfl⟩ := d4 h3 h4
          exact ⟨rfl, fun _ => ⟨rfl, rfl⟩⟩
        · have h5 : decide (fin (apG f sh tl)) = false := decide_eq_false h4
          rw [decide_eq_false h4, h5]; simp
      · rw [decide_eq_false h3]; simp
    · rw [decide_eq_false h2]; simp
  · rw [decide_eq_false h1]; simp
theorem fop_add (T : TypeId) (x y : Nat) (hx : fin x) : ∃ (r : World → Nat) (n : Nat), (∀ w, (binOp .add T (.float .f32 x) (.float .f32 y)).run Tryz.prog w = .ok (.float .f32 (r w)) (w.drewN n)) ∧ (∀ w, W (r w)) ∧ (fin y → ∀ w, r w = addW x y) := by
  obtain ⟨r, n, h1, h2, h3⟩ := fop_any .add (by simp) T x y
  exact ⟨r, n, h1, h2, fun hy w => h3 _ (addW_eq hx hy) w⟩
set_option maxHeartbeats 20000000 in
theorem s_AddY (a b c d : Nat) (w : World) (ha : W a) (hb : W b) (hc : W c) (hd : W d) (fa : fin a) (fb : fin b) (fc : fin c) (fd : fin d) (f1 : fin (addW a c)) (f2 : fin (addW b d)) :
    Calls Tryz.prog 121 #[.agg #[.float .f32 a, .float .f32 b], .agg #[.float .f32 c, .float .f32 d]] w (RetA (apK (addW (smF a c) (addW b d)) (addW a c) (smF b d)) (apH (addW (smF a c) (addW b d)) (addW a c) (smF b d)) (apL (addW (smF a c) (addW b d)) (addW a c) (smF b d)) w) := by
  have HS1 := Hd.mk (fun w => s_SumY a c w ha hc fa fc f1)
  have HS2 := Hd.mk (fun w => s_SumY b d w hb hd fb fd f2)
  have hs := sum_rest ha hc fa fc f1
  have ht := sum_rest hb hd fb fd f2
  have HG := Hd.mk (And.intro f1 ht.2)
  have k1 := fun w => run_float_arith (P := Tryz.prog) w .add 22 .f32 (smF a c) (addW b d) _ (addW_eq hs.2 f2)
  have HF := Hd.mk (fun y => fop_add 22 (smF b d) y ht.2)
  clear ha hb hc hd fa fb fc fd f1 f2 hs ht
  generalize addW (smF a c) (addW b d) = f at *
  generalize addW a c = sh at *
  generalize smF a c = sl at *
  generalize addW b d = th at *
  generalize smF b d = tl at *
  go_enter Tryz.func121, Tryz.ntmps121
  go_upto_region 9 with (first | (go_at_call 158; (with_reducible refine (s_Quick vh _ _).mono ?_); rintro e4 w4 ⟨oh, ol, rfl, hoh, hol, hdet, hb⟩; have v : w4.cell? ⟨w3.heap.size, 0, none⟩ = some (.float .f32 vh) := cb hb (by go_simp); have v' : w4.cell? ⟨w3.heap.size, 1, none⟩ = some (.float .f32 vl) := cb hb (by go_simp); have vz : w3.heap.size < w4.heap.size := (by have hz := hb.size; simp at hz; omega); have HO := Hd.mk (And.intro hoh (And.intro hol hdet)); clear hoh hol hdet; replace HP := Hd.mk (HP.out.below (bt3 hb (by (repeat (first | exact Below.refl _ _ | assumption | refine Below.drew ?_ | refine bdn ?_ | refine ba _ ?_ | refine bs0 _ _ ?_ ?_ | refine bs1 _ _ _ ?_ ?_ | refine bs2 _ _ _ _ ?_ ?_ | refine bs3 _ _ _ _ _ ?_ ?_ | refine bt3 (by assumption) ?_))))); have c0 : w4.cell? _ = some (.float .f32 a) := HP.out.b0.cell 0; have c1 : w4.cell? _ = some (.float .f32 b) := HP.out.b0.cell 1; have d0 : w4.cell? _ = some (.float .f32 c) := HP.out.b1.cell 0; have d1 : w4.cell? _ = some (.float .f32 d) := HP.out.b1.cell 1; have z0 : w.heap.size < w4.heap.size := HP.out.b0.lt; have z1 : w.heap.size + 1 < w4.heap.size := HP.out.b1.lt; have z2 : w.heap.size + 1 + 1 < w4.heap.size := HP.out.b2.lt; have r0 : w4.cell? _ = some (.float .f32 0) := HP.out.b2.cell 0; have r1 : w4.cell? _ = some (.float .f32 0) := HP.out.b2.cell 1; have q0 := HP.out.b2.frozen 0; have q1 := HP.out.b2.frozen 1; clear hb) | (go_at_call 158; (with_reducible refine (s_Quick sh f _).mono ?_); rintro e3 w3 ⟨vh, vl, rfl, hvh, hvl, hdet, hb⟩; have s : w3.cell? ⟨w1.heap.size, 0, none⟩ = some (.float .f32 sh) := cb hb (by go_simp); have s' : w3.cell? ⟨w1.heap.size, 1, none⟩ = some (.float .f32 sl) := cb hb (by go_simp); have sz : w1.heap.size < w3.heap.size := (by have hz := hb.size; simp at hz; omega); have u : w3.cell? ⟨w2.heap.size, 0, none⟩ = some (.float .f32 th) := cb hb (by go_simp); have u' : w3.cell? ⟨w2.heap.size, 1, none⟩ = some (.float .f32 tl) := cb hb (by go_simp); have uz : w2.heap.size < w3.heap.size := (by have hz := hb.size; simp at hz; omega); have HV := Hd.mk (And.intro hvh (And.intro hvl hdet)); obtain ⟨r, n, kf, hWr, hdr⟩ := HF.out vl; have HR := Hd.mk (And.intro hWr hdr); clear hvh hvl hdet hWr hdr; replace HP := Hd.mk (HP.out.below (bt3 hb (by (repeat (first | exact Below.refl _ _ | assumption | refine Below.drew ?_ | refine bdn ?_ | refine ba _ ?_ | refine bs0 _ _ ?_ ?_ | refine bs1 _ _ _ ?_ ?_ | refine bs2 _ _ _ _ ?_ ?_ | refine bs3 _ _ _ _ _ ?_ ?_ | refine bt3 (by assumption) ?_))))); have c0 : w3.cell? _ = some (.float .f32 a) := HP.out.b0.cell 0; have c1 : w3.cell? _ = some (.float .f32 b) := HP.out.b0.cell 1; have d0 : w3.cell? _ = some (.float .f32 c) := HP.out.b1.cell 0; have d1 : w3.cell? _ = some (.float .f32 d) := HP.out.b1.cell 1; have z0 : w.heap.size < w3.heap.size := HP.out.b0.lt; have z1 : w.heap.size + 1 < w3.heap.size := HP.out.b1.lt; have z2 : w.heap.size + 1 + 1 < w3.heap.size := HP.out.b2.lt; clear hb) | (go_at_call 126; (with_reducible refine (HS1.out _).mono ?_); rintro e1 w1 ⟨rfl, hb⟩; have HP := Hd.mk ((PW.start w a b c d).below hb); have c0 : w1.cell? _ = some (.float .f32 a) := HP.out.b0.cell 0; have c1 : w1.cell? _ = some (.float .f32 b) := HP.out.b0.cell 1; have d0 : w1.cell? _ = some (.float .f32 c) := HP.out.b1.cell 0; have d1 : w1.cell? _ = some (.float .f32 d) := HP.out.b1.cell 1; have z0 : w.heap.size < w1.heap.size := HP.out.b0.lt; have z1 : w.heap.size + 1 < w1.heap.size := HP.out.b1.lt; have z2 : w.heap.size + 1 + 1 < w1.heap.size := HP.out.b2.lt; have r0 : w1.cell? _ = some (.float .f32 0) := HP.out.b2.cell 0; have r1 : w1.cell? _ = some (.float .f32 0) := HP.out.b2.cell 1; have q0 := HP.out.b2.frozen 0; have q1 := HP.out.b2.frozen 1; clear hb) | (go_at_call 126; (with_reducible refine (HS2.out _).mono ?_); rintro e2 w2 ⟨rfl, hb⟩; have t : w2.cell? ⟨w1.heap.size, 0, none⟩ = some (.float .f32 sh) := cb hb (by go_simp); have t' : w2.cell? ⟨w1.heap.size, 1, none⟩ = some (.float .f32 sl) := cb hb (by go_simp); have tz : w1.heap.size < w2.heap.size := (by have hz := hb.size; simp at hz; omega); replace HP := Hd.mk (HP.out.below (bt3 hb (by (repeat (first | exact Below.refl _ _ | assumption | refine Below.drew ?_ | refine bdn ?_ | refine ba _ ?_ | refine bs0 _ _ ?_ ?_ | refine bs1 _ _ _ ?_ ?_ | refine bs2 _ _ _ _ ?_ ?_ | refine bs3 _ _ _ _ _ ?_ ?_ | refine bt3 (by assumption) ?_))))); have c0 : w2.cell? _ = some (.float .f32 a) := HP.out.b0.cell 0; have c1 : w2.cell? _ = some (.float .f32 b) := HP.out.b0.cell 1; have d0 : w2.cell? _ = some (.float .f32 c) := HP.out.b1.cell 0; have d1 : w2.cell? _ = some (.float .f32 d) := HP.out.b1.cell 1; have z0 : w.heap.size < w2.heap.size := HP.out.b0.lt; have z1 : w.heap.size + 1 < w2.heap.size := HP.out.b1.lt; have z2 : w.heap.size + 1 + 1 < w2.heap.size := HP.out.b2.lt; have r0 : w2.cell? _ = some (.float .f32 0) := HP.out.b2.cell 0; have r1 : w2.cell? _ = some (.float .f32 0) := HP.out.b2.cell 1; have q0 := HP.out.b2.frozen 0; have q1 := HP.out.b2.frozen 1; clear hb))
  generalize hg : r _ = g at *
  have HK := Hd.mk (ap_det (HV.out.2.2 HG.out.1) (fun k => hg ▸ HR.out.2 k _) HO.out.2.2)
  clear hg HF HR HS1 HS2 k1 kf
  have C1 := Hd.mk (fun w => s_Finite f w)
  have C2 := Hd.mk (fun w => s_Finite vh w)
  have C3 := Hd.mk (fun w => s_Finite vl w)
  have C4 := Hd.mk (fun w => s_Finite g w)
  have C5 := Hd.mk (fun w => s_l05Is oh ol w HO.out.1 HO.out.2.1)
  generalize decide (fin f) = b1 at HK C1
  generalize decide (fin vh) = b2 at HK C2
  generalize decide (fin vl) = b3 at HK C3
  generalize decide (fin g) = b4 at HK C4
  generalize prB oh ol = b5 at HK C5
  generalize apK f sh tl = K at *
  generalize apH f sh tl = H at *
  generalize apL f sh tl = L at *
  clear HV HO HG
  have HP9 : Hd (PW w (w4.alloc (Obj.cells #[.float .f32 oh, .float .f32 ol] 30)) a b c d) := ⟨HP.out.below (ba _ (Below.refl _ _))⟩
  have y0 : (w4.alloc (Obj.cells #[.float .f32 oh, .float .f32 ol] 30)).cell? ⟨w3.heap.size, 0, none⟩ = some (.float .f32 vh) := by go_simp
  have y1 : (w4.alloc (Obj.cells #[.float .f32 oh, .float .f32 ol] 30)).cell? ⟨w3.heap.size, 1, none⟩ = some (.float .f32 vl) := by go_simp
  have y2 : (w4.alloc (Obj.cells #[.float .f32 oh, .float .f32 ol] 30)).cell? ⟨w4.heap.size, 0, none⟩ = some (.float .f32 oh) := by go_simp
  have y3 : (w4.alloc (Obj.cells #[.float .f32 oh, .float .f32 ol] 30)).cell? ⟨w4.heap.size, 1, none⟩ = some (.float .f32 ol) := by go_simp
  generalize (w4.alloc (Obj.cells #[.float .f32 oh, .float .f32 ol] 30)) = W9 at *
  have e3 : ¬ (w.heap.size + 1 + 1 = w4.heap.size) := by omega
  have e4 : ¬ (w4.heap.size = w.heap.size + 1 + 1) := by omega
  have e5 : ¬ (w.heap.size + 1 + 1 = w3.heap.size) := by omega
  have e6 : ¬ (w3.heap.size = w.heap.size + 1 + 1) := by omega
  clear HP
  repeat (first | clear r0 | clear r1 | clear q0 | clear q1 | clear c0 | clear c1 | clear d0 | clear d1 | clear z0 | clear z1 | clear z2 | clear t | clear t' | clear tz | clear s | clear s' | clear sz | clear u | clear u' | clear uz | clear v | clear v' | clear vz)
  generalize w3.heap.size = gv at *
  generalize w4.heap.size = go at *
  have HP := HP9
  have r0 : W9.cell? _ = some (.float .f32 0) := HP.out.b2.cell 0
  have r1 : W9.cell? _ = some (.float .f32 0) := HP.out.b2.cell 1
  have q0 := HP.out.b2.frozen 0
  have q1 := HP.out.b2.frozen 1
  clear HP9
  rcases (show b1 = false ∨ (b1 = true ∧ b2 = false) ∨ (b1 = true ∧ b2 = true ∧ b3 = false) ∨ (b1 = true ∧ b2 = true ∧ b3 = true ∧ b4 = false) ∨ (b1 = true ∧ b2 = true ∧ b3 = true ∧ b4 = true) by cases b1 <;> cases b2 <;> cases b3 <;> cases b4 <;> simp) with rfl | ⟨rfl, rfl⟩ | ⟨rfl, rfl, rfl⟩ | ⟨rfl, rfl, rfl, rfl⟩ | ⟨rfl, rfl, rfl, rfl⟩
  · first | (go_region_with (first | (go_at_call 125; (first | (with_reducible refine (C1.out _).mono ?_) | (with_reducible refine (C2.out _).mono ?_) | (with_reducible refine (C3.out _).mono ?_) | (with_reducible refine (C4.out _).mono ?_)); rintro e w' ⟨rfl, ⟨nd, rfl⟩⟩) | (go_at_call 140; (with_reducible refine (C5.out _).mono ?_); rintro e5 w5 ⟨rfl, hb⟩; have x0 : w5.cell? ⟨gv, 0, none⟩ = some (.float .f32 vh) := cb hb (by go_simp); have x1 : w5.cell? ⟨gv, 1, none⟩ = some (.float .f32 vl) := cb hb (by go_simp); have x2 : w5.cell? ⟨go, 0, none⟩ = some (.float .f32 oh) := cb hb (by go_simp); have x3 : w5.cell? ⟨go, 1, none⟩ = some (.float .f32 ol) := cb hb (by go_simp); replace HP := Hd.mk (HP.out.below (bt3 hb (by (repeat (first | exact Below.refl _ _ | assumption | refine Below.drew ?_ | refine bdn ?_ | refine ba _ ?_ | refine bs0 _ _ ?_ ?_ | refine bs1 _ _ _ ?_ ?_ | refine bs2 _ _ _ _ ?_ ?_ | refine bs3 _ _ _ _ _ ?_ ?_ | refine bt3 (by assumption) ?_))))); have r0 : w5.cell? _ = some (.float .f32 0) := HP.out.b2.cell 0; have r1 : w5.cell? _ = some (.float .f32 0) := HP.out.b2.cell 1; have q0 := HP.out.b2.frozen 0; have q1 := HP.out.b2.frozen 1; clear hb))) | fail
    all_goals
      go_wp2_with fail
      refine bodyPost_ret (v := .tuple #[.agg #[.float .f32 oh, .float .f32 ol], .bool false]) (by simp (maxDischargeDepth := 7) [results, Tryz.results121, go_sem, *]) rfl ⟨oh, ol, by rw [← HK.out.1] <;> simp, HK.out.2, (by have hbb := HP.out.bel; (repeat (first | exact Below.refl _ _ | assumption | refine Below.drew ?_ | refine bdn ?_ | refine ba _ ?_ | refine bs0 _ _ ?_ ?_ | refine bs1 _ _ _ ?_ ?_ | refine bs2 _ _ _ _ ?_ ?_ | refine bs3 _ _ _ _ _ ?_ ?_ | refine bt3 (by assumption) ?_)))⟩
  · first | (go_region_with (first | (go_at_call 125; (first | (with_reducible refine (C1.out _).mono ?_) | (with_reducible refine (C2.out _).mono ?_) | (with_reducible refine (C3.out _).mono ?_) | (with_reducible refine (C4.out _).mono ?_)); rintro e w' ⟨rfl, ⟨nd, rfl⟩⟩) | (go_at_call 140; (with_reducible refine (C5.out _).mono ?_); rintro e5 w5 ⟨rfl, hb⟩; have x0 : w5.cell? ⟨gv, 0, none⟩ = some (.float .f32 vh) := cb hb (by go_simp); have x1 : w5.cell? ⟨gv, 1, none⟩ = some (.float .f32 vl) := cb hb (by go_simp); have x2 : w5.cell? ⟨go, 0, none⟩ = some (.float .f32 oh) := cb hb (by go_simp); have x3 : w5.cell? ⟨go, 1, none⟩ = some (.float .f32 ol) := cb hb (by go_simp); replace HP := Hd.mk (HP.out.below (bt3 hb (by (repeat (first | exact Below.refl _ _ | assumption | refine Below.drew ?_ | refine bdn ?_ | refine ba _ ?_ | refine bs0 _ _ ?_ ?_ | refine bs1 _ _ _ ?_ ?_ | refine bs2 _ _ _ _ ?_ ?_ | refine bs3 _ _ _ _ _ ?_ ?_ | refine bt3 (by assumption) ?_))))); have r0 : w5.cell? _ = some (.float .f32 0) := HP.out.b2.cell 0; have r1 : w5.cell? _ = some (.float .f32 0) := HP.out.b2.cell 1; have q0 := HP.out.b2.frozen 0; have q1 := HP.out.b2.frozen 1; clear hb))) | fail
    all_goals
      go_wp2_with fail
      refine bodyPost_ret (v := .tuple #[.agg #[.float .f32 oh, .float .f32 ol], .bool false]) (by simp (maxDischargeDepth := 7) [results, Tryz.results121, go_sem, *]) rfl ⟨oh, ol, by rw [← HK.out.1] <;> simp, HK.out.2, (by have hbb := HP.out.bel; (repeat (first | exact Below.refl _ _ | assumption | refine Below.drew ?_ | refine bdn ?_ | refine ba _ ?_ | refine bs0 _ _ ?_ ?_ | refine bs1 _ _ _ ?_ ?_ | refine bs2 _ _ _ _ ?_ ?_ | refine bs3 _ _ _ _ _ ?_ ?_ | refine bt3 (by assumption) ?_)))⟩
  · first | (go_region_with (first | (go_at_call 125; (first | (with_reducible refine (C1.out _).mono ?_) | (with_reducible refine (C2.out _).mono ?_) | (with_reducible refine (C3.out _).mono ?_) | (with_reducible refine (C4.out _).mono ?_)); rintro e w' ⟨rfl, ⟨nd, rfl⟩⟩) | (go_at_call 140; (with_reducible refine (C5.out _).mono ?_); rintro e5 w5 ⟨rfl, hb⟩; have x0 : w5.cell? ⟨gv, 0, none⟩ = some (.float .f32 vh) := cb hb (by go_simp); have x1 : w5.cell? ⟨gv, 1, none⟩ = some (.float .f32 vl) := cb hb (by go_simp); have x2 : w5.cell? ⟨go, 0, none⟩ = some (.float .f32 oh) := cb hb (by go_simp); have x3 : w5.cell? ⟨go, 1, none⟩ = some (.float .f32 ol) := cb hb (by go_simp); replace HP := Hd.mk (HP.out.below (bt3 hb (by (repeat (first | exact Below.refl _ _ | assumption | refine Below.drew ?_ | refine bdn ?_ | refine ba _ ?_ | refine bs0 _ _ ?_ ?_ | refine bs1 _ _ _ ?_ ?_ | refine bs2 _ _ _ _ ?_ ?_ | refine bs3 _ _ _ _ _ ?_ ?_ | refine bt3 (by assumption) ?_))))); have r0 : w5.cell? _ = some (.float .f32 0) := HP.out.b2.cell 0; have r1 : w5.cell? _ = some (.float .f32 0) := HP.out.b2.cell 1; have q0 := HP.out.b2.frozen 0; have q1 := HP.out.b2.frozen 1; clear hb))) | fail
    all_goals
      go_wp2_with fail
      refine bodyPost_ret (v := .tuple #[.agg #[.float .f32 oh, .float .f32 ol], .bool false]) (by simp (maxDischargeDepth := 7) [results, Tryz.results121, go_sem, *]) rfl ⟨oh, ol, by rw [← HK.out.1] <;> simp, HK.out.2, (by have hbb := HP.out.bel; (repeat (first | exact Below.refl _ _ | assumption | refine Below.drew ?_ | refine bdn ?_ | refine ba _ ?_ | refine bs0 _ _ ?_ ?_ | refine bs1 _ _ _ ?_ ?_ | refine bs2 _ _ _ _ ?_ ?_ | refine bs3 _ _ _ _ _ ?_ ?_ | refine bt3 (by assumption) ?_)))⟩
  · first | (go_region_with (first | (go_at_call 125; (first | (with_reducible refine (C1.out _).mono ?_) | (with_reducible refine (C2.out _).mono ?_) | (with_reducible refine (C3.out _).mono ?_) | (with_reducible refine (C4.out _).mono ?_)); rintro e w' ⟨rfl, ⟨nd, rfl⟩⟩) | (go_at_call 140; (with_reducible refine (C5.out _).mono ?_); rintro e5 w5 ⟨rfl, hb⟩; have x0 : w5.cell? ⟨gv, 0, none⟩ = some (.float .f32 vh) := cb hb (by go_simp); have x1 : w5.cell? ⟨gv, 1, none⟩ = some (.float .f32 vl) := cb hb (by go_simp); have x2 : w5.cell? ⟨go, 0, none⟩ = some (.float .f32 oh) := cb hb (by go_simp); have x3 : w5.cell? ⟨go, 1, none⟩ = some (.float .f32 ol) := cb hb (by go_simp); replace HP := Hd.mk (HP.out.below (bt3 hb (by (repeat (first | exact Below.refl _ _ | assumption | refine Below.drew ?_ | refine bdn ?_ | refine ba _ ?_ | refine bs0 _ _ ?_ ?_ | refine bs1 _ _ _ ?_ ?_ | refine bs2 _ _ _ _ ?_ ?_ | refine bs3 _ _ _ _ _ ?_ ?_ | refine bt3 (by assumption) ?_))))); have r0 : w5.cell? _ = some (.float .f32 0) := HP.out.b2.cell 0; have r1 : w5.cell? _ = some (.float .f32 0) := HP.out.b2.cell 1; have q0 := HP.out.b2.frozen 0; have q1 := HP.out.b2.frozen 1; clear hb))) | fail
    all_goals
      go_wp2_with fail
      refine bodyPost_ret (v := .tuple #[.agg #[.float .f32 oh, .float .f32 ol], .bool false]) (by simp (maxDischargeDepth := 7) [results, Tryz.results121, go_sem, *]) rfl ⟨oh, ol, by rw [← HK.out.1] <;> simp, HK.out.2, (by have hbb := HP.out.bel; (repeat (first | exact Below.refl _ _ | assumption | refine Below.drew ?_ | refine bdn ?_ | refine ba _ ?_ | refine bs0 _ _ ?_ ?_ | refine bs1 _ _ _ ?_ ?_ | refine bs2 _ _ _ _ ?_ ?_ | refine bs3 _ _ _ _ _ ?_ ?_ | refine bt3 (by assumption) ?_)))⟩
  · first | ((go_region_held3 (fun w' => w'.cell? ⟨gv, 0, none⟩ = some (.float .f32 vh) ∧ w'.cell? ⟨gv, 1, none⟩ = some (.float .f32 vl) ∧ w'.cell? ⟨go, 0, none⟩ = some (.float .f32 oh) ∧ w'.cell? ⟨go, 1, none⟩ = some (.float .f32 ol)) ((first | assumption | exact ⟨y0, y1, y2, y3⟩ | exact ⟨x0, x1, x2, x3⟩ | go_keep | (refine ⟨?_, ?_, ?_, ?_⟩ <;> go_simp) | (constructor <;> go_simp))) (first | (go_at_call 125; (first | (with_reducible refine (C1.out _).mono ?_) | (with_reducible refine (C2.out _).mono ?_) | (with_reducible refine (C3.out _).mono ?_) | (with_reducible refine (C4.out _).mono ?_)); rintro e w' ⟨rfl, ⟨nd, rfl⟩⟩) | (go_at_call 140; (with_reducible refine (C5.out _).mono ?_); rintro e5 w5 ⟨rfl, hb⟩; have x0 : w5.cell? ⟨gv, 0, none⟩ = some (.float .f32 vh) := cb hb (by go_simp); have x1 : w5.cell? ⟨gv, 1, none⟩ = some (.float .f32 vl) := cb hb (by go_simp); have x2 : w5.cell? ⟨go, 0, none⟩ = some (.float .f32 oh) := cb hb (by go_simp); have x3 : w5.cell? ⟨go, 1, none⟩ = some (.float .f32 ol) := cb hb (by go_simp); replace HP := Hd.mk (HP.out.below (bt3 hb (by (repeat (first | exact Below.refl _ _ | assumption | refine Below.drew ?_ | refine bdn ?_ | refine ba _ ?_ | refine bs0 _ _ ?_ ?_ | refine bs1 _ _ _ ?_ ?_ | refine bs2 _ _ _ _ ?_ ?_ | refine bs3 _ _ _ _ _ ?_ ?_ | refine bt3 (by assumption) ?_))))); have r0 : w5.cell? _ = some (.float .f32 0) := HP.out.b2.cell 0; have r1 : w5.cell? _ = some (.float .f32 0) := HP.out.b2.cell 1; have q0 := HP.out.b2.frozen 0; have q1 := HP.out.b2.frozen 1; clear hb)))) | fail
    all_goals
      go_wp2_with fail
      refine bodyPost_ret (v := .tuple #[.agg #[.float .f32 oh, .float .f32 ol], .bool b5]) (by simp (maxDischargeDepth := 7) [results, Tryz.results121, go_sem, *]) rfl ⟨oh, ol, by rw [← HK.out.1] <;> simp, HK.out.2, (by have hbb := HP.out.bel; (repeat (first | exact Below.refl _ _ | assumption | refine Below.drew ?_ | refine bdn ?_ | refine ba _ ?_ | refine bs0 _ _ ?_ ?_ | refine bs1 _ _ _ ?_ ?_ | refine bs2 _ _ _ _ ?_ ?_ | refine bs3 _ _ _ _ _ ?_ ?_ | refine bt3 (by assumption) ?_)))⟩
end Go.Proofs.YtflgjecpjaiecaaGreat
