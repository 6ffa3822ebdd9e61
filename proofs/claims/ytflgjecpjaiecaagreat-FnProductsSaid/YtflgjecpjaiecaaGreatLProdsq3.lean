/- For every code: the program's products and quotients in all modes answer as the reference's do, lie beside each other, and the nearest ones are the language's. -/
import Derived.Test.YtflgjecpjaiecaaGreatY3q3
import Derived.Test.YtflgjecpjaiecaaGreatU3q3
import Derived.Test.YtflgjecpjaiecaaGreatGfq3
set_option linter.unusedVariables false
set_option linter.unusedSimpArgs false
namespace Go.Proofs.YtflgjecpjaiecaaGreat
open Go.ChangeShapes Go.WideShapes Go.ChangeAt Go.RowKit Num Flt
theorem bn_casesP (x y : Nat) (mode : Int) : (bnC x y mode = 0 ∧ fin x ∧ fin y ∧ modeB mode = true) ∨ (bnC x y mode = 1 ∨ bnC x y mode = 2) := by
  by_cases h : fin x ∧ fin y
  · cases hm : modeB mode
    · exact Or.inr (Or.inr (bnC_2 h hm))
    · exact Or.inl ⟨bnC_0 h hm, h.1, h.2, rfl⟩
  · exact Or.inr (Or.inl (bnC_1 h))
theorem di_cases (x y : Nat) (mode : Int) : (diC x y mode = 0 ∧ fin x ∧ fin y ∧ modeB mode = true ∧ ¬ zr y) ∨ (diC x y mode = 1 ∨ diC x y mode = 2 ∨ diC x y mode = 5) := by
  unfold diC
  by_cases h : fin x ∧ fin y
  · rw [if_pos h]
    cases hm : modeB mode
    · simp
    · rw [if_pos rfl]
      by_cases hz : zr y
      · rw [if_pos hz]; simp
      · rw [if_neg hz]; exact Or.inl ⟨rfl, h.1, h.2, rfl, hz⟩
  · rw [if_neg h]; simp
theorem di_W (x y : Nat) (mode : Int) : W (diF x y mode) ∧ ¬ nan (diF x y mode) := by
  refine ⟨?_, di_num x y mode⟩
  unfold diF; split
  · exact (dvF_num _ _ _).1
  · unfold W; decide
theorem sp_W (x y : Nat) (kind mode : Int) : W (spF x y kind mode) ∧ ¬ nan (spF x y kind mode) := ⟨spF_W _ _ _ _, spF_num _ _ _ _⟩
/-- a fused product with 0 is the product -/
theorem fused_eq {x y : Nat} {m : Int} (hx : W x) (hy : W y) (fx : fin x) (fy : fin y) (hm : modeB m = true) : fuC x y 0 m = 0 ∧ pl (fuF x y 0 m) = pl (mlF x y m) ∧ fuL x y 0 m = mlL x y m := by
  obtain ⟨h1, h2, h3⟩ := fu_good (z := 0) ⟨fx, fy, show fin 0 by decide⟩ hm
  refine ⟨h1, ?_, ?_⟩
  · rw [h2, fv_0]
    unfold sum4 mlF
    rw [Int.add_zero]
    by_cases h : zr x ∨ zr y
    · rw [if_pos h, if_pos (mul_z hx hy h), pl_szF]
      split
      · exact pl_szF _
      · exact pl_szF _
    · have hv := mul_nz (fv_nz hx (fun k => h (Or.inl k))) (fv_nz hy (fun k => h (Or.inr k)))
      rw [if_neg h, if_neg hv]
  · rw [h3, fv_0, Int.add_zero]
    unfold mlL
    by_cases h : zr x ∨ zr y
    · rw [if_pos h, mul_z hx hy h]; rfl
    · rw [if_neg h]
set_option maxRecDepth 100000 in
set_option maxHeartbeats 40000000 in
theorem ProdsE.walk (A : Option Addr) (n c : Nat) (xs : List Nat) (w : World) (hn : n = xs.length) (hl : n ≤ maxLen) (hR : RB w w.heap.size A xs) (hx : ∀ x ∈ xs, x < 256) :
    Calls Tryz.prog 7 #[.slice A n c] w fun e w' => e = .returned (.bool true) ∧ Below w.heap.size w w' := by
  have HB0 := Hd.mk (fun w => l_big A n c w hl)
  by_cases hs : (4096 : Int) < n
  · rw [decide_eq_true hs] at HB0
    clear hs hn hl hR hx
    go_enter Tryz.func7, Tryz.ntmps7
    go_wp2_with (go_at_call 24; (with_reducible refine (HB0.out _).mono ?_); rintro e w' ⟨rfl, rfl⟩)
    go_ret
    exact ⟨rfl, Below.refl _ _⟩
  · rw [decide_eq_false hs] at HB0
    have HC := Hd.mk (code_of hn (by omega) hR hx)
    have HQ := Below.refl w.heap.size w
    clear hs hn hl hR hx
    go_enter Tryz.func7, Tryz.ntmps7
    go_upto_region 4 with (first | (go_at_call 24; (with_reducible refine (HB0.out _).mono ?_); rintro e w' ⟨rfl, rfl⟩) | (go_at_call 35; (with_reducible refine (s_DrawMul A n c xs _ (HC.out.more' HQ)).mono ?_); rintro e w1 ⟨x, y, m, rfl, hx1, hy1, hb⟩; replace HQ : Below w.heap.size w w1 := bt3 hb HQ; have HX := Hd.mk (And.intro hx1 hy1); clear hb hx1 hy1))
    have hsA := Hd.mk (fun w => s_MulInE x y m w HX.out.1 HX.out.2)
    have hiA := Hd.mk (fun w => i_MulInE x y m w HX.out.1 HX.out.2)
    have HP := Hd.mk (And.intro (bnF_W (x := x) (y := y) (mode := m) (mlF_num x y m).1) (bnF_num (x := x) (y := y) (mode := m) (mlF_num x y m).2))
    obtain ⟨p, hp⟩ : ∃ p, bnF x y m (mlF x y m) = p := ⟨_, rfl⟩
    obtain ⟨f, hf⟩ : ∃ f, bnL x y m (mlL x y m) = f := ⟨_, rfl⟩
    obtain ⟨cc, hcc⟩ : ∃ cc, bnC x y m = cc := ⟨_, rfl⟩
    rw [hp, hf, hcc] at hsA hiA
    rw [hp] at HP
    have HV := Hd.mk (And.intro hp (And.intro hf hcc))
    clear hp hf hcc
    have HFp := Hd.mk (fun w => l_f9 p w HP.out.1 HP.out.2)
    go_upto_region 9 with (first | (go_at_call 36; (with_reducible refine (hiA.out _).mono ?_); rintro e w1 ⟨rfl, hb⟩; replace HQ : Below w.heap.size w w1 := bt3 hb HQ; clear hb) | (go_at_call 37; (with_reducible refine (hsA.out _).mono ?_); rintro e w1 ⟨rfl, hb⟩; replace HQ : Below w.heap.size w w1 := bt3 hb HQ; clear hb) | (go_at_call 28; (with_reducible refine (HFp.out _).mono ?_); rintro e w' ⟨rfl, rfl⟩) | (go_at_call 38; (with_reducible refine (s_DrawDiv A n c xs _ (HC.out.more' HQ)).mono ?_); rintro e w1 ⟨u, v, o, rfl, hx1, hy1, hb⟩; replace HQ : Below w.heap.size w w1 := bt3 hb HQ; have HU := Hd.mk (And.intro hx1 hy1); clear hb hx1 hy1))
    clear hsA hiA HFp
    have hsD := Hd.mk (fun w => s_DivideIn u v o w HU.out.1 HU.out.2)
    have hiD := Hd.mk (fun w => i_DivideIn u v o w HU.out.1 HU.out.2)
    have HPq := Hd.mk (di_W u v o)
    obtain ⟨q, hq⟩ : ∃ q, diF u v o = q := ⟨_, rfl⟩
    obtain ⟨g, hg⟩ : ∃ g, diL u v o = g := ⟨_, rfl⟩
    obtain ⟨dc, hdc⟩ : ∃ dc, diC u v o = dc := ⟨_, rfl⟩
    rw [hq, hg, hdc] at hsD hiD
    rw [hq] at HPq
    have HVq := Hd.mk (And.intro hq (And.intro hg hdc))
    clear hq hg hdc
    have HFq := Hd.mk (fun w => l_f9 q w HPq.out.1 HPq.out.2)
    go_upto_region 14 with (first | (go_at_call 39; (with_reducible refine (hiD.out _).mono ?_); rintro e w1 ⟨rfl, hb⟩; replace HQ : Below w.heap.size w w1 := bt3 hb HQ; clear hb) | (go_at_call 40; (with_reducible refine (hsD.out _).mono ?_); rintro e w1 ⟨rfl, hb⟩; replace HQ : Below w.heap.size w w1 := bt3 hb HQ; clear hb) | (go_at_call 28; (with_reducible refine (HFq.out _).mono ?_); rintro e w' ⟨rfl, rfl⟩) | (go_at_call 41; (with_reducible refine (s_DrawSpread A n c xs _ (HC.out.more' HQ)).mono ?_); rintro e w1 ⟨a, b, kd, rfl, hx1, hy1, hb⟩; replace HQ : Below w.heap.size w w1 := bt3 hb HQ; have HA := Hd.mk (And.intro hx1 hy1); clear hb hx1 hy1))
    clear hsD hiD HFq
    have hsS := Hd.mk (fun w => s_Spread a b kd w HA.out.1 HA.out.2)
    have hiS := Hd.mk (fun w => i_Spread a b kd w HA.out.1 HA.out.2)
    have v1 := sp_W a b kd 1
    have v2 := sp_W a b kd 2
    have hst := sp_step (x := a) (y := b) (kind := kd)
    generalize spF a b kd 1 = lo at *
    generalize spF a b kd 2 = hi at *
    generalize spC a b kd = sc at *
    have HF1 := Hd.mk (fun w => l_f9 lo w v1.1 v1.2)
    have HF2 := Hd.mk (fun w => l_f9 hi w v2.1 v2.2)
    have HBe : Hd (sc = 0 → ∀ w, Calls Tryz.prog 32 #[.float .f32 lo, .float .f32 hi] w fun e w' => e = .returned (.bool true) ∧ w = w') := ⟨fun h w => l_beside lo hi w v1.1 v1.2 v2.2 (hst h)⟩
    clear v1 v2 hst
    go_upto_region 18 with (first | (go_at_call 12; (with_reducible refine (hiS.out _).mono ?_); rintro e w1 ⟨rfl, hb⟩; replace HQ : Below w.heap.size w w1 := bt3 hb HQ; clear hb) | (go_at_call 11; (with_reducible refine (hsS.out _).mono ?_); rintro e w1 ⟨rfl, hb⟩; replace HQ : Below w.heap.size w w1 := bt3 hb HQ; clear hb) | (go_at_call 28; (with_reducible refine (HF1.out _).mono ?_); rintro e w' ⟨rfl, rfl⟩) | (go_at_call 28; (with_reducible refine (HF2.out _).mono ?_); rintro e w' ⟨rfl, rfl⟩))
    clear hsS hiS HF1 HF2
    go_cut [163] (fun s wx => s = .bool false ∧ wx = w1)
    case first =>
      by_cases hk : sc = 0
      · have HBe2 := Hd.mk (HBe.out hk)
        subst hk
        go_wp2_with (go_at_call 32; (with_reducible refine (HBe2.out _).mono ?_); rintro e w' ⟨rfl, rfl⟩)
        go_meet
        exact ⟨rfl, rfl⟩
      · have hk0 : (sc == 0) = false := by simpa using hk
        clear hk HBe
        go_wp2_with fail
        go_meet
        exact ⟨rfl, rfl⟩
    obtain ⟨rfl, hw⟩ := hcut
    subst hw
    obtain ⟨wq, hwq⟩ : ∃ wq, wq = wc := ⟨_, rfl⟩
    subst hwq
    clear HBe
    go_upto_if 165 with fail
    go_cut [] (fun wx => Below wq.heap.size wq wx)
    case first =>
      as_aux_lemma =>
        rcases di_cases u v o with ⟨h1, fu, fv', hm, hz⟩ | h1
        · obtain ⟨hq, hg, hdc⟩ := HVq.out
          rw [h1] at hdc
          rw [(di_yes h1).1] at hq
          have h00 : diC u v 0 = 0 := by unfold diC; rw [if_pos ⟨fu, fv'⟩, if_pos (show modeB 0 = true from rfl), if_neg hz]
          have hD0 := fun w => i_DivideIn u v 0 w HU.out.1 HU.out.2
          rw [(di_yes h00).1, (di_yes h00).2, h00] at hD0
          have HD0 := Hd.mk hD0
          have HS3 := Hd.mk (fun w => i_Spread3 u v w HU.out.1 HU.out.2 ⟨fu, fv'⟩ hz)
          have k1 := dvF_num u v 1
          have k2 := dvF_num u v 2
          have k0 := dvF_num u v 0
          have km := dvF_num u v o
          have HBt := Hd.mk (fun w => l_between (dvF u v o) (dvF u v 1) (dvF u v 2) w km.2 k1.2 k2.2 (dvF_two (modeB_of hm)))
          have HF0 := Hd.mk (fun w => l_f9 (dvF u v 0) w k0.1 k0.2)
          have ka := fun w => run_float_arith (P := Tryz.prog) w .quo 22 .f32 u v _ (quo_some fu fv' HU.out.2 hz).1
          rw [dvF_near HU.out.1 HU.out.2 fu fv' hz] at ka
          have hk := dvL_cases u v 0
          have b0 : bits .and .i64 0 4 = 0 := (by decide +kernel); have b1 : bits .and .i64 1 4 = 0 := (by decide +kernel); have b3 : bits .and .i64 3 4 = 0 := (by decide +kernel); have b5 : bits .and .i64 5 4 = 4 := (by decide +kernel)
          subst hq
          clear h1 fu fv' hm hz hg h00 hD0 k1 k2 k0 km HVq HPq
          generalize dvF u v 1 = lo' at *
          generalize dvF u v 2 = hi' at *
          generalize dvF u v 0 = ne at *
          generalize dvF u v o = sm at *
          generalize dvL u v 0 = k at *
          subst hdc
          clear b0 b1 b3 b5 hk
          generalize hbb : (bits .and .i64 k 4 == 0) = bb
          cases bb
          · (go_wp2_with (first | (go_at_call 39; (with_reducible refine (HD0.out _).mono ?_); rintro e w2 ⟨rfl, hb⟩; have hbx : Below wq.heap.size wq w2 := bt3 hb (by (repeat (first | exact Below.refl _ _ | assumption | refine Below.drew ?_ | refine bdn ?_ | refine ba _ ?_ | refine bs0 _ _ ?_ ?_ | refine bs1 _ _ _ ?_ ?_ | refine bs2 _ _ _ _ ?_ ?_ | refine bs3 _ _ _ _ _ ?_ ?_ | refine bt3 (by assumption) ?_))); clear hb) | (go_at_call 12; (with_reducible refine (HS3.out _).mono ?_); rintro e w2 ⟨rfl, hb⟩; have hbx : Below wq.heap.size wq w2 := bt3 hb (by (repeat (first | exact Below.refl _ _ | assumption | refine Below.drew ?_ | refine bdn ?_ | refine ba _ ?_ | refine bs0 _ _ ?_ ?_ | refine bs1 _ _ _ ?_ ?_ | refine bs2 _ _ _ _ ?_ ?_ | refine bs3 _ _ _ _ _ ?_ ?_ | refine bt3 (by assumption) ?_))); clear hb) | (go_at_call 28; (with_reducible refine (HF0.out _).mono ?_); rintro e w' ⟨rfl, rfl⟩) | (go_at_call 33; (with_reducible refine (HBt.out _).mono ?_); rintro e w' ⟨rfl, rfl⟩))); go_meet; (exact by (repeat (first | exact Below.refl _ _ | assumption | refine Below.drew ?_ | refine bdn ?_ | refine ba _ ?_ | refine bs0 _ _ ?_ ?_ | refine bs1 _ _ _ ?_ ?_ | refine bs2 _ _ _ _ ?_ ?_ | refine bs3 _ _ _ _ _ ?_ ?_ | refine bt3 (by assumption) ?_)))
          · (go_wp2_with (first | (go_at_call 39; (with_reducible refine (HD0.out _).mono ?_); rintro e w2 ⟨rfl, hb⟩; have hbx : Below wq.heap.size wq w2 := bt3 hb (by (repeat (first | exact Below.refl _ _ | assumption | refine Below.drew ?_ | refine bdn ?_ | refine ba _ ?_ | refine bs0 _ _ ?_ ?_ | refine bs1 _ _ _ ?_ ?_ | refine bs2 _ _ _ _ ?_ ?_ | refine bs3 _ _ _ _ _ ?_ ?_ | refine bt3 (by assumption) ?_))); clear hb) | (go_at_call 12; (with_reducible refine (HS3.out _).mono ?_); rintro e w2 ⟨rfl, hb⟩; have hbx : Below wq.heap.size wq w2 := bt3 hb (by (repeat (first | exact Below.refl _ _ | assumption | refine Below.drew ?_ | refine bdn ?_ | refine ba _ ?_ | refine bs0 _ _ ?_ ?_ | refine bs1 _ _ _ ?_ ?_ | refine bs2 _ _ _ _ ?_ ?_ | refine bs3 _ _ _ _ _ ?_ ?_ | refine bt3 (by assumption) ?_))); clear hb) | (go_at_call 28; (with_reducible refine (HF0.out _).mono ?_); rintro e w' ⟨rfl, rfl⟩) | (go_at_call 33; (with_reducible refine (HBt.out _).mono ?_); rintro e w' ⟨rfl, rfl⟩))); go_meet; (exact by (repeat (first | exact Below.refl _ _ | assumption | refine Below.drew ?_ | refine bdn ?_ | refine ba _ ?_ | refine bs0 _ _ ?_ ?_ | refine bs1 _ _ _ ?_ ?_ | refine bs2 _ _ _ _ ?_ ?_ | refine bs3 _ _ _ _ _ ?_ ?_ | refine bt3 (by assumption) ?_)))
        · have hd := HVq.out.2.2
          rw [hd] at h1
          clear hd HVq HPq
          rcases h1 with rfl | rfl | rfl
          · (go_wp2_with (first | (go_at_call 39; (with_reducible refine (HD0.out _).mono ?_); rintro e w2 ⟨rfl, hb⟩; have hbx : Below wq.heap.size wq w2 := bt3 hb (by (repeat (first | exact Below.refl _ _ | assumption | refine Below.drew ?_ | refine bdn ?_ | refine ba _ ?_ | refine bs0 _ _ ?_ ?_ | refine bs1 _ _ _ ?_ ?_ | refine bs2 _ _ _ _ ?_ ?_ | refine bs3 _ _ _ _ _ ?_ ?_ | refine bt3 (by assumption) ?_))); clear hb) | (go_at_call 12; (with_reducible refine (HS3.out _).mono ?_); rintro e w2 ⟨rfl, hb⟩; have hbx : Below wq.heap.size wq w2 := bt3 hb (by (repeat (first | exact Below.refl _ _ | assumption | refine Below.drew ?_ | refine bdn ?_ | refine ba _ ?_ | refine bs0 _ _ ?_ ?_ | refine bs1 _ _ _ ?_ ?_ | refine bs2 _ _ _ _ ?_ ?_ | refine bs3 _ _ _ _ _ ?_ ?_ | refine bt3 (by assumption) ?_))); clear hb) | (go_at_call 28; (with_reducible refine (HF0.out _).mono ?_); rintro e w' ⟨rfl, rfl⟩) | (go_at_call 33; (with_reducible refine (HBt.out _).mono ?_); rintro e w' ⟨rfl, rfl⟩))); go_meet; (exact by (repeat (first | exact Below.refl _ _ | assumption | refine Below.drew ?_ | refine bdn ?_ | refine ba _ ?_ | refine bs0 _ _ ?_ ?_ | refine bs1 _ _ _ ?_ ?_ | refine bs2 _ _ _ _ ?_ ?_ | refine bs3 _ _ _ _ _ ?_ ?_ | refine bt3 (by assumption) ?_)))
          · (go_wp2_with (first | (go_at_call 39; (with_reducible refine (HD0.out _).mono ?_); rintro e w2 ⟨rfl, hb⟩; have hbx : Below wq.heap.size wq w2 := bt3 hb (by (repeat (first | exact Below.refl _ _ | assumption | refine Below.drew ?_ | refine bdn ?_ | refine ba _ ?_ | refine bs0 _ _ ?_ ?_ | refine bs1 _ _ _ ?_ ?_ | refine bs2 _ _ _ _ ?_ ?_ | refine bs3 _ _ _ _ _ ?_ ?_ | refine bt3 (by assumption) ?_))); clear hb) | (go_at_call 12; (with_reducible refine (HS3.out _).mono ?_); rintro e w2 ⟨rfl, hb⟩; have hbx : Below wq.heap.size wq w2 := bt3 hb (by (repeat (first | exact Below.refl _ _ | assumption | refine Below.drew ?_ | refine bdn ?_ | refine ba _ ?_ | refine bs0 _ _ ?_ ?_ | refine bs1 _ _ _ ?_ ?_ | refine bs2 _ _ _ _ ?_ ?_ | refine bs3 _ _ _ _ _ ?_ ?_ | refine bt3 (by assumption) ?_))); clear hb) | (go_at_call 28; (with_reducible refine (HF0.out _).mono ?_); rintro e w' ⟨rfl, rfl⟩) | (go_at_call 33; (with_reducible refine (HBt.out _).mono ?_); rintro e w' ⟨rfl, rfl⟩))); go_meet; (exact by (repeat (first | exact Below.refl _ _ | assumption | refine Below.drew ?_ | refine bdn ?_ | refine ba _ ?_ | refine bs0 _ _ ?_ ?_ | refine bs1 _ _ _ ?_ ?_ | refine bs2 _ _ _ _ ?_ ?_ | refine bs3 _ _ _ _ _ ?_ ?_ | refine bt3 (by assumption) ?_)))
          · (go_wp2_with (first | (go_at_call 39; (with_reducible refine (HD0.out _).mono ?_); rintro e w2 ⟨rfl, hb⟩; have hbx : Below wq.heap.size wq w2 := bt3 hb (by (repeat (first | exact Below.refl _ _ | assumption | refine Below.drew ?_ | refine bdn ?_ | refine ba _ ?_ | refine bs0 _ _ ?_ ?_ | refine bs1 _ _ _ ?_ ?_ | refine bs2 _ _ _ _ ?_ ?_ | refine bs3 _ _ _ _ _ ?_ ?_ | refine bt3 (by assumption) ?_))); clear hb) | (go_at_call 12; (with_reducible refine (HS3.out _).mono ?_); rintro e w2 ⟨rfl, hb⟩; have hbx : Below wq.heap.size wq w2 := bt3 hb (by (repeat (first | exact Below.refl _ _ | assumption | refine Below.drew ?_ | refine bdn ?_ | refine ba _ ?_ | refine bs0 _ _ ?_ ?_ | refine bs1 _ _ _ ?_ ?_ | refine bs2 _ _ _ _ ?_ ?_ | refine bs3 _ _ _ _ _ ?_ ?_ | refine bt3 (by assumption) ?_))); clear hb) | (go_at_call 28; (with_reducible refine (HF0.out _).mono ?_); rintro e w' ⟨rfl, rfl⟩) | (go_at_call 33; (with_reducible refine (HBt.out _).mono ?_); rintro e w' ⟨rfl, rfl⟩))); go_meet; (exact by (repeat (first | exact Below.refl _ _ | assumption | refine Below.drew ?_ | refine bdn ?_ | refine ba _ ?_ | refine bs0 _ _ ?_ ?_ | refine bs1 _ _ _ ?_ ?_ | refine bs2 _ _ _ _ ?_ ?_ | refine bs3 _ _ _ _ _ ?_ ?_ | refine bt3 (by assumption) ?_)))
    as_aux_lemma =>
      replace HQ : Below w.heap.size w wc := bt3 hcut HQ
      clear hcut HVq HPq
      rcases bn_casesP x y m with ⟨h1, fx, fy, hm⟩ | h1
      · obtain ⟨hp, hf, hcc⟩ := HV.out
        have hyy := bn_yes (mlF x y m) (mlL x y m) h1
        rw [hyy.1] at hp
        rw [hyy.2] at hf
        rw [h1] at hcc
        subst hp hcc hf
        have hM0 := fun w => i_MulInE x y 0 w HX.out.1 HX.out.2
        have hy0 := bn_yes (mlF x y 0) (mlL x y 0) (bnC_0 ⟨fx, fy⟩ (show modeB 0 = true from rfl))
        rw [hy0.1, hy0.2, bnC_0 ⟨fx, fy⟩ (show modeB 0 = true from rfl)] at hM0
        have HM0 := Hd.mk hM0
        have HS2 := Hd.mk (fun w => i_Spread2 x y w HX.out.1 HX.out.2 ⟨fx, fy⟩)
        have hfe := fused_eq HX.out.1 HX.out.2 fx fy hm
        have hFu := fun w => i_FusedIn x y 0 m w HX.out.1 HX.out.2 (show W 0 by unfold W; decide)
        unfold RetFU at hFu
        rw [hfe.1, hfe.2.2] at hFu
        have HFu := Hd.mk hFu
        have k1 := mlF_num x y 1
        have k2 := mlF_num x y 2
        have k0 := mlF_num x y 0
        have km := mlF_num x y m
        have heq : (FloatKind.f32.format.order (fuF x y 0 m) (mlF x y m) == some .eq) = true := by rw [q_eqs (fu_num _ _ _ _) km.2]; exact decide_eq_true hfe.2.1
        have HBt := Hd.mk (fun w => l_between (mlF x y m) (mlF x y 1) (mlF x y 2) w km.2 k1.2 k2.2 (mlF_two (modeB_of hm)))
        have HF0 := Hd.mk (fun w => l_f9 (mlF x y 0) w k0.1 k0.2)
        have ka := fun w => run_float_arith (P := Tryz.prog) w .mul 22 .f32 x y _ (mul_eq fx fy)
        rw [mlF_near HX.out.1 HX.out.2 fx fy] at ka
        have hk := mlL_cases x y 0
        have b0 : bits .and .i64 0 4 = 0 := (by decide +kernel); have b1 : bits .and .i64 1 4 = 0 := (by decide +kernel); have b3 : bits .and .i64 3 4 = 0 := (by decide +kernel); have b5 : bits .and .i64 5 4 = 4 := (by decide +kernel)
        clear hyy hM0 hy0 hfe hFu k1 k2 k0 km h1 fx fy hm HV HP
        generalize mlF x y 1 = lo' at *
        generalize mlF x y 2 = hi' at *
        generalize mlF x y 0 = ne at *
        generalize mlF x y m = sm at *
        generalize mlL x y m = fl at *
        generalize fuF x y 0 m = fz at *
        generalize mlL x y 0 = k at *
        clear b0 b1 b3 b5 hk
        generalize hbb : (bits .and .i64 k 4 == 0) = bb
        cases bb
        · (go_wp2_with (first | (go_at_call 36; (with_reducible refine (HM0.out _).mono ?_); rintro e w1 ⟨rfl, hb⟩; replace HQ : Below w.heap.size w w1 := bt3 hb HQ; clear hb) | (go_at_call 12; (with_reducible refine (HS2.out _).mono ?_); rintro e w1 ⟨rfl, hb⟩; replace HQ : Below w.heap.size w w1 := bt3 hb HQ; clear hb) | (go_at_call 42; (with_reducible refine (HFu.out _).mono ?_); rintro e w1 ⟨rfl, hb⟩; replace HQ : Below w.heap.size w w1 := bt3 hb HQ; clear hb) | (go_at_call 28; (with_reducible refine (HF0.out _).mono ?_); rintro e w' ⟨rfl, rfl⟩) | (go_at_call 33; (with_reducible refine (HBt.out _).mono ?_); rintro e w' ⟨rfl, rfl⟩))); go_ret; exact ⟨rfl, HQ⟩
        · (go_wp2_with (first | (go_at_call 36; (with_reducible refine (HM0.out _).mono ?_); rintro e w1 ⟨rfl, hb⟩; replace HQ : Below w.heap.size w w1 := bt3 hb HQ; clear hb) | (go_at_call 12; (with_reducible refine (HS2.out _).mono ?_); rintro e w1 ⟨rfl, hb⟩; replace HQ : Below w.heap.size w w1 := bt3 hb HQ; clear hb) | (go_at_call 42; (with_reducible refine (HFu.out _).mono ?_); rintro e w1 ⟨rfl, hb⟩; replace HQ : Below w.heap.size w w1 := bt3 hb HQ; clear hb) | (go_at_call 28; (with_reducible refine (HF0.out _).mono ?_); rintro e w' ⟨rfl, rfl⟩) | (go_at_call 33; (with_reducible refine (HBt.out _).mono ?_); rintro e w' ⟨rfl, rfl⟩))); go_ret; exact ⟨rfl, HQ⟩
      · obtain ⟨hp, hf, hcc⟩ := HV.out
        have hnn := bn_no (mlF x y m) (mlL x y m) (rfl : bnC x y m = bnC x y m) (by omega)
        rw [hnn.1] at hp
        subst hp
        have h00 : (FloatKind.f32.format.order 0 0 == some .eq) = true := by decide +kernel
        rw [hcc] at h1
        clear hnn hcc hf HV HP
        rcases h1 with rfl | rfl
        · (go_wp2_with (first | (go_at_call 36; (with_reducible refine (HM0.out _).mono ?_); rintro e w1 ⟨rfl, hb⟩; replace HQ : Below w.heap.size w w1 := bt3 hb HQ; clear hb) | (go_at_call 12; (with_reducible refine (HS2.out _).mono ?_); rintro e w1 ⟨rfl, hb⟩; replace HQ : Below w.heap.size w w1 := bt3 hb HQ; clear hb) | (go_at_call 42; (with_reducible refine (HFu.out _).mono ?_); rintro e w1 ⟨rfl, hb⟩; replace HQ : Below w.heap.size w w1 := bt3 hb HQ; clear hb) | (go_at_call 28; (with_reducible refine (HF0.out _).mono ?_); rintro e w' ⟨rfl, rfl⟩) | (go_at_call 33; (with_reducible refine (HBt.out _).mono ?_); rintro e w' ⟨rfl, rfl⟩))); go_ret; exact ⟨rfl, HQ⟩
        · (go_wp2_with (first | (go_at_call 36; (with_reducible refine (HM0.out _).mono ?_); rintro e w1 ⟨rfl, hb⟩; replace HQ : Below w.heap.size w w1 := bt3 hb HQ; clear hb) | (go_at_call 12; (with_reducible refine (HS2.out _).mono ?_); rintro e w1 ⟨rfl, hb⟩; replace HQ : Below w.heap.size w w1 := bt3 hb HQ; clear hb) | (go_at_call 42; (with_reducible refine (HFu.out _).mono ?_); rintro e w1 ⟨rfl, hb⟩; replace HQ : Below w.heap.size w w1 := bt3 hb HQ; clear hb) | (go_at_call 28; (with_reducible refine (HF0.out _).mono ?_); rintro e w' ⟨rfl, rfl⟩) | (go_at_call 33; (with_reducible refine (HBt.out _).mono ?_); rintro e w' ⟨rfl, rfl⟩))); go_ret; exact ⟨rfl, HQ⟩
set_option maxRecDepth 100000 in
theorem ProdsE.lifted (os : Os) (started : os.Started) (H : Type) (enc : TypeId × Value → H) :
    ReturnsInHanded {} Tryz.checked os 7 .any (Rows.fnProductsSpec.pre6 enc Tryz.prog Tryz.f7 Rows.fnProductsRow.domain false) (Rows.fnProductsSpec.post enc Tryz.prog Tryz.f7 false true false false) := by
  refine returnsInHanded_of_change (C := Tryz.checked) rowOwn started (by kernel_rfl) Tryz.func7
    (ChangeSpec.witness6 (enc := enc) (C := Tryz.checked) false ⟨#[], #[.slice none 0 0], []⟩ 8 (by kernel_rfl) (by kernel_rfl) (by kernel_rfl) (by kernel_rfl)) ?_
  intro W base args ds gs before hval0 hW hcnd _
  have hval : ∀ (j : Nat) t v, Tryz.f7.params[j]? = some t → args[j]? = some v → Value.okWide Tryz.prog W .any base t v := hval0
  have hW' := hW
  obtain ⟨p, q, hA0, hV, rfl, hfz, hnd⟩ := hW
  have hA : DataW.TrodAll enc Tryz.prog W 0 (fun _ => true) true Tryz.f7.params.toList args.toList ds p := hA0
  rw [Tryz.params7] at hA hval
  obtain ⟨v0, vs0, d0, ds0, p0, q0, hv0, rfl, rfl, h0, r0⟩ := trodAll_cons hA
  obtain ⟨rfl, rfl, rfl⟩ := trodAll_nil r0
  obtain rfl : args = #[v0] := by cases args; simp_all
  obtain ⟨rfl, rfl⟩ := trodVars_none hV
  obtain ⟨A, n, c, xs, rfl, hn, hnc, hcm, hR, hx⟩ := open_by Tryz.underlying46 Tryz.underlying5 (by kernel_rfl) (hval 0 46 v0 rfl rfl) h0
  clear hA0 hval0
  refine (ProdsE.walk A n c xs W hn (Nat.le_trans hnc hcm) hR hx).mono fun e W' ⟨he, hg⟩ => ?_
  subst he
  exact ⟨_, rfl, post_law laidOut (by kernel_rfl) (by kernel_rfl) Tryz.underlying4 rfl hW' rfl hg⟩
theorem ProdsE.k10 : (Rows.fnProductsRow.inPlace == Tryz.prog.inPlace 7) = true := by kernel_rfl
theorem ProdsE.k11 : (Rows.fnProductsRow.unfollowed == Tryz.prog.unfollowed 7) = true := by kernel_rfl
theorem ProdsE.k12 : (Rows.fnProductsRow.recurses == Tryz.prog.recurses 7) = true := by kernel_rfl
theorem ProdsE.k13 : (Rows.fnProductsRow.named == Tryz.prog.varsNamed 7) = true := by kernel_rfl
theorem ProdsE.closed : joinedFacts Tryz.prog 7 Tryz.f7 Rows.fnProductsSpec Rows.fnProductsRow = true := by
  unfold joinedFacts
  simp only [Bool.and_eq_true]
  exact ⟨⟨⟨⟨⟨⟨⟨⟨⟨⟨⟨⟨⟨⟨⟨⟨⟨⟨⟨⟨⟨⟨⟨⟨⟨⟨⟨⟨⟨⟨⟨by kernel_rfl, laidOut⟩, fact_maps⟩, by kernel_rfl⟩, by kernel_rfl⟩, by kernel_rfl⟩, by kernel_rfl⟩, by kernel_rfl⟩, by kernel_rfl⟩, ProdsE.k10⟩, ProdsE.k11⟩, ProdsE.k12⟩, ProdsE.k13⟩, by kernel_rfl⟩, by kernel_rfl⟩, by kernel_rfl⟩, by kernel_rfl⟩, by kernel_rfl⟩, by kernel_rfl⟩, by kernel_rfl⟩, by kernel_rfl⟩, by kernel_rfl⟩, by kernel_rfl⟩, by kernel_rfl⟩, fact_stops⟩, fact_enter⟩, lifts_eq rfl⟩, by kernel_rfl⟩, by kernel_rfl⟩, by kernel_rfl⟩, by kernel_rfl⟩, by kernel_rfl⟩
theorem ProdsE.holds : Rows.FnProductsSaid :=
  OpenClaim.holds_of_wide 7 Tryz.f7 rfl rfl rfl rfl rfl rfl rfl ⟨rfl, rfl, rfl, rfl, rfl⟩ rfl rfl rfl rfl rfl (by kernel_rfl) Tryz.func7 ProdsE.closed
    (of_decide_eq_true (by kernel_rfl)) (by unfold Func.isWrapper; first | (rw [if_pos (by decide +kernel)]; kernel_rfl) | (rw [if_neg (by decide +kernel)]; exact ⟨rfl, rfl⟩))
    (fun os started H enc _ => ProdsE.lifted os started H enc)
#print axioms ProdsE.holds
end Go.Proofs.YtflgjecpjaiecaaGreat
