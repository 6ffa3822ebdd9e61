/- For every code: the program's sums and differences in all modes answer as the reference's do, lie beside each other, and the nearest ones are the language's. -/
import Derived.Test.YtflgjecpjaiecaaGreatY3q1
import Derived.Test.YtflgjecpjaiecaaGreatA2q1
import Derived.Test.YtflgjecpjaiecaaGreatE3q1
import Derived.Test.YtflgjecpjaiecaaGreatGfq1
set_option linter.unusedVariables false
set_option linter.unusedSimpArgs false
namespace Go.Proofs.YtflgjecpjaiecaaGreat
open Go.ChangeShapes Go.WideShapes Go.ChangeAt Go.RowKit Num Flt
theorem bnF_ng {x y : Nat} {mode : Int} {F : Nat} (hy : W y) : bnF x (ng y) mode F = bnF x y mode F := by unfold bnF; rw [bnC_ng hy]
theorem bnL_ng {x y : Nat} {mode : Int} {L : Int} (hy : W y) : bnL x (ng y) mode L = bnL x y mode L := by unfold bnL; rw [bnC_ng hy]
theorem bn_cases (x y : Nat) (mode : Int) : (bnC x y mode = 0 ∧ fin x ∧ fin y ∧ modeB mode = true) ∨ (bnC x y mode = 1 ∨ bnC x y mode = 2) := by
  by_cases h : fin x ∧ fin y
  · cases hm : modeB mode
    · exact Or.inr (Or.inr (bnC_2 h hm))
    · exact Or.inl ⟨bnC_0 h hm, h.1, h.2, rfl⟩
  · exact Or.inr (Or.inl (bnC_1 h))
set_option maxRecDepth 100000 in
set_option maxHeartbeats 20000000 in
theorem SumsE.walk (A : Option Addr) (n c : Nat) (xs : List Nat) (w : World) (hn : n = xs.length) (hl : n ≤ maxLen) (hR : RB w w.heap.size A xs) (hx : ∀ x ∈ xs, x < 256) :
    Calls Tryz.prog 6 #[.slice A n c] w fun e w' => e = .returned (.bool true) ∧ Below w.heap.size w w' := by
  have HB0 := Hd.mk (fun w => l_big A n c w hl)
  by_cases hs : (4096 : Int) < n
  · rw [decide_eq_true hs] at HB0
    clear hs hn hl hR hx
    go_enter Tryz.func6, Tryz.ntmps6
    go_wp2_with (go_at_call 24; (with_reducible refine (HB0.out _).mono ?_); rintro e w' ⟨rfl, rfl⟩)
    go_ret
    exact ⟨rfl, Below.refl _ _⟩
  · rw [decide_eq_false hs] at HB0
    have HC := Hd.mk (code_of hn (by omega) hR hx)
    have HQ := Below.refl w.heap.size w
    clear hs hn hl hR hx
    go_enter Tryz.func6, Tryz.ntmps6
    go_upto_region 4 with (first | (go_at_call 24; (with_reducible refine (HB0.out _).mono ?_); rintro e w' ⟨rfl, rfl⟩) | (go_at_call 25; (with_reducible refine (s_DrawAdd A n c xs _ (HC.out.more' HQ)).mono ?_); rintro e w1 ⟨x, y, m, rfl, hx1, hy1, hb⟩; replace HQ : Below w.heap.size w w1 := bt3 hb HQ; have HX := Hd.mk (And.intro hx1 hy1); clear hb hx1 hy1))
    have hsA := Hd.mk (fun w => s_AddIn x y m w HX.out.1 HX.out.2)
    have hiA := Hd.mk (fun w => i_AddIn x y m w HX.out.1 HX.out.2)
    have HP := Hd.mk (And.intro (bnF_W (x := x) (y := y) (mode := m) (sm4_W x y m).1) (bnF_num (x := x) (y := y) (mode := m) (sm4_W x y m).2))
    obtain ⟨p, hp⟩ : ∃ p, bnF x y m (sm4 x y m) = p := ⟨_, rfl⟩
    obtain ⟨f, hf⟩ : ∃ f, bnL x y m (rFl m (fv x + fv y)) = f := ⟨_, rfl⟩
    obtain ⟨cc, hcc⟩ : ∃ cc, bnC x y m = cc := ⟨_, rfl⟩
    rw [hp, hf, hcc] at hsA hiA
    rw [hp] at HP
    have HV := Hd.mk (And.intro hp (And.intro hf hcc))
    clear hp hf hcc
    have HFp := Hd.mk (fun w => l_f9 p w HP.out.1 HP.out.2)
    go_upto_region 9 with (first | (go_at_call 26; (with_reducible refine (hiA.out _).mono ?_); rintro e w1 ⟨rfl, hb⟩; replace HQ : Below w.heap.size w w1 := bt3 hb HQ; clear hb) | (go_at_call 27; (with_reducible refine (hsA.out _).mono ?_); rintro e w1 ⟨rfl, hb⟩; replace HQ : Below w.heap.size w w1 := bt3 hb HQ; clear hb) | (go_at_call 28; (with_reducible refine (HFp.out _).mono ?_); rintro e w' ⟨rfl, rfl⟩) | (go_at_call 29; (with_reducible refine (s_DrawSub A n c xs _ (HC.out.more' HQ)).mono ?_); rintro e w1 ⟨u, v, o, rfl, hx1, hy1, hb⟩; replace HQ : Below w.heap.size w w1 := bt3 hb HQ; have HU := Hd.mk (And.intro hx1 hy1); clear hb hx1 hy1))
    have hsS := Hd.mk (fun w => s_SubIn u v o w HU.out.1 HU.out.2)
    have hiS := Hd.mk (fun w => i_SubIn u v o w HU.out.1 HU.out.2)
    have hiT := fun w => i_AddIn u (ng v) o w HU.out.1 (W_ng HU.out.2)
    simp only [bnF_ng HU.out.2, bnL_ng HU.out.2, bnC_ng HU.out.2] at hiT
    have hiT := Hd.mk hiT
    have HPq := Hd.mk (And.intro (bnF_W (x := u) (y := v) (mode := o) (sm4_W u (ng v) o).1) (bnF_num (x := u) (y := v) (mode := o) (sm4_W u (ng v) o).2))
    generalize bnF u v o (sm4 u (ng v) o) = q at *
    generalize bnL u v o (rFl o (fv u + fv (ng v))) = g at *
    have HFq := Hd.mk (fun w => l_f9 q w HPq.out.1 HPq.out.2)
    rcases bn_cases u v o with ⟨h1, hu1, hv1, ho1⟩ | h1
    · rw [h1] at hsS hiS hiT
      have kt := fun w => run_float_arith (P := Tryz.prog) w .mul 22 .f32 v 3212836864 (ng v) (f_turn v HU.out.2 (nan_fin hv1))
      clear h1 hu1 hv1 ho1
      go_upto_region 17 with (first | (go_at_call 30; (with_reducible refine (hiS.out _).mono ?_); rintro e w1 ⟨rfl, hb⟩; replace HQ : Below w.heap.size w w1 := bt3 hb HQ; clear hb) | (go_at_call 31; (with_reducible refine (hsS.out _).mono ?_); rintro e w1 ⟨rfl, hb⟩; replace HQ : Below w.heap.size w w1 := bt3 hb HQ; clear hb) | (go_at_call 28; (with_reducible refine (HFq.out _).mono ?_); rintro e w' ⟨rfl, rfl⟩) | (go_at_call 26; (with_reducible refine (hiT.out _).mono ?_); rintro e w1 ⟨rfl, hb⟩; replace HQ : Below w.heap.size w w1 := bt3 hb HQ; clear hb))
      clear kt
      rcases bn_cases x y m with ⟨h1, fx, fy, hm⟩ | h1
      · obtain ⟨hp, hf, hcc⟩ := HV.out
        have hyy := bn_yes (sm4 x y m) (rFl m (fv x + fv y)) h1
        rw [hyy.1] at hp
        rw [hyy.2] at hf
        rw [h1] at hcc
        subst hp hcc
        have HSp := Hd.mk (fun w => i_Spread0 x y w HX.out.1 HX.out.2 ⟨fx, fy⟩)
        have hA0 := fun w => i_AddIn x y 0 w HX.out.1 HX.out.2
        have hy0 := bn_yes (sm4 x y 0) (rFl 0 (fv x + fv y)) (bnC_0 ⟨fx, fy⟩ (show modeB 0 = true from rfl))
        rw [hy0.1, hy0.2, bnC_0 ⟨fx, fy⟩ (show modeB 0 = true from rfl)] at hA0
        have HA0 := Hd.mk hA0
        have HEx := Hd.mk (fun w => i_IsExact x y w HX.out.1 HX.out.2 fx fy)
        have w1 := sm4_W x y 1
        have w2 := sm4_W x y 2
        have w0 := sm4_W x y 0
        have wm := sm4_W x y m
        have HBe := Hd.mk (fun w => l_beside (sm4 x y 1) (sm4 x y 2) w w1.1 w1.2 w2.2 (sm4_step x y))
        have HBt := Hd.mk (fun w => l_between (sm4 x y m) (sm4 x y 1) (sm4 x y 2) w wm.2 w1.2 w2.2 (sm4_two (modeB_of hm)))
        have ka := fun w => run_float_arith (P := Tryz.prog) w .add 22 .f32 x y _ (addW_eq fx fy)
        rw [sm4_near HX.out.1 HX.out.2 fx fy] at ka
        have HF0 := Hd.mk (fun w => l_f9 (sm4 x y 0) w w0.1 w0.2)
        have hq := q_eqs w1.2 w2.2
        have hk := rFl_cases 0 (fv x + fv y)
        have hex := sm4_exact (x := x) (y := y)
        have b0 : bits .and .i64 0 4 = 0 := by decide +kernel
        have b1 : bits .and .i64 1 4 = 0 := by decide +kernel
        have b3 : bits .and .i64 3 4 = 0 := by decide +kernel
        have b5 : bits .and .i64 5 4 = 4 := by decide +kernel
        clear hy0 hA0 hyy h1 hf fx fy hm w1 w2 w0 wm HV hsA hiA HP HFp hsS hiS hiT HFq HPq
        generalize sm4 x y 1 = lo at *
        generalize sm4 x y 2 = hi at *
        generalize sm4 x y 0 = ne at *
        generalize sm4 x y m = sm at *
        generalize rFl 0 (fv x + fv y) = k at *
        rcases hk with rfl | rfl | rfl | rfl
        · rw [decide_eq_true (hex rfl)] at hq
          clear hex
          (go_wp2_with (first | (go_at_call 12; (with_reducible refine (HSp.out _).mono ?_); rintro e w1 ⟨rfl, hb⟩; replace HQ : Below w.heap.size w w1 := bt3 hb HQ; clear hb) | (go_at_call 26; (with_reducible refine (HA0.out _).mono ?_); rintro e w1 ⟨rfl, hb⟩; replace HQ : Below w.heap.size w w1 := bt3 hb HQ; clear hb) | (go_at_call 32; (with_reducible refine (HBe.out _).mono ?_); rintro e w' ⟨rfl, rfl⟩) | (go_at_call 33; (with_reducible refine (HBt.out _).mono ?_); rintro e w' ⟨rfl, rfl⟩) | (go_at_call 28; (with_reducible refine (HF0.out _).mono ?_); rintro e w' ⟨rfl, rfl⟩) | (go_at_call 34; (with_reducible refine (HEx.out _).mono ?_); rintro e w1 ⟨rfl, hb⟩; replace HQ : Below w.heap.size w w1 := bt3 hb HQ; clear hb))); go_ret; exact ⟨rfl, HQ⟩
        all_goals
          clear hex
          generalize decide (pl lo = pl hi) = b at *
          cases b
          · (go_wp2_with (first | (go_at_call 12; (with_reducible refine (HSp.out _).mono ?_); rintro e w1 ⟨rfl, hb⟩; replace HQ : Below w.heap.size w w1 := bt3 hb HQ; clear hb) | (go_at_call 26; (with_reducible refine (HA0.out _).mono ?_); rintro e w1 ⟨rfl, hb⟩; replace HQ : Below w.heap.size w w1 := bt3 hb HQ; clear hb) | (go_at_call 32; (with_reducible refine (HBe.out _).mono ?_); rintro e w' ⟨rfl, rfl⟩) | (go_at_call 33; (with_reducible refine (HBt.out _).mono ?_); rintro e w' ⟨rfl, rfl⟩) | (go_at_call 28; (with_reducible refine (HF0.out _).mono ?_); rintro e w' ⟨rfl, rfl⟩) | (go_at_call 34; (with_reducible refine (HEx.out _).mono ?_); rintro e w1 ⟨rfl, hb⟩; replace HQ : Below w.heap.size w w1 := bt3 hb HQ; clear hb))); go_ret; exact ⟨rfl, HQ⟩
          · (go_wp2_with (first | (go_at_call 12; (with_reducible refine (HSp.out _).mono ?_); rintro e w1 ⟨rfl, hb⟩; replace HQ : Below w.heap.size w w1 := bt3 hb HQ; clear hb) | (go_at_call 26; (with_reducible refine (HA0.out _).mono ?_); rintro e w1 ⟨rfl, hb⟩; replace HQ : Below w.heap.size w w1 := bt3 hb HQ; clear hb) | (go_at_call 32; (with_reducible refine (HBe.out _).mono ?_); rintro e w' ⟨rfl, rfl⟩) | (go_at_call 33; (with_reducible refine (HBt.out _).mono ?_); rintro e w' ⟨rfl, rfl⟩) | (go_at_call 28; (with_reducible refine (HF0.out _).mono ?_); rintro e w' ⟨rfl, rfl⟩) | (go_at_call 34; (with_reducible refine (HEx.out _).mono ?_); rintro e w1 ⟨rfl, hb⟩; replace HQ : Below w.heap.size w w1 := bt3 hb HQ; clear hb))); go_ret; exact ⟨rfl, HQ⟩
      · obtain ⟨hp, hf, hcc⟩ := HV.out
        have hnn := bn_no (sm4 x y m) (rFl m (fv x + fv y)) (rfl : bnC x y m = bnC x y m) (by omega)
        rw [hnn.1] at hp
        rw [hnn.2] at hf
        subst hp hf
        have h00 : (FloatKind.f32.format.order 0 0 == some .eq) = true := by decide +kernel
        rw [hcc] at h1
        clear hnn hcc HV hsA hiA HP HFp hsS hiS hiT HFq HPq
        rcases h1 with rfl | rfl
        · (go_wp2_with (first | (go_at_call 12; (with_reducible refine (HSp.out _).mono ?_); rintro e w1 ⟨rfl, hb⟩; replace HQ : Below w.heap.size w w1 := bt3 hb HQ; clear hb) | (go_at_call 26; (with_reducible refine (HA0.out _).mono ?_); rintro e w1 ⟨rfl, hb⟩; replace HQ : Below w.heap.size w w1 := bt3 hb HQ; clear hb) | (go_at_call 32; (with_reducible refine (HBe.out _).mono ?_); rintro e w' ⟨rfl, rfl⟩) | (go_at_call 33; (with_reducible refine (HBt.out _).mono ?_); rintro e w' ⟨rfl, rfl⟩) | (go_at_call 28; (with_reducible refine (HF0.out _).mono ?_); rintro e w' ⟨rfl, rfl⟩) | (go_at_call 34; (with_reducible refine (HEx.out _).mono ?_); rintro e w1 ⟨rfl, hb⟩; replace HQ : Below w.heap.size w w1 := bt3 hb HQ; clear hb))); go_ret; exact ⟨rfl, HQ⟩
        · (go_wp2_with (first | (go_at_call 12; (with_reducible refine (HSp.out _).mono ?_); rintro e w1 ⟨rfl, hb⟩; replace HQ : Below w.heap.size w w1 := bt3 hb HQ; clear hb) | (go_at_call 26; (with_reducible refine (HA0.out _).mono ?_); rintro e w1 ⟨rfl, hb⟩; replace HQ : Below w.heap.size w w1 := bt3 hb HQ; clear hb) | (go_at_call 32; (with_reducible refine (HBe.out _).mono ?_); rintro e w' ⟨rfl, rfl⟩) | (go_at_call 33; (with_reducible refine (HBt.out _).mono ?_); rintro e w' ⟨rfl, rfl⟩) | (go_at_call 28; (with_reducible refine (HF0.out _).mono ?_); rintro e w' ⟨rfl, rfl⟩) | (go_at_call 34; (with_reducible refine (HEx.out _).mono ?_); rintro e w1 ⟨rfl, hb⟩; replace HQ : Below w.heap.size w w1 := bt3 hb HQ; clear hb))); go_ret; exact ⟨rfl, HQ⟩
    · rcases h1 with h1 | h1
      all_goals
        rw [h1] at hsS hiS hiT
        clear h1
        go_upto_region 17 with (first | (go_at_call 30; (with_reducible refine (hiS.out _).mono ?_); rintro e w1 ⟨rfl, hb⟩; replace HQ : Below w.heap.size w w1 := bt3 hb HQ; clear hb) | (go_at_call 31; (with_reducible refine (hsS.out _).mono ?_); rintro e w1 ⟨rfl, hb⟩; replace HQ : Below w.heap.size w w1 := bt3 hb HQ; clear hb) | (go_at_call 28; (with_reducible refine (HFq.out _).mono ?_); rintro e w' ⟨rfl, rfl⟩))
        rcases bn_cases x y m with ⟨h1, fx, fy, hm⟩ | h1
        · obtain ⟨hp, hf, hcc⟩ := HV.out
          have hyy := bn_yes (sm4 x y m) (rFl m (fv x + fv y)) h1
          rw [hyy.1] at hp
          rw [hyy.2] at hf
          rw [h1] at hcc
          subst hp hcc
          have HSp := Hd.mk (fun w => i_Spread0 x y w HX.out.1 HX.out.2 ⟨fx, fy⟩)
          have hA0 := fun w => i_AddIn x y 0 w HX.out.1 HX.out.2
          have hy0 := bn_yes (sm4 x y 0) (rFl 0 (fv x + fv y)) (bnC_0 ⟨fx, fy⟩ (show modeB 0 = true from rfl))
          rw [hy0.1, hy0.2, bnC_0 ⟨fx, fy⟩ (show modeB 0 = true from rfl)] at hA0
          have HA0 := Hd.mk hA0
          have HEx := Hd.mk (fun w => i_IsExact x y w HX.out.1 HX.out.2 fx fy)
          have w1 := sm4_W x y 1
          have w2 := sm4_W x y 2
          have w0 := sm4_W x y 0
          have wm := sm4_W x y m
          have HBe := Hd.mk (fun w => l_beside (sm4 x y 1) (sm4 x y 2) w w1.1 w1.2 w2.2 (sm4_step x y))
          have HBt := Hd.mk (fun w => l_between (sm4 x y m) (sm4 x y 1) (sm4 x y 2) w wm.2 w1.2 w2.2 (sm4_two (modeB_of hm)))
          have ka := fun w => run_float_arith (P := Tryz.prog) w .add 22 .f32 x y _ (addW_eq fx fy)
          rw [sm4_near HX.out.1 HX.out.2 fx fy] at ka
          have HF0 := Hd.mk (fun w => l_f9 (sm4 x y 0) w w0.1 w0.2)
          have hq := q_eqs w1.2 w2.2
          have hk := rFl_cases 0 (fv x + fv y)
          have hex := sm4_exact (x := x) (y := y)
          have b0 : bits .and .i64 0 4 = 0 := by decide +kernel
          have b1 : bits .and .i64 1 4 = 0 := by decide +kernel
          have b3 : bits .and .i64 3 4 = 0 := by decide +kernel
          have b5 : bits .and .i64 5 4 = 4 := by decide +kernel
          clear hy0 hA0 hyy h1 hf fx fy hm w1 w2 w0 wm HV hsA hiA HP HFp hsS hiS hiT HFq HPq
          generalize sm4 x y 1 = lo at *
          generalize sm4 x y 2 = hi at *
          generalize sm4 x y 0 = ne at *
          generalize sm4 x y m = sm at *
          generalize rFl 0 (fv x + fv y) = k at *
          rcases hk with rfl | rfl | rfl | rfl
          · rw [decide_eq_true (hex rfl)] at hq
            clear hex
            (go_wp2_with (first | (go_at_call 12; (with_reducible refine (HSp.out _).mono ?_); rintro e w1 ⟨rfl, hb⟩; replace HQ : Below w.heap.size w w1 := bt3 hb HQ; clear hb) | (go_at_call 26; (with_reducible refine (HA0.out _).mono ?_); rintro e w1 ⟨rfl, hb⟩; replace HQ : Below w.heap.size w w1 := bt3 hb HQ; clear hb) | (go_at_call 32; (with_reducible refine (HBe.out _).mono ?_); rintro e w' ⟨rfl, rfl⟩) | (go_at_call 33; (with_reducible refine (HBt.out _).mono ?_); rintro e w' ⟨rfl, rfl⟩) | (go_at_call 28; (with_reducible refine (HF0.out _).mono ?_); rintro e w' ⟨rfl, rfl⟩) | (go_at_call 34; (with_reducible refine (HEx.out _).mono ?_); rintro e w1 ⟨rfl, hb⟩; replace HQ : Below w.heap.size w w1 := bt3 hb HQ; clear hb))); go_ret; exact ⟨rfl, HQ⟩
          all_goals
            clear hex
            generalize decide (pl lo = pl hi) = b at *
            cases b
            · (go_wp2_with (first | (go_at_call 12; (with_reducible refine (HSp.out _).mono ?_); rintro e w1 ⟨rfl, hb⟩; replace HQ : Below w.heap.size w w1 := bt3 hb HQ; clear hb) | (go_at_call 26; (with_reducible refine (HA0.out _).mono ?_); rintro e w1 ⟨rfl, hb⟩; replace HQ : Below w.heap.size w w1 := bt3 hb HQ; clear hb) | (go_at_call 32; (with_reducible refine (HBe.out _).mono ?_); rintro e w' ⟨rfl, rfl⟩) | (go_at_call 33; (with_reducible refine (HBt.out _).mono ?_); rintro e w' ⟨rfl, rfl⟩) | (go_at_call 28; (with_reducible refine (HF0.out _).mono ?_); rintro e w' ⟨rfl, rfl⟩) | (go_at_call 34; (with_reducible refine (HEx.out _).mono ?_); rintro e w1 ⟨rfl, hb⟩; replace HQ : Below w.heap.size w w1 := bt3 hb HQ; clear hb))); go_ret; exact ⟨rfl, HQ⟩
            · (go_wp2_with (first | (go_at_call 12; (with_reducible refine (HSp.out _).mono ?_); rintro e w1 ⟨rfl, hb⟩; replace HQ : Below w.heap.size w w1 := bt3 hb HQ; clear hb) | (go_at_call 26; (with_reducible refine (HA0.out _).mono ?_); rintro e w1 ⟨rfl, hb⟩; replace HQ : Below w.heap.size w w1 := bt3 hb HQ; clear hb) | (go_at_call 32; (with_reducible refine (HBe.out _).mono ?_); rintro e w' ⟨rfl, rfl⟩) | (go_at_call 33; (with_reducible refine (HBt.out _).mono ?_); rintro e w' ⟨rfl, rfl⟩) | (go_at_call 28; (with_reducible refine (HF0.out _).mono ?_); rintro e w' ⟨rfl, rfl⟩) | (go_at_call 34; (with_reducible refine (HEx.out _).mono ?_); rintro e w1 ⟨rfl, hb⟩; replace HQ : Below w.heap.size w w1 := bt3 hb HQ; clear hb))); go_ret; exact ⟨rfl, HQ⟩
        · obtain ⟨hp, hf, hcc⟩ := HV.out
          have hnn := bn_no (sm4 x y m) (rFl m (fv x + fv y)) (rfl : bnC x y m = bnC x y m) (by omega)
          rw [hnn.1] at hp
          rw [hnn.2] at hf
          subst hp hf
          have h00 : (FloatKind.f32.format.order 0 0 == some .eq) = true := by decide +kernel
          rw [hcc] at h1
          clear hnn hcc HV hsA hiA HP HFp hsS hiS hiT HFq HPq
          rcases h1 with rfl | rfl
          · (go_wp2_with (first | (go_at_call 12; (with_reducible refine (HSp.out _).mono ?_); rintro e w1 ⟨rfl, hb⟩; replace HQ : Below w.heap.size w w1 := bt3 hb HQ; clear hb) | (go_at_call 26; (with_reducible refine (HA0.out _).mono ?_); rintro e w1 ⟨rfl, hb⟩; replace HQ : Below w.heap.size w w1 := bt3 hb HQ; clear hb) | (go_at_call 32; (with_reducible refine (HBe.out _).mono ?_); rintro e w' ⟨rfl, rfl⟩) | (go_at_call 33; (with_reducible refine (HBt.out _).mono ?_); rintro e w' ⟨rfl, rfl⟩) | (go_at_call 28; (with_reducible refine (HF0.out _).mono ?_); rintro e w' ⟨rfl, rfl⟩) | (go_at_call 34; (with_reducible refine (HEx.out _).mono ?_); rintro e w1 ⟨rfl, hb⟩; replace HQ : Below w.heap.size w w1 := bt3 hb HQ; clear hb))); go_ret; exact ⟨rfl, HQ⟩
          · (go_wp2_with (first | (go_at_call 12; (with_reducible refine (HSp.out _).mono ?_); rintro e w1 ⟨rfl, hb⟩; replace HQ : Below w.heap.size w w1 := bt3 hb HQ; clear hb) | (go_at_call 26; (with_reducible refine (HA0.out _).mono ?_); rintro e w1 ⟨rfl, hb⟩; replace HQ : Below w.heap.size w w1 := bt3 hb HQ; clear hb) | (go_at_call 32; (with_reducible refine (HBe.out _).mono ?_); rintro e w' ⟨rfl, rfl⟩) | (go_at_call 33; (with_reducible refine (HBt.out _).mono ?_); rintro e w' ⟨rfl, rfl⟩) | (go_at_call 28; (with_reducible refine (HF0.out _).mono ?_); rintro e w' ⟨rfl, rfl⟩) | (go_at_call 34; (with_reducible refine (HEx.out _).mono ?_); rintro e w1 ⟨rfl, hb⟩; replace HQ : Below w.heap.size w w1 := bt3 hb HQ; clear hb))); go_ret; exact ⟨rfl, HQ⟩
set_option maxRecDepth 100000 in
theorem SumsE.lifted (os : Os) (started : os.Started) (H : Type) (enc : TypeId × Value → H) :
    ReturnsInHanded {} Tryz.checked os 6 .any (Rows.fnSumsSpec.pre6 enc Tryz.prog Tryz.f6 Rows.fnSumsRow.domain false) (Rows.fnSumsSpec.post enc Tryz.prog Tryz.f6 false true false false) := by
  refine returnsInHanded_of_change (C := Tryz.checked) rowOwn started (by kernel_rfl) Tryz.func6
    (ChangeSpec.witness6 (enc := enc) (C := Tryz.checked) false ⟨#[], #[.slice none 0 0], []⟩ 8 (by kernel_rfl) (by kernel_rfl) (by kernel_rfl) (by kernel_rfl)) ?_
  intro W base args ds gs before hval0 hW hcnd _
  have hval : ∀ (j : Nat) t v, Tryz.f6.params[j]? = some t → args[j]? = some v → Value.okWide Tryz.prog W .any base t v := hval0
  have hW' := hW
  obtain ⟨p, q, hA0, hV, rfl, hfz, hnd⟩ := hW
  have hA : DataW.TrodAll enc Tryz.prog W 0 (fun _ => true) true Tryz.f6.params.toList args.toList ds p := hA0
  rw [Tryz.params6] at hA hval
  obtain ⟨v0, vs0, d0, ds0, p0, q0, hv0, rfl, rfl, h0, r0⟩ := trodAll_cons hA
  obtain ⟨rfl, rfl, rfl⟩ := trodAll_nil r0
  obtain rfl : args = #[v0] := by cases args; simp_all
  obtain ⟨rfl, rfl⟩ := trodVars_none hV
  obtain ⟨A, n, c, xs, rfl, hn, hnc, hcm, hR, hx⟩ := open_by Tryz.underlying46 Tryz.underlying5 (by kernel_rfl) (hval 0 46 v0 rfl rfl) h0
  clear hA0 hval0
  refine (SumsE.walk A n c xs W hn (Nat.le_trans hnc hcm) hR hx).mono fun e W' ⟨he, hg⟩ => ?_
  subst he
  exact ⟨_, rfl, post_law laidOut (by kernel_rfl) (by kernel_rfl) Tryz.underlying4 rfl hW' rfl hg⟩
theorem SumsE.k10 : (Rows.fnSumsRow.inPlace == Tryz.prog.inPlace 6) = true := by kernel_rfl
theorem SumsE.k11 : (Rows.fnSumsRow.unfollowed == Tryz.prog.unfollowed 6) = true := by kernel_rfl
theorem SumsE.k12 : (Rows.fnSumsRow.recurses == Tryz.prog.recurses 6) = true := by kernel_rfl
theorem SumsE.k13 : (Rows.fnSumsRow.named == Tryz.prog.varsNamed 6) = true := by kernel_rfl
theorem SumsE.closed : joinedFacts Tryz.prog 6 Tryz.f6 Rows.fnSumsSpec Rows.fnSumsRow = true := by
  unfold joinedFacts
  simp only [Bool.and_eq_true]
  exact ⟨⟨⟨⟨⟨⟨⟨⟨⟨⟨⟨⟨⟨⟨⟨⟨⟨⟨⟨⟨⟨⟨⟨⟨⟨⟨⟨⟨⟨⟨⟨by kernel_rfl, laidOut⟩, fact_maps⟩, by kernel_rfl⟩, by kernel_rfl⟩, by kernel_rfl⟩, by kernel_rfl⟩, by kernel_rfl⟩, by kernel_rfl⟩, SumsE.k10⟩, SumsE.k11⟩, SumsE.k12⟩, SumsE.k13⟩, by kernel_rfl⟩, by kernel_rfl⟩, by kernel_rfl⟩, by kernel_rfl⟩, by kernel_rfl⟩, by kernel_rfl⟩, by kernel_rfl⟩, by kernel_rfl⟩, by kernel_rfl⟩, by kernel_rfl⟩, by kernel_rfl⟩, fact_stops⟩, fact_enter⟩, lifts_eq rfl⟩, by kernel_rfl⟩, by kernel_rfl⟩, by kernel_rfl⟩, by kernel_rfl⟩, by kernel_rfl⟩
theorem SumsE.holds : Rows.FnSumsSaid :=
  OpenClaim.holds_of_wide 6 Tryz.f6 rfl rfl rfl rfl rfl rfl rfl ⟨rfl, rfl, rfl, rfl, rfl⟩ rfl rfl rfl rfl rfl (by kernel_rfl) Tryz.func6 SumsE.closed
    (of_decide_eq_true (by kernel_rfl)) (by unfold Func.isWrapper; first | (rw [if_pos (by decide +kernel)]; kernel_rfl) | (rw [if_neg (by decide +kernel)]; exact ⟨rfl, rfl⟩))
    (fun os started H enc _ => SumsE.lifted os started H enc)
#print axioms SumsE.holds
end Go.Proofs.YtflgjecpjaiecaaGreat
