/- For every code: the program's sums, products and quotients of pairs answer as the reference's do and are pairs; sums turn round, and a pair and its opposite make 0 (printed by gen_lpairs.py). -/
import Derived.Test.YtflgjecpjaiecaaGreatY5q2
import Derived.Test.YtflgjecpjaiecaaGreatU2q2
import Derived.Test.YtflgjecpjaiecaaGreatQ4q2
import Derived.Test.YtflgjecpjaiecaaGreatGfq2
set_option linter.unusedVariables false
set_option linter.unusedSimpArgs false
namespace Go.Proofs.YtflgjecpjaiecaaGreat
open Go.ChangeShapes Go.WideShapes Go.ChangeAt Go.RowKit Num Flt
theorem MP_pair {a b c d : Nat} (h : MPc a b c d = 0) : prB (MPh a b c d) (MPl a b c d) = true := by
  unfold MPc exC at h
  by_cases hP : (prB a b && prB c d) = true
  · rw [if_pos hP] at h
    cases hK : mpOk a b c d
    · rw [hK] at h; simp at h
    · unfold MPh MPl exV
      rw [hP, hK]
      have h3 := hK
      unfold mpOk at h3
      rw [Bool.and_eq_true] at h3
      have h4 := h3.2
      unfold mpK at h4
      rw [Bool.and_eq_true] at h4
      exact h4.2
  · rw [if_neg hP] at h; omega
theorem DP_pair {a b c d : Nat} (h : DPc a b c d = 0) : prB (DPh a b c d) (DPl a b c d) = true := by
  unfold DPc dxC at h
  by_cases hP : (prB a b && prB c d) = true
  · rw [if_pos hP] at h
    cases hZ : dpZ c
    · rw [hZ, if_neg (by decide)] at h
      cases hK : dpOk a b c d
      · rw [hK] at h; simp at h
      · unfold DPh DPl dxV
        rw [hP, hK, hZ]
        have h3 := hK
        unfold dpOk at h3
        rw [Bool.and_eq_true] at h3
        exact h3.2
    · rw [hZ, if_pos rfl] at h; omega
  · rw [if_neg hP] at h; omega
theorem AP_cases (a b c d : Nat) : (APc a b c d = 1 ∧ APh a b c d = 0 ∧ APl a b c d = 0) ∨ ((APc a b c d = 0 ∨ APc a b c d = 3) ∧ prB a b = true ∧ prB c d = true) := by
  unfold APc APh APl exC exV
  by_cases hP : (prB a b && prB c d) = true
  · right
    rw [if_pos hP]
    rw [Bool.and_eq_true] at hP
    refine ⟨?_, hP⟩
    split <;> simp
  · left
    rw [if_neg hP]
    have h0 : (prB a b && prB c d) = false := by simpa using hP
    rw [h0]; exact ⟨rfl, rfl, rfl⟩
theorem exV_W {P K : Bool} {H : Nat} (h : W H) : W (exV P K H) := by
  unfold exV; split
  · exact h
  · unfold W; decide
theorem AP_W (a b c d : Nat) : W (APh a b c d) ∧ W (APl a b c d) := ⟨exV_W (ap_W a b c d).1, exV_W (ap_W a b c d).2⟩
theorem MP_W (a b c d : Nat) : W (MPh a b c d) ∧ W (MPl a b c d) := ⟨exV_W (addW_W _ _), exV_W (subW_W _ _)⟩
theorem DP_W (a b c d : Nat) : W (DPh a b c d) ∧ W (DPl a b c d) := by
  have h0 : W 0 := by unfold W; decide
  unfold DPh DPl dxV
  constructor
  · split
    · exact addW_W _ _
    · exact h0
  · split
    · exact subW_W _ _
    · exact h0
theorem code_eq (k : Int) : (k == 0) = decide (k = 0) := by
  by_cases h : k = 0
  · subst h; rfl
  · rw [decide_eq_false h]; simpa using h
set_option maxRecDepth 100000 in
set_option maxHeartbeats 40000000 in
theorem PairsE.walk (A : Option Addr) (n c : Nat) (xs : List Nat) (w : World) (hn : n = xs.length) (hl : n ≤ maxLen) (hR : RB w w.heap.size A xs) (hx : ∀ x ∈ xs, x < 256) :
    Calls Tryz.prog 8 #[.slice A n c] w fun e w' => e = .returned (.bool true) ∧ Below w.heap.size w w' := by
  have HB0 := Hd.mk (fun w => l_big A n c w hl)
  by_cases hs : (4096 : Int) < n
  · rw [decide_eq_true hs] at HB0
    clear hs hn hl hR hx
    go_enter Tryz.func8, Tryz.ntmps8
    go_wp2_with (go_at_call 24; (with_reducible refine (HB0.out _).mono ?_); rintro e w' ⟨rfl, rfl⟩)
    go_ret
    exact ⟨rfl, Below.refl _ _⟩
  · rw [decide_eq_false hs] at HB0
    have HC := Hd.mk (code_of hn (by omega) hR hx)
    have HQ := Below.refl w.heap.size w
    clear hs hn hl hR hx
    go_enter Tryz.func8, Tryz.ntmps8
    go_upto_region 4 with (first | (go_at_call 24; (with_reducible refine (HB0.out _).mono ?_); rintro e w' ⟨rfl, rfl⟩) | (go_at_call 43; (with_reducible refine (s_DrawAP A n c xs _ (HC.out.more' HQ)).mono ?_); rintro e w1 ⟨a, b, c', d, rfl, ha, hb', hc', hd, hb⟩; replace HQ : Below w.heap.size w w1 := bt3 hb HQ; skip; have HX := Hd.mk (And.intro ha (And.intro hb' (And.intro hc' hd))); clear hb ha hb' hc' hd))
    have HB : Hd (Blk ((w1.alloc (Obj.cells #[.float .f32 a, .float .f32 b] 30)).alloc (Obj.cells #[.float .f32 c', .float .f32 d] 30)) w1.heap.size 30 #[.float .f32 a, .float .f32 b] ∧ Blk ((w1.alloc (Obj.cells #[.float .f32 a, .float .f32 b] 30)).alloc (Obj.cells #[.float .f32 c', .float .f32 d] 30)) (w1.heap.size + 1) 30 #[.float .f32 c', .float .f32 d]) := ⟨(Blk.new _ _ _).alloc _, by have := Blk.new (w1.alloc (Obj.cells #[.float .f32 a, .float .f32 b] 30)) 30 #[.float .f32 c', .float .f32 d]; simpa using this⟩
    replace HQ : Below w.heap.size w ((w1.alloc (Obj.cells #[.float .f32 a, .float .f32 b] 30)).alloc (Obj.cells #[.float .f32 c', .float .f32 d] 30)) := ba _ (ba _ HQ)
    generalize ((w1.alloc (Obj.cells #[.float .f32 a, .float .f32 b] 30)).alloc (Obj.cells #[.float .f32 c', .float .f32 d] 30)) = W4 at *
    generalize w1.heap.size + 1 = g4 at *
    generalize w1.heap.size = g3 at *
    have c0 : W4.cell? _ = some (.float .f32 a) := HB.out.1.cell 0; have c1 : W4.cell? _ = some (.float .f32 b) := HB.out.1.cell 1; have d0 : W4.cell? _ = some (.float .f32 c') := HB.out.2.cell 0; have d1 : W4.cell? _ = some (.float .f32 d) := HB.out.2.cell 1; have z0 : g3 < W4.heap.size := HB.out.1.lt; have z1 : g4 < W4.heap.size := HB.out.2.lt
    have HI := Hd.mk (fun w => i_AddPairs a b c' d w HX.out.1 HX.out.2.1 HX.out.2.2.1 HX.out.2.2.2)
    have HS := Hd.mk (fun w => s_AddPairs a b c' d w HX.out.1 HX.out.2.1 HX.out.2.2.1 HX.out.2.2.2)
    unfold RetX2 at HI HS
    have hnum := ap_num a b c' d
    have hW := AP_W a b c' d
    have hpr := AP_pair (a := a) (b := b) (c := c') (d := d)
    have hcs := AP_cases a b c' d
    obtain ⟨ee, hee⟩ : ∃ ee, APh a b c' d = ee := ⟨_, rfl⟩
    obtain ⟨ff, hff⟩ : ∃ ff, APl a b c' d = ff := ⟨_, rfl⟩
    obtain ⟨kk, hkk⟩ : ∃ kk, APc a b c' d = kk := ⟨_, rfl⟩
    rw [hee, hff, hkk] at hpr HI HS
    rw [hee, hff] at hnum hW
    have HPP := Hd.mk (And.intro hee (And.intro hff (And.intro hkk (And.intro hnum hW))))
    rw [hee, hff, hkk] at hcs
    clear hee hff hkk
    have HP9 := Hd.mk (fun w => l_pair9 ee ff w hW.1 hW.2 hnum.1 hnum.2)
    have HIP := Hd.mk (fun w => i_IsPair ee ff w hW.1 hW.2)
    go_upto_region 6 with (first | (go_at_call 44; (with_reducible refine (HI.out _).mono ?_); rintro e w2 ⟨rfl, hb⟩; replace HQ : Below w.heap.size w w2 := bt3 hb HQ; replace HB := Hd.mk (And.intro (HB.out.1.below hb HB.out.1.lt) (HB.out.2.below hb HB.out.2.lt)); have c0 : w2.cell? _ = some (.float .f32 a) := HB.out.1.cell 0; have c1 : w2.cell? _ = some (.float .f32 b) := HB.out.1.cell 1; have d0 : w2.cell? _ = some (.float .f32 c') := HB.out.2.cell 0; have d1 : w2.cell? _ = some (.float .f32 d) := HB.out.2.cell 1; have z0 : g3 < w2.heap.size := HB.out.1.lt; have z1 : g4 < w2.heap.size := HB.out.2.lt; skip; clear hb) | (go_at_call 45; (with_reducible refine (HS.out _).mono ?_); rintro e w3 ⟨rfl, hb⟩; have hb2 : Below w2.heap.size w2 w3 := bt3 hb (by (repeat (first | exact Below.refl _ _ | assumption | refine Below.drew ?_ | refine bdn ?_ | refine ba _ ?_ | refine bs0 _ _ ?_ ?_ | refine bs1 _ _ _ ?_ ?_ | refine bs2 _ _ _ _ ?_ ?_ | refine bs3 _ _ _ _ _ ?_ ?_ | refine bt3 (by assumption) ?_))); replace HQ : Below w.heap.size w w3 := bt3 hb2 HQ; replace HB := Hd.mk (And.intro (HB.out.1.below hb2 HB.out.1.lt) (HB.out.2.below hb2 HB.out.2.lt)); have HE := Hd.mk (Blk.below (Blk.new w2 30 #[.float .f32 ee, .float .f32 ff]) hb (by simp)); skip; clear hb hb2))
    replace HE : Hd (Blk (w3.alloc (Obj.cells #[.float .f32 ee, .float .f32 ff] 30)) w2.heap.size 30 #[.float .f32 ee, .float .f32 ff]) := ⟨HE.out.alloc _⟩
    have HD : Hd (Blk (w3.alloc (Obj.cells #[.float .f32 ee, .float .f32 ff] 30)) w3.heap.size 30 #[.float .f32 ee, .float .f32 ff]) := ⟨Blk.new _ _ _⟩
    replace HQ : Below w.heap.size w (w3.alloc (Obj.cells #[.float .f32 ee, .float .f32 ff] 30)) := ba _ HQ
    have HK : Hd (Blk (w3.alloc (Obj.cells #[.float .f32 ee, .float .f32 ff] 30)) g3 30 #[.float .f32 a, .float .f32 b] ∧ Blk (w3.alloc (Obj.cells #[.float .f32 ee, .float .f32 ff] 30)) g4 30 #[.float .f32 c', .float .f32 d] ∧ Blk (w3.alloc (Obj.cells #[.float .f32 ee, .float .f32 ff] 30)) w2.heap.size 30 #[.float .f32 ee, .float .f32 ff]) := ⟨HB.out.1.alloc _, HB.out.2.alloc _, HE.out⟩
    clear HI HS c0 c1 d0 d1 z0 z1 hnum hW
    generalize (w3.alloc (Obj.cells #[.float .f32 ee, .float .f32 ff] 30)) = W6 at *
    generalize w2.heap.size = g5 at *
    generalize w3.heap.size = g7 at *
    have e0 : W6.cell? _ = some (.float .f32 ee) := HE.out.cell 0
    have e1 : W6.cell? _ = some (.float .f32 ff) := HE.out.cell 1
    have f0 : W6.cell? _ = some (.float .f32 ee) := HD.out.cell 0
    have f1 : W6.cell? _ = some (.float .f32 ff) := HD.out.cell 1
    have ez : g5 < W6.heap.size := HE.out.lt
    go_cut [61] (fun s wx => s = .bool false ∧ Below W6.heap.size W6 wx)
    case first =>
      have hk0 := code_eq kk
      by_cases hk : kk = 0
      · rw [hpr hk] at HIP
        rw [decide_eq_true hk] at hk0
        clear hpr hk
        go_wp2_with (first | (go_at_call 46; (with_reducible refine (HP9.out _).mono ?_); rintro e w4 ⟨rfl, hb⟩; have hq4 : Below W6.heap.size W6 w4 := bt3 hb (by (repeat (first | exact Below.refl _ _ | assumption | refine Below.drew ?_ | refine bdn ?_ | refine ba _ ?_ | refine bs0 _ _ ?_ ?_ | refine bs1 _ _ _ ?_ ?_ | refine bs2 _ _ _ _ ?_ ?_ | refine bs3 _ _ _ _ _ ?_ ?_ | refine bt3 (by assumption) ?_))); have e0 : w4.cell? ⟨g5, 0, none⟩ = some (.float .f32 ee) := cb hq4 (by go_simp); have e1 : w4.cell? ⟨g5, 1, none⟩ = some (.float .f32 ff) := cb hq4 (by go_simp); clear hb) | (go_at_call 47; (with_reducible refine (HIP.out _).mono ?_); rintro e w5 ⟨rfl, hb⟩; have hq5 : Below W6.heap.size W6 w5 := bt3 hb (by (repeat (first | exact Below.refl _ _ | assumption | refine Below.drew ?_ | refine bdn ?_ | refine ba _ ?_ | refine bs0 _ _ ?_ ?_ | refine bs1 _ _ _ ?_ ?_ | refine bs2 _ _ _ _ ?_ ?_ | refine bs3 _ _ _ _ _ ?_ ?_ | refine bt3 (by assumption) ?_))); clear hb))
        go_meet
        exact ⟨rfl, by (repeat (first | exact Below.refl _ _ | assumption | refine Below.drew ?_ | refine bdn ?_ | refine ba _ ?_ | refine bs0 _ _ ?_ ?_ | refine bs1 _ _ _ ?_ ?_ | refine bs2 _ _ _ _ ?_ ?_ | refine bs3 _ _ _ _ _ ?_ ?_ | refine bt3 (by assumption) ?_))⟩
      · rw [decide_eq_false hk] at hk0
        clear hpr hk HIP
        go_wp2_with (go_at_call 46; (with_reducible refine (HP9.out _).mono ?_); rintro e w4 ⟨rfl, hb⟩; have hq4 : Below W6.heap.size W6 w4 := bt3 hb (by (repeat (first | exact Below.refl _ _ | assumption | refine Below.drew ?_ | refine bdn ?_ | refine ba _ ?_ | refine bs0 _ _ ?_ ?_ | refine bs1 _ _ _ ?_ ?_ | refine bs2 _ _ _ _ ?_ ?_ | refine bs3 _ _ _ _ _ ?_ ?_ | refine bt3 (by assumption) ?_))); clear hb)
        go_meet
        exact ⟨rfl, by (repeat (first | exact Below.refl _ _ | assumption | refine Below.drew ?_ | refine bdn ?_ | refine ba _ ?_ | refine bs0 _ _ ?_ ?_ | refine bs1 _ _ _ ?_ ?_ | refine bs2 _ _ _ _ ?_ ?_ | refine bs3 _ _ _ _ _ ?_ ?_ | refine bt3 (by assumption) ?_))⟩
    obtain ⟨rfl, hcw⟩ := hcut
    replace HQ : Below w.heap.size w wc := bt3 hcw HQ
    replace HK := Hd.mk (And.intro (HK.out.1.below hcw HK.out.1.lt) (And.intro (HK.out.2.1.below hcw HK.out.2.1.lt) (HK.out.2.2.below hcw HK.out.2.2.lt)))
    clear e0 e1 f0 f1 ez HE HD HB hcw hpr HP9 HIP
    generalize a = pa at *
    generalize b = pb at *
    generalize c' = pc at *
    generalize d = pd at *
    generalize g3 = h3 at *
    generalize g4 = h4 at *
    generalize g5 = h5 at *
    generalize ee = se at *
    generalize ff = sf at *
    generalize kk = sk at *
    have HX1 := HX
    clear HX
    go_upto_region 9 with ((go_at_call 48; (with_reducible refine (s_DrawMP A n c xs _ (HC.out.more' HQ)).mono ?_); rintro e w1 ⟨a, b, c', d, rfl, ha, hb', hc', hd, hb⟩; replace HQ : Below w.heap.size w w1 := bt3 hb HQ; replace HK := Hd.mk (And.intro (HK.out.1.below hb HK.out.1.lt) (And.intro (HK.out.2.1.below hb HK.out.2.1.lt) (HK.out.2.2.below hb HK.out.2.2.lt))); have HX := Hd.mk (And.intro ha (And.intro hb' (And.intro hc' hd))); clear hb ha hb' hc' hd))
    have HB : Hd (Blk ((w1.alloc (Obj.cells #[.float .f32 a, .float .f32 b] 30)).alloc (Obj.cells #[.float .f32 c', .float .f32 d] 30)) w1.heap.size 30 #[.float .f32 a, .float .f32 b] ∧ Blk ((w1.alloc (Obj.cells #[.float .f32 a, .float .f32 b] 30)).alloc (Obj.cells #[.float .f32 c', .float .f32 d] 30)) (w1.heap.size + 1) 30 #[.float .f32 c', .float .f32 d]) := ⟨(Blk.new _ _ _).alloc _, by have := Blk.new (w1.alloc (Obj.cells #[.float .f32 a, .float .f32 b] 30)) 30 #[.float .f32 c', .float .f32 d]; simpa using this⟩
    replace HQ : Below w.heap.size w ((w1.alloc (Obj.cells #[.float .f32 a, .float .f32 b] 30)).alloc (Obj.cells #[.float .f32 c', .float .f32 d] 30)) := ba _ (ba _ HQ)
    replace HK := Hd.mk (And.intro (HK.out.1.below (ba _ (ba _ (Below.refl _ _)) : Below w1.heap.size w1 ((w1.alloc (Obj.cells #[.float .f32 a, .float .f32 b] 30)).alloc (Obj.cells #[.float .f32 c', .float .f32 d] 30))) HK.out.1.lt) (And.intro (HK.out.2.1.below (ba _ (ba _ (Below.refl _ _)) : Below w1.heap.size w1 ((w1.alloc (Obj.cells #[.float .f32 a, .float .f32 b] 30)).alloc (Obj.cells #[.float .f32 c', .float .f32 d] 30))) HK.out.2.1.lt) (HK.out.2.2.below (ba _ (ba _ (Below.refl _ _)) : Below w1.heap.size w1 ((w1.alloc (Obj.cells #[.float .f32 a, .float .f32 b] 30)).alloc (Obj.cells #[.float .f32 c', .float .f32 d] 30))) HK.out.2.2.lt)))
    generalize ((w1.alloc (Obj.cells #[.float .f32 a, .float .f32 b] 30)).alloc (Obj.cells #[.float .f32 c', .float .f32 d] 30)) = W4 at *
    generalize w1.heap.size + 1 = g4 at *
    generalize w1.heap.size = g3 at *
    have c0 : W4.cell? _ = some (.float .f32 a) := HB.out.1.cell 0; have c1 : W4.cell? _ = some (.float .f32 b) := HB.out.1.cell 1; have d0 : W4.cell? _ = some (.float .f32 c') := HB.out.2.cell 0; have d1 : W4.cell? _ = some (.float .f32 d) := HB.out.2.cell 1; have z0 : g3 < W4.heap.size := HB.out.1.lt; have z1 : g4 < W4.heap.size := HB.out.2.lt
    have HI := Hd.mk (fun w => i_MulPairs a b c' d w HX.out.1 HX.out.2.1 HX.out.2.2.1 HX.out.2.2.2)
    have HS := Hd.mk (fun w => s_MulPairs a b c' d w HX.out.1 HX.out.2.1 HX.out.2.2.1 HX.out.2.2.2)
    unfold RetX2 at HI HS
    have hnum := mp_num a b c' d
    have hW := MP_W a b c' d
    have hpr := MP_pair (a := a) (b := b) (c := c') (d := d)
    obtain ⟨ee, hee⟩ : ∃ ee, MPh a b c' d = ee := ⟨_, rfl⟩
    obtain ⟨ff, hff⟩ : ∃ ff, MPl a b c' d = ff := ⟨_, rfl⟩
    obtain ⟨kk, hkk⟩ : ∃ kk, MPc a b c' d = kk := ⟨_, rfl⟩
    rw [hee, hff, hkk] at hpr HI HS
    rw [hee, hff] at hnum hW
    clear hee hff hkk
    have HP9 := Hd.mk (fun w => l_pair9 ee ff w hW.1 hW.2 hnum.1 hnum.2)
    have HIP := Hd.mk (fun w => i_IsPair ee ff w hW.1 hW.2)
    go_upto_region 11 with (first | (go_at_call 49; (with_reducible refine (HI.out _).mono ?_); rintro e w2 ⟨rfl, hb⟩; replace HQ : Below w.heap.size w w2 := bt3 hb HQ; replace HB := Hd.mk (And.intro (HB.out.1.below hb HB.out.1.lt) (HB.out.2.below hb HB.out.2.lt)); have c0 : w2.cell? _ = some (.float .f32 a) := HB.out.1.cell 0; have c1 : w2.cell? _ = some (.float .f32 b) := HB.out.1.cell 1; have d0 : w2.cell? _ = some (.float .f32 c') := HB.out.2.cell 0; have d1 : w2.cell? _ = some (.float .f32 d) := HB.out.2.cell 1; have z0 : g3 < w2.heap.size := HB.out.1.lt; have z1 : g4 < w2.heap.size := HB.out.2.lt; replace HK := Hd.mk (And.intro (HK.out.1.below hb HK.out.1.lt) (And.intro (HK.out.2.1.below hb HK.out.2.1.lt) (HK.out.2.2.below hb HK.out.2.2.lt))); clear hb) | (go_at_call 50; (with_reducible refine (HS.out _).mono ?_); rintro e w3 ⟨rfl, hb⟩; have hb2 : Below w2.heap.size w2 w3 := bt3 hb (by (repeat (first | exact Below.refl _ _ | assumption | refine Below.drew ?_ | refine bdn ?_ | refine ba _ ?_ | refine bs0 _ _ ?_ ?_ | refine bs1 _ _ _ ?_ ?_ | refine bs2 _ _ _ _ ?_ ?_ | refine bs3 _ _ _ _ _ ?_ ?_ | refine bt3 (by assumption) ?_))); replace HQ : Below w.heap.size w w3 := bt3 hb2 HQ; replace HB := Hd.mk (And.intro (HB.out.1.below hb2 HB.out.1.lt) (HB.out.2.below hb2 HB.out.2.lt)); have HE := Hd.mk (Blk.below (Blk.new w2 30 #[.float .f32 ee, .float .f32 ff]) hb (by simp)); replace HK := Hd.mk (And.intro (HK.out.1.below hb2 HK.out.1.lt) (And.intro (HK.out.2.1.below hb2 HK.out.2.1.lt) (HK.out.2.2.below hb2 HK.out.2.2.lt))); clear hb hb2))
    replace HE : Hd (Blk (w3.alloc (Obj.cells #[.float .f32 ee, .float .f32 ff] 30)) w2.heap.size 30 #[.float .f32 ee, .float .f32 ff]) := ⟨HE.out.alloc _⟩
    have HD : Hd (Blk (w3.alloc (Obj.cells #[.float .f32 ee, .float .f32 ff] 30)) w3.heap.size 30 #[.float .f32 ee, .float .f32 ff]) := ⟨Blk.new _ _ _⟩
    replace HQ : Below w.heap.size w (w3.alloc (Obj.cells #[.float .f32 ee, .float .f32 ff] 30)) := ba _ HQ
    replace HK := Hd.mk (And.intro (HK.out.1.below (ba _ (Below.refl _ _) : Below w3.heap.size w3 (w3.alloc (Obj.cells #[.float .f32 ee, .float .f32 ff] 30))) HK.out.1.lt) (And.intro (HK.out.2.1.below (ba _ (Below.refl _ _) : Below w3.heap.size w3 (w3.alloc (Obj.cells #[.float .f32 ee, .float .f32 ff] 30))) HK.out.2.1.lt) (HK.out.2.2.below (ba _ (Below.refl _ _) : Below w3.heap.size w3 (w3.alloc (Obj.cells #[.float .f32 ee, .float .f32 ff] 30))) HK.out.2.2.lt)))
    clear HI HS c0 c1 d0 d1 z0 z1 hnum hW
    generalize (w3.alloc (Obj.cells #[.float .f32 ee, .float .f32 ff] 30)) = W6 at *
    generalize w2.heap.size = g5 at *
    generalize w3.heap.size = g7 at *
    have e0 : W6.cell? _ = some (.float .f32 ee) := HE.out.cell 0
    have e1 : W6.cell? _ = some (.float .f32 ff) := HE.out.cell 1
    have f0 : W6.cell? _ = some (.float .f32 ee) := HD.out.cell 0
    have f1 : W6.cell? _ = some (.float .f32 ff) := HD.out.cell 1
    have ez : g5 < W6.heap.size := HE.out.lt
    go_cut [96] (fun s wx => s = .bool false ∧ Below W6.heap.size W6 wx)
    case first =>
      have hk0 := code_eq kk
      by_cases hk : kk = 0
      · rw [hpr hk] at HIP
        rw [decide_eq_true hk] at hk0
        clear hpr hk
        go_wp2_with (first | (go_at_call 46; (with_reducible refine (HP9.out _).mono ?_); rintro e w4 ⟨rfl, hb⟩; have hq4 : Below W6.heap.size W6 w4 := bt3 hb (by (repeat (first | exact Below.refl _ _ | assumption | refine Below.drew ?_ | refine bdn ?_ | refine ba _ ?_ | refine bs0 _ _ ?_ ?_ | refine bs1 _ _ _ ?_ ?_ | refine bs2 _ _ _ _ ?_ ?_ | refine bs3 _ _ _ _ _ ?_ ?_ | refine bt3 (by assumption) ?_))); have e0 : w4.cell? ⟨g5, 0, none⟩ = some (.float .f32 ee) := cb hq4 (by go_simp); have e1 : w4.cell? ⟨g5, 1, none⟩ = some (.float .f32 ff) := cb hq4 (by go_simp); clear hb) | (go_at_call 47; (with_reducible refine (HIP.out _).mono ?_); rintro e w5 ⟨rfl, hb⟩; have hq5 : Below W6.heap.size W6 w5 := bt3 hb (by (repeat (first | exact Below.refl _ _ | assumption | refine Below.drew ?_ | refine bdn ?_ | refine ba _ ?_ | refine bs0 _ _ ?_ ?_ | refine bs1 _ _ _ ?_ ?_ | refine bs2 _ _ _ _ ?_ ?_ | refine bs3 _ _ _ _ _ ?_ ?_ | refine bt3 (by assumption) ?_))); clear hb))
        go_meet
        exact ⟨rfl, by (repeat (first | exact Below.refl _ _ | assumption | refine Below.drew ?_ | refine bdn ?_ | refine ba _ ?_ | refine bs0 _ _ ?_ ?_ | refine bs1 _ _ _ ?_ ?_ | refine bs2 _ _ _ _ ?_ ?_ | refine bs3 _ _ _ _ _ ?_ ?_ | refine bt3 (by assumption) ?_))⟩
      · rw [decide_eq_false hk] at hk0
        clear hpr hk HIP
        go_wp2_with (go_at_call 46; (with_reducible refine (HP9.out _).mono ?_); rintro e w4 ⟨rfl, hb⟩; have hq4 : Below W6.heap.size W6 w4 := bt3 hb (by (repeat (first | exact Below.refl _ _ | assumption | refine Below.drew ?_ | refine bdn ?_ | refine ba _ ?_ | refine bs0 _ _ ?_ ?_ | refine bs1 _ _ _ ?_ ?_ | refine bs2 _ _ _ _ ?_ ?_ | refine bs3 _ _ _ _ _ ?_ ?_ | refine bt3 (by assumption) ?_))); clear hb)
        go_meet
        exact ⟨rfl, by (repeat (first | exact Below.refl _ _ | assumption | refine Below.drew ?_ | refine bdn ?_ | refine ba _ ?_ | refine bs0 _ _ ?_ ?_ | refine bs1 _ _ _ ?_ ?_ | refine bs2 _ _ _ _ ?_ ?_ | refine bs3 _ _ _ _ _ ?_ ?_ | refine bt3 (by assumption) ?_))⟩
    obtain ⟨rfl, hcw⟩ := hcut
    replace HQ : Below w.heap.size w wc := bt3 hcw HQ
    replace HK := Hd.mk (And.intro (HK.out.1.below hcw HK.out.1.lt) (And.intro (HK.out.2.1.below hcw HK.out.2.1.lt) (HK.out.2.2.below hcw HK.out.2.2.lt)))
    clear e0 e1 f0 f1 ez HE HD HB hcw hpr HP9 HIP HX
    go_upto_region 14 with ((go_at_call 51; (with_reducible refine (s_DrawDP A n c xs _ (HC.out.more' HQ)).mono ?_); rintro e w1 ⟨a, b, c', d, rfl, ha, hb', hc', hd, hb⟩; replace HQ : Below w.heap.size w w1 := bt3 hb HQ; replace HK := Hd.mk (And.intro (HK.out.1.below hb HK.out.1.lt) (And.intro (HK.out.2.1.below hb HK.out.2.1.lt) (HK.out.2.2.below hb HK.out.2.2.lt))); have HX := Hd.mk (And.intro ha (And.intro hb' (And.intro hc' hd))); clear hb ha hb' hc' hd))
    have HB : Hd (Blk ((w1.alloc (Obj.cells #[.float .f32 a, .float .f32 b] 30)).alloc (Obj.cells #[.float .f32 c', .float .f32 d] 30)) w1.heap.size 30 #[.float .f32 a, .float .f32 b] ∧ Blk ((w1.alloc (Obj.cells #[.float .f32 a, .float .f32 b] 30)).alloc (Obj.cells #[.float .f32 c', .float .f32 d] 30)) (w1.heap.size + 1) 30 #[.float .f32 c', .float .f32 d]) := ⟨(Blk.new _ _ _).alloc _, by have := Blk.new (w1.alloc (Obj.cells #[.float .f32 a, .float .f32 b] 30)) 30 #[.float .f32 c', .float .f32 d]; simpa using this⟩
    replace HQ : Below w.heap.size w ((w1.alloc (Obj.cells #[.float .f32 a, .float .f32 b] 30)).alloc (Obj.cells #[.float .f32 c', .float .f32 d] 30)) := ba _ (ba _ HQ)
    replace HK := Hd.mk (And.intro (HK.out.1.below (ba _ (ba _ (Below.refl _ _)) : Below w1.heap.size w1 ((w1.alloc (Obj.cells #[.float .f32 a, .float .f32 b] 30)).alloc (Obj.cells #[.float .f32 c', .float .f32 d] 30))) HK.out.1.lt) (And.intro (HK.out.2.1.below (ba _ (ba _ (Below.refl _ _)) : Below w1.heap.size w1 ((w1.alloc (Obj.cells #[.float .f32 a, .float .f32 b] 30)).alloc (Obj.cells #[.float .f32 c', .float .f32 d] 30))) HK.out.2.1.lt) (HK.out.2.2.below (ba _ (ba _ (Below.refl _ _)) : Below w1.heap.size w1 ((w1.alloc (Obj.cells #[.float .f32 a, .float .f32 b] 30)).alloc (Obj.cells #[.float .f32 c', .float .f32 d] 30))) HK.out.2.2.lt)))
    generalize ((w1.alloc (Obj.cells #[.float .f32 a, .float .f32 b] 30)).alloc (Obj.cells #[.float .f32 c', .float .f32 d] 30)) = W4 at *
    generalize w1.heap.size + 1 = g4 at *
    generalize w1.heap.size = g3 at *
    have c0 : W4.cell? _ = some (.float .f32 a) := HB.out.1.cell 0; have c1 : W4.cell? _ = some (.float .f32 b) := HB.out.1.cell 1; have d0 : W4.cell? _ = some (.float .f32 c') := HB.out.2.cell 0; have d1 : W4.cell? _ = some (.float .f32 d) := HB.out.2.cell 1; have z0 : g3 < W4.heap.size := HB.out.1.lt; have z1 : g4 < W4.heap.size := HB.out.2.lt
    have HI := Hd.mk (fun w => i_DivPairs a b c' d w HX.out.1 HX.out.2.1 HX.out.2.2.1 HX.out.2.2.2)
    have HS := Hd.mk (fun w => s_DivPairs a b c' d w HX.out.1 HX.out.2.1 HX.out.2.2.1 HX.out.2.2.2)
    unfold RetX2 at HI HS
    have hnum := dp_num a b c' d
    have hW := DP_W a b c' d
    have hpr := DP_pair (a := a) (b := b) (c := c') (d := d)
    obtain ⟨ee, hee⟩ : ∃ ee, DPh a b c' d = ee := ⟨_, rfl⟩
    obtain ⟨ff, hff⟩ : ∃ ff, DPl a b c' d = ff := ⟨_, rfl⟩
    obtain ⟨kk, hkk⟩ : ∃ kk, DPc a b c' d = kk := ⟨_, rfl⟩
    rw [hee, hff, hkk] at hpr HI HS
    rw [hee, hff] at hnum hW
    clear hee hff hkk
    have HP9 := Hd.mk (fun w => l_pair9 ee ff w hW.1 hW.2 hnum.1 hnum.2)
    have HIP := Hd.mk (fun w => i_IsPair ee ff w hW.1 hW.2)
    go_upto_region 16 with (first | (go_at_call 16; (with_reducible refine (HI.out _).mono ?_); rintro e w2 ⟨rfl, hb⟩; replace HQ : Below w.heap.size w w2 := bt3 hb HQ; replace HB := Hd.mk (And.intro (HB.out.1.below hb HB.out.1.lt) (HB.out.2.below hb HB.out.2.lt)); have c0 : w2.cell? _ = some (.float .f32 a) := HB.out.1.cell 0; have c1 : w2.cell? _ = some (.float .f32 b) := HB.out.1.cell 1; have d0 : w2.cell? _ = some (.float .f32 c') := HB.out.2.cell 0; have d1 : w2.cell? _ = some (.float .f32 d) := HB.out.2.cell 1; have z0 : g3 < w2.heap.size := HB.out.1.lt; have z1 : g4 < w2.heap.size := HB.out.2.lt; replace HK := Hd.mk (And.intro (HK.out.1.below hb HK.out.1.lt) (And.intro (HK.out.2.1.below hb HK.out.2.1.lt) (HK.out.2.2.below hb HK.out.2.2.lt))); clear hb) | (go_at_call 14; (with_reducible refine (HS.out _).mono ?_); rintro e w3 ⟨rfl, hb⟩; have hb2 : Below w2.heap.size w2 w3 := bt3 hb (by (repeat (first | exact Below.refl _ _ | assumption | refine Below.drew ?_ | refine bdn ?_ | refine ba _ ?_ | refine bs0 _ _ ?_ ?_ | refine bs1 _ _ _ ?_ ?_ | refine bs2 _ _ _ _ ?_ ?_ | refine bs3 _ _ _ _ _ ?_ ?_ | refine bt3 (by assumption) ?_))); replace HQ : Below w.heap.size w w3 := bt3 hb2 HQ; replace HB := Hd.mk (And.intro (HB.out.1.below hb2 HB.out.1.lt) (HB.out.2.below hb2 HB.out.2.lt)); have HE := Hd.mk (Blk.below (Blk.new w2 30 #[.float .f32 ee, .float .f32 ff]) hb (by simp)); replace HK := Hd.mk (And.intro (HK.out.1.below hb2 HK.out.1.lt) (And.intro (HK.out.2.1.below hb2 HK.out.2.1.lt) (HK.out.2.2.below hb2 HK.out.2.2.lt))); clear hb hb2))
    replace HE : Hd (Blk (w3.alloc (Obj.cells #[.float .f32 ee, .float .f32 ff] 30)) w2.heap.size 30 #[.float .f32 ee, .float .f32 ff]) := ⟨HE.out.alloc _⟩
    have HD : Hd (Blk (w3.alloc (Obj.cells #[.float .f32 ee, .float .f32 ff] 30)) w3.heap.size 30 #[.float .f32 ee, .float .f32 ff]) := ⟨Blk.new _ _ _⟩
    replace HQ : Below w.heap.size w (w3.alloc (Obj.cells #[.float .f32 ee, .float .f32 ff] 30)) := ba _ HQ
    replace HK := Hd.mk (And.intro (HK.out.1.below (ba _ (Below.refl _ _) : Below w3.heap.size w3 (w3.alloc (Obj.cells #[.float .f32 ee, .float .f32 ff] 30))) HK.out.1.lt) (And.intro (HK.out.2.1.below (ba _ (Below.refl _ _) : Below w3.heap.size w3 (w3.alloc (Obj.cells #[.float .f32 ee, .float .f32 ff] 30))) HK.out.2.1.lt) (HK.out.2.2.below (ba _ (Below.refl _ _) : Below w3.heap.size w3 (w3.alloc (Obj.cells #[.float .f32 ee, .float .f32 ff] 30))) HK.out.2.2.lt)))
    clear HI HS c0 c1 d0 d1 z0 z1 hnum hW
    generalize (w3.alloc (Obj.cells #[.float .f32 ee, .float .f32 ff] 30)) = W6 at *
    generalize w2.heap.size = g5 at *
    generalize w3.heap.size = g7 at *
    have e0 : W6.cell? _ = some (.float .f32 ee) := HE.out.cell 0
    have e1 : W6.cell? _ = some (.float .f32 ff) := HE.out.cell 1
    have f0 : W6.cell? _ = some (.float .f32 ee) := HD.out.cell 0
    have f1 : W6.cell? _ = some (.float .f32 ff) := HD.out.cell 1
    have ez : g5 < W6.heap.size := HE.out.lt
    go_cut [131] (fun s wx => s = .bool false ∧ Below W6.heap.size W6 wx)
    case first =>
      have hk0 := code_eq kk
      by_cases hk : kk = 0
      · rw [hpr hk] at HIP
        rw [decide_eq_true hk] at hk0
        clear hpr hk
        go_wp2_with (first | (go_at_call 46; (with_reducible refine (HP9.out _).mono ?_); rintro e w4 ⟨rfl, hb⟩; have hq4 : Below W6.heap.size W6 w4 := bt3 hb (by (repeat (first | exact Below.refl _ _ | assumption | refine Below.drew ?_ | refine bdn ?_ | refine ba _ ?_ | refine bs0 _ _ ?_ ?_ | refine bs1 _ _ _ ?_ ?_ | refine bs2 _ _ _ _ ?_ ?_ | refine bs3 _ _ _ _ _ ?_ ?_ | refine bt3 (by assumption) ?_))); have e0 : w4.cell? ⟨g5, 0, none⟩ = some (.float .f32 ee) := cb hq4 (by go_simp); have e1 : w4.cell? ⟨g5, 1, none⟩ = some (.float .f32 ff) := cb hq4 (by go_simp); clear hb) | (go_at_call 47; (with_reducible refine (HIP.out _).mono ?_); rintro e w5 ⟨rfl, hb⟩; have hq5 : Below W6.heap.size W6 w5 := bt3 hb (by (repeat (first | exact Below.refl _ _ | assumption | refine Below.drew ?_ | refine bdn ?_ | refine ba _ ?_ | refine bs0 _ _ ?_ ?_ | refine bs1 _ _ _ ?_ ?_ | refine bs2 _ _ _ _ ?_ ?_ | refine bs3 _ _ _ _ _ ?_ ?_ | refine bt3 (by assumption) ?_))); clear hb))
        go_meet
        exact ⟨rfl, by (repeat (first | exact Below.refl _ _ | assumption | refine Below.drew ?_ | refine bdn ?_ | refine ba _ ?_ | refine bs0 _ _ ?_ ?_ | refine bs1 _ _ _ ?_ ?_ | refine bs2 _ _ _ _ ?_ ?_ | refine bs3 _ _ _ _ _ ?_ ?_ | refine bt3 (by assumption) ?_))⟩
      · rw [decide_eq_false hk] at hk0
        clear hpr hk HIP
        go_wp2_with (go_at_call 46; (with_reducible refine (HP9.out _).mono ?_); rintro e w4 ⟨rfl, hb⟩; have hq4 : Below W6.heap.size W6 w4 := bt3 hb (by (repeat (first | exact Below.refl _ _ | assumption | refine Below.drew ?_ | refine bdn ?_ | refine ba _ ?_ | refine bs0 _ _ ?_ ?_ | refine bs1 _ _ _ ?_ ?_ | refine bs2 _ _ _ _ ?_ ?_ | refine bs3 _ _ _ _ _ ?_ ?_ | refine bt3 (by assumption) ?_))); clear hb)
        go_meet
        exact ⟨rfl, by (repeat (first | exact Below.refl _ _ | assumption | refine Below.drew ?_ | refine bdn ?_ | refine ba _ ?_ | refine bs0 _ _ ?_ ?_ | refine bs1 _ _ _ ?_ ?_ | refine bs2 _ _ _ _ ?_ ?_ | refine bs3 _ _ _ _ _ ?_ ?_ | refine bt3 (by assumption) ?_))⟩
    obtain ⟨rfl, hcw⟩ := hcut
    replace HQ : Below w.heap.size w wc := bt3 hcw HQ
    replace HK := Hd.mk (And.intro (HK.out.1.below hcw HK.out.1.lt) (And.intro (HK.out.2.1.below hcw HK.out.2.1.lt) (HK.out.2.2.below hcw HK.out.2.2.lt)))
    clear e0 e1 f0 f1 ez HE HD HB hcw hpr HP9 HIP HX
    have c0 : wc.cell? _ = some (.float .f32 pa) := HK.out.1.cell 0
    have c1 : wc.cell? _ = some (.float .f32 pb) := HK.out.1.cell 1
    have d0 : wc.cell? _ = some (.float .f32 pc) := HK.out.2.1.cell 0
    have d1 : wc.cell? _ = some (.float .f32 pd) := HK.out.2.1.cell 1
    have e0 : wc.cell? _ = some (.float .f32 se) := HK.out.2.2.cell 0
    have e1 : wc.cell? _ = some (.float .f32 sf) := HK.out.2.2.cell 1
    have h00 : (FloatKind.f32.format.order 0 0 == some .eq) = true := by decide +kernel
    have w0 : W 0 ∧ ¬ nan 0 := ⟨by unfold W; decide, by decide⟩
    have H9 := Hd.mk (fun w => l_pair9 0 0 w w0.1 w0.1 w0.2 w0.2)
    clear w0
    rcases hcs with ⟨rfl, rfl, rfl⟩ | ⟨hk, hp1, hp2⟩
    · go_wp2_with (go_at_call 46; (with_reducible refine (H9.out _).mono ?_); rintro e w2 ⟨rfl, hb⟩; replace HQ : Below w.heap.size w w2 := bt3 hb HQ; clear hb)
      go_ret
      exact ⟨rfl, HQ⟩
    · have hcm := AP_comm hp1 hp2
      have hop := AP_opp HX1.out.1 HX1.out.2.1 hp1
      have HI2 := Hd.mk (fun w => i_AddPairs pc pd pa pb w HX1.out.2.2.1 HX1.out.2.2.2 HX1.out.1 HX1.out.2.1)
      have HI3 := Hd.mk (fun w => i_AddPairs pa pb (ng pa) (ng pb) w HX1.out.1 HX1.out.2.1 (W_ng HX1.out.1) (W_ng HX1.out.2.1))
      unfold RetX2 at HI2 HI3
      rw [hcm.1, hcm.2.1, hcm.2.2, HPP.out.1, HPP.out.2.1, HPP.out.2.2.1] at HI2
      rw [hop.1, hop.2.1, hop.2.2] at HI3
      have km1 := fun w => run_float_arith (P := Tryz.prog) w .mul 22 .f32 pa 3212836864 (ng pa) (f_turn pa HX1.out.1 (nan_fin (prB_fin hp1).1))
      have km2 := fun w => run_float_arith (P := Tryz.prog) w .mul 22 .f32 pb 3212836864 (ng pb) (f_turn pb HX1.out.2.1 (nan_fin (prB_fin hp1).2))
      have ne1 : (FloatKind.f32.format.order se se != some .eq) = false := by rw [o_ne]; simp [HPP.out.2.2.2.1.1]
      have ne2 : (FloatKind.f32.format.order sf sf != some .eq) = false := by rw [o_ne]; simp [HPP.out.2.2.2.1.2]
      have z3 : h3 < wc.heap.size := HK.out.1.lt
      have z4 : h4 < wc.heap.size := HK.out.2.1.lt
      have z5 : h5 < wc.heap.size := HK.out.2.2.lt
      clear hcm hop hp1 hp2 HPP
      rcases hk with rfl | rfl
      all_goals
        go_wp2_with (first | (go_at_call 44; (with_reducible refine (HI2.out _).mono ?_); rintro e w2 ⟨rfl, hb⟩; have hb2 : Below wc.heap.size wc w2 := bt3 hb (by (repeat (first | exact Below.refl _ _ | assumption | refine Below.drew ?_ | refine bdn ?_ | refine ba _ ?_ | refine bs0 _ _ ?_ ?_ | refine bs1 _ _ _ ?_ ?_ | refine bs2 _ _ _ _ ?_ ?_ | refine bs3 _ _ _ _ _ ?_ ?_ | refine bt3 (by assumption) ?_))); replace HQ : Below w.heap.size w w2 := bt3 hb2 HQ; have x0 : w2.cell? ⟨h3, 0, none⟩ = some (.float .f32 pa) := cb hb2 c0; have x1 : w2.cell? ⟨h3, 1, none⟩ = some (.float .f32 pb) := cb hb2 c1; have y0 : w2.cell? ⟨h5, 0, none⟩ = some (.float .f32 se) := cb hb2 e0; have y1 : w2.cell? ⟨h5, 1, none⟩ = some (.float .f32 sf) := cb hb2 e1; have q3 : h3 < w2.heap.size := Nat.lt_of_lt_of_le z3 hb2.size; have q5 : h5 < w2.heap.size := Nat.lt_of_lt_of_le z5 hb2.size; clear hb hb2) | (go_at_call 44; (with_reducible refine (HI3.out _).mono ?_); rintro e w3 ⟨rfl, hb⟩; replace HQ : Below w.heap.size w w3 := bt3 hb (by (repeat (first | exact Below.refl _ _ | assumption | refine Below.drew ?_ | refine bdn ?_ | refine ba _ ?_ | refine bs0 _ _ ?_ ?_ | refine bs1 _ _ _ ?_ ?_ | refine bs2 _ _ _ _ ?_ ?_ | refine bs3 _ _ _ _ _ ?_ ?_ | refine bt3 (by assumption) ?_))); clear hb))
        go_ret
        exact ⟨rfl, by (repeat (first | exact Below.refl _ _ | assumption | refine Below.drew ?_ | refine bdn ?_ | refine ba _ ?_ | refine bs0 _ _ ?_ ?_ | refine bs1 _ _ _ ?_ ?_ | refine bs2 _ _ _ _ ?_ ?_ | refine bs3 _ _ _ _ _ ?_ ?_ | refine bt3 (by assumption) ?_))⟩
set_option maxRecDepth 100000 in
theorem PairsE.lifted (os : Os) (started : os.Started) (H : Type) (enc : TypeId × Value → H) :
    ReturnsInHanded {} Tryz.checked os 8 .any (Rows.fnPairArithmeticSpec.pre6 enc Tryz.prog Tryz.f8 Rows.fnPairArithmeticRow.domain false) (Rows.fnPairArithmeticSpec.post enc Tryz.prog Tryz.f8 false true false false) := by
  refine returnsInHanded_of_change (C := Tryz.checked) rowOwn started (by kernel_rfl) Tryz.func8
    (ChangeSpec.witness6 (enc := enc) (C := Tryz.checked) false ⟨#[], #[.slice none 0 0], []⟩ 8 (by kernel_rfl) (by kernel_rfl) (by kernel_rfl) (by kernel_rfl)) ?_
  intro W base args ds gs before hval0 hW hcnd _
  have hval : ∀ (j : Nat) t v, Tryz.f8.params[j]? = some t → args[j]? = some v → Value.okWide Tryz.prog W .any base t v := hval0
  have hW' := hW
  obtain ⟨p, q, hA0, hV, rfl, hfz, hnd⟩ := hW
  have hA : DataW.TrodAll enc Tryz.prog W 0 (fun _ => true) true Tryz.f8.params.toList args.toList ds p := hA0
  rw [Tryz.params8] at hA hval
  obtain ⟨v0, vs0, d0, ds0, p0, q0, hv0, rfl, rfl, h0, r0⟩ := trodAll_cons hA
  obtain ⟨rfl, rfl, rfl⟩ := trodAll_nil r0
  obtain rfl : args = #[v0] := by cases args; simp_all
  obtain ⟨rfl, rfl⟩ := trodVars_none hV
  obtain ⟨A, n, c, xs, rfl, hn, hnc, hcm, hR, hx⟩ := open_by Tryz.underlying46 Tryz.underlying5 (by kernel_rfl) (hval 0 46 v0 rfl rfl) h0
  clear hA0 hval0
  refine (PairsE.walk A n c xs W hn (Nat.le_trans hnc hcm) hR hx).mono fun e W' ⟨he, hg⟩ => ?_
  subst he
  exact ⟨_, rfl, post_law laidOut (by kernel_rfl) (by kernel_rfl) Tryz.underlying4 rfl hW' rfl hg⟩
theorem PairsE.k10 : (Rows.fnPairArithmeticRow.inPlace == Tryz.prog.inPlace 8) = true := by kernel_rfl
theorem PairsE.k11 : (Rows.fnPairArithmeticRow.unfollowed == Tryz.prog.unfollowed 8) = true := by kernel_rfl
theorem PairsE.k12 : (Rows.fnPairArithmeticRow.recurses == Tryz.prog.recurses 8) = true := by kernel_rfl
theorem PairsE.k13 : (Rows.fnPairArithmeticRow.named == Tryz.prog.varsNamed 8) = true := by kernel_rfl
theorem PairsE.closed : joinedFacts Tryz.prog 8 Tryz.f8 Rows.fnPairArithmeticSpec Rows.fnPairArithmeticRow = true := by
  unfold joinedFacts
  simp only [Bool.and_eq_true]
  exact ⟨⟨⟨⟨⟨⟨⟨⟨⟨⟨⟨⟨⟨⟨⟨⟨⟨⟨⟨⟨⟨⟨⟨⟨⟨⟨⟨⟨⟨⟨⟨by kernel_rfl, laidOut⟩, fact_maps⟩, by kernel_rfl⟩, by kernel_rfl⟩, by kernel_rfl⟩, by kernel_rfl⟩, by kernel_rfl⟩, by kernel_rfl⟩, PairsE.k10⟩, PairsE.k11⟩, PairsE.k12⟩, PairsE.k13⟩, by kernel_rfl⟩, by kernel_rfl⟩, by kernel_rfl⟩, by kernel_rfl⟩, by kernel_rfl⟩, by kernel_rfl⟩, by kernel_rfl⟩, by kernel_rfl⟩, by kernel_rfl⟩, by kernel_rfl⟩, by kernel_rfl⟩, fact_stops⟩, fact_enter⟩, lifts_eq rfl⟩, by kernel_rfl⟩, by kernel_rfl⟩, by kernel_rfl⟩, by kernel_rfl⟩, by kernel_rfl⟩
theorem PairsE.holds : Rows.FnPairArithmeticSaid :=
  OpenClaim.holds_of_wide 8 Tryz.f8 rfl rfl rfl rfl rfl rfl rfl ⟨rfl, rfl, rfl, rfl, rfl⟩ rfl rfl rfl rfl rfl (by kernel_rfl) Tryz.func8 PairsE.closed
    (of_decide_eq_true (by kernel_rfl)) (by unfold Func.isWrapper; first | (rw [if_pos (by decide +kernel)]; kernel_rfl) | (rw [if_neg (by decide +kernel)]; exact ⟨rfl, rfl⟩))
    (fun os started H enc _ => PairsE.lifted os started H enc)
#print axioms PairsE.holds
end Go.Proofs.YtflgjecpjaiecaaGreat
