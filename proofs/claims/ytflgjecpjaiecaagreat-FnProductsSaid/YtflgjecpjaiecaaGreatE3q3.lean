/- Contracts: SpreadOf, both sides. -/
import Derived.Test.YtflgjecpjaiecaaGreatE2q3
import Derived.Test.YtflgjecpjaiecaaGreatGzq3
set_option linter.unusedVariables false
set_option linter.unusedSimpArgs false
namespace Go.Proofs.YtflgjecpjaiecaaGreat
open Go.RowKit Num Flt
/-- an operation of two floats by its number -/
def kdF (x y : Nat) (kind mode : Int) : Nat := if kind = 0 then sm4 x y mode else if kind = 1 then sm4 x (ng y) mode else if kind = 2 then mlF x y mode else dvF x y mode
def spC (x y : Nat) (kind : Int) : Int := if fin x ∧ fin y then (if 0 ≤ kind ∧ kind ≤ 3 then (if kind = 3 ∧ zr y then 5 else 0) else 2) else 1
def spF (x y : Nat) (kind mode : Int) : Nat := if spC x y kind = 0 then kdF x y kind mode else 0
theorem sm4_num (x y : Nat) (mode : Int) : ¬ nan (sm4 x y mode) := by
  unfold sm4 sum4
  split
  · split
    · exact (szF_num _).2
    · exact (szF_num _).2
  · exact (rF_num _ _).2
theorem kdF_num (x y : Nat) (kind mode : Int) : ¬ nan (kdF x y kind mode) := by
  unfold kdF
  split
  · exact sm4_num _ _ _
  · split
    · exact sm4_num _ _ _
    · split
      · unfold mlF
        split
        · exact (szF_num _).2
        · exact (rF_num _ _).2
      · unfold dvF
        split
        · exact (szF_num _).2
        · exact (rF_num _ _).2
theorem spF_num (x y : Nat) (kind mode : Int) : ¬ nan (spF x y kind mode) := by
  unfold spF
  split
  · exact kdF_num _ _ _ _
  · decide
theorem spF_no {x y : Nat} {kind mode c : Int} (h : spC x y kind = c) (hc : c ≠ 0) : spF x y kind mode = 0 := by unfold spF; rw [h, if_neg hc]
theorem spF_yes {x y : Nat} {kind mode : Int} (h : spC x y kind = 0) : spF x y kind mode = kdF x y kind mode := by unfold spF; rw [if_pos h]
theorem kind_cases {kind : Int} (h : 0 ≤ kind ∧ kind ≤ 3) : kind = 0 ∨ kind = 1 ∨ kind = 2 ∨ kind = 3 := by omega
set_option maxHeartbeats 4000000 in
theorem s_Kind0 (x y : Nat) (mode : Int) (w : World) (hx : W x) (hy : W y) (fx : fin x) (fy : fin y) (hmd : 0 ≤ mode ∧ mode ≤ 4)  : Calls Tryz.prog 87 #[.float .f32 x, .float .f32 y, .int .i64 0, .int .i64 mode] w (RetV (.float .f32 (kdF x y 0 mode)) w) := by
  have HC := Hd.mk (fun w => s_AddF x y mode w hx hy fx fy hmd)
  show Calls Tryz.prog 87 #[.float .f32 x, .float .f32 y, .int .i64 0, .int .i64 mode] w (RetV (.float .f32 (sm4 x y mode)) w)
  clear hx hy fx fy hmd
  go_enter Tryz.func87, Tryz.ntmps87
  go_wp2_with (go_at_call 103; (with_reducible refine (HC.out _).mono ?_); rintro e w' ⟨rfl, hb⟩; (try replace hb := bt3 hb (by assumption)); obtain ⟨hc, hf, hz, hy⟩ := bcell hb; have hs := hb.size; (try simp at hs); (try have h0 : w.heap.size < w'.heap.size := by omega); (try have h1 : w.heap.size + 1 < w'.heap.size := by omega); (try have h2 : w.heap.size + 1 + 1 < w'.heap.size := by omega); (try have h3 : w.heap.size + 1 + 1 + 1 < w'.heap.size := by omega); clear hs)
  go_ret
  exact ⟨rfl, by (repeat (first | exact Below.refl _ _ | assumption | refine Below.drew ?_ | refine bdn ?_ | refine ba _ ?_ | refine bs0 _ _ ?_ ?_ | refine bs1 _ _ _ ?_ ?_ | refine bs2 _ _ _ _ ?_ ?_ | refine bs3 _ _ _ _ _ ?_ ?_ | refine bt3 (by assumption) ?_))⟩
set_option maxHeartbeats 4000000 in
theorem s_Kind1 (x y : Nat) (mode : Int) (w : World) (hx : W x) (hy : W y) (fx : fin x) (fy : fin y) (hmd : 0 ≤ mode ∧ mode ≤ 4)  : Calls Tryz.prog 87 #[.float .f32 x, .float .f32 y, .int .i64 1, .int .i64 mode] w (RetV (.float .f32 (kdF x y 1 mode)) w) := by
  have HC := Hd.mk (fun w => s_AddF x (ng y) mode w hx (W_ng hy) fx (fin_ng hy fy) hmd)
  have HX := Hd.mk (And.intro hy (nan_fin fy))
  show Calls Tryz.prog 87 #[.float .f32 x, .float .f32 y, .int .i64 1, .int .i64 mode] w (RetV (.float .f32 (sm4 x (ng y) mode)) w)
  clear hx hy fx fy hmd
  go_enter Tryz.func87, Tryz.ntmps87
  go_wp2_with (first | (go_at_call 104; (with_reducible refine (s_Turned y _ HX.out.1 HX.out.2).mono ?_); rintro e w' ⟨rfl, rfl⟩) | (go_at_call 103; (with_reducible refine (HC.out _).mono ?_); rintro e w' ⟨rfl, hb⟩; (try replace hb := bt3 hb (by assumption)); obtain ⟨hc, hf, hz, hy⟩ := bcell hb; have hs := hb.size; (try simp at hs); (try have h0 : w.heap.size < w'.heap.size := by omega); (try have h1 : w.heap.size + 1 < w'.heap.size := by omega); (try have h2 : w.heap.size + 1 + 1 < w'.heap.size := by omega); (try have h3 : w.heap.size + 1 + 1 + 1 < w'.heap.size := by omega); clear hs))
  go_ret
  exact ⟨rfl, by (repeat (first | exact Below.refl _ _ | assumption | refine Below.drew ?_ | refine bdn ?_ | refine ba _ ?_ | refine bs0 _ _ ?_ ?_ | refine bs1 _ _ _ ?_ ?_ | refine bs2 _ _ _ _ ?_ ?_ | refine bs3 _ _ _ _ _ ?_ ?_ | refine bt3 (by assumption) ?_))⟩
set_option maxHeartbeats 4000000 in
theorem s_Kind2 (x y : Nat) (mode : Int) (w : World) (hx : W x) (hy : W y) (fx : fin x) (fy : fin y) (hmd : 0 ≤ mode ∧ mode ≤ 4)  : Calls Tryz.prog 87 #[.float .f32 x, .float .f32 y, .int .i64 2, .int .i64 mode] w (RetV (.float .f32 (kdF x y 2 mode)) w) := by
  have HC := Hd.mk (fun w => s_MulF x y mode w hx hy fx fy hmd)
  show Calls Tryz.prog 87 #[.float .f32 x, .float .f32 y, .int .i64 2, .int .i64 mode] w (RetV (.float .f32 (mlF x y mode)) w)
  clear hx hy fx fy hmd
  go_enter Tryz.func87, Tryz.ntmps87
  go_wp2_with (go_at_call 106; (with_reducible refine (HC.out _).mono ?_); rintro e w' ⟨rfl, hb⟩; (try replace hb := bt3 hb (by assumption)); obtain ⟨hc, hf, hz, hy⟩ := bcell hb; have hs := hb.size; (try simp at hs); (try have h0 : w.heap.size < w'.heap.size := by omega); (try have h1 : w.heap.size + 1 < w'.heap.size := by omega); (try have h2 : w.heap.size + 1 + 1 < w'.heap.size := by omega); (try have h3 : w.heap.size + 1 + 1 + 1 < w'.heap.size := by omega); clear hs)
  go_ret
  exact ⟨rfl, by (repeat (first | exact Below.refl _ _ | assumption | refine Below.drew ?_ | refine bdn ?_ | refine ba _ ?_ | refine bs0 _ _ ?_ ?_ | refine bs1 _ _ _ ?_ ?_ | refine bs2 _ _ _ _ ?_ ?_ | refine bs3 _ _ _ _ _ ?_ ?_ | refine bt3 (by assumption) ?_))⟩
set_option maxHeartbeats 4000000 in
theorem s_Kind3 (x y : Nat) (mode : Int) (w : World) (hx : W x) (hy : W y) (fx : fin x) (fy : fin y) (hmd : 0 ≤ mode ∧ mode ≤ 4) (hz : ¬ zr y) : Calls Tryz.prog 87 #[.float .f32 x, .float .f32 y, .int .i64 3, .int .i64 mode] w (RetV (.float .f32 (kdF x y 3 mode)) w) := by
  have HC := Hd.mk (fun w => s_Divide x y mode w hx hy fx fy hz hmd)
  show Calls Tryz.prog 87 #[.float .f32 x, .float .f32 y, .int .i64 3, .int .i64 mode] w (RetV (.float .f32 (dvF x y mode)) w)
  clear hx hy fx fy hmd hz
  go_enter Tryz.func87, Tryz.ntmps87
  go_wp2_with (go_at_call 107; (with_reducible refine (HC.out _).mono ?_); rintro e w' ⟨rfl, hb⟩; (try replace hb := bt3 hb (by assumption)); obtain ⟨hc, hf, hz, hy⟩ := bcell hb; have hs := hb.size; (try simp at hs); (try have h0 : w.heap.size < w'.heap.size := by omega); (try have h1 : w.heap.size + 1 < w'.heap.size := by omega); (try have h2 : w.heap.size + 1 + 1 < w'.heap.size := by omega); (try have h3 : w.heap.size + 1 + 1 + 1 < w'.heap.size := by omega); clear hs)
  go_ret
  exact ⟨rfl, by (repeat (first | exact Below.refl _ _ | assumption | refine Below.drew ?_ | refine bdn ?_ | refine ba _ ?_ | refine bs0 _ _ ?_ ?_ | refine bs1 _ _ _ ?_ ?_ | refine bs2 _ _ _ _ ?_ ?_ | refine bs3 _ _ _ _ _ ?_ ?_ | refine bt3 (by assumption) ?_))⟩
theorem s_Kind (x y : Nat) (kind mode : Int) (w : World) (hx : W x) (hy : W y) (fx : fin x) (fy : fin y) (hmd : 0 ≤ mode ∧ mode ≤ 4) (hk : 0 ≤ kind ∧ kind ≤ 3) (hz : ¬ (kind = 3 ∧ zr y)) : Calls Tryz.prog 87 #[.float .f32 x, .float .f32 y, .int .i64 kind, .int .i64 mode] w (RetV (.float .f32 (kdF x y kind mode)) w) := by
  rcases kind_cases hk with rfl | rfl | rfl | rfl
  · exact s_Kind0 x y mode w hx hy fx fy hmd
  · exact s_Kind1 x y mode w hx hy fx fy hmd
  · exact s_Kind2 x y mode w hx hy fx fy hmd
  · exact s_Kind3 x y mode w hx hy fx fy hmd (fun k => hz ⟨rfl, k⟩)
theorem and_no {a b : Bool} (h : ¬ (a = true ∧ b = true)) : (a && b) = false := by cases a <;> cases b <;> simp_all
set_option maxHeartbeats 4000000 in
theorem s_Spread (x y : Nat) (kind : Int) (w : World) (hx : W x) (hy : W y) : Calls Tryz.prog 11 #[.float .f32 x, .float .f32 y, .int .i64 kind] w (RetV (.tuple #[.float .f32 (spF x y kind 1), .float .f32 (spF x y kind 2), .int .i64 (spC x y kind)]) w) := by
  have HT := Hd.mk (fun w => s_Two4 x y 0 w)
  have h0 := o_eq0 y hy
  have HI := Hd.mk (fun w => s_In kind 0 3 w)
  by_cases h12 : fin x ∧ fin y
  · rw [tw_good h12 (by decide)] at HT
    by_cases hk : 0 ≤ kind ∧ kind ≤ 3
    · have hkd : (decide (0 ≤ kind) && decide (kind ≤ 3)) = true := by simp [hk.1, hk.2]
      rw [hkd] at HI
      by_cases hz : kind = 3 ∧ zr y
      · have hc : spC x y kind = 5 := by unfold spC; rw [if_pos h12, if_pos hk, if_pos hz]
        rw [spF_no hc (by decide), spF_no hc (by decide), hc]
        have hzd : decide (y = 0 ∨ y = 2147483648) = true := decide_eq_true hz.2
        rw [hzd] at h0
        obtain ⟨rfl, hz⟩ := hz
        clear h12 hx hy hc hz hzd hk hkd
        go_enter Tryz.func11, Tryz.ntmps11
        go_wp2_with (first | (go_at_call 85; (with_reducible refine (HT.out _).mono ?_); rintro e w' ⟨rfl, ⟨nd, rfl⟩⟩) | (go_at_call 86; (with_reducible refine (HI.out _).mono ?_); rintro e w' ⟨rfl, rfl⟩))
        refine bodyPost_ret (v := .tuple #[.float .f32 0, .float .f32 0, .int .i64 5]) (by simp (maxDischargeDepth := 7) [results, Tryz.results11, go_sem]) rfl ⟨rfl, ?_⟩
        (repeat (first | exact Below.refl _ _ | assumption | refine Below.drew ?_ | refine bdn ?_ | refine ba _ ?_ | refine bs0 _ _ ?_ ?_ | refine bs1 _ _ _ ?_ ?_ | refine bs2 _ _ _ _ ?_ ?_ | refine bs3 _ _ _ _ _ ?_ ?_ | refine bt3 (by assumption) ?_))
      · have hc : spC x y kind = 0 := by unfold spC; rw [if_pos h12, if_pos hk, if_neg hz]
        rw [spF_yes hc, spF_yes hc, hc]
        have HK1 := Hd.mk (fun w => s_Kind x y kind 1 w hx hy h12.1 h12.2 (by omega) hk hz)
        have HK2 := Hd.mk (fun w => s_Kind x y kind 2 w hx hy h12.1 h12.2 (by omega) hk hz)
        by_cases hk3 : kind = 3
        · have hzd : decide (y = 0 ∨ y = 2147483648) = false := decide_eq_false (fun k => hz ⟨hk3, k⟩)
          rw [hzd] at h0
          subst hk3
          clear h12 hx hy hc hz hzd hk hkd
          generalize kdF x y 3 1 = p at *
          generalize kdF x y 3 2 = q at *
          go_enter Tryz.func11, Tryz.ntmps11
          go_wp2_with (first | (go_at_call 85; (with_reducible refine (HT.out _).mono ?_); rintro e w' ⟨rfl, ⟨nd, rfl⟩⟩) | (go_at_call 86; (with_reducible refine (HI.out _).mono ?_); rintro e w' ⟨rfl, rfl⟩) | (go_at_call 87; (with_reducible refine (HK1.out _).mono ?_); rintro e6 wc ⟨rfl, hb⟩; have hqc : Below w.heap.size w wc := bt3 hb (by (repeat (first | exact Below.refl _ _ | assumption | refine Below.drew ?_ | refine bdn ?_ | refine ba _ ?_ | refine bs0 _ _ ?_ ?_ | refine bs1 _ _ _ ?_ ?_ | refine bs2 _ _ _ _ ?_ ?_ | refine bs3 _ _ _ _ _ ?_ ?_ | refine bt3 (by assumption) ?_))); clear hb) | (go_at_call 87; (with_reducible refine (HK2.out _).mono ?_); rintro e7 we ⟨rfl, hb⟩; have hqe : Below w.heap.size w we := bt3 hb hqc; clear hb))
          refine bodyPost_ret (v := .tuple #[.float .f32 p, .float .f32 q, .int .i64 0]) (by simp (maxDischargeDepth := 7) [results, Tryz.results11, go_sem]) rfl ⟨rfl, ?_⟩
          exact hqe
        · clear h12 hx hy hc hz hk hkd h0
          have hk4 : (kind == 3) = false := by simpa using hk3
          clear hk3
          generalize kdF x y kind 1 = p at *
          generalize kdF x y kind 2 = q at *
          go_enter Tryz.func11, Tryz.ntmps11
          go_wp2_with (first | (go_at_call 85; (with_reducible refine (HT.out _).mono ?_); rintro e w' ⟨rfl, ⟨nd, rfl⟩⟩) | (go_at_call 86; (with_reducible refine (HI.out _).mono ?_); rintro e w' ⟨rfl, rfl⟩) | (go_at_call 87; (with_reducible refine (HK1.out _).mono ?_); rintro e6 wc ⟨rfl, hb⟩; have hqc : Below w.heap.size w wc := bt3 hb (by (repeat (first | exact Below.refl _ _ | assumption | refine Below.drew ?_ | refine bdn ?_ | refine ba _ ?_ | refine bs0 _ _ ?_ ?_ | refine bs1 _ _ _ ?_ ?_ | refine bs2 _ _ _ _ ?_ ?_ | refine bs3 _ _ _ _ _ ?_ ?_ | refine bt3 (by assumption) ?_))); clear hb) | (go_at_call 87; (with_reducible refine (HK2.out _).mono ?_); rintro e7 we ⟨rfl, hb⟩; have hqe : Below w.heap.size w we := bt3 hb hqc; clear hb))
          refine bodyPost_ret (v := .tuple #[.float .f32 p, .float .f32 q, .int .i64 0]) (by simp (maxDischargeDepth := 7) [results, Tryz.results11, go_sem]) rfl ⟨rfl, ?_⟩
          exact hqe
    · have hkd : (decide (0 ≤ kind) && decide (kind ≤ 3)) = false := and_no (fun k => hk ⟨of_decide_eq_true k.1, of_decide_eq_true k.2⟩)
      rw [hkd] at HI
      have hc : spC x y kind = 2 := by unfold spC; rw [if_pos h12, if_neg hk]
      rw [spF_no hc (by decide), spF_no hc (by decide), hc]
      clear h12 hx hy hc hk hkd h0
      go_enter Tryz.func11, Tryz.ntmps11
      go_wp2_with (first | (go_at_call 85; (with_reducible refine (HT.out _).mono ?_); rintro e w' ⟨rfl, ⟨nd, rfl⟩⟩) | (go_at_call 86; (with_reducible refine (HI.out _).mono ?_); rintro e w' ⟨rfl, rfl⟩))
      refine bodyPost_ret (v := .tuple #[.float .f32 0, .float .f32 0, .int .i64 2]) (by simp (maxDischargeDepth := 7) [results, Tryz.results11, go_sem]) rfl ⟨rfl, ?_⟩
      (repeat (first | exact Below.refl _ _ | assumption | refine Below.drew ?_ | refine bdn ?_ | refine ba _ ?_ | refine bs0 _ _ ?_ ?_ | refine bs1 _ _ _ ?_ ?_ | refine bs2 _ _ _ _ ?_ ?_ | refine bs3 _ _ _ _ _ ?_ ?_ | refine bt3 (by assumption) ?_))
  · rw [tw_bad 0 h12] at HT
    have hc : spC x y kind = 1 := by unfold spC; rw [if_neg h12]
    rw [spF_no hc (by decide), spF_no hc (by decide), hc]
    clear h12 hx hy hc h0
    go_enter Tryz.func11, Tryz.ntmps11
    go_wp2_with (first | (go_at_call 85; (with_reducible refine (HT.out _).mono ?_); rintro e w' ⟨rfl, ⟨nd, rfl⟩⟩) | (go_at_call 86; (with_reducible refine (HI.out _).mono ?_); rintro e w' ⟨rfl, rfl⟩))
    refine bodyPost_ret (v := .tuple #[.float .f32 0, .float .f32 0, .int .i64 1]) (by simp (maxDischargeDepth := 7) [results, Tryz.results11, go_sem]) rfl ⟨rfl, ?_⟩
    (repeat (first | exact Below.refl _ _ | assumption | refine Below.drew ?_ | refine bdn ?_ | refine ba _ ?_ | refine bs0 _ _ ?_ ?_ | refine bs1 _ _ _ ?_ ?_ | refine bs2 _ _ _ _ ?_ ?_ | refine bs3 _ _ _ _ _ ?_ ?_ | refine bt3 (by assumption) ?_))
set_option maxHeartbeats 4000000 in
theorem i_Spread0 (x y : Nat) (w : World) (hx : W x) (hy : W y) (h12 : fin x ∧ fin y) : Calls Tryz.prog 12 #[.float .f32 x, .float .f32 y, .int .i64 0] w (RetV (.tuple #[.float .f32 (sm4 x y 1), .float .f32 (sm4 x y 2), .int .i64 0]) w) := by
  have HA := Hd.mk (fun (g c : Nat) (w : World) c0 c1 => i_areFinite2 g c x y w hx hy c0 c1)
  have p1 : (decide (fin x) && decide (fin y)) = true := by rw [decide_eq_true h12.1, decide_eq_true h12.2]; rfl
  rw [p1] at HA
  have HC1 := Hd.mk (fun w => i_addF x y 1 w hx hy h12.1 h12.2 (by omega))
  have HC2 := Hd.mk (fun w => i_addF x y 2 w hx hy h12.1 h12.2 (by omega))
  clear hx hy h12 p1
  generalize sm4 x y 1 = p at *
  generalize sm4 x y 2 = q at *
  go_enter Tryz.func12, Tryz.ntmps12
  go_wp2_with (first | (go_at_call 88; (with_reducible refine (HA.out w.heap.size 2 _ (by go_simp) (by go_simp)).mono ?_); rintro e w' ⟨rfl, rfl⟩) | (go_at_call 89; (with_reducible refine (HC1.out _).mono ?_); rintro e6 w6 ⟨rfl, hb⟩; have hq6 := bt3 hb (by (repeat (first | exact Below.refl _ _ | assumption | refine Below.drew ?_ | refine bdn ?_ | refine ba _ ?_ | refine bs0 _ _ ?_ ?_ | refine bs1 _ _ _ ?_ ?_ | refine bs2 _ _ _ _ ?_ ?_ | refine bs3 _ _ _ _ _ ?_ ?_ | refine bt3 (by assumption) ?_)) : Below w.heap.size w _); clear hb) | (go_at_call 89; (with_reducible refine (HC2.out _).mono ?_); rintro e7 w7 ⟨rfl, hb⟩; have hq7 := bt3 hb hq6; clear hb))
  refine bodyPost_ret (v := .tuple #[.float .f32 p, .float .f32 q, .int .i64 0]) (by simp (maxDischargeDepth := 7) [results, Tryz.results12, go_sem]) rfl ⟨rfl, ?_⟩
  exact hq7
set_option maxHeartbeats 4000000 in
theorem i_Spread1 (x y : Nat) (w : World) (hx : W x) (hy : W y) (h12 : fin x ∧ fin y) : Calls Tryz.prog 12 #[.float .f32 x, .float .f32 y, .int .i64 1] w (RetV (.tuple #[.float .f32 (sm4 x (ng y) 1), .float .f32 (sm4 x (ng y) 2), .int .i64 0]) w) := by
  have HA := Hd.mk (fun (g c : Nat) (w : World) c0 c1 => i_areFinite2 g c x y w hx hy c0 c1)
  have p1 : (decide (fin x) && decide (fin y)) = true := by rw [decide_eq_true h12.1, decide_eq_true h12.2]; rfl
  rw [p1] at HA
  have HC1 := Hd.mk (fun w => i_addF x (ng y) 1 w hx (W_ng hy) h12.1 (fin_ng hy h12.2) (by omega))
  have HC2 := Hd.mk (fun w => i_addF x (ng y) 2 w hx (W_ng hy) h12.1 (fin_ng hy h12.2) (by omega))
  have n1 := negFloat_eq y hy
  clear hx hy h12 p1
  generalize sm4 x (ng y) 1 = p at *
  generalize sm4 x (ng y) 2 = q at *
  go_enter Tryz.func12, Tryz.ntmps12
  go_wp2_with (first | (go_at_call 88; (with_reducible refine (HA.out w.heap.size 2 _ (by go_simp) (by go_simp)).mono ?_); rintro e w' ⟨rfl, rfl⟩) | (go_at_call 89; (with_reducible refine (HC1.out _).mono ?_); rintro e6 w6 ⟨rfl, hb⟩; have hq6 := bt3 hb (by (repeat (first | exact Below.refl _ _ | assumption | refine Below.drew ?_ | refine bdn ?_ | refine ba _ ?_ | refine bs0 _ _ ?_ ?_ | refine bs1 _ _ _ ?_ ?_ | refine bs2 _ _ _ _ ?_ ?_ | refine bs3 _ _ _ _ _ ?_ ?_ | refine bt3 (by assumption) ?_)) : Below w.heap.size w _); clear hb) | (go_at_call 89; (with_reducible refine (HC2.out _).mono ?_); rintro e7 w7 ⟨rfl, hb⟩; have hq7 := bt3 hb hq6; clear hb))
  refine bodyPost_ret (v := .tuple #[.float .f32 p, .float .f32 q, .int .i64 0]) (by simp (maxDischargeDepth := 7) [results, Tryz.results12, go_sem]) rfl ⟨rfl, ?_⟩
  exact hq7
set_option maxHeartbeats 4000000 in
theorem i_Spread2 (x y : Nat) (w : World) (hx : W x) (hy : W y) (h12 : fin x ∧ fin y) : Calls Tryz.prog 12 #[.float .f32 x, .float .f32 y, .int .i64 2] w (RetV (.tuple #[.float .f32 (mlF x y 1), .float .f32 (mlF x y 2), .int .i64 0]) w) := by
  have HA := Hd.mk (fun (g c : Nat) (w : World) c0 c1 => i_areFinite2 g c x y w hx hy c0 c1)
  have p1 : (decide (fin x) && decide (fin y)) = true := by rw [decide_eq_true h12.1, decide_eq_true h12.2]; rfl
  rw [p1] at HA
  have HC1 := Hd.mk (fun w => i_mulF x y 1 w hx hy h12.1 h12.2 (by omega))
  have HC2 := Hd.mk (fun w => i_mulF x y 2 w hx hy h12.1 h12.2 (by omega))
  clear hx hy h12 p1
  generalize mlF x y 1 = p at *
  generalize mlF x y 2 = q at *
  go_enter Tryz.func12, Tryz.ntmps12
  go_wp2_with (first | (go_at_call 88; (with_reducible refine (HA.out w.heap.size 2 _ (by go_simp) (by go_simp)).mono ?_); rintro e w' ⟨rfl, rfl⟩) | (go_at_call 90; (with_reducible refine (HC1.out _).mono ?_); rintro e6 w6 ⟨rfl, hb⟩; have hq6 := bt3 hb (by (repeat (first | exact Below.refl _ _ | assumption | refine Below.drew ?_ | refine bdn ?_ | refine ba _ ?_ | refine bs0 _ _ ?_ ?_ | refine bs1 _ _ _ ?_ ?_ | refine bs2 _ _ _ _ ?_ ?_ | refine bs3 _ _ _ _ _ ?_ ?_ | refine bt3 (by assumption) ?_)) : Below w.heap.size w _); clear hb) | (go_at_call 90; (with_reducible refine (HC2.out _).mono ?_); rintro e7 w7 ⟨rfl, hb⟩; have hq7 := bt3 hb hq6; clear hb))
  refine bodyPost_ret (v := .tuple #[.float .f32 p, .float .f32 q, .int .i64 0]) (by simp (maxDischargeDepth := 7) [results, Tryz.results12, go_sem]) rfl ⟨rfl, ?_⟩
  exact hq7
set_option maxHeartbeats 4000000 in
theorem i_Spread3 (x y : Nat) (w : World) (hx : W x) (hy : W y) (h12 : fin x ∧ fin y) (hz : ¬ zr y) : Calls Tryz.prog 12 #[.float .f32 x, .float .f32 y, .int .i64 3] w (RetV (.tuple #[.float .f32 (dvF x y 1), .float .f32 (dvF x y 2), .int .i64 0]) w) := by
  have HA := Hd.mk (fun (g c : Nat) (w : World) c0 c1 => i_areFinite2 g c x y w hx hy c0 c1)
  have p1 : (decide (fin x) && decide (fin y)) = true := by rw [decide_eq_true h12.1, decide_eq_true h12.2]; rfl
  rw [p1] at HA
  have h0 := o_eq0 y hy
  have hzd : decide (y = 0 ∨ y = 2147483648) = false := decide_eq_false hz
  rw [hzd] at h0
  have HC1 := Hd.mk (fun w => i_divIn x y 1 w hx hy h12.1 h12.2 hz (by omega))
  have HC2 := Hd.mk (fun w => i_divIn x y 2 w hx hy h12.1 h12.2 hz (by omega))
  clear hx hy h12 p1 hz hzd
  generalize dvF x y 1 = p at *
  generalize dvF x y 2 = q at *
  go_enter Tryz.func12, Tryz.ntmps12
  go_wp2_with (first | (go_at_call 88; (with_reducible refine (HA.out w.heap.size 2 _ (by go_simp) (by go_simp)).mono ?_); rintro e w' ⟨rfl, rfl⟩) | (go_at_call 91; (with_reducible refine (HC1.out _).mono ?_); rintro e6 w6 ⟨rfl, hb⟩; have hq6 := bt3 hb (by (repeat (first | exact Below.refl _ _ | assumption | refine Below.drew ?_ | refine bdn ?_ | refine ba _ ?_ | refine bs0 _ _ ?_ ?_ | refine bs1 _ _ _ ?_ ?_ | refine bs2 _ _ _ _ ?_ ?_ | refine bs3 _ _ _ _ _ ?_ ?_ | refine bt3 (by assumption) ?_)) : Below w.heap.size w _); clear hb) | (go_at_call 91; (with_reducible refine (HC2.out _).mono ?_); rintro e7 w7 ⟨rfl, hb⟩; have hq7 := bt3 hb hq6; clear hb))
  refine bodyPost_ret (v := .tuple #[.float .f32 p, .float .f32 q, .int .i64 0]) (by simp (maxDischargeDepth := 7) [results, Tryz.results12, go_sem]) rfl ⟨rfl, ?_⟩
  exact hq7
set_option maxHeartbeats 4000000 in
theorem i_Spread5 (x y : Nat) (w : World) (hx : W x) (hy : W y) (h12 : fin x ∧ fin y) (hz : zr y) : Calls Tryz.prog 12 #[.float .f32 x, .float .f32 y, .int .i64 3] w (RetV (.tuple #[.float .f32 0, .float .f32 0, .int .i64 5]) w) := by
  have HA := Hd.mk (fun (g c : Nat) (w : World) c0 c1 => i_areFinite2 g c x y w hx hy c0 c1)
  have p1 : (decide (fin x) && decide (fin y)) = true := by rw [decide_eq_true h12.1, decide_eq_true h12.2]; rfl
  rw [p1] at HA
  have h0 := o_eq0 y hy
  have hzd : decide (y = 0 ∨ y = 2147483648) = true := decide_eq_true hz
  rw [hzd] at h0
  clear hx hy h12 p1 hz hzd
  go_enter Tryz.func12, Tryz.ntmps12
  go_wp2_with (go_at_call 88; (with_reducible refine (HA.out w.heap.size 2 _ (by go_simp) (by go_simp)).mono ?_); rintro e w' ⟨rfl, rfl⟩)
  refine bodyPost_ret (v := .tuple #[.float .f32 0, .float .f32 0, .int .i64 5]) (by simp (maxDischargeDepth := 7) [results, Tryz.results12, go_sem]) rfl ⟨rfl, ?_⟩
  (repeat (first | exact Below.refl _ _ | assumption | refine Below.drew ?_ | refine bdn ?_ | refine ba _ ?_ | refine bs0 _ _ ?_ ?_ | refine bs1 _ _ _ ?_ ?_ | refine bs2 _ _ _ _ ?_ ?_ | refine bs3 _ _ _ _ _ ?_ ?_ | refine bt3 (by assumption) ?_))
set_option maxHeartbeats 4000000 in
theorem i_SpreadK (x y : Nat) (kind : Int) (w : World) (hx : W x) (hy : W y) (h12 : fin x ∧ fin y) (hk : ¬ (0 ≤ kind ∧ kind ≤ 3)) : Calls Tryz.prog 12 #[.float .f32 x, .float .f32 y, .int .i64 kind] w (RetV (.tuple #[.float .f32 0, .float .f32 0, .int .i64 2]) w) := by
  have HA := Hd.mk (fun (g c : Nat) (w : World) c0 c1 => i_areFinite2 g c x y w hx hy c0 c1)
  have p1 : (decide (fin x) && decide (fin y)) = true := by rw [decide_eq_true h12.1, decide_eq_true h12.2]; rfl
  rw [p1] at HA
  clear hx hy h12 p1
  by_cases h1 : kind < 0
  · go_enter Tryz.func12, Tryz.ntmps12
    go_wp2_with (go_at_call 88; (with_reducible refine (HA.out w.heap.size 2 _ (by go_simp) (by go_simp)).mono ?_); rintro e w' ⟨rfl, rfl⟩)
    refine bodyPost_ret (v := .tuple #[.float .f32 0, .float .f32 0, .int .i64 2]) (by simp (maxDischargeDepth := 7) [results, Tryz.results12, go_sem]) rfl ⟨rfl, ?_⟩
    (repeat (first | exact Below.refl _ _ | assumption | refine Below.drew ?_ | refine bdn ?_ | refine ba _ ?_ | refine bs0 _ _ ?_ ?_ | refine bs1 _ _ _ ?_ ?_ | refine bs2 _ _ _ _ ?_ ?_ | refine bs3 _ _ _ _ _ ?_ ?_ | refine bt3 (by assumption) ?_))
  · have h2 : 3 < kind := by omega
    go_enter Tryz.func12, Tryz.ntmps12
    go_wp2_with (go_at_call 88; (with_reducible refine (HA.out w.heap.size 2 _ (by go_simp) (by go_simp)).mono ?_); rintro e w' ⟨rfl, rfl⟩)
    refine bodyPost_ret (v := .tuple #[.float .f32 0, .float .f32 0, .int .i64 2]) (by simp (maxDischargeDepth := 7) [results, Tryz.results12, go_sem]) rfl ⟨rfl, ?_⟩
    (repeat (first | exact Below.refl _ _ | assumption | refine Below.drew ?_ | refine bdn ?_ | refine ba _ ?_ | refine bs0 _ _ ?_ ?_ | refine bs1 _ _ _ ?_ ?_ | refine bs2 _ _ _ _ ?_ ?_ | refine bs3 _ _ _ _ _ ?_ ?_ | refine bt3 (by assumption) ?_))
set_option maxHeartbeats 4000000 in
theorem i_SpreadF (x y : Nat) (kind : Int) (w : World) (hx : W x) (hy : W y) (h12 : ¬ (fin x ∧ fin y)) : Calls Tryz.prog 12 #[.float .f32 x, .float .f32 y, .int .i64 kind] w (RetV (.tuple #[.float .f32 0, .float .f32 0, .int .i64 1]) w) := by
  have HA := Hd.mk (fun (g c : Nat) (w : World) c0 c1 => i_areFinite2 g c x y w hx hy c0 c1)
  have p1 : (decide (fin x) && decide (fin y)) = false := and_no (fun k => h12 ⟨of_decide_eq_true k.1, of_decide_eq_true k.2⟩)
  rw [p1] at HA
  clear hx hy h12 p1
  go_enter Tryz.func12, Tryz.ntmps12
  go_wp2_with (go_at_call 88; (with_reducible refine (HA.out w.heap.size 2 _ (by go_simp) (by go_simp)).mono ?_); rintro e w' ⟨rfl, rfl⟩)
  refine bodyPost_ret (v := .tuple #[.float .f32 0, .float .f32 0, .int .i64 1]) (by simp (maxDischargeDepth := 7) [results, Tryz.results12, go_sem]) rfl ⟨rfl, ?_⟩
  (repeat (first | exact Below.refl _ _ | assumption | refine Below.drew ?_ | refine bdn ?_ | refine ba _ ?_ | refine bs0 _ _ ?_ ?_ | refine bs1 _ _ _ ?_ ?_ | refine bs2 _ _ _ _ ?_ ?_ | refine bs3 _ _ _ _ _ ?_ ?_ | refine bt3 (by assumption) ?_))
theorem i_Spread (x y : Nat) (kind : Int) (w : World) (hx : W x) (hy : W y) : Calls Tryz.prog 12 #[.float .f32 x, .float .f32 y, .int .i64 kind] w (RetV (.tuple #[.float .f32 (spF x y kind 1), .float .f32 (spF x y kind 2), .int .i64 (spC x y kind)]) w) := by
  by_cases h12 : fin x ∧ fin y
  · by_cases hk : 0 ≤ kind ∧ kind ≤ 3
    · by_cases hz : kind = 3 ∧ zr y
      · have hc : spC x y kind = 5 := by unfold spC; rw [if_pos h12, if_pos hk, if_pos hz]
        rw [spF_no hc (by decide), spF_no hc (by decide), hc]
        obtain ⟨rfl, hz⟩ := hz
        exact i_Spread5 x y w hx hy h12 hz
      · have hc : spC x y kind = 0 := by unfold spC; rw [if_pos h12, if_pos hk, if_neg hz]
        rw [spF_yes hc, spF_yes hc, hc]
        rcases kind_cases hk with rfl | rfl | rfl | rfl
        · exact i_Spread0 x y w hx hy h12
        · exact i_Spread1 x y w hx hy h12
        · exact i_Spread2 x y w hx hy h12
        · exact i_Spread3 x y w hx hy h12 (fun k => hz ⟨rfl, k⟩)
    · have hc : spC x y kind = 2 := by unfold spC; rw [if_pos h12, if_neg hk]
      rw [spF_no hc (by decide), spF_no hc (by decide), hc]
      exact i_SpreadK x y kind w hx hy h12 hk
  · have hc : spC x y kind = 1 := by unfold spC; rw [if_neg h12]
    rw [spF_no hc (by decide), spF_no hc (by decide), hc]
    exact i_SpreadF x y kind w hx hy h12
end Go.Proofs.YtflgjecpjaiecaaGreat
