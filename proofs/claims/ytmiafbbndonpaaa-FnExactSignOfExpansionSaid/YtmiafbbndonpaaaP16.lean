/- Contracts: sums of lists of floats and their signs, of the program. -/
import Derived.Test.YtmiafbbndonpaaaP15
import Derived.Test.YtmiafbbndonpaaaS13
set_option linter.unusedVariables false
set_option linter.unusedSimpArgs false
namespace Go.Proofs.Ytmiafbbndonpaaa
open Go.RowKit Num Flt
theorem Big.zero {w : World} {g : Nat} (h : Blk w g 134 #[.bool false, .slice none 0 0]) : Big w g 0 :=
  ⟨false, none, 0, 0, [], h, rfl, Nat.le_refl _, by omega, Canon.nil _, (fun h => by cases h), rfl, Reads.none_, (fun _ h => by cases h)⟩
theorem bd_zero : Bd 0 := by
  have : (0 : Int) < TOP := by unfold TOP; exact pow_pos' (by decide) _
  unfold Bd; omega
theorem nuF_zero (l : Nat) (hl : l ≤ SC) : NuF 0 0 0 l := ⟨by simp [dv], by omega, hl, by omega, bd_zero⟩
set_option maxHeartbeats 4000000 in
theorem n_Zero (l : Nat) (w : World) (hl : l ≤ SC) : Calls Try.prog 131 #[] w (RetN 0 l w) := by
  have HL : Hd (NuF 0 0 0 l) := ⟨nuF_zero l hl⟩
  clear hl
  go_enter Try.func131, Try.ntmps131
  go_wp2
  refine bodyPost_ret (v := .agg #[.pointer (some ⟨w.heap.size + 1, 0, none⟩), .int .i64 0]) (by simp (maxDischargeDepth := 7) [results, Try.results131, go_sem, *]) rfl ⟨w.heap.size + 1, 0, rfl, ?_, ?_⟩
  · have hb : Blk ((w.alloc (.cells #[.pointer (some ⟨w.heap.size + 1, 0, none⟩), .int .i64 0] 87)).alloc (.cells #[.bool false, .slice none 0 0] 134)) (w.heap.size + 1) 134 #[.bool false, .slice none 0 0] := by
      have := Blk.new (w.alloc (.cells #[.pointer (some ⟨w.heap.size + 1, 0, none⟩), .int .i64 0] 87)) 134 #[.bool false, .slice none 0 0]; simpa using this
    exact NuP.of (Big.zero hb) HL.out
  · (repeat (first | exact Below.refl _ _ | assumption | refine Below.drew ?_ | refine bdn ?_ | refine ba _ ?_ | refine bs0 _ _ ?_ ?_ | refine bs1 _ _ _ ?_ ?_ | refine bs2 _ _ _ _ ?_ ?_ | refine bs3 _ _ _ _ _ ?_ ?_ | refine bt3 (by assumption) ?_))
/-- the world with the result's cell -/
abbrev Wn (w : World) : World := w.alloc (Obj.cells #[.pointer none, .int .i64 0] 87)
/-- what a round of a sum of floats holds -/
structure SumH (w w1 wr : World) (g : Nat) (e V : Int) : Prop where
  bel : Below (Wn w).heap.size (Wn w) wr
  b0 : Blk wr w1.heap.size 87 #[.pointer (some ⟨g, 0, none⟩), .int .i64 e]
  nu : NuP wr g e V 149
  lt : w.heap.size < w1.heap.size
set_option maxHeartbeats 4000000 in
theorem n_Parts (A : Option Addr) (n c : Nat) (xs : List Nat) (w : World) (hn : n = xs.length) (hl : n ≤ 1000) (hR : RF w A xs) (hx : ∀ x ∈ xs, W x ∧ fin x) :
    Calls Try.prog 65 #[.slice A n c] w (RetN (sumv xs) 149 w) := by
  have HR : Hd (RF w A xs) := ⟨hR⟩
  have HN : Hd (n = xs.length ∧ n ≤ 1000 ∧ ∀ x ∈ xs, W x ∧ fin x) := ⟨⟨hn, hl, hx⟩⟩
  have hnI : (n : Int) ≤ 1000 := by omega
  have HS : Hd (∀ k, Bd (sumv (xs.take k))) := ⟨fun k => sumv_bd _ (fun x hx' => (hx x (List.mem_of_mem_take hx')).2) (by simp; omega)⟩
  have HSC : Hd (149 ≤ SC) := ⟨by unfold SC; omega⟩
  clear hn hl hR hx
  go_enter Try.func65, Try.ntmps65
  go_wp2_with (go_at_call 131; (with_reducible refine (n_Zero 149 _ HSC.out).mono ?_); rintro e1 w1 ⟨g0, x0, rfl, hN, hb⟩; have HN0 : Hd (NuP w1 g0 x0 0 149) := ⟨hN⟩; have HB0 : Hd (Below (Wn w).heap.size (Wn w) w1) := ⟨hb⟩; clear hN hb)
  go_loopw [9] (fun i wr => ∃ (k g : Nat) (e : Int), i = .int .i64 k ∧ (k : Int) ≤ n ∧ Hd (SumH w w1 wr g e (sumv (xs.take k))))
    (fun i _ => n - (intOf i).toNat)
  case atStart =>
    refine ⟨0, g0, x0, rfl, by omega, ⟨⟨HB0.out.alloc HB0.out.size _, Blk.new _ _ _, ?_, ?_⟩⟩⟩
    · exact HN0.out.below (ba _ (Below.refl _ _))
    · have := HB0.out.size; simp at this; omega
  case round =>
    obtain ⟨k, g, e, rfl, hk, HH⟩ := hrel
    have c0 := HH.out.b0.cell 0
    have c1 := HH.out.b0.cell 1
    have f0 := HH.out.b0.frozen 0
    have f1 := HH.out.b0.frozen 1
    have HB2 : Hd (Below w.heap.size w wr) := ⟨bt3 HH.out.bel (ba _ (Below.refl _ _))⟩
    by_cases h1 : k < n
    · obtain ⟨ad, hA, hcx⟩ := HR.out.at_ (k := k) (by have := HN.out; omega)
      subst hA
      have HX : Hd (W (xs.getD k 0) ∧ fin (xs.getD k 0)) := ⟨HN.out.2.2 _ (by have h := HN.out.1; rw [List.getD_eq_getElem?_getD, List.getElem?_eq_getElem (by omega)]; exact List.getElem_mem _)⟩
      have HSU : Hd (sumv (xs.take (k + 1)) = sumv (xs.take k) + fv (xs.getD k 0)) := ⟨sumv_take xs k (by have := HN.out; omega)⟩
      have HBD : Hd (Bd (sumv (xs.take k) + fv (xs.getD k 0))) := ⟨by rw [← HSU.out]; exact HS.out (k + 1)⟩
      replace hcx := (HB2.out.cell (World.block_lt_of_cell? w _ hcx)).trans hcx
      generalize hex : xs.getD k 0 = x at *
      clear hex
      go_wp2_with fail
      go_region_with (first | (go_at_call 84; (with_reducible refine (n_Of x _ HX.out.1 HX.out.2).mono ?_); rintro e2 w2 ⟨g2, x2, rfl, hN2, hb2⟩; have hq2 : Below wr.heap.size wr w2 := bt3 hb2 (by (repeat (first | exact Below.refl _ _ | assumption | refine Below.drew ?_ | refine bdn ?_ | refine ba _ ?_ | refine bs0 _ _ ?_ ?_ | refine bs1 _ _ _ ?_ ?_ | refine bs2 _ _ _ _ ?_ ?_ | refine bs3 _ _ _ _ _ ?_ ?_ | refine bt3 (by assumption) ?_))); have HN2 : Hd (NuP w2 g2 x2 (fv x) 149) := ⟨hN2⟩; have HH2 : Hd (NuP w2 g e (sumv (xs.take k)) 149 ∧ Blk w2 w1.heap.size 87 #[.pointer (some ⟨g, 0, none⟩), .int .i64 e]) := ⟨⟨HH.out.nu.below hq2, HH.out.b0.below hq2 HH.out.b0.lt⟩⟩; have d0 := HH2.out.2.cell 0; have d1 := HH2.out.2.cell 1; clear hN2 hb2) | (go_at_call 109; (with_reducible refine (n_Add g g2 e x2 (sumv (xs.take k)) (fv x) 149 _ HH2.out.1 HN2.out HBD.out).mono ?_); rintro e3 w3 ⟨g3, x3, rfl, hN3, hb3⟩; have hq3 : Below wr.heap.size wr w3 := bt3 hb3 hq2; have HN3 : Hd (NuP w3 g3 x3 (sumv (xs.take k) + fv x) 149) := ⟨hN3⟩; have HK3 : Hd (Blk w3 w1.heap.size 87 #[.pointer (some ⟨g, 0, none⟩), .int .i64 e]) := ⟨HH.out.b0.below hq3 HH.out.b0.lt⟩; have k0 := HK3.out.cell 0; have k1 := HK3.out.cell 1; have l0 := HK3.out.frozen 0; have l1 := HK3.out.frozen 1; clear hN3 hb3))
      all_goals
        go_wp2_with fail
        go_roundw
        case rel =>
          refine ⟨k + 1, g3, x3, by go_num, by omega, ⟨⟨?_, ?_, ?_, HH.out.lt⟩⟩⟩
          · exact ((bt3 hq3 HH.out.bel).setCell (by have := HH.out.lt; simp; omega) _).setCell (by have := HH.out.lt; simp; omega) _
          · have := (HK3.out.set_ 0 (.pointer (some ⟨g3, 0, none⟩))).set_ 1 (.int .i64 x3)
            simpa using this
          · rw [HSU.out]
            exact HN3.out.set2 HK3.out (by decide) (by decide) _ _
        case measure => simp [intOf]; omega
    · have HE : Hd (sumv (xs.take k) = sumv xs) := ⟨by rw [List.take_of_length_le (by have := HN.out; omega)]⟩
      have HK : Hd (Blk wr w.heap.size 87 #[.pointer none, .int .i64 0]) := ⟨(Blk.new w _ _).below HH.out.bel (by simp)⟩
      have r0 := HK.out.cell 0
      have r1 := HK.out.cell 1
      have s0 := HK.out.frozen 0
      have s1 := HK.out.frozen 1
      have hne := HH.out.lt
      have hne2 : ¬ (w1.heap.size = w.heap.size) := by omega
      go_wp2_with fail
      refine bodyPost_ret (v := .agg #[.pointer (some ⟨g, 0, none⟩), .int .i64 e]) (by simp (maxDischargeDepth := 7) [results, Try.results65, go_sem, *]) rfl ⟨g, e, rfl, ?_, ?_⟩
      · rw [← HE.out]; exact HH.out.nu.set2 HK.out (by decide) (by decide) _ _
      · exact (HB2.out.setCell (Nat.le_refl _) _).setCell (Nat.le_refl _) _
set_option maxHeartbeats 4000000 in
theorem m_AreFin (A : Option Addr) (n c : Nat) (xs : List Nat) (w : World) (hn : n = xs.length) (hl : n ≤ LIM) (hR : RF w A xs) (hx : ∀ x ∈ xs, W x) :
    Calls Try.prog 95 #[.slice A n c] w fun e w' => e = .returned (.bool (decide (AllFin xs))) ∧ w = w' := by
  have HR : Hd (RF w A xs) := ⟨hR⟩
  have HN : Hd (n = xs.length ∧ ∀ x ∈ xs, W x) := ⟨⟨hn, hx⟩⟩
  have hnI : (n : Int) ≤ 1099511627776 := by unfold LIM at hl; omega
  clear hn hl hR hx
  go_enter Try.func95, Try.ntmps95
  go_wp2
  go_loop [7] (fun i => ∃ k : Nat, i = .int .i64 k ∧ (k : Int) ≤ n ∧ Hd (AllFin (xs.take k))) (fun i => n - (intOf i).toNat)
  case atStart => exact ⟨0, rfl, by omega, ⟨by intro x hx; simp at hx⟩⟩
  case round =>
    obtain ⟨k, rfl, hk, HA⟩ := hrel
    by_cases h3 : k < n
    · obtain ⟨ad, hA, hcx⟩ := HR.out.at_ (k := k) (by have := HN.out; omega)
      subst hA
      generalize hex : xs.getD k 0 = x at *
      have HEx : Hd (xs.getD k 0 = x) := ⟨hex⟩
      have HM : Hd (x ∈ xs) := ⟨by rw [← hex]; have h := HN.out.1; rw [List.getD_eq_getElem?_getD, List.getElem?_eq_getElem (by omega)]; exact List.getElem_mem _⟩
      have HW : Hd (W x) := ⟨HN.out.2 x HM.out⟩
      clear hex
      by_cases h4 : fin x
      · have p4 : decide (fin x) = true := decide_eq_true h4
        have HA1 : Hd (AllFin (xs.take (k + 1))) := ⟨by
          have h := HN.out.1
          rw [List.take_succ_eq_append_getElem (by omega)]
          intro y hy
          rcases List.mem_append.1 hy with hy | hy
          · exact HA.out y hy
          · have h5 : y = xs[k]'(by omega) := by simpa using hy
            have h6 := HEx.out
            rw [List.getD_eq_getElem?_getD, List.getElem?_eq_getElem (show k < xs.length by omega)] at h6
            rw [h5]; simp at h6; rw [h6]; exact h4⟩
        clear h4
        go_wp2_with (go_at_call 115; (with_reducible refine (i_isFinite _ _ HW.out).mono ?_); rintro e w' ⟨rfl, rfl⟩)
        go_round
        case rel => exact ⟨k + 1, by go_num, by omega, HA1⟩
        case measure => simp [intOf]; omega
      · have p4 : decide (fin x) = false := decide_eq_false h4
        have HV1 : Hd (decide (AllFin xs) = false) := ⟨decide_eq_false (fun h => h4 (h x HM.out))⟩
        clear h4
        go_wp2_with (go_at_call 115; (with_reducible refine (i_isFinite _ _ HW.out).mono ?_); rintro e w' ⟨rfl, rfl⟩)
        go_ret
        rw [HV1.out]; exact ⟨rfl, rfl⟩
    · have HV1 : Hd (decide (AllFin xs) = true) := ⟨by
        have h := HA.out
        rw [List.take_of_length_le (by have := HN.out; omega)] at h
        exact decide_eq_true h⟩
      go_wp2
      go_ret
      rw [HV1.out]; exact ⟨rfl, rfl⟩
set_option maxHeartbeats 4000000 in
theorem m_Exp (A : Option Addr) (n c : Nat) (xs : List Nat) (w : World) (hn : n = xs.length) (hl : n ≤ LIM) (hR : RF w A xs) (hx : ∀ x ∈ xs, W x) :
    Calls Try.prog 64 #[.slice A n c] w fun e w' => e = .returned (.int .i64 (lstC xs)) ∧ w = w' := by
  have HR : Hd (RF w A xs ∧ n = xs.length ∧ n ≤ LIM ∧ ∀ x ∈ xs, W x) := ⟨⟨hR, hn, hl, hx⟩⟩
  have hnI : (n : Int) ≤ 1099511627776 := by unfold LIM at hl; omega
  by_cases h1 : n < 1
  · have HV : Hd (lstC xs = 2) := ⟨if_pos (by omega)⟩
    clear hn hl hR hx
    go_enter Try.func64, Try.ntmps64
    go_wp2
    go_ret
    rw [HV.out]; exact ⟨rfl, rfl⟩
  · by_cases h2 : 8 < n
    · have HV : Hd (lstC xs = 2) := ⟨if_pos (by omega)⟩
      have h2' : (8 : Int) < n := by omega
      clear hn hl hR hx h2
      go_enter Try.func64, Try.ntmps64
      go_wp2
      go_ret
      rw [HV.out]; exact ⟨rfl, rfl⟩
    · have h2' : (n : Int) ≤ 8 := by omega
      by_cases h3 : AllFin xs
      · have p3 : decide (AllFin xs) = true := decide_eq_true h3
        have HV : Hd (lstC xs = 0) := ⟨by unfold lstC; rw [if_neg (by omega), if_pos h3]⟩
        clear hn hl hR hx h2 h3
        go_enter Try.func64, Try.ntmps64
        go_wp2_with (go_at_call 95; (with_reducible refine (m_AreFin A n c xs _ HR.out.2.1 HR.out.2.2.1 HR.out.1 HR.out.2.2.2).mono ?_); rintro e w' ⟨rfl, rfl⟩)
        go_ret
        rw [HV.out]; exact ⟨rfl, rfl⟩
      · have p3 : decide (AllFin xs) = false := decide_eq_false h3
        have HV : Hd (lstC xs = 1) := ⟨by unfold lstC; rw [if_neg (by omega), if_neg h3]⟩
        clear hn hl hR hx h2 h3
        go_enter Try.func64, Try.ntmps64
        go_wp2_with (go_at_call 95; (with_reducible refine (m_AreFin A n c xs _ HR.out.2.1 HR.out.2.2.1 HR.out.1 HR.out.2.2.2).mono ?_); rintro e w' ⟨rfl, rfl⟩)
        go_ret
        rw [HV.out]; exact ⟨rfl, rfl⟩
set_option maxHeartbeats 4000000 in
theorem m_SignOfE (A : Option Addr) (n c : Nat) (xs : List Nat) (w : World) (hn : n = xs.length) (hl : n ≤ LIM) (hR : RF w A xs) (hx : ∀ x ∈ xs, W x) :
    Calls Try.prog 20 #[.slice A n c] w fun e w' => e = .returned (if lstC xs = 0 then .tuple #[.int .i64 (sumv xs).sign, .int .i64 0] else .tuple #[.int .i64 0, .int .i64 (lstC xs)]) ∧ Below w.heap.size w w' := by
  have HR : Hd (RF w A xs ∧ n = xs.length ∧ n ≤ LIM ∧ ∀ x ∈ xs, W x) := ⟨⟨hR, hn, hl, hx⟩⟩
  by_cases h0 : lstC xs = 0
  · have HF : Hd (n ≤ 1000 ∧ ∀ x ∈ xs, W x ∧ fin x) := ⟨⟨by have := (lst_fin h0).1; omega, fun x h => ⟨hx x h, (lst_fin h0).2 x h⟩⟩⟩
    rw [if_pos h0]
    clear hn hl hR hx
    go_enter Try.func20, Try.ntmps20
    go_wp2_with (first | (go_at_call 64; (with_reducible refine (m_Exp A n c xs _ HR.out.2.1 HR.out.2.2.1 HR.out.1 HR.out.2.2.2).mono ?_); rintro e w' ⟨rfl, rfl⟩) | (go_at_call 65; (with_reducible refine (n_Parts A n c xs _ HR.out.2.1 HF.out.1 HR.out.1 HF.out.2).mono ?_); rintro e1 w1 ⟨g, x, rfl, hN, hb⟩; have HN : Hd (NuP w1 g x (sumv xs) 149) := ⟨hN⟩; have HB : Hd (Below w.heap.size w w1) := ⟨hb⟩; clear hN hb) | (go_at_call 66; (with_reducible refine (n_Sign g x (sumv xs) 149 _ HN.out).mono ?_); rintro e2 w2 ⟨rfl, hb⟩; have HB2 : Hd (Below w.heap.size w w2) := ⟨bt3 hb HB.out⟩; clear hb))
    go_ret2
    exact ⟨rfl, HB2.out⟩
  · have h1 : (lstC xs == 0) = false := by simpa using h0
    rw [if_neg h0]
    clear hn hl hR hx
    go_enter Try.func20, Try.ntmps20
    go_wp2_with (go_at_call 64; (with_reducible refine (m_Exp A n c xs _ HR.out.2.1 HR.out.2.2.1 HR.out.1 HR.out.2.2.2).mono ?_); rintro e w' ⟨rfl, rfl⟩)
    go_ret2
    exact ⟨rfl, Below.refl _ _⟩
end Go.Proofs.Ytmiafbbndonpaaa
