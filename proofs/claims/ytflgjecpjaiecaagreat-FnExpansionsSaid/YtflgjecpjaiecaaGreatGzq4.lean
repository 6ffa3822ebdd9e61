/- Gz: V5 V6 V7 V8, merged. -/
import Derived.Test.YtflgjecpjaiecaaGreatGcq4
import Derived.Test.YtflgjecpjaiecaaGreatGxq4
import Derived.StillTailTactics
import Derived.Laws.CopyOwn
import Derived.Test.YtflgjecpjaiecaaGreatGeq4
/- Contracts: which whole and dyadic numbers are in their form, both sides. -/
set_option linter.unusedVariables false
set_option linter.unusedSimpArgs false
namespace Go.Proofs.YtflgjecpjaiecaaGreat
open Go.RowKit Num
/-- a whole number in its form -/
def isWB (s : Int) (L : List Int) : Prop := L.length ≤ 100 ∧ Rng 16777216 L ∧ Lst L ∧ ((s = 0 ∧ L = []) ∨ ((s = 1 ∨ s = -1) ∧ L ≠ []))
/-- a dyadic number in its form -/
def isDB (s : Int) (L : List Int) (x : Int) : Prop := isWB s L ∧ ((s = 0 ∧ x = 0) ∨ (s ≠ 0 ∧ L.getD 0 0 % 2 = 1 ∧ -3000 ≤ x ∧ x ≤ 3000))
def RetB (P : Prop) (w : World) (e : Ending) (w' : World) : Prop := (∃ b : Bool, e = .returned (.bool b) ∧ (b = true ↔ P)) ∧ Below w.heap.size w w'
/-- the first k limbs are in their range -/
def RngK (L : List Int) (k : Nat) : Prop := ∀ j, j < k → 0 ≤ L.getD j 0 ∧ L.getD j 0 < 16777216
theorem RngK.all {L : List Int} (h : RngK L L.length) : Rng 16777216 L := by
  intro y hy
  obtain ⟨j, hj, rfl⟩ := List.getElem_of_mem hy
  have := h j hj
  rwa [List.getD_eq_getElem?_getD, List.getElem?_eq_getElem hj] at this
theorem RngK.next {L : List Int} {k : Nat} (h : RngK L k) (h1 : 0 ≤ L.getD k 0 ∧ L.getD k 0 < 16777216) : RngK L (k + 1) := by
  intro j hj
  rcases Nat.lt_or_ge j k with h2 | h2
  · exact h j h2
  · obtain rfl : j = k := by omega
    exact h1
theorem Rng.atK {L : List Int} (h : Rng 16777216 L) (k : Nat) : 0 ≤ L.getD k 0 ∧ L.getD k 0 < 16777216 := h.getD (by decide) k
theorem lst_iff {L : List Int} (h : L ≠ []) : Lst L ↔ L.getD (L.length - 1) 0 ≠ 0 := by
  have e : L.getD (L.length - 1) 0 = L.getLast h := by
    rw [List.getD_eq_getElem?_getD, List.getLast_eq_getElem, List.getElem?_eq_getElem (by have := List.length_pos_iff.2 h; omega)]
    rfl
  rw [e]
  exact ⟨fun k => k h, fun k _ => k⟩
theorem isWB_no {s : Int} {L : List Int} (h : L = [] ∧ s ≠ 0) : ¬ isWB s L := fun k => by
  rcases k.2.2.2 with ⟨k1, _⟩ | ⟨_, k2⟩
  · exact h.2 k1
  · exact k2 h.1
theorem isWB_no2 {s : Int} {L : List Int} (h : L ≠ [] ∧ s = 0) : ¬ isWB s L := fun k => by
  rcases k.2.2.2 with ⟨_, k1⟩ | ⟨k2, _⟩
  · exact h.1 k1
  · rw [h.2] at k2; rcases k2 with k2 | k2 <;> exact absurd k2 (by decide)
set_option maxHeartbeats 4000000 in
theorem i_IsWL (s : Int) (A : Option Addr) (n c : Nat) (L : List Int) (w : World) (hn : n = L.length) (hR : R64 w A L) (h1 : n ≤ 100) (h2 : 0 < n) (h3 : s = 1 ∨ s = -1) : Calls Tryz.prog 206 #[.agg #[.int .i64 s, .slice A n c]] w (RetB (isWB s L) w) := by
  have HR : Hd (R64 (w.alloc (Obj.cells #[.int .i64 s, .slice A n c] 64)) A L ∧ n = L.length) := ⟨⟨hR.below (ba _ (Below.refl _ _)), hn⟩⟩
  have HS : Hd (L.length ≤ 100 ∧ (s = 1 ∨ s = -1) ∧ L ≠ []) := ⟨⟨by omega, h3, fun e => by rw [e] at hn; simp at hn; omega⟩⟩
  have hnI : (n : Int) ≤ 100 := by omega
  have hn0 : ¬ ((n : Int) > 100) := by omega
  have hn1 : ¬ ((n : Int) = 0) := by omega
  have hn2 : 0 < (n : Int) := by omega
  have s1 : ¬ (s < -1) := by omega
  have s2 : ¬ (s > 1) := by omega
  have s3 : (s == 0) = false := by simp; omega
  clear hR hn h3
  have d0 : (w.alloc (Obj.cells #[.int .i64 s, .slice A n c] 64)).cell? ⟨w.heap.size, 0, none⟩ = some (.int .i64 s) := by go_simp
  have d1 : (w.alloc (Obj.cells #[.int .i64 s, .slice A n c] 64)).cell? ⟨w.heap.size, 1, none⟩ = some (.slice A n c) := by go_simp
  have hB : Below w.heap.size w (w.alloc (Obj.cells #[.int .i64 s, .slice A n c] 64)) := ba _ (Below.refl _ _)
  go_enter Tryz.func206, Tryz.ntmps206
  go_wp2_with fail; go_loopw [32] (fun i wr => ∃ k : Nat, i = .int .i64 k ∧ (k : Int) ≤ n ∧ Hd (RngK L k) ∧ wr = (w.alloc (Obj.cells #[.int .i64 s, .slice A n c] 64))) (fun i _ => n - (intOf i).toNat)
  case atStart => exact ⟨0, rfl, by omega, ⟨fun j hj => by omega⟩, rfl⟩
  case round =>
    obtain ⟨k, rfl, hk, HK, rfl⟩ := hrel
    by_cases h1 : k < n
    · obtain ⟨ad, hA, hcx⟩ := HR.out.1.at_ (k := k) (by have := HR.out.2; omega)
      subst hA
      have hkI : (k : Int) < n := by omega
      have hk0 : (0 : Int) ≤ k := by omega
      by_cases h2 : L.getD k 0 < 0
      · have HF : Hd (¬ isWB s L) := ⟨fun h => by have := Rng.atK h.2.1 k; omega⟩
        generalize L.getD k 0 = y at hcx h2
        go_wp2_with fail
        go_ret
        exact ⟨⟨false, rfl, by simp [HF.out]⟩, hB⟩
      · by_cases h3 : L.getD k 0 > 16777215
        · have HF : Hd (¬ isWB s L) := ⟨fun h => by have := Rng.atK h.2.1 k; omega⟩
          generalize L.getD k 0 = y at hcx h2 h3
          go_wp2_with fail
          go_ret
          exact ⟨⟨false, rfl, by simp [HF.out]⟩, hB⟩
        · have HN := Hd.mk (HK.out.next (by omega))
          generalize L.getD k 0 = y at hcx h2 h3
          go_wp2_with fail
          go_roundw
          case rel => exact ⟨k + 1, by go_num, by omega, HN, by first | rfl | trivial⟩
          case measure => simp [intOf]; omega
    · obtain rfl : k = n := by omega
      have HA : Hd (Rng 16777216 L) := ⟨by have h := HK.out; rw [HR.out.2] at h; exact h.all⟩
      clear HK
      have HLI := Hd.mk (lst_iff HS.out.2.2)
      obtain ⟨ad, hA, hcx⟩ := HR.out.1.at_ (k := k - 1) (by have := HR.out.2; omega)
      subst hA
      have e1 : L.length - 1 = k - 1 := by have := HR.out.2; omega
      rw [e1] at HLI
      have hk1 : ((k - 1 : Nat) : Int) = (k : Int) - 1 := by omega
      have q1 : (0 : Int) ≤ (k : Int) - 1 := by omega
      have q2 : (k : Int) - 1 < k := by omega
      have hk2 : ((k : Int) - 1).toNat = k - 1 := by omega
      generalize L.getD (k - 1) 0 = y at hcx HLI
      by_cases p2 : y = 0
      · have HF : Hd (¬ isWB s L) := ⟨fun h => (HLI.out.1 h.2.2.1) p2⟩
        subst p2
        go_wp2_with fail
        go_ret
        exact ⟨⟨false, rfl, by simp [HF.out]⟩, hB⟩
      · have p2b : (y == 0) = false := by simpa using p2
        have p2c : (y != 0) = true := by simpa using p2
        have HF : Hd (isWB s L) := ⟨⟨HS.out.1, HA.out, HLI.out.2 p2, Or.inr HS.out.2⟩⟩
        go_wp2_with fail
        go_ret
        exact ⟨⟨true, rfl, by simp [HF.out]⟩, hB⟩
set_option maxHeartbeats 4000000 in
theorem i_IsW (s : Int) (A : Option Addr) (n c : Nat) (L : List Int) (w : World) (hn : n = L.length) (hl : n ≤ LIM) (hR : R64 w A L) : Calls Tryz.prog 206 #[.agg #[.int .i64 s, .slice A n c]] w (RetB (isWB s L) w) := by
  have hB : Below w.heap.size w (w.alloc (Obj.cells #[.int .i64 s, .slice A n c] 64)) := ba _ (Below.refl _ _)
  have hnI : (n : Int) ≤ 1099511627776 := by unfold LIM at hl; omega
  by_cases h1 : n ≤ 100
  · have g1 : ¬ ((n : Int) > 100) := by omega
    by_cases h0 : n = 0
    · have HL0 : L = [] := List.eq_nil_of_length_eq_zero (by omega)
      by_cases hs : s = 0
      · have HF : Hd (isWB s L) := ⟨by rw [HL0, hs]; simp [isWB, Lst.nil, Rng.nil]⟩
        subst h0 hs
        clear hn hl hR HL0
        go_enter Tryz.func206, Tryz.ntmps206
        go_wp2_with fail
        refine wp_loop_rounds 1 ?_
        rw [rounds_succ]
        go_wp2_with fail
        go_ret
        exact ⟨⟨true, rfl, by simp [HF.out]⟩, hB⟩
      · have HF : Hd (¬ isWB s L) := ⟨isWB_no ⟨HL0, hs⟩⟩
        have hs1 : (s == 0) = false := by simpa using hs
        subst h0
        clear hn hl hR HL0
        by_cases s1 : s < -1
        · go_enter Tryz.func206, Tryz.ntmps206; go_wp2_with fail; go_ret; exact ⟨⟨false, rfl, by simp [HF.out]⟩, hB⟩
        · by_cases s2 : s > 1
          · go_enter Tryz.func206, Tryz.ntmps206; go_wp2_with fail; go_ret; exact ⟨⟨false, rfl, by simp [HF.out]⟩, hB⟩
          · go_enter Tryz.func206, Tryz.ntmps206; go_wp2_with fail; go_ret; exact ⟨⟨false, rfl, by simp [HF.out]⟩, hB⟩
    · have HNE : L ≠ [] := fun e => h0 (by rw [hn, e]; rfl)
      have n1 : ¬ ((n : Int) = 0) := by omega
      by_cases hs : s = 0
      · have HF : Hd (¬ isWB s L) := ⟨isWB_no2 ⟨HNE, hs⟩⟩
        subst hs
        have n2 : ((n : Int) == 0) = false := by simpa using h0
        clear hn hl hR HNE
        go_enter Tryz.func206, Tryz.ntmps206; go_wp2_with fail; go_ret; exact ⟨⟨false, rfl, by simp [HF.out]⟩, hB⟩
      · by_cases s1 : s < -1
        · have HF : Hd (¬ isWB s L) := ⟨fun k => by rcases k.2.2.2 with ⟨k1, _⟩ | ⟨k1, _⟩ <;> omega⟩
          clear hn hl hR HNE
          go_enter Tryz.func206, Tryz.ntmps206; go_wp2_with fail; go_ret; exact ⟨⟨false, rfl, by simp [HF.out]⟩, hB⟩
        · by_cases s2 : s > 1
          · have HF : Hd (¬ isWB s L) := ⟨fun k => by rcases k.2.2.2 with ⟨k1, _⟩ | ⟨k1, _⟩ <;> omega⟩
            clear hn hl hR HNE
            go_enter Tryz.func206, Tryz.ntmps206; go_wp2_with fail; go_ret; exact ⟨⟨false, rfl, by simp [HF.out]⟩, hB⟩
          · exact i_IsWL s A n c L w hn hR h1 (by omega) (by omega)
  · have g1 : (n : Int) > 100 := by omega
    have HF : Hd (¬ isWB s L) := ⟨fun k => h1 (by rw [hn]; exact k.1)⟩
    clear hn hl hR
    go_enter Tryz.func206, Tryz.ntmps206; go_wp2_with fail; go_ret; exact ⟨⟨false, rfl, by simp [HF.out]⟩, hB⟩
end Go.Proofs.YtflgjecpjaiecaaGreat
/- Contracts: which dyadic numbers are in their form, both sides. -/
set_option linter.unusedVariables false
set_option linter.unusedSimpArgs false
namespace Go.Proofs.YtflgjecpjaiecaaGreat
open Go.RowKit Num
theorem RetB.yes {P : Prop} (h : P) {f : FuncId} {args : Array Value} {w : World} (k : Calls Tryz.prog f args w (RetB P w)) : Calls Tryz.prog f args w fun e w' => e = .returned (.bool true) ∧ Below w.heap.size w w' :=
  k.mono fun e w' ⟨⟨b, hb, hi⟩, hbel⟩ => ⟨by rw [hb, hi.2 h], hbel⟩
theorem RetB.no {P : Prop} (h : ¬ P) {f : FuncId} {args : Array Value} {w : World} (k : Calls Tryz.prog f args w (RetB P w)) : Calls Tryz.prog f args w fun e w' => e = .returned (.bool false) ∧ Below w.heap.size w w' :=
  k.mono fun e w' ⟨⟨b, hb, hi⟩, hbel⟩ => ⟨by
    cases b
    · exact hb
    · exact absurd (hi.1 rfl) h, hbel⟩
theorem first_limb {w : World} {A : Option Addr} {L : List Int} (hR : R64 w A L) (h : L ≠ []) : ∃ ad, A = some ad ∧ w.cell? ad = some (.int .i64 (L.getD 0 0)) := by
  obtain ⟨ad, hA, hc⟩ := hR.at_ (k := 0) (List.length_pos_iff.2 h)
  exact ⟨ad, hA, by simpa [Addr.add] using hc⟩
set_option maxHeartbeats 4000000 in
theorem i_IsD (s x : Int) (A : Option Addr) (n c : Nat) (L : List Int) (w : World) (hn : n = L.length) (hl : n ≤ LIM) (hR : R64 w A L) : Calls Tryz.prog 130 #[.agg #[.int .i64 s, .slice A n c, .int .i64 x]] w (RetB (isDB s L x) w) := by
  have HR := Hd.mk hR
  have HB0 := Hd.mk (Blk.new w 66 #[.int .i64 s, .slice A n c, .int .i64 x])
  by_cases hw : isWB s L
  · have HW := Hd.mk (fun w hR => RetB.yes hw (i_IsW s A n c L w hn hl hR))
    by_cases hs : s = 0
    · by_cases hx0 : x = 0
      · have HF : Hd (isDB s L x) := ⟨⟨hw, Or.inl ⟨hs, hx0⟩⟩⟩
        subst hs hx0
        clear hn hl hR hw
        go_enter Tryz.func130, Tryz.ntmps130
        go_wp2_with (go_at_call 206; (with_reducible refine (HW.out _ (HR.out.below (by (repeat (first | exact Below.refl _ _ | assumption | refine Below.drew ?_ | refine bdn ?_ | refine ba _ ?_ | refine bs0 _ _ ?_ ?_ | refine bs1 _ _ _ ?_ ?_ | refine bs2 _ _ _ _ ?_ ?_ | refine bs3 _ _ _ _ _ ?_ ?_ | refine bt3 (by assumption) ?_))))).mono ?_); rintro e1 w1 ⟨rfl, hb⟩; have HK := Hd.mk (HB0.out.below hb HB0.out.lt); have c0 := HK.out.cell 0; have c1 := HK.out.cell 1; have c2 := HK.out.cell 2; have HBB : Hd (Below w.heap.size w w1) := ⟨bt3 hb (by (repeat (first | exact Below.refl _ _ | assumption | refine Below.drew ?_ | refine bdn ?_ | refine ba _ ?_ | refine bs0 _ _ ?_ ?_ | refine bs1 _ _ _ ?_ ?_ | refine bs2 _ _ _ _ ?_ ?_ | refine bs3 _ _ _ _ _ ?_ ?_ | refine bt3 (by assumption) ?_)))⟩; (try have hcy := cb HBB.out hcx); clear hb)
        go_ret; exact ⟨⟨true, rfl, by simp [HF.out]⟩, HBB.out⟩
      · have HF : Hd (¬ isDB s L x) := ⟨fun h => by rcases h.2 with ⟨_, k⟩ | ⟨k, _⟩; exact hx0 k; exact k hs⟩
        have hx1 : (x == 0) = false := by simpa using hx0
        subst hs
        clear hn hl hR hw
        go_enter Tryz.func130, Tryz.ntmps130
        go_wp2_with (go_at_call 206; (with_reducible refine (HW.out _ (HR.out.below (by (repeat (first | exact Below.refl _ _ | assumption | refine Below.drew ?_ | refine bdn ?_ | refine ba _ ?_ | refine bs0 _ _ ?_ ?_ | refine bs1 _ _ _ ?_ ?_ | refine bs2 _ _ _ _ ?_ ?_ | refine bs3 _ _ _ _ _ ?_ ?_ | refine bt3 (by assumption) ?_))))).mono ?_); rintro e1 w1 ⟨rfl, hb⟩; have HK := Hd.mk (HB0.out.below hb HB0.out.lt); have c0 := HK.out.cell 0; have c1 := HK.out.cell 1; have c2 := HK.out.cell 2; have HBB : Hd (Below w.heap.size w w1) := ⟨bt3 hb (by (repeat (first | exact Below.refl _ _ | assumption | refine Below.drew ?_ | refine bdn ?_ | refine ba _ ?_ | refine bs0 _ _ ?_ ?_ | refine bs1 _ _ _ ?_ ?_ | refine bs2 _ _ _ _ ?_ ?_ | refine bs3 _ _ _ _ _ ?_ ?_ | refine bt3 (by assumption) ?_)))⟩; (try have hcy := cb HBB.out hcx); clear hb)
        go_ret; exact ⟨⟨false, rfl, by simp [HF.out]⟩, HBB.out⟩
    · have hs1 : (s == 0) = false := by simpa using hs
      have hne : L ≠ [] := by rcases hw.2.2.2 with ⟨k, _⟩ | ⟨_, k⟩; exact absurd k hs; exact k
      obtain ⟨ad, hA, hcx⟩ := first_limb hR hne
      have hn1 : (0 : Int) < n := by have := List.length_pos_iff.2 hne; omega
      have hn2 : 0 < n := by omega
      have hy := Rng.atK hw.2.1 0
      have ht : (L.getD 0 0).tmod 2 = L.getD 0 0 % 2 := Int.tmod_eq_emod_of_nonneg hy.1
      subst hA
      rcases Int.emod_two_eq (L.getD 0 0) with ho | ho
      · have HF : Hd (¬ isDB s L x) := ⟨fun h => by rcases h.2 with ⟨k, _⟩ | ⟨_, k, _⟩; exact hs k; omega⟩
        rw [ho] at ht
        generalize L.getD 0 0 = y at hcx ht
        clear hn hl hR hw hne hy ho
        go_enter Tryz.func130, Tryz.ntmps130
        go_wp2_with (go_at_call 206; (with_reducible refine (HW.out _ (HR.out.below (by (repeat (first | exact Below.refl _ _ | assumption | refine Below.drew ?_ | refine bdn ?_ | refine ba _ ?_ | refine bs0 _ _ ?_ ?_ | refine bs1 _ _ _ ?_ ?_ | refine bs2 _ _ _ _ ?_ ?_ | refine bs3 _ _ _ _ _ ?_ ?_ | refine bt3 (by assumption) ?_))))).mono ?_); rintro e1 w1 ⟨rfl, hb⟩; have HK := Hd.mk (HB0.out.below hb HB0.out.lt); have c0 := HK.out.cell 0; have c1 := HK.out.cell 1; have c2 := HK.out.cell 2; have HBB : Hd (Below w.heap.size w w1) := ⟨bt3 hb (by (repeat (first | exact Below.refl _ _ | assumption | refine Below.drew ?_ | refine bdn ?_ | refine ba _ ?_ | refine bs0 _ _ ?_ ?_ | refine bs1 _ _ _ ?_ ?_ | refine bs2 _ _ _ _ ?_ ?_ | refine bs3 _ _ _ _ _ ?_ ?_ | refine bt3 (by assumption) ?_)))⟩; (try have hcy := cb HBB.out hcx); clear hb)
        go_ret; exact ⟨⟨false, rfl, by simp [HF.out]⟩, HBB.out⟩
      · by_cases hx1 : x ≥ -3000
        · by_cases hx2 : x ≤ 3000
          · have HF : Hd (isDB s L x) := ⟨⟨hw, Or.inr ⟨hs, ho, hx1, hx2⟩⟩⟩
            rw [ho] at ht
            generalize L.getD 0 0 = y at hcx ht
            clear hn hl hR hw hne hy ho
            go_enter Tryz.func130, Tryz.ntmps130
            go_wp2_with (go_at_call 206; (with_reducible refine (HW.out _ (HR.out.below (by (repeat (first | exact Below.refl _ _ | assumption | refine Below.drew ?_ | refine bdn ?_ | refine ba _ ?_ | refine bs0 _ _ ?_ ?_ | refine bs1 _ _ _ ?_ ?_ | refine bs2 _ _ _ _ ?_ ?_ | refine bs3 _ _ _ _ _ ?_ ?_ | refine bt3 (by assumption) ?_))))).mono ?_); rintro e1 w1 ⟨rfl, hb⟩; have HK := Hd.mk (HB0.out.below hb HB0.out.lt); have c0 := HK.out.cell 0; have c1 := HK.out.cell 1; have c2 := HK.out.cell 2; have HBB : Hd (Below w.heap.size w w1) := ⟨bt3 hb (by (repeat (first | exact Below.refl _ _ | assumption | refine Below.drew ?_ | refine bdn ?_ | refine ba _ ?_ | refine bs0 _ _ ?_ ?_ | refine bs1 _ _ _ ?_ ?_ | refine bs2 _ _ _ _ ?_ ?_ | refine bs3 _ _ _ _ _ ?_ ?_ | refine bt3 (by assumption) ?_)))⟩; (try have hcy := cb HBB.out hcx); clear hb)
            go_ret; exact ⟨⟨true, rfl, by simp [HF.out]⟩, HBB.out⟩
          · have HF : Hd (¬ isDB s L x) := ⟨fun h => by rcases h.2 with ⟨k, _⟩ | ⟨_, _, _, k⟩; exact hs k; exact hx2 k⟩
            have hx3 : decide (x ≤ 3000) = false := decide_eq_false hx2
            have hx4 : 3000 < x := by omega
            rw [ho] at ht
            generalize L.getD 0 0 = y at hcx ht
            clear hn hl hR hw hne hy ho
            go_enter Tryz.func130, Tryz.ntmps130
            go_wp2_with (go_at_call 206; (with_reducible refine (HW.out _ (HR.out.below (by (repeat (first | exact Below.refl _ _ | assumption | refine Below.drew ?_ | refine bdn ?_ | refine ba _ ?_ | refine bs0 _ _ ?_ ?_ | refine bs1 _ _ _ ?_ ?_ | refine bs2 _ _ _ _ ?_ ?_ | refine bs3 _ _ _ _ _ ?_ ?_ | refine bt3 (by assumption) ?_))))).mono ?_); rintro e1 w1 ⟨rfl, hb⟩; have HK := Hd.mk (HB0.out.below hb HB0.out.lt); have c0 := HK.out.cell 0; have c1 := HK.out.cell 1; have c2 := HK.out.cell 2; have HBB : Hd (Below w.heap.size w w1) := ⟨bt3 hb (by (repeat (first | exact Below.refl _ _ | assumption | refine Below.drew ?_ | refine bdn ?_ | refine ba _ ?_ | refine bs0 _ _ ?_ ?_ | refine bs1 _ _ _ ?_ ?_ | refine bs2 _ _ _ _ ?_ ?_ | refine bs3 _ _ _ _ _ ?_ ?_ | refine bt3 (by assumption) ?_)))⟩; (try have hcy := cb HBB.out hcx); clear hb)
            go_ret; exact ⟨⟨false, rfl, by simp [HF.out]⟩, HBB.out⟩
        · have HF : Hd (¬ isDB s L x) := ⟨fun h => by rcases h.2 with ⟨k, _⟩ | ⟨_, _, k, _⟩; exact hs k; exact hx1 k⟩
          rw [ho] at ht
          generalize L.getD 0 0 = y at hcx ht
          clear hn hl hR hw hne hy ho
          go_enter Tryz.func130, Tryz.ntmps130
          go_wp2_with (go_at_call 206; (with_reducible refine (HW.out _ (HR.out.below (by (repeat (first | exact Below.refl _ _ | assumption | refine Below.drew ?_ | refine bdn ?_ | refine ba _ ?_ | refine bs0 _ _ ?_ ?_ | refine bs1 _ _ _ ?_ ?_ | refine bs2 _ _ _ _ ?_ ?_ | refine bs3 _ _ _ _ _ ?_ ?_ | refine bt3 (by assumption) ?_))))).mono ?_); rintro e1 w1 ⟨rfl, hb⟩; have HK := Hd.mk (HB0.out.below hb HB0.out.lt); have c0 := HK.out.cell 0; have c1 := HK.out.cell 1; have c2 := HK.out.cell 2; have HBB : Hd (Below w.heap.size w w1) := ⟨bt3 hb (by (repeat (first | exact Below.refl _ _ | assumption | refine Below.drew ?_ | refine bdn ?_ | refine ba _ ?_ | refine bs0 _ _ ?_ ?_ | refine bs1 _ _ _ ?_ ?_ | refine bs2 _ _ _ _ ?_ ?_ | refine bs3 _ _ _ _ _ ?_ ?_ | refine bt3 (by assumption) ?_)))⟩; (try have hcy := cb HBB.out hcx); clear hb)
          go_ret; exact ⟨⟨false, rfl, by simp [HF.out]⟩, HBB.out⟩
  · have HW := Hd.mk (fun w hR => RetB.no hw (i_IsW s A n c L w hn hl hR))
    have HF : Hd (¬ isDB s L x) := ⟨fun h => hw h.1⟩
    clear hn hl hR hw
    go_enter Tryz.func130, Tryz.ntmps130
    go_wp2_with (go_at_call 206; (with_reducible refine (HW.out _ (HR.out.below (by (repeat (first | exact Below.refl _ _ | assumption | refine Below.drew ?_ | refine bdn ?_ | refine ba _ ?_ | refine bs0 _ _ ?_ ?_ | refine bs1 _ _ _ ?_ ?_ | refine bs2 _ _ _ _ ?_ ?_ | refine bs3 _ _ _ _ _ ?_ ?_ | refine bt3 (by assumption) ?_))))).mono ?_); rintro e1 w1 ⟨rfl, hb⟩; have HK := Hd.mk (HB0.out.below hb HB0.out.lt); have c0 := HK.out.cell 0; have c1 := HK.out.cell 1; have c2 := HK.out.cell 2; have HBB : Hd (Below w.heap.size w w1) := ⟨bt3 hb (by (repeat (first | exact Below.refl _ _ | assumption | refine Below.drew ?_ | refine bdn ?_ | refine ba _ ?_ | refine bs0 _ _ ?_ ?_ | refine bs1 _ _ _ ?_ ?_ | refine bs2 _ _ _ _ ?_ ?_ | refine bs3 _ _ _ _ _ ?_ ?_ | refine bt3 (by assumption) ?_)))⟩; (try have hcy := cb HBB.out hcx); clear hb)
    go_ret; exact ⟨⟨false, rfl, by simp [HF.out]⟩, HBB.out⟩
end Go.Proofs.YtflgjecpjaiecaaGreat
/- Contracts: the program's integers of whole numbers. -/
set_option linter.unusedVariables false
set_option linter.unusedSimpArgs false
namespace Go.Proofs.YtflgjecpjaiecaaGreat
open Go.RowKit Num
theorem c32_len (xs : List Int) : (c32 xs).length = xs.length := by simp [c32]
theorem splice_all (xs : List Int) (K : Nat) (h : xs.length ≤ K) : splice (c32 (List.replicate K 0)) 0 (c32 xs) = c32 (xs ++ List.replicate (K - xs.length) 0) := by
  unfold splice
  rw [List.take_zero, List.nil_append, Nat.zero_add, c32_len]
  simp [c32, List.map_replicate]
/-- the digits of an integer, read in a later world -/
def RdC (w : World) (A : Option Addr) (n : Nat) (xs : List Int) : Prop := (0 < (c32 xs).length → ∃ ad, A = some ad ∧ ∀ j v, (c32 xs)[j]? = some v → w.cell? (ad.add j) = some v) ∧ n = xs.length
theorem MagD.rdc {w w1 : World} {A : Option Addr} {n c : Nat} {xs : List Int} {v : Int} (h : MagD w A n c xs v) (hb : Below w.heap.size w w1) : RdC w1 A n xs := by
  refine ⟨fun h0 => ?_, h.len⟩
  obtain ⟨ad, e, _, hc⟩ := (h.reads.below hb).2 (by rw [c32_len] at h0; exact h0)
  exact ⟨ad, e, hc⟩
set_option maxRecDepth 8000 in
set_option maxHeartbeats 4000000 in
theorem m_Or0 (g y : Nat) (a : Int) (w : World) (hX : Big w g a) (hY : Big w y 0) (ha : 0 ≤ a) (hbd : Bd a) :
    Calls Tryz.prog 256 #[.pointer (some ⟨g, 0, none⟩), .pointer (some ⟨g, 0, none⟩), .pointer (some ⟨y, 0, none⟩)] w (RetZ g a w) := by
  obtain ⟨neg, A, n, c, c0, c1, ⟨xs, hM⟩, hn, z1, hneg, z2⟩ := hX.parts
  obtain ⟨neg', A', n', c', d0, d1, ⟨ys, hM'⟩, z3, z4, z5, z6⟩ := hY.parts
  clear z1 z2 z3 z4 z5 z6
  rcases hM'.small (by decide) with ⟨rfl, z7⟩ | ⟨_, _, z7⟩
  · clear z7 hM'
    have ea : (a.natAbs : Int) = a := by omega
    rw [ea] at hM
    have HZ := Hd.mk hX.intB
    have n1 : (0 : Int) ≤ n := by omega
    have n2 : ¬ ((n : Int) < 0) := by omega
    have n3 : max (n : Int) 0 = n := by omega
    have HM := Hd.mk hM
    have HBD := Hd.mk hbd
    have HKN : Hd (n ≤ n) := ⟨Nat.le_refl _⟩
    have HN : Hd (n ≤ LIM ∧ n ≤ 1000000) := ⟨⟨by unfold LIM; omega, by omega⟩⟩
    clear hX hY hM hn hneg hbd ea
    go_enter Tryz.func256, Tryz.ntmps256; go_wp2_with fail; go_still_tail 11, (by kernel_rfl); change wpList _ _ _ _ _ w.drew; go_wp2_with (first | ((with_reducible refine wpList_make32 _ rfl (.tmp 20) (.tmp 20) rfl n _ rfl rfl (by first | rfl | omega) HN.out.1 ?_); intro w1 hr1 hb1; have HR1 : Hd (Row32 w1 w.heap.size (List.replicate n 0)) := ⟨hr1⟩; have HB1 : Hd (Below w.heap.size w w1) := ⟨bt3 hb1 (by (repeat (first | exact Below.refl _ _ | assumption | refine Below.drew ?_ | refine bdn ?_ | refine ba _ ?_ | refine bs0 _ _ ?_ ?_ | refine bs1 _ _ _ ?_ ?_ | refine bs2 _ _ _ _ ?_ ?_ | refine bs3 _ _ _ _ _ ?_ ?_ | refine bt3 (by assumption) ?_)))⟩; have HX := Hd.mk (HM.out.rdc HB1.out); have e0 := cb HB1.out c0; have e1 := cb HB1.out c1; have f0 := cb HB1.out d0; have f1 := cb HB1.out d1; clear hr1 hb1) | ((refine wpList_copy_splice rfl (.tmp 22) (.tmp 26) _ _ rfl 171 Tryz.underlying166 (by kernel_rfl) (some ⟨w.heap.size, 0, none⟩) A n n n c rfl rfl w.heap.size 0 (c32 (List.replicate n 0)) 171 HR1.out (c32 xs) (by rw [c32_len, ← HX.out.2]; have := HKN.out; simp; try omega) (fun h0 => ⟨rfl, HX.out.1 h0⟩) (by rw [c32_len, c32_len]; simp; have := HX.out.2; have := HKN.out; omega) (c32_one xs) w.heap.size w HB1.out (Nat.le_refl _) ?_); intro w2 hr2 hb2; have HR2 : Hd (Row32 w2 w.heap.size (xs ++ List.replicate (n - xs.length) 0)) := ⟨by have h := hr2.out; rw [splice_all xs _ (by have := HX.out.2; have := HKN.out; omega)] at h; exact h⟩; have HB2 := Hd.mk hb2; have g0 := cb HB2.out c0; have g1 := cb HB2.out c1; have k0 := cb HB2.out d0; have k1 := cb HB2.out d1; clear hr2 hb2))
    have HP := Hd.mk (magD_row (k := n) (N := n) (v := a) (by have := HX.out.2; simp; omega) (Nat.le_refl _) HR2.out (by have h := HX.out.2; rw [h, List.take_append_of_le_length (Nat.le_refl _), List.take_of_length_le (Nat.le_refl _)]; exact HM.out.can) (by have h := HX.out.2; rw [h, List.take_append_of_le_length (Nat.le_refl _), List.take_of_length_le (Nat.le_refl _)]; exact HM.out.eq.symm))
    refine wp_loop_rounds 1 ?_
    rw [rounds_succ]
    go_wp2_with (go_at_call 240; (with_reducible refine (m_PutM g false _ n n a _ (HZ.out.below HB2.out) HP.out HBD.out).mono ?_); rintro e w4 ⟨rfl, hB, hg⟩; have HR : Hd (Big w4 g _ ∧ w.grownBy w4 (some g)) := ⟨⟨hB, bgrown HB2.out hg⟩⟩; clear hB hg)
    go_ret
    exact ⟨rfl, HR.out.1, HR.out.2⟩
  · exact absurd z7 (by decide)
theorem or24 {x d : Int} (hx0 : 0 ≤ x) (hx1 : x < 4294967296) (hm : x % 16777216 = 0) (hd0 : 0 ≤ d) (hd1 : d < 16777216) : bits .or .u32 x d = x + d := by
  rw [u32_or _ _ hx0 hx1 hd0 (by omega)]
  obtain ⟨yn, rfl⟩ : ∃ yn : Nat, x = (yn : Int) * 16777216 := ⟨(x / 16777216).toNat, by omega⟩
  obtain ⟨dn, rfl⟩ : ∃ dn : Nat, d = dn := ⟨d.toNat, by omega⟩
  have h24 : (2 : Nat) ^ 24 = 16777216 := by decide
  have e5 : ((yn : Int) * 16777216).toNat = yn * 2 ^ 24 := by rw [h24]; omega
  rw [e5, Int.toNat_natCast, or_add (by omega), h24]
  omega
theorem m_PutR (g gr N : Nat) (zs : List Int) (w : World) (hN : N = zs.length) (hz : IntB w g) (hr : Row32 w gr zs) (hg : Rng 4294967296 zs) (hl : zs.length ≤ 1000000) :
    Calls Tryz.prog 240 #[.pointer (some ⟨g, 0, none⟩), .bool false,   .slice (some ⟨gr, 0, none⟩) N N] w (RetZ g (val 4294967296 zs) w) := by
  subst hN
  obtain ⟨b0, A0, n0, c0, hb⟩ := hz
  exact (m_Put g #[] b0 A0 n0 c0 false (some ⟨gr, 0, none⟩) zs.length zs.length zs w hb rfl (by unfold LIM; omega) (Nat.le_refl _) hr.reads hg (fun ad e => by cases e; exact ⟨_, hr⟩) (Or.inl hl)).mono fun e w' k => ⟨k.1, by simpa using k.2.1, k.2.2⟩
theorem set_first {zs : List Int} {d : Int} (hne : zs ≠ []) (hr : Rng 4294967296 zs) (hm : zs.getD 0 0 % 16777216 = 0) (hd0 : 0 ≤ d) (hd1 : d < 16777216) : Rng 4294967296 (zs.set 0 (zs.getD 0 0 + d)) ∧ val 4294967296 (zs.set 0 (zs.getD 0 0 + d)) = val 4294967296 zs + d := by
  match zs, hne with
  | z :: ys, _ =>
    have hz := hr.getD (B := 4294967296) (by decide) 0
    have e : (z :: ys).getD 0 0 = z := rfl
    rw [e] at hz hm ⊢
    show Rng 4294967296 ((z + d) :: ys) ∧ (z + d) + 4294967296 * val 4294967296 ys = (z + 4294967296 * val 4294967296 ys) + d
    exact ⟨Rng.cons (by omega) (by omega) hr.tail, by omega⟩
theorem pad_zeros {xs : List Int} {a : Int} {K : Nat} (h : xs.length ≤ K) (hr : Rng 4294967296 xs) (hv : a = val 4294967296 xs) : (xs ++ List.replicate (K - xs.length) 0).length = K ∧ Rng 4294967296 (xs ++ List.replicate (K - xs.length) 0) ∧ val 4294967296 (xs ++ List.replicate (K - xs.length) 0) = a := by
  refine ⟨by simp; omega, hr.append (Rng.replicate (by decide) _), ?_⟩
  rw [val_append, val_replicate, Int.mul_zero, Int.add_zero]; exact hv.symm
set_option maxRecDepth 8000 in
set_option maxHeartbeats 4000000 in
theorem m_Or1 (g y : Nat) (a d : Int) (K : Nat) (w : World) (hX : Big w g a) (hY : Big w y d) (ha : 0 ≤ a) (hm : a % 16777216 = 0) (h0 : 0 < d) (h1 : d < 16777216) (hK : ∀ (n : Nat) A c, w.cell? ⟨g, 1, none⟩ = some (.slice A n c) → (n = 0 ∧ K = 1) ∨ (0 < n ∧ K = n)) :
    Calls Tryz.prog 256 #[.pointer (some ⟨g, 0, none⟩), .pointer (some ⟨g, 0, none⟩), .pointer (some ⟨y, 0, none⟩)] w (RetZ g (a + d) w) := by
  obtain ⟨neg, A, n, c, c0, c1, ⟨xs, hM⟩, hn, z1, hneg, z2⟩ := hX.parts
  obtain ⟨neg', A', n', c', d0, d1, ⟨ys, hM'⟩, z3, z4, z5, z6⟩ := hY.parts
  clear z1 z2 z3 z4 z5 z6
  have hk := hK n A c c1
  have ea : (a.natAbs : Int) = a := by omega
  have ed : (d.natAbs : Int) = d := by omega
  rw [ea] at hM
  rw [ed] at hM'
  rcases hM'.small (by omega) with ⟨_, z7⟩ | ⟨rfl, hys, _⟩
  · omega
  obtain ⟨ad', hA', hcy⟩ := hM'.at_ (k := 0) (by decide)
  have eq1 : ad'.add 0 = ad' := by simp [Addr.add]
  rw [eq1, hys] at hcy
  subst hA'
  have hcy2 : w.cell? ad' = some (.int .u32 d) := hcy
  have HZ := Hd.mk hX.intB
  have HM := Hd.mk hM
  have HKN : Hd (n ≤ K) := ⟨by omega⟩
  have HN : Hd (K ≤ LIM ∧ K ≤ 1000000) := ⟨⟨by unfold LIM; omega, by omega⟩⟩
  have HV : Hd (a % 16777216 = 0 ∧ 0 < d ∧ d < 16777216) := ⟨⟨hm, h0, h1⟩⟩
  have HKK := Hd.mk hk
  clear hX hY hM hM' hn hneg hys hcy eq1 ea ed hK hm h0 h1 ha
  have step : True := trivial
  rcases hk with ⟨rfl, rfl⟩ | ⟨k1, rfl⟩
  · go_enter Tryz.func256, Tryz.ntmps256; go_wp2_with fail; go_still_tail 11, (by kernel_rfl); change wpList _ _ _ _ _ w.drew; go_wp2_with (first | ((with_reducible refine wpList_make32 _ rfl (.tmp 20) (.tmp 20) rfl 1 _ rfl rfl (by first | rfl | omega) HN.out.1 ?_); intro w1 hr1 hb1; have HR1 : Hd (Row32 w1 w.heap.size (List.replicate 1 0)) := ⟨hr1⟩; have HB1 : Hd (Below w.heap.size w w1) := ⟨bt3 hb1 (by (repeat (first | exact Below.refl _ _ | assumption | refine Below.drew ?_ | refine bdn ?_ | refine ba _ ?_ | refine bs0 _ _ ?_ ?_ | refine bs1 _ _ _ ?_ ?_ | refine bs2 _ _ _ _ ?_ ?_ | refine bs3 _ _ _ _ _ ?_ ?_ | refine bt3 (by assumption) ?_)))⟩; have HX := Hd.mk (HM.out.rdc HB1.out); have e0 := cb HB1.out c0; have e1 := cb HB1.out c1; have f0 := cb HB1.out d0; have f1 := cb HB1.out d1; clear hr1 hb1) | ((refine wpList_copy_splice rfl (.tmp 22) (.tmp 26) _ _ rfl 171 Tryz.underlying166 (by kernel_rfl) (some ⟨w.heap.size, 0, none⟩) A 1 1 0 c rfl rfl w.heap.size 0 (c32 (List.replicate 1 0)) 171 HR1.out (c32 xs) (by rw [c32_len, ← HX.out.2]; have := HKN.out; simp; try omega) (fun h0 => ⟨rfl, HX.out.1 h0⟩) (by rw [c32_len, c32_len]; simp; have := HX.out.2; have := HKN.out; omega) (c32_one xs) w.heap.size w HB1.out (Nat.le_refl _) ?_); intro w2 hr2 hb2; have HR2 : Hd (Row32 w2 w.heap.size (xs ++ List.replicate (1 - xs.length) 0)) := ⟨by have h := hr2.out; rw [splice_all xs _ (by have := HX.out.2; have := HKN.out; omega)] at h; exact h⟩; have HB2 := Hd.mk hb2; have g0 := cb HB2.out c0; have g1 := cb HB2.out c1; have k0 := cb HB2.out d0; have k1 := cb HB2.out d1; clear hr2 hb2))
    have hpad := pad_zeros (K := 1) (a := a) (by have := HX.out.2; have := HKN.out; omega) HM.out.can.1 HM.out.eq; generalize xs ++ List.replicate (1 - xs.length) 0 = zs at *; have hzne : zs ≠ [] := (fun e => by rw [e] at hpad; have := hpad.1; simp at this; try omega); have hlow := low_digit (B := 4294967296) (by decide) hpad.2.1 hzne; have hz0 := hpad.2.1.getD (B := 4294967296) (by decide) 0; have hm24 : zs.getD 0 0 % 16777216 = 0 := (by rw [← hlow, hpad.2.2]; have := HV.out.1; omega); have HSF := Hd.mk (set_first (d := d) hzne hpad.2.1 hm24 (by have := HV.out; omega) HV.out.2.2); have hor := or24 (d := d) hz0.1 hz0.2 hm24 (by have := HV.out; omega) HV.out.2.2; have HLZ : Hd (1 = (zs.set 0 (zs.getD 0 0 + d)).length ∧ (zs.set 0 (zs.getD 0 0 + d)).length ≤ 1000000 ∧ val 4294967296 zs = a) := ⟨⟨by simp; have := hpad.1; omega, by simp; have := hpad.1; have := HN.out.2; omega, hpad.2.2⟩⟩; have o0 := Row32.cell HR2.out (i := 0) (List.length_pos_iff.2 hzne); have o1 : w2.frozen? ⟨w.heap.size, 0, none⟩ = false := Blk.frozen HR2.out 0; have hcz := cb HB2.out hcy2; have HRS := Hd.mk (Row32.set HR2.out 0 (zs.getD 0 0 + d)); have HBS : Hd (Below w.heap.size w (w2.setCell ⟨w.heap.size, 0, none⟩ (.int .u32 (zs.getD 0 0 + d)))) := ⟨HB2.out.setCell (by simp) _⟩; clear hpad hzne hlow hz0 hm24; generalize zs.getD 0 0 = z0 at *; generalize zs.set 0 (z0 + d) = zz at *; refine wp_loop_rounds 2 ?_; rw [rounds_succ]; go_wp2_with fail; rw [rounds_succ]; go_wp2_with (go_at_call 240; (with_reducible refine (m_PutR g w.heap.size 1 zz _ HLZ.out.1 (HZ.out.below HBS.out) HRS.out HSF.out.1 HLZ.out.2.1).mono ?_); rintro e w4 ⟨rfl, hB, hg⟩; have HR : Hd (Big w4 g _ ∧ w.grownBy w4 (some g)) := ⟨⟨hB, bgrown HBS.out hg⟩⟩; clear hB hg); go_ret; exact ⟨rfl, by have h := HR.out.1; rw [HSF.out.2, HLZ.out.2.2] at h; exact h, HR.out.2⟩
  · have n1 : (1 : Int) ≤ K := by omega
    have n2 : ¬ ((K : Int) < 1) := by omega
    have n3 : max (K : Int) 1 = K := by omega
    go_enter Tryz.func256, Tryz.ntmps256; go_wp2_with fail; go_still_tail 11, (by kernel_rfl); change wpList _ _ _ _ _ w.drew; go_wp2_with (first | ((with_reducible refine wpList_make32 _ rfl (.tmp 20) (.tmp 20) rfl K _ rfl rfl (by first | rfl | omega) HN.out.1 ?_); intro w1 hr1 hb1; have HR1 : Hd (Row32 w1 w.heap.size (List.replicate K 0)) := ⟨hr1⟩; have HB1 : Hd (Below w.heap.size w w1) := ⟨bt3 hb1 (by (repeat (first | exact Below.refl _ _ | assumption | refine Below.drew ?_ | refine bdn ?_ | refine ba _ ?_ | refine bs0 _ _ ?_ ?_ | refine bs1 _ _ _ ?_ ?_ | refine bs2 _ _ _ _ ?_ ?_ | refine bs3 _ _ _ _ _ ?_ ?_ | refine bt3 (by assumption) ?_)))⟩; have HX := Hd.mk (HM.out.rdc HB1.out); have e0 := cb HB1.out c0; have e1 := cb HB1.out c1; have f0 := cb HB1.out d0; have f1 := cb HB1.out d1; clear hr1 hb1) | ((refine wpList_copy_splice rfl (.tmp 22) (.tmp 26) _ _ rfl 171 Tryz.underlying166 (by kernel_rfl) (some ⟨w.heap.size, 0, none⟩) A K K K c rfl rfl w.heap.size 0 (c32 (List.replicate K 0)) 171 HR1.out (c32 xs) (by rw [c32_len, ← HX.out.2]; have := HKN.out; simp; try omega) (fun h0 => ⟨rfl, HX.out.1 h0⟩) (by rw [c32_len, c32_len]; simp; have := HX.out.2; have := HKN.out; omega) (c32_one xs) w.heap.size w HB1.out (Nat.le_refl _) ?_); intro w2 hr2 hb2; have HR2 : Hd (Row32 w2 w.heap.size (xs ++ List.replicate (K - xs.length) 0)) := ⟨by have h := hr2.out; rw [splice_all xs _ (by have := HX.out.2; have := HKN.out; omega)] at h; exact h⟩; have HB2 := Hd.mk hb2; have g0 := cb HB2.out c0; have g1 := cb HB2.out c1; have k0 := cb HB2.out d0; have k1 := cb HB2.out d1; clear hr2 hb2))
    have hpad := pad_zeros (K := K) (a := a) (by have := HX.out.2; have := HKN.out; omega) HM.out.can.1 HM.out.eq; generalize xs ++ List.replicate (K - xs.length) 0 = zs at *; have hzne : zs ≠ [] := (fun e => by rw [e] at hpad; have := hpad.1; simp at this; try omega); have hlow := low_digit (B := 4294967296) (by decide) hpad.2.1 hzne; have hz0 := hpad.2.1.getD (B := 4294967296) (by decide) 0; have hm24 : zs.getD 0 0 % 16777216 = 0 := (by rw [← hlow, hpad.2.2]; have := HV.out.1; omega); have HSF := Hd.mk (set_first (d := d) hzne hpad.2.1 hm24 (by have := HV.out; omega) HV.out.2.2); have hor := or24 (d := d) hz0.1 hz0.2 hm24 (by have := HV.out; omega) HV.out.2.2; have HLZ : Hd (K = (zs.set 0 (zs.getD 0 0 + d)).length ∧ (zs.set 0 (zs.getD 0 0 + d)).length ≤ 1000000 ∧ val 4294967296 zs = a) := ⟨⟨by simp; have := hpad.1; omega, by simp; have := hpad.1; have := HN.out.2; omega, hpad.2.2⟩⟩; have o0 := Row32.cell HR2.out (i := 0) (List.length_pos_iff.2 hzne); have o1 : w2.frozen? ⟨w.heap.size, 0, none⟩ = false := Blk.frozen HR2.out 0; have hcz := cb HB2.out hcy2; have HRS := Hd.mk (Row32.set HR2.out 0 (zs.getD 0 0 + d)); have HBS : Hd (Below w.heap.size w (w2.setCell ⟨w.heap.size, 0, none⟩ (.int .u32 (zs.getD 0 0 + d)))) := ⟨HB2.out.setCell (by simp) _⟩; clear hpad hzne hlow hz0 hm24; generalize zs.getD 0 0 = z0 at *; generalize zs.set 0 (z0 + d) = zz at *; refine wp_loop_rounds 2 ?_; rw [rounds_succ]; go_wp2_with fail; rw [rounds_succ]; go_wp2_with (go_at_call 240; (with_reducible refine (m_PutR g w.heap.size K zz _ HLZ.out.1 (HZ.out.below HBS.out) HRS.out HSF.out.1 HLZ.out.2.1).mono ?_); rintro e w4 ⟨rfl, hB, hg⟩; have HR : Hd (Big w4 g _ ∧ w.grownBy w4 (some g)) := ⟨⟨hB, bgrown HBS.out hg⟩⟩; clear hB hg); go_ret; exact ⟨rfl, by have h := HR.out.1; rw [HSF.out.2, HLZ.out.2.2] at h; exact h, HR.out.2⟩
theorem m_OrZ (g y : Nat) (a d : Int) (w : World) (hX : Big w g a) (hY : Big w y d) (ha : 0 ≤ a) (hm : a % 16777216 = 0) (h0 : 0 ≤ d) (h1 : d < 16777216) (hbd : Bd a) :
    Calls Tryz.prog 256 #[.pointer (some ⟨g, 0, none⟩), .pointer (some ⟨g, 0, none⟩), .pointer (some ⟨y, 0, none⟩)] w (RetZ g (a + d) w) := by
  by_cases hd : d = 0
  · subst hd
    rw [Int.add_zero]
    exact m_Or0 g y a w hX hY ha hbd
  · obtain ⟨neg, A, n, c, c0, c1, hr⟩ := hX.parts
    refine m_Or1 g y a d (max n 1) w hX hY ha hm (by omega) h1 (fun n' A' c' h => ?_)
    rw [c1] at h
    have e : n = n' := by injection h with h; injection h
    omega
end Go.Proofs.YtflgjecpjaiecaaGreat
/- Contracts: the program's numbers of dyadic numbers. -/
set_option linter.unusedVariables false
set_option linter.unusedSimpArgs false
namespace Go.Proofs.YtflgjecpjaiecaaGreat
open Go.RowKit Num
theorem m_Lsh24 (g : Nat) (a : Int) (w : World) (hX : Big w g a) (hbd : Bd (a * 16777216)) :
    Calls Tryz.prog 194 #[.pointer (some ⟨g, 0, none⟩), .pointer (some ⟨g, 0, none⟩), .int .u64 24] w (RetZ g (a * 16777216) w) := by
  have h := m_LshZ g g a 24 w hX.intB hX (by decide) hbd
  exact h
/-- the limbs from the j-th on -/
theorem val_drop {L : List Int} {j : Nat} (h : j < L.length) : val 16777216 (L.drop j) = L.getD j 0 + 16777216 * val 16777216 (L.drop (j + 1)) := by
  rw [List.drop_eq_getElem_cons h, List.getD_eq_getElem?_getD, List.getElem?_eq_getElem h]
  rfl
theorem drop_bd {L : List Int} (hr : Rng 16777216 L) (hl : L.length ≤ 100000) (j : Nat) : 0 ≤ val 16777216 (L.drop j) ∧ (0 < j → Bd (val 16777216 (L.drop j) * 16777216)) := by
  have h0 := val_nonneg (B := 16777216) (by decide) (hr.drop j)
  have h1 := val_lt (B := 16777216) (by decide) (hr.drop j)
  refine ⟨h0, fun hj => ?_⟩
  rw [List.length_drop] at h1
  by_cases hjl : L.length ≤ j
  · rw [List.drop_eq_nil_of_le hjl]
    simp [val]
    exact bd_zero
  · have h2 : val 16777216 (L.drop j) * 16777216 < 16777216 ^ (L.length - j + 1) := by
      rw [Int.pow_succ]
      exact Int.mul_lt_mul_of_pos_right h1 (by decide)
    have h3 : (16777216 : Int) ^ (L.length - j + 1) ≤ 16777216 ^ 100000 := pow_le (by decide) (by omega)
    have h4 : TOP = 16777216 ^ 100000 := rfl
    rw [← h4] at h3
    have h5 : 0 ≤ val 16777216 (L.drop j) * 16777216 := Int.mul_nonneg h0 (by decide)
    unfold Bd
    generalize TOP = T at *
    generalize (16777216 : Int) ^ (L.length - j + 1) = q at *
    omega
/-- what toBig holds in its loop -/
structure TbH (w wr : World) (s : Int) (A : Option Addr) (n c : Nat) (V : Int) : Prop where
  bel : Below w.heap.size w wr
  bt : Blk wr w.heap.size 64 #[.int .i64 s, .slice A n c]
  hb : Big wr (w.heap.size + 1) V
theorem TbH.below {w wr w' : World} {s V : Int} {A : Option Addr} {n c : Nat} (h : TbH w wr s A n c V) (hb : Below wr.heap.size wr w') : TbH w w' s A n c V := ⟨bt3 hb h.bel, h.bt.below hb h.bt.lt, h.hb.below hb⟩
theorem TbH.put {w wr w' : World} {s V V' : Int} {A : Option Addr} {n c : Nat} (h : TbH w wr s A n c V) (hg : wr.grownBy w' (some (w.heap.size + 1))) (hb : Big w' (w.heap.size + 1) V') : TbH w w' s A n c V' :=
  ⟨h.bel.grown hg h.bel.size (fun k hk => by cases hk; omega), h.bt.grown hg (by simp), hb⟩
theorem TbH.start (w : World) (s : Int) (A : Option Addr) (n c : Nat) : TbH w ((w.alloc (Obj.cells #[.int .i64 s, .slice A n c] 64)).alloc (Obj.cells #[.bool false, .slice none 0 0] 168)) s A n c 0 := by
  refine ⟨ba _ (ba _ (Below.refl _ _)), (Blk.new _ _ _).alloc _, Big.zero ?_⟩
  have := Blk.new (w.alloc (Obj.cells #[.int .i64 s, .slice A n c] 64)) 168 #[.bool false, .slice none 0 0]
  simpa using this
set_option maxHeartbeats 4000000 in
theorem i_toBig (s : Int) (A : Option Addr) (n c : Nat) (L : List Int) (m : Int) (w : World) (hn : n = L.length) (hl : n ≤ 100000) (hR : R64 w A L) (hN : NumS s L m) (hbm : Bd m) :
    Calls Tryz.prog 207 #[.agg #[.int .i64 s, .slice A n c]] w (RetI m w) := by
  have HR : Hd (R64 w A L ∧ n = L.length ∧ L.length ≤ 100000) := ⟨⟨hR, hn, by omega⟩⟩
  have HNS := Hd.mk hN
  have HBM := Hd.mk hbm
  have HT0 := Hd.mk (TbH.start w s A n c)
  have hnI : (n : Int) ≤ 100000 := by omega
  have hw0 : IntKind.i64.wrap ((n : Int) - 1) = (n : Int) - 1 := by rw [IntKind.wrap_i64]; omega
  clear hn hl hR hN hbm
  go_enter Tryz.func207, Tryz.ntmps207
  go_wp2_with fail
  go_loopw [4] (fun i wr => ∃ j : Nat, i = .int .i64 ((j : Int) - 1) ∧ (j : Int) ≤ n ∧ Hd (TbH w wr s A n c (val 16777216 (L.drop j)))) (fun i _ => (intOf i + 1).toNat)
  case atStart => exact ⟨n, by first | rfl | (rw [hw0]), by omega, ⟨by rw [HR.out.2.1, List.drop_length]; rw [HR.out.2.1] at HT0; exact HT0.out⟩⟩
  case round =>
    clear HT0
    obtain ⟨j, rfl, hj, HT⟩ := hrel
    by_cases h1 : 0 < j
    · obtain ⟨k, rfl⟩ : ∃ k, j = k + 1 := ⟨j - 1, by omega⟩
      obtain ⟨ad, hA, hcx⟩ := HR.out.1.at_ (k := k) (by have := HR.out.2.1; omega)
      subst hA
      have ek : (((k + 1 : Nat) : Int)) - 1 = k := by omega
      rw [ek]
      have hk0 : (0 : Int) ≤ k := by omega
      have hk1 : (k : Int) < n := by omega
      have hlim := Rng.atK HNS.out.can.1 k
      have HVB := Hd.mk (drop_bd HNS.out.can.1 HR.out.2.2 (k + 1))
      have HVD := Hd.mk (val_drop (L := L) (j := k) (by have := HR.out.2.1; omega))
      have hw1 : IntKind.i64.wrap ((k : Int) - 1) = (k : Int) - 1 := by rw [IntKind.wrap_i64]; omega
      have hcy := cb HT.out.bel hcx
      have c0 := HT.out.bt.cell 0; have c1 := HT.out.bt.cell 1
      generalize hlb : L.getD k 0 = y at *
      have HLB : Hd (0 ≤ y ∧ y < 16777216) := ⟨hlim⟩
      generalize val 16777216 (L.drop (k + 1)) = V at *
      clear hlb hlim
      go_wp2_with (first
        | (go_at_call 194; (with_reducible refine (m_Lsh24 (w.heap.size + 1) V _ (HT.out.hb.below (by (repeat (first | exact Below.refl _ _ | assumption | refine Below.drew ?_ | refine bdn ?_ | refine ba _ ?_ | refine bs0 _ _ ?_ ?_ | refine bs1 _ _ _ ?_ ?_ | refine bs2 _ _ _ _ ?_ ?_ | refine bs3 _ _ _ _ _ ?_ ?_ | refine bt3 (by assumption) ?_)))) (HVB.out.2 (by omega))).mono ?_); rintro e1 w1 ⟨rfl, hB, hg⟩; have HT1 := Hd.mk (HT.out.put hg hB); have u0 := HT1.out.bt.cell 0; have u1 := HT1.out.bt.cell 1; have hcz := cb HT1.out.bel hcx; clear hB hg)
        | (go_at_call 184; (with_reducible refine (m_New y _ (by have := HLB.out; omega) (by have := HLB.out; omega)).mono ?_); rintro e2 w2 ⟨gm, rfl, hgm, hBm, hb⟩; have HT2 := Hd.mk (HT1.out.below hb); have HM := Hd.mk hBm; clear hgm hBm hb)
        | (go_at_call 256; (with_reducible refine (m_OrZ (w.heap.size + 1) gm (V * 16777216) y _ HT2.out.hb HM.out (Int.mul_nonneg HVB.out.1 (by decide)) (Int.mul_emod_left _ _) HLB.out.1 HLB.out.2 (HVB.out.2 (by omega))).mono ?_); rintro e3 w3 ⟨rfl, hB, hg⟩; have HT3 := Hd.mk (HT2.out.put hg hB); clear hB hg))
      go_roundw
      case rel => exact ⟨k, by go_num, by omega, ⟨by rw [HVD.out, Int.mul_comm, Int.add_comm]; exact HT3.out⟩⟩
      case measure => first | (simp [intOf]; done) | (simp [intOf]; omega)
    · obtain rfl : j = 0 := by omega
      have e0 : ((0 : Nat) : Int) - 1 = -1 := by omega
      rw [e0]
      have c0 := HT.out.bt.cell 0; have c1 := HT.out.bt.cell 1
      have hv : val 16777216 (L.drop 0) = val 16777216 L := by rw [List.drop_zero]
      rw [hv] at HT
      rcases HNS.out.sgn with ⟨hs, hL⟩ | ⟨hs | hs, hL⟩
      · have hm : m = val 16777216 L := by rw [HNS.out.eq, hs, hL]; simp [val]
        subst hs
        rw [← hm] at HT
        go_wp2_with fail
        go_ret
        exact ⟨w.heap.size + 1, rfl, by omega, HT.out.hb, HT.out.bel⟩
      · have hm : m = val 16777216 L := by rw [HNS.out.eq, hs, Int.one_mul]
        subst hs
        rw [← hm] at HT
        go_wp2_with fail
        go_ret
        exact ⟨w.heap.size + 1, rfl, by omega, HT.out.hb, HT.out.bel⟩
      · have hm : m = -val 16777216 L := by rw [HNS.out.eq, hs]; omega
        have HMV := Hd.mk hm
        subst hs
        go_wp2_with (go_at_call 257; (with_reducible refine (m_NegZ (w.heap.size + 1) (w.heap.size + 1) (val 16777216 L) _ HT.out.hb.intB HT.out.hb (by rw [← HMV.out]; exact HBM.out)).mono ?_); rintro e3 w3 ⟨rfl, hB, hg⟩; have HT3 := Hd.mk (HT.out.put hg hB); clear hB hg)
        go_ret
        exact ⟨w.heap.size + 1, rfl, by omega, by rw [HMV.out]; exact HT3.out.hb, HT3.out.bel⟩
/-- what numberOf holds -/
structure NoH (w wx : World) (s x : Int) (A : Option Addr) (n c : Nat) : Prop where
  bel : Below w.heap.size w wx
  b0 : Blk wx w.heap.size 66 #[.int .i64 s, .slice A n c, .int .i64 x]
  b1 : Blk wx (w.heap.size + 1) 113 #[.pointer none, .int .i64 0]
abbrev Wno (w : World) (s x : Int) (A : Option Addr) (n c : Nat) : World := (w.alloc (Obj.cells #[.int .i64 s, .slice A n c, .int .i64 x] 66)).alloc (Obj.cells #[.pointer none, .int .i64 0] 113)
theorem NoH.start (w : World) (s x : Int) (A : Option Addr) (n c : Nat) : NoH w (Wno w s x A n c) s x A n c := by
  refine ⟨ba _ (ba _ (Below.refl _ _)), (Blk.new _ _ _).alloc _, ?_⟩
  have := Blk.new (w.alloc (Obj.cells #[.int .i64 s, .slice A n c, .int .i64 x] 66)) 113 #[.pointer none, .int .i64 0]
  simpa [Wno] using this
theorem NoH.below {w wx w' : World} {s x : Int} {A : Option Addr} {n c : Nat} (h : NoH w wx s x A n c) (hb : Below wx.heap.size wx w') : NoH w w' s x A n c := ⟨bt3 hb h.bel, h.b0.below hb h.b0.lt, h.b1.below hb h.b1.lt⟩
theorem NuF.of_dy {m x V : Int} {l : Nat} (h : DyF m x V l) : NuF m x V l := ⟨h.val, h.lo, h.lsc, h.hi, h.bd⟩
set_option maxHeartbeats 4000000 in
theorem n_Number (s x : Int) (A : Option Addr) (n c : Nat) (L : List Int) (m V : Int) (l : Nat) (w : World) (hn : n = L.length) (hl : n ≤ 100000) (hR : R64 w A L) (hN : NumS s L m) (hF : DyF m x V l) :
    Calls Tryz.prog 131 #[.agg #[.int .i64 s, .slice A n c, .int .i64 x]] w (RetN V l w) := by
  have HC := Hd.mk (fun w hR => i_toBig s A n c L m w hn hl hR hN (dv_bd (e := x) (by rw [← hF.val]; exact hF.bd)))
  have HR := Hd.mk hR
  have HF := Hd.mk (NuF.of_dy hF)
  have HS := Hd.mk (NoH.start w s x A n c)
  have c0 : (Wno w s x A n c).cell? _ = some (.int .i64 s) := HS.out.b0.cell 0
  have c1 : (Wno w s x A n c).cell? _ = some (.slice A n c) := HS.out.b0.cell 1
  have c2 : (Wno w s x A n c).cell? _ = some (.int .i64 x) := HS.out.b0.cell 2
  clear hn hl hR hN hF
  go_enter Tryz.func131, Tryz.ntmps131
  go_wp2_with fail
  go_region_held3 (fun w' => w'.cell? ⟨w.heap.size, 0, none⟩ = some (.int .i64 s) ∧ w'.cell? ⟨w.heap.size, 1, none⟩ = some (.slice A n c) ∧ w'.cell? ⟨w.heap.size, 2, none⟩ = some (.int .i64 x)) ((first | assumption | (refine keep3 (W := (Wno w s x A n c)) ?_ ⟨c0, c1, c2⟩; (repeat (first | exact Below.refl _ _ | assumption | refine Below.drew ?_ | refine bdn ?_ | refine ba _ ?_ | refine bs0 _ _ ?_ ?_ | refine bs1 _ _ _ ?_ ?_ | refine bs2 _ _ _ _ ?_ ?_ | refine bs3 _ _ _ _ _ ?_ ?_ | refine bt3 (by assumption) ?_)); done) | go_keep | (refine ⟨?_, ?_, ?_⟩ <;> go_simp) | (constructor <;> go_simp)))
    (first | (go_at_call 207; (with_reducible refine (HC.out _ (HR.out.below (by (repeat (first | exact Below.refl _ _ | assumption | refine Below.drew ?_ | refine bdn ?_ | refine ba _ ?_ | refine bs0 _ _ ?_ ?_ | refine bs1 _ _ _ ?_ ?_ | refine bs2 _ _ _ _ ?_ ?_ | refine bs3 _ _ _ _ _ ?_ ?_ | refine bt3 (by assumption) ?_))))).mono ?_); rintro e1 w1 ⟨g1, rfl, hg, hB, hb⟩; have hq1 : Below (Wno w s x A n c).heap.size (Wno w s x A n c) w1 := bt3 hb (by (repeat (first | exact Below.refl _ _ | assumption | refine Below.drew ?_ | refine bdn ?_ | refine ba _ ?_ | refine bs0 _ _ ?_ ?_ | refine bs1 _ _ _ ?_ ?_ | refine bs2 _ _ _ _ ?_ ?_ | refine bs3 _ _ _ _ _ ?_ ?_ | refine bt3 (by assumption) ?_))); have HK := Hd.mk (HS.out.below hq1); have HB := Hd.mk hB; have r0 : w1.cell? _ = some (.pointer none) := HK.out.b1.cell 0; have r1 : w1.cell? _ = some (.int .i64 0) := HK.out.b1.cell 1; have f0 := HK.out.b1.frozen 0; have f1 := HK.out.b1.frozen 1; clear hg hB hb))
  all_goals
    go_wp2_with fail
    refine bodyPost_ret (v := .agg #[.pointer (some ⟨g1, 0, none⟩), .int .i64 x]) (by simp (maxDischargeDepth := 7) [results, Tryz.results131, go_sem, *]) rfl ⟨g1, x, rfl, (NuP.of HB.out HF.out).set2 HK.out.b1 (by decide) (by decide) _ _, ?_⟩
    have hbb := HK.out.bel
    (repeat (first | exact Below.refl _ _ | assumption | refine Below.drew ?_ | refine bdn ?_ | refine ba _ ?_ | refine bs0 _ _ ?_ ?_ | refine bs1 _ _ _ ?_ ?_ | refine bs2 _ _ _ _ ?_ ?_ | refine bs3 _ _ _ _ _ ?_ ?_ | refine bt3 (by assumption) ?_))
end Go.Proofs.YtflgjecpjaiecaaGreat
