/- Contracts: the program's integers: sums, differences, products, opposites, comparisons, bits. -/
import Derived.Test.YtmiafbbndonpaaaP11
set_option linter.unusedVariables false
set_option linter.unusedSimpArgs false
namespace Go.Proofs.Ytmiafbbndonpaaa
open Go.RowKit Num
theorem m_CmpM (A A' : Option Addr) (n m c c' : Nat) (v u r : Int) (w : World) (hX : MagP w A n c v) (hY : MagP w A' m c' u) (hl : n ≤ 1000000) (hl' : m ≤ 1000000) (hr : r = cmpI v u) :
    Calls Try.prog 188 #[.slice A n c, .slice A' m c'] w fun e w' => e = .returned (.int .i64 r) ∧ ∃ d, w' = w.drewN d := by
  obtain ⟨xs, hX⟩ := hX
  obtain ⟨ys, hY⟩ := hY
  rw [hr, hX.eq, hY.eq]
  exact m_Cmp A A' n m c c' xs ys w hX.len hY.len hX.reads hY.reads hX.can hY.can hl hl'
theorem MagP.nonneg {w : World} {A : Option Addr} {n c : Nat} {v : Int} (h : MagP w A n c v) : 0 ≤ v := by
  obtain ⟨xs, h⟩ := h; rw [h.eq]; exact val_nonneg (by decide) h.can.1
theorem bdN {a v : Int} (h : Bd a) (hv : v.natAbs = a.natAbs) : Bd v := by unfold Bd at *; generalize TOP = T at *; omega
set_option maxHeartbeats 4000000 in
theorem m_PlusZ (g x : Nat) (a : Int) (neg : Bool) (A' : Option Addr) (m c' : Nat) (v : Int) (w : World) (hz : IntB w g) (hX : Big w x a) (hY : MagP w A' m c' v) (hm : (m : Int) ≤ 1000000) (hbd : Bd (a + sgv neg v)) :
    Calls Try.prog 189 #[.pointer (some ⟨g, 0, none⟩), .pointer (some ⟨x, 0, none⟩), .bool neg, .slice A' m c'] w (RetZ g (a + sgv neg v) w) := by
  obtain ⟨xneg, A, n, c, c0, c1, hM, hn, ha, hneg, h0⟩ := hX.parts
  have hv0 := hY.nonneg
  have HZ : Hd (IntB w g) := ⟨hz⟩
  have HM : Hd (MagP w A n c a.natAbs) := ⟨hM⟩
  have HY : Hd (MagP w A' m c' v) := ⟨hY⟩
  have HN : Hd (n ≤ 1000000 ∧ m ≤ 1000000) := ⟨⟨by omega, by omega⟩⟩
  have hn0 := Int.natCast_nonneg a.natAbs
  clear hneg h0 hX
  by_cases hs : xneg = neg
  · subst hs
    have HV : Hd (sgv xneg ((a.natAbs : Int) + v) = a + sgv xneg v) := ⟨by
      conv => rhs; rw [ha]
      unfold sgv; split <;> omega⟩
    have HBD : Hd (Bd ((a.natAbs : Int) + v)) := ⟨bdN hbd (by rw [← HV.out]; unfold sgv; split <;> omega)⟩
    rw [← HV.out]
    clear ha hv0 hn0 hbd hz hM hY
    generalize ((a.natAbs : Nat) : Int) = b at *
    go_enter Try.func189, Try.ntmps189
    go_wp2_with (first | (go_at_call 207; (with_reducible refine (m_Add A A' n m c c' _ _ _ (HM.out.below (by (repeat (first | exact Below.refl _ _ | assumption | refine Below.drew ?_ | refine bdn ?_ | refine ba _ ?_ | refine bs0 _ _ ?_ ?_ | refine bs1 _ _ _ ?_ ?_ | refine bs2 _ _ _ _ ?_ ?_ | refine bs3 _ _ _ _ _ ?_ ?_ | refine bt3 (by assumption) ?_)))) (HY.out.below (by (repeat (first | exact Below.refl _ _ | assumption | refine Below.drew ?_ | refine bdn ?_ | refine ba _ ?_ | refine bs0 _ _ ?_ ?_ | refine bs1 _ _ _ ?_ ?_ | refine bs2 _ _ _ _ ?_ ?_ | refine bs3 _ _ _ _ _ ?_ ?_ | refine bt3 (by assumption) ?_)))) HN.out.1 HN.out.2).mono ?_); rintro e w1 ⟨A1, n1, k1, rfl, hM1, hb⟩; have HM1 : Hd (MagP w1 A1 n1 k1 _) := ⟨hM1⟩; have HB : Hd (Below w.heap.size w w1) := ⟨hb⟩; clear hM1 hb) | (go_at_call 186; (with_reducible refine (m_PutM g xneg A1 n1 k1 _ _ (HZ.out.below HB.out) HM1.out HBD.out).mono ?_); rintro e w2 ⟨rfl, hB, hg⟩; have HR : Hd (Big w2 g _ ∧ w.grownBy w2 (some g)) := ⟨⟨hB, bgrown HB.out hg⟩⟩; clear hB hg))
    go_ret
    exact ⟨rfl, HR.out.1, HR.out.2⟩
  · obtain rfl : neg = !xneg := by cases xneg <;> cases neg <;> first | rfl | exact absurd rfl hs
    by_cases hc : v ≤ a.natAbs
    · have HV : Hd (sgv xneg ((a.natAbs : Int) - v) = a + sgv (!xneg) v) := ⟨by
        conv => rhs; rw [ha]
        unfold sgv; cases xneg <;> simp <;> omega⟩
      have HBD : Hd (Bd ((a.natAbs : Int) - v)) := ⟨bdN hbd (by rw [← HV.out]; unfold sgv; split <;> omega)⟩
      obtain ⟨r, hr, hr0⟩ : ∃ r, r = cmpI (a.natAbs : Int) v ∧ 0 ≤ r := ⟨_, rfl, by unfold cmpI; split <;> (try split) <;> omega⟩
      have HC : Hd (r = cmpI (a.natAbs : Int) v) := ⟨hr⟩
      have HLE : Hd (v ≤ a.natAbs) := ⟨hc⟩
      rw [← HV.out]
      clear ha hv0 hn0 hbd hz hM hY hr hc hs
      generalize ((a.natAbs : Nat) : Int) = b at *
      go_enter Try.func189, Try.ntmps189
      go_wp2_with (first | (go_at_call 188; (with_reducible refine (m_CmpM A A' n m c c' _ _ r _ (HM.out.below (by (repeat (first | exact Below.refl _ _ | assumption | refine Below.drew ?_ | refine bdn ?_ | refine ba _ ?_ | refine bs0 _ _ ?_ ?_ | refine bs1 _ _ _ ?_ ?_ | refine bs2 _ _ _ _ ?_ ?_ | refine bs3 _ _ _ _ _ ?_ ?_ | refine bt3 (by assumption) ?_)))) (HY.out.below (by (repeat (first | exact Below.refl _ _ | assumption | refine Below.drew ?_ | refine bdn ?_ | refine ba _ ?_ | refine bs0 _ _ ?_ ?_ | refine bs1 _ _ _ ?_ ?_ | refine bs2 _ _ _ _ ?_ ?_ | refine bs3 _ _ _ _ _ ?_ ?_ | refine bt3 (by assumption) ?_)))) HN.out.1 HN.out.2 HC.out).mono ?_); rintro e w1 ⟨rfl, ⟨nd, rfl⟩⟩))
      go_region_with (first | (go_at_call 206; (with_reducible refine (m_Sub A A' n m c c' _ _ _ (HM.out.below (by (repeat (first | exact Below.refl _ _ | assumption | refine Below.drew ?_ | refine bdn ?_ | refine ba _ ?_ | refine bs0 _ _ ?_ ?_ | refine bs1 _ _ _ ?_ ?_ | refine bs2 _ _ _ _ ?_ ?_ | refine bs3 _ _ _ _ _ ?_ ?_ | refine bt3 (by assumption) ?_)))) (HY.out.below (by (repeat (first | exact Below.refl _ _ | assumption | refine Below.drew ?_ | refine bdn ?_ | refine ba _ ?_ | refine bs0 _ _ ?_ ?_ | refine bs1 _ _ _ ?_ ?_ | refine bs2 _ _ _ _ ?_ ?_ | refine bs3 _ _ _ _ _ ?_ ?_ | refine bt3 (by assumption) ?_)))) HN.out.1 HLE.out).mono ?_); rintro e w1 ⟨A1, n1, k1, rfl, hM1, hb⟩; have HM1 : Hd (MagP w1 A1 n1 k1 _) := ⟨hM1⟩; have HB : Hd (Below w.heap.size w w1) := ⟨Below.trans (bdn (Below.refl _ _)) hb⟩; have e0 := cb HB.out c0; have e1 := cb HB.out c1; clear hM1 hb) | (go_at_call 186; (with_reducible refine (m_PutM g xneg A1 n1 k1 _ _ (HZ.out.below HB.out) HM1.out HBD.out).mono ?_); rintro e w2 ⟨rfl, hB, hg⟩; have HR : Hd (Big w2 g _ ∧ w.grownBy w2 (some g)) := ⟨⟨hB, bgrown HB.out hg⟩⟩; clear hB hg))
      all_goals
        go_wp2_with fail
        go_ret
        exact ⟨rfl, HR.out.1, HR.out.2⟩
    · have HV : Hd (sgv (!xneg) (v - (a.natAbs : Int)) = a + sgv (!xneg) v) := ⟨by
        conv => rhs; rw [ha]
        unfold sgv; cases xneg <;> simp <;> omega⟩
      have HBD : Hd (Bd (v - (a.natAbs : Int))) := ⟨bdN hbd (by rw [← HV.out]; unfold sgv; split <;> omega)⟩
      obtain ⟨r, hr, hr0⟩ : ∃ r, r = cmpI (a.natAbs : Int) v ∧ ¬ 0 ≤ r := ⟨_, rfl, by unfold cmpI; rw [if_pos (by omega)]; omega⟩
      have HC : Hd (r = cmpI (a.natAbs : Int) v) := ⟨hr⟩
      have HLE : Hd ((a.natAbs : Int) ≤ v) := ⟨by omega⟩
      rw [← HV.out]
      clear ha hv0 hn0 hbd hz hM hY hr hc hs
      generalize ((a.natAbs : Nat) : Int) = b at *
      go_enter Try.func189, Try.ntmps189
      go_wp2_with (first | (go_at_call 188; (with_reducible refine (m_CmpM A A' n m c c' _ _ r _ (HM.out.below (by (repeat (first | exact Below.refl _ _ | assumption | refine Below.drew ?_ | refine bdn ?_ | refine ba _ ?_ | refine bs0 _ _ ?_ ?_ | refine bs1 _ _ _ ?_ ?_ | refine bs2 _ _ _ _ ?_ ?_ | refine bs3 _ _ _ _ _ ?_ ?_ | refine bt3 (by assumption) ?_)))) (HY.out.below (by (repeat (first | exact Below.refl _ _ | assumption | refine Below.drew ?_ | refine bdn ?_ | refine ba _ ?_ | refine bs0 _ _ ?_ ?_ | refine bs1 _ _ _ ?_ ?_ | refine bs2 _ _ _ _ ?_ ?_ | refine bs3 _ _ _ _ _ ?_ ?_ | refine bt3 (by assumption) ?_)))) HN.out.1 HN.out.2 HC.out).mono ?_); rintro e w1 ⟨rfl, ⟨nd, rfl⟩⟩) | (go_at_call 206; (with_reducible refine (m_Sub A' A m n c' c _ _ _ (HY.out.below (by (repeat (first | exact Below.refl _ _ | assumption | refine Below.drew ?_ | refine bdn ?_ | refine ba _ ?_ | refine bs0 _ _ ?_ ?_ | refine bs1 _ _ _ ?_ ?_ | refine bs2 _ _ _ _ ?_ ?_ | refine bs3 _ _ _ _ _ ?_ ?_ | refine bt3 (by assumption) ?_)))) (HM.out.below (by (repeat (first | exact Below.refl _ _ | assumption | refine Below.drew ?_ | refine bdn ?_ | refine ba _ ?_ | refine bs0 _ _ ?_ ?_ | refine bs1 _ _ _ ?_ ?_ | refine bs2 _ _ _ _ ?_ ?_ | refine bs3 _ _ _ _ _ ?_ ?_ | refine bt3 (by assumption) ?_)))) HN.out.2 HLE.out).mono ?_); rintro e w1 ⟨A1, n1, k1, rfl, hM1, hb⟩; have HM1 : Hd (MagP w1 A1 n1 k1 _) := ⟨hM1⟩; have HB : Hd (Below w.heap.size w w1) := ⟨Below.trans (bdn (Below.refl _ _)) hb⟩; clear hM1 hb) | (go_at_call 186; (with_reducible refine (m_PutM g (!xneg) A1 n1 k1 _ _ (HZ.out.below HB.out) HM1.out HBD.out).mono ?_); rintro e w2 ⟨rfl, hB, hg⟩; have HR : Hd (Big w2 g _ ∧ w.grownBy w2 (some g)) := ⟨⟨hB, bgrown HB.out hg⟩⟩; clear hB hg))
      go_ret
      exact ⟨rfl, HR.out.1, HR.out.2⟩
theorem keepG {w w2 : World} {g y o0 o1 : Nat} {v0 v1 : Value} (hg : w.grownBy w2 (some g)) (hne : y ≠ g) (h0 : w.cell? ⟨y, o0, none⟩ = some v0) (h1 : w.cell? ⟨y, o1, none⟩ = some v1) :
    w2.cell? ⟨y, o0, none⟩ = some v0 ∧ w2.cell? ⟨y, o1, none⟩ = some v1 := by
  have hlt : y < w.heap.size := World.block_lt_of_cell? w _ h0
  have e := hg.block y hlt (by simpa using hne)
  exact ⟨(World.cell?_of_block (a := ⟨y, o0, none⟩) e).trans h0, (World.cell?_of_block (a := ⟨y, o1, none⟩) e).trans h1⟩
theorem gdrew {w w1 : World} {row : Option Nat} (h : w.drew.grownBy w1 row) : w.grownBy w1 row := ⟨h.os, h.tape, h.output, h.size, h.block⟩
set_option maxHeartbeats 4000000 in
theorem m_AddZ (g x y : Nat) (a b : Int) (w : World) (hz : IntB w g) (hX : Big w x a) (hY : Big w y b) (hne : y ≠ g) (hbd : Bd (a + b)) :
    Calls Try.prog 167 #[.pointer (some ⟨g, 0, none⟩), .pointer (some ⟨x, 0, none⟩), .pointer (some ⟨y, 0, none⟩)] w (RetZ g (a + b) w) := by
  obtain ⟨neg, A, n, c, c0, c1, hM, hn, ha, hneg, h0⟩ := hY.parts
  have HZ : Hd (IntB w g ∧ Big w x a ∧ MagP w A n c b.natAbs ∧ (n : Int) ≤ 1000000 ∧ Bd (a + sgv neg b.natAbs) ∧ y ≠ g) := ⟨⟨hz, hX, hM, hn, by rw [← ha]; exact hbd, hne⟩⟩
  have HV : Hd (b = sgv neg b.natAbs) := ⟨ha⟩
  rw [HV.out]
  clear hz hX hY hbd hM hn ha hneg h0 hne
  go_enter Try.func167, Try.ntmps167
  go_wp2_with fail
  go_region_held3 (fun w' => w'.cell? ⟨y, 0, none⟩ = some (.bool neg) ∧ w'.cell? ⟨y, 1, none⟩ = some (.slice A n c)) ((first | (exact keepG HR.out.2 HZ.out.2.2.2.2.2 c0 c1) | assumption | exact ⟨by assumption, by assumption⟩ | (constructor <;> go_simp)))
    (first | (go_at_call 189; (with_reducible refine (m_PlusZ g x a neg A n c _ _ (HZ.out.1.below (by (repeat (first | exact Below.refl _ _ | assumption | refine Below.drew ?_ | refine bdn ?_ | refine ba _ ?_ | refine bs0 _ _ ?_ ?_ | refine bs1 _ _ _ ?_ ?_ | refine bs2 _ _ _ _ ?_ ?_ | refine bs3 _ _ _ _ _ ?_ ?_ | refine bt3 (by assumption) ?_)))) (HZ.out.2.1.below (by (repeat (first | exact Below.refl _ _ | assumption | refine Below.drew ?_ | refine bdn ?_ | refine ba _ ?_ | refine bs0 _ _ ?_ ?_ | refine bs1 _ _ _ ?_ ?_ | refine bs2 _ _ _ _ ?_ ?_ | refine bs3 _ _ _ _ _ ?_ ?_ | refine bt3 (by assumption) ?_)))) (HZ.out.2.2.1.below (by (repeat (first | exact Below.refl _ _ | assumption | refine Below.drew ?_ | refine bdn ?_ | refine ba _ ?_ | refine bs0 _ _ ?_ ?_ | refine bs1 _ _ _ ?_ ?_ | refine bs2 _ _ _ _ ?_ ?_ | refine bs3 _ _ _ _ _ ?_ ?_ | refine bt3 (by assumption) ?_)))) HZ.out.2.2.2.1 HZ.out.2.2.2.2.1).mono ?_); rintro e w2 ⟨rfl, hB, hg⟩; have HR : Hd (Big w2 g _ ∧ w.grownBy w2 (some g)) := ⟨⟨hB, gdrew hg⟩⟩; clear hB hg))
  go_wp2_with fail
  go_ret
  exact ⟨rfl, HR.out.1, HR.out.2⟩
end Go.Proofs.Ytmiafbbndonpaaa
