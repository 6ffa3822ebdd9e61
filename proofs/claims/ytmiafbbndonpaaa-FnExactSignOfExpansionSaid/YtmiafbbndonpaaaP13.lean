/- Contracts: the program's integers: differences, products, opposites, absolute values, comparisons, lengths. -/
import Derived.Test.YtmiafbbndonpaaaP12
import Derived.Deep.QuietTactic
import Derived.BigQuiet
set_option linter.unusedVariables false
set_option linter.unusedSimpArgs false
namespace Go.Proofs.Ytmiafbbndonpaaa
open Go.RowKit Num
set_option maxHeartbeats 4000000 in
theorem m_SubZ (g x y : Nat) (a b : Int) (w : World) (hz : IntB w g) (hX : Big w x a) (hY : Big w y b) (hne : y ≠ g) (hbd : Bd (a - b)) :
    Calls Try.prog 127 #[.pointer (some ⟨g, 0, none⟩), .pointer (some ⟨x, 0, none⟩), .pointer (some ⟨y, 0, none⟩)] w (RetZ g (a - b) w) := by
  obtain ⟨neg, A, n, c, c0, c1, hM, hn, ha, hneg, h0⟩ := hY.parts
  have HV : Hd (a - b = a + sgv (!neg) b.natAbs) := ⟨by
    have : sgv (!neg) b.natAbs = -b := by
      conv => rhs; rw [ha]
      unfold sgv; cases neg <;> simp
    omega⟩
  have HZ : Hd (IntB w g ∧ Big w x a ∧ MagP w A n c b.natAbs ∧ (n : Int) ≤ 1000000 ∧ Bd (a + sgv (!neg) b.natAbs) ∧ y ≠ g) := ⟨⟨hz, hX, hM, hn, by rw [← HV.out]; exact hbd, hne⟩⟩
  rw [HV.out]
  clear hz hX hY hbd hM hn ha hneg h0 hne
  go_enter Try.func127, Try.ntmps127
  go_wp2_with fail
  go_region_held3 (fun w' => w'.cell? ⟨y, 0, none⟩ = some (.bool neg) ∧ w'.cell? ⟨y, 1, none⟩ = some (.slice A n c)) ((first | (exact keepG HR.out.2 HZ.out.2.2.2.2.2 c0 c1) | assumption | exact ⟨by assumption, by assumption⟩ | (constructor <;> go_simp)))
    (first | (go_at_call 189; (with_reducible refine (m_PlusZ g x a (!neg) A n c _ _ (HZ.out.1.below (by (repeat (first | exact Below.refl _ _ | assumption | refine Below.drew ?_ | refine bdn ?_ | refine ba _ ?_ | refine bs0 _ _ ?_ ?_ | refine bs1 _ _ _ ?_ ?_ | refine bs2 _ _ _ _ ?_ ?_ | refine bs3 _ _ _ _ _ ?_ ?_ | refine bt3 (by assumption) ?_)))) (HZ.out.2.1.below (by (repeat (first | exact Below.refl _ _ | assumption | refine Below.drew ?_ | refine bdn ?_ | refine ba _ ?_ | refine bs0 _ _ ?_ ?_ | refine bs1 _ _ _ ?_ ?_ | refine bs2 _ _ _ _ ?_ ?_ | refine bs3 _ _ _ _ _ ?_ ?_ | refine bt3 (by assumption) ?_)))) (HZ.out.2.2.1.below (by (repeat (first | exact Below.refl _ _ | assumption | refine Below.drew ?_ | refine bdn ?_ | refine ba _ ?_ | refine bs0 _ _ ?_ ?_ | refine bs1 _ _ _ ?_ ?_ | refine bs2 _ _ _ _ ?_ ?_ | refine bs3 _ _ _ _ _ ?_ ?_ | refine bt3 (by assumption) ?_)))) HZ.out.2.2.2.1 HZ.out.2.2.2.2.1).mono ?_); rintro e w2 ⟨rfl, hB, hg⟩; have HR : Hd (Big w2 g _ ∧ w.grownBy w2 (some g)) := ⟨⟨hB, gdrew hg⟩⟩; clear hB hg))
  go_wp2_with fail
  go_ret
  exact ⟨rfl, HR.out.1, HR.out.2⟩
theorem keepH {w w1 w2 : World} {x y : Nat} {v0 v1 u0 u1 : Value} (hb : Below w.heap.size w w1) (h0 : w.cell? ⟨x, 0, none⟩ = some v0) (h1 : w.cell? ⟨x, 1, none⟩ = some v1) (k0 : w.cell? ⟨y, 0, none⟩ = some u0) (k1 : w.cell? ⟨y, 1, none⟩ = some u1) :
    w1.cell? ⟨x, 0, none⟩ = some v0 ∧ w1.cell? ⟨x, 1, none⟩ = some v1 ∧ w1.cell? ⟨y, 0, none⟩ = some u0 ∧ w1.cell? ⟨y, 1, none⟩ = some u1 := ⟨cb hb h0, cb hb h1, cb hb k0, cb hb k1⟩
theorem keepK {w w2 : World} {x y g : Nat} {v0 v1 u0 u1 : Value} (hg : w.grownBy w2 (some g)) (hx : x ≠ g) (hy : y ≠ g) (h0 : w.cell? ⟨x, 0, none⟩ = some v0) (h1 : w.cell? ⟨x, 1, none⟩ = some v1) (k0 : w.cell? ⟨y, 0, none⟩ = some u0) (k1 : w.cell? ⟨y, 1, none⟩ = some u1) :
    w2.cell? ⟨x, 0, none⟩ = some v0 ∧ w2.cell? ⟨x, 1, none⟩ = some v1 ∧ w2.cell? ⟨y, 0, none⟩ = some u0 ∧ w2.cell? ⟨y, 1, none⟩ = some u1 :=
  ⟨(keepG hg hx h0 h1).1, (keepG hg hx h0 h1).2, (keepG hg hy k0 k1).1, (keepG hg hy k0 k1).2⟩
set_option maxHeartbeats 4000000 in
theorem m_MulZ (g x y : Nat) (a b : Int) (w : World) (hz : IntB w g) (hX : Big w x a) (hY : Big w y b) (hxe : x ≠ g) (hne : y ≠ g) (hbd : Bd (a * b)) :
    Calls Try.prog 173 #[.pointer (some ⟨g, 0, none⟩), .pointer (some ⟨x, 0, none⟩), .pointer (some ⟨y, 0, none⟩)] w (RetZ g (a * b) w) := by
  obtain ⟨neg, A, n, c, c0, c1, hM, hn, ha, hneg, h0⟩ := hX.parts
  obtain ⟨neg', A', n', c', d0, d1, hM', hn', ha', hneg', h0'⟩ := hY.parts
  have HZ : Hd (IntB w g ∧ MagP w A n c a.natAbs ∧ MagP w A' n' c' b.natAbs ∧ n ≤ 1000000 ∧ n' ≤ 1000000 ∧ x ≠ g ∧ y ≠ g) := ⟨⟨hz, hM, hM', by omega, by omega, hxe, hne⟩⟩
  have HV : Hd (sgv (!(neg == neg')) ((a.natAbs : Int) * b.natAbs) = a * b) := ⟨by
    conv => rhs; rw [ha, ha']
    unfold sgv; cases neg <;> cases neg' <;> simp [Int.neg_mul, Int.mul_neg]⟩
  have HBD : Hd (Bd ((a.natAbs : Int) * b.natAbs)) := ⟨by
    have := bd_abs hbd; rw [Int.natAbs_mul] at this; simpa using this⟩
  clear hz hX hY hbd hM hn ha hneg h0 hne hM' hn' ha' hneg' h0' hxe
  go_enter Try.func173, Try.ntmps173
  go_wp2_with fail
  go_region_held3 (fun w' => w'.cell? ⟨x, 0, none⟩ = some (.bool neg) ∧ w'.cell? ⟨x, 1, none⟩ = some (.slice A n c) ∧ w'.cell? ⟨y, 0, none⟩ = some (.bool neg') ∧ w'.cell? ⟨y, 1, none⟩ = some (.slice A' n' c')) ((first | (exact keepK HR.out.2 HZ.out.2.2.2.2.2.1 HZ.out.2.2.2.2.2.2 c0 c1 d0 d1) | (exact keepH (w2 := w) HB.out c0 c1 d0 d1) | assumption | exact ⟨by assumption, by assumption, by assumption, by assumption⟩ | (refine ⟨?_, ?_, ?_, ?_⟩ <;> go_simp)))
    (first | (go_at_call 213; (with_reducible refine (m_Mul A A' n n' c c' _ _ _ (HZ.out.2.1.below (by (repeat (first | exact Below.refl _ _ | assumption | refine Below.drew ?_ | refine bdn ?_ | refine ba _ ?_ | refine bs0 _ _ ?_ ?_ | refine bs1 _ _ _ ?_ ?_ | refine bs2 _ _ _ _ ?_ ?_ | refine bs3 _ _ _ _ _ ?_ ?_ | refine bt3 (by assumption) ?_)))) (HZ.out.2.2.1.below (by (repeat (first | exact Below.refl _ _ | assumption | refine Below.drew ?_ | refine bdn ?_ | refine ba _ ?_ | refine bs0 _ _ ?_ ?_ | refine bs1 _ _ _ ?_ ?_ | refine bs2 _ _ _ _ ?_ ?_ | refine bs3 _ _ _ _ _ ?_ ?_ | refine bt3 (by assumption) ?_)))) HZ.out.2.2.2.1 HZ.out.2.2.2.2.1).mono ?_); rintro e w1 ⟨A1, n1, k1, rfl, hM1, hb⟩; have HM1 : Hd (MagP w1 A1 n1 k1 _) := ⟨hM1⟩; have HB : Hd (Below w.heap.size w w1) := ⟨Below.trans (Below.drew (Below.refl _ _)) hb⟩; clear hM1 hb) | (go_at_call 186; (with_reducible refine (m_PutM g (!(neg == neg')) A1 n1 k1 _ _ (HZ.out.1.below HB.out) HM1.out HBD.out).mono ?_); rintro e w2 ⟨rfl, hB, hg⟩; have HR : Hd (Big w2 g _ ∧ w.grownBy w2 (some g)) := ⟨⟨hB, bgrown HB.out hg⟩⟩; clear hB hg))
  go_wp2_with fail
  go_ret
  exact ⟨rfl, by rw [← HV.out]; exact HR.out.1, HR.out.2⟩
set_option maxHeartbeats 4000000 in
theorem m_NegZ (g x : Nat) (a : Int) (w : World) (hz : IntB w g) (hX : Big w x a) (hbd : Bd (-a)) :
    Calls Try.prog 196 #[.pointer (some ⟨g, 0, none⟩), .pointer (some ⟨x, 0, none⟩)] w (RetZ g (-a) w) := by
  obtain ⟨neg, A, n, c, c0, c1, hM, hn, ha, hneg, h0⟩ := hX.parts
  have HZ : Hd (IntB w g) := ⟨hz⟩
  have HM : Hd (MagP w A n c a.natAbs) := ⟨hM⟩
  have HN : Hd (n ≤ 1000000) := ⟨by omega⟩
  have HV : Hd (sgv (!neg) (a.natAbs : Int) = -a) := ⟨by
    conv => rhs; rw [ha]
    unfold sgv; cases neg <;> simp⟩
  have HBD : Hd (Bd (a.natAbs : Int)) := ⟨bdN hbd (by omega)⟩
  clear hz hM hn ha hneg h0 hbd hX
  go_enter Try.func196, Try.ntmps196
  go_wp2_with fail
  go_region_with (first | (go_at_call 204; (with_reducible refine (m_Clone A n c _ _ (HM.out.below (by (repeat (first | exact Below.refl _ _ | assumption | refine Below.drew ?_ | refine bdn ?_ | refine ba _ ?_ | refine bs0 _ _ ?_ ?_ | refine bs1 _ _ _ ?_ ?_ | refine bs2 _ _ _ _ ?_ ?_ | refine bs3 _ _ _ _ _ ?_ ?_ | refine bt3 (by assumption) ?_)))) HN.out).mono ?_); rintro e w1 ⟨A1, n1, k1, rfl, hM1, hb⟩; have HM1 : Hd (MagP w1 A1 n1 k1 _) := ⟨hM1⟩; have HB : Hd (Below w.heap.size w w1) := ⟨Below.trans (Below.drew (Below.refl _ _)) hb⟩; have e0 := cb HB.out c0; have e1 := cb HB.out c1; clear hM1 hb) | (go_at_call 186; (with_reducible refine (m_PutM g (!neg) A1 n1 k1 _ _ (HZ.out.below HB.out) HM1.out HBD.out).mono ?_); rintro e w2 ⟨rfl, hB, hg⟩; have HR : Hd (Big w2 g _ ∧ w.grownBy w2 (some g)) := ⟨⟨hB, bgrown HB.out hg⟩⟩; clear hB hg))
  all_goals
    go_wp2_with fail
    go_ret
    exact ⟨rfl, by rw [← HV.out]; exact HR.out.1, HR.out.2⟩
set_option maxHeartbeats 4000000 in
theorem m_AbsZ (g x : Nat) (a : Int) (w : World) (hz : IntB w g) (hX : Big w x a) (hbd : Bd (a.natAbs : Int)) :
    Calls Try.prog 165 #[.pointer (some ⟨g, 0, none⟩), .pointer (some ⟨x, 0, none⟩)] w (RetZ g (a.natAbs : Int) w) := by
  obtain ⟨neg, A, n, c, c0, c1, hM, hn, ha, hneg, h0⟩ := hX.parts
  have HZ : Hd (IntB w g) := ⟨hz⟩
  have HM : Hd (MagP w A n c a.natAbs) := ⟨hM⟩
  have HN : Hd (n ≤ 1000000) := ⟨by omega⟩
  have HV : Hd (sgv false (a.natAbs : Int) = a.natAbs) := ⟨rfl⟩
  have HBD : Hd (Bd (a.natAbs : Int)) := ⟨hbd⟩
  clear hz hM hn ha hneg h0 hbd hX
  go_enter Try.func165, Try.ntmps165
  go_wp2_with (first | (go_at_call 204; (with_reducible refine (m_Clone A n c _ _ (HM.out.below (by (repeat (first | exact Below.refl _ _ | assumption | refine Below.drew ?_ | refine bdn ?_ | refine ba _ ?_ | refine bs0 _ _ ?_ ?_ | refine bs1 _ _ _ ?_ ?_ | refine bs2 _ _ _ _ ?_ ?_ | refine bs3 _ _ _ _ _ ?_ ?_ | refine bt3 (by assumption) ?_)))) HN.out).mono ?_); rintro e w1 ⟨A1, n1, k1, rfl, hM1, hb⟩; have HM1 : Hd (MagP w1 A1 n1 k1 _) := ⟨hM1⟩; have HB : Hd (Below w.heap.size w w1) := ⟨hb⟩; clear hM1 hb) | (go_at_call 186; (with_reducible refine (m_PutM g false A1 n1 k1 _ _ (HZ.out.below HB.out) HM1.out HBD.out).mono ?_); rintro e w2 ⟨rfl, hB, hg⟩; have HR : Hd (Big w2 g _ ∧ w.grownBy w2 (some g)) := ⟨⟨hB, bgrown HB.out hg⟩⟩; clear hB hg))
  go_ret
  exact ⟨rfl, by rw [← HV.out]; exact HR.out.1, HR.out.2⟩
set_option maxHeartbeats 4000000 in
theorem m_BitLen (x : Nat) (a : Int) (w : World) (hX : Big w x a) :
    Calls Try.prog 162 #[.pointer (some ⟨x, 0, none⟩)] w fun e w' => e = .returned (.int .i64 (bln a.natAbs)) ∧ w = w' := by
  obtain ⟨neg, A, n, c, c0, c1, hM, hn, ha, hneg, h0⟩ := hX.parts
  have HM : Hd (MagP w A n c a.natAbs) := ⟨hM⟩
  have HN : Hd (n ≤ 1000000) := ⟨by omega⟩
  clear hM hn ha hneg h0 hX
  go_enter Try.func162, Try.ntmps162
  go_wp2_with (go_at_call 202; (with_reducible refine (m_Bits A n c _ _ HM.out HN.out).mono ?_); rintro e w' ⟨rfl, rfl⟩)
  go_ret
  exact ⟨by simp, rfl⟩
set_option maxHeartbeats 4000000 in
theorem m_CmpZ (x y : Nat) (a b : Int) (w : World) (hX : Big w x a) (hY : Big w y b) :
    Calls Try.prog 125 #[.pointer (some ⟨x, 0, none⟩), .pointer (some ⟨y, 0, none⟩)] w fun e w' => e = .returned (.int .i64 (cmpI a b)) ∧ ∃ d, w' = w.drewN d := by
  obtain ⟨neg, A, n, c, c0, c1, hM, hn, ha, hneg, h0⟩ := hX.parts
  obtain ⟨neg', A', n', c', d0, d1, hM', hn', ha', hneg', h0'⟩ := hY.parts
  have HM : Hd (MagP w A n c a.natAbs ∧ MagP w A' n' c' b.natAbs ∧ n ≤ 1000000 ∧ n' ≤ 1000000) := ⟨⟨hM, hM', by omega, by omega⟩⟩
  clear hM hn hM' hn' h0 h0' ha ha' hX hY
  cases neg
  · have h1 : ¬ a < 0 := of_decide_eq_false hneg.symm
    cases neg'
    · have h2 : ¬ b < 0 := of_decide_eq_false hneg'.symm
      have HC : Hd (cmpI a b = cmpI (a.natAbs : Int) (b.natAbs : Int)) := ⟨by rw [show (a.natAbs : Int) = a by omega, show (b.natAbs : Int) = b by omega]⟩
      clear hneg hneg' h1 h2
      generalize cmpI a b = r at *
      go_enter Try.func125, Try.ntmps125
      go_wp2
      go_quiet ((go_at_call 188; exact Calls.quiet_of (m_CmpM A A' n n' c c' _ _ r _ (HM.out.1.below (by (repeat (first | exact Below.refl _ _ | assumption | refine Below.drew ?_ | refine bdn ?_ | refine ba _ ?_ | refine bs0 _ _ ?_ ?_ | refine bs1 _ _ _ ?_ ?_ | refine bs2 _ _ _ _ ?_ ?_ | refine bs3 _ _ _ _ _ ?_ ?_ | refine bt3 (by assumption) ?_)))) (HM.out.2.1.below (by (repeat (first | exact Below.refl _ _ | assumption | refine Below.drew ?_ | refine bdn ?_ | refine ba _ ?_ | refine bs0 _ _ ?_ ?_ | refine bs1 _ _ _ ?_ ?_ | refine bs2 _ _ _ _ ?_ ?_ | refine bs3 _ _ _ _ _ ?_ ?_ | refine bt3 (by assumption) ?_)))) HM.out.2.2.1 HM.out.2.2.2 HC.out)))
      all_goals
        go_wp2_with fail
        go_ret
        exact ⟨rfl, _, rfl⟩
    · have h2 : b < 0 := of_decide_eq_true hneg'.symm
      have hc : cmpI a b = 1 := by unfold cmpI; rw [if_neg (by omega), if_pos (by omega)]
      rw [hc]
      clear hneg hneg' h1 h2 hc
      go_enter Try.func125, Try.ntmps125
      go_wp2
      go_ret
      exact ⟨rfl, 0, rfl⟩
  · have h1 : a < 0 := of_decide_eq_true hneg.symm
    cases neg'
    · have h2 : ¬ b < 0 := of_decide_eq_false hneg'.symm
      have hc : cmpI a b = -1 := by unfold cmpI; rw [if_pos (by omega)]
      rw [hc]
      clear hneg hneg' h1 h2 hc
      go_enter Try.func125, Try.ntmps125
      go_wp2
      go_ret
      exact ⟨rfl, 0, rfl⟩
    · have h2 : b < 0 := of_decide_eq_true hneg'.symm
      have HC : Hd (cmpI a b = cmpI (b.natAbs : Int) (a.natAbs : Int)) := ⟨by unfold cmpI; repeat' split <;> omega⟩
      clear hneg hneg' h1 h2
      generalize cmpI a b = r at *
      go_enter Try.func125, Try.ntmps125
      go_wp2
      go_quiet ((go_at_call 188; exact Calls.quiet_of (m_CmpM A' A n' n c' c _ _ r _ (HM.out.2.1.below (by (repeat (first | exact Below.refl _ _ | assumption | refine Below.drew ?_ | refine bdn ?_ | refine ba _ ?_ | refine bs0 _ _ ?_ ?_ | refine bs1 _ _ _ ?_ ?_ | refine bs2 _ _ _ _ ?_ ?_ | refine bs3 _ _ _ _ _ ?_ ?_ | refine bt3 (by assumption) ?_)))) (HM.out.1.below (by (repeat (first | exact Below.refl _ _ | assumption | refine Below.drew ?_ | refine bdn ?_ | refine ba _ ?_ | refine bs0 _ _ ?_ ?_ | refine bs1 _ _ _ ?_ ?_ | refine bs2 _ _ _ _ ?_ ?_ | refine bs3 _ _ _ _ _ ?_ ?_ | refine bt3 (by assumption) ?_)))) HM.out.2.2.2 HM.out.2.2.1 HC.out)))
      all_goals
        go_wp2_with fail
        go_ret
        exact ⟨rfl, _, rfl⟩
end Go.Proofs.Ytmiafbbndonpaaa
