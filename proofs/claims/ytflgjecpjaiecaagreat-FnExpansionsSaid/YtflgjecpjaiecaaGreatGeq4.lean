/- Ge: P11 P12 P13 P14 P15 P16, merged. -/
import Derived.Test.YtflgjecpjaiecaaGreatGdq4
import Derived.RegionTactic
import Derived.Deep.QuietTactic
import Derived.BigQuiet
import Derived.Test.YtflgjecpjaiecaaGreatGcq4
/- Contracts: the program's integers: sums, differences, products, shifts. -/
set_option linter.unusedVariables false
set_option linter.unusedSimpArgs false
namespace Go.Proofs.YtflgjecpjaiecaaGreat
open Go.RowKit Num
/-- block g is an integer, whatever it holds -/
def IntB (w : World) (g : Nat) : Prop := ∃ b A n c, Blk w g 168 #[.bool b, .slice A n c]
theorem Big.intB {w : World} {g : Nat} {a : Int} (h : Big w g a) : IntB w g := by
  obtain ⟨neg, A, n, c, xs, hb, _⟩ := h; exact ⟨_, _, _, _, hb⟩
theorem IntB.below {w w' : World} {g : Nat} (h : IntB w g) (hb : Below w.heap.size w w') : IntB w' g := by
  obtain ⟨b, A, n, c, h⟩ := h; exact ⟨b, A, n, c, h.below hb h.lt⟩
theorem IntB.lt {w : World} {g : Nat} (h : IntB w g) : g < w.heap.size := by
  obtain ⟨b, A, n, c, h⟩ := h; exact h.lt
theorem BigD.below {w w' : World} {neg : Bool} {A : Option Addr} {n c : Nat} {xs : List Int} {a : Int} (h : BigD w neg A n c xs a) (hb : Below w.heap.size w w') : BigD w' neg A n c xs a :=
  ⟨h.len, h.cap, h.lim, h.can, h.sgn, h.eq, h.reads.below hb, fun ad e => by obtain ⟨cs, hk⟩ := h.typ ad e; exact ⟨cs, hk.below hb hk.lt⟩⟩
theorem Big.below {w w' : World} {g : Nat} {a : Int} (h : Big w g a) (hb : Below w.heap.size w w') : Big w' g a := by
  obtain ⟨neg, A, n, c, xs, h1, h2⟩ := h; exact ⟨neg, A, n, c, xs, h1.below hb h1.lt, h2.below hb⟩
theorem Big.lt {w : World} {g : Nat} {a : Int} (h : Big w g a) : g < w.heap.size := h.intB.lt
theorem gtrans {w w1 w2 : World} {row : Option Nat} (h : w.grownBy w1 row) (k : w1.grownBy w2 row) : w.grownBy w2 row :=
  ⟨k.os.trans h.os, k.tape.trans h.tape, k.output.trans h.output, Nat.le_trans h.size k.size, fun i hi hne => (k.block i (Nat.lt_of_lt_of_le hi h.size) hne).trans (h.block i hi hne)⟩
theorem gbelow {w w1 : World} (row : Option Nat) (h : Below w.heap.size w w1) : w.grownBy w1 row :=
  ⟨h.os, h.tape, h.output, h.size, fun i hi _ => h.block i hi⟩
theorem bgrown {w w1 w2 : World} {g : Nat} (h : Below w.heap.size w w1) (k : w1.grownBy w2 (some g)) : w.grownBy w2 (some g) := gtrans (gbelow _ h) k
/-- what grows from a block of one's own on -/
theorem grown_below {w w1 : World} {o : Obj} (k : (w.alloc o).grownBy w1 (some w.heap.size)) : Below w.heap.size w w1 :=
  ⟨k.os, k.tape, k.output, Nat.le_trans (by simp) k.size, fun i hi => (k.block i (by simp; omega) (by simp; omega)).trans (Below.heap_alloc w o i hi)⟩
theorem Big.grown' {w w' : World} {g z : Nat} {a : Int} (h : Big w g a) (hz : IntB w z) (hg : w.grownBy w' (some z)) (hne : g ≠ z) : Big w' g a := by
  obtain ⟨b, A, n, c, hb⟩ := hz; exact h.grown hb hg hne
theorem IntB.grown {w w' : World} {g z : Nat} (h : IntB w g) (hg : w.grownBy w' (some z)) (hne : g ≠ z) : IntB w' g := by
  obtain ⟨b, A, n, c, hb⟩ := h; exact ⟨b, A, n, c, hb.grown hg (by simpa using hne)⟩
/-- the sign and the digits of an integer -/
def sgv (neg : Bool) (v : Int) : Int := if neg = true then -v else v
theorem Big.parts {w : World} {g : Nat} {a : Int} (h : Big w g a) : ∃ neg A n c, w.cell? ⟨g, 0, none⟩ = some (.bool neg) ∧ w.cell? ⟨g, 1, none⟩ = some (.slice A n c) ∧ MagP w A n c a.natAbs ∧ (n : Int) ≤ 1000000 ∧ a = sgv neg a.natAbs ∧ neg = decide (a < 0) ∧ (0 < n ↔ a ≠ 0) := by
  obtain ⟨neg, A, n, c, xs, hb, hd⟩ := h
  have h0 := val_nonneg (B := 4294967296) (by decide) hd.can.1
  have h1 := hd.eq
  have h3 := hd.can.nil_iff (by decide)
  have h4 : 0 < n ↔ a ≠ 0 := by
    have hl := hd.len
    constructor
    · intro h e
      have : xs = [] := h3.2 (by split at h1 <;> omega)
      rw [this] at hl; simp at hl; omega
    · intro h
      rcases Nat.eq_zero_or_pos n with h5 | h5
      · have : xs = [] := List.eq_nil_of_length_eq_zero (by omega)
        have := h3.1 this
        exact absurd (by split at h1 <;> omega) h
      · exact h5
  refine ⟨neg, A, n, c, hb.cell 0, hb.cell 1, ⟨xs, hd.mag⟩, by have := hd.lim; omega, ?_, ?_, h4⟩
  · unfold sgv; split at h1 <;> simp_all <;> omega
  · cases hn : neg
    · rw [hn] at h1; simp at h1; symm; apply decide_eq_false; omega
    · rw [hn] at h1; simp at h1
      have := hd.can.pos (by decide) (hd.sgn hn)
      symm; apply decide_eq_true; omega
/-- what a method that sets an integer leaves -/
def RetZ (g : Nat) (a : Int) (w : World) (e : Ending) (w' : World) : Prop := e = .returned (.pointer (some ⟨g, 0, none⟩)) ∧ Big w' g a ∧ w.grownBy w' (some g)
theorem m_PutM (g : Nat) (neg : Bool) (A : Option Addr) (n c : Nat) (v : Int) (w : World) (hz : IntB w g) (hX : MagP w A n c v) (hbd : Bd v) :
    Calls Tryz.prog 240 #[.pointer (some ⟨g, 0, none⟩), .bool neg, .slice A n c] w (RetZ g (sgv neg v) w) := by
  obtain ⟨b0, A0, n0, c0, hb⟩ := hz
  obtain ⟨xs, hX⟩ := hX
  have h2 := len32 hX.can (by rw [← hX.eq]; exact hbd)
  refine (m_Put g #[] b0 A0 n0 c0 neg A n c xs w hb hX.len (by rw [hX.len]; unfold LIM; omega) hX.cap hX.reads hX.can.1 hX.typ (Or.inl (by rw [hX.len]; omega))).mono ?_
  rintro e w' ⟨he, hB, hg⟩
  exact ⟨he, by rw [hX.eq]; exact hB, hg⟩
theorem bd_abs {a : Int} (h : Bd a) : Bd (a.natAbs : Int) := by unfold Bd at *; generalize TOP = T at *; omega
set_option maxHeartbeats 4000000 in
theorem m_LshZ (g x : Nat) (a : Int) (k : Nat) (w : World) (hz : IntB w g) (hX : Big w x a) (hk : k ≤ 10000000) (hbd : Bd (a * 2 ^ k)) :
    Calls Tryz.prog 194 #[.pointer (some ⟨g, 0, none⟩), .pointer (some ⟨x, 0, none⟩), .int .u64 k] w (RetZ g (a * 2 ^ k) w) := by
  obtain ⟨neg, A, n, c, c0, c1, hM, hn, ha, hneg, h0⟩ := hX.parts
  have HZ : Hd (IntB w g) := ⟨hz⟩
  have HM : Hd (MagP w A n c a.natAbs) := ⟨hM⟩
  have HN : Hd (n ≤ 1000000 ∧ k ≤ 10000000) := ⟨⟨by omega, hk⟩⟩
  have HV : Hd (sgv neg ((a.natAbs : Int) * 2 ^ k) = a * 2 ^ k) := ⟨by
    conv => rhs; rw [ha]
    unfold sgv; split <;> simp [Int.neg_mul]⟩
  have HBD : Hd (Bd ((a.natAbs : Int) * 2 ^ k)) := ⟨by
    have := bd_abs hbd; rw [Int.natAbs_mul, Int.natAbs_pow] at this; simpa using this⟩
  clear hz hM hn ha hneg h0 hk hbd hX
  go_enter Tryz.func194, Tryz.ntmps194
  go_wp2_with fail
  go_region_with (first | (go_at_call 245; (with_reducible refine (m_Left A n c _ k _ (HM.out.below (by (repeat (first | exact Below.refl _ _ | assumption | refine Below.drew ?_ | refine bdn ?_ | refine ba _ ?_ | refine bs0 _ _ ?_ ?_ | refine bs1 _ _ _ ?_ ?_ | refine bs2 _ _ _ _ ?_ ?_ | refine bs3 _ _ _ _ _ ?_ ?_ | refine bt3 (by assumption) ?_)))) HN.out.1 HN.out.2).mono ?_); rintro e w1 ⟨A1, n1, k1, rfl, hM1, hb⟩; have HM1 : Hd (MagP w1 A1 n1 k1 _) := ⟨hM1⟩; have HB : Hd (Below w.heap.size w w1) := ⟨Below.trans (Below.drew (Below.refl _ _)) hb⟩; have e0 := cb HB.out c0; have e1 := cb HB.out c1; clear hM1 hb) | (go_at_call 240; (with_reducible refine (m_PutM g neg A1 n1 k1 _ _ (HZ.out.below HB.out) HM1.out HBD.out).mono ?_); rintro e w2 ⟨rfl, hB, hg⟩; have HR : Hd (Big w2 g _ ∧ w.grownBy w2 (some g)) := ⟨⟨hB, bgrown HB.out hg⟩⟩; clear hB hg))
  all_goals
    go_wp2_with fail
    go_ret
    exact ⟨rfl, by rw [← HV.out]; exact HR.out.1, HR.out.2⟩
end Go.Proofs.YtflgjecpjaiecaaGreat
/- Contracts: the program's integers: sums, differences, products, opposites, comparisons, bits. -/
set_option linter.unusedVariables false
set_option linter.unusedSimpArgs false
namespace Go.Proofs.YtflgjecpjaiecaaGreat
open Go.RowKit Num
theorem m_CmpM (A A' : Option Addr) (n m c c' : Nat) (v u r : Int) (w : World) (hX : MagP w A n c v) (hY : MagP w A' m c' u) (hl : n ≤ 1000000) (hl' : m ≤ 1000000) (hr : r = cmpI v u) :
    Calls Tryz.prog 249 #[.slice A n c, .slice A' m c'] w fun e w' => e = .returned (.int .i64 r) ∧ ∃ d, w' = w.drewN d := by
  obtain ⟨xs, hX⟩ := hX
  obtain ⟨ys, hY⟩ := hY
  rw [hr, hX.eq, hY.eq]
  exact m_Cmp A A' n m c c' xs ys w hX.len hY.len hX.reads hY.reads hX.can hY.can hl hl'
theorem MagP.nonneg {w : World} {A : Option Addr} {n c : Nat} {v : Int} (h : MagP w A n c v) : 0 ≤ v := by
  obtain ⟨xs, h⟩ := h; rw [h.eq]; exact val_nonneg (by decide) h.can.1
theorem bdN {a v : Int} (h : Bd a) (hv : v.natAbs = a.natAbs) : Bd v := by unfold Bd at *; generalize TOP = T at *; omega
set_option maxHeartbeats 4000000 in
theorem m_PlusZ (g x : Nat) (a : Int) (neg : Bool) (A' : Option Addr) (m c' : Nat) (v : Int) (w : World) (hz : IntB w g) (hX : Big w x a) (hY : MagP w A' m c' v) (hm : (m : Int) ≤ 1000000) (hbd : Bd (a + sgv neg v)) :
    Calls Tryz.prog 242 #[.pointer (some ⟨g, 0, none⟩), .pointer (some ⟨x, 0, none⟩), .bool neg, .slice A' m c'] w (RetZ g (a + sgv neg v) w) := by
  obtain ⟨xneg, A, n, c, c0, c1, hM, hn, ha, hneg, h0⟩ := hX.parts
  have hv0 := hY.nonneg
  have HZ : Hd (IntB w g) := ⟨hz⟩
  have HM : Hd (MagP w A n c a.natAbs) := ⟨hM⟩
  have HY : Hd (MagP w A' m c' v) := ⟨hY⟩
  have HN : Hd (n ≤ 1000000 ∧ m ≤ 1000000) := ⟨⟨by omega, by omega⟩⟩
  have hn0 := Int.natCast_nonneg a.natAbs
  clear hneg h0 hX
  by_cases hs : xneg = neg
  · subst hs
    have HV : Hd (sgv xneg ((a.natAbs : Int) + v) = a + sgv xneg v) := ⟨by
      conv => rhs; rw [ha]
      unfold sgv; split <;> omega⟩
    have HBD : Hd (Bd ((a.natAbs : Int) + v)) := ⟨bdN hbd (by rw [← HV.out]; unfold sgv; split <;> omega)⟩
    rw [← HV.out]
    clear ha hv0 hn0 hbd hz hM hY
    generalize ((a.natAbs : Nat) : Int) = b at *
    go_enter Tryz.func242, Tryz.ntmps242
    go_wp2_with (first | (go_at_call 248; (with_reducible refine (m_Add A A' n m c c' _ _ _ (HM.out.below (by (repeat (first | exact Below.refl _ _ | assumption | refine Below.drew ?_ | refine bdn ?_ | refine ba _ ?_ | refine bs0 _ _ ?_ ?_ | refine bs1 _ _ _ ?_ ?_ | refine bs2 _ _ _ _ ?_ ?_ | refine bs3 _ _ _ _ _ ?_ ?_ | refine bt3 (by assumption) ?_)))) (HY.out.below (by (repeat (first | exact Below.refl _ _ | assumption | refine Below.drew ?_ | refine bdn ?_ | refine ba _ ?_ | refine bs0 _ _ ?_ ?_ | refine bs1 _ _ _ ?_ ?_ | refine bs2 _ _ _ _ ?_ ?_ | refine bs3 _ _ _ _ _ ?_ ?_ | refine bt3 (by assumption) ?_)))) HN.out.1 HN.out.2).mono ?_); rintro e w1 ⟨A1, n1, k1, rfl, hM1, hb⟩; have HM1 : Hd (MagP w1 A1 n1 k1 _) := ⟨hM1⟩; have HB : Hd (Below w.heap.size w w1) := ⟨hb⟩; clear hM1 hb) | (go_at_call 240; (with_reducible refine (m_PutM g xneg A1 n1 k1 _ _ (HZ.out.below HB.out) HM1.out HBD.out).mono ?_); rintro e w2 ⟨rfl, hB, hg⟩; have HR : Hd (Big w2 g _ ∧ w.grownBy w2 (some g)) := ⟨⟨hB, bgrown HB.out hg⟩⟩; clear hB hg))
    go_ret
    exact ⟨rfl, HR.out.1, HR.out.2⟩
  · obtain rfl : neg = !xneg := by cases xneg <;> cases neg <;> first | rfl | exact absurd rfl hs
    by_cases hc : v ≤ a.natAbs
    · have HV : Hd (sgv xneg ((a.natAbs : Int) - v) = a + sgv (!xneg) v) := ⟨by
        conv => rhs; rw [ha]
        unfold sgv; cases xneg <;> simp <;> omega⟩
      have HBD : Hd (Bd ((a.natAbs : Int) - v)) := ⟨bdN hbd (by rw [← HV.out]; unfold sgv; split <;> omega)⟩
      obtain ⟨r, hr, hr0⟩ : ∃ r, r = cmpI (a.natAbs : Int) v ∧ 0 ≤ r := ⟨_, rfl, by unfold cmpI; split <;> (try split) <;> omega⟩
      have HC : Hd (r = cmpI (a.natAbs : Int) v) := ⟨hr⟩
      have HLE : Hd (v ≤ a.natAbs) := ⟨hc⟩
      rw [← HV.out]
      clear ha hv0 hn0 hbd hz hM hY hr hc hs
      generalize ((a.natAbs : Nat) : Int) = b at *
      go_enter Tryz.func242, Tryz.ntmps242
      go_wp2_with (first | (go_at_call 249; (with_reducible refine (m_CmpM A A' n m c c' _ _ r _ (HM.out.below (by (repeat (first | exact Below.refl _ _ | assumption | refine Below.drew ?_ | refine bdn ?_ | refine ba _ ?_ | refine bs0 _ _ ?_ ?_ | refine bs1 _ _ _ ?_ ?_ | refine bs2 _ _ _ _ ?_ ?_ | refine bs3 _ _ _ _ _ ?_ ?_ | refine bt3 (by assumption) ?_)))) (HY.out.below (by (repeat (first | exact Below.refl _ _ | assumption | refine Below.drew ?_ | refine bdn ?_ | refine ba _ ?_ | refine bs0 _ _ ?_ ?_ | refine bs1 _ _ _ ?_ ?_ | refine bs2 _ _ _ _ ?_ ?_ | refine bs3 _ _ _ _ _ ?_ ?_ | refine bt3 (by assumption) ?_)))) HN.out.1 HN.out.2 HC.out).mono ?_); rintro e w1 ⟨rfl, ⟨nd, rfl⟩⟩))
      go_region_with (first | (go_at_call 247; (with_reducible refine (m_Sub A A' n m c c' _ _ _ (HM.out.below (by (repeat (first | exact Below.refl _ _ | assumption | refine Below.drew ?_ | refine bdn ?_ | refine ba _ ?_ | refine bs0 _ _ ?_ ?_ | refine bs1 _ _ _ ?_ ?_ | refine bs2 _ _ _ _ ?_ ?_ | refine bs3 _ _ _ _ _ ?_ ?_ | refine bt3 (by assumption) ?_)))) (HY.out.below (by (repeat (first | exact Below.refl _ _ | assumption | refine Below.drew ?_ | refine bdn ?_ | refine ba _ ?_ | refine bs0 _ _ ?_ ?_ | refine bs1 _ _ _ ?_ ?_ | refine bs2 _ _ _ _ ?_ ?_ | refine bs3 _ _ _ _ _ ?_ ?_ | refine bt3 (by assumption) ?_)))) HN.out.1 HLE.out).mono ?_); rintro e w1 ⟨A1, n1, k1, rfl, hM1, hb⟩; have HM1 : Hd (MagP w1 A1 n1 k1 _) := ⟨hM1⟩; have HB : Hd (Below w.heap.size w w1) := ⟨Below.trans (bdn (Below.refl _ _)) hb⟩; have e0 := cb HB.out c0; have e1 := cb HB.out c1; clear hM1 hb) | (go_at_call 240; (with_reducible refine (m_PutM g xneg A1 n1 k1 _ _ (HZ.out.below HB.out) HM1.out HBD.out).mono ?_); rintro e w2 ⟨rfl, hB, hg⟩; have HR : Hd (Big w2 g _ ∧ w.grownBy w2 (some g)) := ⟨⟨hB, bgrown HB.out hg⟩⟩; clear hB hg))
      all_goals
        go_wp2_with fail
        go_ret
        exact ⟨rfl, HR.out.1, HR.out.2⟩
    · have HV : Hd (sgv (!xneg) (v - (a.natAbs : Int)) = a + sgv (!xneg) v) := ⟨by
        conv => rhs; rw [ha]
        unfold sgv; cases xneg <;> simp <;> omega⟩
      have HBD : Hd (Bd (v - (a.natAbs : Int))) := ⟨bdN hbd (by rw [← HV.out]; unfold sgv; split <;> omega)⟩
      obtain ⟨r, hr, hr0⟩ : ∃ r, r = cmpI (a.natAbs : Int) v ∧ ¬ 0 ≤ r := ⟨_, rfl, by unfold cmpI; rw [if_pos (by omega)]; omega⟩
      have HC : Hd (r = cmpI (a.natAbs : Int) v) := ⟨hr⟩
      have HLE : Hd ((a.natAbs : Int) ≤ v) := ⟨by omega⟩
      rw [← HV.out]
      clear ha hv0 hn0 hbd hz hM hY hr hc hs
      generalize ((a.natAbs : Nat) : Int) = b at *
      go_enter Tryz.func242, Tryz.ntmps242
      go_wp2_with (first | (go_at_call 249; (with_reducible refine (m_CmpM A A' n m c c' _ _ r _ (HM.out.below (by (repeat (first | exact Below.refl _ _ | assumption | refine Below.drew ?_ | refine bdn ?_ | refine ba _ ?_ | refine bs0 _ _ ?_ ?_ | refine bs1 _ _ _ ?_ ?_ | refine bs2 _ _ _ _ ?_ ?_ | refine bs3 _ _ _ _ _ ?_ ?_ | refine bt3 (by assumption) ?_)))) (HY.out.below (by (repeat (first | exact Below.refl _ _ | assumption | refine Below.drew ?_ | refine bdn ?_ | refine ba _ ?_ | refine bs0 _ _ ?_ ?_ | refine bs1 _ _ _ ?_ ?_ | refine bs2 _ _ _ _ ?_ ?_ | refine bs3 _ _ _ _ _ ?_ ?_ | refine bt3 (by assumption) ?_)))) HN.out.1 HN.out.2 HC.out).mono ?_); rintro e w1 ⟨rfl, ⟨nd, rfl⟩⟩) | (go_at_call 247; (with_reducible refine (m_Sub A' A m n c' c _ _ _ (HY.out.below (by (repeat (first | exact Below.refl _ _ | assumption | refine Below.drew ?_ | refine bdn ?_ | refine ba _ ?_ | refine bs0 _ _ ?_ ?_ | refine bs1 _ _ _ ?_ ?_ | refine bs2 _ _ _ _ ?_ ?_ | refine bs3 _ _ _ _ _ ?_ ?_ | refine bt3 (by assumption) ?_)))) (HM.out.below (by (repeat (first | exact Below.refl _ _ | assumption | refine Below.drew ?_ | refine bdn ?_ | refine ba _ ?_ | refine bs0 _ _ ?_ ?_ | refine bs1 _ _ _ ?_ ?_ | refine bs2 _ _ _ _ ?_ ?_ | refine bs3 _ _ _ _ _ ?_ ?_ | refine bt3 (by assumption) ?_)))) HN.out.2 HLE.out).mono ?_); rintro e w1 ⟨A1, n1, k1, rfl, hM1, hb⟩; have HM1 : Hd (MagP w1 A1 n1 k1 _) := ⟨hM1⟩; have HB : Hd (Below w.heap.size w w1) := ⟨Below.trans (bdn (Below.refl _ _)) hb⟩; clear hM1 hb) | (go_at_call 240; (with_reducible refine (m_PutM g (!xneg) A1 n1 k1 _ _ (HZ.out.below HB.out) HM1.out HBD.out).mono ?_); rintro e w2 ⟨rfl, hB, hg⟩; have HR : Hd (Big w2 g _ ∧ w.grownBy w2 (some g)) := ⟨⟨hB, bgrown HB.out hg⟩⟩; clear hB hg))
      go_ret
      exact ⟨rfl, HR.out.1, HR.out.2⟩
theorem keepG {w w2 : World} {g y o0 o1 : Nat} {v0 v1 : Value} (hg : w.grownBy w2 (some g)) (hne : y ≠ g) (h0 : w.cell? ⟨y, o0, none⟩ = some v0) (h1 : w.cell? ⟨y, o1, none⟩ = some v1) :
    w2.cell? ⟨y, o0, none⟩ = some v0 ∧ w2.cell? ⟨y, o1, none⟩ = some v1 := by
  have hlt : y < w.heap.size := World.block_lt_of_cell? w _ h0
  have e := hg.block y hlt (by simpa using hne)
  exact ⟨(World.cell?_of_block (a := ⟨y, o0, none⟩) e).trans h0, (World.cell?_of_block (a := ⟨y, o1, none⟩) e).trans h1⟩
theorem gdrew {w w1 : World} {row : Option Nat} (h : w.drew.grownBy w1 row) : w.grownBy w1 row := ⟨h.os, h.tape, h.output, h.size, h.block⟩
set_option maxHeartbeats 4000000 in
theorem m_AddZ (g x y : Nat) (a b : Int) (w : World) (hz : IntB w g) (hX : Big w x a) (hY : Big w y b) (hne : y ≠ g) (hbd : Bd (a + b)) :
    Calls Tryz.prog 186 #[.pointer (some ⟨g, 0, none⟩), .pointer (some ⟨x, 0, none⟩), .pointer (some ⟨y, 0, none⟩)] w (RetZ g (a + b) w) := by
  obtain ⟨neg, A, n, c, c0, c1, hM, hn, ha, hneg, h0⟩ := hY.parts
  have HZ : Hd (IntB w g ∧ Big w x a ∧ MagP w A n c b.natAbs ∧ (n : Int) ≤ 1000000 ∧ Bd (a + sgv neg b.natAbs) ∧ y ≠ g) := ⟨⟨hz, hX, hM, hn, by rw [← ha]; exact hbd, hne⟩⟩
  have HV : Hd (b = sgv neg b.natAbs) := ⟨ha⟩
  rw [HV.out]
  clear hz hX hY hbd hM hn ha hneg h0 hne
  go_enter Tryz.func186, Tryz.ntmps186
  go_wp2_with fail
  go_region_held3 (fun w' => w'.cell? ⟨y, 0, none⟩ = some (.bool neg) ∧ w'.cell? ⟨y, 1, none⟩ = some (.slice A n c)) ((first | (exact keepG HR.out.2 HZ.out.2.2.2.2.2 c0 c1) | assumption | exact ⟨by assumption, by assumption⟩ | (constructor <;> go_simp)))
    (first | (go_at_call 242; (with_reducible refine (m_PlusZ g x a neg A n c _ _ (HZ.out.1.below (by (repeat (first | exact Below.refl _ _ | assumption | refine Below.drew ?_ | refine bdn ?_ | refine ba _ ?_ | refine bs0 _ _ ?_ ?_ | refine bs1 _ _ _ ?_ ?_ | refine bs2 _ _ _ _ ?_ ?_ | refine bs3 _ _ _ _ _ ?_ ?_ | refine bt3 (by assumption) ?_)))) (HZ.out.2.1.below (by (repeat (first | exact Below.refl _ _ | assumption | refine Below.drew ?_ | refine bdn ?_ | refine ba _ ?_ | refine bs0 _ _ ?_ ?_ | refine bs1 _ _ _ ?_ ?_ | refine bs2 _ _ _ _ ?_ ?_ | refine bs3 _ _ _ _ _ ?_ ?_ | refine bt3 (by assumption) ?_)))) (HZ.out.2.2.1.below (by (repeat (first | exact Below.refl _ _ | assumption | refine Below.drew ?_ | refine bdn ?_ | refine ba _ ?_ | refine bs0 _ _ ?_ ?_ | refine bs1 _ _ _ ?_ ?_ | refine bs2 _ _ _ _ ?_ ?_ | refine bs3 _ _ _ _ _ ?_ ?_ | refine bt3 (by assumption) ?_)))) HZ.out.2.2.2.1 HZ.out.2.2.2.2.1).mono ?_); rintro e w2 ⟨rfl, hB, hg⟩; have HR : Hd (Big w2 g _ ∧ w.grownBy w2 (some g)) := ⟨⟨hB, gdrew hg⟩⟩; clear hB hg))
  go_wp2_with fail
  go_ret
  exact ⟨rfl, HR.out.1, HR.out.2⟩
end Go.Proofs.YtflgjecpjaiecaaGreat
/- Contracts: the program's integers: differences, products, opposites, absolute values, comparisons, lengths. -/
set_option linter.unusedVariables false
set_option linter.unusedSimpArgs false
namespace Go.Proofs.YtflgjecpjaiecaaGreat
open Go.RowKit Num
set_option maxHeartbeats 4000000 in
theorem m_SubZ (g x y : Nat) (a b : Int) (w : World) (hz : IntB w g) (hX : Big w x a) (hY : Big w y b) (hne : y ≠ g) (hbd : Bd (a - b)) :
    Calls Tryz.prog 196 #[.pointer (some ⟨g, 0, none⟩), .pointer (some ⟨x, 0, none⟩), .pointer (some ⟨y, 0, none⟩)] w (RetZ g (a - b) w) := by
  obtain ⟨neg, A, n, c, c0, c1, hM, hn, ha, hneg, h0⟩ := hY.parts
  have HV : Hd (a - b = a + sgv (!neg) b.natAbs) := ⟨by
    have : sgv (!neg) b.natAbs = -b := by
      conv => rhs; rw [ha]
      unfold sgv; cases neg <;> simp
    omega⟩
  have HZ : Hd (IntB w g ∧ Big w x a ∧ MagP w A n c b.natAbs ∧ (n : Int) ≤ 1000000 ∧ Bd (a + sgv (!neg) b.natAbs) ∧ y ≠ g) := ⟨⟨hz, hX, hM, hn, by rw [← HV.out]; exact hbd, hne⟩⟩
  rw [HV.out]
  clear hz hX hY hbd hM hn ha hneg h0 hne
  go_enter Tryz.func196, Tryz.ntmps196
  go_wp2_with fail
  go_region_held3 (fun w' => w'.cell? ⟨y, 0, none⟩ = some (.bool neg) ∧ w'.cell? ⟨y, 1, none⟩ = some (.slice A n c)) ((first | (exact keepG HR.out.2 HZ.out.2.2.2.2.2 c0 c1) | assumption | exact ⟨by assumption, by assumption⟩ | (constructor <;> go_simp)))
    (first | (go_at_call 242; (with_reducible refine (m_PlusZ g x a (!neg) A n c _ _ (HZ.out.1.below (by (repeat (first | exact Below.refl _ _ | assumption | refine Below.drew ?_ | refine bdn ?_ | refine ba _ ?_ | refine bs0 _ _ ?_ ?_ | refine bs1 _ _ _ ?_ ?_ | refine bs2 _ _ _ _ ?_ ?_ | refine bs3 _ _ _ _ _ ?_ ?_ | refine bt3 (by assumption) ?_)))) (HZ.out.2.1.below (by (repeat (first | exact Below.refl _ _ | assumption | refine Below.drew ?_ | refine bdn ?_ | refine ba _ ?_ | refine bs0 _ _ ?_ ?_ | refine bs1 _ _ _ ?_ ?_ | refine bs2 _ _ _ _ ?_ ?_ | refine bs3 _ _ _ _ _ ?_ ?_ | refine bt3 (by assumption) ?_)))) (HZ.out.2.2.1.below (by (repeat (first | exact Below.refl _ _ | assumption | refine Below.drew ?_ | refine bdn ?_ | refine ba _ ?_ | refine bs0 _ _ ?_ ?_ | refine bs1 _ _ _ ?_ ?_ | refine bs2 _ _ _ _ ?_ ?_ | refine bs3 _ _ _ _ _ ?_ ?_ | refine bt3 (by assumption) ?_)))) HZ.out.2.2.2.1 HZ.out.2.2.2.2.1).mono ?_); rintro e w2 ⟨rfl, hB, hg⟩; have HR : Hd (Big w2 g _ ∧ w.grownBy w2 (some g)) := ⟨⟨hB, gdrew hg⟩⟩; clear hB hg))
  go_wp2_with fail
  go_ret
  exact ⟨rfl, HR.out.1, HR.out.2⟩
set_option maxHeartbeats 4000000 in
theorem m_NegZ (g x : Nat) (a : Int) (w : World) (hz : IntB w g) (hX : Big w x a) (hbd : Bd (-a)) :
    Calls Tryz.prog 257 #[.pointer (some ⟨g, 0, none⟩), .pointer (some ⟨x, 0, none⟩)] w (RetZ g (-a) w) := by
  obtain ⟨neg, A, n, c, c0, c1, hM, hn, ha, hneg, h0⟩ := hX.parts
  have HZ : Hd (IntB w g) := ⟨hz⟩
  have HM : Hd (MagP w A n c a.natAbs) := ⟨hM⟩
  have HN : Hd (n ≤ 1000000) := ⟨by omega⟩
  have HV : Hd (sgv (!neg) (a.natAbs : Int) = -a) := ⟨by
    conv => rhs; rw [ha]
    unfold sgv; cases neg <;> simp⟩
  have HBD : Hd (Bd (a.natAbs : Int)) := ⟨bdN hbd (by omega)⟩
  clear hz hM hn ha hneg h0 hbd hX
  go_enter Tryz.func257, Tryz.ntmps257
  go_wp2_with fail
  go_region_with (first | (go_at_call 244; (with_reducible refine (m_Clone A n c _ _ (HM.out.below (by (repeat (first | exact Below.refl _ _ | assumption | refine Below.drew ?_ | refine bdn ?_ | refine ba _ ?_ | refine bs0 _ _ ?_ ?_ | refine bs1 _ _ _ ?_ ?_ | refine bs2 _ _ _ _ ?_ ?_ | refine bs3 _ _ _ _ _ ?_ ?_ | refine bt3 (by assumption) ?_)))) HN.out).mono ?_); rintro e w1 ⟨A1, n1, k1, rfl, hM1, hb⟩; have HM1 : Hd (MagP w1 A1 n1 k1 _) := ⟨hM1⟩; have HB : Hd (Below w.heap.size w w1) := ⟨Below.trans (Below.drew (Below.refl _ _)) hb⟩; have e0 := cb HB.out c0; have e1 := cb HB.out c1; clear hM1 hb) | (go_at_call 240; (with_reducible refine (m_PutM g (!neg) A1 n1 k1 _ _ (HZ.out.below HB.out) HM1.out HBD.out).mono ?_); rintro e w2 ⟨rfl, hB, hg⟩; have HR : Hd (Big w2 g _ ∧ w.grownBy w2 (some g)) := ⟨⟨hB, bgrown HB.out hg⟩⟩; clear hB hg))
  all_goals
    go_wp2_with fail
    go_ret
    exact ⟨rfl, by rw [← HV.out]; exact HR.out.1, HR.out.2⟩
set_option maxHeartbeats 4000000 in
theorem m_AbsZ (g x : Nat) (a : Int) (w : World) (hz : IntB w g) (hX : Big w x a) (hbd : Bd (a.natAbs : Int)) :
    Calls Tryz.prog 193 #[.pointer (some ⟨g, 0, none⟩), .pointer (some ⟨x, 0, none⟩)] w (RetZ g (a.natAbs : Int) w) := by
  obtain ⟨neg, A, n, c, c0, c1, hM, hn, ha, hneg, h0⟩ := hX.parts
  have HZ : Hd (IntB w g) := ⟨hz⟩
  have HM : Hd (MagP w A n c a.natAbs) := ⟨hM⟩
  have HN : Hd (n ≤ 1000000) := ⟨by omega⟩
  have HV : Hd (sgv false (a.natAbs : Int) = a.natAbs) := ⟨rfl⟩
  have HBD : Hd (Bd (a.natAbs : Int)) := ⟨hbd⟩
  clear hz hM hn ha hneg h0 hbd hX
  go_enter Tryz.func193, Tryz.ntmps193
  go_wp2_with (first | (go_at_call 244; (with_reducible refine (m_Clone A n c _ _ (HM.out.below (by (repeat (first | exact Below.refl _ _ | assumption | refine Below.drew ?_ | refine bdn ?_ | refine ba _ ?_ | refine bs0 _ _ ?_ ?_ | refine bs1 _ _ _ ?_ ?_ | refine bs2 _ _ _ _ ?_ ?_ | refine bs3 _ _ _ _ _ ?_ ?_ | refine bt3 (by assumption) ?_)))) HN.out).mono ?_); rintro e w1 ⟨A1, n1, k1, rfl, hM1, hb⟩; have HM1 : Hd (MagP w1 A1 n1 k1 _) := ⟨hM1⟩; have HB : Hd (Below w.heap.size w w1) := ⟨hb⟩; clear hM1 hb) | (go_at_call 240; (with_reducible refine (m_PutM g false A1 n1 k1 _ _ (HZ.out.below HB.out) HM1.out HBD.out).mono ?_); rintro e w2 ⟨rfl, hB, hg⟩; have HR : Hd (Big w2 g _ ∧ w.grownBy w2 (some g)) := ⟨⟨hB, bgrown HB.out hg⟩⟩; clear hB hg))
  go_ret
  exact ⟨rfl, by rw [← HV.out]; exact HR.out.1, HR.out.2⟩
set_option maxHeartbeats 4000000 in
theorem m_BitLen (x : Nat) (a : Int) (w : World) (hX : Big w x a) :
    Calls Tryz.prog 191 #[.pointer (some ⟨x, 0, none⟩)] w fun e w' => e = .returned (.int .i64 (bln a.natAbs)) ∧ w = w' := by
  obtain ⟨neg, A, n, c, c0, c1, hM, hn, ha, hneg, h0⟩ := hX.parts
  have HM : Hd (MagP w A n c a.natAbs) := ⟨hM⟩
  have HN : Hd (n ≤ 1000000) := ⟨by omega⟩
  clear hM hn ha hneg h0 hX
  go_enter Tryz.func191, Tryz.ntmps191
  go_wp2_with (go_at_call 243; (with_reducible refine (m_Bits A n c _ _ HM.out HN.out).mono ?_); rintro e w' ⟨rfl, rfl⟩)
  go_ret
  exact ⟨by simp, rfl⟩
set_option maxHeartbeats 4000000 in
theorem m_CmpZ (x y : Nat) (a b : Int) (w : World) (hX : Big w x a) (hY : Big w y b) :
    Calls Tryz.prog 197 #[.pointer (some ⟨x, 0, none⟩), .pointer (some ⟨y, 0, none⟩)] w fun e w' => e = .returned (.int .i64 (cmpI a b)) ∧ ∃ d, w' = w.drewN d := by
  obtain ⟨neg, A, n, c, c0, c1, hM, hn, ha, hneg, h0⟩ := hX.parts
  obtain ⟨neg', A', n', c', d0, d1, hM', hn', ha', hneg', h0'⟩ := hY.parts
  have HM : Hd (MagP w A n c a.natAbs ∧ MagP w A' n' c' b.natAbs ∧ n ≤ 1000000 ∧ n' ≤ 1000000) := ⟨⟨hM, hM', by omega, by omega⟩⟩
  clear hM hn hM' hn' h0 h0' ha ha' hX hY
  cases neg
  · have h1 : ¬ a < 0 := of_decide_eq_false hneg.symm
    cases neg'
    · have h2 : ¬ b < 0 := of_decide_eq_false hneg'.symm
      have HC : Hd (cmpI a b = cmpI (a.natAbs : Int) (b.natAbs : Int)) := ⟨by rw [show (a.natAbs : Int) = a by omega, show (b.natAbs : Int) = b by omega]⟩
      clear hneg hneg' h1 h2
      generalize cmpI a b = r at *
      go_enter Tryz.func197, Tryz.ntmps197
      go_wp2
      go_quiet ((go_at_call 249; exact Calls.quiet_of (m_CmpM A A' n n' c c' _ _ r _ (HM.out.1.below (by (repeat (first | exact Below.refl _ _ | assumption | refine Below.drew ?_ | refine bdn ?_ | refine ba _ ?_ | refine bs0 _ _ ?_ ?_ | refine bs1 _ _ _ ?_ ?_ | refine bs2 _ _ _ _ ?_ ?_ | refine bs3 _ _ _ _ _ ?_ ?_ | refine bt3 (by assumption) ?_)))) (HM.out.2.1.below (by (repeat (first | exact Below.refl _ _ | assumption | refine Below.drew ?_ | refine bdn ?_ | refine ba _ ?_ | refine bs0 _ _ ?_ ?_ | refine bs1 _ _ _ ?_ ?_ | refine bs2 _ _ _ _ ?_ ?_ | refine bs3 _ _ _ _ _ ?_ ?_ | refine bt3 (by assumption) ?_)))) HM.out.2.2.1 HM.out.2.2.2 HC.out)))
      all_goals
        go_wp2_with fail
        go_ret
        exact ⟨rfl, _, rfl⟩
    · have h2 : b < 0 := of_decide_eq_true hneg'.symm
      have hc : cmpI a b = 1 := by unfold cmpI; rw [if_neg (by omega), if_pos (by omega)]
      rw [hc]
      clear hneg hneg' h1 h2 hc
      go_enter Tryz.func197, Tryz.ntmps197
      go_wp2
      go_ret
      exact ⟨rfl, 0, rfl⟩
  · have h1 : a < 0 := of_decide_eq_true hneg.symm
    cases neg'
    · have h2 : ¬ b < 0 := of_decide_eq_false hneg'.symm
      have hc : cmpI a b = -1 := by unfold cmpI; rw [if_pos (by omega)]
      rw [hc]
      clear hneg hneg' h1 h2 hc
      go_enter Tryz.func197, Tryz.ntmps197
      go_wp2
      go_ret
      exact ⟨rfl, 0, rfl⟩
    · have h2 : b < 0 := of_decide_eq_true hneg'.symm
      have HC : Hd (cmpI a b = cmpI (b.natAbs : Int) (a.natAbs : Int)) := ⟨by unfold cmpI; repeat' split <;> omega⟩
      clear hneg hneg' h1 h2
      generalize cmpI a b = r at *
      go_enter Tryz.func197, Tryz.ntmps197
      go_wp2
      go_quiet ((go_at_call 249; exact Calls.quiet_of (m_CmpM A' A n' n c' c _ _ r _ (HM.out.2.1.below (by (repeat (first | exact Below.refl _ _ | assumption | refine Below.drew ?_ | refine bdn ?_ | refine ba _ ?_ | refine bs0 _ _ ?_ ?_ | refine bs1 _ _ _ ?_ ?_ | refine bs2 _ _ _ _ ?_ ?_ | refine bs3 _ _ _ _ _ ?_ ?_ | refine bt3 (by assumption) ?_)))) (HM.out.1.below (by (repeat (first | exact Below.refl _ _ | assumption | refine Below.drew ?_ | refine bdn ?_ | refine ba _ ?_ | refine bs0 _ _ ?_ ?_ | refine bs1 _ _ _ ?_ ?_ | refine bs2 _ _ _ _ ?_ ?_ | refine bs3 _ _ _ _ _ ?_ ?_ | refine bt3 (by assumption) ?_)))) HM.out.2.2.2 HM.out.2.2.1 HC.out)))
      all_goals
        go_wp2_with fail
        go_ret
        exact ⟨rfl, _, rfl⟩
end Go.Proofs.YtflgjecpjaiecaaGreat
/- Contracts: numbers of the program: of floats, their signs, common exponents. -/
set_option linter.unusedVariables false
set_option linter.unusedSimpArgs false
namespace Go.Proofs.YtflgjecpjaiecaaGreat
open Go.RowKit Num Flt
/-- a number of the program: its integer lies in block g -/
structure NuF (m e V : Int) (l : Nat) : Prop where
  val : V = dv m e
  lo : -(l : Int) ≤ e
  lsc : l ≤ SC
  hi : e ≤ 2400000
  bd : Bd V
def NuP (w : World) (g : Nat) (e V : Int) (l : Nat) : Prop := ∃ m, Big w g m ∧ NuF m e V l
def RetN (V : Int) (l : Nat) (w : World) (e : Ending) (w' : World) : Prop := ∃ g x, e = .returned (.agg #[.pointer (some ⟨g, 0, none⟩), .int .i64 x]) ∧ NuP w' g x V l ∧ Below w.heap.size w w'
theorem NuP.below {w w' : World} {g : Nat} {e V : Int} {l : Nat} (h : NuP w g e V l) (hb : Below w.heap.size w w') : NuP w' g e V l := by
  obtain ⟨m, h1, h2⟩ := h; exact ⟨m, h1.below hb, h2⟩
theorem NuP.lt {w : World} {g : Nat} {e V : Int} {l : Nat} (h : NuP w g e V l) : g < w.heap.size := by
  obtain ⟨m, h1, h2⟩ := h; exact h1.lt
theorem NuP.grown {w w' : World} {g z : Nat} {e V : Int} {l : Nat} (h : NuP w g e V l) (hz : IntB w z) (hg : w.grownBy w' (some z)) (hne : g ≠ z) : NuP w' g e V l := by
  obtain ⟨m, h1, h2⟩ := h; exact ⟨m, h1.grown' hz hg hne, h2⟩
theorem gset (w : World) (b o : Nat) (u : Value) : w.grownBy (w.setCell ⟨b, o, none⟩ u) (some b) :=
  ⟨rfl, rfl, rfl, by simp [World.setCell], fun k hk hne => Below.heap_setCell _ _ u k (fun e => hne (by rw [e]))⟩
theorem Big.setT {w : World} {g b : Nat} {a : Int} {t : TypeId} {cs : Array Value} (h : Big w g a) (hk : Blk w b t cs) (h1 : t ≠ 168) (h2 : t ≠ 171) (o : Nat) (u : Value) : Big (w.setCell ⟨b, o, none⟩ u) g a := by
  obtain ⟨neg, A, n, c, xs, hb, hd⟩ := h
  have h3 := hb.ne_ hk (Ne.symm h1)
  refine ⟨neg, A, n, c, xs, hb.grown (gset w b o u) (by simpa using h3), hd.grown (gset w b o u) ?_⟩
  intro ad e
  obtain ⟨cs', hk'⟩ := hd.typ ad e
  have := hk'.ne_ hk (Ne.symm h2)
  simpa using this
theorem NuP.setT {w : World} {g b : Nat} {e V : Int} {l : Nat} {t : TypeId} {cs : Array Value} (h : NuP w g e V l) (hk : Blk w b t cs) (h1 : t ≠ 168) (h2 : t ≠ 171) (o : Nat) (u : Value) : NuP (w.setCell ⟨b, o, none⟩ u) g e V l := by
  obtain ⟨m, h3, h4⟩ := h; exact ⟨m, h3.setT hk h1 h2 o u, h4⟩
theorem NuP.set2 {w : World} {g b : Nat} {e V : Int} {l : Nat} {t : TypeId} {cs : Array Value} (h : NuP w g e V l) (hk : Blk w b t cs) (h1 : t ≠ 168) (h2 : t ≠ 171) (u v : Value) : NuP ((w.setCell ⟨b, 0, none⟩ u).setCell ⟨b, 1, none⟩ v) g e V l :=
  (h.setT hk h1 h2 0 u).setT (hk.set_ 0 u) h1 h2 1 v
theorem IntB.new (w : World) : IntB (w.alloc (.cells #[.bool false, .slice none 0 0] 168)) w.heap.size := ⟨_, _, _, _, Blk.new _ _ _⟩
theorem NuF.more {m e V : Int} {l l' : Nat} (h : NuF m e V l) (hl : l ≤ l') (hs : l' ≤ SC) : NuF m e V l' := ⟨h.val, by have := h.lo; omega, hs, h.hi, h.bd⟩
theorem dv_sign (m e : Int) : (dv m e).sign = m.sign := by
  unfold dv; rw [Int.sign_mul, Int.sign_eq_one_of_pos (pow2_pos _), Int.mul_one]
set_option maxHeartbeats 4000000 in
theorem n_Sign (g : Nat) (e V : Int) (l : Nat) (w : World) (hX : NuP w g e V l) :
    Calls Tryz.prog 114 #[.agg #[.pointer (some ⟨g, 0, none⟩), .int .i64 e]] w fun e' w' => e' = .returned (.int .i64 V.sign) ∧ Below w.heap.size w w' := by
  obtain ⟨m, hB, hF⟩ := hX
  have HB : Hd (Big w g m) := ⟨hB⟩
  have HV : Hd (V.sign = m.sign) := ⟨by rw [hF.val, dv_sign]⟩
  rw [HV.out]
  clear hB hF
  go_enter Tryz.func114, Tryz.ntmps114
  go_wp2_with (go_at_call 188; (with_reducible refine (m_Sign g m _ (HB.out.below (by (repeat (first | exact Below.refl _ _ | assumption | refine Below.drew ?_ | refine bdn ?_ | refine ba _ ?_ | refine bs0 _ _ ?_ ?_ | refine bs1 _ _ _ ?_ ?_ | refine bs2 _ _ _ _ ?_ ?_ | refine bs3 _ _ _ _ _ ?_ ?_ | refine bt3 (by assumption) ?_))))).mono ?_); rintro e w' ⟨rfl, ⟨nd, rfl⟩⟩)
  go_ret
  refine ⟨rfl, ?_⟩
  (repeat (first | exact Below.refl _ _ | assumption | refine Below.drew ?_ | refine bdn ?_ | refine ba _ ?_ | refine bs0 _ _ ?_ ?_ | refine bs1 _ _ _ ?_ ?_ | refine bs2 _ _ _ _ ?_ ?_ | refine bs3 _ _ _ _ _ ?_ ?_ | refine bt3 (by assumption) ?_))
set_option maxHeartbeats 4000000 in
theorem n_At (g : Nat) (m e e' : Int) (k : Nat) (w : World) (hX : Big w g m) (he : e = e' + k) (h0 : -20000 ≤ e') (h1 : e ≤ 2400000) (hbd : Bd (m * 2 ^ k)) :
    Calls Tryz.prog 187 #[.agg #[.pointer (some ⟨g, 0, none⟩), .int .i64 e], .int .i64 e'] w (RetI (m * 2 ^ k) w) := by
  have HX : Hd (Big w g m ∧ Bd (m * 2 ^ k) ∧ k ≤ 10000000) := ⟨⟨hX, hbd, by omega⟩⟩
  subst he
  have hk : e' + (k : Int) - e' = k := by omega
  have hkI : (k : Int) ≤ 2420000 := by omega
  clear hX hbd
  go_enter Tryz.func187, Tryz.ntmps187
  go_wp2_with (go_at_call 194; go_loud ((with_reducible refine (m_LshZ (w.heap.size + 1) g m k _ (by have := IntB.new (w.alloc (.cells #[.pointer (some ⟨g, 0, none⟩), .int .i64 (e' + (k : Int))] 113)); simpa using this) (HX.out.1.below (by (repeat (first | exact Below.refl _ _ | assumption | refine Below.drew ?_ | refine bdn ?_ | refine ba _ ?_ | refine bs0 _ _ ?_ ?_ | refine bs1 _ _ _ ?_ ?_ | refine bs2 _ _ _ _ ?_ ?_ | refine bs3 _ _ _ _ _ ?_ ?_ | refine bt3 (by assumption) ?_)))) HX.out.2.2 HX.out.2.1).mono ?_); rintro e w2 ⟨rfl, hB, hg⟩; have HR : Hd (Big w2 (w.heap.size + 1) (m * 2 ^ k) ∧ Below w.heap.size w w2) := ⟨⟨hB, (ba _ (ba _ (Below.refl _ _))).grown hg (le_alloc _ (le_alloc _ (Nat.le_refl _))) (fun i hi => by cases hi; omega)⟩⟩; clear hB hg))
  go_ret
  exact ⟨w.heap.size + 1, rfl, by omega, HR.out.1, HR.out.2⟩
set_option maxHeartbeats 4000000 in
theorem m_Parts (x : Nat) (w : World) (hx : W x) (hf : fin x) :
    Calls Tryz.prog 183 #[.float .f32 x] w fun e w' => e = .returned (.tuple #[.int .i64 (mv x), .int .i64 (-149 + (pe x : Nat))]) ∧ w = w' := by
  have hW : (x : Int) < 4294967296 := by unfold W at hx; omega
  have h0 : (0 : Int) ≤ x := by omega
  have b1 := u32_and255 ((x : Int) / 8388608) (by omega) (by omega)
  have b2 : bits .and .u32 (x : Int) 8388607 = (x : Int) % 8388608 := bits_mask .u32 32 (by decide) wraps_u32 23 (by decide) x h0 (by omega)
  have HE : Hd ((x : Int) / 8388608 % 256 < 255) := ⟨by unfold fin at hf; omega⟩
  have HV : Hd (mv x = (if 2147483648 ≤ x then -((x : Int) % 8388608 + if 0 < (x : Int) / 8388608 % 256 then 8388608 else 0) else ((x : Int) % 8388608 + if 0 < (x : Int) / 8388608 % 256 then 8388608 else 0)) ∧ (pe x : Int) = (if 0 < (x : Int) / 8388608 % 256 then (x : Int) / 8388608 % 256 else 1) - 1) := ⟨by
    unfold fin at hf; unfold W at hx
    unfold mv pm pe mg ex
    constructor
    · repeat' split
      all_goals omega
    · repeat' split
      all_goals omega⟩
  have hf0 : 0 ≤ (x : Int) % 8388608 := by omega
  have hf1 : (x : Int) % 8388608 < 8388608 := by omega
  have HP : Hd ((-149 : Int) + (pe x : Int) = (if 0 < (x : Int) / 8388608 % 256 then (x : Int) / 8388608 % 256 else 1) - 150) := ⟨by rw [HV.out.2]; omega⟩
  by_cases he : 0 < (x : Int) / 8388608 % 256
  · by_cases hs : 2147483648 ≤ x
    · have hd : ((x : Int) / 2147483648 != 0) = true := by rw [cast_div]; exact decide_eq_true hs
      have H1 : Hd (mv x = -((x : Int) % 8388608 + 8388608) ∧ (-149 : Int) + (pe x : Int) = (x : Int) / 8388608 % 256 - 150) := ⟨by
        refine ⟨?_, ?_⟩
        · rw [HV.out.1, if_pos hs, if_pos he]
        · rw [HP.out, if_pos he]⟩
      rw [H1.out.1, H1.out.2]
      have hE1 := HE.out
      generalize (x : Int) / 8388608 % 256 = E at *
      generalize (x : Int) % 8388608 = F at *
      have k := run_f32bits
      clear hs hx hf HV HP H1 HE hW h0
      go_enter Tryz.func183, Tryz.ntmps183
      go_wp2
      go_ret2
      exact ⟨rfl, rfl⟩
    · have hd : ((x : Int) / 2147483648 != 0) = false := by rw [cast_div]; exact decide_eq_false hs
      have H1 : Hd (mv x = ((x : Int) % 8388608 + 8388608) ∧ (-149 : Int) + (pe x : Int) = (x : Int) / 8388608 % 256 - 150) := ⟨by
        refine ⟨?_, ?_⟩
        · rw [HV.out.1, if_neg hs, if_pos he]
        · rw [HP.out, if_pos he]⟩
      rw [H1.out.1, H1.out.2]
      have hE1 := HE.out
      generalize (x : Int) / 8388608 % 256 = E at *
      generalize (x : Int) % 8388608 = F at *
      have k := run_f32bits
      clear hs hx hf HV HP H1 HE hW h0
      go_enter Tryz.func183, Tryz.ntmps183
      go_wp2
      go_ret2
      exact ⟨rfl, rfl⟩
  · by_cases hs : 2147483648 ≤ x
    · have hd : ((x : Int) / 2147483648 != 0) = true := by rw [cast_div]; exact decide_eq_true hs
      have H1 : Hd (mv x = -((x : Int) % 8388608) ∧ (-149 : Int) + (pe x : Int) = -149) := ⟨by
        refine ⟨?_, ?_⟩
        · rw [HV.out.1, if_pos hs, if_neg he]; omega
        · rw [HP.out, if_neg he]; rfl⟩
      rw [H1.out.1, H1.out.2]
      have hE0 : (x : Int) / 8388608 % 256 = 0 := by omega
      rw [hE0] at b1
      clear hE0 he
      generalize (x : Int) % 8388608 = F at *
      have k := run_f32bits
      clear hs hx hf HV HP H1 HE hW h0
      go_enter Tryz.func183, Tryz.ntmps183
      go_wp2
      go_ret2
      exact ⟨rfl, rfl⟩
    · have hd : ((x : Int) / 2147483648 != 0) = false := by rw [cast_div]; exact decide_eq_false hs
      have H1 : Hd (mv x = ((x : Int) % 8388608) ∧ (-149 : Int) + (pe x : Int) = -149) := ⟨by
        refine ⟨?_, ?_⟩
        · rw [HV.out.1, if_neg hs, if_neg he]; omega
        · rw [HP.out, if_neg he]; rfl⟩
      rw [H1.out.1, H1.out.2]
      have hE0 : (x : Int) / 8388608 % 256 = 0 := by omega
      rw [hE0] at b1
      clear hE0 he
      generalize (x : Int) % 8388608 = F at *
      have k := run_f32bits
      clear hs hx hf HV HP H1 HE hW h0
      go_enter Tryz.func183, Tryz.ntmps183
      go_wp2
      go_ret2
      exact ⟨rfl, rfl⟩
theorem nuF_float {x : Nat} (hf : fin x) : NuF (mv x) (-149 + (pe x : Nat)) (fv x) 149 :=
  ⟨rfl, by omega, by unfold SC; omega, by have := pe_le hf; omega, fv_bd hf⟩
set_option maxHeartbeats 4000000 in
theorem n_Of (x : Nat) (w : World) (hx : W x) (hf : fin x) :
    Calls Tryz.prog 111 #[.float .f32 x] w (RetN (fv x) 149 w) := by
  have HX : Hd (W x ∧ fin x ∧ -4294967296 < mv x ∧ mv x < 4294967296) := ⟨⟨hx, hf, by have := mv_lt x; omega, by have := mv_lt x; omega⟩⟩
  clear hx hf
  go_enter Tryz.func111, Tryz.ntmps111
  go_wp2_with (first | (go_at_call 183; (with_reducible refine (m_Parts x _ HX.out.1 HX.out.2.1).mono ?_); rintro e w' ⟨rfl, rfl⟩) | (go_at_call 184; (with_reducible refine (m_New (mv x) _ HX.out.2.2.1 HX.out.2.2.2).mono ?_); rintro e w2 ⟨g, rfl, hge, hB, hb⟩; have HB : Hd (Big w2 g (mv x)) := ⟨hB⟩; have HK := Hd.mk (Blk.below (Blk.new w _ _) hb (by simp)); clear hge hB; obtain ⟨hc, hf, hz, hy⟩ := bcell hb; have hs := hb.size; (try simp at hs); have h0' : w.heap.size < w2.heap.size := (by omega); clear hs))
  refine bodyPost_ret (v := .agg #[.pointer (some ⟨g, 0, none⟩), .int .i64 (-149 + (pe x : Nat))]) (by simp (maxDischargeDepth := 7) [results, Tryz.results111, go_sem, *]) rfl ⟨g, _, rfl, ?_, ?_⟩
  · have h := nuF_float HX.out.2.1
    refine ⟨mv x, ?_, h⟩
    exact ((HB.out.setT HK.out (by decide) (by decide) 0 _).setT (HK.out.set_ 0 _) (by decide) (by decide) 1 _)
  · (repeat (first | exact Below.refl _ _ | assumption | refine Below.drew ?_ | refine bdn ?_ | refine ba _ ?_ | refine bs0 _ _ ?_ ?_ | refine bs1 _ _ _ ?_ ?_ | refine bs2 _ _ _ _ ?_ ?_ | refine bs3 _ _ _ _ _ ?_ ?_ | refine bt3 (by assumption) ?_))
end Go.Proofs.YtflgjecpjaiecaaGreat
/- Contracts: sums of numbers of the program. -/
set_option linter.unusedVariables false
set_option linter.unusedSimpArgs false
namespace Go.Proofs.YtflgjecpjaiecaaGreat
open Go.RowKit Num Flt
theorem NuP.of {w : World} {g : Nat} {m e V : Int} {l : Nat} (h1 : Big w g m) (h2 : NuF m e V l) : NuP w g e V l := ⟨m, h1, h2⟩
theorem IntB.drew {w : World} {g : Nat} (h : IntB w g) : IntB w.drew g := h
/-- the world of a function of two numbers with a result of its own -/
abbrev N3 (w : World) (g : Nat) (e : Int) (g' : Nat) (e' : Int) : World := ((w.alloc (Obj.cells #[.pointer (some ⟨g, 0, none⟩), .int .i64 e] 113)).alloc (Obj.cells #[.pointer (some ⟨g', 0, none⟩), .int .i64 e'] 113)).alloc (Obj.cells #[.pointer none, .int .i64 0] 113)
theorem N3.bel (w : World) (g : Nat) (e : Int) (g' : Nat) (e' : Int) : Below w.heap.size w (N3 w g e g' e') := ba _ (ba _ (ba _ (Below.refl _ _)))
theorem N3.size (w : World) (g : Nat) (e : Int) (g' : Nat) (e' : Int) : (N3 w g e g' e').heap.size = w.heap.size + 1 + 1 + 1 := by simp [N3]
theorem N3.b0 (w : World) (g : Nat) (e : Int) (g' : Nat) (e' : Int) : Blk (N3 w g e g' e') w.heap.size 113 #[.pointer (some ⟨g, 0, none⟩), .int .i64 e] := ((Blk.new _ _ _).alloc _).alloc _
theorem N3.b1 (w : World) (g : Nat) (e : Int) (g' : Nat) (e' : Int) : Blk (N3 w g e g' e') (w.heap.size + 1) 113 #[.pointer (some ⟨g', 0, none⟩), .int .i64 e'] := by
  have := (Blk.new (w.alloc (Obj.cells #[.pointer (some ⟨g, 0, none⟩), .int .i64 e] 113)) 113 #[.pointer (some ⟨g', 0, none⟩), .int .i64 e']).alloc (Obj.cells #[.pointer none, .int .i64 0] 113)
  simpa [N3] using this
theorem N3.b2 (w : World) (g : Nat) (e : Int) (g' : Nat) (e' : Int) : Blk (N3 w g e g' e') (w.heap.size + 1 + 1) 113 #[.pointer none, .int .i64 0] := by
  have := Blk.new ((w.alloc (Obj.cells #[.pointer (some ⟨g, 0, none⟩), .int .i64 e] 113)).alloc (Obj.cells #[.pointer (some ⟨g', 0, none⟩), .int .i64 e'] 113)) 113 #[.pointer none, .int .i64 0]
  simpa [N3] using this
/-- what the middle of a function of two numbers holds -/
structure N3H (w wb : World) (g : Nat) (e : Int) (g' : Nat) (e' : Int) : Prop where
  bel : Below w.heap.size w wb
  siz : w.heap.size + 1 + 1 + 1 ≤ wb.heap.size
  b0 : Blk wb w.heap.size 113 #[.pointer (some ⟨g, 0, none⟩), .int .i64 e]
  b1 : Blk wb (w.heap.size + 1) 113 #[.pointer (some ⟨g', 0, none⟩), .int .i64 e']
  b2 : Blk wb (w.heap.size + 1 + 1) 113 #[.pointer none, .int .i64 0]
theorem N3H.start (w : World) (g : Nat) (e : Int) (g' : Nat) (e' : Int) : N3H w (N3 w g e g' e') g e g' e' := ⟨N3.bel .., by rw [N3.size]; exact Nat.le_refl _, N3.b0 .., N3.b1 .., N3.b2 ..⟩
theorem N3H.below {w wb w' : World} {g : Nat} {e : Int} {g' : Nat} {e' : Int} (h : N3H w wb g e g' e') (hb : Below wb.heap.size wb w') : N3H w w' g e g' e' :=
  ⟨bt3 hb h.bel, Nat.le_trans h.siz hb.size, h.b0.below hb h.b0.lt, h.b1.below hb h.b1.lt, h.b2.below hb h.b2.lt⟩
set_option maxHeartbeats 4000000 in
theorem n_Add0 (g g' : Nat) (e e' V U : Int) (l : Nat) (w : World) (hA : NuP w g e V l) (hB : NuP w g' e' U l) (hv : V = 0) :
    Calls Tryz.prog 113 #[.agg #[.pointer (some ⟨g, 0, none⟩), .int .i64 e], .agg #[.pointer (some ⟨g', 0, none⟩), .int .i64 e']] w (RetN (V + U) l w) := by
  subst hv
  have HH : Hd (N3H w (N3 w g e g' e') g e g' e') := ⟨N3H.start ..⟩
  have HA : Hd (NuP (N3 w g e g' e') g e 0 l) := ⟨hA.below (N3.bel ..)⟩
  have HB : Hd (NuP (N3 w g e g' e') g' e' U l) := ⟨hB.below (N3.bel ..)⟩
  have HV : Hd (0 + U = U) := ⟨by omega⟩
  clear hA hB
  rw [HV.out]
  go_enter Tryz.func113, Tryz.ntmps113
  go_wp2_with (go_at_call 114; (with_reducible refine (n_Sign g e 0 l _ HA.out).mono ?_); rintro e1 w1 ⟨rfl, hb⟩; replace HH : Hd (N3H w w1 g e g' e') := ⟨HH.out.below hb⟩; replace HB : Hd (NuP w1 g' e' U l) := ⟨HB.out.below hb⟩; have c0 := HH.out.b0.cell 0; have c1 := HH.out.b0.cell 1; have d0 := HH.out.b1.cell 0; have d1 := HH.out.b1.cell 1; have r0 := HH.out.b2.cell 0; have r1 := HH.out.b2.cell 1; have f0 := HH.out.b2.frozen 0; have f1 := HH.out.b2.frozen 1; clear hb)
  have hs1 := HH.out.siz
  have n1 : ¬ (w.heap.size + 1 + 1 = w.heap.size + 1) := by omega
  refine bodyPost_ret (v := .agg #[.pointer (some ⟨g', 0, none⟩), .int .i64 e']) (by simp (maxDischargeDepth := 7) [results, Tryz.results113, go_sem, *]) rfl ⟨g', e', rfl, ?_, ?_⟩
  · exact HB.out.set2 HH.out.b2 (by decide) (by decide) _ _
  · exact (HH.out.bel.setCell (by simp; omega) _).setCell (by simp; omega) _
set_option maxHeartbeats 4000000 in
theorem n_Add1 (g g' : Nat) (e e' V U : Int) (l : Nat) (w : World) (hA : NuP w g e V l) (hB : NuP w g' e' U l) (hv : V ≠ 0) (hu : U = 0) :
    Calls Tryz.prog 113 #[.agg #[.pointer (some ⟨g, 0, none⟩), .int .i64 e], .agg #[.pointer (some ⟨g', 0, none⟩), .int .i64 e']] w (RetN (V + U) l w) := by
  subst hu
  have HH : Hd (N3H w (N3 w g e g' e') g e g' e') := ⟨N3H.start ..⟩
  have HA : Hd (NuP (N3 w g e g' e') g e V l) := ⟨hA.below (N3.bel ..)⟩
  have HB : Hd (NuP (N3 w g e g' e') g' e' 0 l) := ⟨hB.below (N3.bel ..)⟩
  have HV : Hd (V + 0 = V) := ⟨by omega⟩
  have hs : (V.sign == 0) = false := by simpa [Int.sign_eq_zero_iff_zero] using hv
  clear hA hB hv
  rw [HV.out]
  go_enter Tryz.func113, Tryz.ntmps113
  go_wp2_with (first | (go_at_call 114; (with_reducible refine (n_Sign g e V l _ HA.out).mono ?_); rintro e1 w1 ⟨rfl, hb⟩; replace HH : Hd (N3H w w1 g e g' e') := ⟨HH.out.below hb⟩; replace HB : Hd (NuP w1 g' e' 0 l) := ⟨HB.out.below hb⟩; replace HA : Hd (NuP w1 g e V l) := ⟨HA.out.below hb⟩; have c0 := HH.out.b0.cell 0; have c1 := HH.out.b0.cell 1; have d0 := HH.out.b1.cell 0; have d1 := HH.out.b1.cell 1; clear hb) | (go_at_call 114; (with_reducible refine (n_Sign g' e' 0 l _ HB.out).mono ?_); rintro e2 w2 ⟨rfl, hb⟩; replace HH : Hd (N3H w w2 g e g' e') := ⟨HH.out.below hb⟩; replace HA : Hd (NuP w2 g e V l) := ⟨HA.out.below hb⟩; have c0 := HH.out.b0.cell 0; have c1 := HH.out.b0.cell 1; have r0 := HH.out.b2.cell 0; have r1 := HH.out.b2.cell 1; have f0 := HH.out.b2.frozen 0; have f1 := HH.out.b2.frozen 1; clear hb))
  have hs1 := HH.out.siz
  have n1 : ¬ (w.heap.size + 1 + 1 = w.heap.size) := by omega
  refine bodyPost_ret (v := .agg #[.pointer (some ⟨g, 0, none⟩), .int .i64 e]) (by simp (maxDischargeDepth := 7) [results, Tryz.results113, go_sem, *]) rfl ⟨g, e, rfl, ?_, ?_⟩
  · exact HA.out.set2 HH.out.b2 (by decide) (by decide) _ _
  · exact (HH.out.bel.setCell (by simp; omega) _).setCell (by simp; omega) _
set_option maxHeartbeats 4000000 in
theorem n_AddA (g g' : Nat) (m m' e e' V U : Int) (l : Nat) (w : World) (hA : Big w g m) (fA : NuF m e V l) (hB : Big w g' m') (fB : NuF m' e' U l) (hv : V ≠ 0) (hu : U ≠ 0) (ka kb : Nat) (he : e = e + ka) (he' : e' = e + kb) (hle : e ≤ e') (hbd : Bd (V + U)) :
    Calls Tryz.prog 113 #[.agg #[.pointer (some ⟨g, 0, none⟩), .int .i64 e], .agg #[.pointer (some ⟨g', 0, none⟩), .int .i64 e']] w (RetN (V + U) l w) := by
  have hsc : (SC : Int) = 20000 := rfl
  have h0 : -20000 ≤ e := by have := fA.lo; have := fA.lsc; have := fB.lo; have := fB.lsc; omega
  have he1 : e ≤ 2400000 := fA.hi
  have he2 : e' ≤ 2400000 := fB.hi
  have hka : (ka : Int) ≤ 2420000 := by omega
  have hkb : (kb : Int) ≤ 2420000 := by omega
  have eV : V = dv (m * 2 ^ ka) e := by rw [fA.val, dv_shift _ _ _ (by omega), ← he]
  have eU : U = dv (m' * 2 ^ kb) e := by rw [fB.val, dv_shift _ _ _ (by omega), ← he']
  have eS : V + U = dv (m * 2 ^ ka + m' * 2 ^ kb) e := by rw [dv_add, ← eV, ← eU]
  have HBD : Hd (Bd (m * 2 ^ ka) ∧ Bd (m' * 2 ^ kb) ∧ Bd (m * 2 ^ ka + m' * 2 ^ kb) ∧ -20000 ≤ e ∧ e ≤ 2400000 ∧ e' ≤ 2400000 ∧ e = e + ka ∧ e' = e + kb) := ⟨⟨dv_bd (e := e) (by rw [← eV]; exact fA.bd), dv_bd (e := e) (by rw [← eU]; exact fB.bd), dv_bd (e := e) (by rw [← eS]; exact hbd), h0, he1, he2, he, he'⟩⟩
  have HNF : Hd (NuF (m * 2 ^ ka + m' * 2 ^ kb) e (V + U) l) := ⟨⟨eS, by have := fA.lo; have := fB.lo; omega, fA.lsc, by omega, hbd⟩⟩
  have HH : Hd (N3H w (N3 w g e g' e') g e g' e') := ⟨N3H.start ..⟩
  have HA : Hd (Big (N3 w g e g' e') g m) := ⟨hA.below (N3.bel ..)⟩
  have HB : Hd (Big (N3 w g e g' e') g' m') := ⟨hB.below (N3.bel ..)⟩
  have FA : Hd (NuF m e V l) := ⟨fA⟩
  have FB : Hd (NuF m' e' U l) := ⟨fB⟩
  have hs : (V.sign == 0) = false := by simpa [Int.sign_eq_zero_iff_zero] using hv
  have hs' : (U.sign == 0) = false := by simpa [Int.sign_eq_zero_iff_zero] using hu
  clear hA hB hv hu fA fB eV eU eS h0 hbd he he'
  go_enter Tryz.func113, Tryz.ntmps113
  go_wp2_with (first | (go_at_call 114; (with_reducible refine (n_Sign g e V l _ (NuP.of HA.out FA.out)).mono ?_); rintro e1 w1 ⟨rfl, hb⟩; replace HH : Hd (N3H w w1 g e g' e') := ⟨HH.out.below hb⟩; replace HB : Hd (Big w1 g' m') := ⟨HB.out.below hb⟩; replace HA : Hd (Big w1 g m) := ⟨HA.out.below hb⟩; have c0 := HH.out.b0.cell 0; have c1 := HH.out.b0.cell 1; have d0 := HH.out.b1.cell 0; have d1 := HH.out.b1.cell 1; clear hb) | (go_at_call 114; (with_reducible refine (n_Sign g' e' U l _ (NuP.of HB.out FB.out)).mono ?_); rintro e2 wb ⟨rfl, hb⟩; replace HH : Hd (N3H w wb g e g' e') := ⟨HH.out.below hb⟩; replace HA : Hd (Big wb g m) := ⟨HA.out.below hb⟩; replace HB : Hd (Big wb g' m') := ⟨HB.out.below hb⟩; clear c0 c1 d0 d1; have c0 := HH.out.b0.cell 0; have c1 := HH.out.b0.cell 1; have d0 := HH.out.b1.cell 0; have d1 := HH.out.b1.cell 1; clear hb))
  have hs1 := HH.out.siz
  have n1 : ¬ (w.heap.size + 1 + 1 = w.heap.size) := by omega
  have n2 : ¬ (w.heap.size + 1 + 1 = w.heap.size + 1) := by omega
  have ne0 := World.new_ne wb ⟨w.heap.size, 0, none⟩ c0
  have ne1 := World.new_ne wb ⟨w.heap.size + 1, 0, none⟩ d0
  go_region_held3 (fun w' => w'.cell? ⟨w.heap.size, 0, none⟩ = some (.pointer (some ⟨g, 0, none⟩)) ∧ w'.cell? ⟨w.heap.size, 1, none⟩ = some (.int .i64 e) ∧ w'.cell? ⟨w.heap.size + 1, 0, none⟩ = some (.pointer (some ⟨g', 0, none⟩)) ∧ w'.cell? ⟨w.heap.size + 1, 1, none⟩ = some (.int .i64 e')) ((first | assumption | (exact keep4 hq ⟨c0, c1, d0, d1⟩) | go_keep | (refine ⟨?_, ?_, ?_, ?_⟩ <;> go_simp) | (constructor <;> go_simp)))
    (first | (go_at_call 187; (with_reducible refine (n_At g m e e ka _ (HA.out.below (by (repeat (first | exact Below.refl _ _ | assumption | refine Below.drew ?_ | refine bdn ?_ | refine ba _ ?_ | refine bs0 _ _ ?_ ?_ | refine bs1 _ _ _ ?_ ?_ | refine bs2 _ _ _ _ ?_ ?_ | refine bs3 _ _ _ _ _ ?_ ?_ | refine bt3 (by assumption) ?_)))) HBD.out.2.2.2.2.2.2.1 HBD.out.2.2.2.1 HBD.out.2.2.2.2.1 HBD.out.1).mono ?_); rintro e3 w3 ⟨ga, rfl, hga, hB3, hba⟩; replace hq : Below wb.heap.size wb w3 := bt3 hba (by (repeat (first | exact Below.refl _ _ | assumption | refine Below.drew ?_ | refine bdn ?_ | refine ba _ ?_ | refine bs0 _ _ ?_ ?_ | refine bs1 _ _ _ ?_ ?_ | refine bs2 _ _ _ _ ?_ ?_ | refine bs3 _ _ _ _ _ ?_ ?_ | refine bt3 (by assumption) ?_))); (try replace HBb : Hd (Big w3 gb (m' * 2 ^ kb)) := ⟨HBb.out.below (bt3 hba (by (repeat (first | exact Below.refl _ _ | assumption | refine Below.drew ?_ | refine bdn ?_ | refine ba _ ?_ | refine bs0 _ _ ?_ ?_ | refine bs1 _ _ _ ?_ ?_ | refine bs2 _ _ _ _ ?_ ?_ | refine bs3 _ _ _ _ _ ?_ ?_ | refine bt3 (by assumption) ?_))))⟩); have HBa : Hd (Big w3 ga (m * 2 ^ ka)) := ⟨hB3⟩; have lta := hB3.lt; clear hB3) | (go_at_call 187; (with_reducible refine (n_At g' m' e' e kb _ (HB.out.below (by (repeat (first | exact Below.refl _ _ | assumption | refine Below.drew ?_ | refine bdn ?_ | refine ba _ ?_ | refine bs0 _ _ ?_ ?_ | refine bs1 _ _ _ ?_ ?_ | refine bs2 _ _ _ _ ?_ ?_ | refine bs3 _ _ _ _ _ ?_ ?_ | refine bt3 (by assumption) ?_)))) HBD.out.2.2.2.2.2.2.2 HBD.out.2.2.2.1 HBD.out.2.2.2.2.2.1 HBD.out.2.1).mono ?_); rintro e4 w4 ⟨gb, rfl, hgb, hB4, hbb⟩; replace hq : Below wb.heap.size wb w4 := bt3 hbb (by (repeat (first | exact Below.refl _ _ | assumption | refine Below.drew ?_ | refine bdn ?_ | refine ba _ ?_ | refine bs0 _ _ ?_ ?_ | refine bs1 _ _ _ ?_ ?_ | refine bs2 _ _ _ _ ?_ ?_ | refine bs3 _ _ _ _ _ ?_ ?_ | refine bt3 (by assumption) ?_))); (try replace HBa : Hd (Big w4 ga (m * 2 ^ ka)) := ⟨HBa.out.below (bt3 hbb (by (repeat (first | exact Below.refl _ _ | assumption | refine Below.drew ?_ | refine bdn ?_ | refine ba _ ?_ | refine bs0 _ _ ?_ ?_ | refine bs1 _ _ _ ?_ ?_ | refine bs2 _ _ _ _ ?_ ?_ | refine bs3 _ _ _ _ _ ?_ ?_ | refine bt3 (by assumption) ?_))))⟩); have HBb : Hd (Big w4 gb (m' * 2 ^ kb)) := ⟨hB4⟩; have ltb := hB4.lt; clear hB4) | (go_at_call 186; (with_reducible refine (m_AddZ _ ga gb (m * 2 ^ ka) (m' * 2 ^ kb) _ (by first | exact IntB.new _ | exact (IntB.new _).drew | exact (IntB.new _).below hbb | exact (IntB.new _).below hba | exact (IntB.new _).drew.below hbb | exact (IntB.new _).drew.below hba | exact ((IntB.new _).below hba).below hbb | exact ((IntB.new _).below hbb).below hba | exact ((IntB.new _).drew.below hba).below hbb | exact ((IntB.new _).drew.below hbb).below hba) (HBa.out.below (by (repeat (first | exact Below.refl _ _ | assumption | refine Below.drew ?_ | refine bdn ?_ | refine ba _ ?_ | refine bs0 _ _ ?_ ?_ | refine bs1 _ _ _ ?_ ?_ | refine bs2 _ _ _ _ ?_ ?_ | refine bs3 _ _ _ _ _ ?_ ?_ | refine bt3 (by assumption) ?_)))) (HBb.out.below (by (repeat (first | exact Below.refl _ _ | assumption | refine Below.drew ?_ | refine bdn ?_ | refine ba _ ?_ | refine bs0 _ _ ?_ ?_ | refine bs1 _ _ _ ?_ ?_ | refine bs2 _ _ _ _ ?_ ?_ | refine bs3 _ _ _ _ _ ?_ ?_ | refine bt3 (by assumption) ?_)))) (by have h1 := hga; have h2 := hgb; have h3 := hba.size; have h4 := hbb.size; (try simp at h1); (try simp at h2); (try simp at h3); (try simp at h4); omega) HBD.out.2.2.1).mono ?_); rintro e5 w5 ⟨rfl, hB5, hg5⟩; have hq0 : Below wb.heap.size wb w5 := Below.grown (by (repeat (first | exact Below.refl _ _ | assumption | refine Below.drew ?_ | refine bdn ?_ | refine ba _ ?_ | refine bs0 _ _ ?_ ?_ | refine bs1 _ _ _ ?_ ?_ | refine bs2 _ _ _ _ ?_ ?_ | refine bs3 _ _ _ _ _ ?_ ?_ | refine bt3 (by assumption) ?_))) hg5 (by first | exact hq.size | exact le_alloc _ hq.size) (fun i hi => by cases hi; first | exact Nat.le_refl _ | exact hq.size | (have h3 := hba.size; have h4 := hbb.size; (try simp at h3); (try simp at h4); have := hq.size; omega)); replace hq := hq0; have HR : Hd (Big w5 _ (m * 2 ^ ka + m' * 2 ^ kb)) := ⟨hB5⟩; have HK := Hd.mk (HH.out.below hq0); have r0 := HK.out.b2.cell 0; have r1 := HK.out.b2.cell 1; have f0 := HK.out.b2.frozen 0; have f1 := HK.out.b2.frozen 1; clear hB5 hg5 hq0))
  all_goals
    go_wp2_with fail
    first
    | (refine bodyPost_ret (v := .agg #[.pointer (some ⟨wb.heap.size, 0, none⟩), .int .i64 e]) (by simp (maxDischargeDepth := 7) [results, Tryz.results113, go_sem, *]) rfl ⟨_, e, rfl, (NuP.of HR.out HNF.out).set2 HK.out.b2 (by decide) (by decide) _ _, ?_⟩
       exact ((bt3 hq HH.out.bel).setCell (by simp; omega) _).setCell (by simp; omega) _)
    | (refine bodyPost_ret (v := .agg #[.pointer (some ⟨w3.heap.size, 0, none⟩), .int .i64 e]) (by simp (maxDischargeDepth := 7) [results, Tryz.results113, go_sem, *]) rfl ⟨_, e, rfl, (NuP.of HR.out HNF.out).set2 HK.out.b2 (by decide) (by decide) _ _, ?_⟩
       exact ((bt3 hq HH.out.bel).setCell (by simp; omega) _).setCell (by simp; omega) _)
    | (refine bodyPost_ret (v := .agg #[.pointer (some ⟨w4.heap.size, 0, none⟩), .int .i64 e]) (by simp (maxDischargeDepth := 7) [results, Tryz.results113, go_sem, *]) rfl ⟨_, e, rfl, (NuP.of HR.out HNF.out).set2 HK.out.b2 (by decide) (by decide) _ _, ?_⟩
       exact ((bt3 hq HH.out.bel).setCell (by simp; omega) _).setCell (by simp; omega) _)
set_option maxHeartbeats 4000000 in
theorem n_AddB (g g' : Nat) (m m' e e' V U : Int) (l : Nat) (w : World) (hA : Big w g m) (fA : NuF m e V l) (hB : Big w g' m') (fB : NuF m' e' U l) (hv : V ≠ 0) (hu : U ≠ 0) (ka kb : Nat) (he : e = e' + ka) (he' : e' = e' + kb) (hle : e' < e) (hbd : Bd (V + U)) :
    Calls Tryz.prog 113 #[.agg #[.pointer (some ⟨g, 0, none⟩), .int .i64 e], .agg #[.pointer (some ⟨g', 0, none⟩), .int .i64 e']] w (RetN (V + U) l w) := by
  have hsc : (SC : Int) = 20000 := rfl
  have h0 : -20000 ≤ e' := by have := fA.lo; have := fA.lsc; have := fB.lo; have := fB.lsc; omega
  have he1 : e ≤ 2400000 := fA.hi
  have he2 : e' ≤ 2400000 := fB.hi
  have hka : (ka : Int) ≤ 2420000 := by omega
  have hkb : (kb : Int) ≤ 2420000 := by omega
  have eV : V = dv (m * 2 ^ ka) e' := by rw [fA.val, dv_shift _ _ _ (by omega), ← he]
  have eU : U = dv (m' * 2 ^ kb) e' := by rw [fB.val, dv_shift _ _ _ (by omega), ← he']
  have eS : V + U = dv (m * 2 ^ ka + m' * 2 ^ kb) e' := by rw [dv_add, ← eV, ← eU]
  have HBD : Hd (Bd (m * 2 ^ ka) ∧ Bd (m' * 2 ^ kb) ∧ Bd (m * 2 ^ ka + m' * 2 ^ kb) ∧ -20000 ≤ e' ∧ e ≤ 2400000 ∧ e' ≤ 2400000 ∧ e = e' + ka ∧ e' = e' + kb) := ⟨⟨dv_bd (e := e') (by rw [← eV]; exact fA.bd), dv_bd (e := e') (by rw [← eU]; exact fB.bd), dv_bd (e := e') (by rw [← eS]; exact hbd), h0, he1, he2, he, he'⟩⟩
  have HNF : Hd (NuF (m * 2 ^ ka + m' * 2 ^ kb) e' (V + U) l) := ⟨⟨eS, by have := fA.lo; have := fB.lo; omega, fA.lsc, by omega, hbd⟩⟩
  have HH : Hd (N3H w (N3 w g e g' e') g e g' e') := ⟨N3H.start ..⟩
  have HA : Hd (Big (N3 w g e g' e') g m) := ⟨hA.below (N3.bel ..)⟩
  have HB : Hd (Big (N3 w g e g' e') g' m') := ⟨hB.below (N3.bel ..)⟩
  have FA : Hd (NuF m e V l) := ⟨fA⟩
  have FB : Hd (NuF m' e' U l) := ⟨fB⟩
  have hs : (V.sign == 0) = false := by simpa [Int.sign_eq_zero_iff_zero] using hv
  have hs' : (U.sign == 0) = false := by simpa [Int.sign_eq_zero_iff_zero] using hu
  clear hA hB hv hu fA fB eV eU eS h0 hbd he he'
  go_enter Tryz.func113, Tryz.ntmps113
  go_wp2_with (first | (go_at_call 114; (with_reducible refine (n_Sign g e V l _ (NuP.of HA.out FA.out)).mono ?_); rintro e1 w1 ⟨rfl, hb⟩; replace HH : Hd (N3H w w1 g e g' e') := ⟨HH.out.below hb⟩; replace HB : Hd (Big w1 g' m') := ⟨HB.out.below hb⟩; replace HA : Hd (Big w1 g m) := ⟨HA.out.below hb⟩; have c0 := HH.out.b0.cell 0; have c1 := HH.out.b0.cell 1; have d0 := HH.out.b1.cell 0; have d1 := HH.out.b1.cell 1; clear hb) | (go_at_call 114; (with_reducible refine (n_Sign g' e' U l _ (NuP.of HB.out FB.out)).mono ?_); rintro e2 wb ⟨rfl, hb⟩; replace HH : Hd (N3H w wb g e g' e') := ⟨HH.out.below hb⟩; replace HA : Hd (Big wb g m) := ⟨HA.out.below hb⟩; replace HB : Hd (Big wb g' m') := ⟨HB.out.below hb⟩; clear c0 c1 d0 d1; have c0 := HH.out.b0.cell 0; have c1 := HH.out.b0.cell 1; have d0 := HH.out.b1.cell 0; have d1 := HH.out.b1.cell 1; clear hb))
  have hs1 := HH.out.siz
  have n1 : ¬ (w.heap.size + 1 + 1 = w.heap.size) := by omega
  have n2 : ¬ (w.heap.size + 1 + 1 = w.heap.size + 1) := by omega
  have ne0 := World.new_ne wb ⟨w.heap.size, 0, none⟩ c0
  have ne1 := World.new_ne wb ⟨w.heap.size + 1, 0, none⟩ d0
  go_region_held3 (fun w' => w'.cell? ⟨w.heap.size, 0, none⟩ = some (.pointer (some ⟨g, 0, none⟩)) ∧ w'.cell? ⟨w.heap.size, 1, none⟩ = some (.int .i64 e) ∧ w'.cell? ⟨w.heap.size + 1, 0, none⟩ = some (.pointer (some ⟨g', 0, none⟩)) ∧ w'.cell? ⟨w.heap.size + 1, 1, none⟩ = some (.int .i64 e')) ((first | assumption | (exact keep4 hq ⟨c0, c1, d0, d1⟩) | go_keep | (refine ⟨?_, ?_, ?_, ?_⟩ <;> go_simp) | (constructor <;> go_simp)))
    (first | (go_at_call 187; (with_reducible refine (n_At g m e e' ka _ (HA.out.below (by (repeat (first | exact Below.refl _ _ | assumption | refine Below.drew ?_ | refine bdn ?_ | refine ba _ ?_ | refine bs0 _ _ ?_ ?_ | refine bs1 _ _ _ ?_ ?_ | refine bs2 _ _ _ _ ?_ ?_ | refine bs3 _ _ _ _ _ ?_ ?_ | refine bt3 (by assumption) ?_)))) HBD.out.2.2.2.2.2.2.1 HBD.out.2.2.2.1 HBD.out.2.2.2.2.1 HBD.out.1).mono ?_); rintro e3 w3 ⟨ga, rfl, hga, hB3, hba⟩; replace hq : Below wb.heap.size wb w3 := bt3 hba (by (repeat (first | exact Below.refl _ _ | assumption | refine Below.drew ?_ | refine bdn ?_ | refine ba _ ?_ | refine bs0 _ _ ?_ ?_ | refine bs1 _ _ _ ?_ ?_ | refine bs2 _ _ _ _ ?_ ?_ | refine bs3 _ _ _ _ _ ?_ ?_ | refine bt3 (by assumption) ?_))); (try replace HBb : Hd (Big w3 gb (m' * 2 ^ kb)) := ⟨HBb.out.below (bt3 hba (by (repeat (first | exact Below.refl _ _ | assumption | refine Below.drew ?_ | refine bdn ?_ | refine ba _ ?_ | refine bs0 _ _ ?_ ?_ | refine bs1 _ _ _ ?_ ?_ | refine bs2 _ _ _ _ ?_ ?_ | refine bs3 _ _ _ _ _ ?_ ?_ | refine bt3 (by assumption) ?_))))⟩); have HBa : Hd (Big w3 ga (m * 2 ^ ka)) := ⟨hB3⟩; have lta := hB3.lt; clear hB3) | (go_at_call 187; (with_reducible refine (n_At g' m' e' e' kb _ (HB.out.below (by (repeat (first | exact Below.refl _ _ | assumption | refine Below.drew ?_ | refine bdn ?_ | refine ba _ ?_ | refine bs0 _ _ ?_ ?_ | refine bs1 _ _ _ ?_ ?_ | refine bs2 _ _ _ _ ?_ ?_ | refine bs3 _ _ _ _ _ ?_ ?_ | refine bt3 (by assumption) ?_)))) HBD.out.2.2.2.2.2.2.2 HBD.out.2.2.2.1 HBD.out.2.2.2.2.2.1 HBD.out.2.1).mono ?_); rintro e4 w4 ⟨gb, rfl, hgb, hB4, hbb⟩; replace hq : Below wb.heap.size wb w4 := bt3 hbb (by (repeat (first | exact Below.refl _ _ | assumption | refine Below.drew ?_ | refine bdn ?_ | refine ba _ ?_ | refine bs0 _ _ ?_ ?_ | refine bs1 _ _ _ ?_ ?_ | refine bs2 _ _ _ _ ?_ ?_ | refine bs3 _ _ _ _ _ ?_ ?_ | refine bt3 (by assumption) ?_))); (try replace HBa : Hd (Big w4 ga (m * 2 ^ ka)) := ⟨HBa.out.below (bt3 hbb (by (repeat (first | exact Below.refl _ _ | assumption | refine Below.drew ?_ | refine bdn ?_ | refine ba _ ?_ | refine bs0 _ _ ?_ ?_ | refine bs1 _ _ _ ?_ ?_ | refine bs2 _ _ _ _ ?_ ?_ | refine bs3 _ _ _ _ _ ?_ ?_ | refine bt3 (by assumption) ?_))))⟩); have HBb : Hd (Big w4 gb (m' * 2 ^ kb)) := ⟨hB4⟩; have ltb := hB4.lt; clear hB4) | (go_at_call 186; (with_reducible refine (m_AddZ _ ga gb (m * 2 ^ ka) (m' * 2 ^ kb) _ (by first | exact IntB.new _ | exact (IntB.new _).drew | exact (IntB.new _).below hbb | exact (IntB.new _).below hba | exact (IntB.new _).drew.below hbb | exact (IntB.new _).drew.below hba | exact ((IntB.new _).below hba).below hbb | exact ((IntB.new _).below hbb).below hba | exact ((IntB.new _).drew.below hba).below hbb | exact ((IntB.new _).drew.below hbb).below hba) (HBa.out.below (by (repeat (first | exact Below.refl _ _ | assumption | refine Below.drew ?_ | refine bdn ?_ | refine ba _ ?_ | refine bs0 _ _ ?_ ?_ | refine bs1 _ _ _ ?_ ?_ | refine bs2 _ _ _ _ ?_ ?_ | refine bs3 _ _ _ _ _ ?_ ?_ | refine bt3 (by assumption) ?_)))) (HBb.out.below (by (repeat (first | exact Below.refl _ _ | assumption | refine Below.drew ?_ | refine bdn ?_ | refine ba _ ?_ | refine bs0 _ _ ?_ ?_ | refine bs1 _ _ _ ?_ ?_ | refine bs2 _ _ _ _ ?_ ?_ | refine bs3 _ _ _ _ _ ?_ ?_ | refine bt3 (by assumption) ?_)))) (by have h1 := hga; have h2 := hgb; have h3 := hba.size; have h4 := hbb.size; (try simp at h1); (try simp at h2); (try simp at h3); (try simp at h4); omega) HBD.out.2.2.1).mono ?_); rintro e5 w5 ⟨rfl, hB5, hg5⟩; have hq0 : Below wb.heap.size wb w5 := Below.grown (by (repeat (first | exact Below.refl _ _ | assumption | refine Below.drew ?_ | refine bdn ?_ | refine ba _ ?_ | refine bs0 _ _ ?_ ?_ | refine bs1 _ _ _ ?_ ?_ | refine bs2 _ _ _ _ ?_ ?_ | refine bs3 _ _ _ _ _ ?_ ?_ | refine bt3 (by assumption) ?_))) hg5 (by first | exact hq.size | exact le_alloc _ hq.size) (fun i hi => by cases hi; first | exact Nat.le_refl _ | exact hq.size | (have h3 := hba.size; have h4 := hbb.size; (try simp at h3); (try simp at h4); have := hq.size; omega)); replace hq := hq0; have HR : Hd (Big w5 _ (m * 2 ^ ka + m' * 2 ^ kb)) := ⟨hB5⟩; have HK := Hd.mk (HH.out.below hq0); have r0 := HK.out.b2.cell 0; have r1 := HK.out.b2.cell 1; have f0 := HK.out.b2.frozen 0; have f1 := HK.out.b2.frozen 1; clear hB5 hg5 hq0))
  all_goals
    go_wp2_with fail
    first
    | (refine bodyPost_ret (v := .agg #[.pointer (some ⟨wb.heap.size, 0, none⟩), .int .i64 e']) (by simp (maxDischargeDepth := 7) [results, Tryz.results113, go_sem, *]) rfl ⟨_, e', rfl, (NuP.of HR.out HNF.out).set2 HK.out.b2 (by decide) (by decide) _ _, ?_⟩
       exact ((bt3 hq HH.out.bel).setCell (by simp; omega) _).setCell (by simp; omega) _)
    | (refine bodyPost_ret (v := .agg #[.pointer (some ⟨w3.heap.size, 0, none⟩), .int .i64 e']) (by simp (maxDischargeDepth := 7) [results, Tryz.results113, go_sem, *]) rfl ⟨_, e', rfl, (NuP.of HR.out HNF.out).set2 HK.out.b2 (by decide) (by decide) _ _, ?_⟩
       exact ((bt3 hq HH.out.bel).setCell (by simp; omega) _).setCell (by simp; omega) _)
    | (refine bodyPost_ret (v := .agg #[.pointer (some ⟨w4.heap.size, 0, none⟩), .int .i64 e']) (by simp (maxDischargeDepth := 7) [results, Tryz.results113, go_sem, *]) rfl ⟨_, e', rfl, (NuP.of HR.out HNF.out).set2 HK.out.b2 (by decide) (by decide) _ _, ?_⟩
       exact ((bt3 hq HH.out.bel).setCell (by simp; omega) _).setCell (by simp; omega) _)
theorem n_Add (g g' : Nat) (e e' V U : Int) (l : Nat) (w : World) (hA : NuP w g e V l) (hB : NuP w g' e' U l) (hbd : Bd (V + U)) :
    Calls Tryz.prog 113 #[.agg #[.pointer (some ⟨g, 0, none⟩), .int .i64 e], .agg #[.pointer (some ⟨g', 0, none⟩), .int .i64 e']] w (RetN (V + U) l w) := by
  by_cases hv : V = 0
  · exact n_Add0 g g' e e' V U l w hA hB hv
  · by_cases hu : U = 0
    · exact n_Add1 g g' e e' V U l w hA hB hv hu
    · obtain ⟨m, h1, h2⟩ := hA
      obtain ⟨m', h3, h4⟩ := hB
      rcases Int.lt_or_le e' e with h | h
      · exact n_AddB g g' m m' e e' V U l w h1 h2 h3 h4 hv hu (e - e').toNat 0 (by omega) (by simp) h hbd
      · exact n_AddA g g' m m' e e' V U l w h1 h2 h3 h4 hv hu 0 (e' - e).toNat (by simp) (by omega) h hbd
end Go.Proofs.YtflgjecpjaiecaaGreat
/- Contracts: sums of lists of floats and their signs, of the program. -/
set_option linter.unusedVariables false
set_option linter.unusedSimpArgs false
namespace Go.Proofs.YtflgjecpjaiecaaGreat
open Go.RowKit Num Flt
theorem Big.zero {w : World} {g : Nat} (h : Blk w g 168 #[.bool false, .slice none 0 0]) : Big w g 0 :=
  ⟨false, none, 0, 0, [], h, rfl, Nat.le_refl _, by omega, Canon.nil _, (fun h => by cases h), rfl, Reads.none_, (fun _ h => by cases h)⟩
theorem bd_zero : Bd 0 := by
  have : (0 : Int) < TOP := by unfold TOP; exact pow_pos' (by decide) _
  unfold Bd; omega
theorem nuF_zero (l : Nat) (hl : l ≤ SC) : NuF 0 0 0 l := ⟨by simp [dv], by omega, hl, by omega, bd_zero⟩
set_option maxHeartbeats 4000000 in
theorem n_Zero (l : Nat) (w : World) (hl : l ≤ SC) : Calls Tryz.prog 218 #[] w (RetN 0 l w) := by
  have HL : Hd (NuF 0 0 0 l) := ⟨nuF_zero l hl⟩
  clear hl
  go_enter Tryz.func218, Tryz.ntmps218
  go_wp2
  refine bodyPost_ret (v := .agg #[.pointer (some ⟨w.heap.size + 1, 0, none⟩), .int .i64 0]) (by simp (maxDischargeDepth := 7) [results, Tryz.results218, go_sem, *]) rfl ⟨w.heap.size + 1, 0, rfl, ?_, ?_⟩
  · have hb : Blk ((w.alloc (.cells #[.pointer (some ⟨w.heap.size + 1, 0, none⟩), .int .i64 0] 113)).alloc (.cells #[.bool false, .slice none 0 0] 168)) (w.heap.size + 1) 168 #[.bool false, .slice none 0 0] := by
      have := Blk.new (w.alloc (.cells #[.pointer (some ⟨w.heap.size + 1, 0, none⟩), .int .i64 0] 113)) 168 #[.bool false, .slice none 0 0]; simpa using this
    exact NuP.of (Big.zero hb) HL.out
  · (repeat (first | exact Below.refl _ _ | assumption | refine Below.drew ?_ | refine bdn ?_ | refine ba _ ?_ | refine bs0 _ _ ?_ ?_ | refine bs1 _ _ _ ?_ ?_ | refine bs2 _ _ _ _ ?_ ?_ | refine bs3 _ _ _ _ _ ?_ ?_ | refine bt3 (by assumption) ?_))
/-- the world with the result's cell -/
abbrev Wn (w : World) : World := w.alloc (Obj.cells #[.pointer none, .int .i64 0] 113)
/-- what a round of a sum of floats holds -/
structure SumH (w w1 wr : World) (g : Nat) (e V : Int) : Prop where
  bel : Below (Wn w).heap.size (Wn w) wr
  b0 : Blk wr w1.heap.size 113 #[.pointer (some ⟨g, 0, none⟩), .int .i64 e]
  nu : NuP wr g e V 149
  lt : w.heap.size < w1.heap.size
set_option maxHeartbeats 4000000 in
theorem n_Parts (A : Option Addr) (n c : Nat) (xs : List Nat) (w : World) (hn : n = xs.length) (hl : n ≤ 1000) (hR : RF w A xs) (hx : ∀ x ∈ xs, W x ∧ fin x) :
    Calls Tryz.prog 149 #[.slice A n c] w (RetN (sumv xs) 149 w) := by
  have HR : Hd (RF w A xs) := ⟨hR⟩
  have HN : Hd (n = xs.length ∧ n ≤ 1000 ∧ ∀ x ∈ xs, W x ∧ fin x) := ⟨⟨hn, hl, hx⟩⟩
  have hnI : (n : Int) ≤ 1000 := by omega
  have HS : Hd (∀ k, Bd (sumv (xs.take k))) := ⟨fun k => sumv_bd _ (fun x hx' => (hx x (List.mem_of_mem_take hx')).2) (by simp; omega)⟩
  have HSC : Hd (149 ≤ SC) := ⟨by unfold SC; omega⟩
  clear hn hl hR hx
  go_enter Tryz.func149, Tryz.ntmps149
  go_wp2_with (go_at_call 218; (with_reducible refine (n_Zero 149 _ HSC.out).mono ?_); rintro e1 w1 ⟨g0, x0, rfl, hN, hb⟩; have HN0 : Hd (NuP w1 g0 x0 0 149) := ⟨hN⟩; have HB0 : Hd (Below (Wn w).heap.size (Wn w) w1) := ⟨hb⟩; clear hN hb)
  go_loopw [9] (fun i wr => ∃ (k g : Nat) (e : Int), i = .int .i64 k ∧ (k : Int) ≤ n ∧ Hd (SumH w w1 wr g e (sumv (xs.take k))))
    (fun i _ => n - (intOf i).toNat)
  case atStart =>
    refine ⟨0, g0, x0, rfl, by omega, ⟨⟨HB0.out.alloc HB0.out.size _, Blk.new _ _ _, ?_, ?_⟩⟩⟩
    · exact HN0.out.below (ba _ (Below.refl _ _))
    · have := HB0.out.size; simp at this; omega
  case round =>
    obtain ⟨k, g, e, rfl, hk, HH⟩ := hrel
    have c0 := HH.out.b0.cell 0
    have c1 := HH.out.b0.cell 1
    have f0 := HH.out.b0.frozen 0
    have f1 := HH.out.b0.frozen 1
    have HB2 : Hd (Below w.heap.size w wr) := ⟨bt3 HH.out.bel (ba _ (Below.refl _ _))⟩
    by_cases h1 : k < n
    · obtain ⟨ad, hA, hcx⟩ := HR.out.at_ (k := k) (by have := HN.out; omega)
      subst hA
      have HX : Hd (W (xs.getD k 0) ∧ fin (xs.getD k 0)) := ⟨HN.out.2.2 _ (by have h := HN.out.1; rw [List.getD_eq_getElem?_getD, List.getElem?_eq_getElem (by omega)]; exact List.getElem_mem _)⟩
      have HSU : Hd (sumv (xs.take (k + 1)) = sumv (xs.take k) + fv (xs.getD k 0)) := ⟨sumv_take xs k (by have := HN.out; omega)⟩
      have HBD : Hd (Bd (sumv (xs.take k) + fv (xs.getD k 0))) := ⟨by rw [← HSU.out]; exact HS.out (k + 1)⟩
      replace hcx := (HB2.out.cell (World.block_lt_of_cell? w _ hcx)).trans hcx
      generalize hex : xs.getD k 0 = x at *
      clear hex
      go_wp2_with fail
      go_region_with (first | (go_at_call 111; (with_reducible refine (n_Of x _ HX.out.1 HX.out.2).mono ?_); rintro e2 w2 ⟨g2, x2, rfl, hN2, hb2⟩; have hq2 : Below wr.heap.size wr w2 := bt3 hb2 (by (repeat (first | exact Below.refl _ _ | assumption | refine Below.drew ?_ | refine bdn ?_ | refine ba _ ?_ | refine bs0 _ _ ?_ ?_ | refine bs1 _ _ _ ?_ ?_ | refine bs2 _ _ _ _ ?_ ?_ | refine bs3 _ _ _ _ _ ?_ ?_ | refine bt3 (by assumption) ?_))); have HN2 : Hd (NuP w2 g2 x2 (fv x) 149) := ⟨hN2⟩; have HH2 : Hd (NuP w2 g e (sumv (xs.take k)) 149 ∧ Blk w2 w1.heap.size 113 #[.pointer (some ⟨g, 0, none⟩), .int .i64 e]) := ⟨⟨HH.out.nu.below hq2, HH.out.b0.below hq2 HH.out.b0.lt⟩⟩; have d0 := HH2.out.2.cell 0; have d1 := HH2.out.2.cell 1; clear hN2 hb2) | (go_at_call 113; (with_reducible refine (n_Add g g2 e x2 (sumv (xs.take k)) (fv x) 149 _ HH2.out.1 HN2.out HBD.out).mono ?_); rintro e3 w3 ⟨g3, x3, rfl, hN3, hb3⟩; have hq3 : Below wr.heap.size wr w3 := bt3 hb3 hq2; have HN3 : Hd (NuP w3 g3 x3 (sumv (xs.take k) + fv x) 149) := ⟨hN3⟩; have HK3 : Hd (Blk w3 w1.heap.size 113 #[.pointer (some ⟨g, 0, none⟩), .int .i64 e]) := ⟨HH.out.b0.below hq3 HH.out.b0.lt⟩; have k0 := HK3.out.cell 0; have k1 := HK3.out.cell 1; have l0 := HK3.out.frozen 0; have l1 := HK3.out.frozen 1; clear hN3 hb3))
      all_goals
        go_wp2_with fail
        go_roundw
        case rel =>
          refine ⟨k + 1, g3, x3, by go_num, by omega, ⟨⟨?_, ?_, ?_, HH.out.lt⟩⟩⟩
          · exact ((bt3 hq3 HH.out.bel).setCell (by have := HH.out.lt; simp; omega) _).setCell (by have := HH.out.lt; simp; omega) _
          · have := (HK3.out.set_ 0 (.pointer (some ⟨g3, 0, none⟩))).set_ 1 (.int .i64 x3)
            simpa using this
          · rw [HSU.out]
            exact HN3.out.set2 HK3.out (by decide) (by decide) _ _
        case measure => simp [intOf]; omega
    · have HE : Hd (sumv (xs.take k) = sumv xs) := ⟨by rw [List.take_of_length_le (by have := HN.out; omega)]⟩
      have HK : Hd (Blk wr w.heap.size 113 #[.pointer none, .int .i64 0]) := ⟨(Blk.new w _ _).below HH.out.bel (by simp)⟩
      have r0 := HK.out.cell 0
      have r1 := HK.out.cell 1
      have s0 := HK.out.frozen 0
      have s1 := HK.out.frozen 1
      have hne := HH.out.lt
      have hne2 : ¬ (w1.heap.size = w.heap.size) := by omega
      go_wp2_with fail
      refine bodyPost_ret (v := .agg #[.pointer (some ⟨g, 0, none⟩), .int .i64 e]) (by simp (maxDischargeDepth := 7) [results, Tryz.results149, go_sem, *]) rfl ⟨g, e, rfl, ?_, ?_⟩
      · rw [← HE.out]; exact HH.out.nu.set2 HK.out (by decide) (by decide) _ _
      · exact (HB2.out.setCell (Nat.le_refl _) _).setCell (Nat.le_refl _) _
set_option maxHeartbeats 4000000 in
theorem m_AreFin (A : Option Addr) (n c : Nat) (xs : List Nat) (w : World) (hn : n = xs.length) (hl : n ≤ LIM) (hR : RF w A xs) (hx : ∀ x ∈ xs, W x) :
    Calls Tryz.prog 88 #[.slice A n c] w fun e w' => e = .returned (.bool (decide (AllFin xs))) ∧ w = w' := by
  have HR : Hd (RF w A xs) := ⟨hR⟩
  have HN : Hd (n = xs.length ∧ ∀ x ∈ xs, W x) := ⟨⟨hn, hx⟩⟩
  have hnI : (n : Int) ≤ 1099511627776 := by unfold LIM at hl; omega
  clear hn hl hR hx
  go_enter Tryz.func88, Tryz.ntmps88
  go_wp2
  go_loop [7] (fun i => ∃ k : Nat, i = .int .i64 k ∧ (k : Int) ≤ n ∧ Hd (AllFin (xs.take k))) (fun i => n - (intOf i).toNat)
  case atStart => exact ⟨0, rfl, by omega, ⟨by intro x hx; simp at hx⟩⟩
  case round =>
    obtain ⟨k, rfl, hk, HA⟩ := hrel
    by_cases h3 : k < n
    · obtain ⟨ad, hA, hcx⟩ := HR.out.at_ (k := k) (by have := HN.out; omega)
      subst hA
      generalize hex : xs.getD k 0 = x at *
      have HEx : Hd (xs.getD k 0 = x) := ⟨hex⟩
      have HM : Hd (x ∈ xs) := ⟨by rw [← hex]; have h := HN.out.1; rw [List.getD_eq_getElem?_getD, List.getElem?_eq_getElem (by omega)]; exact List.getElem_mem _⟩
      have HW : Hd (W x) := ⟨HN.out.2 x HM.out⟩
      clear hex
      by_cases h4 : fin x
      · have p4 : decide (fin x) = true := decide_eq_true h4
        have HA1 : Hd (AllFin (xs.take (k + 1))) := ⟨by
          have h := HN.out.1
          rw [List.take_succ_eq_append_getElem (by omega)]
          intro y hy
          rcases List.mem_append.1 hy with hy | hy
          · exact HA.out y hy
          · have h5 : y = xs[k]'(by omega) := by simpa using hy
            have h6 := HEx.out
            rw [List.getD_eq_getElem?_getD, List.getElem?_eq_getElem (show k < xs.length by omega)] at h6
            rw [h5]; simp at h6; rw [h6]; exact h4⟩
        clear h4
        go_wp2_with (go_at_call 129; (with_reducible refine (i_isFinite _ _ HW.out).mono ?_); rintro e w' ⟨rfl, rfl⟩)
        go_round
        case rel => exact ⟨k + 1, by go_num, by omega, HA1⟩
        case measure => simp [intOf]; omega
      · have p4 : decide (fin x) = false := decide_eq_false h4
        have HV1 : Hd (decide (AllFin xs) = false) := ⟨decide_eq_false (fun h => h4 (h x HM.out))⟩
        clear h4
        go_wp2_with (go_at_call 129; (with_reducible refine (i_isFinite _ _ HW.out).mono ?_); rintro e w' ⟨rfl, rfl⟩)
        go_ret
        rw [HV1.out]; exact ⟨rfl, rfl⟩
    · have HV1 : Hd (decide (AllFin xs) = true) := ⟨by
        have h := HA.out
        rw [List.take_of_length_le (by have := HN.out; omega)] at h
        exact decide_eq_true h⟩
      go_wp2
      go_ret
      rw [HV1.out]; exact ⟨rfl, rfl⟩
set_option maxHeartbeats 4000000 in
theorem m_Exp (A : Option Addr) (n c : Nat) (xs : List Nat) (w : World) (hn : n = xs.length) (hl : n ≤ LIM) (hR : RF w A xs) (hx : ∀ x ∈ xs, W x) :
    Calls Tryz.prog 148 #[.slice A n c] w fun e w' => e = .returned (.int .i64 (lstC xs)) ∧ w = w' := by
  have HR : Hd (RF w A xs ∧ n = xs.length ∧ n ≤ LIM ∧ ∀ x ∈ xs, W x) := ⟨⟨hR, hn, hl, hx⟩⟩
  have hnI : (n : Int) ≤ 1099511627776 := by unfold LIM at hl; omega
  by_cases h1 : n < 1
  · have HV : Hd (lstC xs = 2) := ⟨if_pos (by omega)⟩
    clear hn hl hR hx
    go_enter Tryz.func148, Tryz.ntmps148
    go_wp2
    go_ret
    rw [HV.out]; exact ⟨rfl, rfl⟩
  · by_cases h2 : 8 < n
    · have HV : Hd (lstC xs = 2) := ⟨if_pos (by omega)⟩
      have h2' : (8 : Int) < n := by omega
      clear hn hl hR hx h2
      go_enter Tryz.func148, Tryz.ntmps148
      go_wp2
      go_ret
      rw [HV.out]; exact ⟨rfl, rfl⟩
    · have h2' : (n : Int) ≤ 8 := by omega
      by_cases h3 : AllFin xs
      · have p3 : decide (AllFin xs) = true := decide_eq_true h3
        have HV : Hd (lstC xs = 0) := ⟨by unfold lstC; rw [if_neg (by omega), if_pos h3]⟩
        clear hn hl hR hx h2 h3
        go_enter Tryz.func148, Tryz.ntmps148
        go_wp2_with (go_at_call 88; (with_reducible refine (m_AreFin A n c xs _ HR.out.2.1 HR.out.2.2.1 HR.out.1 HR.out.2.2.2).mono ?_); rintro e w' ⟨rfl, rfl⟩)
        go_ret
        rw [HV.out]; exact ⟨rfl, rfl⟩
      · have p3 : decide (AllFin xs) = false := decide_eq_false h3
        have HV : Hd (lstC xs = 1) := ⟨by unfold lstC; rw [if_neg (by omega), if_neg h3]⟩
        clear hn hl hR hx h2 h3
        go_enter Tryz.func148, Tryz.ntmps148
        go_wp2_with (go_at_call 88; (with_reducible refine (m_AreFin A n c xs _ HR.out.2.1 HR.out.2.2.1 HR.out.1 HR.out.2.2.2).mono ?_); rintro e w' ⟨rfl, rfl⟩)
        go_ret
        rw [HV.out]; exact ⟨rfl, rfl⟩
set_option maxHeartbeats 4000000 in
theorem m_SignOfE (A : Option Addr) (n c : Nat) (xs : List Nat) (w : World) (hn : n = xs.length) (hl : n ≤ LIM) (hR : RF w A xs) (hx : ∀ x ∈ xs, W x) :
    Calls Tryz.prog 80 #[.slice A n c] w fun e w' => e = .returned (if lstC xs = 0 then .tuple #[.int .i64 (sumv xs).sign, .int .i64 0] else .tuple #[.int .i64 0, .int .i64 (lstC xs)]) ∧ Below w.heap.size w w' := by
  have HR : Hd (RF w A xs ∧ n = xs.length ∧ n ≤ LIM ∧ ∀ x ∈ xs, W x) := ⟨⟨hR, hn, hl, hx⟩⟩
  by_cases h0 : lstC xs = 0
  · have HF : Hd (n ≤ 1000 ∧ ∀ x ∈ xs, W x ∧ fin x) := ⟨⟨by have := (lst_fin h0).1; omega, fun x h => ⟨hx x h, (lst_fin h0).2 x h⟩⟩⟩
    rw [if_pos h0]
    clear hn hl hR hx
    go_enter Tryz.func80, Tryz.ntmps80
    go_wp2_with (first | (go_at_call 148; (with_reducible refine (m_Exp A n c xs _ HR.out.2.1 HR.out.2.2.1 HR.out.1 HR.out.2.2.2).mono ?_); rintro e w' ⟨rfl, rfl⟩) | (go_at_call 149; (with_reducible refine (n_Parts A n c xs _ HR.out.2.1 HF.out.1 HR.out.1 HF.out.2).mono ?_); rintro e1 w1 ⟨g, x, rfl, hN, hb⟩; have HN : Hd (NuP w1 g x (sumv xs) 149) := ⟨hN⟩; have HB : Hd (Below w.heap.size w w1) := ⟨hb⟩; clear hN hb) | (go_at_call 114; (with_reducible refine (n_Sign g x (sumv xs) 149 _ HN.out).mono ?_); rintro e2 w2 ⟨rfl, hb⟩; have HB2 : Hd (Below w.heap.size w w2) := ⟨bt3 hb HB.out⟩; clear hb))
    go_ret2
    exact ⟨rfl, HB2.out⟩
  · have h1 : (lstC xs == 0) = false := by simpa using h0
    rw [if_neg h0]
    clear hn hl hR hx
    go_enter Tryz.func80, Tryz.ntmps80
    go_wp2_with (go_at_call 148; (with_reducible refine (m_Exp A n c xs _ HR.out.2.1 HR.out.2.2.1 HR.out.1 HR.out.2.2.2).mono ?_); rintro e w' ⟨rfl, rfl⟩)
    go_ret2
    exact ⟨rfl, Below.refl _ _⟩
end Go.Proofs.YtflgjecpjaiecaaGreat
