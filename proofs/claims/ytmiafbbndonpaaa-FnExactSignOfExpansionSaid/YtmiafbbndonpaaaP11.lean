/- Contracts: the program's integers: sums, differences, products, shifts. -/
import Derived.Test.YtmiafbbndonpaaaP10
import Derived.RegionTactic
set_option linter.unusedVariables false
set_option linter.unusedSimpArgs false
namespace Go.Proofs.Ytmiafbbndonpaaa
open Go.RowKit Num
/-- block g is an integer, whatever it holds -/
def IntB (w : World) (g : Nat) : Prop := ∃ b A n c, Blk w g 134 #[.bool b, .slice A n c]
theorem Big.intB {w : World} {g : Nat} {a : Int} (h : Big w g a) : IntB w g := by
  obtain ⟨neg, A, n, c, xs, hb, _⟩ := h; exact ⟨_, _, _, _, hb⟩
theorem IntB.below {w w' : World} {g : Nat} (h : IntB w g) (hb : Below w.heap.size w w') : IntB w' g := by
  obtain ⟨b, A, n, c, h⟩ := h; exact ⟨b, A, n, c, h.below hb h.lt⟩
theorem IntB.lt {w : World} {g : Nat} (h : IntB w g) : g < w.heap.size := by
  obtain ⟨b, A, n, c, h⟩ := h; exact h.lt
theorem BigD.below {w w' : World} {neg : Bool} {A : Option Addr} {n c : Nat} {xs : List Int} {a : Int} (h : BigD w neg A n c xs a) (hb : Below w.heap.size w w') : BigD w' neg A n c xs a :=
  ⟨h.len, h.cap, h.lim, h.can, h.sgn, h.eq, h.reads.below hb, fun ad e => by obtain ⟨cs, hk⟩ := h.typ ad e; exact ⟨cs, hk.below hb hk.lt⟩⟩
theorem Big.below {w w' : World} {g : Nat} {a : Int} (h : Big w g a) (hb : Below w.heap.size w w') : Big w' g a := by
  obtain ⟨neg, A, n, c, xs, h1, h2⟩ := h; exact ⟨neg, A, n, c, xs, h1.below hb h1.lt, h2.below hb⟩
theorem Big.lt {w : World} {g : Nat} {a : Int} (h : Big w g a) : g < w.heap.size := h.intB.lt
theorem gtrans {w w1 w2 : World} {row : Option Nat} (h : w.grownBy w1 row) (k : w1.grownBy w2 row) : w.grownBy w2 row :=
  ⟨k.os.trans h.os, k.tape.trans h.tape, k.output.trans h.output, Nat.le_trans h.size k.size, fun i hi hne => (k.block i (Nat.lt_of_lt_of_le hi h.size) hne).trans (h.block i hi hne)⟩
theorem gbelow {w w1 : World} (row : Option Nat) (h : Below w.heap.size w w1) : w.grownBy w1 row :=
  ⟨h.os, h.tape, h.output, h.size, fun i hi _ => h.block i hi⟩
theorem bgrown {w w1 w2 : World} {g : Nat} (h : Below w.heap.size w w1) (k : w1.grownBy w2 (some g)) : w.grownBy w2 (some g) := gtrans (gbelow _ h) k
/-- what grows from a block of one's own on -/
theorem grown_below {w w1 : World} {o : Obj} (k : (w.alloc o).grownBy w1 (some w.heap.size)) : Below w.heap.size w w1 :=
  ⟨k.os, k.tape, k.output, Nat.le_trans (by simp) k.size, fun i hi => (k.block i (by simp; omega) (by simp; omega)).trans (Below.heap_alloc w o i hi)⟩
theorem Big.grown' {w w' : World} {g z : Nat} {a : Int} (h : Big w g a) (hz : IntB w z) (hg : w.grownBy w' (some z)) (hne : g ≠ z) : Big w' g a := by
  obtain ⟨b, A, n, c, hb⟩ := hz; exact h.grown hb hg hne
theorem IntB.grown {w w' : World} {g z : Nat} (h : IntB w g) (hg : w.grownBy w' (some z)) (hne : g ≠ z) : IntB w' g := by
  obtain ⟨b, A, n, c, hb⟩ := h; exact ⟨b, A, n, c, hb.grown hg (by simpa using hne)⟩
/-- the sign and the digits of an integer -/
def sgv (neg : Bool) (v : Int) : Int := if neg = true then -v else v
theorem Big.parts {w : World} {g : Nat} {a : Int} (h : Big w g a) : ∃ neg A n c, w.cell? ⟨g, 0, none⟩ = some (.bool neg) ∧ w.cell? ⟨g, 1, none⟩ = some (.slice A n c) ∧ MagP w A n c a.natAbs ∧ (n : Int) ≤ 1000000 ∧ a = sgv neg a.natAbs ∧ neg = decide (a < 0) ∧ (0 < n ↔ a ≠ 0) := by
  obtain ⟨neg, A, n, c, xs, hb, hd⟩ := h
  have h0 := val_nonneg (B := 4294967296) (by decide) hd.can.1
  have h1 := hd.eq
  have h3 := hd.can.nil_iff (by decide)
  have h4 : 0 < n ↔ a ≠ 0 := by
    have hl := hd.len
    constructor
    · intro h e
      have : xs = [] := h3.2 (by split at h1 <;> omega)
      rw [this] at hl; simp at hl; omega
    · intro h
      rcases Nat.eq_zero_or_pos n with h5 | h5
      · have : xs = [] := List.eq_nil_of_length_eq_zero (by omega)
        have := h3.1 this
        exact absurd (by split at h1 <;> omega) h
      · exact h5
  refine ⟨neg, A, n, c, hb.cell 0, hb.cell 1, ⟨xs, hd.mag⟩, by have := hd.lim; omega, ?_, ?_, h4⟩
  · unfold sgv; split at h1 <;> simp_all <;> omega
  · cases hn : neg
    · rw [hn] at h1; simp at h1; symm; apply decide_eq_false; omega
    · rw [hn] at h1; simp at h1
      have := hd.can.pos (by decide) (hd.sgn hn)
      symm; apply decide_eq_true; omega
/-- what a method that sets an integer leaves -/
def RetZ (g : Nat) (a : Int) (w : World) (e : Ending) (w' : World) : Prop := e = .returned (.pointer (some ⟨g, 0, none⟩)) ∧ Big w' g a ∧ w.grownBy w' (some g)
theorem m_PutM (g : Nat) (neg : Bool) (A : Option Addr) (n c : Nat) (v : Int) (w : World) (hz : IntB w g) (hX : MagP w A n c v) (hbd : Bd v) :
    Calls Try.prog 186 #[.pointer (some ⟨g, 0, none⟩), .bool neg, .slice A n c] w (RetZ g (sgv neg v) w) := by
  obtain ⟨b0, A0, n0, c0, hb⟩ := hz
  obtain ⟨xs, hX⟩ := hX
  have h2 := len32 hX.can (by rw [← hX.eq]; exact hbd)
  refine (m_Put g #[] b0 A0 n0 c0 neg A n c xs w hb hX.len (by rw [hX.len]; unfold LIM; omega) hX.cap hX.reads hX.can.1 hX.typ (Or.inl (by rw [hX.len]; omega))).mono ?_
  rintro e w' ⟨he, hB, hg⟩
  exact ⟨he, by rw [hX.eq]; exact hB, hg⟩
theorem bd_abs {a : Int} (h : Bd a) : Bd (a.natAbs : Int) := by unfold Bd at *; generalize TOP = T at *; omega
set_option maxHeartbeats 4000000 in
theorem m_LshZ (g x : Nat) (a : Int) (k : Nat) (w : World) (hz : IntB w g) (hX : Big w x a) (hk : k ≤ 10000000) (hbd : Bd (a * 2 ^ k)) :
    Calls Try.prog 124 #[.pointer (some ⟨g, 0, none⟩), .pointer (some ⟨x, 0, none⟩), .int .u64 k] w (RetZ g (a * 2 ^ k) w) := by
  obtain ⟨neg, A, n, c, c0, c1, hM, hn, ha, hneg, h0⟩ := hX.parts
  have HZ : Hd (IntB w g) := ⟨hz⟩
  have HM : Hd (MagP w A n c a.natAbs) := ⟨hM⟩
  have HN : Hd (n ≤ 1000000 ∧ k ≤ 10000000) := ⟨⟨by omega, hk⟩⟩
  have HV : Hd (sgv neg ((a.natAbs : Int) * 2 ^ k) = a * 2 ^ k) := ⟨by
    conv => rhs; rw [ha]
    unfold sgv; split <;> simp [Int.neg_mul]⟩
  have HBD : Hd (Bd ((a.natAbs : Int) * 2 ^ k)) := ⟨by
    have := bd_abs hbd; rw [Int.natAbs_mul, Int.natAbs_pow] at this; simpa using this⟩
  clear hz hM hn ha hneg h0 hk hbd hX
  go_enter Try.func124, Try.ntmps124
  go_wp2_with fail
  go_region_with (first | (go_at_call 187; (with_reducible refine (m_Left A n c _ k _ (HM.out.below (by (repeat (first | exact Below.refl _ _ | assumption | refine Below.drew ?_ | refine bdn ?_ | refine ba _ ?_ | refine bs0 _ _ ?_ ?_ | refine bs1 _ _ _ ?_ ?_ | refine bs2 _ _ _ _ ?_ ?_ | refine bs3 _ _ _ _ _ ?_ ?_ | refine bt3 (by assumption) ?_)))) HN.out.1 HN.out.2).mono ?_); rintro e w1 ⟨A1, n1, k1, rfl, hM1, hb⟩; have HM1 : Hd (MagP w1 A1 n1 k1 _) := ⟨hM1⟩; have HB : Hd (Below w.heap.size w w1) := ⟨Below.trans (Below.drew (Below.refl _ _)) hb⟩; have e0 := cb HB.out c0; have e1 := cb HB.out c1; clear hM1 hb) | (go_at_call 186; (with_reducible refine (m_PutM g neg A1 n1 k1 _ _ (HZ.out.below HB.out) HM1.out HBD.out).mono ?_); rintro e w2 ⟨rfl, hB, hg⟩; have HR : Hd (Big w2 g _ ∧ w.grownBy w2 (some g)) := ⟨⟨hB, bgrown HB.out hg⟩⟩; clear hB hg))
  all_goals
    go_wp2_with fail
    go_ret
    exact ⟨rfl, by rw [← HV.out]; exact HR.out.1, HR.out.2⟩
end Go.Proofs.Ytmiafbbndonpaaa
