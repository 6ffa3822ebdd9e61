/- Ga: Flt Base Fs Fd F1 F2 F3 F4 F5 F6 F7 Row F8 Fw F9 F10 F11 F12, merged. -/
import Ieee.Arith
import Derived.Test.YtflgjecpjaiecaaGreatRows
import Derived.WalkKit
import Derived.WalkSpells
import Derived.WalkLawsBesides
import Derived.Outline
import Derived.Deep.RegionHeld3
import Derived.Deep.DeepCutAuto
import Derived.Laws.Cover2
import Derived.Laws.FloatArith
import Derived.Deep.QuietTactic
import Derived.BigQuiet
import Derived.Below
import Derived.ChangeSame
import Derived.ProofKit
import Derived.OpenShut
import Derived.Lib.SmallJoins
set_option linter.unusedVariables false
set_option linter.unusedSimpArgs false
namespace Go.Proofs.YtflgjecpjaiecaaGreat.Flt
open Ieee
/-! Words of a format, generic. B: rungs to a binade (a power of two, at least 4). -/
section generic
/-- Value of a rung, in units of the least place. -/
def V (B r : Nat) : Nat := if r < B then r else (B + r % B) * 2 ^ (r / B - 1)
/-- magnitude of a rung -/
def mg (B r : Nat) : Nat := if r < B then r else B + r % B
/-- exponent of a rung above the least -/
def ex (B r : Nat) : Nat := if r < B then 0 else r / B - 1
theorem V_eq (B r : Nat) : V B r = mg B r * 2 ^ ex B r := by unfold V mg ex; split <;> simp
theorem V_lt_succ (B r : Nat) (hB : 0 < B) : V B r < V B (r + 1) := by
  unfold V
  by_cases h : r + 1 < B
  · rw [if_pos (by omega), if_pos h]; omega
  · by_cases h2 : r < B
    · have e : r + 1 = B := by omega
      rw [if_pos h2, if_neg h, e, Nat.mod_self, Nat.div_self hB]; simp; omega
    · rw [if_neg h2, if_neg h]
      have hd : 1 ≤ r / B := (Nat.le_div_iff_mul_le hB).2 (by omega)
      have hm := Nat.mod_lt r hB
      have hr := Nat.div_add_mod r B
      by_cases h3 : r % B + 1 = B
      · have e : r + 1 = B * (r / B + 1) := by rw [Nat.mul_add]; omega
        have e1 : (r + 1) % B = 0 := by rw [e]; simp
        have e2 : (r + 1) / B = r / B + 1 := by rw [e, Nat.mul_div_cancel_left _ hB]
        rw [e1, e2]
        obtain ⟨k, hk⟩ : ∃ k, r / B = k + 1 := ⟨r / B - 1, by omega⟩
        rw [hk]
        simp only [Nat.add_sub_cancel]
        rw [Nat.pow_succ, Nat.mul_comm (2 ^ k) 2, ← Nat.mul_assoc]
        have : 0 < 2 ^ k := Nat.two_pow_pos _
        exact Nat.mul_lt_mul_of_pos_right (by omega) this
      · have e : r + 1 = r % B + 1 + B * (r / B) := by omega
        have e1 : (r + 1) % B = r % B + 1 := by rw [e, Nat.add_mul_mod_self_left, Nat.mod_eq_of_lt (by omega)]
        have e2 : (r + 1) / B = r / B := by rw [e, Nat.add_mul_div_left _ _ hB, Nat.div_eq_of_lt (by omega)]; omega
        rw [e1, e2]
        exact Nat.mul_lt_mul_of_pos_right (by omega) (Nat.two_pow_pos _)
theorem V_lt {B a b : Nat} (hB : 0 < B) (h : a < b) : V B a < V B b := by
  induction b with
  | zero => omega
  | succ b ih =>
    rcases Nat.lt_or_eq_of_le (Nat.lt_succ_iff.1 h) with h' | h'
    · exact Nat.lt_trans (ih h') (V_lt_succ B b hB)
    · subst h'; exact V_lt_succ B a hB
theorem V_lt_iff {B a b : Nat} (hB : 0 < B) : V B a < V B b ↔ a < b := by
  constructor
  · intro h
    by_cases e : a < b
    · exact e
    · rcases Nat.lt_or_eq_of_le (Nat.le_of_not_lt e) with h' | h'
      · have := V_lt hB h'; omega
      · subst h'; omega
  · exact V_lt hB
theorem V_inj {B a b : Nat} (hB : 0 < B) (h : V B a = V B b) : a = b := by
  rcases Nat.lt_trichotomy a b with h' | h' | h'
  · have := V_lt hB h'; omega
  · exact h'
  · have := V_lt hB h'; omega
/-- the rung of a kept significand at an exponent -/
theorem V_rung {B : Nat} (hB : 0 < B) (e kept : Nat) (h2 : kept < 2 * B) (h1 : e = 0 ∨ B ≤ kept) : V B (e * B + kept) = kept * 2 ^ e := by
  by_cases hk : kept < B
  · have : e = 0 := by omega
    subst this
    simp [V, hk]
  · have hge : ¬ (e * B + kept < B) := by have := Nat.zero_le (e * B); omega
    unfold V
    rw [if_neg hge]
    have e0 : e * B + kept = (kept - B) + B * (e + 1) := by rw [Nat.mul_add, Nat.mul_comm]; omega
    have e1 : (e * B + kept) % B = kept - B := by rw [e0, Nat.add_mul_mod_self_left, Nat.mod_eq_of_lt (by omega)]
    have e2 : (e * B + kept) / B = e + 1 := by rw [e0, Nat.add_mul_div_left _ _ hB, Nat.div_eq_of_lt (by omega)]; omega
    rw [e1, e2]
    simp only [Nat.add_sub_cancel]
    congr 1; omega
/-- a kept significand at an exponent: log2 -/
theorem log2_mul_pow (m k : Nat) (h : m ≠ 0) : (m * 2 ^ k).log2 = m.log2 + k := by
  induction k with
  | zero => simp
  | succ k ih =>
    rw [Nat.pow_succ, ← Nat.mul_assoc, Nat.mul_comm _ 2, Nat.log2_two_mul (by have := Nat.two_pow_pos k; intro hh; rcases Nat.mul_eq_zero.1 hh with h1 | h1 <;> omega), ih]; omega
theorem cut_exact (neg : Bool) (k d : Nat) (hk : k ≠ 0) : Toward.even.cut neg (k * 2 ^ d) d = k := by
  unfold Toward.cut
  have hl := log2_mul_pow k d hk
  have hm : min d ((k * 2 ^ d).log2 + 2) = d := by omega
  have hp : 0 < 2 ^ d := Nat.two_pow_pos d
  simp only [hm, Nat.shiftLeft_eq, Nat.one_mul, Nat.mul_div_cancel _ hp, Nat.mul_mod_left, Nat.mul_zero]
  have h1 : decide (2 ^ d < 0) = false := by simp
  have h2 : (2 ^ d == 0) = false := by simp
  simp [h2]
/-- Writing a number that the format has. 'mag * 2^place' is 'V r' units. -/
theorem nearest_exact (f : Format) (neg : Bool) (mag : Nat) (place : Int) (r : Nat) (hr : r ≤ f.infRung) (hf : f.binade = 2 ^ f.fractionBits)
    (h : ∃ c : Nat, 0 ≤ place - f.leastPlace + c ∧ mag * 2 ^ (place - f.leastPlace + c).toNat = V f.binade r * 2 ^ c) : f.nearest neg mag place = f.word neg r := by
  have hB : 0 < f.binade := by rw [hf]; exact Nat.two_pow_pos _
  obtain ⟨c, hc0, hc⟩ := h
  unfold Format.nearest
  by_cases hm : mag = 0
  · rw [if_pos hm]
    subst hm
    have : V f.binade r = 0 := by
      rw [Nat.zero_mul] at hc
      rcases Nat.mul_eq_zero.1 hc.symm with h1 | h1
      · exact h1
      · have := Nat.two_pow_pos c; omega
    have h0 : V f.binade 0 = 0 := by simp [V, hB]
    have : r = 0 := V_inj hB (by rw [this, h0])
    rw [this]
  · rw [if_neg hm]
    -- the kept significand and its exponent, as the rung has them
    have hV := V_eq f.binade r
    have hg : mg f.binade r ≠ 0 := by
      intro h0
      rw [hV, h0, Nat.zero_mul, Nat.zero_mul] at hc
      rcases Nat.mul_eq_zero.1 hc with h1 | h1
      · exact hm h1
      · have := Nat.two_pow_pos (place - f.leastPlace + c).toNat; omega
    have hl : mag.log2 + (place - f.leastPlace + c).toNat = (mg f.binade r).log2 + ex f.binade r + c := by
      have := congrArg Nat.log2 hc
      rw [log2_mul_pow _ _ hm, hV, Nat.mul_assoc, ← Nat.pow_add, log2_mul_pow _ _ hg] at this
      omega
    -- last
    have hlast : max (place + mag.log2 - f.fractionBits) f.leastPlace = f.leastPlace + (ex f.binade r : Nat) := by
      by_cases hrB : r < f.binade
      · have e1 : ex f.binade r = 0 := by simp [ex, hrB]
        have e2 : mg f.binade r = r := by simp [mg, hrB]
        rw [e2] at hl hg
        have : r.log2 < f.fractionBits := (Nat.log2_lt hg).2 (by rw [← hf]; exact hrB)
        rw [e1] at hl ⊢
        omega
      · have e2 : mg f.binade r = f.binade + r % f.binade := by simp [mg, hrB]
        have hmod := Nat.mod_lt r hB
        have : (mg f.binade r).log2 = f.fractionBits := by
          rw [Nat.log2_eq_iff hg, e2, Nat.pow_succ, ← hf]; omega
        rw [this] at hl
        omega
    dsimp only
    rw [hlast]
    have hkept : Toward.even.cut neg (mag <<< (place - (f.leastPlace + (ex f.binade r : Nat))).toNat) (f.leastPlace + (ex f.binade r : Nat) - place).toNat = mg f.binade r := by
      rw [Nat.shiftLeft_eq]
      by_cases hp : f.leastPlace + (ex f.binade r : Nat) ≤ place
      · have hd : (f.leastPlace + (ex f.binade r : Nat) - place).toNat = 0 := by omega
        rw [hd]
        have key : mag * 2 ^ (place - (f.leastPlace + (ex f.binade r : Nat))).toNat = mg f.binade r := by
          have e : (place - f.leastPlace + c).toNat = (place - (f.leastPlace + (ex f.binade r : Nat))).toNat + (ex f.binade r + c) := by omega
          rw [e, Nat.pow_add, ← Nat.mul_assoc, hV, Nat.mul_assoc (mg _ _), ← Nat.pow_add] at hc
          exact Nat.mul_right_cancel (Nat.two_pow_pos _) hc
        have := cut_exact neg (mg f.binade r) 0 hg
        rw [key]; simpa using this
      · have hd : (place - (f.leastPlace + (ex f.binade r : Nat))).toNat = 0 := by omega
        rw [hd, Nat.pow_zero, Nat.mul_one]
        have key : mag = mg f.binade r * 2 ^ (f.leastPlace + (ex f.binade r : Nat) - place).toNat := by
          have e : ex f.binade r + c = (f.leastPlace + (ex f.binade r : Nat) - place).toNat + (place - f.leastPlace + c).toNat := by omega
          rw [hV, Nat.mul_assoc, ← Nat.pow_add, e, Nat.pow_add, ← Nat.mul_assoc] at hc
          exact Nat.mul_right_cancel (Nat.two_pow_pos _) hc
        have hcut := cut_exact neg (mg f.binade r) (f.leastPlace + (ex f.binade r : Nat) - place).toNat hg
        rw [← key] at hcut
        exact hcut
    rw [hkept]
    have e3 : (f.leastPlace + (ex f.binade r : Nat) - f.leastPlace).toNat = ex f.binade r := by omega
    rw [e3]
    have e4 : ex f.binade r * f.binade + mg f.binade r = r := by
      unfold ex mg
      by_cases hrB : r < f.binade
      · simp [hrB]
      · rw [if_neg hrB, if_neg hrB]
        have hd : 1 ≤ r / f.binade := (Nat.le_div_iff_mul_le hB).2 (by omega)
        have := Nat.div_add_mod r f.binade
        obtain ⟨k, hk⟩ : ∃ k, r / f.binade = k + 1 := ⟨r / f.binade - 1, by omega⟩
        rw [hk] at this ⊢
        simp only [Nat.add_sub_cancel]
        rw [Nat.mul_add] at this
        rw [Nat.mul_comm]; omega
    rw [e4, Nat.min_eq_left hr]
end generic
section read
variable (f : Format)
/-- the sign bit as the model reads it -/
def sgf (x : Nat) : Bool := x / f.signWeight % 2 == 1
theorem read_nan {x : Nat} (h1 : f.binade ≤ f.infRung) (h : f.infRung < x % f.signWeight) : f.read x = .nan (sgf f x) (x % f.signWeight - f.infRung) := by
  unfold Format.read sgf
  dsimp only
  rw [if_neg (by omega), if_neg (by omega), if_neg (by omega)]
theorem read_inf {x : Nat} (_h1 : f.binade ≤ f.infRung) (h : x % f.signWeight = f.infRung) : f.read x = .infinity (sgf f x) := by
  unfold Format.read sgf
  dsimp only
  rw [if_neg (by omega), if_neg (by omega), if_pos h]
theorem read_fin {x : Nat} (h1 : f.binade ≤ f.infRung) (h : x % f.signWeight < f.infRung) :
    f.read x = .number (sgf f x) (mg f.binade (x % f.signWeight)) (f.leastPlace + (ex f.binade (x % f.signWeight) : Nat)) := by
  unfold Format.read sgf mg ex
  dsimp only
  by_cases hb : x % f.signWeight < f.binade
  · rw [if_pos hb, if_pos hb, if_pos hb]; simp
  · rw [if_neg hb, if_pos h, if_neg hb, if_neg hb]
/-- signed -/
def sv (s : Bool) (v : Nat) : Int := if s then -(v : Int) else v
theorem sv_mul (s : Bool) (v p : Nat) : sv s (v * p) = sv s v * p := by unfold sv; split <;> simp [Int.neg_mul]
theorem signed_eq (s : Bool) (m up : Nat) : signed s m up = sv s (m * 2 ^ up) := by
  unfold signed sv; rw [Nat.shiftLeft_eq]
theorem compare_int_mul (a b : Int) (p : Nat) (hp : 0 < p) : compare (a * p) (b * p) = compare a b := by
  have hp' : (0 : Int) < p := by omega
  rcases Int.lt_trichotomy a b with h | h | h
  · have := Int.mul_lt_mul_of_pos_right h hp'
    rw [Std.compare_eq_lt.2 h, Std.compare_eq_lt.2 this]
  · subst h; simp
  · have := Int.mul_lt_mul_of_pos_right h hp'
    rw [Std.compare_eq_gt.2 h, Std.compare_eq_gt.2 this]
theorem compare_sv_V {B : Nat} (hB : 0 < B) (s t : Bool) (a b : Nat) : compare (sv s (V B a)) (sv t (V B b)) = compare (sv s a) (sv t b) := by
  have h0 : V B 0 = 0 := by simp [V, hB]
  have p : ∀ {x y : Nat}, x < y → V B x < V B y := fun h => V_lt hB h
  have q : ∀ x : Nat, 0 < x → 0 < V B x := fun x h => by have := p h; omega
  have e : ∀ x : Nat, x = 0 ∨ 0 < V B x ∧ 0 < x := fun x => by
    rcases Nat.eq_zero_or_pos x with h | h
    · exact .inl h
    · exact .inr ⟨q x h, h⟩
  have tri : (a < b ∧ V B a < V B b) ∨ (a = b ∧ V B a = V B b) ∨ (b < a ∧ V B b < V B a) := by
    rcases Nat.lt_trichotomy a b with h | h | h
    · exact .inl ⟨h, p h⟩
    · exact .inr (.inl ⟨h, by rw [h]⟩)
    · exact .inr (.inr ⟨h, p h⟩)
  have key : (sv s (V B a) < sv t (V B b) ↔ sv s a < sv t b) ∧ (sv s (V B a) = sv t (V B b) ↔ sv s a = sv t b) := by
    have ea := e a
    have eb := e b
    have za : a = 0 → V B a = 0 := fun h => by rw [h, h0]
    have zb : b = 0 → V B b = 0 := fun h => by rw [h, h0]
    generalize V B a = A at *
    generalize V B b = C at *
    unfold sv
    constructor <;> (cases s <;> cases t <;> simp <;> omega)
  rcases Int.lt_trichotomy (sv s a) (sv t b) with h | h | h
  · rw [Std.compare_eq_lt.2 h, Std.compare_eq_lt.2 (key.1.2 h)]
  · rw [h, key.2.2 h]; simp
  · have h1 : ¬ sv s a < sv t b := by omega
    have h2 : ¬ sv s a = sv t b := by omega
    have h3 : ¬ sv s (V B a) < sv t (V B b) := fun h => h1 (key.1.1 h)
    have h4 : ¬ sv s (V B a) = sv t (V B b) := fun h => h2 (key.2.1 h)
    rw [Std.compare_eq_gt.2 h, Std.compare_eq_gt.2 (by omega)]
theorem order_eq {x y : Nat} (hB : 0 < f.binade) (h1 : f.binade ≤ f.infRung) (hx : x % f.signWeight ≤ f.infRung) (hy : y % f.signWeight ≤ f.infRung) :
    f.order x y = some (compare (sv (sgf f x) (x % f.signWeight)) (sv (sgf f y) (y % f.signWeight))) := by
  unfold Format.order
  rcases Nat.lt_or_eq_of_le hx with hx' | hx' <;> rcases Nat.lt_or_eq_of_le hy with hy' | hy'
  · rw [read_fin f h1 hx', read_fin f h1 hy']
    simp only [Datum.order]
    rw [← compare_sv_V hB]
    generalize x % f.signWeight = a
    generalize y % f.signWeight = b
    have hb : min (f.leastPlace + (ex f.binade a : Nat)) (f.leastPlace + (ex f.binade b : Nat)) = f.leastPlace + ((min (ex f.binade a) (ex f.binade b) : Nat) : Int) := by omega
    rw [hb]
    -- at the base 'least place' both sides gain one factor
    rw [← compare_int_mul _ _ (2 ^ (min (ex f.binade a) (ex f.binade b))) (Nat.two_pow_pos _)]
    congr 1
    rw [signed_eq, signed_eq, ← sv_mul, ← sv_mul, V_eq, V_eq, Nat.mul_assoc, Nat.mul_assoc, ← Nat.pow_add, ← Nat.pow_add]
    congr 4 <;> omega
  · rw [read_fin f h1 hx', read_inf f h1 hy']
    simp only [Datum.order]
    rw [hy']
    congr 1
    cases h : sgf f y <;> cases h' : sgf f x <;> simp only [sv, Bool.false_eq_true, if_true, if_false] <;> symm <;> first | (apply Std.compare_eq_lt.2; omega) | (apply Std.compare_eq_gt.2; omega)
  · rw [read_inf f h1 hx', read_fin f h1 hy']
    simp only [Datum.order]
    rw [hx']
    congr 1
    cases h : sgf f y <;> cases h' : sgf f x <;> simp only [sv, Bool.false_eq_true, if_true, if_false] <;> symm <;> first | (apply Std.compare_eq_lt.2; omega) | (apply Std.compare_eq_gt.2; omega)
  · rw [read_inf f h1 hx', read_inf f h1 hy']
    simp only [Datum.order]
    rw [hx', hy']
    congr 1
    have : 0 < f.infRung := by omega
    cases h : sgf f y <;> cases h' : sgf f x <;> simp only [sv, Bool.false_eq_true, if_true, if_false] <;> symm
    · simp
    · rw [Std.compare_eq_lt.2 (by omega)]; rfl
    · rw [Std.compare_eq_gt.2 (by omega)]; rfl
    · simp
theorem order_nan_left {x : Nat} (y : Nat) (h1 : f.binade ≤ f.infRung) (h : f.infRung < x % f.signWeight) : f.order x y = none := by
  unfold Format.order; rw [read_nan f h1 h]; rfl
theorem order_nan_right (x : Nat) {y : Nat} (h1 : f.binade ≤ f.infRung) (h : f.infRung < y % f.signWeight) : f.order x y = none := by
  unfold Format.order; rw [read_nan f h1 h]; cases f.read x <;> rfl
end read
end Go.Proofs.YtflgjecpjaiecaaGreat.Flt
set_option linter.unusedVariables false
set_option linter.unusedSimpArgs false
namespace Go.Proofs.YtflgjecpjaiecaaGreat
open Go.RowKit
section
variable {P : Program} {w : World}
@[go_sem] theorem run_store_float (a : Addr) (m : Mode) (k : FloatKind) (n : Nat) : (store a (.float k n) m).run P w = stored P w a (.float k n) m := run_store P w a _ m rfl
@[go_sem] theorem run_neg_float (k : FloatKind) (n : Nat) : (Op.unary .neg (.float k n)).run P w = .ok (.float k (Op.negFloat k n)) w := rfl
end
/-- A fact that the walk's simp does not look into. -/
structure Hd (p : Prop) : Prop where mk :: (out : p)
theorem bcell {W w1 : World} (hb : Below W.heap.size W w1) : (∀ b o, b < W.heap.size → w1.cell? ⟨b, o, none⟩ = W.cell? ⟨b, o, none⟩) ∧ (∀ b o, b < W.heap.size → w1.frozen? ⟨b, o, none⟩ = W.frozen? ⟨b, o, none⟩) ∧ (∀ k, k < W.heap.size → k < w1.heap.size) ∧ (∀ k, k < W.heap.size → k ≤ w1.heap.size) :=
  ⟨fun b o h => hb.cell (p := ⟨b, o, none⟩) h, fun b o h => hb.frozen (p := ⟨b, o, none⟩) h, fun _ h => Nat.lt_of_lt_of_le h hb.size, fun _ h => Nat.le_of_lt (Nat.lt_of_lt_of_le h hb.size)⟩
theorem cb {W w1 : World} (hb : Below W.heap.size W w1) {a : Addr} {v : Value} (hc : W.cell? a = some v) : w1.cell? a = some v := (hb.cell (World.block_lt_of_cell? W a hc)).trans hc
theorem bt2 {B : Nat} {w w1 w2 : World} (h : Below B w w1) (hB : B ≤ w.heap.size) (k : Below w1.heap.size w1 w2) : Below B w w2 :=
  h.trans ⟨k.os, k.tape, k.output, k.size, fun i hi => k.block i (Nat.lt_of_lt_of_le hi (Nat.le_trans hB h.size))⟩
theorem ba {W w : World} (o : Obj) (h : Below W.heap.size W w) : Below W.heap.size W (w.alloc o) := h.alloc h.size o
theorem bt3 {W w w1 : World} (k : Below w.heap.size w w1) (h : Below W.heap.size W w) : Below W.heap.size W w1 := bt2 h (Nat.le_refl _) k
theorem bs0 {W w w0 : World} (o : Nat) (u : Value) (h0 : Below W.heap.size W w0) (h : Below W.heap.size W w) : Below W.heap.size W (w.setCell ⟨w0.heap.size, o, none⟩ u) := h.setCell h0.size u
theorem bs1 {W w w0 : World} (k o : Nat) (u : Value) (h0 : Below W.heap.size W w0) (h : Below W.heap.size W w) : Below W.heap.size W (w.setCell ⟨w0.heap.size + k, o, none⟩ u) := h.setCell (Nat.le_trans h0.size (Nat.le_add_right _ _)) u
theorem bs2 {W w w0 : World} (j k o : Nat) (u : Value) (h0 : Below W.heap.size W w0) (h : Below W.heap.size W w) : Below W.heap.size W (w.setCell ⟨w0.heap.size + j + k, o, none⟩ u) := h.setCell (Nat.le_trans h0.size (Nat.le_trans (Nat.le_add_right _ _) (Nat.le_add_right _ _))) u
theorem bs3 {W w w0 : World} (i j k o : Nat) (u : Value) (h0 : Below W.heap.size W w0) (h : Below W.heap.size W w) : Below W.heap.size W (w.setCell ⟨w0.heap.size + i + j + k, o, none⟩ u) := h.setCell (Nat.le_trans h0.size (Nat.le_trans (Nat.le_add_right _ _) (Nat.le_trans (Nat.le_add_right _ _) (Nat.le_add_right _ _)))) u
theorem keep2 {W w1 : World} (hb : Below W.heap.size W w1) {a0 a1 : Addr} {v0 v1 : Value} (h : W.cell? a0 = some v0 ∧ W.cell? a1 = some v1) :
    w1.cell? a0 = some v0 ∧ w1.cell? a1 = some v1 := ⟨cb hb h.1, cb hb h.2⟩
theorem keep4 {W w1 : World} (hb : Below W.heap.size W w1) {a0 a1 a2 a3 : Addr} {v0 v1 v2 v3 : Value} (h : W.cell? a0 = some v0 ∧ W.cell? a1 = some v1 ∧ W.cell? a2 = some v2 ∧ W.cell? a3 = some v3) :
    w1.cell? a0 = some v0 ∧ w1.cell? a1 = some v1 ∧ w1.cell? a2 = some v2 ∧ w1.cell? a3 = some v3 := ⟨cb hb h.1, cb hb h.2.1, cb hb h.2.2.1, cb hb h.2.2.2⟩
theorem bdn {B : Nat} {a w : World} {n : Nat} (h : Below B a w) : Below B a (w.drewN n) := h.trans ⟨rfl, rfl, rfl, Nat.le_refl _, fun _ _ => rfl⟩
end Go.Proofs.YtflgjecpjaiecaaGreat
/- Plain facts on the words of single precision: places, orders, signs, finite words. -/
set_option linter.unusedVariables false
set_option linter.unusedSimpArgs false
namespace Go.Proofs.YtflgjecpjaiecaaGreat.Flt
open Ieee
def nan (x : Nat) : Prop := 2139095040 < x % 2147483648
instance (x : Nat) : Decidable (nan x) := by unfold nan; infer_instance
/-- The place of a word that is not NaN. -/
def pl (x : Nat) : Int := if x / 2147483648 % 2 = 1 then -((x % 2147483648 : Nat) : Int) else ((x % 2147483648 : Nat) : Int)
theorem pl_eq (x : Nat) : pl x = sv (sgf single x) (x % single.signWeight) := by
  unfold pl sv sgf
  show _ = if (x / 2147483648 % 2 == 1) = true then _ else _
  by_cases h : x / 2147483648 % 2 = 1
  · rw [if_pos h, if_pos (by simpa using h)]; rfl
  · rw [if_neg h, if_neg (by simpa using h)]; rfl
theorem ord {x y : Nat} (hx : ¬ nan x) (hy : ¬ nan y) : single.order x y = some (compare (pl x) (pl y)) := by
  rw [pl_eq, pl_eq]
  exact order_eq single (by decide) (by decide) (by unfold nan at hx; show x % 2147483648 ≤ 2139095040; omega) (by unfold nan at hy; show y % 2147483648 ≤ 2139095040; omega)
theorem ord_nan_left {x : Nat} (y : Nat) (hx : nan x) : single.order x y = none := order_nan_left single y (by decide) hx
theorem ord_nan_right (x : Nat) {y : Nat} (hy : nan y) : single.order x y = none := order_nan_right single x (by decide) hy
/-! the six comparisons -/
def ltB (x y : Nat) : Bool := FloatKind.f32.format.order x y == some .lt
def eqB (x y : Nat) : Bool := FloatKind.f32.format.order x y == some .eq
def gtB (x y : Nat) : Bool := FloatKind.f32.format.order x y == some .gt
theorem some_beq (a b : Ordering) : ((some a : Option Ordering) == some b) = (a == b) := rfl
theorem cmp_lt (a b : Int) : (compare a b == Ordering.lt) = decide (a < b) := by
  rcases Int.lt_trichotomy a b with h | h | h
  · rw [Std.compare_eq_lt.2 h]; simp [h]
  · subst h; simp
  · rw [Std.compare_eq_gt.2 h]; simp; omega
theorem cmp_gt (a b : Int) : (compare a b == Ordering.gt) = decide (b < a) := by
  rcases Int.lt_trichotomy a b with h | h | h
  · rw [Std.compare_eq_lt.2 h]; simp; omega
  · subst h; simp
  · rw [Std.compare_eq_gt.2 h]; simp [h]
theorem cmp_eq (a b : Int) : (compare a b == Ordering.eq) = decide (a = b) := by
  rcases Int.lt_trichotomy a b with h | h | h
  · rw [Std.compare_eq_lt.2 h]; simp; omega
  · subst h; simp
  · rw [Std.compare_eq_gt.2 h]; simp; omega
theorem ltB_eq (x y : Nat) : ltB x y = decide (¬ nan x ∧ ¬ nan y ∧ pl x < pl y) := by
  unfold ltB
  by_cases hx : nan x
  · show (single.order x y == _) = _; rw [ord_nan_left y hx]; simp [hx]
  · by_cases hy : nan y
    · show (single.order x y == _) = _; rw [ord_nan_right x hy]; simp [hy]
    · show (single.order x y == _) = _; rw [ord hx hy, some_beq, cmp_lt]; simp [hx, hy]
theorem gtB_eq (x y : Nat) : gtB x y = decide (¬ nan x ∧ ¬ nan y ∧ pl y < pl x) := by
  unfold gtB
  by_cases hx : nan x
  · show (single.order x y == _) = _; rw [ord_nan_left y hx]; simp [hx]
  · by_cases hy : nan y
    · show (single.order x y == _) = _; rw [ord_nan_right x hy]; simp [hy]
    · show (single.order x y == _) = _; rw [ord hx hy, some_beq, cmp_gt]; simp [hx, hy]
theorem eqB_eq (x y : Nat) : eqB x y = decide (¬ nan x ∧ ¬ nan y ∧ pl x = pl y) := by
  unfold eqB
  by_cases hx : nan x
  · show (single.order x y == _) = _; rw [ord_nan_left y hx]; simp [hx]
  · by_cases hy : nan y
    · show (single.order x y == _) = _; rw [ord_nan_right x hy]; simp [hy]
    · show (single.order x y == _) = _; rw [ord hx hy, some_beq, cmp_eq]; simp [hx, hy]
/-- the walk's spelling, read as places -/
theorem o_lt (x y : Nat) : (FloatKind.f32.format.order x y == some .lt) = decide (¬ nan x ∧ ¬ nan y ∧ pl x < pl y) := ltB_eq x y
theorem o_gt (x y : Nat) : (FloatKind.f32.format.order x y == some .gt) = decide (¬ nan x ∧ ¬ nan y ∧ pl y < pl x) := gtB_eq x y
theorem o_eq (x y : Nat) : (FloatKind.f32.format.order x y == some .eq) = decide (¬ nan x ∧ ¬ nan y ∧ pl x = pl y) := eqB_eq x y
theorem o_ne (x y : Nat) : (FloatKind.f32.format.order x y != some .eq) = decide (nan x ∨ nan y ∨ pl x ≠ pl y) := by
  rw [bne, o_eq]; by_cases h1 : nan x <;> by_cases h2 : nan y <;> simp [h1, h2]
theorem o_ge (x y : Nat) : (FloatKind.f32.format.order x y == some .gt || FloatKind.f32.format.order x y == some .eq) = decide (¬ nan x ∧ ¬ nan y ∧ pl y ≤ pl x) := by
  rw [o_gt, o_eq, ← Bool.decide_or]; apply decide_eq_decide.2; constructor
  · rintro (⟨a, b, c⟩ | ⟨a, b, c⟩) <;> exact ⟨a, b, by omega⟩
  · rintro ⟨a, b, c⟩
    by_cases h : pl x = pl y
    · exact .inr ⟨a, b, h⟩
    · exact .inl ⟨a, b, by omega⟩
/-- has the sign bit -/
def mB (x : Nat) : Bool := decide (2147483648 ≤ x)
/-- words of the kind -/
def W (x : Nat) : Prop := x < 4294967296
theorem W_of_wf {x : Nat} (h : (Lit.float .f32 x).wf = true) : W x := by simpa [Lit.wf, W] using h
/-- the place zero has two words -/
theorem pl_zero (x : Nat) (h : W x) : pl x = 0 ↔ x = 0 ∨ x = 2147483648 := by
  unfold W at h; unfold pl; split <;> omega
/-- an interval -/
def IsIv (lo hi : Nat) : Prop := ¬ nan lo ∧ ¬ nan hi ∧ pl lo ≤ pl hi ∧ lo ≠ 2147483648 ∧ hi ≠ 2147483648 ∧ pl lo < 2139095040 ∧ -2139095040 < pl hi
instance (lo hi : Nat) : Decidable (IsIv lo hi) := by unfold IsIv; infer_instance
/-- a float that is neither NaN nor -0 -/
def PlainP (x : Nat) : Prop := ¬ nan x ∧ x ≠ 2147483648
instance (x : Nat) : Decidable (PlainP x) := by unfold PlainP; infer_instance
/-- a finite float -/
def fin (x : Nat) : Prop := x % 2147483648 < 2139095040
instance (x : Nat) : Decidable (fin x) := by unfold fin; infer_instance
/-- 0 in the place of -0 -/
def zp (x : Nat) : Nat := if x = 2147483648 then 0 else x
/-- the opposite word -/
def ng (x : Nat) : Nat := if x < 2147483648 then x + 2147483648 else x - 2147483648
theorem negFloat_eq (x : Nat) (h : W x) : Op.negFloat .f32 x = ng x := by
  unfold Op.negFloat ng W at *
  show x ^^^ 2 ^ 31 = _
  have h1 : (x ^^^ 2 ^ 31) % 2 ^ 31 = x % 2 ^ 31 := by rw [Nat.xor_mod_two_pow, Nat.mod_self, Nat.xor_zero]
  have h2 : (x ^^^ 2 ^ 31) / 2 ^ 31 = (x / 2 ^ 31) ^^^ 1 := by rw [Nat.xor_div_two_pow, Nat.div_self (by decide)]
  have h3 : x / 2 ^ 31 = 0 ∨ x / 2 ^ 31 = 1 := by omega
  rcases h3 with h3 | h3 <;> rw [h3] at h2
  · have : (0 ^^^ 1 : Nat) = 1 := rfl
    rw [this] at h2
    generalize x ^^^ 2 ^ 31 = y at *
    split <;> omega
  · have : (1 ^^^ 1 : Nat) = 0 := rfl
    rw [this] at h2
    generalize x ^^^ 2 ^ 31 = y at *
    split <;> omega
end Go.Proofs.YtflgjecpjaiecaaGreat.Flt
/- Plain facts on the conversion of a single word to a double one. -/
set_option linter.unusedVariables false
set_option linter.unusedSimpArgs false
namespace Go.Proofs.YtflgjecpjaiecaaGreat.Flt
open Ieee
/-- the rung of a number with a magnitude below 2^53 in the wide format, at a place above -1022 -/
def drung (m : Nat) (place : Int) : Nat := (place + m.log2 + 1022).toNat * 4503599627370496 + m * 2 ^ (52 - m.log2)
theorem log2_lt53 {m : Nat} (hm : m ≠ 0) (h : m < 9007199254740992) : m.log2 ≤ 52 := by
  have := (Nat.log2_lt hm (k := 53)).2 (by simpa using h)
  omega
theorem kept_bounds {m : Nat} (hm : m ≠ 0) (h : m < 9007199254740992) : 4503599627370496 ≤ m * 2 ^ (52 - m.log2) ∧ m * 2 ^ (52 - m.log2) < 9007199254740992 := by
  have hl := log2_lt53 hm h
  have h1 : 2 ^ m.log2 ≤ m := Nat.log2_self_le hm
  have h2 : m < 2 ^ (m.log2 + 1) := Nat.lt_log2_self
  have e1 : 2 ^ m.log2 * 2 ^ (52 - m.log2) = 4503599627370496 := by rw [← Nat.pow_add, show m.log2 + (52 - m.log2) = 52 by omega]
  have e2 : 2 ^ (m.log2 + 1) * 2 ^ (52 - m.log2) = 9007199254740992 := by rw [← Nat.pow_add, show m.log2 + 1 + (52 - m.log2) = 53 by omega]
  have hp : 0 < 2 ^ (52 - m.log2) := Nat.two_pow_pos _
  constructor
  · rw [← e1]; exact Nat.mul_le_mul_right _ h1
  · rw [← e2]; exact Nat.mul_lt_mul_of_pos_right h2 hp
/-- WRITING A NUMBER IN THE WIDE FORMAT, WITHOUT ROUNDING -/
theorem double_write (s : Bool) {m : Nat} {place : Int} (hm : m ≠ 0) (h : m < 9007199254740992) (h1 : -1022 ≤ place + m.log2) (h2 : place + m.log2 ≤ 1023) :
    double.nearest s m place = double.word s (drung m place) := by
  have hk := kept_bounds hm h
  have hl := log2_lt53 hm h
  apply nearest_exact
  · show drung m place ≤ 2047 * 4503599627370496
    unfold drung
    generalize m * 2 ^ (52 - m.log2) = K at *
    have : (place + m.log2 + 1022).toNat ≤ 2045 := by omega
    omega
  · rfl
  · refine ⟨52, by show 0 ≤ place - (-1074) + (52 : Nat); omega, ?_⟩
    show m * 2 ^ (place - (-1074) + (52 : Nat)).toNat = V 4503599627370496 (drung m place) * 2 ^ 52
    unfold drung
    rw [V_rung (by decide) _ _ (by omega) (.inr hk.1), Nat.mul_assoc, Nat.mul_assoc, ← Nat.pow_add, ← Nat.pow_add]
    congr 2; omega
theorem drung_le {m : Nat} {place : Int} (hm : m ≠ 0) (h : m < 9007199254740992) (h2 : place + m.log2 ≤ 1023) : drung m place < 2047 * 4503599627370496 := by
  have hk := kept_bounds hm h
  unfold drung
  generalize m * 2 ^ (52 - m.log2) = K at *
  have : (place + m.log2 + 1022).toNat ≤ 2045 := by omega
  omega
theorem mg_lt (r : Nat) : mg 8388608 r < 16777216 := by unfold mg; split <;> omega
theorem mg_zero (r : Nat) : mg 8388608 r = 0 ↔ r = 0 := by unfold mg; split <;> omega
theorem ex_le {r : Nat} (h : r < 2139095040) : ex 8388608 r ≤ 253 := by unfold ex; split <;> omega
theorem isInf_word {r : Nat} (s : Bool) (h : r < 2047 * 4503599627370496) : (double.read (double.word s r)).isInfinity = false := by
  have e : double.word s r % double.signWeight = r := by
    unfold Format.word
    show (if s = true then 9223372036854775808 + r else r) % 9223372036854775808 = r
    split <;> omega
  rw [read_fin double (by decide) (by rw [e]; exact h)]; rfl
theorem wide_num {x : Nat} (h0 : x % 2147483648 ≠ 0) (h : fin x) :
    floatToFloatBits .f32 x .f64 = some (double.word (sgf single x) (drung (mg 8388608 (x % 2147483648)) (-149 + (ex 8388608 (x % 2147483648) : Nat)))) := by
  unfold floatToFloatBits
  rw [if_neg (by decide)]
  have hd : FloatKind.f32.decode x = .number (sgf single x) (mg 8388608 (x % 2147483648)) (-149 + (ex 8388608 (x % 2147483648) : Nat)) :=
    read_fin single (x := x) (by decide) h
  rw [hd]
  have hm : mg 8388608 (x % 2147483648) ≠ 0 := fun k => h0 ((mg_zero _).1 k)
  have hlt := mg_lt (x % 2147483648)
  have he := ex_le (r := x % 2147483648) h
  generalize mg 8388608 (x % 2147483648) = m at *
  generalize ex 8388608 (x % 2147483648) = e at *
  have hl : m.log2 ≤ 23 := by have := (Nat.log2_lt hm (k := 24)).2 (by simpa using hlt); omega
  have hw : FloatKind.f64.encode (.number (sgf single x) m (-149 + (e : Nat))) = double.word (sgf single x) (drung m (-149 + (e : Nat))) :=
    double_write _ hm (by omega) (by omega) (by omega)
  simp only [hw]
  have hi := isInf_word (sgf single x) (drung_le (place := -149 + (e : Nat)) hm (by omega) (by omega))
  rw [show (FloatKind.f64.decode (double.word (sgf single x) (drung m (-149 + (e : Nat))))).isInfinity = false from hi]
  rfl
theorem word_mod (s : Bool) {r : Nat} (h : r < 9223372036854775808) : double.word s r % double.signWeight = r := by
  unfold Format.word
  show (if s = true then 9223372036854775808 + r else r) % 9223372036854775808 = r
  split <;> omega
end Go.Proofs.YtflgjecpjaiecaaGreat.Flt
/- Contracts of the float functions of chapters 1 and 6, the ones without loops. -/
set_option linter.unusedVariables false
set_option linter.unusedSimpArgs false
namespace Go.Proofs.YtflgjecpjaiecaaGreat
open Go.RowKit Flt
theorem run_f32bits (x : Nat) (w : World) : (callFunc 189 #[.float .f32 x]).run Tryz.prog w = .ok (.value (.int .u32 x)) w := by
  rw [run_callFunc_extern (P := Tryz.prog) (f := 189) (fn := Tryz.f189) (e := Extern.MathFloatBits.float32bits) (by kernel_rfl) (by kernel_rfl) (by kernel_rfl) (by kernel_rfl) (by kernel_rfl)]
  rfl
theorem run_f32frombits (x : Int) (w : World) : (callFunc 233 #[.int .u32 x]).run Tryz.prog w = .ok (.value (.float .f32 x.toNat)) w := by
  rw [run_callFunc_extern (P := Tryz.prog) (f := 233) (fn := Tryz.f233) (e := Extern.MathFloatBits.float32frombits) (by kernel_rfl) (by kernel_rfl) (by kernel_rfl) (by kernel_rfl) (by kernel_rfl)]
  rfl
theorem run_f64frombits (x : Int) (w : World) : (callFunc 270 #[.int .u64 x]).run Tryz.prog w = .ok (.value (.float .f64 x.toNat)) w := by
  rw [run_callFunc_extern (P := Tryz.prog) (f := 270) (fn := Tryz.f270) (e := Extern.MathFloatBits.float64frombits) (by kernel_rfl) (by kernel_rfl) (by kernel_rfl) (by kernel_rfl) (by kernel_rfl)]
  rfl
theorem cast_div (x : Nat) : ((x : Int) / 2147483648 != 0) = mB x := by
  unfold mB; rw [Bool.eq_iff_iff]; simp; omega
theorem i_inf1 (w : World) :
    Calls Tryz.prog 171 #[.int .i64 1] w fun e w' => e = .returned (.float .f32 2139095040) ∧ w = w' := by
  have k := run_f64frombits
  have k2 := fun w => run_convert_float_float (P := Tryz.prog) w 26 22 .f64 .f32 9218868437227405312 2139095040 (by kernel_rfl) Tryz.underlying22 (by kernel_rfl)
  go_enter Tryz.func171, Tryz.ntmps171
  go_wp2
  go_ret
  exact ⟨rfl, rfl⟩
theorem i_inf2 (w : World) :
    Calls Tryz.prog 171 #[.int .i64 (-1)] w fun e w' => e = .returned (.float .f32 4286578688) ∧ w = w' := by
  have k := run_f64frombits
  have k2 := fun w => run_convert_float_float (P := Tryz.prog) w 26 22 .f64 .f32 18442240474082181120 4286578688 (by kernel_rfl) Tryz.underlying22 (by kernel_rfl)
  go_enter Tryz.func171, Tryz.ntmps171
  go_wp2
  go_ret
  exact ⟨rfl, rfl⟩
theorem s_Huge (w : World) :
    Calls Tryz.prog 166 #[] w fun e w' => e = .returned (.float .f32 2139095040) ∧ w = w' := by
  have k2 := fun w => run_float_arith (P := Tryz.prog) w .mul 22 .f32 2137108966 1092616192 2139095040 (by kernel_rfl)
  go_enter Tryz.func166, Tryz.ntmps166
  go_wp2
  go_ret
  exact ⟨rfl, rfl⟩
theorem eq0_iff (x : Nat) (hx : W x) : (¬ nan x ∧ ¬ nan 0 ∧ pl x = pl 0) ↔ (x = 0 ∨ x = 2147483648) := by
  have h0 : pl 0 = 0 := by decide
  have hn : ¬ nan 0 := by decide
  rw [h0, pl_zero x hx]
  constructor
  · exact fun h => h.2.2
  · intro h; refine ⟨?_, hn, h⟩; unfold nan; rcases h with rfl | rfl <;> decide
/-- 'x == 0' as the walk has it -/
theorem o_eq0 (x : Nat) (hx : W x) : (FloatKind.f32.format.order x 0 == some .eq) = decide (x = 0 ∨ x = 2147483648) := by
  rw [o_eq]; exact decide_eq_decide.2 (eq0_iff x hx)
theorem i_plain (x : Nat) (w : World) (hx : W x) :
    Calls Tryz.prog 137 #[.float .f32 x] w fun e w' => e = .returned (.float .f32 (zp x)) ∧ w = w' := by
  have h := o_eq0 x hx
  by_cases hz : x = 0 ∨ x = 2147483648
  · have h' : (FloatKind.f32.format.order x 0 == some .eq) = true := by rw [h]; simpa using hz
    clear h
    have e : zp x = 0 := by unfold zp; rcases hz with rfl | rfl <;> simp
    rw [e]; clear e hz hx
    go_enter Tryz.func137, Tryz.ntmps137
    go_wp2
    go_ret
    exact ⟨rfl, rfl⟩
  · have h' : (FloatKind.f32.format.order x 0 == some .eq) = false := by rw [h]; simpa using hz
    clear h
    have e : zp x = x := by unfold zp; rw [if_neg (by omega)]
    rw [e]; clear e hz hx
    go_enter Tryz.func137, Tryz.ntmps137
    go_wp2
    go_ret
    exact ⟨rfl, rfl⟩
end Go.Proofs.YtflgjecpjaiecaaGreat
/- Contracts: finite floats, intervals' tests. -/
set_option linter.unusedVariables false
set_option linter.unusedSimpArgs false
namespace Go.Proofs.YtflgjecpjaiecaaGreat
open Go.RowKit Flt
theorem below_drewN {B : Nat} {a w : World} (n : Nat) (h : Below B a w) : Below B a (w.drewN n) := ⟨h.os, h.tape, h.output, h.size, h.block⟩
theorem run_float_nan {P : Program} (w : World) (op : BinOp) (hop : op = .add ∨ op = .sub ∨ op = .mul ∨ op = .quo) (t : TypeId) (k : FloatKind) (x y : Nat) (h : floatBits op k x y = none) :
    (binOp op t (.float k x) (.float k y)).run P w = .ok (.float k ((Question.nanBits k x y).cut (w.tape w.drawn (.nanBits k x y)))) w.drew := by
  unfold floatBits at h
  rcases hop with rfl | rfl | rfl | rfl <;> simp only at h <;> (simp [binOp, Op.floatArith, h, choose]; rfl)
theorem nan_cut (x y t : Nat) : nan ((Question.nanBits .f32 x y).cut t) := by
  show 2139095040 < (t % 2 * 2147483648 + 2139095040 + 1 + t / 2 % 8388607) % 2147483648
  rcases Nat.mod_two_eq_zero_or_one t with h | h <;> rw [h] <;> omega
theorem sub_self_fin (x : Nat) (h : fin x) : floatBits .sub .f32 x x = some 0 := by
  show Ieee.single.sub x x = _
  unfold Ieee.Format.sub
  rw [read_fin Ieee.single (by decide) (show x % Ieee.single.signWeight < Ieee.single.infRung from h)]
  simp only [Ieee.Datum.opposite, Ieee.Datum.sum, Option.map]
  have e : ∀ (s : Bool) (m u : Nat), Ieee.signed s m u + Ieee.signed (!s) m u = 0 := by
    intro s m u; unfold Ieee.signed; cases s <;> simp <;> omega
  simp only [e]
  cases sgf Ieee.single x <;> rfl
theorem sub_self_inf (x : Nat) (h : ¬ fin x) : floatBits .sub .f32 x x = none := by
  show Ieee.single.sub x x = _
  unfold Ieee.Format.sub
  by_cases hn : nan x
  · rw [read_nan Ieee.single (by decide) hn]; rfl
  · rw [read_inf Ieee.single (by decide) (show x % 2147483648 = 2139095040 by unfold fin at h; unfold nan at hn; omega)]
    cases sgf Ieee.single x <;> rfl
theorem s_Finite (x : Nat) (w : World) :
    Calls Tryz.prog 125 #[.float .f32 x] w fun e w' => e = .returned (.bool (decide (fin x))) ∧ ∃ n, w' = w.drewN n := by
  by_cases h : fin x
  · have k := fun w => run_float_arith (P := Tryz.prog) w .sub 22 .f32 x x 0 (sub_self_fin x h)
    have k4 : (FloatKind.f32.format.order 0 0 == some .eq) = true := by decide
    rw [show decide (fin x) = true by simpa using h]
    go_enter Tryz.func125, Tryz.ntmps125
    go_wp2
    go_ret
    exact ⟨rfl, 0, rfl⟩
  · have k := fun w => run_float_nan (P := Tryz.prog) w .sub (by simp) 22 .f32 x x (sub_self_inf x h)
    have k4 : ∀ t, (FloatKind.f32.format.order ((Question.nanBits .f32 x x).cut t) 0 == some .eq) = false := fun t => by rw [o_eq]; simp [nan_cut]
    rw [show decide (fin x) = false by simpa using h]
    go_enter Tryz.func125, Tryz.ntmps125
    go_wp2
    go_ret
    exact ⟨rfl, 1, rfl⟩
theorem wraps_u32 (n : Int) (h₀ : 0 ≤ n) (h₁ : n < 2 ^ 32) : IntKind.u32.wrap n = n := by rw [IntKind.wrap_u32]; omega
theorem u32_and255 (x : Int) (h₀ : 0 ≤ x) (h₁ : x < 4294967296) : bits .and .u32 x 255 = x % 256 := bits_mask .u32 32 (by decide) wraps_u32 8 (by decide) x h₀ h₁
theorem fin_and (x : Nat) (hx : W x) : (bits BinOp.and IntKind.u32 ((x : Int) / 8388608) 255 != 255) = decide (fin x) := by
  have e : bits BinOp.and IntKind.u32 ((x : Int) / 8388608) 255 = ((x / 8388608 % 256 : Nat) : Int) := by
    rw [u32_and255 _ (by omega) (by unfold W at hx; omega)]; omega
  rw [e, Bool.eq_iff_iff]; simp; unfold fin; omega
theorem i_isFinite (x : Nat) (w : World) (hx : W x) :
    Calls Tryz.prog 129 #[.float .f32 x] w fun e w' => e = .returned (.bool (decide (fin x))) ∧ w = w' := by
  have k := run_f32bits
  have h := fin_and x hx
  go_enter Tryz.func129, Tryz.ntmps129
  go_wp2
  go_ret
  exact ⟨rfl, rfl⟩
end Go.Proofs.YtflgjecpjaiecaaGreat
/- Contracts: the interval test of the program, lists of floats and of intervals. -/
set_option linter.unusedVariables false
set_option linter.unusedSimpArgs false
namespace Go.Proofs.YtflgjecpjaiecaaGreat
open Go.RowKit Flt
end Go.Proofs.YtflgjecpjaiecaaGreat
/- Contracts: lists of floats, lists of intervals; both of two intervals. -/
set_option linter.unusedVariables false
set_option linter.unusedSimpArgs false
namespace Go.Proofs.YtflgjecpjaiecaaGreat
open Go.RowKit Flt
end Go.Proofs.YtflgjecpjaiecaaGreat
/- Contracts: the interval functions without rounding. -/
set_option linter.unusedVariables false
set_option linter.unusedSimpArgs false
namespace Go.Proofs.YtflgjecpjaiecaaGreat
open Go.RowKit Flt
theorem W_ng {x : Nat} (h : W x) : W (ng x) := by unfold W ng at *; split <;> omega
theorem W_zp {x : Nat} (h : W x) : W (zp x) := by unfold W zp at *; split <;> omega
theorem pl_ng {x : Nat} (h : W x) : pl (ng x) = - pl x := by unfold pl ng; unfold W at h; (repeat' split) <;> omega
theorem nan_ng {x : Nat} (h : W x) : nan (ng x) ↔ nan x := by unfold nan ng; unfold W at h; split <;> omega
theorem nan_zp (x : Nat) : nan (zp x) ↔ nan x := by unfold nan zp; split <;> omega
theorem zp_plain {x : Nat} (h : PlainP x) : zp x = x := by unfold zp; rw [if_neg h.2]
end Go.Proofs.YtflgjecpjaiecaaGreat
/- Contracts: the exported interval functions without rounding, in the reference and in the program. -/
set_option linter.unusedVariables false
set_option linter.unusedSimpArgs false
namespace Go.Proofs.YtflgjecpjaiecaaGreat
open Go.RowKit Flt
end Go.Proofs.YtflgjecpjaiecaaGreat
/- Contracts: equality of results as the statements ask it; copies of arguments. -/
set_option linter.unusedVariables false
set_option linter.unusedSimpArgs false
namespace Go.Proofs.YtflgjecpjaiecaaGreat
open Go.RowKit Flt
end Go.Proofs.YtflgjecpjaiecaaGreat
/- Opening and closing of the arguments of the rows: structs of two floats; the row's last step over a world that is known below the old blocks. -/
set_option linter.unusedVariables false
set_option linter.unusedSimpArgs false
namespace Go.Proofs.YtflgjecpjaiecaaGreat
open Go.ChangeShapes Go.WideShapes Go.ChangeAt Go.RowKit Go.Joins Go.Deep
theorem rowOwn : ownKnob Tryz.prog.godebug = none := by kernel_rfl
section
variable {H : Type} {enc : TypeId × Value → H} {P : Program}
variable {w : World} {base : Nat} {spare : Nat → Bool} {held : Bool}
end
end Go.Proofs.YtflgjecpjaiecaaGreat
/- Contracts: pairs. -/
set_option linter.unusedVariables false
set_option linter.unusedSimpArgs false
namespace Go.Proofs.YtflgjecpjaiecaaGreat
open Go.RowKit Flt
theorem add_fin {x y : Nat} (hx : fin x) (hy : fin y) : ∃ r, floatBits .add .f32 x y = some r := by
  show ∃ r, Ieee.single.add x y = some r
  unfold Ieee.Format.add
  rw [read_fin Ieee.single (by decide) (show x % Ieee.single.signWeight < Ieee.single.infRung from hx), read_fin Ieee.single (by decide) (show y % Ieee.single.signWeight < Ieee.single.infRung from hy)]
  exact ⟨_, rfl⟩
/-- the float sum of two finite floats -/
def addW (x y : Nat) : Nat := (floatBits .add .f32 x y).getD 0
theorem addW_eq {x y : Nat} (hx : fin x) (hy : fin y) : floatBits .add .f32 x y = some (addW x y) := by
  obtain ⟨r, h⟩ := add_fin hx hy; unfold addW; rw [h]; rfl
theorem addW_W (x y : Nat) : W (addW x y) := by
  unfold addW
  cases h : floatBits .add .f32 x y with
  | none => show 0 < 4294967296; decide
  | some r => have := W_of_wf (floatBits_wf h); exact this
end Go.Proofs.YtflgjecpjaiecaaGreat
/- Plain facts on the wide format: doubling, halving, to and from integers and single words, without rounding. -/
set_option linter.unusedVariables false
set_option linter.unusedSimpArgs false
set_option exponentiation.threshold 3000
namespace Go.Proofs.YtflgjecpjaiecaaGreat.Flt
open Ieee
theorem V_drung {m : Nat} {q : Int} (hm : m ≠ 0) (h : m < 9007199254740992) (h1 : -1022 ≤ q + m.log2) : V 4503599627370496 (drung m q) = m * 2 ^ (q + 1074).toNat := by
  have hk := kept_bounds hm h
  have hl := log2_lt53 hm h
  unfold drung
  rw [V_rung (by decide) _ _ (by omega) (.inr hk.1), Nat.mul_assoc, ← Nat.pow_add]
  congr 2; omega
/-- writing a number whose value in units of the least place is that of a rung -/
theorem dnearest (s : Bool) (mag : Nat) (place : Int) (r : Nat) (hr : r ≤ double.infRung) (h : ∃ c : Nat, 0 ≤ place + 1074 + c ∧ mag * 2 ^ (place + 1074 + c).toNat = V 4503599627370496 r * 2 ^ c) : double.nearest s mag place = double.word s r := by
  apply nearest_exact double s mag place r hr rfl
  obtain ⟨c, h0, h1⟩ := h
  refine ⟨c, ?_, ?_⟩
  · show 0 ≤ place - (-1074) + (c : Int); omega
  · show mag * 2 ^ (place - (-1074) + (c : Int)).toNat = _
    rw [show place - (-1074) + (c : Int) = place + 1074 + c by omega]; exact h1
theorem snearest (s : Bool) (mag : Nat) (place : Int) (r : Nat) (hr : r ≤ single.infRung) (h : ∃ c : Nat, 0 ≤ place + 149 + c ∧ mag * 2 ^ (place + 149 + c).toNat = V 8388608 r * 2 ^ c) : single.nearest s mag place = single.word s r := by
  apply nearest_exact single s mag place r hr rfl
  obtain ⟨c, h0, h1⟩ := h
  refine ⟨c, ?_, ?_⟩
  · show 0 ≤ place - (-149) + (c : Int); omega
  · show mag * 2 ^ (place - (-149) + (c : Int)).toNat = _
    rw [show place - (-149) + (c : Int) = place + 149 + c by omega]; exact h1
theorem sg_word (s : Bool) {r : Nat} (h : r < 9223372036854775808) : sgf double (double.word s r) = s := by
  unfold sgf Format.word
  show ((if s = true then 9223372036854775808 + r else r) / 9223372036854775808 % 2 == 1) = s
  cases s
  · rw [if_neg (by decide), Nat.div_eq_of_lt h]; rfl
  · rw [if_pos rfl, show (9223372036854775808 + r) / 9223372036854775808 = 1 by omega]; rfl
theorem read_word (s : Bool) {r : Nat} (h : r < 9218868437227405312) : double.read (double.word s r) = .number s (mg 4503599627370496 r) (-1074 + (ex 4503599627370496 r : Nat)) := by
  have e := word_mod s (r := r) (by omega)
  have := read_fin double (x := double.word s r) (by decide) (by rw [e]; exact h)
  rw [e, sg_word s (by omega)] at this
  exact this
theorem mg_lt53 (r : Nat) : mg 4503599627370496 r < 9007199254740992 := by unfold mg; split <;> omega
theorem two_word : double.read 4611686018427387904 = .number false 4503599627370496 (-51) := by decide
theorem d_mul2 (s : Bool) {r r' : Nat} (h : r < 9218868437227405312) (h' : r' ≤ 9218868437227405312) (hv : V 4503599627370496 r' = 2 * V 4503599627370496 r) :
    floatBits .mul .f64 (double.word s r) 4611686018427387904 = some (double.word s r') := by
  show double.mul _ _ = _
  unfold Format.mul
  rw [read_word s h, two_word]
  simp only [Datum.product, Option.map, Format.write, Bool.xor_false]
  congr 1
  apply dnearest s _ _ r' h'
  refine ⟨51, by omega, ?_⟩
  rw [hv, V_eq, show (-1074 + ((ex 4503599627370496 r : Nat) : Int) + -51 + 1074 + ((51 : Nat) : Int)).toNat = ex 4503599627370496 r by omega]
  generalize mg 4503599627370496 r = A
  generalize 2 ^ ex 4503599627370496 r = E
  rw [Nat.mul_assoc, Nat.mul_left_comm]
  generalize A * E = P
  show 4503599627370496 * P = 2 * P * 2251799813685248
  omega
theorem d_div2 (s : Bool) {r r' : Nat} (h : r < 9218868437227405312) (h' : r' ≤ 9218868437227405312) (hv : V 4503599627370496 r = 2 * V 4503599627370496 r') :
    floatBits .quo .f64 (double.word s r) 4611686018427387904 = some (double.word s r') := by
  show double.div _ _ = _
  unfold Format.div
  rw [read_word s h, two_word]
  have hm := mg_lt53 r
  have hV := V_eq 4503599627370496 r
  generalize mg 4503599627370496 r = m at *
  generalize ex 4503599627370496 r = e at *
  have hl : m.log2 ≤ 52 := by
    by_cases h0 : m = 0
    · subst h0; decide
    · exact log2_lt53 h0 hm
  have e1 : (4503599627370496 : Nat).log2 = 52 := by decide
  simp only [Datum.quotient, if_neg (show ¬ (4503599627370496 : Nat) = 0 by decide), Option.map, Format.write, Bool.xor_false, e1]
  have e2 : double.fractionBits + 2 + 52 - m.log2 = (54 - m.log2) + 52 := by show 52 + 2 + 52 - m.log2 = _; omega
  rw [e2, Nat.shiftLeft_eq, Nat.pow_add, ← Nat.mul_assoc, show (2 : Nat) ^ 52 = 4503599627370496 by rfl, Nat.mul_div_cancel _ (by decide), Nat.mul_mod_left]
  congr 1
  apply dnearest s _ _ r' h'
  refine ⟨106, by omega, ?_⟩
  have e3 : (-1074 + (e : Int) - -51 - (((54 - m.log2) + 52 : Nat) : Int) - 1 + 1074 + ((106 : Nat) : Int)).toNat = e + m.log2 + 50 := by omega
  rw [e3]
  show (2 * (m * 2 ^ (54 - m.log2)) + 0) * 2 ^ (e + m.log2 + 50) = _
  have e4 : 2 * (m * 2 ^ (54 - m.log2)) * 2 ^ (e + m.log2 + 50) = 2 * m * 2 ^ e * 2 ^ 104 := by
    rw [Nat.mul_assoc, Nat.mul_assoc m, ← Nat.pow_add, Nat.mul_assoc, Nat.mul_assoc, ← Nat.pow_add]
    congr 3; omega
  rw [Nat.add_zero, e4]
  rw [hV] at hv
  rw [show 2 * m * 2 ^ e = 2 * (m * 2 ^ e) by rw [Nat.mul_assoc], hv, show (2 : Nat) ^ 106 = 2 * 2 * 2 ^ 104 by rfl]
  generalize V 4503599627370496 r' = v
  rw [Nat.mul_comm 2 (2 * v), Nat.mul_comm 2 v, Nat.mul_assoc, Nat.mul_assoc, Nat.mul_assoc]
/-- 'float64(n)' -/
theorem d_ofInt (n : Int) (h0 : n ≠ 0) (h : n.natAbs < 9007199254740992) : floatOfInt .f64 n = double.word (decide (n < 0)) (drung n.natAbs 0) := by
  have hl := log2_lt53 (m := n.natAbs) (by omega) h
  show double.nearest _ _ _ = _
  exact double_write _ (by omega) h (by omega) (by omega)
/-- 'float32(x)' of a wide word whose value a single word has -/
theorem d_toSingle (s : Bool) {r r32 : Nat} (h : r < 9218868437227405312) (h32 : r32 < 2139095040) (hv : V 4503599627370496 r = V 8388608 r32 * 2 ^ 925) :
    floatToFloatBits .f64 (double.word s r) .f32 = some (single.word s r32) := by
  unfold floatToFloatBits
  rw [if_neg (by decide)]
  rw [show FloatKind.f64.decode (double.word s r) = .number s (mg 4503599627370496 r) (-1074 + (ex 4503599627370496 r : Nat)) from read_word s h]
  have hw : FloatKind.f32.encode (.number s (mg 4503599627370496 r) (-1074 + (ex 4503599627370496 r : Nat))) = single.word s r32 := by
    show single.nearest _ _ _ = _
    apply snearest s _ _ r32 (Nat.le_of_lt h32)
    refine ⟨925, by omega, ?_⟩
    rw [← hv, V_eq]; congr 2; omega
  simp only [hw]
  have e : single.word s r32 % single.signWeight = r32 := by
    unfold Format.word
    show (if s = true then 2147483648 + r32 else r32) % 2147483648 = r32
    split <;> omega
  have hi : (FloatKind.f32.decode (single.word s r32)).isInfinity = false := by
    show (single.read _).isInfinity = false
    rw [read_fin single (by decide) (by rw [e]; exact h32)]; rfl
  rw [hi]; rfl
theorem cut_zero_exact (neg : Bool) (k d : Nat) : Toward.zero.cut neg (k * 2 ^ d) d = k := by
  by_cases hk : k = 0
  · subst hk; unfold Toward.cut; simp
  · unfold Toward.cut
    have hl := log2_mul_pow k d hk
    have hm : min d ((k * 2 ^ d).log2 + 2) = d := by omega
    have hp : 0 < 2 ^ d := Nat.two_pow_pos d
    simp only [hm, Nat.shiftLeft_eq, Nat.one_mul, Nat.mul_div_cancel _ hp]
    simp
/-- 'int64(x)' of a wide word whose value is a whole number -/
theorem d_toInt {r n : Nat} (h : r < 9218868437227405312) (hn : n < 9007199254740992) (hv : V 4503599627370496 r = n * 2 ^ 1074) :
    floatToIntVal .f64 (double.word false r) .i64 = some (n : Int) := by
  unfold floatToIntVal
  rw [show FloatKind.f64.decode (double.word false r) = .number false (mg 4503599627370496 r) (-1074 + (ex 4503599627370496 r : Nat)) from read_word false h]
  have hV := V_eq 4503599627370496 r
  generalize mg 4503599627370496 r = m at *
  generalize ex 4503599627370496 r = e at *
  have key : (Datum.number false m (-1074 + (e : Nat))).toInt .zero = some (n : Int) := by
    unfold Datum.toInt Datum.integral
    have hc : Toward.zero.cut false (m <<< (-1074 + (e : Int)).toNat) (-(-1074 + (e : Int))).toNat = n := by
      rw [Nat.shiftLeft_eq]
      by_cases he : e ≤ 1074
      · have e1 : (-1074 + (e : Int)).toNat = 0 := by omega
        have e2 : (-(-1074 + (e : Int))).toNat = 1074 - e := by omega
        rw [e1, e2, Nat.pow_zero, Nat.mul_one]
        have : m = n * 2 ^ (1074 - e) := by
          rw [hV] at hv
          have hh : n * 2 ^ 1074 = n * 2 ^ (1074 - e) * 2 ^ e := by rw [Nat.mul_assoc, ← Nat.pow_add]; congr 2; omega
          rw [hh] at hv
          exact Nat.mul_right_cancel (Nat.two_pow_pos e) hv
        rw [this]; exact cut_zero_exact _ _ _
      · have e1 : (-1074 + (e : Int)).toNat = e - 1074 := by omega
        have e2 : (-(-1074 + (e : Int))).toNat = 0 := by omega
        rw [e1, e2]
        have : m * 2 ^ (e - 1074) = n := by
          rw [hV] at hv
          have hh : m * 2 ^ e = m * 2 ^ (e - 1074) * 2 ^ 1074 := by rw [Nat.mul_assoc, ← Nat.pow_add]; congr 2; omega
          rw [hh] at hv
          exact Nat.mul_right_cancel (Nat.two_pow_pos 1074) hv
        rw [this]
        have := cut_zero_exact false n 0
        simpa using this
    simp only [hc]
    unfold signed; simp
  rw [key]
  simp only [IntKind.min, IntKind.max, IntKind.signed, IntKind.bits]
  rw [if_pos (by constructor <;> simp <;> omega)]
end Go.Proofs.YtflgjecpjaiecaaGreat.Flt
/- Contracts: floats by doubling and halving in the wide format. -/
set_option linter.unusedVariables false
set_option linter.unusedSimpArgs false
set_option exponentiation.threshold 3000
namespace Go.Proofs.YtflgjecpjaiecaaGreat
open Go.RowKit Flt
/-- the wide word of m 2^q -/
def dw (s : Bool) (m : Nat) (q : Int) : Nat := Ieee.double.word s (drung m q)
theorem dw_mul2 (s : Bool) {m : Nat} {q : Int} (hm : m ≠ 0) (h : m < 9007199254740992) (h1 : -1022 ≤ q + m.log2) (h2 : q + 1 + m.log2 ≤ 1023) : floatBits .mul .f64 (dw s m q) 4611686018427387904 = some (dw s m (q + 1)) := by
  have hl := log2_lt53 hm h
  apply d_mul2 s (drung_le hm h (by omega)) (Nat.le_of_lt (drung_le hm h (by omega)))
  rw [V_drung hm h (by omega), V_drung hm h h1, show (q + 1 + 1074).toNat = (q + 1074).toNat + 1 by omega, Nat.pow_succ, ← Nat.mul_assoc, Nat.mul_comm _ 2]
theorem dw_div2 (s : Bool) {m : Nat} {q : Int} (hm : m ≠ 0) (h : m < 9007199254740992) (h1 : -1022 ≤ q - 1 + m.log2) (h2 : q + m.log2 ≤ 1023) : floatBits .quo .f64 (dw s m q) 4611686018427387904 = some (dw s m (q - 1)) := by
  have hl := log2_lt53 hm h
  apply d_div2 s (drung_le hm h (by omega)) (Nat.le_of_lt (drung_le hm h (by omega)))
  rw [V_drung hm h (by omega), V_drung hm h h1, show (q + 1074).toNat = (q - 1 + 1074).toNat + 1 by omega, Nat.pow_succ, ← Nat.mul_assoc, Nat.mul_comm _ 2]
set_option maxHeartbeats 2000000 in
theorem s_TwosUp (s : Bool) (m : Nat) (q : Int) (n : Nat) (w : World) (hm : m ≠ 0) (h : m < 9007199254740992) (hn : n ≤ 100000) (h1 : -1022 ≤ q + m.log2) (h2 : q + n + m.log2 ≤ 1023) :
    Calls Tryz.prog 223 #[.float .f64 (dw s m q), .int .i64 (n : Int)] w fun e w' => e = .returned (.float .f64 (dw s m (q + n))) ∧ w = w' := by
  have HH : Hd (m ≠ 0 ∧ m < 9007199254740992 ∧ -1022 ≤ q + m.log2 ∧ q + n + m.log2 ≤ 1023) := ⟨⟨hm, h, h1, h2⟩⟩
  clear hm h h1 h2
  go_enter Tryz.func223, Tryz.ntmps223
  go_wp2
  go_loop [0, 1] (fun x k => ∃ j : Nat, j ≤ n ∧ x = .float .f64 (dw s m (q + j)) ∧ k = .int .i64 ((n - j : Nat) : Int)) (fun _ k => (intOf k).toNat)
  case atStart => exact ⟨0, Nat.zero_le _, by simp, by simp⟩
  case round =>
    obtain ⟨j, hj, rfl, rfl⟩ := hrel
    by_cases hlt : j < n
    · have k2 := fun w => run_float_arith (P := Tryz.prog) w .mul 26 .f64 (dw s m (q + j)) 4611686018427387904 (dw s m (q + j + 1)) (dw_mul2 s HH.out.1 HH.out.2.1 (by have := HH.out; omega) (by have := HH.out; omega))
      obtain ⟨d, hd⟩ : ∃ d, n - j = d + 1 := ⟨n - j - 1, by omega⟩
      rw [hd]
      have HD : Hd (n - j = d + 1) := ⟨hd⟩
      have hd2 : d ≤ 100000 := by omega
      clear hd
      go_wp2
      go_round
      case rel => exact ⟨j + 1, by omega, by rw [show q + ((j + 1 : Nat) : Int) = q + j + 1 by omega], by have := HD.out; rw [show n - (j + 1) = d by omega]⟩
      case measure => simp [intOf]
    · have e : n - j = 0 := by omega
      obtain rfl : j = n := by omega
      rw [e]
      clear e
      go_wp2
      refine wp_loop_rounds 1 ?_
      rw [rounds_succ]
      go_wp2_with fail
      go_ret
      exact ⟨rfl, rfl⟩
set_option maxHeartbeats 2000000 in
theorem s_TwosDown (s : Bool) (m : Nat) (q : Int) (n : Nat) (w : World) (hm : m ≠ 0) (h : m < 9007199254740992) (hn : n ≤ 100000) (h1 : -1022 ≤ q - n + m.log2) (h2 : q + m.log2 ≤ 1023) :
    Calls Tryz.prog 223 #[.float .f64 (dw s m q), .int .i64 (-(n : Int))] w fun e w' => e = .returned (.float .f64 (dw s m (q - n))) ∧ w = w' := by
  have HH : Hd (m ≠ 0 ∧ m < 9007199254740992 ∧ -1022 ≤ q - n + m.log2 ∧ q + m.log2 ≤ 1023) := ⟨⟨hm, h, h1, h2⟩⟩
  clear hm h h1 h2
  go_enter Tryz.func223, Tryz.ntmps223
  go_wp2
  refine wp_loop_rounds 1 ?_
  rw [rounds_succ]
  go_wp2_with fail
  go_loop [0, 1] (fun x k => ∃ j : Nat, j ≤ n ∧ x = .float .f64 (dw s m (q - j)) ∧ k = .int .i64 (-((n - j : Nat) : Int))) (fun _ k => (-(intOf k)).toNat)
  case atStart => exact ⟨0, Nat.zero_le _, by simp, by simp⟩
  case round =>
    obtain ⟨j, hj, rfl, rfl⟩ := hrel
    by_cases hlt : j < n
    · have k2 := fun w => run_float_arith (P := Tryz.prog) w .quo 26 .f64 (dw s m (q - j)) 4611686018427387904 (dw s m (q - j - 1)) (dw_div2 s HH.out.1 HH.out.2.1 (by have := HH.out; omega) (by have := HH.out; omega))
      obtain ⟨d, hd⟩ : ∃ d, n - j = d + 1 := ⟨n - j - 1, by omega⟩
      rw [hd]
      have HD : Hd (n - j = d + 1) := ⟨hd⟩
      have hd2 : d ≤ 100000 := by omega
      clear hd
      go_wp2
      go_round
      case rel => exact ⟨j + 1, by omega, by rw [show q - ((j + 1 : Nat) : Int) = q - j - 1 by omega], by have := HD.out; rw [show n - (j + 1) = d by omega]; go_num⟩
      case measure => simp [intOf]; omega
    · have e : n - j = 0 := by omega
      obtain rfl : j = n := by omega
      rw [e]
      clear e
      go_wp2
      go_ret
      exact ⟨rfl, rfl⟩
set_option maxHeartbeats 2000000 in
theorem s_Twos0 (n : Nat) (w : World) (hn : n ≤ 100000) :
    Calls Tryz.prog 223 #[.float .f64 0, .int .i64 (n : Int)] w fun e w' => e = .returned (.float .f64 0) ∧ w = w' := by
  have k2 := fun w => run_float_arith (P := Tryz.prog) w .mul 26 .f64 0 4611686018427387904 0 (by kernel_rfl)
  go_enter Tryz.func223, Tryz.ntmps223
  go_wp2
  go_loop [0, 1] (fun x k => ∃ j : Nat, j ≤ n ∧ x = .float .f64 0 ∧ k = .int .i64 (j : Int)) (fun _ k => (intOf k).toNat)
  case atStart => exact ⟨n, Nat.le_refl _, rfl, rfl⟩
  case round =>
    obtain ⟨j, hj, rfl, rfl⟩ := hrel
    cases j with
    | succ d =>
      go_wp2
      go_round
      case rel => exact ⟨d, by omega, rfl, rfl⟩
      case measure => simp [intOf]
    | zero =>
      go_wp2
      refine wp_loop_rounds 1 ?_
      rw [rounds_succ]
      go_wp2_with fail
      go_ret
      exact ⟨rfl, rfl⟩
set_option maxHeartbeats 2000000 in
theorem s_Twos0D (n : Nat) (w : World) (hn : n ≤ 100000) :
    Calls Tryz.prog 223 #[.float .f64 0, .int .i64 (-(n : Int))] w fun e w' => e = .returned (.float .f64 0) ∧ w = w' := by
  have k2 := fun w => run_float_arith (P := Tryz.prog) w .quo 26 .f64 0 4611686018427387904 0 (by kernel_rfl)
  go_enter Tryz.func223, Tryz.ntmps223
  go_wp2
  refine wp_loop_rounds 1 ?_
  rw [rounds_succ]
  go_wp2_with fail
  go_loop [0, 1] (fun x k => ∃ j : Nat, j ≤ n ∧ x = .float .f64 0 ∧ k = .int .i64 (-(j : Int))) (fun _ k => (-(intOf k)).toNat)
  case atStart => exact ⟨n, Nat.le_refl _, rfl, rfl⟩
  case round =>
    obtain ⟨j, hj, rfl, rfl⟩ := hrel
    cases j with
    | succ d =>
      go_wp2
      go_round
      case rel => exact ⟨d, by omega, rfl, by go_num⟩
      case measure => simp [intOf]; omega
    | zero =>
      go_wp2
      go_ret
      exact ⟨rfl, rfl⟩
theorem lt0_iff (x : Nat) (hx : W x) (hn : ¬ nan x) : (FloatKind.f32.format.order x 0 == some .lt) = decide (2147483648 < x) := by
  rw [o_lt]; apply decide_eq_decide.2
  have h0 : pl 0 = 0 := by decide
  have hn0 : ¬ nan 0 := by decide
  rw [h0]; unfold W at hx
  constructor
  · rintro ⟨_, _, h⟩; unfold pl at h; split at h <;> omega
  · intro h; refine ⟨hn, hn0, ?_⟩; unfold pl; rw [if_pos (by omega)]; omega
theorem s_Abs1 (x : Nat) (w : World) (hx : W x) (hn : ¬ nan x) :
    Calls Tryz.prog 263 #[.float .f32 x] w fun e w' => e = .returned (.float .f32 (x % 2147483648)) ∧ w = w' := by
  have h := o_eq0 x hx
  have hl := lt0_iff x hx hn
  have hg := negFloat_eq x hx
  by_cases h1 : 2147483648 < x
  · rw [decide_eq_true h1] at hl
    rw [show x % 2147483648 = ng x by unfold ng; unfold W at hx; rw [if_neg (by omega)]; omega]
    clear h h1 hx hn
    go_enter Tryz.func263, Tryz.ntmps263
    go_wp2
    go_ret
    exact ⟨rfl, rfl⟩
  · rw [decide_eq_false h1] at hl
    by_cases h2 : x = 0 ∨ x = 2147483648
    · rw [decide_eq_true h2] at h
      rw [show x % 2147483648 = 0 by omega]
      clear h1 h2 hx hn hg
      go_enter Tryz.func263, Tryz.ntmps263
      go_wp2
      go_ret
      exact ⟨rfl, rfl⟩
    · rw [decide_eq_false h2] at h
      rw [show x % 2147483648 = x by unfold W at hx; omega]
      clear h1 h2 hx hn hg
      go_enter Tryz.func263, Tryz.ntmps263
      go_wp2
      go_ret
      exact ⟨rfl, rfl⟩
/-- 'y >= 1 << 24' on an integer in the wide format -/
theorem dw_ge {m : Nat} {e : Nat} (hm : m ≠ 0) (h : m < 9007199254740992) (h2 : (e : Int) + m.log2 ≤ 1023) :
    (FloatKind.f64.format.order (dw false m e) 4715268809856909312 == some .gt || FloatKind.f64.format.order (dw false m e) 4715268809856909312 == some .eq) = decide (2 ^ 24 ≤ m * 2 ^ e) := by
  have hd := drung_le hm h h2
  have e1 := word_mod false (r := drung m e) (by omega)
  have e2 : (4715268809856909312 : Nat) = Ieee.double.word false (drung 1 24) := by decide
  have hd2 : drung 1 24 < 2047 * 4503599627370496 := by decide
  have e3 := word_mod false (r := drung 1 24) (by omega)
  have ho : FloatKind.f64.format.order (dw false m e) 4715268809856909312 = some (compare ((drung m e : Nat) : Int) ((drung 1 24 : Nat) : Int)) := by
    rw [e2]
    show Ieee.double.order (Ieee.double.word false (drung m e)) _ = _
    rw [order_eq Ieee.double (by decide) (by decide) (by rw [e1]; exact Nat.le_of_lt hd) (by rw [e3]; exact Nat.le_of_lt hd2), e1, e3, sg_word false (by omega), sg_word false (by omega)]; rfl
  rw [ho, some_beq, some_beq, cmp_gt, cmp_eq, ← Bool.decide_or]
  apply decide_eq_decide.2
  have v1 := V_drung (q := (e : Int)) hm h (by omega)
  have v2 := V_drung (m := 1) (q := 24) (by decide) (by decide) (by decide)
  rw [show ((e : Int) + 1074).toNat = e + 1074 by omega, Nat.pow_add, ← Nat.mul_assoc] at v1
  rw [show ((24 : Int) + 1074).toNat = 24 + 1074 by rfl, Nat.one_mul, Nat.pow_add] at v2
  have hlt := V_lt_iff (B := 4503599627370496) (a := drung m e) (b := drung 1 24) (by decide)
  rw [v1, v2] at hlt
  have hp : 0 < 2 ^ 1074 := Nat.two_pow_pos _
  generalize 2 ^ 1074 = P at *
  have : m * 2 ^ e * P < 2 ^ 24 * P ↔ m * 2 ^ e < 2 ^ 24 := Nat.mul_lt_mul_right hp
  rw [this] at hlt
  omega
end Go.Proofs.YtflgjecpjaiecaaGreat
/- Contracts: parts of floats, and floats at places. -/
set_option linter.unusedVariables false
set_option linter.unusedSimpArgs false
set_option exponentiation.threshold 3000
namespace Go.Proofs.YtflgjecpjaiecaaGreat
open Go.RowKit Flt
/-- magnitude and exponent of a float's parts -/
def pm (x : Nat) : Nat := mg 8388608 (x % 2147483648)
def pe (x : Nat) : Nat := ex 8388608 (x % 2147483648)
theorem pm_lt (x : Nat) : pm x < 16777216 := mg_lt _
theorem pe_le {x : Nat} (h : fin x) : pe x ≤ 253 := ex_le h
theorem pm_big {x : Nat} (h : 0 < pe x) : 8388608 ≤ pm x := by
  unfold pe ex at h; unfold pm mg; split at h
  · omega
  · rename_i k; rw [if_neg k]; omega
/-- the wide word of a magnitude times a power of two -/
def dwn (m n : Nat) : Nat := dw false m (n : Int)
theorem big_ge {m : Nat} (d : Nat) (h : 8388608 ≤ m) : 2 ^ 24 ≤ m * 2 ^ (d + 1) := by
  have hp : 1 ≤ 2 ^ d := Nat.two_pow_pos d
  have h2 := Nat.mul_le_mul h hp
  have e : m * 2 ^ (d + 1) = m * 2 ^ d * 2 := by rw [Nat.pow_succ, Nat.mul_assoc]
  rw [e]; omega
theorem dwn_ge {m e : Nat} (hm : m ≠ 0) (h : m < 16777216) (hl : m.log2 ≤ 23) (he : e ≤ 253) :
    (FloatKind.f64.format.order (dwn m e) 4715268809856909312 == some .gt || FloatKind.f64.format.order (dwn m e) 4715268809856909312 == some .eq) = decide (2 ^ 24 ≤ m * 2 ^ e) := dw_ge hm (by omega) (by omega)
theorem dwn_half {m d : Nat} (hm : m ≠ 0) (h : m < 16777216) (hl : m.log2 ≤ 23) (he : d ≤ 253) : floatBits .quo .f64 (dwn m (d + 1)) 4611686018427387904 = some (dwn m d) := by
  have := dw_div2 false (m := m) (q := ((d + 1 : Nat) : Int)) hm (by omega) (by omega) (by omega)
  rw [show ((d + 1 : Nat) : Int) - 1 = (d : Int) by omega] at this; exact this
theorem wide_abs {x : Nat} (h0 : x % 2147483648 ≠ 0) (h : fin x) : floatToFloatBits .f32 (x % 2147483648) .f64 = some (dw false (pm x) (-149 + (pe x : Nat))) := by
  have e : x % 2147483648 % 2147483648 = x % 2147483648 := by omega
  have := wide_num (x := x % 2147483648) (by omega) (by unfold fin at *; omega)
  rw [e] at this
  rw [this]
  have hs : sgf Ieee.single (x % 2147483648) = false := by
    unfold sgf; show (x % 2147483648 / 2147483648 % 2 == 1) = false; rw [show x % 2147483648 / 2147483648 = 0 by omega]; rfl
  rw [hs]; rfl
theorem s_Twos0_149 (w : World) : Calls Tryz.prog 223 #[.float .f64 0, .int .i64 149] w fun e w' => e = .returned (.float .f64 0) ∧ w = w' := s_Twos0 149 w (by decide)
theorem s_TwosUp_149 (m e : Nat) (w : World) (hm : m ≠ 0) (h : m < 16777216) (he : e ≤ 253) (hl : m.log2 ≤ 23) :
    Calls Tryz.prog 223 #[.float .f64 (dw false m (-149 + (e : Int))), .int .i64 149] w fun r w' => r = .returned (.float .f64 (dwn m e)) ∧ w = w' := by
  have := s_TwosUp false m (-149 + (e : Int)) 149 w hm (by omega) (by decide) (by omega) (by omega)
  rw [show -149 + (e : Int) + ((149 : Nat) : Int) = (e : Int) by omega] at this
  exact this
set_option maxHeartbeats 2000000 in
theorem s_Parts (x : Nat) (w : World) (hx : W x) (hf : fin x) :
    Calls Tryz.prog 219 #[.float .f32 x] w fun e w' => e = .returned (.tuple #[.int .i64 (pm x), .int .i64 (-149 + (pe x : Nat))]) ∧ w = w' := by
  have HX : Hd (W x) := ⟨hx⟩
  have HN : Hd (¬ nan x) := ⟨by unfold nan; unfold fin at hf; omega⟩
  by_cases h0 : x % 2147483648 = 0
  · have e1 : pm x = 0 := by unfold pm; rw [h0]; rfl
    have e2 : pe x = 0 := by unfold pe; rw [h0]; rfl
    rw [e1, e2]
    have k1 := fun w => run_convert_float_float (P := Tryz.prog) w 22 26 .f32 .f64 0 0 (by kernel_rfl) Tryz.underlying26 (by kernel_rfl)
    have k2 := fun w => run_convert_float_int (P := Tryz.prog) w 26 2 .f64 .i64 0 0 (by kernel_rfl) Tryz.underlying2 (by kernel_rfl)
    have k3 : (FloatKind.f64.format.order 0 4715268809856909312 == some .gt || FloatKind.f64.format.order 0 4715268809856909312 == some .eq) = false := by decide
    clear hx hf e1 e2
    go_enter Tryz.func219, Tryz.ntmps219
    go_wp2_with (first | (go_at_call 263; refine (s_Abs1 _ _ HX.out HN.out).mono ?_; rintro e w' ⟨rfl, rfl⟩; rw [h0]) | (go_at_call 223; (with_reducible refine (s_Twos0_149 _).mono ?_); rintro e w' ⟨rfl, rfl⟩))
    refine wp_loop_rounds 1 ?_
    rw [rounds_succ]
    go_wp2_with fail
    go_ret2
    exact ⟨rfl, rfl⟩
  · have hm : pm x ≠ 0 := fun k => h0 ((mg_zero _).1 k)
    have hlt := pm_lt x
    have he := pe_le hf
    have hl : (pm x).log2 ≤ 23 := by have := (Nat.log2_lt hm (k := 24)).2 (by simpa using hlt); omega
    have k1 := fun w => run_convert_float_float (P := Tryz.prog) w 22 26 .f32 .f64 (x % 2147483648) (dw false (pm x) (-149 + (pe x : Nat))) (by kernel_rfl) Tryz.underlying26 (wide_abs h0 hf)
    have k2 := fun w => run_convert_float_int (P := Tryz.prog) w 26 2 .f64 .i64 (dwn (pm x) 0) (pm x) (by kernel_rfl) Tryz.underlying2
      (d_toInt (drung_le hm (by omega) (by omega)) (by omega) (V_drung hm (by omega) (by omega)))
    have HT : Hd (pm x ≠ 0 ∧ pm x < 16777216 ∧ pe x ≤ 253 ∧ (pm x).log2 ≤ 23) := ⟨⟨hm, hlt, he, hl⟩⟩
    have HB : Hd (0 < pe x → 8388608 ≤ pm x) := ⟨pm_big⟩
    clear hx hf h0 hm hlt hl
    go_enter Tryz.func219, Tryz.ntmps219
    go_wp2_with (first | (go_at_call 263; refine (s_Abs1 _ _ HX.out HN.out).mono ?_; rintro e w' ⟨rfl, rfl⟩) | (go_at_call 223; (with_reducible refine (s_TwosUp_149 (pm x) (pe x) _ HT.out.1 HT.out.2.1 HT.out.2.2.1 HT.out.2.2.2).mono ?_); rintro e w' ⟨rfl, rfl⟩))
    go_loop [4, 5] (fun e y => ∃ j : Nat, j ≤ pe x ∧ e = .int .i64 (-149 + (j : Int)) ∧ y = .float .f64 (dwn (pm x) (pe x - j))) (fun e _ => (253 - 149 - intOf e).toNat)
    case atStart => exact ⟨0, Nat.zero_le _, rfl, rfl⟩
    case round =>
      obtain ⟨j, hj, rfl, rfl⟩ := hrel
      have hg := dwn_ge (m := pm x) (e := pe x - j) HT.out.1 HT.out.2.1 HT.out.2.2.2 (by omega)
      by_cases hlt : j < pe x
      · obtain ⟨d, hd⟩ : ∃ d, pe x - j = d + 1 := ⟨pe x - j - 1, by omega⟩
        rw [hd] at hg ⊢
        rw [decide_eq_true (big_ge d (HB.out (by omega)))] at hg
        have k4 := fun w => run_float_arith (P := Tryz.prog) w .quo 26 .f64 (dwn (pm x) (d + 1)) 4611686018427387904 (dwn (pm x) d) (dwn_half HT.out.1 HT.out.2.1 HT.out.2.2.2 (by omega))
        have HD : Hd (pe x - j = d + 1) := ⟨hd⟩
        clear hd
        go_wp2
        go_round
        case rel => exact ⟨j + 1, by omega, by go_num, by have := HD.out; rw [show pe x - (j + 1) = d by omega]⟩
        case measure => simp [intOf]; omega
      · obtain hje : j = pe x := by omega
        rw [show pe x - j = 0 by omega] at hg ⊢
        rw [decide_eq_false (by have := HT.out; omega)] at hg
        have HJ : Hd (j = pe x) := ⟨hje⟩
        clear hje hlt hj
        go_wp2
        go_ret2
        exact ⟨by rw [← HJ.out]; rfl, rfl⟩
/-! floats at places -/
/-- the word at a place -/
def atP (n : Int) : Nat := if n < 0 then 2147483648 + n.natAbs else n.natAbs
theorem s_TwosDn (m n : Nat) (w : World) (hm : m ≠ 0) (h : m < 16777216) (hn : n ≤ 149) (hl : m.log2 ≤ 23) :
    Calls Tryz.prog 223 #[.float .f64 (dw false m 0), .int .i64 (-(n : Int))] w fun r w' => r = .returned (.float .f64 (dw false m (-(n : Int)))) ∧ w = w' := by
  have := s_TwosDown false m 0 n w hm (by omega) (by omega) (by omega) (by omega)
  rw [show (0 : Int) - n = -(n : Int) by omega] at this
  exact this
theorem s_TwosU (m n : Nat) (w : World) (hm : m ≠ 0) (h : m < 16777216) (hn : n ≤ 149) (hl : m.log2 ≤ 23) :
    Calls Tryz.prog 223 #[.float .f64 (dw false m 0), .int .i64 (n : Int)] w fun r w' => r = .returned (.float .f64 (dw false m (n : Int))) ∧ w = w' := by
  have := s_TwosUp false m 0 n w hm (by omega) (by omega) (by omega) (by omega)
  rw [show (0 : Int) + n = (n : Int) by omega] at this
  exact this
/-- 2^k of a number in the wide format, whatever k between -149 and 104 -/
theorem s_TwosI (m : Nat) (k : Int) (w : World) (hm : m ≠ 0) (h : m < 16777216) (h0 : -149 ≤ k) (h1 : k ≤ 149) (hl : m.log2 ≤ 23) :
    Calls Tryz.prog 223 #[.float .f64 (dw false m 0), .int .i64 k] w fun r w' => r = .returned (.float .f64 (dw false m k)) ∧ w = w' := by
  by_cases hk : 0 ≤ k
  · obtain ⟨n, rfl⟩ := Int.eq_ofNat_of_zero_le hk
    exact s_TwosU m n w hm h (by omega) hl
  · obtain ⟨n, hn⟩ := Int.eq_ofNat_of_zero_le (show 0 ≤ -k by omega)
    obtain rfl : k = -(n : Int) := by omega
    exact s_TwosDn m n w hm h (by omega) hl
theorem i64_and23 (x : Int) (h0 : 0 ≤ x) (h1 : x < 9223372036854775808) : bits .and .i64 x 8388607 = x % 8388608 :=
  bits_mask .i64 63 (by decide) (fun n a b => by rw [IntKind.wrap_i64]; omega) 23 (by decide) x h0 h1
/-- the single word of a magnitude and an exponent, through the wide format -/
theorem conv_place (n : Nat) (h : n < 2139095040) (h0 : n ≠ 0) : floatToFloatBits .f64 (dw false (mg 8388608 n) (-149 + (ex 8388608 n : Nat))) .f32 = some n := by
  have hm : mg 8388608 n ≠ 0 := fun k => h0 ((mg_zero _).1 k)
  have hlt := mg_lt n
  have he := ex_le h
  have hl : (mg 8388608 n).log2 ≤ 23 := by have := (Nat.log2_lt hm (k := 24)).2 (by simpa using hlt); omega
  have := d_toSingle false (r := drung (mg 8388608 n) (-149 + (ex 8388608 n : Nat))) (r32 := n) (drung_le hm (by omega) (by omega)) h (by
    rw [V_drung hm (by omega) (by omega), V_eq, Nat.mul_assoc, ← Nat.pow_add]
    congr 2; omega)
  exact this
set_option maxHeartbeats 2000000 in
theorem s_AtN (n : Nat) (w : World) (h : n ≤ 2139095040) :
    Calls Tryz.prog 238 #[.int .i64 (n : Int)] w fun e w' => e = .returned (.float .f32 n) ∧ w = w' := by
  have ka := i64_and23 (n : Int) (by omega) (by omega)
  have hn0 : ¬ (n : Int) < 0 := by omega
  have e1 : ((n : Int) % 8388608) = ((n % 8388608 : Nat) : Int) := by omega
  have e2 : ((n : Int) / 8388608) = ((n / 8388608 : Nat) : Int) := by omega
  have hd : n / 8388608 ≤ 255 := by omega
  have hf : n % 8388608 < 8388608 := by omega
  by_cases c1 : n / 8388608 = 255
  · have hn : n = 2139095040 := by omega
    subst hn
    clear e1 e2 hd hf c1 h ka hn0
    have ka : bits .and .i64 2139095040 8388607 = 0 := by decide
    go_enter Tryz.func238, Tryz.ntmps238
    go_wp2_with (go_at_call 166; refine (s_Huge _).mono ?_; rintro e w' ⟨rfl, rfl⟩)
    go_ret
    exact ⟨rfl, rfl⟩
  · have q1 : ((n : Int) / 8388608 == 255) = false := by simp; omega
    have HM : mg 8388608 n < 16777216 := mg_lt n
    by_cases c2 : n / 8388608 = 0
    · have q2 : ((n : Int) / 8388608 == 0) = true := by simp; omega
      have q3 : (n : Int) % 8388608 = (n : Int) := by omega
      by_cases c0 : n = 0
      · subst c0
        clear e1 e2 hd hf c1 c2 h ka hn0 q1 q2 q3 HM
        have ka : bits .and .i64 0 8388607 = 0 := by decide
        have k0 : floatOfInt .f64 0 = 0 := by decide
        have k1 := fun w => run_convert_float_float (P := Tryz.prog) w 26 22 .f64 .f32 0 0 (by kernel_rfl) Tryz.underlying22 (by kernel_rfl)
        have k3 : ∀ w, Calls Tryz.prog 223 #[.float .f64 0, .int .i64 (-149)] w fun e w' => e = .returned (.float .f64 0) ∧ w = w' := fun w => s_Twos0D 149 w (by decide)
        have K3 : Hd (∀ w, Calls Tryz.prog 223 #[.float .f64 0, .int .i64 (-149)] w fun e w' => e = .returned (.float .f64 0) ∧ w = w') := ⟨k3⟩
        clear k3
        go_enter Tryz.func238, Tryz.ntmps238
        go_wp2_with (go_at_call 223; refine (K3.out _).mono ?_; rintro e w' ⟨rfl, rfl⟩)
        go_ret
        exact ⟨rfl, rfl⟩
      · have hl : n.log2 ≤ 23 := by have := (Nat.log2_lt c0 (k := 24)).2 (by omega); omega
        have k0 : floatOfInt .f64 (n : Int) = dw false n 0 := by
          have := d_ofInt (n : Int) (by omega) (by simp; omega)
          rw [this]; simp [dw, hn0]
        have e3 : mg 8388608 n = n := by unfold mg; rw [if_pos (by omega)]
        have e4 : ex 8388608 n = 0 := by unfold ex; rw [if_pos (by omega)]
        have kc := conv_place n (by omega) c0
        rw [e3, e4, show (-149 + ((0 : Nat) : Int)) = -149 by decide] at kc
        have k1 := fun w => run_convert_float_float (P := Tryz.prog) w 26 22 .f64 .f32 (dw false n (-149)) n (by kernel_rfl) Tryz.underlying22 kc
        have HT : Hd (n ≠ 0 ∧ n < 16777216 ∧ n.log2 ≤ 23) := ⟨⟨c0, by omega, hl⟩⟩
        clear e1 e2 hd hf c1 c2 HM e3 e4 kc c0 hl
        go_enter Tryz.func238, Tryz.ntmps238
        go_wp2_with (go_at_call 223; refine (s_TwosI n (-149) _ HT.out.1 HT.out.2.1 (by decide) (by decide) HT.out.2.2).mono ?_; rintro e w' ⟨rfl, rfl⟩)
        go_ret
        exact ⟨rfl, rfl⟩
    · have q2 : ((n : Int) / 8388608 == 0) = false := by simp; omega
      have hm : mg 8388608 n ≠ 0 := fun k => by have := (mg_zero n).1 k; omega
      have hl : (mg 8388608 n).log2 ≤ 23 := by have := (Nat.log2_lt hm (k := 24)).2 (by simpa using HM); omega
      have e3 : (n : Int) % 8388608 + 8388608 = ((mg 8388608 n : Nat) : Int) := by unfold mg; rw [if_neg (by omega)]; omega
      have e4 : (n : Int) / 8388608 - 150 = -149 + ((ex 8388608 n : Nat) : Int) := by unfold ex; rw [if_neg (by omega)]; omega
      have k0 : floatOfInt .f64 ((n : Int) % 8388608 + 8388608) = dw false (mg 8388608 n) 0 := by
        rw [e3]
        have := d_ofInt ((mg 8388608 n : Nat) : Int) (by omega) (by simp; omega)
        rw [this]
        have : ¬ ((mg 8388608 n : Nat) : Int) < 0 := by omega
        simp [dw, this]
      have kc := conv_place n (by omega) (by omega)
      have he := ex_le (r := n) (by omega)
      have k1 := fun w => run_convert_float_float (P := Tryz.prog) w 26 22 .f64 .f32 (dw false (mg 8388608 n) (-149 + ((ex 8388608 n : Nat) : Int))) n (by kernel_rfl) Tryz.underlying22 kc
      rw [← e4] at k1
      have HT : Hd (mg 8388608 n ≠ 0 ∧ mg 8388608 n < 16777216 ∧ (mg 8388608 n).log2 ≤ 23) := ⟨⟨hm, HM, hl⟩⟩
      have HK : Hd (-149 ≤ (n : Int) / 8388608 - 150 ∧ (n : Int) / 8388608 - 150 ≤ 149) := ⟨by omega⟩
      clear e1 e2 c1 c2 HM e3 e4 kc hl hm he
      generalize mg 8388608 n = m at *
      go_enter Tryz.func238, Tryz.ntmps238
      go_wp2_with (go_at_call 223; refine (s_TwosI m _ _ HT.out.1 HT.out.2.1 HK.out.1 HK.out.2 HT.out.2.2).mono ?_; rintro e w' ⟨rfl, rfl⟩)
      go_ret
      exact ⟨rfl, rfl⟩
end Go.Proofs.YtflgjecpjaiecaaGreat
/- Contracts: places of floats, neighbours. -/
set_option linter.unusedVariables false
set_option linter.unusedSimpArgs false
namespace Go.Proofs.YtflgjecpjaiecaaGreat
open Go.RowKit Flt
set_option maxHeartbeats 2000000 in
theorem s_At (n : Int) (w : World) (h0 : -2139095040 ≤ n) (h1 : n ≤ 2139095040) :
    Calls Tryz.prog 238 #[.int .i64 n] w fun e w' => e = .returned (.float .f32 (atP n)) ∧ w = w' := by
  by_cases hn : 0 ≤ n
  · obtain ⟨k, rfl⟩ := Int.eq_ofNat_of_zero_le hn
    rw [show atP (k : Int) = k by unfold atP; rw [if_neg (by omega)]; simp]
    exact s_AtN k w (by omega)
  · obtain ⟨k, hk⟩ := Int.eq_ofNat_of_zero_le (show 0 ≤ -n by omega)
    obtain rfl : n = -(k : Int) := by omega
    have e : atP (-(k : Int)) = ng k := by unfold atP ng; rw [if_pos (by omega), if_pos (by omega)]; simp; omega
    rw [e]
    have hg := negFloat_eq k (by unfold W; omega)
    have HK : Hd (k ≤ 2139095040) := ⟨by omega⟩
    have hk0 : 0 < k := by omega
    clear e hn hk
    go_enter Tryz.func238, Tryz.ntmps238
    go_wp2_with (go_at_call 238; refine (s_AtN k _ HK.out).mono ?_; rintro e w' ⟨rfl, rfl⟩)
    go_ret
    exact ⟨rfl, rfl⟩
end Go.Proofs.YtflgjecpjaiecaaGreat
/- Contracts: places and neighbours in the program; widened intervals. -/
set_option linter.unusedVariables false
set_option linter.unusedSimpArgs false
namespace Go.Proofs.YtflgjecpjaiecaaGreat
open Go.RowKit Flt
theorem u32_or31 (y : Int) (h0 : 0 ≤ y) (h1 : y < 2147483648) : bits .or .u32 y 2147483648 = 2147483648 + y := by
  have h := bits_join .u32 32 (by decide) wraps_u32 31 2147483648 y (by decide) (by decide) (by decide) h0 h1 (by omega)
  obtain ⟨a, rfl⟩ := Int.eq_ofNat_of_zero_le h0
  have ha : a < 2 ^ 32 := by omega
  have k1 := (bits_nat .u32 32 (by decide) wraps_u32 2147483648 a (by decide) ha).2
  have k2 := (bits_nat .u32 32 (by decide) wraps_u32 a 2147483648 ha (by decide)).2
  rw [Nat.or_comm] at k1
  exact k2.trans (k1.symm.trans h)
set_option maxHeartbeats 2000000 in
theorem i_atPlace (n : Int) (w : World) (h0 : -2139095040 ≤ n) (h1 : n ≤ 2139095040) :
    Calls Tryz.prog 176 #[.int .i64 n] w fun e w' => e = .returned (.float .f32 (atP n)) ∧ w = w' := by
  have k := run_f32frombits
  by_cases hn : 0 ≤ n
  · obtain ⟨m, rfl⟩ := Int.eq_ofNat_of_zero_le hn
    rw [show atP (m : Int) = m by unfold atP; rw [if_neg (by omega)]; simp]
    have hm : (m : Int) ≤ 2139095040 := h1
    clear hn h0
    go_enter Tryz.func176, Tryz.ntmps176
    go_wp2
    go_ret
    exact ⟨by simp, rfl⟩
  · obtain ⟨m, hk⟩ := Int.eq_ofNat_of_zero_le (show 0 ≤ -n by omega)
    obtain rfl : n = -(m : Int) := by omega
    have ho := u32_or31 (m : Int) (by omega) (by omega)
    have e : atP (-(m : Int)) = (2147483648 + (m : Int)).toNat := by unfold atP; rw [if_pos (by omega)]; omega
    rw [e]
    have hm : (m : Int) ≤ 2139095040 := by omega
    have hm0 : (0 : Int) < m := by omega
    clear e hn h0 h1 hk
    go_enter Tryz.func176, Tryz.ntmps176
    go_wp2
    go_ret
    exact ⟨by simp; omega, rfl⟩
end Go.Proofs.YtflgjecpjaiecaaGreat
