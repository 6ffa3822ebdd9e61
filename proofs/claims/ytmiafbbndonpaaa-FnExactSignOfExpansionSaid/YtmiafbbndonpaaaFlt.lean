import Ieee.Arith
set_option linter.unusedVariables false
set_option linter.unusedSimpArgs false
namespace Go.Proofs.Ytmiafbbndonpaaa.Flt
open Ieee

/-! Words of a format, generic. B: rungs to a binade (a power of two, at least 4). -/
section generic
/-- Value of a rung, in units of the least place. -/
def V (B r : Nat) : Nat := if r < B then r else (B + r % B) * 2 ^ (r / B - 1)
/-- magnitude of a rung -/
def mg (B r : Nat) : Nat := if r < B then r else B + r % B
/-- exponent of a rung above the least -/
def ex (B r : Nat) : Nat := if r < B then 0 else r / B - 1
theorem V_eq (B r : Nat) : V B r = mg B r * 2 ^ ex B r := by unfold V mg ex; split <;> simp

theorem V_lt_succ (B r : Nat) (hB : 0 < B) : V B r < V B (r + 1) := by
  unfold V
  by_cases h : r + 1 < B
  · rw [if_pos (by omega), if_pos h]; omega
  · by_cases h2 : r < B
    · have e : r + 1 = B := by omega
      rw [if_pos h2, if_neg h, e, Nat.mod_self, Nat.div_self hB]; simp; omega
    · rw [if_neg h2, if_neg h]
      have hd : 1 ≤ r / B := (Nat.le_div_iff_mul_le hB).2 (by omega)
      have hm := Nat.mod_lt r hB
      have hr := Nat.div_add_mod r B
      by_cases h3 : r % B + 1 = B
      · have e : r + 1 = B * (r / B + 1) := by rw [Nat.mul_add]; omega
        have e1 : (r + 1) % B = 0 := by rw [e]; simp
        have e2 : (r + 1) / B = r / B + 1 := by rw [e, Nat.mul_div_cancel_left _ hB]
        rw [e1, e2]
        obtain ⟨k, hk⟩ : ∃ k, r / B = k + 1 := ⟨r / B - 1, by omega⟩
        rw [hk]
        simp only [Nat.add_sub_cancel]
        rw [Nat.pow_succ, Nat.mul_comm (2 ^ k) 2, ← Nat.mul_assoc]
        have : 0 < 2 ^ k := Nat.two_pow_pos _
        exact Nat.mul_lt_mul_of_pos_right (by omega) this
      · have e : r + 1 = r % B + 1 + B * (r / B) := by omega
        have e1 : (r + 1) % B = r % B + 1 := by rw [e, Nat.add_mul_mod_self_left, Nat.mod_eq_of_lt (by omega)]
        have e2 : (r + 1) / B = r / B := by rw [e, Nat.add_mul_div_left _ _ hB, Nat.div_eq_of_lt (by omega)]; omega
        rw [e1, e2]
        exact Nat.mul_lt_mul_of_pos_right (by omega) (Nat.two_pow_pos _)

theorem V_lt {B a b : Nat} (hB : 0 < B) (h : a < b) : V B a < V B b := by
  induction b with
  | zero => omega
  | succ b ih =>
    rcases Nat.lt_or_eq_of_le (Nat.lt_succ_iff.1 h) with h' | h'
    · exact Nat.lt_trans (ih h') (V_lt_succ B b hB)
    · subst h'; exact V_lt_succ B a hB
theorem V_lt_iff {B a b : Nat} (hB : 0 < B) : V B a < V B b ↔ a < b := by
  constructor
  · intro h
    by_cases e : a < b
    · exact e
    · rcases Nat.lt_or_eq_of_le (Nat.le_of_not_lt e) with h' | h'
      · have := V_lt hB h'; omega
      · subst h'; omega
  · exact V_lt hB
theorem V_inj {B a b : Nat} (hB : 0 < B) (h : V B a = V B b) : a = b := by
  rcases Nat.lt_trichotomy a b with h' | h' | h'
  · have := V_lt hB h'; omega
  · exact h'
  · have := V_lt hB h'; omega

/-- the rung of a kept significand at an exponent -/
theorem V_rung {B : Nat} (hB : 0 < B) (e kept : Nat) (h2 : kept < 2 * B) (h1 : e = 0 ∨ B ≤ kept) : V B (e * B + kept) = kept * 2 ^ e := by
  by_cases hk : kept < B
  · have : e = 0 := by omega
    subst this
    simp [V, hk]
  · have hge : ¬ (e * B + kept < B) := by have := Nat.zero_le (e * B); omega
    unfold V
    rw [if_neg hge]
    have e0 : e * B + kept = (kept - B) + B * (e + 1) := by rw [Nat.mul_add, Nat.mul_comm]; omega
    have e1 : (e * B + kept) % B = kept - B := by rw [e0, Nat.add_mul_mod_self_left, Nat.mod_eq_of_lt (by omega)]
    have e2 : (e * B + kept) / B = e + 1 := by rw [e0, Nat.add_mul_div_left _ _ hB, Nat.div_eq_of_lt (by omega)]; omega
    rw [e1, e2]
    simp only [Nat.add_sub_cancel]
    congr 1; omega

/-- a kept significand at an exponent: log2 -/
theorem log2_mul_pow (m k : Nat) (h : m ≠ 0) : (m * 2 ^ k).log2 = m.log2 + k := by
  induction k with
  | zero => simp
  | succ k ih =>
    rw [Nat.pow_succ, ← Nat.mul_assoc, Nat.mul_comm _ 2, Nat.log2_two_mul (by have := Nat.two_pow_pos k; intro hh; rcases Nat.mul_eq_zero.1 hh with h1 | h1 <;> omega), ih]; omega

theorem cut_exact (neg : Bool) (k d : Nat) (hk : k ≠ 0) : Toward.even.cut neg (k * 2 ^ d) d = k := by
  unfold Toward.cut
  have hl := log2_mul_pow k d hk
  have hm : min d ((k * 2 ^ d).log2 + 2) = d := by omega
  have hp : 0 < 2 ^ d := Nat.two_pow_pos d
  simp only [hm, Nat.shiftLeft_eq, Nat.one_mul, Nat.mul_div_cancel _ hp, Nat.mul_mod_left, Nat.mul_zero]
  have h1 : decide (2 ^ d < 0) = false := by simp
  have h2 : (2 ^ d == 0) = false := by simp
  simp [h2]

/-- Writing a number that the format has. 'mag * 2^place' is 'V r' units. -/
theorem nearest_exact (f : Format) (neg : Bool) (mag : Nat) (place : Int) (r : Nat) (hr : r ≤ f.infRung) (hf : f.binade = 2 ^ f.fractionBits)
    (h : ∃ c : Nat, 0 ≤ place - f.leastPlace + c ∧ mag * 2 ^ (place - f.leastPlace + c).toNat = V f.binade r * 2 ^ c) : f.nearest neg mag place = f.word neg r := by
  have hB : 0 < f.binade := by rw [hf]; exact Nat.two_pow_pos _
  obtain ⟨c, hc0, hc⟩ := h
  unfold Format.nearest
  by_cases hm : mag = 0
  · rw [if_pos hm]
    subst hm
    have : V f.binade r = 0 := by
      rw [Nat.zero_mul] at hc
      rcases Nat.mul_eq_zero.1 hc.symm with h1 | h1
      · exact h1
      · have := Nat.two_pow_pos c; omega
    have h0 : V f.binade 0 = 0 := by simp [V, hB]
    have : r = 0 := V_inj hB (by rw [this, h0])
    rw [this]
  · rw [if_neg hm]
    -- the kept significand and its exponent, as the rung has them
    have hV := V_eq f.binade r
    have hg : mg f.binade r ≠ 0 := by
      intro h0
      rw [hV, h0, Nat.zero_mul, Nat.zero_mul] at hc
      rcases Nat.mul_eq_zero.1 hc with h1 | h1
      · exact hm h1
      · have := Nat.two_pow_pos (place - f.leastPlace + c).toNat; omega
    have hl : mag.log2 + (place - f.leastPlace + c).toNat = (mg f.binade r).log2 + ex f.binade r + c := by
      have := congrArg Nat.log2 hc
      rw [log2_mul_pow _ _ hm, hV, Nat.mul_assoc, ← Nat.pow_add, log2_mul_pow _ _ hg] at this
      omega
    -- last
    have hlast : max (place + mag.log2 - f.fractionBits) f.leastPlace = f.leastPlace + (ex f.binade r : Nat) := by
      by_cases hrB : r < f.binade
      · have e1 : ex f.binade r = 0 := by simp [ex, hrB]
        have e2 : mg f.binade r = r := by simp [mg, hrB]
        rw [e2] at hl hg
        have : r.log2 < f.fractionBits := (Nat.log2_lt hg).2 (by rw [← hf]; exact hrB)
        rw [e1] at hl ⊢
        omega
      · have e2 : mg f.binade r = f.binade + r % f.binade := by simp [mg, hrB]
        have hmod := Nat.mod_lt r hB
        have : (mg f.binade r).log2 = f.fractionBits := by
          rw [Nat.log2_eq_iff hg, e2, Nat.pow_succ, ← hf]; omega
        rw [this] at hl
        omega
    dsimp only
    rw [hlast]
    have hkept : Toward.even.cut neg (mag <<< (place - (f.leastPlace + (ex f.binade r : Nat))).toNat) (f.leastPlace + (ex f.binade r : Nat) - place).toNat = mg f.binade r := by
      rw [Nat.shiftLeft_eq]
      by_cases hp : f.leastPlace + (ex f.binade r : Nat) ≤ place
      · have hd : (f.leastPlace + (ex f.binade r : Nat) - place).toNat = 0 := by omega
        rw [hd]
        have key : mag * 2 ^ (place - (f.leastPlace + (ex f.binade r : Nat))).toNat = mg f.binade r := by
          have e : (place - f.leastPlace + c).toNat = (place - (f.leastPlace + (ex f.binade r : Nat))).toNat + (ex f.binade r + c) := by omega
          rw [e, Nat.pow_add, ← Nat.mul_assoc, hV, Nat.mul_assoc (mg _ _), ← Nat.pow_add] at hc
          exact Nat.mul_right_cancel (Nat.two_pow_pos _) hc
        have := cut_exact neg (mg f.binade r) 0 hg
        rw [key]; simpa using this
      · have hd : (place - (f.leastPlace + (ex f.binade r : Nat))).toNat = 0 := by omega
        rw [hd, Nat.pow_zero, Nat.mul_one]
        have key : mag = mg f.binade r * 2 ^ (f.leastPlace + (ex f.binade r : Nat) - place).toNat := by
          have e : ex f.binade r + c = (f.leastPlace + (ex f.binade r : Nat) - place).toNat + (place - f.leastPlace + c).toNat := by omega
          rw [hV, Nat.mul_assoc, ← Nat.pow_add, e, Nat.pow_add, ← Nat.mul_assoc] at hc
          exact Nat.mul_right_cancel (Nat.two_pow_pos _) hc
        have hcut := cut_exact neg (mg f.binade r) (f.leastPlace + (ex f.binade r : Nat) - place).toNat hg
        rw [← key] at hcut
        exact hcut
    rw [hkept]
    have e3 : (f.leastPlace + (ex f.binade r : Nat) - f.leastPlace).toNat = ex f.binade r := by omega
    rw [e3]
    have e4 : ex f.binade r * f.binade + mg f.binade r = r := by
      unfold ex mg
      by_cases hrB : r < f.binade
      · simp [hrB]
      · rw [if_neg hrB, if_neg hrB]
        have hd : 1 ≤ r / f.binade := (Nat.le_div_iff_mul_le hB).2 (by omega)
        have := Nat.div_add_mod r f.binade
        obtain ⟨k, hk⟩ : ∃ k, r / f.binade = k + 1 := ⟨r / f.binade - 1, by omega⟩
        rw [hk] at this ⊢
        simp only [Nat.add_sub_cancel]
        rw [Nat.mul_add] at this
        rw [Nat.mul_comm]; omega
    rw [e4, Nat.min_eq_left hr]
end generic
section read
variable (f : Format)
/-- the sign bit as the model reads it -/
def sgf (x : Nat) : Bool := x / f.signWeight % 2 == 1
theorem read_nan {x : Nat} (h1 : f.binade ≤ f.infRung) (h : f.infRung < x % f.signWeight) : f.read x = .nan (sgf f x) (x % f.signWeight - f.infRung) := by
  unfold Format.read sgf
  dsimp only
  rw [if_neg (by omega), if_neg (by omega), if_neg (by omega)]
theorem read_inf {x : Nat} (_h1 : f.binade ≤ f.infRung) (h : x % f.signWeight = f.infRung) : f.read x = .infinity (sgf f x) := by
  unfold Format.read sgf
  dsimp only
  rw [if_neg (by omega), if_neg (by omega), if_pos h]
theorem read_fin {x : Nat} (h1 : f.binade ≤ f.infRung) (h : x % f.signWeight < f.infRung) :
    f.read x = .number (sgf f x) (mg f.binade (x % f.signWeight)) (f.leastPlace + (ex f.binade (x % f.signWeight) : Nat)) := by
  unfold Format.read sgf mg ex
  dsimp only
  by_cases hb : x % f.signWeight < f.binade
  · rw [if_pos hb, if_pos hb, if_pos hb]; simp
  · rw [if_neg hb, if_pos h, if_neg hb, if_neg hb]

/-- signed -/
def sv (s : Bool) (v : Nat) : Int := if s then -(v : Int) else v
theorem sv_mul (s : Bool) (v p : Nat) : sv s (v * p) = sv s v * p := by unfold sv; split <;> simp [Int.neg_mul]
theorem signed_eq (s : Bool) (m up : Nat) : signed s m up = sv s (m * 2 ^ up) := by
  unfold signed sv; rw [Nat.shiftLeft_eq]

theorem compare_int_mul (a b : Int) (p : Nat) (hp : 0 < p) : compare (a * p) (b * p) = compare a b := by
  have hp' : (0 : Int) < p := by omega
  rcases Int.lt_trichotomy a b with h | h | h
  · have := Int.mul_lt_mul_of_pos_right h hp'
    rw [Std.compare_eq_lt.2 h, Std.compare_eq_lt.2 this]
  · subst h; simp
  · have := Int.mul_lt_mul_of_pos_right h hp'
    rw [Std.compare_eq_gt.2 h, Std.compare_eq_gt.2 this]

theorem compare_sv_V {B : Nat} (hB : 0 < B) (s t : Bool) (a b : Nat) : compare (sv s (V B a)) (sv t (V B b)) = compare (sv s a) (sv t b) := by
  have h0 : V B 0 = 0 := by simp [V, hB]
  have p : ∀ {x y : Nat}, x < y → V B x < V B y := fun h => V_lt hB h
  have q : ∀ x : Nat, 0 < x → 0 < V B x := fun x h => by have := p h; omega
  have e : ∀ x : Nat, x = 0 ∨ 0 < V B x ∧ 0 < x := fun x => by
    rcases Nat.eq_zero_or_pos x with h | h
    · exact .inl h
    · exact .inr ⟨q x h, h⟩
  have tri : (a < b ∧ V B a < V B b) ∨ (a = b ∧ V B a = V B b) ∨ (b < a ∧ V B b < V B a) := by
    rcases Nat.lt_trichotomy a b with h | h | h
    · exact .inl ⟨h, p h⟩
    · exact .inr (.inl ⟨h, by rw [h]⟩)
    · exact .inr (.inr ⟨h, p h⟩)
  have key : (sv s (V B a) < sv t (V B b) ↔ sv s a < sv t b) ∧ (sv s (V B a) = sv t (V B b) ↔ sv s a = sv t b) := by
    have ea := e a
    have eb := e b
    have za : a = 0 → V B a = 0 := fun h => by rw [h, h0]
    have zb : b = 0 → V B b = 0 := fun h => by rw [h, h0]
    generalize V B a = A at *
    generalize V B b = C at *
    unfold sv
    constructor <;> (cases s <;> cases t <;> simp <;> omega)
  rcases Int.lt_trichotomy (sv s a) (sv t b) with h | h | h
  · rw [Std.compare_eq_lt.2 h, Std.compare_eq_lt.2 (key.1.2 h)]
  · rw [h, key.2.2 h]; simp
  · have h1 : ¬ sv s a < sv t b := by omega
    have h2 : ¬ sv s a = sv t b := by omega
    have h3 : ¬ sv s (V B a) < sv t (V B b) := fun h => h1 (key.1.1 h)
    have h4 : ¬ sv s (V B a) = sv t (V B b) := fun h => h2 (key.2.1 h)
    rw [Std.compare_eq_gt.2 h, Std.compare_eq_gt.2 (by omega)]

/-- the value of a finite number, at whatever base below -/
theorem signed_V {B : Nat} (s : Bool) (r : Nat) (lp base : Int) (hb : base ≤ lp) : signed s (mg B r) (lp + (ex B r : Nat) - base).toNat = sv s (V B r) * ((2 ^ (lp - base).toNat : Nat) : Int) := by
  rw [signed_eq, V_eq, ← sv_mul, Nat.mul_assoc, ← Nat.pow_add]
  congr 3; omega

theorem order_eq {x y : Nat} (hB : 0 < f.binade) (h1 : f.binade ≤ f.infRung) (hx : x % f.signWeight ≤ f.infRung) (hy : y % f.signWeight ≤ f.infRung) :
    f.order x y = some (compare (sv (sgf f x) (x % f.signWeight)) (sv (sgf f y) (y % f.signWeight))) := by
  unfold Format.order
  rcases Nat.lt_or_eq_of_le hx with hx' | hx' <;> rcases Nat.lt_or_eq_of_le hy with hy' | hy'
  · rw [read_fin f h1 hx', read_fin f h1 hy']
    simp only [Datum.order]
    rw [← compare_sv_V hB]
    generalize x % f.signWeight = a
    generalize y % f.signWeight = b
    have hb : min (f.leastPlace + (ex f.binade a : Nat)) (f.leastPlace + (ex f.binade b : Nat)) = f.leastPlace + ((min (ex f.binade a) (ex f.binade b) : Nat) : Int) := by omega
    rw [hb]
    -- at the base 'least place' both sides gain one factor
    rw [← compare_int_mul _ _ (2 ^ (min (ex f.binade a) (ex f.binade b))) (Nat.two_pow_pos _)]
    congr 1
    rw [signed_eq, signed_eq, ← sv_mul, ← sv_mul, V_eq, V_eq, Nat.mul_assoc, Nat.mul_assoc, ← Nat.pow_add, ← Nat.pow_add]
    congr 4 <;> omega
  · rw [read_fin f h1 hx', read_inf f h1 hy']
    simp only [Datum.order]
    rw [hy']
    congr 1
    cases h : sgf f y <;> cases h' : sgf f x <;> simp only [sv, Bool.false_eq_true, if_true, if_false] <;> symm <;> first | (apply Std.compare_eq_lt.2; omega) | (apply Std.compare_eq_gt.2; omega)
  · rw [read_inf f h1 hx', read_fin f h1 hy']
    simp only [Datum.order]
    rw [hx']
    congr 1
    cases h : sgf f y <;> cases h' : sgf f x <;> simp only [sv, Bool.false_eq_true, if_true, if_false] <;> symm <;> first | (apply Std.compare_eq_lt.2; omega) | (apply Std.compare_eq_gt.2; omega)
  · rw [read_inf f h1 hx', read_inf f h1 hy']
    simp only [Datum.order]
    rw [hx', hy']
    congr 1
    have : 0 < f.infRung := by omega
    cases h : sgf f y <;> cases h' : sgf f x <;> simp only [sv, Bool.false_eq_true, if_true, if_false] <;> symm
    · simp
    · rw [Std.compare_eq_lt.2 (by omega)]; rfl
    · rw [Std.compare_eq_gt.2 (by omega)]; rfl
    · simp

theorem order_nan_left {x : Nat} (y : Nat) (h1 : f.binade ≤ f.infRung) (h : f.infRung < x % f.signWeight) : f.order x y = none := by
  unfold Format.order; rw [read_nan f h1 h]; rfl
theorem order_nan_right (x : Nat) {y : Nat} (h1 : f.binade ≤ f.infRung) (h : f.infRung < y % f.signWeight) : f.order x y = none := by
  unfold Format.order; rw [read_nan f h1 h]; cases f.read x <;> rfl
end read
end Go.Proofs.Ytmiafbbndonpaaa.Flt
