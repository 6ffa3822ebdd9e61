/- Plain facts: differences, products, shifts and lengths of numbers as lists of digits. -/
import Derived.Test.YtmiafbbndonpaaaNum
set_option linter.unusedVariables false
set_option linter.unusedSimpArgs false
namespace Go.Proofs.Ytmiafbbndonpaaa.Num
theorem take_set_succ' (zs : List Int) (k : Nat) (x : Int) (h : k < zs.length) : (zs.set k x).take (k + 1) = zs.take k ++ [x] := by
  rw [List.take_succ_eq_append_getElem (by simpa using h), List.take_set_of_le (Nat.le_refl k)]; simp
/-- what a round of a difference leaves -/
def SubR (B : Int) (xs ys : List Int) (N k : Nat) (b : Int) (zs : List Int) : Prop :=
  zs.length = N ∧ Rng B (zs.take k) ∧ val B (zs.take k) - B ^ k * b = val B (xs.take k) - val B (ys.take k)
theorem SubR.start (B : Int) (xs ys : List Int) (N : Nat) : SubR B xs ys N 0 0 (List.replicate N 0) := ⟨by simp, by simp [Rng.nil], by simp [val]⟩
theorem SubR.next {B : Int} {xs ys zs : List Int} {N k : Nat} {b b' t : Int} (h : SubR B xs ys N k b zs) (hk : k < N) (h0 : 0 ≤ t) (h1 : t < B) (ht : t - B * b' = xs.getD k 0 - b - ys.getD k 0) : SubR B xs ys N (k + 1) b' (zs.set k t) := by
  obtain ⟨e1, e2, e3⟩ := h
  refine ⟨by simpa using e1, ?_, ?_⟩
  · rw [take_set_succ' _ _ _ (by omega)]; exact e2.snoc h0 h1
  · rw [take_set_succ' _ _ _ (by omega), val_snoc, List.length_take, Nat.min_eq_left (by omega), val_take_succ, val_take_succ, Int.pow_succ, Int.mul_assoc]
    generalize B ^ k = p at *
    have e := congrArg (p * ·) ht
    simp only [Int.mul_sub] at e
    omega
theorem SubR.done {B : Int} {xs ys zs : List Int} {N : Nat} {b : Int} (hB : 1 < B) (h : SubR B xs ys N N b zs) (hx : xs.length = N) (hy : ys.length ≤ N) (hle : val B ys ≤ val B xs) (hb : b = 0 ∨ b = 1) :
    zs.length = N ∧ Rng B zs ∧ val B zs = val B xs - val B ys := by
  obtain ⟨e1, e2, e3⟩ := h
  rw [List.take_of_length_le (by omega), List.take_of_length_le (by omega), List.take_of_length_le (by omega)] at e3
  rw [List.take_of_length_le (by omega)] at e2
  have h1 := val_lt (by omega) e2
  rw [e1] at h1
  rcases hb with rfl | rfl
  · exact ⟨e1, e2, by simpa using e3⟩
  · simp only [Int.mul_one] at e3
    omega
theorem getD_set (zs : List Int) (i j : Nat) (x : Int) : (zs.set i x).getD j 0 = if i = j ∧ j < zs.length then x else zs.getD j 0 := by
  rw [List.getD_eq_getElem?_getD, List.getD_eq_getElem?_getD, List.getElem?_set]
  by_cases h : i = j
  · subst h
    by_cases h2 : i < zs.length
    · simp [h2]
    · simp [h2]
  · simp [h]
theorem getD_far' {xs : List Int} {k : Nat} (h : xs.length ≤ k) : xs.getD k 0 = 0 := by rw [List.getD_eq_getElem?_getD, List.getElem?_eq_none h]; rfl
theorem getD_rep (n j : Nat) : (List.replicate n (0 : Int)).getD j 0 = 0 := by
  rw [List.getD_eq_getElem?_getD, List.getElem?_replicate]; split <;> rfl
/-- products: the rounds over the first digits -/
def MulO (B : Int) (xs ys : List Int) (N i : Nat) (zs : List Int) : Prop :=
  zs.length = N ∧ Rng B zs ∧ (∀ j, i + ys.length ≤ j → zs.getD j 0 = 0) ∧ val B zs = val B (xs.take i) * val B ys
/-- products: the rounds over the second digits -/
def MulR (B : Int) (xs ys : List Int) (N i k : Nat) (c : Int) (zs : List Int) : Prop :=
  zs.length = N ∧ Rng B zs ∧ (∀ j, i + ys.length ≤ j → zs.getD j 0 = 0) ∧ val B zs + B ^ (i + k) * c = val B (xs.take i) * val B ys + B ^ i * (xs.getD i 0 * val B (ys.take k))
theorem MulO.start {B : Int} (hB : 0 < B) (xs ys : List Int) (N : Nat) : MulO B xs ys N 0 (List.replicate N 0) :=
  ⟨by simp, Rng.replicate hB N, fun j _ => getD_rep N j, by rw [val_replicate]; simp [val]⟩
theorem MulO.inner {B : Int} {xs ys zs : List Int} {N i : Nat} (h : MulO B xs ys N i zs) : MulR B xs ys N i 0 0 zs := by
  obtain ⟨e1, e2, e3, e4⟩ := h
  exact ⟨e1, e2, e3, by rw [e4]; simp [val]⟩
theorem MulR.next {B : Int} {xs ys zs : List Int} {N i k : Nat} {c t c' : Int} (hB : 0 < B) (h : MulR B xs ys N i k c zs) (hk : k < ys.length) (hN : i + k < N)
    (ht : t = (c + xs.getD i 0 * ys.getD k 0 + zs.getD (i + k) 0) % B) (hc : c' = (c + xs.getD i 0 * ys.getD k 0 + zs.getD (i + k) 0) / B) : MulR B xs ys N i (k + 1) c' (zs.set (i + k) t) := by
  obtain ⟨e1, e2, e3, e4⟩ := h
  have e := Int.mul_ediv_add_emod (c + xs.getD i 0 * ys.getD k 0 + zs.getD (i + k) 0) B
  rw [← ht, ← hc] at e
  have h0 : 0 ≤ t := by rw [ht]; exact Int.emod_nonneg _ (by omega)
  have h1 : t < B := by rw [ht]; exact Int.emod_lt_of_pos _ hB
  refine ⟨by simpa using e1, e2.set h0 h1 _, fun j hj => ?_, ?_⟩
  · rw [getD_set, if_neg (by omega)]; exact e3 j hj
  · rw [val_set _ _ _ _ (by omega), val_take_succ, ← Nat.add_assoc, Int.pow_succ B (i + k)]
    have e5 : B ^ i * (xs.getD i 0 * (val B (ys.take k) + B ^ k * ys.getD k 0)) = B ^ i * (xs.getD i 0 * val B (ys.take k)) + B ^ (i + k) * (xs.getD i 0 * ys.getD k 0) := by
      rw [Int.mul_add, Int.mul_add, Int.pow_add, Int.mul_assoc (B ^ i) (B ^ k), Int.mul_left_comm (xs.getD i 0) (B ^ k)]
    rw [e5]
    generalize B ^ i * (xs.getD i 0 * val B (ys.take k)) = u at *
    generalize val B (xs.take i) * val B ys = v at *
    generalize xs.getD i 0 * ys.getD k 0 = xy at *
    generalize zs.getD (i + k) 0 = z at *
    generalize B ^ (i + k) = p at *
    have e6 := congrArg (p * ·) e
    simp only [Int.mul_add] at e6
    rw [Int.mul_assoc, Int.mul_sub]
    omega
theorem MulR.done {B : Int} {xs ys zs : List Int} {N i : Nat} {c : Int} (hB : 0 < B) (h : MulR B xs ys N i ys.length c zs) (hN : i + ys.length < N) (h0 : 0 ≤ c) (h1 : c < B) : MulO B xs ys N (i + 1) (zs.set (i + ys.length) c) := by
  obtain ⟨e1, e2, e3, e4⟩ := h
  refine ⟨by simpa using e1, e2.set h0 h1 _, fun j hj => ?_, ?_⟩
  · rw [getD_set, if_neg (by omega)]; exact e3 j (by omega)
  · rw [val_set _ _ _ _ (by omega), e3 _ (Nat.le_refl _), val_take_succ, Int.sub_zero, e4, List.take_of_length_le (Nat.le_refl _), Int.add_mul, Int.mul_assoc]
theorem mul_carry {B c x y z : Int} (hB : 0 < B) (c0 : 0 ≤ c) (c1 : c < B) (x0 : 0 ≤ x) (x1 : x < B) (y0 : 0 ≤ y) (y1 : y < B) (z0 : 0 ≤ z) (z1 : z < B) :
    0 ≤ x * y ∧ x * y ≤ (B - 1) * (B - 1) ∧ 0 ≤ (c + x * y + z) / B ∧ (c + x * y + z) / B < B := by
  have h1 : 0 ≤ x * y := Int.mul_nonneg x0 y0
  have h2 : x * y ≤ (B - 1) * y := Int.mul_le_mul_of_nonneg_right (by omega) y0
  have h3 : (B - 1) * y ≤ (B - 1) * (B - 1) := Int.mul_le_mul_of_nonneg_left (by omega) (by omega)
  have h4 : (B - 1) * (B - 1) = B * B - 2 * B + 1 := by rw [Int.sub_mul, Int.mul_sub]; omega
  refine ⟨h1, by omega, Int.ediv_nonneg (by omega) (by omega), Int.ediv_lt_of_lt_mul hB (by omega)⟩
theorem MulO.all {B : Int} {xs ys zs : List Int} {N : Nat} (h : MulO B xs ys N xs.length zs) : zs.length = N ∧ Rng B zs ∧ val B zs = val B xs * val B ys :=
  ⟨h.1, h.2.1, by rw [h.2.2.2, List.take_of_length_le (Nat.le_refl _)]⟩
/-- shifts to the left by q digits and r bits -/
def ShlR (B : Int) (xs : List Int) (r q N i : Nat) (zs : List Int) : Prop :=
  zs.length = N ∧ Rng B zs ∧ zs.getD (q + i) 0 < 2 ^ r ∧ (∀ j, q + i < j → zs.getD j 0 = 0) ∧ val B zs = B ^ q * 2 ^ r * val B (xs.take i)
theorem ShlR.start {B : Int} (hB : 0 < B) (xs : List Int) (r q N : Nat) : ShlR B xs r q N 0 (List.replicate N 0) :=
  ⟨by simp, Rng.replicate hB N, by rw [getD_rep]; exact pow_pos' (by decide) r, fun j _ => getD_rep N j, by rw [val_replicate]; simp [val]⟩
theorem ShlR.next {B : Int} {xs zs : List Int} {r q N i : Nat} {t u : Int} (hB : 0 < B) (h : ShlR B xs r q N i zs) (hN : q + i + 1 < N)
    (ht0 : 0 ≤ t) (ht1 : t < B) (hu0 : 0 ≤ u) (hu1 : u < 2 ^ r) (hu2 : u < B) (e : t + B * u = zs.getD (q + i) 0 + xs.getD i 0 * 2 ^ r) : ShlR B xs r q N (i + 1) ((zs.set (q + i) t).set (q + i + 1) u) := by
  obtain ⟨e1, e2, e3, e4, e5⟩ := h
  refine ⟨by simpa using e1, (e2.set ht0 ht1 _).set hu0 hu2 _, ?_, fun j hj => ?_, ?_⟩
  · rw [getD_set, if_pos ⟨by omega, by simp; omega⟩]; exact hu1
  · rw [getD_set, if_neg (by omega), getD_set, if_neg (by omega)]; exact e4 j (by omega)
  · rw [val_set _ _ _ _ (by simp; omega), val_set _ _ _ _ (by omega), getD_set, if_neg (by omega), e4 (q + i + 1) (by omega), e5, val_take_succ, Int.pow_succ, Int.mul_add]
    have e6 : B ^ q * 2 ^ r * (B ^ i * xs.getD i 0) = B ^ (q + i) * (xs.getD i 0 * 2 ^ r) := by
      rw [Int.pow_add, Int.mul_assoc, Int.mul_assoc]
      congr 1
      rw [Int.mul_comm, Int.mul_assoc]
    rw [e6]
    generalize B ^ (q + i) = p at *
    have e7 := congrArg (p * ·) e
    simp only [Int.mul_add] at e7
    rw [Int.sub_zero, Int.mul_assoc p B u, Int.mul_sub]
    omega
theorem ShlR.done {B : Int} {xs zs : List Int} {r q N p k : Nat} (hB : B = 2 ^ p) (h : ShlR B xs r q N xs.length zs) (hk : k = p * q + r) : zs.length = N ∧ Rng B zs ∧ val B zs = val B xs * 2 ^ k := by
  obtain ⟨e1, e2, e3, e4, e5⟩ := h
  refine ⟨e1, e2, ?_⟩
  rw [e5, List.take_of_length_le (Nat.le_refl _), hk, Int.pow_add, Int.pow_mul, ← hB, Int.mul_comm]
/-- disjoint bits -/
theorem or_add {a b r : Nat} (h : b < 2 ^ r) : (a * 2 ^ r) ||| b = a * 2 ^ r + b := by
  rw [Nat.mul_comm]; exact (Nat.two_pow_add_eq_or_of_lt h a).symm
/-- lengths in bits -/
def bln (n : Nat) : Nat := if n = 0 then 0 else n.log2 + 1
theorem bln_spec {n : Nat} (h : n ≠ 0) : 2 ^ (bln n - 1) ≤ n ∧ n < 2 ^ bln n ∧ 1 ≤ bln n := by
  unfold bln; rw [if_neg h]
  have := (Nat.log2_eq_iff h).1 (rfl : n.log2 = n.log2)
  simp only [Nat.add_sub_cancel]; omega
theorem bln_lt (n : Nat) : n < 2 ^ bln n := by
  by_cases h : n = 0
  · subst h; exact Nat.two_pow_pos _
  · exact (bln_spec h).2.1
theorem bln_zero : bln 0 = 0 := rfl
theorem bln_eq {n k : Nat} (h1 : 2 ^ k ≤ n) (h2 : n < 2 ^ (k + 1)) : bln n = k + 1 := by
  have h : n ≠ 0 := by have := Nat.two_pow_pos k; omega
  unfold bln; rw [if_neg h, (Nat.log2_eq_iff h).2 ⟨h1, h2⟩]
theorem bln_le {n k : Nat} (h : n < 2 ^ k) : bln n ≤ k := by
  by_cases h0 : n = 0
  · subst h0; simp [bln]
  · have h1 := (bln_spec h0)
    rcases Nat.lt_or_ge k (bln n) with h2 | h2
    · have := Nat.pow_le_pow_right (show 0 < 2 by decide) (show k ≤ bln n - 1 by omega); omega
    · exact h2
theorem le_bln {n k : Nat} (h : 2 ^ k ≤ n) : k + 1 ≤ bln n := by
  have := bln_lt n
  rcases Nat.lt_or_ge k (bln n) with h2 | h2
  · exact h2
  · have := Nat.pow_le_pow_right (show 0 < 2 by decide) h2; omega
theorem bln_mul {n : Nat} (k : Nat) (h : n ≠ 0) : bln (n * 2 ^ k) = bln n + k := by
  obtain ⟨h1, h2, h3⟩ := bln_spec h
  have hp := Nat.two_pow_pos k
  have e : bln n + k = (bln n - 1 + k) + 1 := by omega
  rw [e]
  refine bln_eq ?_ ?_
  · rw [Nat.pow_add]; exact Nat.mul_le_mul_right _ h1
  · rw [show bln n - 1 + k + 1 = bln n + k by omega, Nat.pow_add]; exact Nat.mul_lt_mul_of_pos_right h2 hp
theorem bln_mono {a b : Nat} (h : a ≤ b) : bln a ≤ bln b := bln_le (Nat.lt_of_le_of_lt h (bln_lt b))
theorem bln_pos {n : Nat} : 0 < bln n ↔ n ≠ 0 := by
  constructor
  · rintro h rfl; simp [bln] at h
  · intro h; have := (bln_spec h).2.2; omega
/-- the length of canonical digits -/
theorem Canon.bln {B : Int} {p : Nat} (hp : 0 < p) (hB : B = 2 ^ p) {xs : List Int} (h : Canon B xs) (hx : xs ≠ []) : bln (val B xs).natAbs = p * (xs.length - 1) + bln (xs.getD (xs.length - 1) 0).natAbs ∧ xs.getD (xs.length - 1) 0 ≠ 0 := by
  have hB0 : 0 < B := by rw [hB]; exact pow_pos' (by decide) p
  obtain ⟨n, hn⟩ : ∃ n, xs.length = n + 1 := ⟨xs.length - 1, by have := List.length_pos_iff.2 hx; omega⟩
  have e := val_take_succ B xs n
  rw [List.take_of_length_le (by omega)] at e
  have hl : xs.getD n 0 = xs.getLast hx := by
    rw [List.getLast_eq_getElem, List.getD_eq_getElem?_getD, List.getElem?_eq_getElem (by omega)]
    simp only [Option.getD_some]; congr 1; omega
  have h2 := h.2 hx
  have h4 := (h.1.getD hB0 n)
  have h5 := val_nonneg hB0 (h.1.take n)
  have h6 := val_lt hB0 (h.1.take n)
  rw [List.length_take, Nat.min_eq_left (by omega)] at h6
  rw [hn]; simp only [Nat.add_sub_cancel]
  have h7 : xs.getD n 0 ≠ 0 := by rw [hl]; exact h2
  refine ⟨?_, h7⟩
  have eB : B ^ n = ((2 ^ (p * n) : Nat) : Int) := by rw [hB, ← Int.pow_mul]; push_cast; rfl
  obtain ⟨t, ht⟩ : ∃ t : Nat, xs.getD n 0 = (t : Int) := ⟨(xs.getD n 0).toNat, by omega⟩
  obtain ⟨l, hl'⟩ : ∃ l : Nat, val B (xs.take n) = (l : Int) := ⟨(val B (xs.take n)).toNat, by omega⟩
  rw [e, ht, hl', eB]
  rw [eB, hl'] at h6
  have h8 : l < 2 ^ (p * n) := by omega
  have h9 : t ≠ 0 := by omega
  have ev : ((l : Int) + ((2 ^ (p * n) : Nat) : Int) * (t : Int)).natAbs = l + 2 ^ (p * n) * t := by omega
  rw [ev, Int.natAbs_natCast]
  obtain ⟨k1, k2, k3⟩ := bln_spec h9
  rw [show p * n + Num.bln t = (p * n + (Num.bln t - 1)) + 1 by omega]
  refine bln_eq ?_ ?_
  · rw [Nat.pow_add]; have := Nat.mul_le_mul_left (2 ^ (p * n)) k1; omega
  · rw [show p * n + (Num.bln t - 1) + 1 = p * n + Num.bln t by omega, Nat.pow_add]
    have := Nat.mul_le_mul_left (2 ^ (p * n)) (show t + 1 ≤ 2 ^ Num.bln t by omega)
    rw [Nat.mul_add] at this
    omega
/-- counting the bits of the top digit by halving -/
theorem bln_half {t j : Nat} (h0 : j = 0 ∨ 2 ^ (j - 1) ≤ t) (h1 : t / 2 ^ j = 0) : bln t = j := by
  have hp := Nat.two_pow_pos j
  have h2 : t < 2 ^ j := by
    rcases Nat.lt_or_ge t (2 ^ j) with h | h
    · exact h
    · have := Nat.div_pos h hp; omega
  rcases h0 with rfl | h0
  · have : t = 0 := by simpa using h1
    subst this; rfl
  · cases j with
    | zero => have : t = 0 := by simpa using h1
              subst this; rfl
    | succ j => exact bln_eq (by simpa using h0) h2
theorem half_step {t j : Nat} (h : t / 2 ^ j ≠ 0) : t / 2 ^ j / 2 = t / 2 ^ (j + 1) ∧ 2 ^ j ≤ t := by
  refine ⟨by rw [Nat.div_div_eq_div_mul, Nat.pow_succ], ?_⟩
  rcases Nat.lt_or_ge t (2 ^ j) with h1 | h1
  · exact absurd (Nat.div_eq_of_lt h1) h
  · exact h1
end Go.Proofs.Ytmiafbbndonpaaa.Num
