/- Gb: Num N2 N3 Mem S1 S2 S3 S4 S5 S6 S7 S8, merged. -/
import Init
import Derived.Test.YtflgjecpjaiecaaGreatGaq4
import Derived.Below
import Derived.Laws.OwnMore
import Derived.Laws.Rows
import Derived.Maps.AppendAt
import Derived.Deep.AppendLies
import Derived.Deep.Draws
import Derived.RegionTactic
import Derived.OwnWalk
/- Plain facts: whole numbers as lists of digits, lowest first. -/
set_option linter.unusedVariables false
set_option linter.unusedSimpArgs false
namespace Go.Proofs.YtflgjecpjaiecaaGreat.Num
/-- the number of a list of digits in base B -/
def val (B : Int) : List Int → Int
  | [] => 0
  | x :: xs => x + B * val B xs
/-- all digits lie in the base -/
def Rng (B : Int) (xs : List Int) : Prop := ∀ x ∈ xs, 0 ≤ x ∧ x < B
/-- no zeros at the end -/
def Lst (xs : List Int) : Prop := ∀ h : xs ≠ [], xs.getLast h ≠ 0
def Canon (B : Int) (xs : List Int) : Prop := Rng B xs ∧ Lst xs
theorem Rng.nil (B : Int) : Rng B [] := fun _ h => by simp at h
theorem Rng.cons {B x : Int} {xs : List Int} (h0 : 0 ≤ x) (h1 : x < B) (h : Rng B xs) : Rng B (x :: xs) := by
  intro y hy; rcases List.mem_cons.1 hy with rfl | hy
  · exact ⟨h0, h1⟩
  · exact h y hy
theorem Rng.append {B : Int} {xs ys : List Int} (h : Rng B xs) (k : Rng B ys) : Rng B (xs ++ ys) := by
  intro y hy; rcases List.mem_append.1 hy with hy | hy
  · exact h y hy
  · exact k y hy
theorem Rng.snoc {B x : Int} {xs : List Int} (h : Rng B xs) (h0 : 0 ≤ x) (h1 : x < B) : Rng B (xs ++ [x]) := h.append (Rng.cons h0 h1 (Rng.nil B))
theorem Rng.tail {B x : Int} {xs : List Int} (h : Rng B (x :: xs)) : Rng B xs := fun y hy => h y (List.mem_cons_of_mem _ hy)
theorem Rng.take {B : Int} {xs : List Int} (h : Rng B xs) (k : Nat) : Rng B (xs.take k) := fun y hy => h y (List.mem_of_mem_take hy)
theorem Rng.drop {B : Int} {xs : List Int} (h : Rng B xs) (k : Nat) : Rng B (xs.drop k) := fun y hy => h y (List.mem_of_mem_drop hy)
theorem Rng.getD {B : Int} (hB : 0 < B) {xs : List Int} (h : Rng B xs) (k : Nat) : 0 ≤ xs.getD k 0 ∧ xs.getD k 0 < B := by
  rw [List.getD_eq_getElem?_getD]
  by_cases hk : k < xs.length
  · rw [List.getElem?_eq_getElem hk]; exact h _ (List.getElem_mem hk)
  · rw [List.getElem?_eq_none (by omega)]; exact ⟨Int.le_refl _, hB⟩
theorem Rng.set {B x : Int} {xs : List Int} (h : Rng B xs) (h0 : 0 ≤ x) (h1 : x < B) (i : Nat) : Rng B (xs.set i x) := by
  intro y hy
  rcases List.mem_or_eq_of_mem_set hy with hy | rfl
  · exact h y hy
  · exact ⟨h0, h1⟩
theorem Rng.replicate {B : Int} (hB : 0 < B) (n : Nat) : Rng B (List.replicate n 0) := fun y hy => by
  have := List.eq_of_mem_replicate hy; subst this; exact ⟨Int.le_refl _, hB⟩
theorem val_nonneg {B : Int} (hB : 0 < B) {xs : List Int} (h : Rng B xs) : 0 ≤ val B xs := by
  induction xs with
  | nil => exact Int.le_refl _
  | cons x xs ih =>
    have h1 := (h x (List.mem_cons_self ..)).1
    have h2 := Int.mul_nonneg (Int.le_of_lt hB) (ih h.tail)
    show 0 ≤ x + B * val B xs
    omega
theorem pow_pos' {B : Int} (hB : 0 < B) (n : Nat) : 0 < B ^ n := Int.pow_pos hB
theorem val_lt {B : Int} (hB : 0 < B) {xs : List Int} (h : Rng B xs) : val B xs < B ^ xs.length := by
  induction xs with
  | nil => show (0 : Int) < B ^ 0; simp
  | cons x xs ih =>
    have h1 := (h x (List.mem_cons_self ..)).2
    have h2 : val B xs + 1 ≤ B ^ xs.length := ih h.tail
    have h3 := Int.mul_le_mul_of_nonneg_left h2 (Int.le_of_lt hB)
    show x + B * val B xs < B ^ (xs.length + 1)
    rw [Int.pow_succ, Int.mul_comm _ B]
    rw [Int.mul_add] at h3
    omega
theorem pow_le {B : Int} (hB : 1 ≤ B) {m n : Nat} (h : m ≤ n) : B ^ m ≤ B ^ n := by
  obtain ⟨d, rfl⟩ : ∃ d, n = m + d := ⟨n - m, by omega⟩
  have h1 : 0 < B ^ m := pow_pos' (by omega) m
  have h2 : 0 < B ^ d := pow_pos' (by omega) d
  have := Int.mul_le_mul_of_nonneg_left (show (1 : Int) ≤ B ^ d by omega) (Int.le_of_lt h1)
  rw [Int.pow_add]; omega
theorem val_append (B : Int) (xs ys : List Int) : val B (xs ++ ys) = val B xs + B ^ xs.length * val B ys := by
  induction xs with
  | nil => show val B ys = 0 + B ^ 0 * val B ys; simp
  | cons x xs ih =>
    show x + B * val B (xs ++ ys) = x + B * val B xs + B ^ (xs.length + 1) * val B ys
    rw [ih, Int.pow_succ, Int.mul_add, Int.mul_comm (B ^ xs.length) B, Int.mul_assoc]; omega
theorem val_snoc (B : Int) (xs : List Int) (x : Int) : val B (xs ++ [x]) = val B xs + B ^ xs.length * x := by
  rw [val_append]; show _ + _ * (x + B * 0) = _; simp
theorem val_replicate (B : Int) (n : Nat) : val B (List.replicate n 0) = 0 := by
  induction n with
  | zero => rfl
  | succ n ih => show 0 + B * val B (List.replicate n 0) = 0; rw [ih]; simp
theorem val_take_drop (B : Int) (xs : List Int) (k : Nat) (h : k ≤ xs.length) : val B xs = val B (xs.take k) + B ^ k * val B (xs.drop k) := by
  have := val_append B (xs.take k) (xs.drop k)
  rw [List.take_append_drop, List.length_take, Nat.min_eq_left h] at this
  exact this
theorem val_take_succ (B : Int) (xs : List Int) (k : Nat) : val B (xs.take (k + 1)) = val B (xs.take k) + B ^ k * xs.getD k 0 := by
  by_cases h : k < xs.length
  · rw [List.take_succ_eq_append_getElem h, val_snoc, List.length_take, Nat.min_eq_left (by omega), List.getD_eq_getElem?_getD, List.getElem?_eq_getElem h]; rfl
  · rw [List.take_of_length_le (by omega), List.take_of_length_le (by omega), List.getD_eq_getElem?_getD, List.getElem?_eq_none (by omega)]; simp
theorem val_drop (B : Int) (xs : List Int) (k : Nat) : val B (xs.drop k) = xs.getD k 0 + B * val B (xs.drop (k + 1)) := by
  by_cases h : k < xs.length
  · rw [List.drop_eq_getElem_cons h, List.getD_eq_getElem?_getD, List.getElem?_eq_getElem h]; rfl
  · rw [List.drop_eq_nil_of_le (by omega), List.drop_eq_nil_of_le (by omega), List.getD_eq_getElem?_getD, List.getElem?_eq_none (by omega)]; show (0 : Int) = 0 + B * 0; simp
theorem val_set (B : Int) (xs : List Int) (k : Nat) (x : Int) (h : k < xs.length) : val B (xs.set k x) = val B xs + B ^ k * (x - xs.getD k 0) := by
  induction xs generalizing k with
  | nil => simp at h
  | cons y xs ih =>
    cases k with
    | zero => show x + B * val B xs = y + B * val B xs + B ^ 0 * (x - y); simp; omega
    | succ k =>
      show y + B * val B (xs.set k x) = y + B * val B xs + B ^ (k + 1) * (x - xs.getD k 0)
      rw [ih k (by simpa using h), Int.pow_succ, Int.mul_add, Int.mul_comm (B ^ k) B, Int.mul_assoc]; omega
/-- canonical digits: the top one tells the size -/
theorem Canon.lower {B : Int} (hB : 0 < B) {xs : List Int} (h : Canon B xs) (hx : xs ≠ []) : B ^ (xs.length - 1) ≤ val B xs := by
  obtain ⟨n, hn⟩ : ∃ n, xs.length = n + 1 := ⟨xs.length - 1, by have := List.length_pos_iff.2 hx; omega⟩
  have e := val_take_succ B xs n
  rw [List.take_of_length_le (by omega)] at e
  have hl : xs.getD n 0 = xs.getLast hx := by
    rw [List.getLast_eq_getElem, List.getD_eq_getElem?_getD, List.getElem?_eq_getElem (by omega)]
    simp only [Option.getD_some]; congr 1; omega
  have h1 := h.2 hx
  have h2 := (h.1 _ (List.getLast_mem hx)).1
  have h3 := val_nonneg hB (h.1.take n)
  have h4 : B ^ n * 1 ≤ B ^ n * xs.getD n 0 := Int.mul_le_mul_of_nonneg_left (by rw [hl]; omega) (Int.le_of_lt (pow_pos' hB n))
  rw [hn, e]; simp only [Nat.add_sub_cancel]; omega
theorem Canon.pos {B : Int} (hB : 0 < B) {xs : List Int} (h : Canon B xs) (hx : xs ≠ []) : 0 < val B xs :=
  Int.lt_of_lt_of_le (pow_pos' hB _) (h.lower hB hx)
theorem Canon.nil_iff {B : Int} (hB : 0 < B) {xs : List Int} (h : Canon B xs) : xs = [] ↔ val B xs = 0 := by
  constructor
  · rintro rfl; rfl
  · intro e
    by_cases hx : xs = []
    · exact hx
    · have := h.pos hB hx; omega
/-- of two canonical lists the longer one is greater -/
theorem Canon.len_lt {B : Int} (hB : 1 < B) {xs ys : List Int} (h : Canon B xs) (k : Canon B ys) (hl : xs.length < ys.length) : val B xs < val B ys := by
  have hy : ys ≠ [] := by rintro rfl; simp at hl
  have h1 := val_lt (by omega) h.1
  have h2 := k.lower (by omega) hy
  have h3 : B ^ xs.length ≤ B ^ (ys.length - 1) := pow_le (by omega) (by omega)
  omega
theorem val_inj {B : Int} (hB : 0 < B) : ∀ {xs ys : List Int}, Rng B xs → Rng B ys → xs.length = ys.length → val B xs = val B ys → xs = ys
  | [], [], _, _, _, _ => rfl
  | x :: xs, y :: ys, h, k, hl, e => by
    have h1 := h x (List.mem_cons_self ..)
    have h2 := k y (List.mem_cons_self ..)
    have e' : x + B * val B xs = y + B * val B ys := e
    have m1 : (x + B * val B xs) % B = x := by rw [Int.add_mul_emod_self_left, Int.emod_eq_of_lt h1.1 h1.2]
    have m2 : (y + B * val B ys) % B = y := by rw [Int.add_mul_emod_self_left, Int.emod_eq_of_lt h2.1 h2.2]
    have hxy : x = y := by rw [← m1, ← m2, e']
    subst hxy
    have : B * val B xs = B * val B ys := by omega
    have := Int.eq_of_mul_eq_mul_left (by omega) this
    rw [val_inj hB h.tail k.tail (by simpa using hl) this]
  | [], _ :: _, _, _, hl, _ => by simp at hl
  | _ :: _, [], _, _, hl, _ => by simp at hl
theorem Canon.inj {B : Int} (hB : 1 < B) {xs ys : List Int} (h : Canon B xs) (k : Canon B ys) (e : val B xs = val B ys) : xs = ys := by
  rcases Nat.lt_trichotomy xs.length ys.length with hl | hl | hl
  · have := h.len_lt hB k hl; omega
  · exact val_inj (by omega) h.1 k.1 hl e
  · have := k.len_lt hB h hl; omega
theorem Lst.nil : Lst [] := fun h => absurd rfl h
theorem Canon.nil (B : Int) : Canon B [] := ⟨Rng.nil B, Lst.nil⟩
/-- a beginning whose next digits are zeros has the value -/
theorem val_take_zeros (B : Int) (xs : List Int) (k n : Nat) (h : k ≤ n) (hz : ∀ j, k ≤ j → j < n → xs.getD j 0 = 0) : val B (xs.take n) = val B (xs.take k) := by
  induction n with
  | zero => have : k = 0 := by omega
            subst this; rfl
  | succ n ih =>
    by_cases e : k = n + 1
    · subst e; rfl
    · rw [val_take_succ, hz n (by omega) (by omega), ih (by omega) (fun j h1 h2 => hz j h1 (by omega))]; simp
theorem Lst.take {xs : List Int} {k : Nat} (hk : k ≤ xs.length) (h : k = 0 ∨ xs.getD (k - 1) 0 ≠ 0) : Lst (xs.take k) := by
  intro hne
  have hpos : 0 < k := by
    rcases Nat.eq_zero_or_pos k with h0 | h0
    · subst h0; simp at hne
    · exact h0
  have h' := h.resolve_left (by omega)
  rw [List.getLast_eq_getElem]
  simp only [List.length_take, Nat.min_eq_left hk, List.getElem_take]
  rw [List.getD_eq_getElem?_getD, List.getElem?_eq_getElem (by omega)] at h'
  exact h'
/-- a digit of the value -/
theorem val_div_pow {B : Int} (hB : 0 < B) {xs : List Int} (h : Rng B xs) (k : Nat) : val B xs / B ^ k = val B (xs.drop k) := by
  by_cases hk : k ≤ xs.length
  · have h1 := val_lt hB (h.take k)
    have h0 := val_nonneg hB (h.take k)
    rw [List.length_take, Nat.min_eq_left hk] at h1
    rw [val_take_drop B xs k hk, Int.add_mul_ediv_left _ _ (by have := pow_pos' hB k; omega), Int.ediv_eq_zero_of_lt h0 h1]; omega
  · rw [List.drop_eq_nil_of_le (by omega)]
    have h1 := val_lt hB h
    have h2 : B ^ xs.length ≤ B ^ k := pow_le (by omega) (by omega)
    exact Int.ediv_eq_zero_of_lt (val_nonneg hB h) (by omega)
end Go.Proofs.YtflgjecpjaiecaaGreat.Num
/- Plain facts: differences, products, shifts and lengths of numbers as lists of digits. -/
set_option linter.unusedVariables false
set_option linter.unusedSimpArgs false
namespace Go.Proofs.YtflgjecpjaiecaaGreat.Num
theorem take_set_succ' (zs : List Int) (k : Nat) (x : Int) (h : k < zs.length) : (zs.set k x).take (k + 1) = zs.take k ++ [x] := by
  rw [List.take_succ_eq_append_getElem (by simpa using h), List.take_set_of_le (Nat.le_refl k)]; simp
/-- what a round of a difference leaves -/
def SubR (B : Int) (xs ys : List Int) (N k : Nat) (b : Int) (zs : List Int) : Prop :=
  zs.length = N ∧ Rng B (zs.take k) ∧ val B (zs.take k) - B ^ k * b = val B (xs.take k) - val B (ys.take k)
theorem SubR.start (B : Int) (xs ys : List Int) (N : Nat) : SubR B xs ys N 0 0 (List.replicate N 0) := ⟨by simp, by simp [Rng.nil], by simp [val]⟩
theorem SubR.next {B : Int} {xs ys zs : List Int} {N k : Nat} {b b' t : Int} (h : SubR B xs ys N k b zs) (hk : k < N) (h0 : 0 ≤ t) (h1 : t < B) (ht : t - B * b' = xs.getD k 0 - b - ys.getD k 0) : SubR B xs ys N (k + 1) b' (zs.set k t) := by
  obtain ⟨e1, e2, e3⟩ := h
  refine ⟨by simpa using e1, ?_, ?_⟩
  · rw [take_set_succ' _ _ _ (by omega)]; exact e2.snoc h0 h1
  · rw [take_set_succ' _ _ _ (by omega), val_snoc, List.length_take, Nat.min_eq_left (by omega), val_take_succ, val_take_succ, Int.pow_succ, Int.mul_assoc]
    generalize B ^ k = p at *
    have e := congrArg (p * ·) ht
    simp only [Int.mul_sub] at e
    omega
theorem SubR.done {B : Int} {xs ys zs : List Int} {N : Nat} {b : Int} (hB : 1 < B) (h : SubR B xs ys N N b zs) (hx : xs.length = N) (hy : ys.length ≤ N) (hle : val B ys ≤ val B xs) (hb : b = 0 ∨ b = 1) :
    zs.length = N ∧ Rng B zs ∧ val B zs = val B xs - val B ys := by
  obtain ⟨e1, e2, e3⟩ := h
  rw [List.take_of_length_le (by omega), List.take_of_length_le (by omega), List.take_of_length_le (by omega)] at e3
  rw [List.take_of_length_le (by omega)] at e2
  have h1 := val_lt (by omega) e2
  rw [e1] at h1
  rcases hb with rfl | rfl
  · exact ⟨e1, e2, by simpa using e3⟩
  · simp only [Int.mul_one] at e3
    omega
theorem getD_set (zs : List Int) (i j : Nat) (x : Int) : (zs.set i x).getD j 0 = if i = j ∧ j < zs.length then x else zs.getD j 0 := by
  rw [List.getD_eq_getElem?_getD, List.getD_eq_getElem?_getD, List.getElem?_set]
  by_cases h : i = j
  · subst h
    by_cases h2 : i < zs.length
    · simp [h2]
    · simp [h2]
  · simp [h]
theorem getD_rep (n j : Nat) : (List.replicate n (0 : Int)).getD j 0 = 0 := by
  rw [List.getD_eq_getElem?_getD, List.getElem?_replicate]; split <;> rfl
/-- products: the rounds over the first digits -/
def MulO (B : Int) (xs ys : List Int) (N i : Nat) (zs : List Int) : Prop :=
  zs.length = N ∧ Rng B zs ∧ (∀ j, i + ys.length ≤ j → zs.getD j 0 = 0) ∧ val B zs = val B (xs.take i) * val B ys
/-- products: the rounds over the second digits -/
def MulR (B : Int) (xs ys : List Int) (N i k : Nat) (c : Int) (zs : List Int) : Prop :=
  zs.length = N ∧ Rng B zs ∧ (∀ j, i + ys.length ≤ j → zs.getD j 0 = 0) ∧ val B zs + B ^ (i + k) * c = val B (xs.take i) * val B ys + B ^ i * (xs.getD i 0 * val B (ys.take k))
theorem MulO.start {B : Int} (hB : 0 < B) (xs ys : List Int) (N : Nat) : MulO B xs ys N 0 (List.replicate N 0) :=
  ⟨by simp, Rng.replicate hB N, fun j _ => getD_rep N j, by rw [val_replicate]; simp [val]⟩
theorem MulR.next {B : Int} {xs ys zs : List Int} {N i k : Nat} {c t c' : Int} (hB : 0 < B) (h : MulR B xs ys N i k c zs) (hk : k < ys.length) (hN : i + k < N)
    (ht : t = (c + xs.getD i 0 * ys.getD k 0 + zs.getD (i + k) 0) % B) (hc : c' = (c + xs.getD i 0 * ys.getD k 0 + zs.getD (i + k) 0) / B) : MulR B xs ys N i (k + 1) c' (zs.set (i + k) t) := by
  obtain ⟨e1, e2, e3, e4⟩ := h
  have e := Int.mul_ediv_add_emod (c + xs.getD i 0 * ys.getD k 0 + zs.getD (i + k) 0) B
  rw [← ht, ← hc] at e
  have h0 : 0 ≤ t := by rw [ht]; exact Int.emod_nonneg _ (by omega)
  have h1 : t < B := by rw [ht]; exact Int.emod_lt_of_pos _ hB
  refine ⟨by simpa using e1, e2.set h0 h1 _, fun j hj => ?_, ?_⟩
  · rw [getD_set, if_neg (by omega)]; exact e3 j hj
  · rw [val_set _ _ _ _ (by omega), val_take_succ, ← Nat.add_assoc, Int.pow_succ B (i + k)]
    have e5 : B ^ i * (xs.getD i 0 * (val B (ys.take k) + B ^ k * ys.getD k 0)) = B ^ i * (xs.getD i 0 * val B (ys.take k)) + B ^ (i + k) * (xs.getD i 0 * ys.getD k 0) := by
      rw [Int.mul_add, Int.mul_add, Int.pow_add, Int.mul_assoc (B ^ i) (B ^ k), Int.mul_left_comm (xs.getD i 0) (B ^ k)]
    rw [e5]
    generalize B ^ i * (xs.getD i 0 * val B (ys.take k)) = u at *
    generalize val B (xs.take i) * val B ys = v at *
    generalize xs.getD i 0 * ys.getD k 0 = xy at *
    generalize zs.getD (i + k) 0 = z at *
    generalize B ^ (i + k) = p at *
    have e6 := congrArg (p * ·) e
    simp only [Int.mul_add] at e6
    rw [Int.mul_assoc, Int.mul_sub]
    omega
theorem MulR.done {B : Int} {xs ys zs : List Int} {N i : Nat} {c : Int} (hB : 0 < B) (h : MulR B xs ys N i ys.length c zs) (hN : i + ys.length < N) (h0 : 0 ≤ c) (h1 : c < B) : MulO B xs ys N (i + 1) (zs.set (i + ys.length) c) := by
  obtain ⟨e1, e2, e3, e4⟩ := h
  refine ⟨by simpa using e1, e2.set h0 h1 _, fun j hj => ?_, ?_⟩
  · rw [getD_set, if_neg (by omega)]; exact e3 j (by omega)
  · rw [val_set _ _ _ _ (by omega), e3 _ (Nat.le_refl _), val_take_succ, Int.sub_zero, e4, List.take_of_length_le (Nat.le_refl _), Int.add_mul, Int.mul_assoc]
theorem MulO.all {B : Int} {xs ys zs : List Int} {N : Nat} (h : MulO B xs ys N xs.length zs) : zs.length = N ∧ Rng B zs ∧ val B zs = val B xs * val B ys :=
  ⟨h.1, h.2.1, by rw [h.2.2.2, List.take_of_length_le (Nat.le_refl _)]⟩
/-- shifts to the left by q digits and r bits -/
def ShlR (B : Int) (xs : List Int) (r q N i : Nat) (zs : List Int) : Prop :=
  zs.length = N ∧ Rng B zs ∧ zs.getD (q + i) 0 < 2 ^ r ∧ (∀ j, q + i < j → zs.getD j 0 = 0) ∧ val B zs = B ^ q * 2 ^ r * val B (xs.take i)
theorem ShlR.start {B : Int} (hB : 0 < B) (xs : List Int) (r q N : Nat) : ShlR B xs r q N 0 (List.replicate N 0) :=
  ⟨by simp, Rng.replicate hB N, by rw [getD_rep]; exact pow_pos' (by decide) r, fun j _ => getD_rep N j, by rw [val_replicate]; simp [val]⟩
theorem ShlR.next {B : Int} {xs zs : List Int} {r q N i : Nat} {t u : Int} (hB : 0 < B) (h : ShlR B xs r q N i zs) (hN : q + i + 1 < N)
    (ht0 : 0 ≤ t) (ht1 : t < B) (hu0 : 0 ≤ u) (hu1 : u < 2 ^ r) (hu2 : u < B) (e : t + B * u = zs.getD (q + i) 0 + xs.getD i 0 * 2 ^ r) : ShlR B xs r q N (i + 1) ((zs.set (q + i) t).set (q + i + 1) u) := by
  obtain ⟨e1, e2, e3, e4, e5⟩ := h
  refine ⟨by simpa using e1, (e2.set ht0 ht1 _).set hu0 hu2 _, ?_, fun j hj => ?_, ?_⟩
  · rw [getD_set, if_pos ⟨by omega, by simp; omega⟩]; exact hu1
  · rw [getD_set, if_neg (by omega), getD_set, if_neg (by omega)]; exact e4 j (by omega)
  · rw [val_set _ _ _ _ (by simp; omega), val_set _ _ _ _ (by omega), getD_set, if_neg (by omega), e4 (q + i + 1) (by omega), e5, val_take_succ, Int.pow_succ, Int.mul_add]
    have e6 : B ^ q * 2 ^ r * (B ^ i * xs.getD i 0) = B ^ (q + i) * (xs.getD i 0 * 2 ^ r) := by
      rw [Int.pow_add, Int.mul_assoc, Int.mul_assoc]
      congr 1
      rw [Int.mul_comm, Int.mul_assoc]
    rw [e6]
    generalize B ^ (q + i) = p at *
    have e7 := congrArg (p * ·) e
    simp only [Int.mul_add] at e7
    rw [Int.sub_zero, Int.mul_assoc p B u, Int.mul_sub]
    omega
theorem ShlR.done {B : Int} {xs zs : List Int} {r q N p k : Nat} (hB : B = 2 ^ p) (h : ShlR B xs r q N xs.length zs) (hk : k = p * q + r) : zs.length = N ∧ Rng B zs ∧ val B zs = val B xs * 2 ^ k := by
  obtain ⟨e1, e2, e3, e4, e5⟩ := h
  refine ⟨e1, e2, ?_⟩
  rw [e5, List.take_of_length_le (Nat.le_refl _), hk, Int.pow_add, Int.pow_mul, ← hB, Int.mul_comm]
/-- disjoint bits -/
theorem or_add {a b r : Nat} (h : b < 2 ^ r) : (a * 2 ^ r) ||| b = a * 2 ^ r + b := by
  rw [Nat.mul_comm]; exact (Nat.two_pow_add_eq_or_of_lt h a).symm
/-- lengths in bits -/
def bln (n : Nat) : Nat := if n = 0 then 0 else n.log2 + 1
theorem bln_spec {n : Nat} (h : n ≠ 0) : 2 ^ (bln n - 1) ≤ n ∧ n < 2 ^ bln n ∧ 1 ≤ bln n := by
  unfold bln; rw [if_neg h]
  have := (Nat.log2_eq_iff h).1 (rfl : n.log2 = n.log2)
  simp only [Nat.add_sub_cancel]; omega
theorem bln_lt (n : Nat) : n < 2 ^ bln n := by
  by_cases h : n = 0
  · subst h; exact Nat.two_pow_pos _
  · exact (bln_spec h).2.1
theorem bln_eq {n k : Nat} (h1 : 2 ^ k ≤ n) (h2 : n < 2 ^ (k + 1)) : bln n = k + 1 := by
  have h : n ≠ 0 := by have := Nat.two_pow_pos k; omega
  unfold bln; rw [if_neg h, (Nat.log2_eq_iff h).2 ⟨h1, h2⟩]
theorem bln_le {n k : Nat} (h : n < 2 ^ k) : bln n ≤ k := by
  by_cases h0 : n = 0
  · subst h0; simp [bln]
  · have h1 := (bln_spec h0)
    rcases Nat.lt_or_ge k (bln n) with h2 | h2
    · have := Nat.pow_le_pow_right (show 0 < 2 by decide) (show k ≤ bln n - 1 by omega); omega
    · exact h2
theorem le_bln {n k : Nat} (h : 2 ^ k ≤ n) : k + 1 ≤ bln n := by
  have := bln_lt n
  rcases Nat.lt_or_ge k (bln n) with h2 | h2
  · exact h2
  · have := Nat.pow_le_pow_right (show 0 < 2 by decide) h2; omega
theorem bln_mul {n : Nat} (k : Nat) (h : n ≠ 0) : bln (n * 2 ^ k) = bln n + k := by
  obtain ⟨h1, h2, h3⟩ := bln_spec h
  have hp := Nat.two_pow_pos k
  have e : bln n + k = (bln n - 1 + k) + 1 := by omega
  rw [e]
  refine bln_eq ?_ ?_
  · rw [Nat.pow_add]; exact Nat.mul_le_mul_right _ h1
  · rw [show bln n - 1 + k + 1 = bln n + k by omega, Nat.pow_add]; exact Nat.mul_lt_mul_of_pos_right h2 hp
theorem bln_pos {n : Nat} : 0 < bln n ↔ n ≠ 0 := by
  constructor
  · rintro h rfl; simp [bln] at h
  · intro h; have := (bln_spec h).2.2; omega
/-- the length of canonical digits -/
theorem Canon.bln {B : Int} {p : Nat} (hp : 0 < p) (hB : B = 2 ^ p) {xs : List Int} (h : Canon B xs) (hx : xs ≠ []) : bln (val B xs).natAbs = p * (xs.length - 1) + bln (xs.getD (xs.length - 1) 0).natAbs ∧ xs.getD (xs.length - 1) 0 ≠ 0 := by
  have hB0 : 0 < B := by rw [hB]; exact pow_pos' (by decide) p
  obtain ⟨n, hn⟩ : ∃ n, xs.length = n + 1 := ⟨xs.length - 1, by have := List.length_pos_iff.2 hx; omega⟩
  have e := val_take_succ B xs n
  rw [List.take_of_length_le (by omega)] at e
  have hl : xs.getD n 0 = xs.getLast hx := by
    rw [List.getLast_eq_getElem, List.getD_eq_getElem?_getD, List.getElem?_eq_getElem (by omega)]
    simp only [Option.getD_some]; congr 1; omega
  have h2 := h.2 hx
  have h4 := (h.1.getD hB0 n)
  have h5 := val_nonneg hB0 (h.1.take n)
  have h6 := val_lt hB0 (h.1.take n)
  rw [List.length_take, Nat.min_eq_left (by omega)] at h6
  rw [hn]; simp only [Nat.add_sub_cancel]
  have h7 : xs.getD n 0 ≠ 0 := by rw [hl]; exact h2
  refine ⟨?_, h7⟩
  have eB : B ^ n = ((2 ^ (p * n) : Nat) : Int) := by rw [hB, ← Int.pow_mul]; push_cast; rfl
  obtain ⟨t, ht⟩ : ∃ t : Nat, xs.getD n 0 = (t : Int) := ⟨(xs.getD n 0).toNat, by omega⟩
  obtain ⟨l, hl'⟩ : ∃ l : Nat, val B (xs.take n) = (l : Int) := ⟨(val B (xs.take n)).toNat, by omega⟩
  rw [e, ht, hl', eB]
  rw [eB, hl'] at h6
  have h8 : l < 2 ^ (p * n) := by omega
  have h9 : t ≠ 0 := by omega
  have ev : ((l : Int) + ((2 ^ (p * n) : Nat) : Int) * (t : Int)).natAbs = l + 2 ^ (p * n) * t := by omega
  rw [ev, Int.natAbs_natCast]
  obtain ⟨k1, k2, k3⟩ := bln_spec h9
  rw [show p * n + Num.bln t = (p * n + (Num.bln t - 1)) + 1 by omega]
  refine bln_eq ?_ ?_
  · rw [Nat.pow_add]; have := Nat.mul_le_mul_left (2 ^ (p * n)) k1; omega
  · rw [show p * n + (Num.bln t - 1) + 1 = p * n + Num.bln t by omega, Nat.pow_add]
    have := Nat.mul_le_mul_left (2 ^ (p * n)) (show t + 1 ≤ 2 ^ Num.bln t by omega)
    rw [Nat.mul_add] at this
    omega
/-- counting the bits of the top digit by halving -/
theorem bln_half {t j : Nat} (h0 : j = 0 ∨ 2 ^ (j - 1) ≤ t) (h1 : t / 2 ^ j = 0) : bln t = j := by
  have hp := Nat.two_pow_pos j
  have h2 : t < 2 ^ j := by
    rcases Nat.lt_or_ge t (2 ^ j) with h | h
    · exact h
    · have := Nat.div_pos h hp; omega
  rcases h0 with rfl | h0
  · have : t = 0 := by simpa using h1
    subst this; rfl
  · cases j with
    | zero => have : t = 0 := by simpa using h1
              subst this; rfl
    | succ j => exact bln_eq (by simpa using h0) h2
theorem half_step {t j : Nat} (h : t / 2 ^ j ≠ 0) : t / 2 ^ j / 2 = t / 2 ^ (j + 1) ∧ 2 ^ j ≤ t := by
  refine ⟨by rw [Nat.div_div_eq_div_mul, Nat.pow_succ], ?_⟩
  rcases Nat.lt_or_ge t (2 ^ j) with h1 | h1
  · exact absurd (Nat.div_eq_of_lt h1) h
  · exact h1
end Go.Proofs.YtflgjecpjaiecaaGreat.Num
/- Plain facts: shifts to the right of numbers as lists of digits, and rounding of a magnitude. -/
set_option linter.unusedVariables false
set_option linter.unusedSimpArgs false
namespace Go.Proofs.YtflgjecpjaiecaaGreat.Num
/-- a digit of a shifted number -/
theorem shr_digit {B : Int} {p : Nat} (hB : B = 2 ^ p) {ys : List Int} (h : Rng B ys) (r j : Nat) (hr : r < p) : val B ys / 2 ^ r / B ^ j % B = (ys.getD j 0 + B * ys.getD (j + 1) 0) / 2 ^ r % B := by
  have hB0 : 0 < B := by rw [hB]; exact pow_pos' (by decide) p
  have hp : (0 : Int) < B ^ j := pow_pos' hB0 _
  have hp2 : (0 : Int) < 2 ^ r := pow_pos' (by decide) _
  rw [Int.ediv_ediv_of_nonneg (Int.le_of_lt hp2), Int.mul_comm, ← Int.ediv_ediv_of_nonneg (Int.le_of_lt hp), val_div_pow hB0 h, val_drop, val_drop _ _ (j + 1)]
  generalize ys.getD j 0 = x
  generalize ys.getD (j + 1) 0 = y
  generalize val B (ys.drop (j + 1 + 1)) = D
  have e2 : B = 2 ^ r * 2 ^ (p - r) := by rw [← Int.pow_add, show r + (p - r) = p by omega]; exact hB
  have e3 : x + B * (y + B * D) = (x + B * y) + 2 ^ r * (2 ^ (p - r) * (B * D)) := by rw [← Int.mul_assoc (2 ^ r), ← e2, Int.mul_add]; omega
  rw [e3, Int.add_mul_ediv_left _ _ (by omega), Int.mul_left_comm, Int.add_mul_emod_self_left]
theorem mod_next' (u B : Int) (hB : 0 < B) (j : Nat) : u % B ^ j + B ^ j * (u / B ^ j % B) = u % B ^ (j + 1) := by
  have hp := pow_pos' hB j
  have e1 := Int.mul_ediv_add_emod u (B ^ j)
  have e2 := Int.mul_ediv_add_emod (u / B ^ j) B
  have h1 := Int.emod_nonneg u (show B ^ j ≠ 0 by omega)
  have h2 := Int.emod_lt_of_pos u hp
  have h3 := Int.emod_nonneg (u / B ^ j) (show B ≠ 0 by omega)
  have h4 := Int.emod_lt_of_pos (u / B ^ j) hB
  generalize u % B ^ j = r at *
  generalize hd : u / B ^ j % B = d at *
  generalize u / B ^ j / B = Q at *
  have e3 : u = (r + B ^ j * d) + B ^ (j + 1) * Q := by
    rw [Int.pow_succ, Int.mul_assoc]
    have := congrArg (B ^ j * ·) e2
    simp only [Int.mul_add] at this
    omega
  have h5 : B ^ j * d ≤ B ^ j * (B - 1) := Int.mul_le_mul_of_nonneg_left (by omega) (Int.le_of_lt hp)
  have h6 : 0 ≤ B ^ j * d := Int.mul_nonneg (Int.le_of_lt hp) h3
  rw [Int.mul_sub, Int.mul_one] at h5
  rw [e3, Int.add_mul_emod_self_left, Int.emod_eq_of_lt (by omega) (by rw [Int.pow_succ]; omega)]
/-- shifts to the right by r bits -/
def ShrR (B : Int) (ys : List Int) (r N j : Nat) (zs : List Int) : Prop := zs.length = N ∧ Rng B (zs.take j) ∧ val B (zs.take j) = val B ys / 2 ^ r % B ^ j
theorem ShrR.start (B : Int) (ys : List Int) (r N : Nat) : ShrR B ys r N 0 (List.replicate N 0) := ⟨by simp, by simp [Rng.nil], by simp [val, Int.emod_one]⟩
theorem ShrR.next {B : Int} {p : Nat} (hB : B = 2 ^ p) {ys zs : List Int} {r N j : Nat} {d : Int} (hy : Rng B ys) (hr : r < p) (h : ShrR B ys r N j zs) (hj : j < N) (hd : d = (ys.getD j 0 + B * ys.getD (j + 1) 0) / 2 ^ r % B) : ShrR B ys r N (j + 1) (zs.set j d) := by
  have hB0 : 0 < B := by rw [hB]; exact pow_pos' (by decide) p
  obtain ⟨h1, h2, h3⟩ := h
  have h0 : 0 ≤ d := by rw [hd]; exact Int.emod_nonneg _ (by omega)
  have h5 : d < B := by rw [hd]; exact Int.emod_lt_of_pos _ hB0
  refine ⟨by simpa using h1, ?_, ?_⟩
  · rw [take_set_succ' _ _ _ (by omega)]; exact h2.snoc h0 h5
  · rw [take_set_succ' _ _ _ (by omega), val_snoc, List.length_take, Nat.min_eq_left (by omega), h3, hd, ← shr_digit hB hy _ _ hr, mod_next' _ _ hB0]
theorem ShrR.done {B : Int} (hB : 0 < B) {ys zs : List Int} {r N : Nat} (hy : Rng B ys) (h : ShrR B ys r N N zs) (hN : ys.length = N) : zs.length = N ∧ Rng B zs ∧ val B zs = val B ys / 2 ^ r := by
  obtain ⟨h1, h2, h3⟩ := h
  rw [List.take_of_length_le (by omega)] at h2 h3
  refine ⟨h1, h2, ?_⟩
  have h4 := val_lt hB hy
  have h5 := val_nonneg hB hy
  have hp : (0 : Int) < 2 ^ r := pow_pos' (by decide) _
  rw [h3, Int.emod_eq_of_lt (Int.ediv_nonneg h5 (Int.le_of_lt hp)) (by rw [← hN]; exact Int.lt_of_le_of_lt (Int.ediv_le_self _ h5) h4)]
/-- bits -/
theorem bit_dig {B : Int} {p : Nat} (hB : B = 2 ^ p) {xs : List Int} (h : Rng B xs) (k : Nat) (hp : 0 < p) : val B xs / 2 ^ k % 2 = xs.getD (k / p) 0 / 2 ^ (k % p) % 2 := by
  have hB0 : 0 < B := by rw [hB]; exact pow_pos' (by decide) p
  have e : (2 : Int) ^ k = B ^ (k / p) * 2 ^ (k % p) := by rw [hB, ← Int.pow_mul, ← Int.pow_add, Nat.div_add_mod]
  have hq : (0 : Int) < B ^ (k / p) := pow_pos' hB0 _
  rw [e, ← Int.ediv_ediv_of_nonneg (Int.le_of_lt hq), val_div_pow hB0 h, val_drop]
  have hr : k % p < p := Nat.mod_lt _ hp
  generalize k % p = r at *
  have e2 : B = 2 ^ r * (2 * 2 ^ (p - 1 - r)) := by rw [← Int.mul_assoc, Int.mul_comm (2 ^ r) 2, Int.mul_assoc, ← Int.pow_add, show r + (p - 1 - r) = p - 1 by omega, Int.mul_comm, ← Int.pow_succ, show (p - 1).succ = p by omega]; exact hB
  generalize hD : val B (xs.drop (k / p + 1)) = D
  have e3 : xs.getD (k / p) 0 + B * D = xs.getD (k / p) 0 + 2 ^ r * (2 * (2 ^ (p - 1 - r) * D)) := by
    conv => lhs; rw [e2]
    rw [Int.mul_assoc, Int.mul_assoc]
  rw [e3, Int.add_mul_ediv_left _ _ (by have := pow_pos' (B := 2) (by decide) r; omega), Int.add_mul_emod_self_left]
/-- rounding: the magnitude is told in units of 2^-20000 -/
def rqN (M : Nat) : Nat := max (bln M - 24) 19851
def rtN (M : Nat) : Nat := M / 2 ^ rqN M
def rrN (M : Nat) : Nat := M % 2 ^ rqN M
def upB (mode : Int) (neg : Bool) (M : Nat) : Bool :=
  if rrN M = 0 then false
  else if mode = 0 then decide (2 ^ rqN M < 2 * rrN M) || (decide (2 ^ rqN M = 2 * rrN M) && decide (rtN M % 2 = 1))
  else if mode = 1 then neg else if mode = 2 then !neg else decide (mode = 4)
def rmN (mode : Int) (neg : Bool) (M : Nat) : Nat := rtN M + (upB mode neg M).toNat
def ovB (mode : Int) (neg : Bool) (M : Nat) : Bool := decide (20128 < bln (rmN mode neg M) + rqN M)
/-- does an overflow stop at the greatest float -/
def stB (mode : Int) (neg : Bool) : Bool := decide (mode = 3) || (decide (mode = 1) && !neg) || (decide (mode = 2) && neg)
def rgN (mode : Int) (neg : Bool) (M : Nat) : Nat :=
  if ovB mode neg M = true then (if stB mode neg = true then 2139095039 else 2139095040) else (rqN M - 19851) * 8388608 + rmN mode neg M
def flF (mode : Int) (neg : Bool) (M : Nat) : Int := if ovB mode neg M = true then 5 else if rrN M = 0 then 0 else if bln M ≤ 19874 then 3 else 1
/-- the rounded float of a value in the scale, its flags -/
def rF (mode : Int) (V : Int) : Nat := if V = 0 then 0 else (if V < 0 then 2147483648 else 0) + rgN mode (decide (V < 0)) V.natAbs
def rFl (mode : Int) (V : Int) : Int := if V = 0 then 0 else flF mode (decide (V < 0)) V.natAbs
theorem rtN_lt (M : Nat) : rtN M < 2 ^ 24 := by
  unfold rtN
  have h1 := bln_lt M
  have h2 : 2 ^ bln M ≤ 2 ^ (rqN M + 24) := Nat.pow_le_pow_right (by decide) (by unfold rqN; omega)
  rw [Nat.pow_add] at h2
  exact Nat.div_lt_of_lt_mul (by omega)
theorem rtN_ge {M : Nat} (h : 19851 < rqN M) : 2 ^ 23 ≤ rtN M := by
  have h0 : M ≠ 0 := by rintro rfl; simp [rqN, bln] at h
  have h1 := (bln_spec h0).1
  have e : rqN M = bln M - 24 := by unfold rqN at *; omega
  unfold rtN
  rw [Nat.le_div_iff_mul_le (Nat.two_pow_pos _), ← Nat.pow_add]
  refine Nat.le_trans (Nat.pow_le_pow_right (by decide) ?_) h1
  rw [e]; unfold rqN at h; omega
theorem rmN_le (mode : Int) (neg : Bool) (M : Nat) : rmN mode neg M ≤ 2 ^ 24 := by
  have := rtN_lt M
  have h2 : (upB mode neg M).toNat ≤ 1 := by cases upB mode neg M <;> decide
  unfold rmN; omega
theorem rmN_ge {M : Nat} (mode : Int) (neg : Bool) (h : 19851 < rqN M) : 2 ^ 23 ≤ rmN mode neg M := by
  have := rtN_ge h; unfold rmN; omega
/-- what is longer than 128 bits overflows -/
theorem ov_long {M : Nat} (mode : Int) (neg : Bool) (h : 20128 < bln M) : ovB mode neg M = true := by
  have e : rqN M = bln M - 24 := by unfold rqN; omega
  have h1 := rmN_ge (M := M) mode neg (by omega)
  have h2 := le_bln h1
  unfold ovB; apply decide_eq_true; omega
theorem ov_not {M : Nat} {mode : Int} {neg : Bool} (h : ovB mode neg M = false) : bln (rmN mode neg M) + rqN M ≤ 20128 ∧ bln M ≤ 20128 := by
  refine ⟨by unfold ovB at h; have := of_decide_eq_false h; omega, ?_⟩
  rcases Nat.lt_or_ge 20128 (bln M) with h1 | h1
  · rw [ov_long mode neg h1] at h; cases h
  · exact h1
theorem rg_fin {M : Nat} {mode : Int} {neg : Bool} (h : ovB mode neg M = false) : (rqN M - 19851) * 8388608 + rmN mode neg M < 2139095040 := by
  have h1 := (ov_not h).1
  have h2 := rmN_le mode neg M
  have h3 : rqN M ≤ 20128 := by omega
  have h4 := bln_lt (rmN mode neg M)
  rcases Nat.lt_or_ge (rqN M) 20104 with h5 | h5
  · have : (2 : Nat) ^ 24 = 16777216 := by decide
    omega
  · have h6 := rmN_ge (M := M) mode neg (by omega)
    have h7 := le_bln h6
    have h8 : rqN M = 20104 := by omega
    have h9 : bln (rmN mode neg M) ≤ 24 := by omega
    have h10 := Nat.pow_le_pow_right (show 0 < 2 by decide) h9
    have : (2 : Nat) ^ 24 = 16777216 := by decide
    omega
theorem rgN_le (mode : Int) (neg : Bool) (M : Nat) : rgN mode neg M ≤ 2139095040 := by
  unfold rgN
  split
  · split <;> omega
  · rename_i h
    have := rg_fin (Bool.eq_false_iff.2 h); omega
/-- the parts of a magnitude m 2^e -/
theorem rq_of {m : Nat} {e : Int} (hm : m ≠ 0) (he : -20000 ≤ e) : (rqN (m * 2 ^ (e + 20000).toNat) : Int) = max ((bln m : Int) + e - 24) (-149) + 20000 ∧ (bln (m * 2 ^ (e + 20000).toNat) : Int) = bln m + e + 20000 := by
  have h := bln_mul (e + 20000).toNat hm
  unfold rqN
  rw [h]
  omega
theorem rt_left {m : Nat} {e : Int} (he : -20000 ≤ e) (h : (rqN (m * 2 ^ (e + 20000).toNat) : Int) ≤ e + 20000) :
    rtN (m * 2 ^ (e + 20000).toNat) = m * 2 ^ (e + 20000 - rqN (m * 2 ^ (e + 20000).toNat)).toNat ∧ rrN (m * 2 ^ (e + 20000).toNat) = 0 := by
  unfold rtN rrN
  generalize rqN (m * 2 ^ (e + 20000).toNat) = q at *
  have e1 : (e + 20000).toNat = (e + 20000 - q).toNat + q := by omega
  rw [e1, Nat.pow_add, ← Nat.mul_assoc]
  exact ⟨Nat.mul_div_cancel _ (Nat.two_pow_pos _), Nat.mul_mod_left _ _⟩
theorem rt_right {m : Nat} {e : Int} (he : -20000 ≤ e) {k : Nat} (hk : 0 < k) (h : (rqN (m * 2 ^ (e + 20000).toNat) : Int) = e + 20000 + k) :
    rtN (m * 2 ^ (e + 20000).toNat) = m / 2 ^ k ∧ (rrN (m * 2 ^ (e + 20000).toNat) = 0 ↔ m % 2 ^ k = 0) ∧
    (2 ^ rqN (m * 2 ^ (e + 20000).toNat) < 2 * rrN (m * 2 ^ (e + 20000).toNat) ↔ 2 ^ (k - 1) < m % 2 ^ k) ∧ (2 ^ rqN (m * 2 ^ (e + 20000).toNat) = 2 * rrN (m * 2 ^ (e + 20000).toNat) ↔ 2 ^ (k - 1) = m % 2 ^ k) := by
  unfold rtN rrN
  generalize rqN (m * 2 ^ (e + 20000).toNat) = q at *
  have e1 : q = k + (e + 20000).toNat := by omega
  have hp := Nat.two_pow_pos (e + 20000).toNat
  generalize (e + 20000).toNat = f at *
  subst e1
  rw [Nat.pow_add]
  have e2 : (2 : Nat) ^ k = 2 * 2 ^ (k - 1) := by rw [Nat.mul_comm, ← Nat.pow_succ, show (k - 1).succ = k by omega]
  have e3 : m * 2 ^ f % (2 ^ k * 2 ^ f) = m % 2 ^ k * 2 ^ f := Nat.mul_mod_mul_right _ _ _
  rw [e3]
  generalize m % 2 ^ k = s at *
  generalize 2 ^ (k - 1) = a at *
  refine ⟨Nat.mul_div_mul_right _ _ hp, ?_, ?_, ?_⟩
  · constructor
    · intro h; rcases Nat.mul_eq_zero.1 h with h | h
      · exact h
      · omega
    · rintro rfl; simp
  · rw [e2, ← Nat.mul_assoc, Nat.mul_lt_mul_right hp]; omega
  · rw [e2, ← Nat.mul_assoc]
    constructor
    · intro h; have := Nat.eq_of_mul_eq_mul_right hp h; omega
    · intro h; rw [h]
end Go.Proofs.YtflgjecpjaiecaaGreat.Num
/- Words on memory: a slice that reads as a list, a block that is known whole, an append onto a row of the call's own (after the guide's page of words to copy). -/
set_option linter.unusedVariables false
set_option linter.unusedSimpArgs false
namespace Go.Proofs.YtflgjecpjaiecaaGreat
open Go.RowKit
theorem block_of_add (a : Addr) (n : Nat) : (a.add n).block = a.block := by unfold Addr.add; split <;> rfl
theorem add_of_add (a : Addr) (i j : Nat) : (a.add i).add j = a.add (i + j) := by
  unfold Addr.add
  by_cases hi : i = 0 <;> by_cases hj : j = 0 <;> simp [hi, hj, Nat.add_assoc]
def Reads (w : World) (B size : Nat) (A : Option Addr) (n : Nat) (xs : List Value) : Prop :=
  xs.length = n * size ∧ (0 < n → ∃ ad, A = some ad ∧ ad.block < B ∧ ∀ j u, xs[j]? = some u → w.cell? (ad.add j) = some u)
section
variable {w w' : World} {B B' size n : Nat} {A : Option Addr} {xs : List Value}
theorem Reads.none_ : Reads w B size A 0 [] := ⟨by simp, fun h => absurd h (by omega)⟩
theorem Reads.at_ {k : Nat} (h : Reads w B 1 A n xs) (hk : k < n) : ∃ ad u, A = some ad ∧ ad.block < B ∧ xs[k]? = some u ∧ w.cell? (ad.add k) = some u := by
  obtain ⟨ad, e, hb, hc⟩ := h.2 (by omega)
  have hl : k < xs.length := by have := h.1; omega
  exact ⟨ad, xs[k], e, hb, List.getElem?_eq_getElem hl, hc k _ (List.getElem?_eq_getElem hl)⟩
theorem Reads.keep (h : Reads w B size A n xs) (hk : ∀ p : Addr, p.block < B → w'.cell? p = w.cell? p) : Reads w' B size A n xs :=
  ⟨h.1, fun hn => by
    obtain ⟨ad, e, hb, hc⟩ := h.2 hn
    exact ⟨ad, e, hb, fun j u hu => (hk _ (by rw [block_of_add]; exact hb)).trans (hc j u hu)⟩⟩
theorem Reads.more (h : Reads w B size A n xs) (hB : B ≤ B') : Reads w B' size A n xs :=
  ⟨h.1, fun hn => by
    obtain ⟨ad, e, hb, hc⟩ := h.2 hn
    exact ⟨ad, e, by omega, hc⟩⟩
theorem Reads.below (h : Reads w B size A n xs) (hb : Below B w w') : Reads w' B size A n xs := h.keep fun _ hp => hb.cell hp
theorem Reads.drew (h : Reads w B size A n xs) : Reads w.drew B size A n xs := h
theorem Reads.drewN (h : Reads w B size A n xs) (k : Nat) : Reads (w.drewN k) B size A n xs := h
theorem Reads.alloc (h : Reads w B size A n xs) (hB : B ≤ w.heap.size) (o : Obj) : Reads (w.alloc o) B size A n xs := h.keep fun p hp => World.cell?_alloc_lt w o p (by omega)
theorem Reads.setCell (h : Reads w B size A n xs) {p : Addr} (hB : B ≤ p.block) (u : Value) : Reads (w.setCell p u) B size A n xs :=
  h.keep fun q hq => World.cell?_setCell_other w p q u (fun e => by subst e; omega)
theorem Reads.grown (h : Reads w B size A n xs) {row : Option Nat} (hg : w.grownBy w' row) (hB : B ≤ w.heap.size) (hr : ∀ g, row = some g → B ≤ g) : Reads w' B size A n xs :=
  h.keep fun p hp => World.cell?_of_block (hg.block p.block (by omega) (fun e => by have := hr _ e.symm; omega))
theorem Reads.cut (h : Reads w B size A n xs) {k cap : Nat} (hk : k ≤ n) (hc : n ≤ cap) :
    Reads w B size (if cap = k then A else A.map (·.add (k * size))) (n - k) (xs.drop (k * size)) := by
  refine ⟨by rw [List.length_drop, h.1, Nat.sub_mul], fun hn => ?_⟩
  obtain ⟨ad, rfl, hb, hcell⟩ := h.2 (by omega)
  rw [if_neg (by omega)]
  refine ⟨ad.add (k * size), rfl, by rw [block_of_add]; exact hb, fun j u hu => ?_⟩
  rw [add_of_add]
  exact hcell _ u (by rw [← hu, List.getElem?_drop])
theorem Reads.of_own {base : Nat} {e : TypeId} {c : Nat} (h : w.ownsRow base e size (.slice A n c) n xs) : Reads w w.heap.size size A n xs := by
  refine ⟨h.1, fun hn => ?_⟩
  obtain ⟨g, cap, hv, _, hlt⟩ := h.form hn
  have hA : A = some ⟨g, 0, none⟩ := by injection hv
  subst hA
  exact ⟨_, rfl, hlt, h.cells (g := g) rfl⟩
end
def Blk (w : World) (g : Nat) (t : TypeId) (cs : Array Value) : Prop := w.heap[g]? = some (.cells cs t (0, 0))
section
variable {w w' : World} {g : Nat} {t : TypeId} {cs : Array Value}
theorem Blk.lt (h : Blk w g t cs) : g < w.heap.size := by
  rcases Nat.lt_or_ge g w.heap.size with hlt | hge
  · exact hlt
  · unfold Blk at h; rw [Array.getElem?_eq_none hge] at h; cases h
theorem Blk.cell (h : Blk w g t cs) (i : Nat) : w.cell? ⟨g, i, none⟩ = cs[i]? := cell_of_row w g i cs t (0, 0) h
theorem Blk.frozen (h : Blk w g t cs) (i : Nat) : w.frozen? ⟨g, i, none⟩ = false := by
  unfold Blk at h
  simp [World.frozen?, h]
theorem Blk.new (w : World) (t : TypeId) (cs : Array Value) : Blk (w.alloc (.cells cs t)) w.heap.size t cs := heap_alloc_new w _
theorem Blk.drew (h : Blk w g t cs) : Blk w.drew g t cs := h
theorem Blk.drewN (h : Blk w g t cs) (n : Nat) : Blk (w.drewN n) g t cs := h
theorem Blk.alloc (h : Blk w g t cs) (o : Obj) : Blk (w.alloc o) g t cs := (Below.heap_alloc w o g h.lt).trans h
theorem Blk.set_ (h : Blk w g t cs) (i : Nat) (u : Value) : Blk (w.setCell ⟨g, i, none⟩ u) g t (cs.setIfInBounds i u) := by
  unfold Blk at h ⊢
  simp [World.setCell, Array.getElem?_modify, h]
theorem Blk.far (h : Blk w g t cs) {p : Addr} (hp : g ≠ p.block) (u : Value) : Blk (w.setCell p u) g t cs := (Below.heap_setCell w p u g hp).trans h
theorem Blk.below {B : Nat} (h : Blk w g t cs) (hb : Below B w w') (hg : g < B) : Blk w' g t cs := (hb.block g hg).trans h
theorem Blk.grown {row : Option Nat} (h : Blk w g t cs) (hb : w.grownBy w' row) (hg : some g ≠ row) : Blk w' g t cs := (hb.block g h.lt hg).trans h
theorem Blk.ne_ {g' : Nat} {t' : TypeId} {cs' : Array Value} (h : Blk w g t cs) (h' : Blk w g' t' cs') (hne : t ≠ t') : g ≠ g' := by
  rintro rfl
  unfold Blk at h h'
  rw [h] at h'
  injection h' with h'
  injection h' with _ ht
  exact hne ht
theorem own_blk_ne {base : Nat} {e : TypeId} {size n : Nat} {v : Value} {xs : List Value} (h : w.ownsRow base e size v n xs) (hg : Blk w g t cs) (hne : e ≠ t) : v.ownBlock ≠ some g := by
  rcases h.2 with ⟨rfl, _⟩ | ⟨g', cap, cur, rfl, _, hh, _⟩
  · simp [Value.ownBlock]
  · intro he
    have : g' = g := by simpa [Value.ownBlock] using he
    subst this
    exact Blk.ne_ (t := e) hh hg hne rfl
end
section
variable {P : Program} (w : World)
theorem run_append_of_nil (base : Nat) (t ty e : TypeId) (i : TypeInfo) (size : Nat) (ht : P.underlying t = some (.slice e)) (hi : P.info? e = some i)
    (v : Value) (n : Nat) (xs : List Value) (hown : w.ownsRow base e size v n xs) (c : Nat) : (Builtin.append_ #[t, t] ty #[v, .slice none 0 c]).run P w = .ok v w := by
  rcases hown.2 with ⟨rfl, rfl⟩ | ⟨g, cap, cur, rfl, _, _, hnc, _⟩
  · simp [Builtin.append_, run_underlying ht, sizeOf, typeInfo, hi, Builtin.lenOf, Builtin.firstCells]
  · simp [Builtin.append_, run_underlying ht, sizeOf, typeInfo, hi, Builtin.lenOf, Builtin.firstCells, hnc, storeCells]
theorem run_append_any (base : Nat) (t ty e : TypeId) (i : TypeInfo) (z : Value) (size bytes : Nat) (ht : P.underlying t = some (.slice e)) (hi : P.info? e = some i) (hz : i.zero = some z)
    (hsize : i.size = size) (hby : i.bytes = bytes) (hzs : z.cells.size = size) (hsz : 0 < size)
    (v : Value) (n : Nat) (xs : List Value) (hown : w.ownsRow base e size v n xs)
    (B : Nat) (A : Option Addr) (m c : Nat) (news : List Value) (hr : Reads w B size A m news) (h1 : ∀ u ∈ news, u.oneCell' = true)
    (h63 : n + m ≤ maxLen) (hbytes : (n + m) * bytes ≤ 140737488355328) (hbase : base ≤ w.heap.size) :
    ∃ v' w', (Builtin.append_ #[t, t] ty #[v, .slice A m c]).run P w = .ok v' w' ∧ w'.ownsRow base e size v' (n + m) (xs ++ news) ∧ w.grownBy w' v.ownBlock ∧
      (v'.ownBlock = v.ownBlock ∨ v'.ownBlock = some w.heap.size) := by
  rcases A with _ | ad
  · have hm : m = 0 := by
      rcases Nat.eq_zero_or_pos m with h0 | h0
      · exact h0
      · obtain ⟨ad, h, _⟩ := hr.2 h0
        cases h
    subst hm
    have hn : news = [] := List.eq_nil_of_length_eq_zero (by simpa using hr.1)
    subst hn
    exact ⟨v, w, run_append_of_nil w base t ty e i size ht hi v n xs hown c, by simpa using hown, World.grownBy.refl w _, .inl rfl⟩
  · have hcells : ∀ j u, news[j]? = some u → w.cell? (ad.add j) = some u := by
      intro j u hu
      rcases Nat.eq_zero_or_pos m with h0 | h0
      · subst h0
        have hn : news = [] := List.eq_nil_of_length_eq_zero (by simpa using hr.1)
        subst hn
        simp at hu
      · obtain ⟨ad', h, _, hc⟩ := hr.2 h0
        injection h with h
        subst h
        exact hc j u hu
    obtain ⟨v', w', hrun, h2, h3, _, h5⟩ := run_append_own_at (P := P) w base t ty e i z size bytes ht hi hz hsize hby hzs hsz v n xs hown ad m c news hr.1 hcells h1 h63 hbytes hbase
    exact ⟨v', w', hrun, h2, h3, h5⟩
theorem wp_append_any {o : Oper} {a : Act} {K : Act → World → Prop} {Q : Exit → Act → World → Prop} (s x : Operand) (t : TypeId)
    (ho : o.op = .call { callee := .builtin .append, args := #[s, x], argTypes := #[t, t] })
    (base : Nat) (e : TypeId) (i : TypeInfo) (z : Value) (size bytes : Nat) (ht : P.underlying t = some (.slice e)) (hi : P.info? e = some i) (hz : i.zero = some z)
    (hsize : i.size = size) (hby : i.bytes = bytes) (hzs : z.cells.size = size) (hsz : 0 < size)
    (v : Value) (n : Nat) (xs : List Value) (hs : a.eval s = v) (hown : w.ownsRow base e size v n xs)
    (B : Nat) (A : Option Addr) (m c : Nat) (news : List Value) (hx : a.eval x = .slice A m c) (hr : Reads w B size A m news) (h1 : ∀ u ∈ news, u.oneCell' = true)
    (h63 : n + m ≤ maxLen) (hbytes : (n + m) * bytes ≤ 140737488355328) (hbase : base ≤ w.heap.size)
    (h : ∀ v' w', w'.ownsRow base e size v' (n + m) (xs ++ news) → w.grownBy w' v.ownBlock → (v'.ownBlock = v.ownBlock ∨ v'.ownBlock = some w.heap.size) → K (a.put o.dst v') w') : o.wp P a w K Q := by
  obtain ⟨v', w', hrun, h2, h3, h4⟩ := run_append_any (P := P) w base t o.type e i z size bytes ht hi hz hsize hby hzs hsz v n xs hown B A m c news hr h1 h63 hbytes hbase
  unfold Oper.wp execOp
  simp only [ho, resolve, invoke, builtin, Sem.run_bind, Sem.run_pure, Result.andThen_ok, List.map_toArray, List.map_cons, List.map_nil, hs, hx, hrun]
  exact h v' w' h2 h3 h4
theorem wpList_append_any {ops : Array Oper} {rest : List Oper} {o : Oper} {a : Act} {Q : Exit → Act → World → Prop} (hgd : o.guard = none) (s x : Operand) (t : TypeId)
    (ho : o.op = .call { callee := .builtin .append, args := #[s, x], argTypes := #[t, t] })
    (base : Nat) (e : TypeId) (i : TypeInfo) (z : Value) (size bytes : Nat) (ht : P.underlying t = some (.slice e)) (hi : P.info? e = some i) (hz : i.zero = some z)
    (hsize : i.size = size) (hby : i.bytes = bytes) (hzs : z.cells.size = size) (hsz : 0 < size)
    (v : Value) (n : Nat) (xs : List Value) (hs : a.eval s = v) (hown : w.ownsRow base e size v n xs)
    (B : Nat) (A : Option Addr) (m c : Nat) (news : List Value) (hx : a.eval x = .slice A m c) (hr : Reads w B size A m news) (h1 : ∀ u ∈ news, u.oneCell' = true)
    (h63 : n + m ≤ maxLen) (hbytes : (n + m) * bytes ≤ 140737488355328) (hbase : base ≤ w.heap.size)
    (h : ∀ v' w', w'.ownsRow base e size v' (n + m) (xs ++ news) → w.grownBy w' v.ownBlock → (v'.ownBlock = v.ownBlock ∨ v'.ownBlock = some w.heap.size) → wpList P ops Q rest (a.put o.dst v') w') : wpList P ops Q (o :: rest) a w :=
  wpList_plain hgd fun _ hK => wp_append_any w s x t ho base e i z size bytes ht hi hz hsize hby hzs hsz v n xs hs hown B A m c news hx hr h1 h63 hbytes hbase fun v' w' h2 h3 h4 => hK _ _ (h v' w' h2 h3 h4)
theorem step_append_any {ops : Array Oper} {o : Oper} {a : Act} {K : Act → World → Prop} {Q : Exit → Act → World → Prop} {E : Prop} (hgd : o.guard = none) (s x : Operand) (t : TypeId)
    (ho : o.op = .call { callee := .builtin .append, args := #[s, x], argTypes := #[t, t] })
    (base : Nat) (e : TypeId) (i : TypeInfo) (z : Value) (size bytes : Nat) (ht : P.underlying t = some (.slice e)) (hi : P.info? e = some i) (hz : i.zero = some z)
    (hsize : i.size = size) (hby : i.bytes = bytes) (hzs : z.cells.size = size) (hsz : 0 < size)
    (v : Value) (n : Nat) (xs : List Value) (hs : a.eval s = v) (hown : w.ownsRow base e size v n xs)
    (B : Nat) (A : Option Addr) (m c : Nat) (news : List Value) (hx : a.eval x = .slice A m c) (hr : Reads w B size A m news) (h1 : ∀ u ∈ news, u.oneCell' = true)
    (h63 : n + m ≤ maxLen) (hbytes : (n + m) * bytes ≤ 140737488355328) (hbase : base ≤ w.heap.size)
    (h : ∀ v' w', w'.ownsRow base e size v' (n + m) (xs ++ news) → w.grownBy w' v.ownBlock → (v'.ownBlock = v.ownBlock ∨ v'.ownBlock = some w.heap.size) → K (a.put o.dst v') w') :
    if Region.wanted o (yielded ops a.tmps) = true then Oper.wp P o a w K Q else E := by
  have hw : Region.wanted o (yielded ops a.tmps) = true := by simp [Region.wanted, hgd]
  rw [if_pos hw]
  exact wp_append_any w s x t ho base e i z size bytes ht hi hz hsize hby hzs hsz v n xs hs hown B A m c news hx hr h1 h63 hbytes hbase h
end
end Go.Proofs.YtflgjecpjaiecaaGreat
/- Contracts: limbs of the reference. -/
set_option linter.unusedVariables false
set_option linter.unusedSimpArgs false
namespace Go.Proofs.YtflgjecpjaiecaaGreat
open Go.RowKit Num
/-- a bound on lengths, kept behind a name -/
def LIM : Nat := 1099511627776
/-- the cells of a list of int64, of uint32 -/
def c64 (xs : List Int) : List Value := xs.map fun x => .int .i64 x
def c32 (xs : List Int) : List Value := xs.map fun x => .int .u32 x
theorem c64_one (xs : List Int) : ∀ u ∈ c64 xs, u.oneCell' = true := fun u hu => by obtain ⟨x, _, rfl⟩ := List.mem_map.1 hu; rfl
theorem c32_one (xs : List Int) : ∀ u ∈ c32 xs, u.oneCell' = true := fun u hu => by obtain ⟨x, _, rfl⟩ := List.mem_map.1 hu; rfl
theorem c64_append (xs ys : List Int) : c64 (xs ++ ys) = c64 xs ++ c64 ys := by simp [c64]
theorem c64_at (xs : List Int) (k : Nat) (h : k < xs.length) : (c64 xs)[k]? = some (.int .i64 (xs.getD k 0)) := by simp [c64, List.getD_eq_getElem?_getD, List.getElem?_eq_getElem h]
theorem c32_at (xs : List Int) (k : Nat) (h : k < xs.length) : (c32 xs)[k]? = some (.int .u32 (xs.getD k 0)) := by simp [c32, List.getD_eq_getElem?_getD, List.getElem?_eq_getElem h]
/-- a slice that reads as int64s -/
def R64 (w : World) (A : Option Addr) (xs : List Int) : Prop := Reads w w.heap.size 1 A xs.length (c64 xs)
def R32 (w : World) (A : Option Addr) (xs : List Int) : Prop := Reads w w.heap.size 1 A xs.length (c32 xs)
theorem R64.at_ {w : World} {A : Option Addr} {xs : List Int} (h : R64 w A xs) {k : Nat} (hk : k < xs.length) : ∃ ad, A = some ad ∧ w.cell? (ad.add k) = some (.int .i64 (xs.getD k 0)) := by
  obtain ⟨ad, u, e, _, hx, hc⟩ := Reads.at_ h hk
  rw [c64_at xs k hk] at hx; cases hx
  exact ⟨ad, e, hc⟩
theorem R32.at_ {w : World} {A : Option Addr} {xs : List Int} (h : R32 w A xs) {k : Nat} (hk : k < xs.length) : ∃ ad, A = some ad ∧ w.cell? (ad.add k) = some (.int .u32 (xs.getD k 0)) := by
  obtain ⟨ad, u, e, _, hx, hc⟩ := Reads.at_ h hk
  rw [c32_at xs k hk] at hx; cases hx
  exact ⟨ad, e, hc⟩
theorem R64.below {w w' : World} {A : Option Addr} {xs : List Int} (h : R64 w A xs) (hb : Below w.heap.size w w') : R64 w' A xs := (Reads.below h hb).more hb.size
theorem R32.below {w w' : World} {A : Option Addr} {xs : List Int} (h : R32 w A xs) (hb : Below w.heap.size w w') : R32 w' A xs := (Reads.below h hb).more hb.size
theorem R64.nil (w : World) : R64 w none [] := Reads.none_
/-- a slice of the call's own, from block B on -/
def O64 (w : World) (B : Nat) (v : Value) (xs : List Int) : Prop := w.ownsRow B 2 1 v xs.length (c64 xs)
theorem O64.form {w : World} {B : Nat} {v : Value} {xs : List Int} (h : O64 w B v xs) : ∃ A c, v = .slice A xs.length c ∧ R64 w A xs := by
  have h' := h
  rcases h'.2 with ⟨rfl, h0⟩ | ⟨g, cap, cur, rfl, hg, hh, _⟩
  · refine ⟨none, 0, by rw [h0], ?_⟩
    obtain rfl : xs = [] := List.eq_nil_of_length_eq_zero h0
    exact R64.nil w
  · exact ⟨some ⟨g, 0, none⟩, cap, rfl, Reads.of_own h⟩
theorem O64.mono {w : World} {B B' : Nat} {v : Value} {xs : List Int} (h : O64 w B v xs) (hB : B' ≤ B) : O64 w B' v xs := by
  obtain ⟨h1, h2⟩ := h
  refine ⟨h1, ?_⟩
  rcases h2 with h2 | ⟨g, cap, cur, hv, hg, r⟩
  · exact .inl h2
  · exact .inr ⟨g, cap, cur, hv, by omega, r⟩
theorem O64.keep {w w' : World} {B : Nat} {v : Value} {xs : List Int} (h : O64 w B v xs) (hb : Below w.heap.size w w') : O64 w' B v xs :=
  World.ownsRow.kept (row := none) h ⟨hb.os, hb.tape, hb.output, hb.size, fun k hk _ => hb.block k hk⟩ (by cases v.ownBlock <;> simp)
/-- what a call that hands back a new slice of int64s leaves -/
def RetO (P : List Int → Prop) (w : World) (e : Ending) (w' : World) : Prop := ∃ A n c xs, e = .returned (.slice A n c) ∧ n = xs.length ∧ P xs ∧ O64 w' w.heap.size (.slice A n c) xs ∧ Below w.heap.size w w'
theorem info64 : (Tryz.prog.info? 2).map (fun i => (i.zero, i.size, i.bytes)) = some (some (.int .i64 0), 1, 8) := by kernel_rfl
theorem own_empty (w : World) (B : Nat) (hb : B ≤ w.heap.size) : O64 (w.alloc (.cells #[] 2)) B (.slice (some ⟨w.heap.size, 0, none⟩) 0 0) [] :=
  World.ownsRow_made (size := 1) w #[] 0 hb (by decide) rfl
set_option maxHeartbeats 1000000 in
theorem s_Own (A : Option Addr) (c : Nat) (xs : List Int) (w : World) (h : R64 w A xs) (hn : xs.length ≤ LIM) :
    Calls Tryz.prog 281 #[.slice A xs.length c] w (RetO (· = xs) w) := by
  obtain ⟨i0, hi0, hz0, hz1, hz2⟩ := info_parts info64
  have HR : Hd (R64 w A xs) := ⟨h⟩
  have HN : Hd (xs.length ≤ LIM) := ⟨hn⟩
  clear h hn
  generalize hN : xs.length = n at *
  have HL : Hd (xs.length = n) := ⟨hN⟩
  clear hN
  go_enter Tryz.func281, Tryz.ntmps281
  go_wp2_with (first
    | (at_builtin
       refine wpList_append_any _ rfl (.tmp 3) (.tmp 4) _ rfl w.heap.size 2 i0 _ 1 8 Tryz.underlying62 hi0 hz0 hz1 hz2 rfl (by omega) (.slice (some ⟨w.heap.size, 0, none⟩) 0 0) 0 [] rfl
         (own_empty w w.heap.size (Nat.le_refl _)) w.heap.size A n c (c64 xs) rfl ?c1 (c64_one xs) ?c2 ?c3 (by simp) ?_
       case c1 => exact (by have := HR.out; unfold R64 at this; rw [HL.out] at this; exact this.alloc (Nat.le_refl _) _)
       case c2 => exact (by have := HN.out; unfold LIM at this; simp only [maxLen]; omega)
       case c3 => exact (by have := HN.out; unfold LIM at this; omega)
       intro v1 w1 hown1 hg1 hat1
       have hbw1 : Hd (Below w.heap.size w w1) := ⟨((Below.refl _ _).alloc (Nat.le_refl _) _).grown hg1 (by simp) (by simp [Value.ownBlock])⟩
       have HO : Hd (w1.ownsRow w.heap.size 2 1 v1 (0 + n) ([] ++ c64 xs)) := ⟨hown1⟩
       clear hown1 hg1 hat1))
  go_ret
  have HO2 : O64 w1 w.heap.size v1 xs := by have := HO.out; rw [Nat.zero_add, List.nil_append, ← HL.out] at this; exact this
  obtain ⟨A1, c1, rfl, _⟩ := HO2.form
  exact ⟨A1, _, c1, xs, rfl, rfl, rfl, HO2, hbw1.out⟩
theorem s_Own' (A : Option Addr) (n c : Nat) (xs : List Int) (w : World) (hl : xs.length = n) (h : R64 w A xs) (hn : n ≤ LIM) :
    Calls Tryz.prog 281 #[.slice A n c] w (RetO (· = xs) w) := by
  subst hl; exact s_Own A c xs w h hn
/-! Whole numbers of the reference in memory -/
/-- the digits and the sign of a whole number -/
structure NumS (s : Int) (xs : List Int) (a : Int) : Prop where
  can : Canon 16777216 xs
  sgn : (s = 0 ∧ xs = []) ∨ ((s = 1 ∨ s = -1) ∧ xs ≠ [])
  eq : a = s * val 16777216 xs
/-- what a call that hands back a new whole number leaves -/
def RetW (a : Int) (w : World) (e : Ending) (w' : World) : Prop :=
  ∃ s A n c xs, e = .returned (.agg #[.int .i64 s, .slice A n c]) ∧ n = xs.length ∧ NumS s xs a ∧ O64 w' w.heap.size (.slice A n c) xs ∧ Below w.heap.size w w'
theorem cutAt (xs : List Int) (k : Nat) (hk : k ≤ xs.length) (hz : ∀ j, k ≤ j → j < xs.length → xs.getD j 0 = 0) (hl : k = 0 ∨ xs.getD (k - 1) 0 ≠ 0) (h : Rng 16777216 xs) :
    Canon 16777216 (xs.take k) ∧ val 16777216 (xs.take k) = val 16777216 xs :=
  ⟨⟨h.take k, Lst.take hk hl⟩, by rw [← val_take_zeros 16777216 xs k xs.length hk hz, List.take_of_length_le (Nat.le_refl _)]⟩
theorem R64.take {w : World} {A : Option Addr} {xs : List Int} (h : R64 w A xs) (k : Nat) : R64 w A (xs.take k) := by
  refine ⟨by simp [c64], fun hn => ?_⟩
  rw [List.length_take] at hn
  obtain ⟨ad, e, hb, hc⟩ := h.2 (by omega)
  refine ⟨ad, e, hb, fun j u hu => hc j u ?_⟩
  simp only [c64, List.getElem?_map, List.getElem?_take] at hu ⊢
  split at hu
  · exact hu
  · simp at hu
set_option maxHeartbeats 2000000 in
theorem s_MakeL (sg : Int) (A : Option Addr) (c : Nat) (xs : List Int) (w : World) (h : R64 w A xs) (hn : xs.length ≤ LIM) (hcap : xs.length ≤ c) (hr : Rng 16777216 xs) (hs : sg = 1 ∨ sg = -1 ∨ val 16777216 xs = 0) :
    Calls Tryz.prog 258 #[.int .i64 sg, .slice A xs.length c] w (RetW (sg * val 16777216 xs) w) := by
  have HR : Hd (R64 w A xs) := ⟨h⟩
  have HN : Hd (xs.length ≤ LIM) := ⟨hn⟩
  have HS : Hd (sg = 1 ∨ sg = -1 ∨ val 16777216 xs = 0) := ⟨hs⟩
  have HG : Hd (Rng 16777216 xs) := ⟨hr⟩
  have hm : xs.length ≤ 9223372036854775807 := by unfold LIM at hn; omega
  clear h hn hs hr
  generalize hN : xs.length = n at *
  have HL : Hd (xs.length = n) := ⟨hN⟩
  clear hN
  go_enter Tryz.func258, Tryz.ntmps258
  go_wp2
  go_loop [5] (fun i => ∃ k : Nat, k ≤ n ∧ i = .int .i64 k ∧ Hd (∀ j, k ≤ j → j < n → xs.getD j 0 = 0)) (fun i => (intOf i).toNat)
  case atStart => exact ⟨n, Nat.le_refl _, rfl, ⟨fun j h1 h2 => by omega⟩⟩
  case round =>
    obtain ⟨k, hk, rfl, HZ⟩ := hrel
    by_cases hp : 0 < k
    · obtain ⟨m, rfl⟩ : ∃ m, k = m + 1 := ⟨k - 1, by omega⟩
      obtain ⟨ad, rfl, hcell⟩ := HR.out.at_ (k := m) (by have := HL.out; omega)
      have hcell2 : (w.alloc (Obj.cells #[Value.int .i64 0, Value.slice none 0 0] 64)).cell? (ad.add m) = some (.int .i64 (xs.getD m 0)) := cb ((Below.refl _ _).alloc (Nat.le_refl _) _) hcell
      clear hcell
      generalize hy : xs.getD m 0 = y at *
      have HY : Hd (xs.getD m 0 = y) := ⟨hy⟩
      clear hy
      by_cases hz : y = 0
      · have hd : (y == 0) = true := by simpa using hz
        have HZ0 : Hd (y = 0) := ⟨hz⟩
        clear hz
        go_wp2
        refine ⟨⟨m, by omega, rfl, ⟨fun j h1 h2 => ?_⟩⟩, by simp [intOf]⟩
        by_cases e : j = m
        · subst e; rw [HY.out, HZ0.out]
        · exact HZ.out j (by omega) h2
      · have hd : (y == 0) = false := by simpa using hz
        have HZ0 : Hd (y ≠ 0) := ⟨hz⟩
        clear hz
        have hk2 : m + 1 ≤ c := by omega
        go_wp2_with (go_at_call 281; (with_reducible refine (s_Own' _ _ _ (xs.take (m + 1)) _ ?c1 ?c2 ?c3).mono ?_); (case c1 => (have := HL.out; simp; omega)); (case c2 => exact (HR.out.take (m + 1)).below ((Below.refl _ _).alloc (Nat.le_refl _) _)); (case c3 => (have := HN.out; omega)); rintro e w1 ⟨A1, n1, c1, xs1, rfl, hn1, rfl, ho, hb⟩; obtain rfl : n1 = m + 1 := hn1.trans (by have := HL.out; simp; omega); clear hn1; have HO : Hd (O64 w1 (w.heap.size + 1) (.slice A1 (m + 1) c1) (xs.take (m + 1))) := ⟨by simpa using ho⟩; clear ho; obtain ⟨hc, hf, hz, hy⟩ := bcell hb)
        have hlen : (xs.take (m + 1)).length = m + 1 := by have := HL.out; simp; omega
        have HS1 : Hd (NumS sg (xs.take (m + 1)) (sg * val 16777216 xs)) := ⟨by
          obtain ⟨h1, h2⟩ := cutAt xs (m + 1) (by have := HL.out; omega) (fun j h1 h2 => HZ.out j h1 (by have := HL.out; omega)) (.inr (by simp only [Nat.add_sub_cancel]; rw [HY.out]; exact HZ0.out)) HG.out
          have hne : xs.take (m + 1) ≠ [] := fun e => by rw [e] at hlen; simp at hlen
          refine ⟨h1, .inr ⟨?_, hne⟩, by rw [h2]⟩
          rcases HS.out with h | h | h
          · exact .inl h
          · exact .inr h
          · rw [← h2] at h; have := h1.pos (by decide) hne; omega⟩
        go_wp2_with fail
        refine bodyPost_ret (v := .agg #[.int .i64 sg, .slice A1 (m + 1) c1]) (by simp (maxDischargeDepth := 7) [results, Tryz.results258, go_sem, *]) rfl ⟨sg, A1, m + 1, c1, xs.take (m + 1), rfl, hlen.symm, HS1.out, ?_, ?_⟩
        · exact O64.mono (B := w.heap.size + 1) (ownsRow_setCell_below (ownsRow_setCell_below HO.out (by simp) _) (by simp) _) (by omega)
        · (repeat (first | exact Below.refl _ _ | refine Below.drew ?_ | refine ba _ ?_ | refine bs0 _ _ ?_ ?_ | refine bs1 _ _ _ ?_ ?_ | refine bs2 _ _ _ _ ?_ ?_ | refine bs3 _ _ _ _ _ ?_ ?_ | refine bt3 (by assumption) ?_))
    · obtain rfl : k = 0 := by omega
      have HV : Hd (NumS 0 [] (sg * val 16777216 xs)) := ⟨by
        obtain ⟨h1, h2⟩ := cutAt xs 0 (by omega) (fun j h1 h2 => HZ.out j h1 (by have := HL.out; omega)) (.inl rfl) HG.out
        refine ⟨Canon.nil _, .inl ⟨rfl, rfl⟩, ?_⟩
        rw [← h2]; show sg * val 16777216 [] = 0 * val 16777216 []; simp [val]⟩
      go_wp2_with fail
      refine bodyPost_ret (v := .agg #[.int .i64 0, .slice none 0 0]) (by simp (maxDischargeDepth := 7) [results, Tryz.results258, go_sem, *]) rfl ⟨0, none, 0, 0, [], rfl, rfl, HV.out, World.ownsRow_nil _ _ _ _, ?_⟩
      exact ba _ (Below.refl _ _)
end Go.Proofs.YtflgjecpjaiecaaGreat
/- Contracts: sums and differences of limbs, whole numbers of integers, of the reference. -/
set_option linter.unusedVariables false
set_option linter.unusedSimpArgs false
namespace Go.Proofs.YtflgjecpjaiecaaGreat
open Go.RowKit Num
/-- one number put behind a row of the call's own -/
theorem wpList_push64 {ops : Array Oper} {rest : List Oper} {o : Oper} {a : Act} {Q : Exit → Act → World → Prop} (w : World) (hgd : o.guard = none) (s x : Operand)
    (ho : o.op = .call { callee := .builtin .append, args := #[s, x], argTypes := #[62, 62] })
    (B : Nat) (v : Value) (xs : List Int) (hs : a.eval s = v) (hown : O64 w B v xs) (g c : Nat) (y : Int) (hx : a.eval x = .slice (some ⟨g, 0, none⟩) 1 c) (hc : w.cell? ⟨g, 0, none⟩ = some (.int .i64 y))
    (hl : xs.length < LIM) (hB : B ≤ w.heap.size)
    (h : ∀ v' w', O64 w' B v' (xs ++ [y]) → Below B w w' → wpList Tryz.prog ops Q rest (a.put o.dst v') w') : wpList Tryz.prog ops Q (o :: rest) a w := by
  obtain ⟨i0, hi0, hz0, hz1, hz2⟩ := info_parts info64
  refine wpList_append_own w hgd s x 62 ho B 2 i0 _ 1 8 Tryz.underlying62 hi0 hz0 hz1 hz2 rfl (by omega) v xs.length (c64 xs) hs hown ⟨g, 0, none⟩ 1 c [.int .i64 y] hx rfl ?_ ?_ ?_ ?_ hB ?_
  · intro j u hj
    match j, hj with
    | 0, hj => simp at hj; subst hj; simpa [Addr.add] using hc
  · intro u hu; simp at hu; subst hu; rfl
  · unfold LIM at hl; unfold maxLen; omega
  · unfold LIM at hl; omega
  · intro v' w' h1 h2 _
    refine h v' w' ?_ ?_
    · unfold O64; rw [c64_append, List.length_append]; exact h1
    · refine (Below.refl _ _).grown h2 hB ?_
      intro k hk
      rcases hown.2 with ⟨rfl, _⟩ | ⟨g', cap, cur, rfl, hg, _⟩
      · simp [Value.ownBlock] at hk
      · have : g' = k := by simpa [Value.ownBlock] using hk
        omega
theorem O64.alloc {w : World} {B : Nat} {v : Value} {xs : List Int} (h : O64 w B v xs) (o : Obj) : O64 (w.alloc o) B v xs := h.keep ((Below.refl _ _).alloc (Nat.le_refl _) o)
theorem O64.drewN {w : World} {B : Nat} {v : Value} {xs : List Int} (h : O64 w B v xs) (n : Nat) : O64 (w.drewN n) B v xs := h.keep (by first | exact below_drewN _ (Below.refl _ _) | exact below_drewN (Below.refl _ _) _)
theorem bel_up {B : Nat} {w w1 w2 : World} (h : Below B w w1) (k : Below B w1 w2) : Below B w w2 := h.trans k
/-- a bound on whole numbers, kept behind a name -/
def TOP : Int := 16777216 ^ 100000
def Bd (a : Int) : Prop := -TOP < a ∧ a < TOP
/-- a whole number of the reference as it lies in memory -/
def WhP (w : World) (s : Int) (A : Option Addr) (n c : Nat) (a : Int) : Prop := ∃ xs, n = xs.length ∧ n ≤ c ∧ n ≤ 100000 ∧ NumS s xs a ∧ R64 w A xs
/-- a whole number in a row of the call's own, from block B on -/
def WhO (w : World) (B : Nat) (s : Int) (A : Option Addr) (n c : Nat) (a : Int) : Prop := ∃ xs, n = xs.length ∧ n ≤ 100000 ∧ NumS s xs a ∧ O64 w B (.slice A n c) xs
def RetWh (a : Int) (w : World) (e : Ending) (w' : World) : Prop := ∃ s A n c, e = .returned (.agg #[.int .i64 s, .slice A n c]) ∧ WhO w' w.heap.size s A n c a ∧ Below w.heap.size w w'
theorem WhP.below {w w' : World} {s : Int} {A : Option Addr} {n c : Nat} {a : Int} (h : WhP w s A n c a) (hb : Below w.heap.size w w') : WhP w' s A n c a := by
  obtain ⟨xs, h1, h2, h3, h4, h5⟩ := h
  exact ⟨xs, h1, h2, h3, h4, h5.below hb⟩
theorem O64.cap {w : World} {B n c : Nat} {A : Option Addr} {xs : List Int} (h : O64 w B (.slice A n c) xs) : n = xs.length ∧ n ≤ c := by
  rcases h.2 with ⟨h1, h2⟩ | ⟨g, cap, cur, h1, h2⟩
  · injection h1 with h3 h4 h5; omega
  · injection h1 with h3 h4 h5; subst h4 h5; exact ⟨rfl, h2.2.2.1⟩
theorem NumS.len {s : Int} {xs : List Int} {a : Int} (h : NumS s xs a) (hb : Bd a) : xs.length ≤ 100000 := by
  rcases h.sgn with ⟨_, e⟩ | ⟨hs, e⟩
  · subst e; simp
  · have h1 := h.can.lower (by decide) e
    have h2 : val 16777216 xs < TOP := by
      have := h.eq; unfold Bd at hb
      rcases hs with rfl | rfl <;> omega
    rcases Nat.lt_or_ge 100000 xs.length with h3 | h3
    · have h4 : (16777216 : Int) ^ 100000 ≤ 16777216 ^ (xs.length - 1) := pow_le (by decide) (by omega)
      unfold TOP at h2
      exact absurd (Int.lt_of_le_of_lt (Int.le_trans h4 h1) h2) (Int.lt_irrefl _)
    · exact h3
theorem RetW.wh {a : Int} {w : World} {e : Ending} {w' : World} (h : RetW a w e w') (hb : Bd a) : RetWh a w e w' := by
  obtain ⟨s, A, n, c, xs, he, hn, hs, ho, hf⟩ := h
  exact ⟨s, A, n, c, he, ⟨xs, hn, by rw [hn]; exact hs.len hb, hs, ho⟩, hf⟩
theorem O64.reads {w : World} {B n c : Nat} {A : Option Addr} {xs : List Int} (h : O64 w B (.slice A n c) xs) : R64 w A xs := by
  obtain ⟨A', c', e', hr⟩ := h.form
  injection e' with e1 e2 e3; subst e1; exact hr
theorem WhO.wh {w : World} {B : Nat} {s : Int} {A : Option Addr} {n c : Nat} {a : Int} (h : WhO w B s A n c a) : WhP w s A n c a := by
  obtain ⟨xs, h1, h2, h3, h4⟩ := h
  exact ⟨xs, h1, h4.cap.2, h2, h3, h4.reads⟩
theorem WhO.mono {w : World} {B B' : Nat} {s : Int} {A : Option Addr} {n c : Nat} {a : Int} (h : WhO w B s A n c a) (hB : B' ≤ B) : WhO w B' s A n c a := by
  obtain ⟨xs, h1, h2, h3, h4⟩ := h
  exact ⟨xs, h1, h2, h3, h4.mono hB⟩
theorem WhO.keep {w w' : World} {B : Nat} {s : Int} {A : Option Addr} {n c : Nat} {a : Int} (h : WhO w B s A n c a) (hb : Below w.heap.size w w') : WhO w' B s A n c a := by
  obtain ⟨xs, h1, h2, h3, h4⟩ := h
  exact ⟨xs, h1, h2, h3, h4.keep hb⟩
theorem WhO.set {w : World} {B : Nat} {s : Int} {A : Option Addr} {n c : Nat} {a : Int} (h : WhO w B s A n c a) (g o : Nat) (hg : g < B) (u : Value) : WhO (w.setCell ⟨g, o, none⟩ u) B s A n c a := by
  obtain ⟨xs, h1, h2, h3, h4⟩ := h
  exact ⟨xs, h1, h2, h3, ownsRow_setCell_below h4 (by simpa using hg) _⟩
theorem s_MakeW (sg : Int) (A : Option Addr) (n c : Nat) (xs : List Int) (a : Int) (w : World) (hl : n = xs.length) (h : R64 w A xs) (hn : n ≤ LIM) (hcap : n ≤ c) (hr : Rng 16777216 xs) (hs : sg = 1 ∨ sg = -1 ∨ val 16777216 xs = 0) (ha : a = sg * val 16777216 xs) (hb : Bd a) :
    Calls Tryz.prog 258 #[.int .i64 sg, .slice A n c] w (RetWh a w) := by
  subst ha hl
  exact (s_MakeL sg A c xs w h hn hcap hr hs).mono fun e w' hw => hw.wh hb
/-- carries: one step of a sum -/
theorem plus_step {z x y c : Int} {n : Nat} {X Y : Int} (h : z + 16777216 ^ n * c = X + Y) : (z + 16777216 ^ n * ((c + x + y) % 16777216)) + 16777216 ^ (n + 1) * ((c + x + y) / 16777216) = (X + 16777216 ^ n * x) + (Y + 16777216 ^ n * y) := by
  have e := Int.mul_ediv_add_emod (c + x + y) 16777216
  generalize (c + x + y) / 16777216 = q at *
  generalize (c + x + y) % 16777216 = r at *
  rw [Int.pow_succ]
  generalize (16777216 : Int) ^ n = p at *
  have e2 := congrArg (p * ·) e
  simp only [Int.mul_add] at e2
  have e3 : p * 16777216 * q = p * (16777216 * q) := by rw [Int.mul_assoc]
  rw [e3]; omega
/-- borrows: one step of a difference -/
theorem minus_step {z x y b t : Int} {n : Nat} {X Y b' : Int} (h : z - 16777216 ^ n * b = X - Y) (ht : t - 16777216 * b' = x - b - y) : (z + 16777216 ^ n * t) - 16777216 ^ (n + 1) * b' = (X + 16777216 ^ n * x) - (Y + 16777216 ^ n * y) := by
  rw [Int.pow_succ, Int.mul_assoc]
  generalize (16777216 : Int) ^ n = p at *
  have e2 := congrArg (p * ·) ht
  simp only [Int.mul_sub] at e2
  omega
/-- what a round of a sum leaves -/
def PlusR (xs ys : List Int) (k : Nat) (c : Int) (zs : List Int) : Prop :=
  zs.length = k ∧ Rng 16777216 zs ∧ val 16777216 zs + 16777216 ^ k * c = val 16777216 (xs.take k) + val 16777216 (ys.take k)
theorem PlusR.next {xs ys zs : List Int} {k : Nat} {c t c' : Int} (h : PlusR xs ys k c zs) (ht : t = (c + xs.getD k 0 + ys.getD k 0) % 16777216) (hc : c' = (c + xs.getD k 0 + ys.getD k 0) / 16777216) : PlusR xs ys (k + 1) c' (zs ++ [t]) := by
  obtain ⟨h1, h2, h3⟩ := h
  subst ht hc
  refine ⟨by simp [h1], h2.snoc (by omega) (by omega), ?_⟩
  rw [val_snoc, val_take_succ, val_take_succ, h1]
  exact plus_step h3
theorem getD_far {xs : List Int} {k : Nat} (h : xs.length ≤ k) : xs.getD k 0 = 0 := by rw [List.getD_eq_getElem?_getD, List.getElem?_eq_none h]; rfl
set_option maxHeartbeats 4000000 in
theorem s_PlusL (A A' : Option Addr) (n m c c' : Nat) (xs ys : List Int) (w : World) (hn : n = xs.length) (hm : m = ys.length) (h : R64 w A xs) (h' : R64 w A' ys) (hr : Rng 16777216 xs) (hr' : Rng 16777216 ys) (hl : n ≤ 100000) (hl' : m ≤ 100000) :
    Calls Tryz.prog 278 #[.slice A n c, .slice A' m c'] w (RetO (fun zs => Rng 16777216 zs ∧ zs.length ≤ 100001 ∧ val 16777216 zs = val 16777216 xs + val 16777216 ys) w) := by
  have HX : Hd (R64 w A xs) := ⟨h⟩
  have HY : Hd (R64 w A' ys) := ⟨h'⟩
  have HG : Hd (Rng 16777216 xs ∧ Rng 16777216 ys) := ⟨⟨hr, hr'⟩⟩
  have HN : Hd (n = xs.length ∧ m = ys.length) := ⟨⟨hn, hm⟩⟩
  have HM : Hd (n ≤ 100000 ∧ m ≤ 100000) := ⟨⟨hl, hl'⟩⟩
  clear h h' hr hr' hn hm hl hl'
  go_enter Tryz.func278, Tryz.ntmps278
  go_wp2
  go_loopw [5, 6, 7] (fun v c i wr => ∃ (k : Nat) (q : Int) (zs : List Int), (k : Int) ≤ 100001 ∧ i = .int .i64 k ∧ c = .int .i64 q ∧ 0 ≤ q ∧ q ≤ 1 ∧ (q = 1 → k ≤ n ∨ k ≤ m) ∧ Hd (PlusR xs ys k q zs) ∧ Hd (O64 wr w.heap.size v zs) ∧ Hd (Below w.heap.size w wr))
    (fun _ _ i _ => 100001 - (intOf i).toNat)
  case atStart =>
    refine ⟨0, 0, [], by omega, rfl, rfl, by omega, by omega, by omega, ⟨rfl, Rng.nil _, rfl⟩, ⟨own_empty w w.heap.size (Nat.le_refl _)⟩, ⟨(Below.refl _ _).alloc (Nat.le_refl _) _⟩⟩
  case round =>
    obtain ⟨k, q, zs, hk, rfl, rfl, hq0, hq1, hqk, HP, HO, HB⟩ := hrel
    have HL : Hd (zs.length < LIM) := ⟨by rw [HP.out.1]; unfold LIM; omega⟩
    by_cases h1 : k < n
    · by_cases h2 : k < m
      · obtain ⟨ad, rfl, hcx⟩ := HX.out.at_ (k := k) (by have := HN.out; omega)
        have hgx := HG.out.1.getD (by decide) k
        replace hcx := (HB.out.cell (World.block_lt_of_cell? w _ hcx)).trans hcx
        generalize hex : xs.getD k 0 = x at *
        have HEx : Hd (xs.getD k 0 = x) := ⟨hex⟩
        clear hex
        obtain ⟨ad', rfl, hcy⟩ := HY.out.at_ (k := k) (by have := HN.out; omega)
        have hgy := HG.out.2.getD (by decide) k
        replace hcy := (HB.out.cell (World.block_lt_of_cell? w _ hcy)).trans hcy
        generalize hey : ys.getD k 0 = y at *
        have HEy : Hd (ys.getD k 0 = y) := ⟨hey⟩
        clear hey
        go_wp2_with (at_builtin; refine wpList_push64 _ rfl (.tmp 45) (.tmp 48) rfl w.heap.size _ zs rfl (HO.out.alloc _) wr.heap.size 1 _ rfl ((Blk.new _ _ _).cell 0) HL.out (by simp; exact Nat.le_succ_of_le HB.out.size) ?_; intro v1 w1 ho1 hb1; have HO1 : Hd (O64 w1 w.heap.size v1 _) := ⟨ho1⟩; have HB1 : Hd (Below w.heap.size w w1) := ⟨((HB.out.alloc HB.out.size _)).trans hb1⟩; clear ho1 hb1)
        go_roundw
        case rel =>
          have hM := HM.out
          refine ⟨k + 1, (q + x + y) / 16777216, zs ++ [(q + x + y) % 16777216], by omega, by go_num, by go_num, by omega, by omega, by omega, ⟨HP.out.next (by rw [HEx.out, HEy.out]) (by rw [HEx.out, HEy.out])⟩, ?_, HB1⟩
          go_num
        case measure => have hM := HM.out; simp [intOf]; omega
      · obtain ⟨ad, rfl, hcx⟩ := HX.out.at_ (k := k) (by have := HN.out; omega)
        have hgx := HG.out.1.getD (by decide) k
        replace hcx := (HB.out.cell (World.block_lt_of_cell? w _ hcx)).trans hcx
        generalize hex : xs.getD k 0 = x at *
        have HEx : Hd (xs.getD k 0 = x) := ⟨hex⟩
        clear hex
        have HEy : Hd (ys.getD k 0 = 0) := ⟨getD_far (by have := HN.out; omega)⟩
        go_wp2_with (at_builtin; refine wpList_push64 _ rfl (.tmp 45) (.tmp 48) rfl w.heap.size _ zs rfl (HO.out.alloc _) wr.heap.size 1 _ rfl ((Blk.new _ _ _).cell 0) HL.out (by simp; exact Nat.le_succ_of_le HB.out.size) ?_; intro v1 w1 ho1 hb1; have HO1 : Hd (O64 w1 w.heap.size v1 _) := ⟨ho1⟩; have HB1 : Hd (Below w.heap.size w w1) := ⟨((HB.out.alloc HB.out.size _)).trans hb1⟩; clear ho1 hb1)
        go_roundw
        case rel =>
          have hM := HM.out
          refine ⟨k + 1, (q + x + 0) / 16777216, zs ++ [(q + x + 0) % 16777216], by omega, by go_num, by go_num, by omega, by omega, by omega, ⟨HP.out.next (by rw [HEx.out, HEy.out]) (by rw [HEx.out, HEy.out])⟩, ?_, HB1⟩
          go_num
        case measure => have hM := HM.out; simp [intOf]; omega
    · by_cases h2 : k < m
      · have HEx : Hd (xs.getD k 0 = 0) := ⟨getD_far (by have := HN.out; omega)⟩
        obtain ⟨ad', rfl, hcy⟩ := HY.out.at_ (k := k) (by have := HN.out; omega)
        have hgy := HG.out.2.getD (by decide) k
        replace hcy := (HB.out.cell (World.block_lt_of_cell? w _ hcy)).trans hcy
        generalize hey : ys.getD k 0 = y at *
        have HEy : Hd (ys.getD k 0 = y) := ⟨hey⟩
        clear hey
        go_wp2_with (at_builtin; refine wpList_push64 _ rfl (.tmp 45) (.tmp 48) rfl w.heap.size _ zs rfl (HO.out.alloc _) wr.heap.size 1 _ rfl ((Blk.new _ _ _).cell 0) HL.out (by simp; exact Nat.le_succ_of_le HB.out.size) ?_; intro v1 w1 ho1 hb1; have HO1 : Hd (O64 w1 w.heap.size v1 _) := ⟨ho1⟩; have HB1 : Hd (Below w.heap.size w w1) := ⟨((HB.out.alloc HB.out.size _)).trans hb1⟩; clear ho1 hb1)
        go_roundw
        case rel =>
          have hM := HM.out
          refine ⟨k + 1, (q + 0 + y) / 16777216, zs ++ [(q + 0 + y) % 16777216], by omega, by go_num, by go_num, by omega, by omega, by omega, ⟨HP.out.next (by rw [HEx.out, HEy.out]) (by rw [HEx.out, HEy.out])⟩, ?_, HB1⟩
          go_num
        case measure => have hM := HM.out; simp [intOf]; omega
      · by_cases h3 : 0 < q
        · have HEx : Hd (xs.getD k 0 = 0) := ⟨getD_far (by have := HN.out; omega)⟩
          have HEy : Hd (ys.getD k 0 = 0) := ⟨getD_far (by have := HN.out; omega)⟩
          go_wp2_with (at_builtin; refine wpList_push64 _ rfl (.tmp 45) (.tmp 48) rfl w.heap.size _ zs rfl (HO.out.alloc _) wr.heap.size 1 _ rfl ((Blk.new _ _ _).cell 0) HL.out (by simp; exact Nat.le_succ_of_le HB.out.size) ?_; intro v1 w1 ho1 hb1; have HO1 : Hd (O64 w1 w.heap.size v1 _) := ⟨ho1⟩; have HB1 : Hd (Below w.heap.size w w1) := ⟨((HB.out.alloc HB.out.size _)).trans hb1⟩; clear ho1 hb1)
          go_roundw
          case rel =>
            have hM := HM.out
            refine ⟨k + 1, (q + 0 + 0) / 16777216, zs ++ [(q + 0 + 0) % 16777216], by omega, by go_num, by go_num, by omega, by omega, by omega, ⟨HP.out.next (by rw [HEx.out, HEy.out]) (by rw [HEx.out, HEy.out])⟩, ?_, HB1⟩
            go_num
          case measure => have hM := HM.out; simp [intOf]; omega
        · obtain rfl : q = 0 := by omega
          obtain ⟨A1, c1, hv, _⟩ := HO.out.form
          have HV : Hd (val 16777216 zs = val 16777216 xs + val 16777216 ys) := ⟨by
            have h := HP.out.2.2
            have hN := HN.out
            rw [List.take_of_length_le (by omega), List.take_of_length_le (by omega)] at h
            omega⟩
          subst hv
          go_wp2
          go_ret
          refine ⟨A1, _, c1, zs, rfl, rfl, ⟨HP.out.2.1, ?_, HV.out⟩, HO.out, HB.out⟩
          rw [HP.out.1]; omega
end Go.Proofs.YtflgjecpjaiecaaGreat
/- Contracts: differences and comparison of limbs, whole numbers of integers, of the reference. -/
set_option linter.unusedVariables false
set_option linter.unusedSimpArgs false
namespace Go.Proofs.YtflgjecpjaiecaaGreat
open Go.RowKit Num
/-- what a round of a difference leaves -/
def MinusR (xs ys : List Int) (k : Nat) (b : Int) (zs : List Int) : Prop :=
  zs.length = k ∧ Rng 16777216 zs ∧ val 16777216 zs - 16777216 ^ k * b = val 16777216 (xs.take k) - val 16777216 (ys.take k)
theorem MinusR.next {xs ys zs : List Int} {k : Nat} {b t b' : Int} (h : MinusR xs ys k b zs) (ht : t - 16777216 * b' = xs.getD k 0 - b - ys.getD k 0) (h0 : 0 ≤ t) (h1 : t < 16777216) : MinusR xs ys (k + 1) b' (zs ++ [t]) := by
  obtain ⟨e1, e2, e3⟩ := h
  refine ⟨by simp [e1], e2.snoc h0 h1, ?_⟩
  rw [val_snoc, val_take_succ, val_take_succ, e1]
  exact minus_step e3 ht
theorem MinusR.done {xs ys zs : List Int} {b : Int} (h : MinusR xs ys xs.length b zs) (hl : ys.length ≤ xs.length) (hv : val 16777216 ys ≤ val 16777216 xs) (hb : b = 0 ∨ b = 1) : val 16777216 zs = val 16777216 xs - val 16777216 ys := by
  obtain ⟨e1, e2, e3⟩ := h
  rw [List.take_of_length_le (Nat.le_refl _), List.take_of_length_le hl] at e3
  have h1 := val_lt (by decide) e2
  rw [e1] at h1
  rcases hb with rfl | rfl
  · omega
  · simp at e3; omega
set_option maxHeartbeats 4000000 in
theorem s_MinusL (A A' : Option Addr) (n m c c' : Nat) (xs ys : List Int) (w : World) (hn : n = xs.length) (hm : m = ys.length) (h : R64 w A xs) (h' : R64 w A' ys) (hr : Rng 16777216 xs) (hr' : Rng 16777216 ys) (hl : n ≤ 100000) (hl' : m ≤ n) (hv : val 16777216 ys ≤ val 16777216 xs) :
    Calls Tryz.prog 280 #[.slice A n c, .slice A' m c'] w (RetO (fun zs => Rng 16777216 zs ∧ zs.length ≤ 100001 ∧ val 16777216 zs = val 16777216 xs - val 16777216 ys) w) := by
  have HX : Hd (R64 w A xs) := ⟨h⟩
  have HY : Hd (R64 w A' ys) := ⟨h'⟩
  have HG : Hd (Rng 16777216 xs ∧ Rng 16777216 ys) := ⟨⟨hr, hr'⟩⟩
  have HN : Hd (n = xs.length ∧ m = ys.length) := ⟨⟨hn, hm⟩⟩
  have HM : Hd (n ≤ 100000 ∧ m ≤ n) := ⟨⟨hl, hl'⟩⟩
  have HVV : Hd (val 16777216 ys ≤ val 16777216 xs) := ⟨hv⟩
  clear h h' hr hr' hn hm hl hl' hv
  go_enter Tryz.func280, Tryz.ntmps280
  go_wp2
  go_loopw [5, 6, 7] (fun v c i wr => ∃ (k : Nat) (q : Int) (zs : List Int), (k : Int) ≤ n ∧ i = .int .i64 k ∧ c = .int .i64 q ∧ 0 ≤ q ∧ q ≤ 1 ∧ Hd (MinusR xs ys k q zs) ∧ Hd (O64 wr w.heap.size v zs) ∧ Hd (Below w.heap.size w wr))
    (fun _ _ i _ => n - (intOf i).toNat)
  case atStart =>
    refine ⟨0, 0, [], by omega, rfl, rfl, by omega, by omega, ⟨rfl, Rng.nil _, rfl⟩, ⟨own_empty w w.heap.size (Nat.le_refl _)⟩, ⟨(Below.refl _ _).alloc (Nat.le_refl _) _⟩⟩
  case round =>
    obtain ⟨k, q, zs, hk, rfl, rfl, hq0, hq1, HP, HO, HB⟩ := hrel
    have HL : Hd (zs.length < LIM) := ⟨by have := HM.out; rw [HP.out.1]; unfold LIM; omega⟩
    have hkI : (k : Int) ≤ 100000 := by have := HM.out; omega
    by_cases h1 : k < n
    · by_cases h2 : k < m
      · obtain ⟨ad, rfl, hcx⟩ := HX.out.at_ (k := k) (by have := HN.out; omega)
        have hgx := HG.out.1.getD (by decide) k
        replace hcx := (HB.out.cell (World.block_lt_of_cell? w _ hcx)).trans hcx
        generalize hex : xs.getD k 0 = x at *
        have HEx : Hd (xs.getD k 0 = x) := ⟨hex⟩
        clear hex
        obtain ⟨ad', rfl, hcy⟩ := HY.out.at_ (k := k) (by have := HN.out; omega)
        have hgy := HG.out.2.getD (by decide) k
        replace hcy := (HB.out.cell (World.block_lt_of_cell? w _ hcy)).trans hcy
        generalize hey : ys.getD k 0 = y at *
        have HEy : Hd (ys.getD k 0 = y) := ⟨hey⟩
        clear hey
        by_cases h3 : x - q - y < 0
        · go_wp2_with (at_builtin; refine wpList_push64 _ rfl (.tmp 36) (.tmp 38) rfl w.heap.size _ zs rfl (HO.out.alloc _) wr.heap.size 1 _ rfl ((Blk.new _ _ _).cell 0) HL.out (by simp; exact Nat.le_succ_of_le HB.out.size) ?_; intro v1 w1 ho1 hb1; have HO1 : Hd (O64 w1 w.heap.size v1 _) := ⟨ho1⟩; have HB1 : Hd (Below w.heap.size w w1) := ⟨((HB.out.alloc HB.out.size _)).trans hb1⟩; clear ho1 hb1)
          go_roundw
          case rel =>
            exact ⟨k + 1, 1, zs ++ [x - q - y + 16777216], by omega, by go_num, by go_num, by omega, by omega, ⟨HP.out.next (by rw [HEx.out, HEy.out]; omega) (by omega) (by omega)⟩, HO1, HB1⟩
          case measure => simp [intOf]; omega
        · go_wp2_with (at_builtin; refine wpList_push64 _ rfl (.tmp 36) (.tmp 38) rfl w.heap.size _ zs rfl (HO.out.alloc _) wr.heap.size 1 _ rfl ((Blk.new _ _ _).cell 0) HL.out (by simp; exact Nat.le_succ_of_le HB.out.size) ?_; intro v1 w1 ho1 hb1; have HO1 : Hd (O64 w1 w.heap.size v1 _) := ⟨ho1⟩; have HB1 : Hd (Below w.heap.size w w1) := ⟨((HB.out.alloc HB.out.size _)).trans hb1⟩; clear ho1 hb1)
          go_roundw
          case rel =>
            exact ⟨k + 1, 0, zs ++ [x - q - y], by omega, by go_num, by go_num, by omega, by omega, ⟨HP.out.next (by rw [HEx.out, HEy.out]; omega) (by omega) (by omega)⟩, HO1, HB1⟩
          case measure => simp [intOf]; omega
      · obtain ⟨ad, rfl, hcx⟩ := HX.out.at_ (k := k) (by have := HN.out; omega)
        have hgx := HG.out.1.getD (by decide) k
        replace hcx := (HB.out.cell (World.block_lt_of_cell? w _ hcx)).trans hcx
        generalize hex : xs.getD k 0 = x at *
        have HEx : Hd (xs.getD k 0 = x) := ⟨hex⟩
        clear hex
        have HEy : Hd (ys.getD k 0 = 0) := ⟨getD_far (by have := HN.out; omega)⟩
        by_cases h3 : x - q < 0
        · go_wp2_with (at_builtin; refine wpList_push64 _ rfl (.tmp 36) (.tmp 38) rfl w.heap.size _ zs rfl (HO.out.alloc _) wr.heap.size 1 _ rfl ((Blk.new _ _ _).cell 0) HL.out (by simp; exact Nat.le_succ_of_le HB.out.size) ?_; intro v1 w1 ho1 hb1; have HO1 : Hd (O64 w1 w.heap.size v1 _) := ⟨ho1⟩; have HB1 : Hd (Below w.heap.size w w1) := ⟨((HB.out.alloc HB.out.size _)).trans hb1⟩; clear ho1 hb1)
          go_roundw
          case rel =>
            exact ⟨k + 1, 1, zs ++ [x - q + 16777216], by omega, by go_num, by go_num, by omega, by omega, ⟨HP.out.next (by rw [HEx.out, HEy.out]; omega) (by omega) (by omega)⟩, HO1, HB1⟩
          case measure => simp [intOf]; omega
        · go_wp2_with (at_builtin; refine wpList_push64 _ rfl (.tmp 36) (.tmp 38) rfl w.heap.size _ zs rfl (HO.out.alloc _) wr.heap.size 1 _ rfl ((Blk.new _ _ _).cell 0) HL.out (by simp; exact Nat.le_succ_of_le HB.out.size) ?_; intro v1 w1 ho1 hb1; have HO1 : Hd (O64 w1 w.heap.size v1 _) := ⟨ho1⟩; have HB1 : Hd (Below w.heap.size w w1) := ⟨((HB.out.alloc HB.out.size _)).trans hb1⟩; clear ho1 hb1)
          go_roundw
          case rel =>
            exact ⟨k + 1, 0, zs ++ [x - q], by omega, by go_num, by go_num, by omega, by omega, ⟨HP.out.next (by rw [HEx.out, HEy.out]; omega) (by omega) (by omega)⟩, HO1, HB1⟩
          case measure => simp [intOf]; omega
    · obtain ⟨A1, c1, hv, _⟩ := HO.out.form
      have HV : Hd (val 16777216 zs = val 16777216 xs - val 16777216 ys) := ⟨by
        have h := HP.out
        have hN := HN.out
        have hM := HM.out
        obtain rfl : k = xs.length := by omega
        exact h.done (by omega) HVV.out (by omega)⟩
      subst hv
      go_wp2
      go_ret
      refine ⟨A1, _, c1, zs, rfl, rfl, ⟨HP.out.2.1, ?_, HV.out⟩, HO.out, HB.out⟩
      rw [HP.out.1]; omega
/-- -1, 0 or 1 -/
def cmpI (a b : Int) : Int := if a < b then -1 else if b < a then 1 else 0
theorem cmp_digit {xs ys : List Int} {k : Nat} (hr : Rng 16777216 xs) (hr' : Rng 16777216 ys) (hk : k < xs.length) (hl : xs.length = ys.length) (hd : xs.drop (k + 1) = ys.drop (k + 1)) (h : xs.getD k 0 < ys.getD k 0) : val 16777216 xs < val 16777216 ys := by
  have e1 := val_take_drop 16777216 xs k (by omega)
  have e2 := val_take_drop 16777216 ys k (by omega)
  rw [val_drop 16777216 xs k] at e1
  rw [val_drop 16777216 ys k, ← hd] at e2
  have h1 := val_lt (by decide) (hr.take k)
  rw [List.length_take, Nat.min_eq_left (by omega)] at h1
  have h2 := val_nonneg (by decide) (hr'.take k)
  have h3 : (16777216 : Int) ^ k * (xs.getD k 0 + 16777216 * val 16777216 (xs.drop (k + 1)) + 1) ≤ 16777216 ^ k * (ys.getD k 0 + 16777216 * val 16777216 (xs.drop (k + 1))) :=
    Int.mul_le_mul_of_nonneg_left (by omega) (Int.le_of_lt (pow_pos' (by decide) k))
  rw [Int.mul_add _ _ 1] at h3
  omega
theorem drop_one {xs ys : List Int} {k : Nat} (hk : k < xs.length) (hl : xs.length = ys.length) (hd : xs.drop (k + 1) = ys.drop (k + 1)) (h : xs.getD k 0 = ys.getD k 0) : xs.drop k = ys.drop k := by
  rw [List.drop_eq_getElem_cons hk, List.drop_eq_getElem_cons (show k < ys.length by omega), hd]
  rw [List.getD_eq_getElem?_getD, List.getD_eq_getElem?_getD, List.getElem?_eq_getElem hk, List.getElem?_eq_getElem (show k < ys.length by omega)] at h
  simp at h; rw [h]
set_option maxHeartbeats 4000000 in
theorem s_CmpL (A A' : Option Addr) (n m c c' : Nat) (xs ys : List Int) (w : World) (hn : n = xs.length) (hm : m = ys.length) (h : R64 w A xs) (h' : R64 w A' ys) (hr : Canon 16777216 xs) (hr' : Canon 16777216 ys) (hl : n ≤ 100000) (hl' : m ≤ 100000) :
    Calls Tryz.prog 279 #[.slice A n c, .slice A' m c'] w fun e w' => e = .returned (.int .i64 (cmpI (val 16777216 xs) (val 16777216 ys))) ∧ ∃ d, w' = w.drewN d := by
  have HX : Hd (R64 w A xs) := ⟨h⟩
  have HY : Hd (R64 w A' ys) := ⟨h'⟩
  have HG : Hd (Canon 16777216 xs ∧ Canon 16777216 ys) := ⟨⟨hr, hr'⟩⟩
  have HN : Hd (n = xs.length ∧ m = ys.length) := ⟨⟨hn, hm⟩⟩
  have hnI : (n : Int) ≤ 100000 := by omega
  have hmI : (m : Int) ≤ 100000 := by omega
  clear h h' hr hr' hn hm hl hl'
  by_cases h1 : n < m
  · have HV : Hd (cmpI (val 16777216 xs) (val 16777216 ys) = -1) := ⟨if_pos (HG.out.1.len_lt (by decide) HG.out.2 (by have := HN.out; omega))⟩
    go_enter Tryz.func279, Tryz.ntmps279
    go_wp2
    go_ret
    rw [HV.out]; exact ⟨rfl, 0, rfl⟩
  · by_cases h2 : m < n
    · have HV : Hd (cmpI (val 16777216 xs) (val 16777216 ys) = 1) := ⟨by
        have := HG.out.2.len_lt (by decide) HG.out.1 (by have := HN.out; omega)
        unfold cmpI; rw [if_neg (by omega), if_pos this]⟩
      go_enter Tryz.func279, Tryz.ntmps279
      go_wp2
      go_ret
      rw [HV.out]; exact ⟨rfl, 0, rfl⟩
    · obtain rfl : n = m := by omega
      go_enter Tryz.func279, Tryz.ntmps279
      go_wp2
      go_loopw [5] (fun i wr => ∃ (k d : Nat), (k : Int) ≤ n ∧ i = .int .i64 ((k : Int) - 1) ∧ Hd (xs.drop k = ys.drop k) ∧ wr = w.drewN d)
        (fun i _ => (intOf i + 1).toNat)
      case atStart => exact ⟨n, 0, Int.le_refl _, by go_num, ⟨by have := HN.out; exact (List.drop_eq_nil_of_le (show xs.length ≤ n by omega)).trans (List.drop_eq_nil_of_le (show ys.length ≤ n by omega)).symm⟩, rfl⟩
      case round =>
        obtain ⟨k, d, hk, rfl, HD, rfl⟩ := hrel
        rcases Nat.eq_zero_or_pos k with h0 | h0
        · subst h0
          have HV : Hd (cmpI (val 16777216 xs) (val 16777216 ys) = 0) := ⟨by have := HD.out; simp at this; rw [this]; simp [cmpI]⟩
          go_wp2
          go_ret
          rw [HV.out]; exact ⟨rfl, d, rfl⟩
        · obtain ⟨j, rfl⟩ : ∃ j, k = j + 1 := ⟨k - 1, by omega⟩
          obtain ⟨ad, rfl, hcx⟩ := HX.out.at_ (k := j) (by have := HN.out; omega)
          obtain ⟨ad', rfl, hcy⟩ := HY.out.at_ (k := j) (by have := HN.out; omega)
          generalize hex : xs.getD j 0 = x at *
          have HEx : Hd (xs.getD j 0 = x) := ⟨hex⟩
          generalize hey : ys.getD j 0 = y at *
          have HEy : Hd (ys.getD j 0 = y) := ⟨hey⟩
          clear hex hey
          have hj : j < n := by omega
          have he : ((↑(j + 1) : Int) - 1) = j := by omega
          rw [he]; clear he hk h0
          by_cases hxy : x = y
          · have hd : (x == y) = true := by simpa using hxy
            have HS : Hd (xs.drop j = ys.drop j) := ⟨drop_one (by have := HN.out; omega) (by have := HN.out; omega) HD.out (by rw [HEx.out, HEy.out, hxy])⟩
            clear hxy
            go_wp2
            go_region
            go_wp2
            go_roundw
            case rel => exact ⟨j, _, by omega, by go_num, HS, rfl⟩
            case measure => simp [intOf]
          · have hd : (x == y) = false := by simpa using hxy
            by_cases hlt : x < y
            · have HV : Hd (cmpI (val 16777216 xs) (val 16777216 ys) = -1) := ⟨if_pos (cmp_digit HG.out.1.1 HG.out.2.1 (by have := HN.out; omega) (by have := HN.out; omega) HD.out (by rw [HEx.out, HEy.out]; exact hlt))⟩
              clear hxy
              go_wp2
              go_region
              go_wp2
              go_region
              go_wp2
              go_ret
              rw [HV.out]; exact ⟨rfl, _, rfl⟩
            · have HV : Hd (cmpI (val 16777216 xs) (val 16777216 ys) = 1) := ⟨by
                have := cmp_digit HG.out.2.1 HG.out.1.1 (by have := HN.out; omega) (by have := HN.out; omega) HD.out.symm (by rw [HEx.out, HEy.out]; omega)
                unfold cmpI; rw [if_neg (by omega), if_pos this]⟩
              have hd2 : decide (x < y) = false := decide_eq_false hlt
              clear hxy hlt
              go_wp2
              go_region
              go_wp2
              go_region
              go_wp2
              go_ret
              rw [HV.out]; exact ⟨rfl, _, rfl⟩
/-- the world with the result's cell -/
def W0 (w : World) : World := w.alloc (Obj.cells #[Value.int .i64 0, Value.slice none 0 0] 64)
/-- a small integer as a whole number -/
theorem small_digits (n : Int) (h0 : n ≠ 0) (h : -16777216 < n ∧ n < 16777216) : Rng 16777216 [(n.natAbs : Int)] ∧ val 16777216 [(n.natAbs : Int)] = (n.natAbs : Int) := by
  refine ⟨Rng.cons (by omega) (by omega) (Rng.nil _), ?_⟩
  show (n.natAbs : Int) + 16777216 * 0 = _; omega
set_option maxHeartbeats 4000000 in
theorem s_Of (n : Int) (w : World) (h : -16777216 < n ∧ n < 16777216) (hb : Bd n) :
    Calls Tryz.prog 213 #[.int .i64 n] w (RetWh n w) := by
  have HB0 : Hd (Bd n) := ⟨hb⟩
  have H1 : Hd (-16777216 < n ∧ n < 16777216) := ⟨h⟩
  have ht : n.tmod 16777216 = n := by
    rcases Int.le_total 0 n with k | k
    · exact Int.tmod_eq_of_lt k h.2
    · obtain ⟨m, hm⟩ : ∃ m, n = -m := ⟨-n, by omega⟩
      rw [hm, Int.neg_tmod, Int.tmod_eq_of_lt (by omega) (by omega)]
  have hq : n.tdiv 16777216 = 0 := by
    rcases Int.le_total 0 n with k | k
    · exact Int.tdiv_eq_zero_of_lt k h.2
    · obtain ⟨m, hm⟩ : ∃ m, n = -m := ⟨-n, by omega⟩
      rw [hm, Int.neg_tdiv, Int.tdiv_eq_zero_of_lt (by omega) (by omega)]; rfl
  have h1 : -16777216 < n := h.1
  have h2 : n < 16777216 := h.2
  clear h hb
  have HBW : Hd (Below w.heap.size w (W0 w)) := ⟨(Below.refl _ _).alloc (Nat.le_refl _) _⟩
  by_cases h0 : n = 0
  · subst h0
    go_enter Tryz.func213, Tryz.ntmps213
    go_wp2
    go_loopw [0, 4] (fun i v wr => i = .int .i64 0 ∧ Hd (O64 wr (w.heap.size + 1) v []) ∧ Hd (Below (W0 w).heap.size (W0 w) wr)) (fun _ _ _ => 0)
    case atStart => exact ⟨rfl, ⟨by have := own_empty (W0 w) (w.heap.size + 1) (by simp [W0]); simpa [W0] using this⟩, ⟨(Below.refl _ _).alloc (Nat.le_refl _) _⟩⟩
    case round =>
      obtain ⟨rfl, HO, HB⟩ := hrel
      obtain ⟨A1, c1, hv, hR⟩ := HO.out.form
      have HR : Hd (R64 wr A1 []) := ⟨hR⟩
      subst hv
      clear hR
      have HK := Hd.mk (s_MakeW 1 A1 0 c1 [] 0 wr rfl HR.out (by unfold LIM; simp) (by first | exact HC.out | simp) (Rng.nil _) (Or.inl rfl) rfl HB0.out)
      go_wp2_with (go_at_call 258; (with_reducible refine HK.out.mono ?_); rintro e w2 ⟨s2, A2, n2, c2, rfl, hW, hb2⟩; have HW2 : Hd (WhO w2 (w.heap.size + 1) s2 A2 n2 c2 0) := ⟨hW.mono (by have := HB.out.size; simp [W0] at this; omega)⟩; have hb := bt3 hb2 HB.out; clear hW hb2; unfold W0 at hb; obtain ⟨hc, hf, hz, hy⟩ := bcell hb; have hs := hb.size; (try simp at hs); have h0' : w.heap.size < w2.heap.size := (by omega); clear hs)
      refine bodyPost_ret (v := .agg #[.int .i64 s2, .slice A2 n2 c2]) (by simp (maxDischargeDepth := 7) [results, Tryz.results213, go_sem, *]) rfl ⟨s2, A2, n2, c2, rfl, ?_, ?_⟩
      · exact ((HW2.out.set _ _ (by omega) _).set _ _ (by omega) _).mono (by omega)
      · (repeat (first | exact Below.refl _ _ | refine Below.drew ?_ | refine ba _ ?_ | refine bs0 _ _ ?_ ?_ | refine bs1 _ _ _ ?_ ?_ | refine bt3 (by assumption) ?_))
  · by_cases hp : 0 < n
    · have HP : Hd (0 < n) := ⟨by omega⟩
      have HZ : Hd (n ≠ 0) := ⟨h0⟩
      have hd : (n == 0) = false := by simpa using h0
      have hq0 : 0 ≤ n := by omega
      go_enter Tryz.func213, Tryz.ntmps213
      go_wp2
      go_loopw [0, 4] (fun i v wr => ((i = .int .i64 n ∧ Hd (O64 wr (w.heap.size + 1) v [])) ∨ (i = .int .i64 0 ∧ Hd (O64 wr (w.heap.size + 1) v [(n.natAbs : Int)]))) ∧ Hd (Below (W0 w).heap.size (W0 w) wr)) (fun i _ _ => (intOf i).natAbs)
      case atStart => exact ⟨Or.inl ⟨rfl, ⟨by have := own_empty (W0 w) (w.heap.size + 1) (by simp [W0]); simpa [W0] using this⟩⟩, ⟨(Below.refl _ _).alloc (Nat.le_refl _) _⟩⟩
      case round =>
        obtain ⟨⟨rfl, HO⟩ | ⟨rfl, HO⟩, HB⟩ := hrel
        · go_wp2_with (at_builtin; refine wpList_push64 _ rfl (.tmp 17) (.tmp 19) rfl (w.heap.size + 1) _ [] rfl (HO.out.alloc _) wr.heap.size 1 _ rfl ((Blk.new _ _ _).cell 0) (by unfold LIM; decide) (by have := HB.out.size; simp [W0] at this ⊢; omega) ?_; intro v1 w1 ho1 hb1; have HO1 : Hd (O64 w1 (w.heap.size + 1) v1 _) := ⟨ho1⟩; have HB1 : Hd (Below (W0 w).heap.size (W0 w) w1) := ⟨((HB.out.alloc HB.out.size _)).trans (by have := hb1; simpa [W0] using this)⟩; clear ho1 hb1)
          go_roundw
          case rel => exact ⟨Or.inr ⟨by go_num, by rw [show (n.natAbs : Int) = n by omega]; exact HO1⟩, HB1⟩
          case measure => simp [intOf]; omega
        · obtain ⟨A1, c1, hv, hR⟩ := HO.out.form
          have HR : Hd (R64 wr A1 [(n.natAbs : Int)]) := ⟨hR⟩
          have HC : Hd (1 ≤ c1) := ⟨by subst hv; exact HO.out.cap.2⟩
          subst hv
          clear hR
          have HK := Hd.mk (s_MakeW 1 A1 1 c1 [(n.natAbs : Int)] n wr rfl HR.out (by unfold LIM; simp) (by first | exact HC.out | simp) (small_digits n HZ.out H1.out).1 (Or.inl rfl) (by rw [(small_digits n HZ.out H1.out).2]; have := HP.out; omega) HB0.out)
          go_wp2_with (go_at_call 258; (with_reducible refine HK.out.mono ?_); rintro e w2 ⟨s2, A2, n2, c2, rfl, hW, hb2⟩; have HW2 : Hd (WhO w2 (w.heap.size + 1) s2 A2 n2 c2 n) := ⟨hW.mono (by have := HB.out.size; simp [W0] at this; omega)⟩; have hb := bt3 hb2 HB.out; clear hW hb2; unfold W0 at hb; obtain ⟨hc, hf, hz, hy⟩ := bcell hb; have hs := hb.size; (try simp at hs); have h0' : w.heap.size < w2.heap.size := (by omega); clear hs)
          refine bodyPost_ret (v := .agg #[.int .i64 s2, .slice A2 n2 c2]) (by simp (maxDischargeDepth := 7) [results, Tryz.results213, go_sem, *]) rfl ⟨s2, A2, n2, c2, rfl, ?_, ?_⟩
          · exact ((HW2.out.set _ _ (by omega) _).set _ _ (by omega) _).mono (by omega)
          · (repeat (first | exact Below.refl _ _ | refine Below.drew ?_ | refine ba _ ?_ | refine bs0 _ _ ?_ ?_ | refine bs1 _ _ _ ?_ ?_ | refine bt3 (by assumption) ?_))
    · have HP : Hd (n < 0) := ⟨by omega⟩
      have HZ : Hd (n ≠ 0) := ⟨h0⟩
      have hd : (n == 0) = false := by simpa using h0
      have hq0 : n < 0 := by omega
      go_enter Tryz.func213, Tryz.ntmps213
      go_wp2
      go_loopw [0, 4] (fun i v wr => ((i = .int .i64 n ∧ Hd (O64 wr (w.heap.size + 1) v [])) ∨ (i = .int .i64 0 ∧ Hd (O64 wr (w.heap.size + 1) v [(n.natAbs : Int)]))) ∧ Hd (Below (W0 w).heap.size (W0 w) wr)) (fun i _ _ => (intOf i).natAbs)
      case atStart => exact ⟨Or.inl ⟨rfl, ⟨by have := own_empty (W0 w) (w.heap.size + 1) (by simp [W0]); simpa [W0] using this⟩⟩, ⟨(Below.refl _ _).alloc (Nat.le_refl _) _⟩⟩
      case round =>
        obtain ⟨⟨rfl, HO⟩ | ⟨rfl, HO⟩, HB⟩ := hrel
        · go_wp2_with (at_builtin; refine wpList_push64 _ rfl (.tmp 17) (.tmp 19) rfl (w.heap.size + 1) _ [] rfl (HO.out.alloc _) wr.heap.size 1 _ rfl ((Blk.new _ _ _).cell 0) (by unfold LIM; decide) (by have := HB.out.size; simp [W0] at this ⊢; omega) ?_; intro v1 w1 ho1 hb1; have HO1 : Hd (O64 w1 (w.heap.size + 1) v1 _) := ⟨ho1⟩; have HB1 : Hd (Below (W0 w).heap.size (W0 w) w1) := ⟨((HB.out.alloc HB.out.size _)).trans (by have := hb1; simpa [W0] using this)⟩; clear ho1 hb1)
          go_roundw
          case rel => exact ⟨Or.inr ⟨by go_num, by rw [show (n.natAbs : Int) = -n by omega]; exact HO1⟩, HB1⟩
          case measure => simp [intOf]; omega
        · obtain ⟨A1, c1, hv, hR⟩ := HO.out.form
          have HR : Hd (R64 wr A1 [(n.natAbs : Int)]) := ⟨hR⟩
          have HC : Hd (1 ≤ c1) := ⟨by subst hv; exact HO.out.cap.2⟩
          subst hv
          clear hR
          have HK := Hd.mk (s_MakeW (-1) A1 1 c1 [(n.natAbs : Int)] n wr rfl HR.out (by unfold LIM; simp) (by first | exact HC.out | simp) (small_digits n HZ.out H1.out).1 (Or.inr (Or.inl rfl)) (by rw [(small_digits n HZ.out H1.out).2]; have := HP.out; omega) HB0.out)
          go_wp2_with (go_at_call 258; (with_reducible refine HK.out.mono ?_); rintro e w2 ⟨s2, A2, n2, c2, rfl, hW, hb2⟩; have HW2 : Hd (WhO w2 (w.heap.size + 1) s2 A2 n2 c2 n) := ⟨hW.mono (by have := HB.out.size; simp [W0] at this; omega)⟩; have hb := bt3 hb2 HB.out; clear hW hb2; unfold W0 at hb; obtain ⟨hc, hf, hz, hy⟩ := bcell hb; have hs := hb.size; (try simp at hs); have h0' : w.heap.size < w2.heap.size := (by omega); clear hs)
          refine bodyPost_ret (v := .agg #[.int .i64 s2, .slice A2 n2 c2]) (by simp (maxDischargeDepth := 7) [results, Tryz.results213, go_sem, *]) rfl ⟨s2, A2, n2, c2, rfl, ?_, ?_⟩
          · exact ((HW2.out.set _ _ (by omega) _).set _ _ (by omega) _).mono (by omega)
          · (repeat (first | exact Below.refl _ _ | refine Below.drew ?_ | refine ba _ ?_ | refine bs0 _ _ ?_ ?_ | refine bs1 _ _ _ ?_ ?_ | refine bt3 (by assumption) ?_))
end Go.Proofs.YtflgjecpjaiecaaGreat
/- Contracts: sums of whole numbers of the reference. -/
set_option linter.unusedVariables false
set_option linter.unusedSimpArgs false
namespace Go.Proofs.YtflgjecpjaiecaaGreat
open Go.RowKit Num
theorem NumS.zero {s : Int} {xs : List Int} {a : Int} (h : NumS s xs a) : s = 0 ↔ a = 0 := by
  rcases h.sgn with ⟨h1, h2⟩ | ⟨h1, h2⟩
  · subst h1 h2; have := h.eq; simp [val] at this; simp [this]
  · have h3 := h.can.pos (by decide) h2
    have := h.eq
    rcases h1 with rfl | rfl <;> constructor <;> intro h4 <;> omega
theorem NumS.one {s : Int} {xs : List Int} {a : Int} (h : NumS s xs a) (h0 : s ≠ 0) : (s = 1 ∨ s = -1) ∧ 0 < val 16777216 xs ∧ xs ≠ [] := by
  rcases h.sgn with ⟨h1, h2⟩ | ⟨h1, h2⟩
  · exact absurd h1 h0
  · exact ⟨h1, h.can.pos (by decide) h2, h2⟩
theorem NumS.sg {s : Int} {xs : List Int} {a : Int} (h : NumS s xs a) : s = 1 ∨ s = -1 ∨ val 16777216 xs = 0 := by
  rcases h.sgn with ⟨h1, h2⟩ | ⟨h1, h2⟩
  · subst h2; exact .inr (.inr rfl)
  · rcases h1 with h1 | h1
    · exact .inl h1
    · exact .inr (.inl h1)
/-- the parts of a whole number in memory -/
structure WhD (w : World) (s : Int) (A : Option Addr) (n c : Nat) (xs : List Int) (a : Int) : Prop where
  len : n = xs.length
  cap : n ≤ c
  lim : n ≤ LIM
  lim5 : n ≤ 100000
  num : NumS s xs a
  can : Canon 16777216 xs
  rng : Rng 16777216 xs
  sg : s = 1 ∨ s = -1 ∨ val 16777216 xs = 0
  reads : R64 w A xs
theorem WhP.opened {w : World} {s : Int} {A : Option Addr} {n c : Nat} {a : Int} (h : WhP w s A n c a) : ∃ xs, WhD w s A n c xs a := by
  obtain ⟨xs, h1, h2, h3, h4, h5⟩ := h
  exact ⟨xs, h1, h2, by unfold LIM; omega, h3, h4, h4.can, h4.can.1, h4.sg, h5⟩
theorem limz {n : Nat} {zs : List Int} (h : n = zs.length) (k : zs.length ≤ 100001) : n ≤ LIM := by unfold LIM; omega
theorem sg2 {s v : Int} (h : s = 1 ∨ s = -1) : s = 1 ∨ s = -1 ∨ v = 0 := by omega
theorem lim5 {n : Nat} (h : n ≤ 100000) : n ≤ LIM := by unfold LIM; omega
set_option maxHeartbeats 4000000 in
theorem s_Add0 (s t : Int) (A A' : Option Addr) (n m c c' : Nat) (a b : Int) (w : World) (hX : WhP w s A n c a) (hY : WhP w t A' m c' b) (hb0 : Bd (a + b)) (h0 : s = 0) :
    Calls Tryz.prog 253 #[.agg #[.int .i64 s, .slice A n c], .agg #[.int .i64 t, .slice A' m c']] w (RetWh (a + b) w) := by
  obtain ⟨xs, hX⟩ := hX.opened
  obtain ⟨ys, hY⟩ := hY.opened
  have HX : Hd (WhD w s A n c xs a) := ⟨hX⟩
  have HY : Hd (WhD w t A' m c' ys b) := ⟨hY⟩
  have HB0 : Hd (Bd (a + b)) := ⟨hb0⟩
  have ha : a = 0 := hX.num.zero.1 h0
  have HE : Hd (a + b = t * val 16777216 ys) := ⟨by rw [ha, ← hY.num.eq]; omega⟩
  subst h0
  clear ha
  clear hX hY hb0
  go_enter Tryz.func253, Tryz.ntmps253
  go_wp2_with (go_at_call 258; (with_reducible refine (s_MakeW t A' m c' ys (a + b) _ HY.out.len (HY.out.reads.below (by (repeat (first | exact Below.refl _ _ | assumption | refine Below.drew ?_ | refine bdn ?_ | refine ba _ ?_ | refine bs0 _ _ ?_ ?_ | refine bs1 _ _ _ ?_ ?_ | refine bs2 _ _ _ _ ?_ ?_ | refine bt3 (by assumption) ?_)))) HY.out.lim HY.out.cap HY.out.rng HY.out.sg HE.out HB0.out).mono ?_); rintro e w2 ⟨s2, A2, n2, c2, rfl, hW, hq⟩; have HW2 : Hd (WhO w2 (w.heap.size + 1 + 1 + 1) s2 A2 n2 c2 (a + b)) := ⟨hW.mono (by simp)⟩; clear hW; obtain ⟨hc, hf, hz, hy⟩ := bcell hq; have hs := hq.size; (try simp at hs); have h0' : w.heap.size < w2.heap.size := (by omega); have h1' : w.heap.size + 1 < w2.heap.size := (by omega); have h2' : w.heap.size + 1 + 1 < w2.heap.size := (by omega); clear hs)
  refine bodyPost_ret (v := .agg #[.int .i64 s2, .slice A2 n2 c2]) (by simp (maxDischargeDepth := 7) [results, Tryz.results253, go_sem, *]) rfl ⟨s2, A2, n2, c2, rfl, ?_, ?_⟩
  · exact ((HW2.out.set _ _ (by omega) _).set _ _ (by omega) _).mono (by omega)
  · (repeat (first | exact Below.refl _ _ | assumption | refine Below.drew ?_ | refine bdn ?_ | refine ba _ ?_ | refine bs0 _ _ ?_ ?_ | refine bs1 _ _ _ ?_ ?_ | refine bs2 _ _ _ _ ?_ ?_ | refine bt3 (by assumption) ?_))
set_option maxHeartbeats 4000000 in
theorem s_Add1 (s t : Int) (A A' : Option Addr) (n m c c' : Nat) (a b : Int) (w : World) (hX : WhP w s A n c a) (hY : WhP w t A' m c' b) (hb0 : Bd (a + b)) (h0 : s ≠ 0) (h1 : t = 0) :
    Calls Tryz.prog 253 #[.agg #[.int .i64 s, .slice A n c], .agg #[.int .i64 t, .slice A' m c']] w (RetWh (a + b) w) := by
  obtain ⟨xs, hX⟩ := hX.opened
  obtain ⟨ys, hY⟩ := hY.opened
  have HX : Hd (WhD w s A n c xs a) := ⟨hX⟩
  have HY : Hd (WhD w t A' m c' ys b) := ⟨hY⟩
  have HB0 : Hd (Bd (a + b)) := ⟨hb0⟩
  have ha : b = 0 := hY.num.zero.1 h1
  have HE : Hd (a + b = s * val 16777216 xs) := ⟨by rw [ha, ← hX.num.eq]; omega⟩
  have e0 : (s == 0) = false := by simpa using h0
  subst h1
  clear ha h0
  clear hX hY hb0
  go_enter Tryz.func253, Tryz.ntmps253
  go_wp2_with (go_at_call 258; (with_reducible refine (s_MakeW s A n c xs (a + b) _ HX.out.len (HX.out.reads.below (by (repeat (first | exact Below.refl _ _ | assumption | refine Below.drew ?_ | refine bdn ?_ | refine ba _ ?_ | refine bs0 _ _ ?_ ?_ | refine bs1 _ _ _ ?_ ?_ | refine bs2 _ _ _ _ ?_ ?_ | refine bt3 (by assumption) ?_)))) HX.out.lim HX.out.cap HX.out.rng HX.out.sg HE.out HB0.out).mono ?_); rintro e w2 ⟨s2, A2, n2, c2, rfl, hW, hq⟩; have HW2 : Hd (WhO w2 (w.heap.size + 1 + 1 + 1) s2 A2 n2 c2 (a + b)) := ⟨hW.mono (by simp)⟩; clear hW; obtain ⟨hc, hf, hz, hy⟩ := bcell hq; have hs := hq.size; (try simp at hs); have h0' : w.heap.size < w2.heap.size := (by omega); have h1' : w.heap.size + 1 < w2.heap.size := (by omega); have h2' : w.heap.size + 1 + 1 < w2.heap.size := (by omega); clear hs)
  refine bodyPost_ret (v := .agg #[.int .i64 s2, .slice A2 n2 c2]) (by simp (maxDischargeDepth := 7) [results, Tryz.results253, go_sem, *]) rfl ⟨s2, A2, n2, c2, rfl, ?_, ?_⟩
  · exact ((HW2.out.set _ _ (by omega) _).set _ _ (by omega) _).mono (by omega)
  · (repeat (first | exact Below.refl _ _ | assumption | refine Below.drew ?_ | refine bdn ?_ | refine ba _ ?_ | refine bs0 _ _ ?_ ?_ | refine bs1 _ _ _ ?_ ?_ | refine bs2 _ _ _ _ ?_ ?_ | refine bt3 (by assumption) ?_))
set_option maxHeartbeats 4000000 in
theorem s_Add2 (s t : Int) (A A' : Option Addr) (n m c c' : Nat) (a b : Int) (w : World) (hX : WhP w s A n c a) (hY : WhP w t A' m c' b) (hb0 : Bd (a + b)) (h0 : s ≠ 0) (h1 : t ≠ 0) (h2 : s = t) :
    Calls Tryz.prog 253 #[.agg #[.int .i64 s, .slice A n c], .agg #[.int .i64 t, .slice A' m c']] w (RetWh (a + b) w) := by
  obtain ⟨xs, hX⟩ := hX.opened
  obtain ⟨ys, hY⟩ := hY.opened
  have HX : Hd (WhD w s A n c xs a) := ⟨hX⟩
  have HY : Hd (WhD w t A' m c' ys b) := ⟨hY⟩
  have HB0 : Hd (Bd (a + b)) := ⟨hb0⟩
  have HV : Hd (a + b = s * (val 16777216 xs + val 16777216 ys)) := ⟨by rw [hX.num.eq, hY.num.eq, ← h2, Int.mul_add]⟩
  have HS1 : Hd (s = 1 ∨ s = -1) := ⟨(hX.num.one h0).1⟩
  have e0 : (s == 0) = false := by simpa using h0
  subst h2
  clear h0 h1
  clear hX hY hb0
  go_enter Tryz.func253, Tryz.ntmps253
  go_wp2_with fail
  have d1 : ¬ (w.heap.size + 1 + 1 = w.heap.size) := by omega
  have d2 : ¬ (w.heap.size = w.heap.size + 1 + 1) := by omega
  go_region_held3 (fun w' => w'.cell? ⟨w.heap.size, 0, none⟩ = some (.int .i64 s) ∧ w'.cell? ⟨w.heap.size, 1, none⟩ = some (.slice A n c) ∧ w'.cell? ⟨w.heap.size + 1, 0, none⟩ = some (.int .i64 s) ∧ w'.cell? ⟨w.heap.size + 1, 1, none⟩ = some (.slice A' m c')) ((first | assumption | (exact keep4 hq (by first | assumption | (refine ⟨?_, ?_, ?_, ?_⟩ <;> go_simp))) | go_keep | (constructor <;> go_simp)))
    (first | (go_at_call 278; (with_reducible refine (s_PlusL A A' n m c c' xs ys _ HX.out.len HY.out.len (HX.out.reads.below (by (repeat (first | exact Below.refl _ _ | assumption | refine Below.drew ?_ | refine bdn ?_ | refine ba _ ?_ | refine bs0 _ _ ?_ ?_ | refine bs1 _ _ _ ?_ ?_ | refine bs2 _ _ _ _ ?_ ?_ | refine bt3 (by assumption) ?_)))) (HY.out.reads.below (by (repeat (first | exact Below.refl _ _ | assumption | refine Below.drew ?_ | refine bdn ?_ | refine ba _ ?_ | refine bs0 _ _ ?_ ?_ | refine bs1 _ _ _ ?_ ?_ | refine bs2 _ _ _ _ ?_ ?_ | refine bt3 (by assumption) ?_)))) HX.out.rng HY.out.rng HX.out.lim5 HY.out.lim5).mono ?_); rintro e w1 ⟨A1, n1, c1, zs, rfl, hn1, ⟨hz1, hz2, hz3⟩, hO, hq⟩; have HO1 : Hd (n1 = zs.length ∧ Rng 16777216 zs ∧ zs.length ≤ 100001 ∧ val 16777216 zs = _) := ⟨⟨hn1, hz1, hz2, hz3⟩⟩; have HOO : Hd (O64 w1 _ (.slice A1 n1 c1) zs) := ⟨hO⟩; have HQ : Hd (Below _ _ w1) := ⟨hq⟩; clear hn1 hz1 hz2 hz3 hO) | (go_at_call 258; (with_reducible refine (s_MakeW s A1 n1 c1 zs (a + b) w1 HO1.out.1 HOO.out.reads (limz HO1.out.1 HO1.out.2.2.1) HOO.out.cap.2 HO1.out.2.1 (sg2 HS1.out) (by rw [HO1.out.2.2.2]; exact HV.out) HB0.out).mono ?_); rintro e w2 ⟨s2, A2, n2, c2, rfl, hW, hq2⟩; replace hq := bt3 hq2 HQ.out; have HW2 : Hd (WhO w2 (w.heap.size + 1 + 1 + 1) s2 A2 n2 c2 (a + b)) := ⟨hW.mono (by have := HQ.out.size; simpa using this)⟩; clear hW hq2; obtain ⟨hc, hf, hz, hy⟩ := bcell hq; have hs := hq.size; (try simp at hs); have h0' : w.heap.size < w2.heap.size := (by omega); have h1' : w.heap.size + 1 < w2.heap.size := (by omega); have h2' : w.heap.size + 1 + 1 < w2.heap.size := (by omega); clear hs))
  go_wp2_with fail
  refine bodyPost_ret (v := .agg #[.int .i64 s2, .slice A2 n2 c2]) (by simp (maxDischargeDepth := 7) [results, Tryz.results253, go_sem, *]) rfl ⟨s2, A2, n2, c2, rfl, ?_, ?_⟩
  · exact ((HW2.out.set _ _ (by omega) _).set _ _ (by omega) _).mono (by omega)
  · (repeat (first | exact Below.refl _ _ | assumption | refine Below.drew ?_ | refine bdn ?_ | refine ba _ ?_ | refine bs0 _ _ ?_ ?_ | refine bs1 _ _ _ ?_ ?_ | refine bs2 _ _ _ _ ?_ ?_ | refine bt3 (by assumption) ?_))
theorem NumS.neg_sign {s t : Int} {xs ys : List Int} {a b : Int} (h : NumS s xs a) (k : NumS t ys b) (h0 : s ≠ 0) (h1 : t ≠ 0) (h2 : s ≠ t) : t = -s := by
  have h3 := (h.one h0).1; have h4 := (k.one h1).1; omega
theorem len_le {xs ys : List Int} {n m : Nat} (hn : n = xs.length) (hm : m = ys.length) (h : Canon 16777216 xs) (k : Canon 16777216 ys) (hv : val 16777216 ys ≤ val 16777216 xs) : m ≤ n := by
  rcases Nat.lt_or_ge n m with h1 | h1
  · have := h.len_lt (by decide) k (by omega); omega
  · exact h1
set_option maxHeartbeats 4000000 in
theorem s_Add3 (s t : Int) (A A' : Option Addr) (n m c c' : Nat) (a b : Int) (w : World) (hX : WhP w s A n c a) (hY : WhP w t A' m c' b) (hb0 : Bd (a + b)) (h0 : s ≠ 0) (h1 : t ≠ 0) (h2 : s ≠ t) (hv : ∀ xs ys, NumS s xs a → NumS t ys b → val 16777216 ys ≤ val 16777216 xs) :
    Calls Tryz.prog 253 #[.agg #[.int .i64 s, .slice A n c], .agg #[.int .i64 t, .slice A' m c']] w (RetWh (a + b) w) := by
  obtain ⟨xs, hX⟩ := hX.opened
  obtain ⟨ys, hY⟩ := hY.opened
  have HX : Hd (WhD w s A n c xs a) := ⟨hX⟩
  have HY : Hd (WhD w t A' m c' ys b) := ⟨hY⟩
  have HB0 : Hd (Bd (a + b)) := ⟨hb0⟩
  replace hv := hv xs ys hX.num hY.num
  have HV : Hd (a + b = s * (val 16777216 xs - val 16777216 ys)) := ⟨by rw [hX.num.eq, hY.num.eq, NumS.neg_sign hX.num hY.num h0 h1 h2, Int.mul_sub, Int.neg_mul]; omega⟩
  have HS1 : Hd (s = 1 ∨ s = -1) := ⟨(hX.num.one h0).1⟩
  have HML : Hd (m ≤ n ∧ val 16777216 ys ≤ val 16777216 xs) := ⟨len_le hX.len hY.len hX.can hY.can hv, hv⟩
  have e0 : (s == 0) = false := by simpa using h0
  have e1 : (t == 0) = false := by simpa using h1
  have e2 : (s == t) = false := by simpa using h2
  have hcge : (0 : Int) ≤ cmpI (val 16777216 xs) (val 16777216 ys) := by unfold cmpI; rw [if_neg (by omega)]; split <;> omega
  clear h0 h1 h2 hv
  clear hX hY hb0
  go_enter Tryz.func253, Tryz.ntmps253
  go_wp2_with (go_at_call 279; (with_reducible refine (s_CmpL A A' n m c c' xs ys _ HX.out.len HY.out.len (HX.out.reads.below (by (repeat (first | exact Below.refl _ _ | assumption | refine Below.drew ?_ | refine bdn ?_ | refine ba _ ?_ | refine bs0 _ _ ?_ ?_ | refine bs1 _ _ _ ?_ ?_ | refine bs2 _ _ _ _ ?_ ?_ | refine bt3 (by assumption) ?_)))) (HY.out.reads.below (by (repeat (first | exact Below.refl _ _ | assumption | refine Below.drew ?_ | refine bdn ?_ | refine ba _ ?_ | refine bs0 _ _ ?_ ?_ | refine bs1 _ _ _ ?_ ?_ | refine bs2 _ _ _ _ ?_ ?_ | refine bt3 (by assumption) ?_)))) HX.out.can HY.out.can HX.out.lim5 HY.out.lim5).mono ?_); rintro e w' ⟨rfl, ⟨nd, rfl⟩⟩)
  have d1 : ¬ (w.heap.size + 1 + 1 = w.heap.size) := by omega
  have d2 : ¬ (w.heap.size = w.heap.size + 1 + 1) := by omega
  go_region_held3 (fun w' => w'.cell? ⟨w.heap.size, 0, none⟩ = some (.int .i64 s) ∧ w'.cell? ⟨w.heap.size, 1, none⟩ = some (.slice A n c) ∧ w'.cell? ⟨w.heap.size + 1, 0, none⟩ = some (.int .i64 t) ∧ w'.cell? ⟨w.heap.size + 1, 1, none⟩ = some (.slice A' m c')) ((first | assumption | (exact keep4 hq (by first | assumption | (refine ⟨?_, ?_, ?_, ?_⟩ <;> go_simp))) | go_keep | (constructor <;> go_simp)))
    (first | (go_at_call 280; (with_reducible refine (s_MinusL A A' n m c c' xs ys _ HX.out.len HY.out.len (HX.out.reads.below (by (repeat (first | exact Below.refl _ _ | assumption | refine Below.drew ?_ | refine bdn ?_ | refine ba _ ?_ | refine bs0 _ _ ?_ ?_ | refine bs1 _ _ _ ?_ ?_ | refine bs2 _ _ _ _ ?_ ?_ | refine bt3 (by assumption) ?_)))) (HY.out.reads.below (by (repeat (first | exact Below.refl _ _ | assumption | refine Below.drew ?_ | refine bdn ?_ | refine ba _ ?_ | refine bs0 _ _ ?_ ?_ | refine bs1 _ _ _ ?_ ?_ | refine bs2 _ _ _ _ ?_ ?_ | refine bt3 (by assumption) ?_)))) HX.out.rng HY.out.rng HX.out.lim5 HML.out.1 HML.out.2).mono ?_); rintro e w1 ⟨A1, n1, c1, zs, rfl, hn1, ⟨hz1, hz2, hz3⟩, hO, hq⟩; have HO1 : Hd (n1 = zs.length ∧ Rng 16777216 zs ∧ zs.length ≤ 100001 ∧ val 16777216 zs = _) := ⟨⟨hn1, hz1, hz2, hz3⟩⟩; have HOO : Hd (O64 w1 _ (.slice A1 n1 c1) zs) := ⟨hO⟩; have HQ : Hd (Below _ _ w1) := ⟨hq⟩; clear hn1 hz1 hz2 hz3 hO) | (go_at_call 258; (with_reducible refine (s_MakeW s A1 n1 c1 zs (a + b) w1 HO1.out.1 HOO.out.reads (limz HO1.out.1 HO1.out.2.2.1) HOO.out.cap.2 HO1.out.2.1 (sg2 HS1.out) (by rw [HO1.out.2.2.2]; exact HV.out) HB0.out).mono ?_); rintro e w2 ⟨s2, A2, n2, c2, rfl, hW, hq2⟩; replace hq := bt3 hq2 HQ.out; have HW2 : Hd (WhO w2 (w.heap.size + 1 + 1 + 1) s2 A2 n2 c2 (a + b)) := ⟨hW.mono (by have := HQ.out.size; simpa using this)⟩; clear hW hq2; obtain ⟨hc, hf, hz, hy⟩ := bcell hq; have hs := hq.size; (try simp at hs); have h0' : w.heap.size < w2.heap.size := (by omega); have h1' : w.heap.size + 1 < w2.heap.size := (by omega); have h2' : w.heap.size + 1 + 1 < w2.heap.size := (by omega); clear hs))
  go_wp2_with fail
  refine bodyPost_ret (v := .agg #[.int .i64 s2, .slice A2 n2 c2]) (by simp (maxDischargeDepth := 7) [results, Tryz.results253, go_sem, *]) rfl ⟨s2, A2, n2, c2, rfl, ?_, ?_⟩
  · exact ((HW2.out.set _ _ (by omega) _).set _ _ (by omega) _).mono (by omega)
  · (repeat (first | exact Below.refl _ _ | assumption | refine Below.drew ?_ | refine bdn ?_ | refine ba _ ?_ | refine bs0 _ _ ?_ ?_ | refine bs1 _ _ _ ?_ ?_ | refine bs2 _ _ _ _ ?_ ?_ | refine bt3 (by assumption) ?_))
set_option maxHeartbeats 4000000 in
theorem s_Add4 (s t : Int) (A A' : Option Addr) (n m c c' : Nat) (a b : Int) (w : World) (hX : WhP w s A n c a) (hY : WhP w t A' m c' b) (hb0 : Bd (a + b)) (h0 : s ≠ 0) (h1 : t ≠ 0) (h2 : s ≠ t) (hv : ∀ xs ys, NumS s xs a → NumS t ys b → val 16777216 xs < val 16777216 ys) :
    Calls Tryz.prog 253 #[.agg #[.int .i64 s, .slice A n c], .agg #[.int .i64 t, .slice A' m c']] w (RetWh (a + b) w) := by
  obtain ⟨xs, hX⟩ := hX.opened
  obtain ⟨ys, hY⟩ := hY.opened
  have HX : Hd (WhD w s A n c xs a) := ⟨hX⟩
  have HY : Hd (WhD w t A' m c' ys b) := ⟨hY⟩
  have HB0 : Hd (Bd (a + b)) := ⟨hb0⟩
  replace hv := hv xs ys hX.num hY.num
  have HV : Hd (a + b = t * (val 16777216 ys - val 16777216 xs)) := ⟨by rw [hX.num.eq, hY.num.eq, NumS.neg_sign hX.num hY.num h0 h1 h2, Int.mul_sub, Int.neg_mul, Int.neg_mul]; omega⟩
  have HS1 : Hd (t = 1 ∨ t = -1) := ⟨(hY.num.one h1).1⟩
  have HML : Hd (n ≤ m ∧ val 16777216 xs ≤ val 16777216 ys) := ⟨len_le hY.len hX.len hY.can hX.can (by omega), by omega⟩
  have e0 : (s == 0) = false := by simpa using h0
  have e1 : (t == 0) = false := by simpa using h1
  have e2 : (s == t) = false := by simpa using h2
  have hcge : cmpI (val 16777216 xs) (val 16777216 ys) = -1 := if_pos hv
  clear h0 h1 h2 hv
  clear hX hY hb0
  go_enter Tryz.func253, Tryz.ntmps253
  go_wp2_with (go_at_call 279; (with_reducible refine (s_CmpL A A' n m c c' xs ys _ HX.out.len HY.out.len (HX.out.reads.below (by (repeat (first | exact Below.refl _ _ | assumption | refine Below.drew ?_ | refine bdn ?_ | refine ba _ ?_ | refine bs0 _ _ ?_ ?_ | refine bs1 _ _ _ ?_ ?_ | refine bs2 _ _ _ _ ?_ ?_ | refine bt3 (by assumption) ?_)))) (HY.out.reads.below (by (repeat (first | exact Below.refl _ _ | assumption | refine Below.drew ?_ | refine bdn ?_ | refine ba _ ?_ | refine bs0 _ _ ?_ ?_ | refine bs1 _ _ _ ?_ ?_ | refine bs2 _ _ _ _ ?_ ?_ | refine bt3 (by assumption) ?_)))) HX.out.can HY.out.can HX.out.lim5 HY.out.lim5).mono ?_); rintro e w' ⟨rfl, ⟨nd, rfl⟩⟩)
  have d1 : ¬ (w.heap.size + 1 + 1 = w.heap.size) := by omega
  have d2 : ¬ (w.heap.size = w.heap.size + 1 + 1) := by omega
  go_region_held3 (fun w' => w'.cell? ⟨w.heap.size, 0, none⟩ = some (.int .i64 s) ∧ w'.cell? ⟨w.heap.size, 1, none⟩ = some (.slice A n c) ∧ w'.cell? ⟨w.heap.size + 1, 0, none⟩ = some (.int .i64 t) ∧ w'.cell? ⟨w.heap.size + 1, 1, none⟩ = some (.slice A' m c')) ((first | assumption | (exact keep4 hq (by first | assumption | (refine ⟨?_, ?_, ?_, ?_⟩ <;> go_simp))) | go_keep | (constructor <;> go_simp)))
    (first | (go_at_call 280; (with_reducible refine (s_MinusL A' A m n c' c ys xs _ HY.out.len HX.out.len (HY.out.reads.below (by (repeat (first | exact Below.refl _ _ | assumption | refine Below.drew ?_ | refine bdn ?_ | refine ba _ ?_ | refine bs0 _ _ ?_ ?_ | refine bs1 _ _ _ ?_ ?_ | refine bs2 _ _ _ _ ?_ ?_ | refine bt3 (by assumption) ?_)))) (HX.out.reads.below (by (repeat (first | exact Below.refl _ _ | assumption | refine Below.drew ?_ | refine bdn ?_ | refine ba _ ?_ | refine bs0 _ _ ?_ ?_ | refine bs1 _ _ _ ?_ ?_ | refine bs2 _ _ _ _ ?_ ?_ | refine bt3 (by assumption) ?_)))) HY.out.rng HX.out.rng HY.out.lim5 HML.out.1 HML.out.2).mono ?_); rintro e w1 ⟨A1, n1, c1, zs, rfl, hn1, ⟨hz1, hz2, hz3⟩, hO, hq⟩; have HO1 : Hd (n1 = zs.length ∧ Rng 16777216 zs ∧ zs.length ≤ 100001 ∧ val 16777216 zs = _) := ⟨⟨hn1, hz1, hz2, hz3⟩⟩; have HOO : Hd (O64 w1 _ (.slice A1 n1 c1) zs) := ⟨hO⟩; have HQ : Hd (Below _ _ w1) := ⟨hq⟩; clear hn1 hz1 hz2 hz3 hO) | (go_at_call 258; (with_reducible refine (s_MakeW t A1 n1 c1 zs (a + b) w1 HO1.out.1 HOO.out.reads (limz HO1.out.1 HO1.out.2.2.1) HOO.out.cap.2 HO1.out.2.1 (sg2 HS1.out) (by rw [HO1.out.2.2.2]; exact HV.out) HB0.out).mono ?_); rintro e w2 ⟨s2, A2, n2, c2, rfl, hW, hq2⟩; replace hq := bt3 hq2 HQ.out; have HW2 : Hd (WhO w2 (w.heap.size + 1 + 1 + 1) s2 A2 n2 c2 (a + b)) := ⟨hW.mono (by have := HQ.out.size; simpa using this)⟩; clear hW hq2; obtain ⟨hc, hf, hz, hy⟩ := bcell hq; have hs := hq.size; (try simp at hs); have h0' : w.heap.size < w2.heap.size := (by omega); have h1' : w.heap.size + 1 < w2.heap.size := (by omega); have h2' : w.heap.size + 1 + 1 < w2.heap.size := (by omega); clear hs))
  go_wp2_with fail
  refine bodyPost_ret (v := .agg #[.int .i64 s2, .slice A2 n2 c2]) (by simp (maxDischargeDepth := 7) [results, Tryz.results253, go_sem, *]) rfl ⟨s2, A2, n2, c2, rfl, ?_, ?_⟩
  · exact ((HW2.out.set _ _ (by omega) _).set _ _ (by omega) _).mono (by omega)
  · (repeat (first | exact Below.refl _ _ | assumption | refine Below.drew ?_ | refine bdn ?_ | refine ba _ ?_ | refine bs0 _ _ ?_ ?_ | refine bs1 _ _ _ ?_ ?_ | refine bs2 _ _ _ _ ?_ ?_ | refine bt3 (by assumption) ?_))
theorem NumS.uniq {s : Int} {xs ys : List Int} {a : Int} (h : NumS s xs a) (k : NumS s ys a) (h0 : s ≠ 0) : val 16777216 xs = val 16777216 ys := by
  have h1 := h.eq; have h2 := k.eq
  rcases (h.one h0).1 with rfl | rfl <;> omega
/-- the sum of two whole numbers -/
theorem s_AddW (s t : Int) (A A' : Option Addr) (n m c c' : Nat) (a b : Int) (w : World) (hX : WhP w s A n c a) (hY : WhP w t A' m c' b) (hb0 : Bd (a + b)) :
    Calls Tryz.prog 253 #[.agg #[.int .i64 s, .slice A n c], .agg #[.int .i64 t, .slice A' m c']] w (RetWh (a + b) w) := by
  by_cases h0 : s = 0
  · exact s_Add0 s t A A' n m c c' a b w hX hY hb0 h0
  · by_cases h1 : t = 0
    · exact s_Add1 s t A A' n m c c' a b w hX hY hb0 h0 h1
    · by_cases h2 : s = t
      · exact s_Add2 s t A A' n m c c' a b w hX hY hb0 h0 h1 h2
      · obtain ⟨xs, kX⟩ := hX.opened
        obtain ⟨ys, kY⟩ := hY.opened
        rcases Int.lt_or_le (val 16777216 xs) (val 16777216 ys) with hv | hv
        · exact s_Add4 s t A A' n m c c' a b w hX hY hb0 h0 h1 h2 (fun us vs hu hv' => by rw [hu.uniq kX.num h0, hv'.uniq kY.num h1]; exact hv)
        · exact s_Add3 s t A A' n m c c' a b w hX hY hb0 h0 h1 h2 (fun us vs hu hv' => by rw [hu.uniq kX.num h0, hv'.uniq kY.num h1]; exact hv)
set_option maxHeartbeats 4000000 in
theorem s_NegW (s : Int) (A : Option Addr) (n c : Nat) (a : Int) (w : World) (hX : WhP w s A n c a) (hb0 : Bd (-a)) :
    Calls Tryz.prog 262 #[.agg #[.int .i64 s, .slice A n c]] w (RetWh (-a) w) := by
  obtain ⟨xs, hX⟩ := hX.opened
  have HX : Hd (WhD w s A n c xs a) := ⟨hX⟩
  have HB0 : Hd (Bd (-a)) := ⟨hb0⟩
  have HE : Hd ((-a) = (-s) * val 16777216 xs) := ⟨by rw [hX.num.eq, Int.neg_mul]⟩
  have HS1 : Hd ((-s) = 1 ∨ (-s) = -1 ∨ val 16777216 xs = 0) := ⟨by rcases hX.sg with h | h | h <;> simp [h]⟩
  have hs3 : s = 0 ∨ s = 1 ∨ s = -1 := by rcases hX.num.sgn with h | h <;> omega
  clear hX hb0
  rcases hs3 with rfl | rfl | rfl
  · have HE2 : Hd ((-a) = 0 * val 16777216 xs) := ⟨by have := HE.out; omega⟩
    have HS2 : Hd ((0 : Int) = 1 ∨ (0 : Int) = -1 ∨ val 16777216 xs = 0) := ⟨by have := HS1.out; omega⟩
    clear HE HS1
    go_enter Tryz.func262, Tryz.ntmps262
    go_wp2_with (go_at_call 258; (with_reducible refine (s_MakeW 0 A n c xs (-a) _ HX.out.len (HX.out.reads.below (by (repeat (first | exact Below.refl _ _ | assumption | refine Below.drew ?_ | refine bdn ?_ | refine ba _ ?_ | refine bs0 _ _ ?_ ?_ | refine bs1 _ _ _ ?_ ?_ | refine bs2 _ _ _ _ ?_ ?_ | refine bt3 (by assumption) ?_)))) HX.out.lim HX.out.cap HX.out.rng HS2.out HE2.out HB0.out).mono ?_); rintro e w2 ⟨s2, A2, n2, c2, rfl, hW, hq⟩; have HW2 : Hd (WhO w2 (w.heap.size + 1 + 1) s2 A2 n2 c2 (-a)) := ⟨hW.mono (by simp)⟩; clear hW; obtain ⟨hc, hf, hz, hy⟩ := bcell hq; have hs := hq.size; (try simp at hs); have h0' : w.heap.size < w2.heap.size := (by omega); have h1' : w.heap.size + 1 < w2.heap.size := (by omega); clear hs)
    refine bodyPost_ret (v := .agg #[.int .i64 s2, .slice A2 n2 c2]) (by simp (maxDischargeDepth := 7) [results, Tryz.results262, go_sem, *]) rfl ⟨s2, A2, n2, c2, rfl, ?_, ?_⟩
    · exact ((HW2.out.set _ _ (by omega) _).set _ _ (by omega) _).mono (by omega)
    · (repeat (first | exact Below.refl _ _ | assumption | refine Below.drew ?_ | refine bdn ?_ | refine ba _ ?_ | refine bs0 _ _ ?_ ?_ | refine bs1 _ _ _ ?_ ?_ | refine bs2 _ _ _ _ ?_ ?_ | refine bt3 (by assumption) ?_))
  · have HE2 : Hd ((-a) = (-1) * val 16777216 xs) := ⟨by have := HE.out; omega⟩
    have HS2 : Hd (((-1) : Int) = 1 ∨ ((-1) : Int) = -1 ∨ val 16777216 xs = 0) := ⟨by have := HS1.out; omega⟩
    clear HE HS1
    go_enter Tryz.func262, Tryz.ntmps262
    go_wp2_with (go_at_call 258; (with_reducible refine (s_MakeW (-1) A n c xs (-a) _ HX.out.len (HX.out.reads.below (by (repeat (first | exact Below.refl _ _ | assumption | refine Below.drew ?_ | refine bdn ?_ | refine ba _ ?_ | refine bs0 _ _ ?_ ?_ | refine bs1 _ _ _ ?_ ?_ | refine bs2 _ _ _ _ ?_ ?_ | refine bt3 (by assumption) ?_)))) HX.out.lim HX.out.cap HX.out.rng HS2.out HE2.out HB0.out).mono ?_); rintro e w2 ⟨s2, A2, n2, c2, rfl, hW, hq⟩; have HW2 : Hd (WhO w2 (w.heap.size + 1 + 1) s2 A2 n2 c2 (-a)) := ⟨hW.mono (by simp)⟩; clear hW; obtain ⟨hc, hf, hz, hy⟩ := bcell hq; have hs := hq.size; (try simp at hs); have h0' : w.heap.size < w2.heap.size := (by omega); have h1' : w.heap.size + 1 < w2.heap.size := (by omega); clear hs)
    refine bodyPost_ret (v := .agg #[.int .i64 s2, .slice A2 n2 c2]) (by simp (maxDischargeDepth := 7) [results, Tryz.results262, go_sem, *]) rfl ⟨s2, A2, n2, c2, rfl, ?_, ?_⟩
    · exact ((HW2.out.set _ _ (by omega) _).set _ _ (by omega) _).mono (by omega)
    · (repeat (first | exact Below.refl _ _ | assumption | refine Below.drew ?_ | refine bdn ?_ | refine ba _ ?_ | refine bs0 _ _ ?_ ?_ | refine bs1 _ _ _ ?_ ?_ | refine bs2 _ _ _ _ ?_ ?_ | refine bt3 (by assumption) ?_))
  · have HE2 : Hd ((-a) = 1 * val 16777216 xs) := ⟨by have := HE.out; omega⟩
    have HS2 : Hd ((1 : Int) = 1 ∨ (1 : Int) = -1 ∨ val 16777216 xs = 0) := ⟨by have := HS1.out; omega⟩
    clear HE HS1
    go_enter Tryz.func262, Tryz.ntmps262
    go_wp2_with (go_at_call 258; (with_reducible refine (s_MakeW 1 A n c xs (-a) _ HX.out.len (HX.out.reads.below (by (repeat (first | exact Below.refl _ _ | assumption | refine Below.drew ?_ | refine bdn ?_ | refine ba _ ?_ | refine bs0 _ _ ?_ ?_ | refine bs1 _ _ _ ?_ ?_ | refine bs2 _ _ _ _ ?_ ?_ | refine bt3 (by assumption) ?_)))) HX.out.lim HX.out.cap HX.out.rng HS2.out HE2.out HB0.out).mono ?_); rintro e w2 ⟨s2, A2, n2, c2, rfl, hW, hq⟩; have HW2 : Hd (WhO w2 (w.heap.size + 1 + 1) s2 A2 n2 c2 (-a)) := ⟨hW.mono (by simp)⟩; clear hW; obtain ⟨hc, hf, hz, hy⟩ := bcell hq; have hs := hq.size; (try simp at hs); have h0' : w.heap.size < w2.heap.size := (by omega); have h1' : w.heap.size + 1 < w2.heap.size := (by omega); clear hs)
    refine bodyPost_ret (v := .agg #[.int .i64 s2, .slice A2 n2 c2]) (by simp (maxDischargeDepth := 7) [results, Tryz.results262, go_sem, *]) rfl ⟨s2, A2, n2, c2, rfl, ?_, ?_⟩
    · exact ((HW2.out.set _ _ (by omega) _).set _ _ (by omega) _).mono (by omega)
    · (repeat (first | exact Below.refl _ _ | assumption | refine Below.drew ?_ | refine bdn ?_ | refine ba _ ?_ | refine bs0 _ _ ?_ ?_ | refine bs1 _ _ _ ?_ ?_ | refine bs2 _ _ _ _ ?_ ?_ | refine bt3 (by assumption) ?_))
set_option maxHeartbeats 4000000 in
theorem s_AbsW (s : Int) (A : Option Addr) (n c : Nat) (a : Int) (w : World) (hX : WhP w s A n c a) (hb0 : Bd (a.natAbs : Int)) :
    Calls Tryz.prog 264 #[.agg #[.int .i64 s, .slice A n c]] w (RetWh (a.natAbs : Int) w) := by
  obtain ⟨xs, hX⟩ := hX.opened
  have HX : Hd (WhD w s A n c xs a) := ⟨hX⟩
  have HB0 : Hd (Bd (a.natAbs : Int)) := ⟨hb0⟩
  have HE : Hd ((a.natAbs : Int) = (s * s) * val 16777216 xs) := ⟨by have h1 := hX.num.eq; have h2 := hX.num.sg; have h3 := val_nonneg (B := 16777216) (by decide) hX.rng; rcases h2 with h | h | h <;> simp [h] at h1 ⊢ <;> omega⟩
  have HS1 : Hd ((s * s) = 1 ∨ (s * s) = -1 ∨ val 16777216 xs = 0) := ⟨by rcases hX.sg with h | h | h <;> simp [h]⟩
  have hs3 : s = 0 ∨ s = 1 ∨ s = -1 := by rcases hX.num.sgn with h | h <;> omega
  clear hX hb0
  rcases hs3 with rfl | rfl | rfl
  · have HE2 : Hd ((a.natAbs : Int) = 0 * val 16777216 xs) := ⟨by have := HE.out; omega⟩
    have HS2 : Hd ((0 : Int) = 1 ∨ (0 : Int) = -1 ∨ val 16777216 xs = 0) := ⟨by have := HS1.out; omega⟩
    clear HE HS1
    go_enter Tryz.func264, Tryz.ntmps264
    go_wp2_with (go_at_call 258; (with_reducible refine (s_MakeW 0 A n c xs (a.natAbs : Int) _ HX.out.len (HX.out.reads.below (by (repeat (first | exact Below.refl _ _ | assumption | refine Below.drew ?_ | refine bdn ?_ | refine ba _ ?_ | refine bs0 _ _ ?_ ?_ | refine bs1 _ _ _ ?_ ?_ | refine bs2 _ _ _ _ ?_ ?_ | refine bt3 (by assumption) ?_)))) HX.out.lim HX.out.cap HX.out.rng HS2.out HE2.out HB0.out).mono ?_); rintro e w2 ⟨s2, A2, n2, c2, rfl, hW, hq⟩; have HW2 : Hd (WhO w2 (w.heap.size + 1 + 1) s2 A2 n2 c2 (a.natAbs : Int)) := ⟨hW.mono (by simp)⟩; clear hW; obtain ⟨hc, hf, hz, hy⟩ := bcell hq; have hs := hq.size; (try simp at hs); have h0' : w.heap.size < w2.heap.size := (by omega); have h1' : w.heap.size + 1 < w2.heap.size := (by omega); clear hs)
    refine bodyPost_ret (v := .agg #[.int .i64 s2, .slice A2 n2 c2]) (by simp (maxDischargeDepth := 7) [results, Tryz.results264, go_sem, *]) rfl ⟨s2, A2, n2, c2, rfl, ?_, ?_⟩
    · exact ((HW2.out.set _ _ (by omega) _).set _ _ (by omega) _).mono (by omega)
    · (repeat (first | exact Below.refl _ _ | assumption | refine Below.drew ?_ | refine bdn ?_ | refine ba _ ?_ | refine bs0 _ _ ?_ ?_ | refine bs1 _ _ _ ?_ ?_ | refine bs2 _ _ _ _ ?_ ?_ | refine bt3 (by assumption) ?_))
  · have HE2 : Hd ((a.natAbs : Int) = 1 * val 16777216 xs) := ⟨by have := HE.out; omega⟩
    have HS2 : Hd ((1 : Int) = 1 ∨ (1 : Int) = -1 ∨ val 16777216 xs = 0) := ⟨by have := HS1.out; omega⟩
    clear HE HS1
    go_enter Tryz.func264, Tryz.ntmps264
    go_wp2_with (go_at_call 258; (with_reducible refine (s_MakeW 1 A n c xs (a.natAbs : Int) _ HX.out.len (HX.out.reads.below (by (repeat (first | exact Below.refl _ _ | assumption | refine Below.drew ?_ | refine bdn ?_ | refine ba _ ?_ | refine bs0 _ _ ?_ ?_ | refine bs1 _ _ _ ?_ ?_ | refine bs2 _ _ _ _ ?_ ?_ | refine bt3 (by assumption) ?_)))) HX.out.lim HX.out.cap HX.out.rng HS2.out HE2.out HB0.out).mono ?_); rintro e w2 ⟨s2, A2, n2, c2, rfl, hW, hq⟩; have HW2 : Hd (WhO w2 (w.heap.size + 1 + 1) s2 A2 n2 c2 (a.natAbs : Int)) := ⟨hW.mono (by simp)⟩; clear hW; obtain ⟨hc, hf, hz, hy⟩ := bcell hq; have hs := hq.size; (try simp at hs); have h0' : w.heap.size < w2.heap.size := (by omega); have h1' : w.heap.size + 1 < w2.heap.size := (by omega); clear hs)
    refine bodyPost_ret (v := .agg #[.int .i64 s2, .slice A2 n2 c2]) (by simp (maxDischargeDepth := 7) [results, Tryz.results264, go_sem, *]) rfl ⟨s2, A2, n2, c2, rfl, ?_, ?_⟩
    · exact ((HW2.out.set _ _ (by omega) _).set _ _ (by omega) _).mono (by omega)
    · (repeat (first | exact Below.refl _ _ | assumption | refine Below.drew ?_ | refine bdn ?_ | refine ba _ ?_ | refine bs0 _ _ ?_ ?_ | refine bs1 _ _ _ ?_ ?_ | refine bs2 _ _ _ _ ?_ ?_ | refine bt3 (by assumption) ?_))
  · have HE2 : Hd ((a.natAbs : Int) = 1 * val 16777216 xs) := ⟨by have := HE.out; omega⟩
    have HS2 : Hd ((1 : Int) = 1 ∨ (1 : Int) = -1 ∨ val 16777216 xs = 0) := ⟨by have := HS1.out; omega⟩
    clear HE HS1
    go_enter Tryz.func264, Tryz.ntmps264
    go_wp2_with (go_at_call 258; (with_reducible refine (s_MakeW 1 A n c xs (a.natAbs : Int) _ HX.out.len (HX.out.reads.below (by (repeat (first | exact Below.refl _ _ | assumption | refine Below.drew ?_ | refine bdn ?_ | refine ba _ ?_ | refine bs0 _ _ ?_ ?_ | refine bs1 _ _ _ ?_ ?_ | refine bs2 _ _ _ _ ?_ ?_ | refine bt3 (by assumption) ?_)))) HX.out.lim HX.out.cap HX.out.rng HS2.out HE2.out HB0.out).mono ?_); rintro e w2 ⟨s2, A2, n2, c2, rfl, hW, hq⟩; have HW2 : Hd (WhO w2 (w.heap.size + 1 + 1) s2 A2 n2 c2 (a.natAbs : Int)) := ⟨hW.mono (by simp)⟩; clear hW; obtain ⟨hc, hf, hz, hy⟩ := bcell hq; have hs := hq.size; (try simp at hs); have h0' : w.heap.size < w2.heap.size := (by omega); have h1' : w.heap.size + 1 < w2.heap.size := (by omega); clear hs)
    refine bodyPost_ret (v := .agg #[.int .i64 s2, .slice A2 n2 c2]) (by simp (maxDischargeDepth := 7) [results, Tryz.results264, go_sem, *]) rfl ⟨s2, A2, n2, c2, rfl, ?_, ?_⟩
    · exact ((HW2.out.set _ _ (by omega) _).set _ _ (by omega) _).mono (by omega)
    · (repeat (first | exact Below.refl _ _ | assumption | refine Below.drew ?_ | refine bdn ?_ | refine ba _ ?_ | refine bs0 _ _ ?_ ?_ | refine bs1 _ _ _ ?_ ?_ | refine bs2 _ _ _ _ ?_ ?_ | refine bt3 (by assumption) ?_))
end Go.Proofs.YtflgjecpjaiecaaGreat
/- Contracts: bits and shifts of whole numbers of the reference. -/
set_option linter.unusedVariables false
set_option linter.unusedSimpArgs false
namespace Go.Proofs.YtflgjecpjaiecaaGreat
open Go.RowKit Num
theorem p24 (q : Nat) : (16777216 : Int) ^ q = 2 ^ (24 * q) := by
  rw [Int.pow_mul]; rfl
theorem WhD.below {w w' : World} {s : Int} {A : Option Addr} {n c : Nat} {xs : List Int} {a : Int} (h : WhD w s A n c xs a) (hb : Below w.heap.size w w') : WhD w' s A n c xs a :=
  ⟨h.len, h.cap, h.lim, h.lim5, h.num, h.can, h.rng, h.sg, h.reads.below hb⟩
theorem bit_digit {xs : List Int} (h : Rng 16777216 xs) (k : Nat) : val 16777216 xs / 2 ^ k % 2 = xs.getD (k / 24) 0 / 2 ^ (k % 24) % 2 := by
  have e : (2 : Int) ^ k = 16777216 ^ (k / 24) * 2 ^ (k % 24) := by rw [p24, ← Int.pow_add]; congr 1; omega
  have hp : (0 : Int) < 16777216 ^ (k / 24) := pow_pos' (by decide) _
  rw [e, ← Int.ediv_ediv_of_nonneg (Int.le_of_lt hp), val_div_pow (by decide) h, val_drop]
  have hr : k % 24 < 24 := Nat.mod_lt _ (by decide)
  generalize k % 24 = r at *
  have e2 : (16777216 : Int) = 2 ^ r * (2 * 2 ^ (23 - r)) := by rw [← Int.mul_assoc, Int.mul_comm (2 ^ r) 2, Int.mul_assoc, ← Int.pow_add, show r + (23 - r) = 23 by omega]; rfl
  rw [e2, Int.mul_assoc, Int.add_mul_ediv_left _ _ (by have := pow_pos' (B := 2) (by decide) r; omega), Int.mul_assoc, Int.add_mul_emod_self_left]
set_option maxHeartbeats 4000000 in
theorem s_Bit (s : Int) (A : Option Addr) (n c : Nat) (xs : List Int) (a : Int) (k : Nat) (w : World) (hX : WhD w s A n c xs a) (hk : k ≤ 10000000) :
    Calls Tryz.prog 265 #[.agg #[.int .i64 s, .slice A n c], .int .i64 k] w fun e w' => e = .returned (.int .i64 (val 16777216 xs / 2 ^ k % 2)) ∧ Below w.heap.size w w' := by
  have HX : Hd (WhD w s A n c xs a) := ⟨hX⟩
  have hkI : (k : Int) ≤ 10000000 := by omega
  have hnI : (n : Int) ≤ 100000 := by have := hX.lim5; omega
  have HK : Hd (k ≤ 10000000) := ⟨hk⟩
  clear hX hk
  by_cases h1 : k / 24 < n
  · obtain ⟨ad, rfl, hcx⟩ := HX.out.reads.at_ (k := k / 24) (by have := HX.out.len; omega)
    have hgx := HX.out.rng.getD (by decide) (k / 24)
    generalize hex : xs.getD (k / 24) 0 = x at *
    have HEx : Hd (xs.getD (k / 24) 0 = x) := ⟨hex⟩
    replace hcx : (w.alloc (Obj.cells #[.int .i64 s, .slice (some ad) n c] 64)).cell? (ad.add (k / 24)) = some (.int .i64 x) := cb (ba _ (Below.refl _ _)) hcx
    clear hex
    have hx0 : 0 ≤ x / 2 ^ (k % 24) := Int.ediv_nonneg hgx.1 (Int.le_of_lt (pow_pos' (by decide) _))
    have hx1 : x / 2 ^ (k % 24) < 16777216 := Int.lt_of_le_of_lt (Int.ediv_le_self _ hgx.1) hgx.2
    have HV : Hd (val 16777216 xs / 2 ^ k % 2 = x / 2 ^ (k % 24) % 2) := ⟨by rw [bit_digit HX.out.rng, HEx.out]⟩
    rw [HV.out]
    have HM : Hd (bits .and .i64 (x / 2 ^ (k % 24)) 1 = x / 2 ^ (k % 24) % 2) := ⟨bits_mask .i64 63 (by decide) (fun n a b => by rw [IntKind.wrap_i64]; omega) 1 (by decide) _ hx0 (by omega)⟩
    go_enter Tryz.func265, Tryz.ntmps265
    go_wp2
    go_ret
    exact ⟨by rw [← HM.out]; rfl, ba _ (Below.refl _ _)⟩
  · have HV : Hd (val 16777216 xs / 2 ^ k % 2 = 0) := ⟨by rw [bit_digit HX.out.rng, getD_far (by have := HX.out.len; omega)]; simp⟩
    rw [HV.out]
    go_enter Tryz.func265, Tryz.ntmps265
    go_wp2
    go_ret
    exact ⟨rfl, ba _ (Below.refl _ _)⟩
/-- the number of twos -/
theorem two_pow_le {v : Int} {k : Nat} (hv : 0 < v) (h : v % 2 ^ k = 0) : (2 : Int) ^ k ≤ v := by
  exact Int.le_of_dvd hv (Int.dvd_of_emod_eq_zero h)
theorem twos_lim {xs : List Int} {n k : Nat} (hr : Rng 16777216 xs) (hn : n = xs.length) (hv : 0 < val 16777216 xs) (h : val 16777216 xs % 2 ^ k = 0) : k < 24 * n := by
  have h1 := two_pow_le hv h
  have h2 := val_lt (by decide) hr
  rcases Nat.lt_or_ge k (24 * n) with h3 | h3
  · exact h3
  · have h4 : (2 : Int) ^ (24 * n) ≤ 2 ^ k := pow_le (by decide) h3
    rw [← p24, hn] at h4
    omega
theorem twos_step {v : Int} {k : Nat} (h : v % 2 ^ k = 0) (h2 : v / 2 ^ k % 2 = 0) : v % 2 ^ (k + 1) = 0 := by
  have e := Int.mul_ediv_add_emod v (2 ^ k)
  have e2 := Int.mul_ediv_add_emod (v / 2 ^ k) 2
  rw [h] at e; rw [h2] at e2
  have : v = 2 ^ (k + 1) * (v / 2 ^ k / 2) := by rw [Int.pow_succ, Int.mul_assoc]; rw [show 2 * (v / 2 ^ k / 2) = v / 2 ^ k by omega]; omega
  rw [this]; exact Int.mul_emod_right _ _
set_option maxHeartbeats 4000000 in
theorem s_Twos (s : Int) (A : Option Addr) (n c : Nat) (xs : List Int) (a : Int) (w : World) (hX : WhD w s A n c xs a) (h0 : s ≠ 0) :
    Calls Tryz.prog 260 #[.agg #[.int .i64 s, .slice A n c]] w fun e w' => (∃ k : Nat, e = .returned (.int .i64 k) ∧ k < 24 * n ∧ val 16777216 xs % 2 ^ k = 0 ∧ val 16777216 xs / 2 ^ k % 2 = 1) ∧ Below w.heap.size w w' := by
  have HX : Hd (WhD w s A n c xs a) := ⟨hX⟩
  have HP : Hd (0 < val 16777216 xs) := ⟨(hX.num.one h0).2.1⟩
  have hnI : (n : Int) ≤ 100000 := by have := hX.lim5; omega
  clear hX h0
  go_enter Tryz.func260, Tryz.ntmps260
  go_wp2
  go_loopw [3] (fun i wr => ∃ k : Nat, i = .int .i64 k ∧ (k : Int) < 24 * n ∧ Hd (val 16777216 xs % 2 ^ k = 0) ∧ Hd (Below w.heap.size w wr) ∧ wr.cell? ⟨w.heap.size, 0, none⟩ = some (.int .i64 s) ∧ wr.cell? ⟨w.heap.size, 1, none⟩ = some (.slice A n c))
    (fun i _ => 24 * n - (intOf i).toNat)
  case atStart => exact ⟨0, rfl, by have := twos_lim (k := 0) HX.out.rng HX.out.len HP.out (by simp); omega, ⟨by simp⟩, ⟨ba _ (Below.refl _ _)⟩, by go_simp, by go_simp⟩
  case round =>
    obtain ⟨k, rfl, hk, HM, HB, hc0, hc1⟩ := hrel
    have HK : Hd (k ≤ 10000000) := ⟨by omega⟩
    by_cases hv : val 16777216 xs / 2 ^ k % 2 = 0
    · have HV : Hd (val 16777216 xs / 2 ^ k % 2 = 0) := ⟨hv⟩
      go_wp2_with (go_at_call 265; (with_reducible refine (s_Bit s A n c xs a k _ (HX.out.below HB.out) HK.out).mono ?_); rintro e w1 ⟨rfl, hb⟩; have d0 := cb hb hc0; have d1 := cb hb hc1; have HB1 : Hd (Below w.heap.size w w1) := ⟨bt3 hb HB.out⟩; clear hb)
      have HM1 : Hd (val 16777216 xs % 2 ^ (k + 1) = 0) := ⟨twos_step HM.out HV.out⟩
      go_roundw
      case rel => exact ⟨k + 1, by go_num, by have := twos_lim (k := k + 1) HX.out.rng HX.out.len HP.out HM1.out; omega, HM1, HB1, d0, d1⟩
      case measure => simp [intOf]; omega
    · have hv1 : val 16777216 xs / 2 ^ k % 2 = 1 := by omega
      have HV : Hd (val 16777216 xs / 2 ^ k % 2 = 1) := ⟨hv1⟩
      clear hv
      go_wp2_with (go_at_call 265; (with_reducible refine (s_Bit s A n c xs a k _ (HX.out.below HB.out) HK.out).mono ?_); rintro e w1 ⟨rfl, hb⟩; have HB1 : Hd (Below w.heap.size w w1) := ⟨bt3 hb HB.out⟩; clear hb)
      go_ret
      exact ⟨⟨k, rfl, by omega, HM.out, HV.out⟩, HB1.out⟩
end Go.Proofs.YtflgjecpjaiecaaGreat
/- Contracts: shifts of whole numbers of the reference. -/
set_option linter.unusedVariables false
set_option linter.unusedSimpArgs false
namespace Go.Proofs.YtflgjecpjaiecaaGreat
open Go.RowKit Num
theorem mod_next (u B : Int) (hB : 0 < B) (j : Nat) : u % B ^ j + B ^ j * (u / B ^ j % B) = u % B ^ (j + 1) := by
  have hp := pow_pos' hB j
  have e1 := Int.mul_ediv_add_emod u (B ^ j)
  have e2 := Int.mul_ediv_add_emod (u / B ^ j) B
  have h1 := Int.emod_nonneg u (show B ^ j ≠ 0 by omega)
  have h2 := Int.emod_lt_of_pos u hp
  have h3 := Int.emod_nonneg (u / B ^ j) (show B ≠ 0 by omega)
  have h4 := Int.emod_lt_of_pos (u / B ^ j) hB
  generalize u % B ^ j = r at *
  generalize hd : u / B ^ j % B = d at *
  generalize u / B ^ j / B = Q at *
  have e3 : u = (r + B ^ j * d) + B ^ (j + 1) * Q := by
    rw [Int.pow_succ, Int.mul_assoc]
    have := congrArg (B ^ j * ·) e2
    simp only [Int.mul_add] at this
    omega
  have h5 : B ^ j * d ≤ B ^ j * (B - 1) := Int.mul_le_mul_of_nonneg_left (by omega) (Int.le_of_lt hp)
  have h6 : 0 ≤ B ^ j * d := Int.mul_nonneg (Int.le_of_lt hp) h3
  rw [Int.mul_sub, Int.mul_one] at h5
  rw [e3, Int.add_mul_emod_self_left, Int.emod_eq_of_lt (by omega) (by rw [Int.pow_succ]; omega)]
theorem cut_digit {xs : List Int} (h : Rng 16777216 xs) (k j : Nat) : val 16777216 xs / 2 ^ k / 16777216 ^ j % 16777216 = (xs.getD (k / 24 + j) 0 / 2 ^ (k % 24) + xs.getD (k / 24 + j + 1) 0 * 2 ^ (24 - k % 24)) % 16777216 := by
  have e : (2 : Int) ^ k * 16777216 ^ j = 16777216 ^ (k / 24 + j) * 2 ^ (k % 24) := by rw [p24, p24, ← Int.pow_add, ← Int.pow_add]; congr 1; omega
  have hp : (0 : Int) < 16777216 ^ (k / 24 + j) := pow_pos' (by decide) _
  have hp2 : (0 : Int) < 2 ^ k := pow_pos' (by decide) _
  rw [Int.ediv_ediv_of_nonneg (Int.le_of_lt hp2), e, ← Int.ediv_ediv_of_nonneg (Int.le_of_lt hp), val_div_pow (by decide) h, val_drop, val_drop _ _ (k / 24 + j + 1)]
  have hr : k % 24 < 24 := Nat.mod_lt _ (by decide)
  generalize xs.getD (k / 24 + j) 0 = x
  generalize xs.getD (k / 24 + j + 1) 0 = y
  generalize val 16777216 (xs.drop (k / 24 + j + 1 + 1)) = D
  generalize k % 24 = r at *
  have e2 : (16777216 : Int) = 2 ^ r * 2 ^ (24 - r) := by rw [← Int.pow_add, show r + (24 - r) = 24 by omega]; rfl
  have e3 : x + 16777216 * (y + 16777216 * D) = x + 2 ^ r * (2 ^ (24 - r) * (y + 16777216 * D)) := by rw [← Int.mul_assoc, ← e2]
  rw [e3, Int.add_mul_ediv_left _ _ (by have := pow_pos' (B := 2) (by decide) r; omega), Int.mul_add, ← Int.add_assoc, Int.mul_left_comm, Int.add_mul_emod_self_left, Int.mul_comm y]
/-- what a round of a cut leaves -/
def CutR (xs : List Int) (k j : Nat) (zs : List Int) : Prop := zs.length = j ∧ Rng 16777216 zs ∧ val 16777216 zs = val 16777216 xs / 2 ^ k % 16777216 ^ j
theorem CutR.next {xs zs : List Int} {k j : Nat} {d : Int} (hr : Rng 16777216 xs) (h : CutR xs k j zs) (hd : d = (xs.getD (k / 24 + j) 0 / 2 ^ (k % 24) + xs.getD (k / 24 + j + 1) 0 * 2 ^ (24 - k % 24)) % 16777216) : CutR xs k (j + 1) (zs ++ [d]) := by
  obtain ⟨h1, h2, h3⟩ := h
  refine ⟨by simp [h1], h2.snoc (by omega) (by omega), ?_⟩
  rw [val_snoc, h1, h3, hd, ← cut_digit hr, mod_next _ _ (by decide)]
theorem CutR.done {xs zs : List Int} {k j : Nat} (hr : Rng 16777216 xs) (h : CutR xs k j zs) (hj : xs.length ≤ k / 24 + j) : val 16777216 zs = val 16777216 xs / 2 ^ k := by
  obtain ⟨h1, h2, h3⟩ := h
  rw [h3]
  have h0 := val_nonneg (B := 16777216) (by decide) hr
  have h4 := val_lt (by decide) hr
  have h5 : (16777216 : Int) ^ xs.length ≤ 2 ^ k * 16777216 ^ j := by
    rw [p24, p24, ← Int.pow_add]; exact pow_le (by decide) (by omega)
  exact Int.emod_eq_of_lt (Int.ediv_nonneg h0 (Int.le_of_lt (pow_pos' (by decide) k))) (Int.ediv_lt_of_lt_mul (pow_pos' (by decide) k) (by rw [Int.mul_comm]; omega))
theorem wrapd {x y : Int} {r : Nat} (hx : 0 ≤ x ∧ x < 16777216) (hy : 0 ≤ y ∧ y < 16777216) (hr : r < 24) : (wrap64 (x / 2 ^ r + wrap64 (y * 2 ^ (24 - r)))).tmod 16777216 = (x / 2 ^ r + y * 2 ^ (24 - r)) % 16777216 := by
  have hp : (0 : Int) < 2 ^ (24 - r) := pow_pos' (by decide) _
  have h1 : (2 : Int) ^ (24 - r) ≤ 2 ^ 24 := pow_le (by decide) (by omega)
  have h2 : y * 2 ^ (24 - r) ≤ y * 2 ^ 24 := Int.mul_le_mul_of_nonneg_left h1 hy.1
  have h3 : 0 ≤ y * 2 ^ (24 - r) := Int.mul_nonneg hy.1 (Int.le_of_lt hp)
  have h4 : 0 ≤ x / 2 ^ r := Int.ediv_nonneg hx.1 (Int.le_of_lt (pow_pos' (by decide) _))
  have h5 : x / 2 ^ r < 16777216 := Int.lt_of_le_of_lt (Int.ediv_le_self _ hx.1) hx.2
  generalize y * 2 ^ (24 - r) = t at *
  generalize x / 2 ^ r = u at *
  have h6 : y * 2 ^ 24 = 16777216 * y := by rw [Int.mul_comm]; rfl
  rw [h6] at h2
  have e1 : wrap64 t = t := by unfold wrap64; omega
  have e2 : wrap64 (u + t) = u + t := by unfold wrap64; omega
  rw [e1, e2, Int.tmod_eq_emod_of_nonneg (by omega)]
theorem wrapz {x : Int} (hx : 0 ≤ x ∧ x < 16777216) (r q : Nat) : x / 2 ^ r = (x / 2 ^ r + 0 * 2 ^ q) % 16777216 := by
  have h4 : 0 ≤ x / 2 ^ r := Int.ediv_nonneg hx.1 (Int.le_of_lt (pow_pos' (by decide) _))
  have h5 : x / 2 ^ r < 16777216 := Int.lt_of_le_of_lt (Int.ediv_le_self _ hx.1) hx.2
  rw [Int.zero_mul, Int.add_zero, Int.emod_eq_of_lt h4 h5]
theorem sgz {s v u : Int} (h : s = 1 ∨ s = -1 ∨ v = 0) (k : v = 0 → u = 0) : s = 1 ∨ s = -1 ∨ u = 0 := by
  rcases h with h | h | h
  · exact .inl h
  · exact .inr (.inl h)
  · exact .inr (.inr (k h))
theorem le_alloc {w : World} {B : Nat} (o : Obj) (h : B ≤ w.heap.size) : B ≤ (w.alloc o).heap.size := Nat.le_trans h (by simp)
/-- the world with an argument's cells and the result's -/
def W2 (w : World) (s : Int) (A : Option Addr) (n c : Nat) : World := (w.alloc (Obj.cells #[Value.int .i64 s, Value.slice A n c] 64)).alloc (Obj.cells #[Value.int .i64 0, Value.slice none 0 0] 64)
theorem W2.size (w : World) (s : Int) (A : Option Addr) (n c : Nat) : (W2 w s A n c).heap.size = w.heap.size + 1 + 1 := by simp [W2]
theorem W2.c0 (w : World) (s : Int) (A : Option Addr) (n c : Nat) : (W2 w s A n c).cell? ⟨w.heap.size, 0, none⟩ = some (.int .i64 s) := by unfold W2; go_simp
theorem W2.c1 (w : World) (s : Int) (A : Option Addr) (n c : Nat) : (W2 w s A n c).cell? ⟨w.heap.size, 1, none⟩ = some (.slice A n c) := by unfold W2; go_simp
theorem W2.bel (w : World) (s : Int) (A : Option Addr) (n c : Nat) : Below w.heap.size w (W2 w s A n c) := ba _ (ba _ (Below.refl _ _))
set_option maxHeartbeats 4000000 in
theorem s_Cut (s : Int) (A : Option Addr) (n c : Nat) (xs : List Int) (a : Int) (k : Nat) (w : World) (hX : WhD w s A n c xs a) (hk : k ≤ 10000000) (hb0 : Bd (s * (val 16777216 xs / 2 ^ k))) :
    Calls Tryz.prog 261 #[.agg #[.int .i64 s, .slice A n c], .int .i64 k] w (RetWh (s * (val 16777216 xs / 2 ^ k)) w) := by
  have HX : Hd (WhD w s A n c xs a) := ⟨hX⟩
  have hkI : (k : Int) ≤ 10000000 := by omega
  have hnI : (n : Int) ≤ 100000 := by have := hX.lim5; omega
  have HB0 : Hd (Bd (s * (val 16777216 xs / 2 ^ k))) := ⟨hb0⟩
  clear hX hk hb0
  go_enter Tryz.func261, Tryz.ntmps261
  go_wp2
  go_loopw [5, 6, 7] (fun v i _ wr => ∃ (i' j : Nat) (zs : List Int), i = .int .i64 (i' : Int) ∧ (i' : Int) ≤ 10000000 ∧ Hd (i' = k / 24 + j ∧ (j = 0 ∨ i' ≤ n)) ∧ Hd (CutR xs k j zs) ∧ Hd (O64 wr (w.heap.size + 1 + 1) v zs) ∧ Hd (Below (W2 w s A n c).heap.size (W2 w s A n c) wr))
    (fun _ i _ _ => n - (intOf i).toNat)
  case atStart => exact ⟨k / 24, 0, [], by go_num, by omega, ⟨⟨rfl, Or.inl rfl⟩⟩, ⟨rfl, Rng.nil _, by simp [val, Int.emod_one]⟩, ⟨by have := own_empty (W2 w s A n c) (w.heap.size + 1 + 1) (by rw [W2.size]; exact Nat.le_refl _); rw [W2.size] at this; exact this⟩, ⟨(Below.refl _ _).alloc (Nat.le_refl _) _⟩⟩
  case round =>
    obtain ⟨i, j, zs, rfl, hi, HI, HP, HO, HB⟩ := hrel
    have HL : Hd (zs.length < LIM) := ⟨by have := HI.out; rw [HP.out.1]; unfold LIM; omega⟩
    have HBS : Hd (w.heap.size + 1 + 1 ≤ wr.heap.size) := ⟨by have := HB.out.size; rw [W2.size] at this; exact this⟩
    have HB2 : Hd (Below w.heap.size w wr) := ⟨bt3 HB.out (W2.bel _ _ _ _ _)⟩
    have c0 := cb HB.out (W2.c0 w s A n c)
    have c1 := cb HB.out (W2.c1 w s A n c)
    by_cases h1 : i < n
    · by_cases h2 : i + 1 < n
      · obtain ⟨ad, hA, hcx⟩ := HX.out.reads.at_ (k := i) (by have := HX.out.len; omega)
        subst hA
        have hgx := HX.out.rng.getD (by decide) (i)
        replace hcx := (HB2.out.cell (World.block_lt_of_cell? w _ hcx)).trans hcx
        obtain ⟨ad2, hA2, hcy⟩ := HX.out.reads.at_ (k := i + 1) (by have := HX.out.len; omega)
        cases hA2
        have hgy := HX.out.rng.getD (by decide) (i + 1)
        replace hcy := (HB2.out.cell (World.block_lt_of_cell? w _ hcy)).trans hcy
        replace hcy : wr.cell? ⟨ad.block, ad.off + (i + 1), none⟩ = some (.int .i64 (xs.getD (i + 1) 0)) := hcy
        generalize hey : xs.getD (i + 1) 0 = y at *
        have HEy : Hd (xs.getD (i + 1) 0 = y) := ⟨hey⟩
        clear hey
        generalize hex : xs.getD (i) 0 = x at *
        have HEx : Hd (xs.getD (i) 0 = x) := ⟨hex⟩
        clear hex
        go_wp2_with (at_builtin; refine wpList_push64 _ rfl (.tmp 47) (.tmp 49) rfl (w.heap.size + 1 + 1) _ zs rfl (HO.out.alloc _) wr.heap.size 1 _ rfl ((Blk.new _ _ _).cell 0) HL.out (le_alloc _ HBS.out) ?_; intro v1 w1 ho1 hb1; have HO1 : Hd (O64 w1 (w.heap.size + 1 + 1) v1 _) := ⟨ho1⟩; have HB1 : Hd (Below (W2 w s (some ad) n c).heap.size (W2 w s (some ad) n c) w1) := ⟨((HB.out.alloc HB.out.size _)).trans (by rw [W2.size]; exact hb1)⟩; clear ho1 hb1)
        go_roundw
        case rel =>
          have hI := HI.out
          have hkj : k / 24 + j = i := hI.1.symm
          exact ⟨i + 1, j + 1, _, by go_num, by omega, ⟨⟨by omega, Or.inr (by omega)⟩⟩, ⟨HP.out.next HX.out.rng (by rw [hkj, HEx.out, HEy.out]; exact wrapd hgx hgy (Nat.mod_lt _ (by decide)))⟩, HO1, HB1⟩
        case measure => simp [intOf]; omega
      · obtain ⟨ad, hA, hcx⟩ := HX.out.reads.at_ (k := i) (by have := HX.out.len; omega)
        subst hA
        have hgx := HX.out.rng.getD (by decide) (i)
        replace hcx := (HB2.out.cell (World.block_lt_of_cell? w _ hcx)).trans hcx
        have HEy : Hd (xs.getD (i + 1) 0 = 0) := ⟨getD_far (by have := HX.out.len; omega)⟩
        generalize hex : xs.getD (i) 0 = x at *
        have HEx : Hd (xs.getD (i) 0 = x) := ⟨hex⟩
        clear hex
        go_wp2_with (at_builtin; refine wpList_push64 _ rfl (.tmp 47) (.tmp 49) rfl (w.heap.size + 1 + 1) _ zs rfl (HO.out.alloc _) wr.heap.size 1 _ rfl ((Blk.new _ _ _).cell 0) HL.out (le_alloc _ HBS.out) ?_; intro v1 w1 ho1 hb1; have HO1 : Hd (O64 w1 (w.heap.size + 1 + 1) v1 _) := ⟨ho1⟩; have HB1 : Hd (Below (W2 w s (some ad) n c).heap.size (W2 w s (some ad) n c) w1) := ⟨((HB.out.alloc HB.out.size _)).trans (by rw [W2.size]; exact hb1)⟩; clear ho1 hb1)
        go_roundw
        case rel =>
          have hI := HI.out
          have hkj : k / 24 + j = i := hI.1.symm
          exact ⟨i + 1, j + 1, _, by go_num, by omega, ⟨⟨by omega, Or.inr (by omega)⟩⟩, ⟨HP.out.next HX.out.rng (by rw [hkj, HEx.out, HEy.out]; exact wrapz hgx _ _)⟩, HO1, HB1⟩
        case measure => simp [intOf]; omega
    · obtain ⟨A1, c1, hv, hR⟩ := HO.out.form
      have HR : Hd (R64 wr A1 zs) := ⟨hR⟩
      have HC : Hd (zs.length ≤ c1) := ⟨by subst hv; exact HO.out.cap.2⟩
      have HVZ : Hd (val 16777216 zs = val 16777216 xs / 2 ^ k) := ⟨HP.out.done HX.out.rng (by have := HI.out; have := HX.out.len; omega)⟩
      subst hv
      clear hR
      have HK := Hd.mk (s_MakeW s A1 zs.length c1 zs (s * (val 16777216 xs / 2 ^ k)) wr rfl HR.out (Nat.le_of_lt HL.out) HC.out HP.out.2.1 (sgz HX.out.sg (fun h => by rw [HVZ.out, h]; simp)) (by rw [HVZ.out]) HB0.out)
      generalize zs.length = nz at *
      go_wp2_with (go_at_call 258; (with_reducible refine HK.out.mono ?_); rintro e w2 ⟨s2, A2, n2, c2, rfl, hW, hq0⟩; have hq := bt3 hq0 HB.out; have HW2 : Hd (WhO w2 (w.heap.size + 1 + 1) s2 A2 n2 c2 (s * (val 16777216 xs / 2 ^ k))) := ⟨hW.mono (HBS.out)⟩; clear hW hq0; unfold W2 at hq; obtain ⟨hc, hf, hz, hy⟩ := bcell hq; have hs := hq.size; (try simp at hs); have h0' : w.heap.size < w2.heap.size := (by omega); have h1' : w.heap.size + 1 < w2.heap.size := (by omega); clear hs)
      refine bodyPost_ret (v := .agg #[.int .i64 s2, .slice A2 n2 c2]) (by simp (maxDischargeDepth := 7) [results, Tryz.results261, go_sem, *]) rfl ⟨s2, A2, n2, c2, rfl, ?_, ?_⟩
      · exact ((HW2.out.set _ _ (by omega) _).set _ _ (by omega) _).mono (by omega)
      · (repeat (first | exact Below.refl _ _ | assumption | refine Below.drew ?_ | refine bdn ?_ | refine ba _ ?_ | refine bs0 _ _ ?_ ?_ | refine bs1 _ _ _ ?_ ?_ | refine bs2 _ _ _ _ ?_ ?_ | refine bt3 (by assumption) ?_))
end Go.Proofs.YtflgjecpjaiecaaGreat
/- Contracts: left shifts of whole numbers of the reference. -/
set_option linter.unusedVariables false
set_option linter.unusedSimpArgs false
namespace Go.Proofs.YtflgjecpjaiecaaGreat
open Go.RowKit Num
/-- a new row of zeros -/
theorem wpList_make64 {ops : Array Oper} {rest : List Oper} {o : Oper} {a : Act} {Q : Exit → Act → World → Prop} (w : World) (hgd : o.guard = none) (l c : Operand)
    (ho : o.op = Op.makeSlice 62 l c) (B : Nat) (n : Nat) (L : Int) (hl : a.eval l = .int .i64 L) (hc : a.eval c = .int .i64 L) (hL : L = (n : Int)) (hn : n ≤ LIM) (hB : B ≤ w.heap.size)
    (h : ∀ w', O64 w' B (.slice (some ⟨w.heap.size, 0, none⟩) n n) (List.replicate n 0) → Below B w w' → wpList Tryz.prog ops Q rest (a.put o.dst (.slice (some ⟨w.heap.size, 0, none⟩) n n)) w') : wpList Tryz.prog ops Q (o :: rest) a w := by
  obtain ⟨i0, hi0, hz0, hz1, hz2⟩ := info_parts info64
  refine wpList_make_full w hgd l c 62 ho B 2 i0 _ 1 Tryz.underlying62 hi0 hz0 hz1 .i64 .i64 L L n hl hc hL hL ?_ ?_ hB ?_
  · rw [hz2]; unfold LIM at hn; omega
  · unfold LIM at hn; simp only [maxLen]; omega
  · intro w' h1 h2
    refine h w' ?_ ((Below.refl _ _).grown h2 hB (by simp))
    unfold O64
    have e : (madeCells (Value.int .i64 0).cells (n * 1)).toList = c64 (List.replicate n 0) := by
      have : (Value.int .i64 0).cells = #[Value.int .i64 0] := rfl
      simp [madeCells, c64, this, Nat.mod_one]
      exact List.eq_replicate_iff.2 ⟨by simp, by simp⟩
    rw [e] at h1
    simpa using h1
/-- one number put behind a row of the call's own, as a step of a region that draws its order -/
theorem step_push64 {ops : Array Oper} {o : Oper} {a : Act} {K : Act → World → Prop} {Q : Exit → Act → World → Prop} {E : Prop} (w : World) (hgd : o.guard = none) (s x : Operand)
    (ho : o.op = .call { callee := .builtin .append, args := #[s, x], argTypes := #[62, 62] })
    (B : Nat) (v : Value) (xs : List Int) (hs : a.eval s = v) (hown : O64 w B v xs) (g c : Nat) (y : Int) (hx : a.eval x = .slice (some ⟨g, 0, none⟩) 1 c) (hc : w.cell? ⟨g, 0, none⟩ = some (.int .i64 y))
    (hl : xs.length < LIM) (hB : B ≤ w.heap.size)
    (h : ∀ v' w', O64 w' B v' (xs ++ [y]) → Below B w w' → K (a.put o.dst v') w') :
    if Region.wanted o (yielded ops a.tmps) = true then Oper.wp Tryz.prog o a w K Q else E := by
  obtain ⟨i0, hi0, hz0, hz1, hz2⟩ := info_parts info64
  refine step_append_any (P := Tryz.prog) w hgd s x 62 ho B 2 i0 _ 1 8 Tryz.underlying62 hi0 hz0 hz1 hz2 rfl (by omega) v xs.length (c64 xs) hs hown (w.heap.size) (some ⟨g, 0, none⟩) 1 c [.int .i64 y] hx ?_ ?_ ?_ ?_ hB ?_
  · refine ⟨rfl, fun _ => ⟨⟨g, 0, none⟩, rfl, World.block_lt_of_cell? w _ hc, ?_⟩⟩
    intro j u hj
    match j, hj with
    | 0, hj => simp at hj; subst hj; simpa [Addr.add] using hc
  · intro u hu; simp at hu; subst hu; rfl
  · unfold LIM at hl; unfold maxLen; omega
  · unfold LIM at hl; omega
  · intro v' w' h1 h2 _
    refine h v' w' ?_ ?_
    · unfold O64; rw [c64_append, List.length_append]; exact h1
    · refine (Below.refl _ _).grown h2 hB ?_
      intro k hk
      rcases hown.2 with ⟨rfl, _⟩ | ⟨g', cap, cur, rfl, hg, _⟩
      · simp [Value.ownBlock] at hk
      · have : g' = k := by simpa [Value.ownBlock] using hk
        omega
/-- tells an append of int64s -/
theorem step_is_append {ops : Array Oper} {o : Oper} {a : Act} {w : World} {K : Act → World → Prop} {Q : Exit → Act → World → Prop} {E : Prop} (s x : Operand)
    (ho : o.op = .call { callee := .builtin .append, args := #[s, x], argTypes := #[62, 62] })
    (h : if Region.wanted o (yielded ops a.tmps) = true then Oper.wp Tryz.prog o a w K Q else E) : if Region.wanted o (yielded ops a.tmps) = true then Oper.wp Tryz.prog o a w K Q else E := h
/-- what a round of a left shift leaves -/
def LeftR (xs : List Int) (k j : Nat) (q : Int) (zs : List Int) : Prop := zs.length = k / 24 + j ∧ Rng 16777216 zs ∧ val 16777216 zs + 16777216 ^ (k / 24 + j) * q = 2 ^ k * val 16777216 (xs.take j)
theorem p2k (k j : Nat) : (16777216 : Int) ^ (k / 24 + j) * 2 ^ (k % 24) = 2 ^ k * 16777216 ^ j := by
  rw [p24, p24, ← Int.pow_add, ← Int.pow_add]; congr 1; omega
theorem LeftR.next {xs zs : List Int} {k j : Nat} {q d q' : Int} (h : LeftR xs k j q zs) (hd : d = (q + xs.getD j 0 * 2 ^ (k % 24)) % 16777216) (hq : q' = (q + xs.getD j 0 * 2 ^ (k % 24)) / 16777216) : LeftR xs k (j + 1) q' (zs ++ [d]) := by
  obtain ⟨h1, h2, h3⟩ := h
  refine ⟨by simp [h1]; omega, h2.snoc (by omega) (by omega), ?_⟩
  rw [val_snoc, h1, val_take_succ, ← Nat.add_assoc, Int.pow_succ]
  have e := Int.mul_ediv_add_emod (q + xs.getD j 0 * 2 ^ (k % 24)) 16777216
  rw [← hd, ← hq] at e
  have e2 := congrArg ((16777216 : Int) ^ (k / 24 + j) * ·) e
  simp only [Int.mul_add] at e2
  have e3 : (16777216 : Int) ^ (k / 24 + j) * (xs.getD j 0 * 2 ^ (k % 24)) = 2 ^ k * (16777216 ^ j * xs.getD j 0) := by
    rw [Int.mul_comm (xs.getD j 0), ← Int.mul_assoc, p2k, Int.mul_assoc]
  rw [e3] at e2
  rw [Int.mul_add, Int.mul_assoc]
  generalize (16777216 : Int) ^ (k / 24 + j) = p at *
  omega
theorem LeftR.carry {x q : Int} {r : Nat} (hx : 0 ≤ x ∧ x < 16777216) (hq : 0 ≤ q ∧ q < 2 ^ r) : 0 ≤ (q + x * 2 ^ r) / 16777216 ∧ (q + x * 2 ^ r) / 16777216 < 2 ^ r := by
  have hp : (0 : Int) < 2 ^ r := pow_pos' (by decide) _
  have h1 : 0 ≤ x * 2 ^ r := Int.mul_nonneg hx.1 (Int.le_of_lt hp)
  have h2 : x * 2 ^ r ≤ 16777215 * 2 ^ r := Int.mul_le_mul_of_nonneg_right (by omega) (Int.le_of_lt hp)
  generalize x * 2 ^ r = t at *
  generalize (2 : Int) ^ r = p at *
  constructor <;> omega
theorem wrapl2 {x q : Int} {r : Nat} (h : 0 ≤ (q + x * 2 ^ r) / 16777216 ∧ (q + x * 2 ^ r) / 16777216 < 2 ^ r) (hr : r < 24) : wrap64 ((q + x * 2 ^ r) / 16777216) = (q + x * 2 ^ r) / 16777216 := by
  have h0 : (2 : Int) ^ r ≤ 2 ^ 24 := pow_le (by decide) (by omega)
  have h3 : (2 : Int) ^ 24 = 16777216 := rfl
  rw [h3] at h0
  generalize (q + x * 2 ^ r) / 16777216 = t at *
  unfold wrap64; omega
theorem wrapl {x q : Int} {r : Nat} (hx : 0 ≤ x ∧ x < 16777216) (hq : 0 ≤ q ∧ q < 2 ^ r) (hr : r < 24) : wrap64 (q + wrap64 (x * 2 ^ r)) = q + x * 2 ^ r ∧ 0 ≤ q + x * 2 ^ r := by
  have hp : (0 : Int) < 2 ^ r := pow_pos' (by decide) _
  have h0 : (2 : Int) ^ r ≤ 2 ^ 24 := pow_le (by decide) (by omega)
  have h1 : 0 ≤ x * 2 ^ r := Int.mul_nonneg hx.1 (Int.le_of_lt hp)
  have h2 : x * 2 ^ r ≤ 16777215 * 2 ^ r := Int.mul_le_mul_of_nonneg_right (by omega) (Int.le_of_lt hp)
  generalize x * 2 ^ r = t at *
  have h3 : (2 : Int) ^ 24 = 16777216 := rfl
  rw [h3] at h0
  generalize (2 : Int) ^ r = p at *
  have e1 : wrap64 t = t := by unfold wrap64; omega
  rw [e1]; unfold wrap64; omega
set_option maxHeartbeats 4000000 in
theorem s_Left (s : Int) (A : Option Addr) (n c : Nat) (xs : List Int) (a : Int) (k : Nat) (w : World) (hX : WhD w s A n c xs a) (hk : k ≤ 10000000) (hb0 : Bd (a * 2 ^ k)) :
    Calls Tryz.prog 210 #[.agg #[.int .i64 s, .slice A n c], .int .i64 k] w (RetWh (a * 2 ^ k) w) := by
  have HX : Hd (WhD w s A n c xs a) := ⟨hX⟩
  have hkI : (k : Int) ≤ 10000000 := by omega
  have hnI : (n : Int) ≤ 100000 := by have := hX.lim5; omega
  have HKL : Hd (k / 24 ≤ LIM) := ⟨by unfold LIM; omega⟩
  have HKK : Hd (k ≤ 10000000) := ⟨hk⟩
  have HB0 : Hd (Bd (a * 2 ^ k)) := ⟨hb0⟩
  clear hX hk hb0
  go_enter Tryz.func210, Tryz.ntmps210
  go_wp2_with ((with_reducible refine wpList_make64 _ rfl (.tmp 9) (.tmp 9) rfl (w.heap.size + 1 + 1) (k / 24) _ rfl rfl (by omega) HKL.out (by simp) ?_); intro w1 ho1 hb1; have HM : Hd (O64 w1 (w.heap.size + 1 + 1) (.slice (some ⟨w.heap.size + 1 + 1, 0, none⟩) (k / 24) (k / 24)) (List.replicate (k / 24) 0)) := ⟨by simpa using ho1⟩; have HB1 : Hd (Below (W2 w s A n c).heap.size (W2 w s A n c) w1) := ⟨by rw [W2.size]; exact hb1⟩; clear ho1 hb1)
  go_loopw [5, 6, 7] (fun v q i wr => ∃ (j : Nat) (c' : Int) (zs : List Int), i = .int .i64 (j : Int) ∧ q = .int .i64 c' ∧ (j : Int) ≤ n ∧ 0 ≤ c' ∧ c' < 2 ^ (k % 24) ∧ Hd (LeftR xs k j c' zs) ∧ Hd (O64 wr (w.heap.size + 1 + 1) v zs) ∧ Hd (Below (W2 w s A n c).heap.size (W2 w s A n c) wr))
    (fun _ _ i _ => n - (intOf i).toNat)
  case atStart => exact ⟨0, 0, List.replicate (k / 24) 0, rfl, rfl, by omega, by omega, pow_pos' (by decide) _, ⟨by simp, Rng.replicate (by decide) _, by rw [val_replicate]; simp [val]⟩, HM, HB1⟩
  case round =>
    obtain ⟨j, q, zs, rfl, rfl, hj, hq0, hq1, HP, HO, HB⟩ := hrel
    have HL : Hd (zs.length < LIM) := ⟨by have := HKK.out; rw [HP.out.1]; unfold LIM; omega⟩
    have HL2 : Hd (zs.length + 1 ≤ LIM) := ⟨by have := HKK.out; rw [HP.out.1]; unfold LIM; omega⟩
    have HBS : Hd (w.heap.size + 1 + 1 ≤ wr.heap.size) := ⟨by have := HB.out.size; rw [W2.size] at this; exact this⟩
    have HB2 : Hd (Below w.heap.size w wr) := ⟨bt3 HB.out (W2.bel _ _ _ _ _)⟩
    have c0 := cb HB.out (W2.c0 w s A n c)
    have c1 := cb HB.out (W2.c1 w s A n c)
    have HQ : Hd (0 ≤ q ∧ q < 2 ^ (k % 24)) := ⟨⟨hq0, hq1⟩⟩
    have hq2 : q < 16777216 := by
      have h0 : (2 : Int) ^ (k % 24) ≤ 2 ^ 24 := pow_le (by decide) (by omega)
      have h3 : (2 : Int) ^ 24 = 16777216 := rfl
      omega
    clear hq1
    by_cases h1 : j < n
    · obtain ⟨ad, hA, hcx⟩ := HX.out.reads.at_ (k := j) (by have := HX.out.len; omega)
      subst hA
      have hgx := HX.out.rng.getD (by decide) j
      replace hcx := (HB2.out.cell (World.block_lt_of_cell? w _ hcx)).trans hcx
      generalize hex : xs.getD j 0 = x at *
      have HEx : Hd (xs.getD j 0 = x) := ⟨hex⟩
      clear hex
      have HW := wrapl (r := k % 24) hgx HQ.out (Nat.mod_lt _ (by decide))
      have HC := LeftR.carry hgx HQ.out
      have HWD : Hd ((wrap64 (q + wrap64 (x * 2 ^ (k % 24)))).tmod 16777216 = (q + x * 2 ^ (k % 24)) % 16777216 ∧ (wrap64 (q + wrap64 (x * 2 ^ (k % 24)))).tdiv 16777216 = (q + x * 2 ^ (k % 24)) / 16777216) := ⟨by rw [HW.1]; exact ⟨Int.tmod_eq_emod_of_nonneg HW.2, Int.tdiv_eq_ediv_of_nonneg HW.2⟩⟩
      have HCC : Hd (0 ≤ (q + x * 2 ^ (k % 24)) / 16777216 ∧ (q + x * 2 ^ (k % 24)) / 16777216 < 2 ^ (k % 24)) := ⟨HC⟩
      clear HW HC
      go_wp2_with (at_builtin; refine wpList_push64 _ rfl (.tmp 29) (.tmp 32) rfl (w.heap.size + 1 + 1) _ zs rfl (HO.out.alloc _) wr.heap.size 1 _ rfl ((Blk.new _ _ _).cell 0) HL.out (le_alloc _ HBS.out) ?_; intro v1 w1 ho1 hb1; have HO1 : Hd (O64 w1 (w.heap.size + 1 + 1) v1 _) := ⟨ho1⟩; have HB1 : Hd (Below (W2 w s (some ad) n c).heap.size (W2 w s (some ad) n c) w1) := ⟨((HB.out.alloc HB.out.size _)).trans (by rw [W2.size]; exact hb1)⟩; clear ho1 hb1)
      go_roundw
      case rel =>
        exact ⟨j + 1, (q + x * 2 ^ (k % 24)) / 16777216, _, by go_num, by rw [HWD.out.2, wrapl2 HCC.out (Nat.mod_lt _ (by decide))], by omega, HCC.out.1, HCC.out.2, ⟨HP.out.next (by rw [HEx.out]; exact HWD.out.1) (by rw [HEx.out])⟩, HO1, HB1⟩
      case measure => simp [intOf]; omega
    · obtain rfl : j = n := by omega
      have HV : Hd (a * 2 ^ k = s * val 16777216 (zs ++ [q]) ∧ Rng 16777216 (zs ++ [q])) := ⟨by
        have h3 := HP.out.2.2
        rw [HX.out.len, List.take_of_length_le (Nat.le_refl _), ← HX.out.len] at h3
        rw [val_snoc, HP.out.1, h3, HX.out.num.eq, Int.mul_comm (2 ^ k), Int.mul_assoc]
        exact ⟨rfl, HP.out.2.1.snoc hq0 hq2⟩⟩
      have HSG : Hd (s = 1 ∨ s = -1 ∨ val 16777216 (zs ++ [q]) = 0) := ⟨sgz HX.out.sg (fun h => by
        have h3 := HP.out.2.2
        rw [HX.out.len, List.take_of_length_le (Nat.le_refl _), ← HX.out.len, h] at h3
        rw [val_snoc, HP.out.1]; simpa using h3)⟩
      go_wp2_with fail
      go_region_held3 (fun w' => w'.cell? ⟨w.heap.size, 0, none⟩ = some (.int .i64 s)) ((first | assumption | (exact cb hq (W2.c0 w s A j c)) | go_keep | go_simp))
        (first | (go_at_call 258; (with_reducible refine (s_MakeW s A1 (zs.length + 1) c1' (zs ++ [q]) (a * 2 ^ k) w1 HNZ.out HR1.out HL2.out HCP.out HV.out.2 HSG.out HV.out.1 HB0.out).mono ?_); rintro e w2 ⟨s2, A2, n2, c2, rfl, hW, hq0⟩; replace hq := bt3 hq0 hq; have HW2 : Hd (WhO w2 (w.heap.size + 1 + 1) s2 A2 n2 c2 (a * 2 ^ k)) := ⟨hW.mono (HQ2.out)⟩; clear hW hq0; unfold W2 at hq; obtain ⟨hc, hf, hz, hy⟩ := bcell hq; have hs := hq.size; (try simp at hs); have h0' : w.heap.size < w2.heap.size := (by omega); have h1' : w.heap.size + 1 < w2.heap.size := (by omega); clear hs) | ((with_reducible refine step_is_append (.tmp 38) (.tmp 40) rfl ?_); refine step_push64 _ rfl (.tmp 38) (.tmp 40) rfl (w.heap.size + 1 + 1) _ zs rfl (HO.out.keep (Below.drew (ba _ (Below.refl _ _)))) _ 1 q rfl ((Blk.new _ _ _).cell 0) HL.out (le_alloc _ HBS.out) ?_; intro v1 w1 ho1 hb1; obtain ⟨A1, c1', hv1, hR1⟩ := ho1.form; have HCP : Hd (zs.length + 1 ≤ c1') := ⟨by subst hv1; have := ho1.cap.2; simpa using this⟩; subst hv1; have HNZ : Hd (zs.length + 1 = (zs ++ [q]).length) := ⟨by simp⟩; have HR1 : Hd (R64 w1 A1 (zs ++ [q])) := ⟨hR1⟩; have hq : Below (W2 w s A j c).heap.size (W2 w s A j c) w1 := (by rw [W2.size]; refine bel_up ?_ hb1; rw [← W2.size w s A j c]; (repeat (first | exact Below.refl _ _ | exact HB.out | assumption | refine Below.drew ?_ | refine bdn ?_ | refine ba _ ?_ | refine bs0 _ _ ?_ ?_ | refine bs1 _ _ _ ?_ ?_ | refine bs2 _ _ _ _ ?_ ?_ | refine bt3 (by assumption) ?_))); have HQ2 : Hd (w.heap.size + 1 + 1 ≤ w1.heap.size) := ⟨by have := hq.size; rw [W2.size] at this; exact this⟩; clear ho1 hb1 hR1))
      go_wp2_with fail
      refine bodyPost_ret (v := .agg #[.int .i64 s2, .slice A2 n2 c2]) (by simp (maxDischargeDepth := 7) [results, Tryz.results210, go_sem, *]) rfl ⟨s2, A2, n2, c2, rfl, ?_, ?_⟩
      · exact ((HW2.out.set _ _ (by omega) _).set _ _ (by omega) _).mono (by omega)
      · (repeat (first | exact Below.refl _ _ | assumption | refine Below.drew ?_ | refine bdn ?_ | refine ba _ ?_ | refine bs0 _ _ ?_ ?_ | refine bs1 _ _ _ ?_ ?_ | refine bs2 _ _ _ _ ?_ ?_ | refine bt3 (by assumption) ?_))
end Go.Proofs.YtflgjecpjaiecaaGreat
/- Contracts: dyadic numbers of the reference. -/
set_option linter.unusedVariables false
set_option linter.unusedSimpArgs false
namespace Go.Proofs.YtflgjecpjaiecaaGreat
open Go.RowKit Num
/-- the scale in which values of dyadic numbers are told -/
def SC : Nat := 20000
/-- the value of m times 2^e, in the scale -/
def dv (m e : Int) : Int := m * 2 ^ (e + SC).toNat
/-- a dyadic number in its form -/
structure DyF (m e V : Int) (l : Nat) : Prop where
  val : V = dv m e
  lo : -(l : Int) ≤ e
  lsc : l ≤ SC
  hi : e ≤ 2400000
  zer : m = 0 → e = 0
  odd : m ≠ 0 → m % 2 = 1
  bd : Bd V
def DyP (w : World) (s : Int) (A : Option Addr) (n c : Nat) (e V : Int) (l : Nat) : Prop := ∃ m, WhP w s A n c m ∧ DyF m e V l
def DyO (w : World) (B : Nat) (s : Int) (A : Option Addr) (n c : Nat) (e V : Int) (l : Nat) : Prop := ∃ m, WhO w B s A n c m ∧ DyF m e V l
def RetD (V : Int) (l : Nat) (w : World) (e : Ending) (w' : World) : Prop := ∃ s A n c x, e = .returned (.agg #[.int .i64 s, .slice A n c, .int .i64 x]) ∧ DyO w' w.heap.size s A n c x V l ∧ Below w.heap.size w w'
theorem DyO.dp {w : World} {B : Nat} {s : Int} {A : Option Addr} {n c : Nat} {e V : Int} {l : Nat} (h : DyO w B s A n c e V l) : DyP w s A n c e V l := by
  obtain ⟨m, h1, h2⟩ := h; exact ⟨m, h1.wh, h2⟩
theorem DyO.mono {w : World} {B B' : Nat} {s : Int} {A : Option Addr} {n c : Nat} {e V : Int} {l : Nat} (h : DyO w B s A n c e V l) (hB : B' ≤ B) : DyO w B' s A n c e V l := by
  obtain ⟨m, h1, h2⟩ := h; exact ⟨m, h1.mono hB, h2⟩
theorem DyO.keep {w w' : World} {B : Nat} {s : Int} {A : Option Addr} {n c : Nat} {e V : Int} {l : Nat} (h : DyO w B s A n c e V l) (hb : Below w.heap.size w w') : DyO w' B s A n c e V l := by
  obtain ⟨m, h1, h2⟩ := h; exact ⟨m, h1.keep hb, h2⟩
theorem DyO.set {w : World} {B : Nat} {s : Int} {A : Option Addr} {n c : Nat} {e V : Int} {l : Nat} (h : DyO w B s A n c e V l) (g o : Nat) (hg : g < B) (u : Value) : DyO (w.setCell ⟨g, o, none⟩ u) B s A n c e V l := by
  obtain ⟨m, h1, h2⟩ := h; exact ⟨m, h1.set g o hg u, h2⟩
theorem DyP.below {w w' : World} {s : Int} {A : Option Addr} {n c : Nat} {e V : Int} {l : Nat} (h : DyP w s A n c e V l) (hb : Below w.heap.size w w') : DyP w' s A n c e V l := by
  obtain ⟨m, h1, h2⟩ := h; exact ⟨m, h1.below hb, h2⟩
theorem pow2_pos (k : Nat) : (0 : Int) < 2 ^ k := pow_pos' (by decide) k
theorem dv_bd {m e : Int} (h : Bd (dv m e)) : Bd m := by
  have hp := pow2_pos (e + SC).toNat
  unfold dv at h
  generalize (2 : Int) ^ (e + SC).toNat = p at *
  have h1 : m.natAbs * 1 ≤ m.natAbs * p.natAbs := Nat.mul_le_mul_left _ (by omega)
  rw [← Int.natAbs_mul] at h1
  unfold Bd at *
  generalize TOP = T at *
  omega
theorem dv_hi {m e : Int} (h : Bd (dv m e)) (hm : m ≠ 0) : e ≤ 2400000 := by
  have h1 : (2 : Int) ^ (e + SC).toNat ≤ (dv m e).natAbs := by
    unfold dv; rw [Int.natAbs_mul, Int.natAbs_pow]
    have h2 : 1 * 2 ^ (e + SC).toNat ≤ m.natAbs * 2 ^ (e + SC).toNat := Nat.mul_le_mul_right _ (by omega)
    have h3 : ((2 : Nat) ^ (e + SC).toNat : Nat) ≤ m.natAbs * (Int.natAbs 2) ^ (e + SC).toNat := by simpa using h2
    exact_mod_cast h3
  have h4 : ((dv m e).natAbs : Int) < TOP := by unfold Bd at h; generalize TOP = T at *; omega
  have h5 : TOP = 2 ^ (24 * 100000) := by unfold TOP; exact p24 100000
  rw [h5] at h4
  rcases Int.lt_or_le 2400000 e with h6 | h6
  · have h7 : (2 : Int) ^ (24 * 100000) ≤ 2 ^ (e + SC).toNat := pow_le (by decide) (by omega)
    exact absurd (Int.lt_of_lt_of_le h4 (Int.le_trans h7 h1)) (Int.lt_irrefl _)
  · exact h6
theorem bd_le {m a : Int} (h : m.natAbs ≤ a.natAbs) (hb : Bd a) : Bd m := by unfold Bd at *; generalize TOP = T at *; omega
theorem cut_le {s a v : Int} (k : Nat) (h : a = s * v) (hv : 0 ≤ v) : (s * (v / 2 ^ k)).natAbs ≤ a.natAbs := by
  rw [h, Int.natAbs_mul, Int.natAbs_mul]
  have h1 : v / 2 ^ k ≤ v := Int.ediv_le_self _ hv
  have h2 : 0 ≤ v / 2 ^ k := Int.ediv_nonneg hv (Int.le_of_lt (pow2_pos k))
  exact Nat.mul_le_mul_left _ (by omega)
theorem dy_cut {s a v e V : Int} {k l : Nat} (ha : a = s * v) (hs : s = 1 ∨ s = -1) (hv : 0 < v) (hm : v % 2 ^ k = 0) (ho : v / 2 ^ k % 2 = 1) (hV : V = dv a e) (hl : -(l : Int) ≤ e) (hls : l ≤ SC) (hb : Bd V) : DyF (s * (v / 2 ^ k)) (e + k) V l := by
  have e1 : v = 2 ^ k * (v / 2 ^ k) := by have := Int.mul_ediv_add_emod v (2 ^ k); omega
  have hV2 : V = dv (s * (v / 2 ^ k)) (e + k) := by
    have h5 : (e + k + SC).toNat = (e + SC).toNat + k := by omega
    rw [hV, ha]
    unfold dv
    rw [h5, Int.pow_add]
    conv => lhs; rw [e1]
    rw [Int.mul_comm (2 ^ k) (v / 2 ^ k), Int.mul_assoc, Int.mul_assoc, Int.mul_assoc, Int.mul_comm (2 ^ k)]
  have hu : v / 2 ^ k ≠ 0 := by intro h; rw [h] at ho; simp at ho
  have hm0 : s * (v / 2 ^ k) ≠ 0 := by rcases hs with rfl | rfl <;> omega
  refine ⟨hV2, by omega, hls, dv_hi (by rw [← hV2]; exact hb) hm0, fun h => absurd h hm0, fun _ => ?_, hb⟩
  rcases hs with rfl | rfl <;> omega
set_option maxHeartbeats 4000000 in
theorem s_DMake (s : Int) (A : Option Addr) (n c : Nat) (a x : Int) (l : Nat) (w : World) (hX : WhP w s A n c a) (hl : -(l : Int) ≤ x) (hls : l ≤ SC) (hx : x ≤ 2400000) (hb : Bd (dv a x)) :
    Calls Tryz.prog 211 #[.agg #[.int .i64 s, .slice A n c], .int .i64 x] w (RetD (dv a x) l w) := by
  obtain ⟨xs, hX⟩ := hX.opened
  have HX : Hd (WhD w s A n c xs a) := ⟨hX⟩
  have HL : Hd (-(l : Int) ≤ x ∧ l ≤ SC) := ⟨⟨hl, hls⟩⟩
  have HB0 : Hd (Bd (dv a x)) := ⟨hb⟩
  have hx0 : -20000 ≤ x := by have h2 : (SC : Int) = 20000 := rfl; omega
  have hnI : (n : Int) ≤ 100000 := by have := hX.lim5; omega
  by_cases h0 : s = 0
  · have ha : a = 0 := hX.num.zero.1 h0
    have HV : Hd (DyF 0 0 (dv a x) l) := ⟨⟨by rw [ha]; unfold dv; simp, by omega, hls, by omega, fun _ => rfl, fun h => absurd rfl h, hb⟩⟩
    clear hX hl hls hb ha
    subst h0
    go_enter Tryz.func211, Tryz.ntmps211
    go_wp2_with fail
    refine bodyPost_ret (v := .agg #[.int .i64 0, .slice none 0 0, .int .i64 0]) (by simp (maxDischargeDepth := 7) [results, Tryz.results211, go_sem, *]) rfl ⟨0, none, 0, 0, 0, rfl, ⟨0, ⟨[], rfl, by omega, ⟨Canon.nil _, .inl ⟨rfl, rfl⟩, rfl⟩, World.ownsRow_nil _ _ _ _⟩, HV.out⟩, ?_⟩
    (repeat (first | exact Below.refl _ _ | assumption | refine Below.drew ?_ | refine bdn ?_ | refine ba _ ?_ | refine bs0 _ _ ?_ ?_ | refine bs1 _ _ _ ?_ ?_ | refine bs2 _ _ _ _ ?_ ?_ | refine bt3 (by assumption) ?_))
  · have HS0 : Hd (s ≠ 0) := ⟨h0⟩
    have HS1 : Hd (s = 1 ∨ s = -1) := ⟨(hX.num.one h0).1⟩
    have HV0 : Hd (0 < val 16777216 xs) := ⟨(hX.num.one h0).2.1⟩
    have hd : (s == 0) = false := by simpa using h0
    clear hX hl hls hb h0
    go_enter Tryz.func211, Tryz.ntmps211
    go_wp2_with (first
      | (go_at_call 260; (with_reducible refine (s_Twos s A n c xs a _ (HX.out.below (by (repeat (first | exact Below.refl _ _ | assumption | refine Below.drew ?_ | refine bdn ?_ | refine ba _ ?_ | refine bs0 _ _ ?_ ?_ | refine bs1 _ _ _ ?_ ?_ | refine bs2 _ _ _ _ ?_ ?_ | refine bt3 (by assumption) ?_)))) HS0.out).mono ?_); rintro e' w1 ⟨⟨k, rfl, hk, hk1, hk2⟩, hq⟩; have hkI : (k : Int) ≤ 2400000 := (by omega); have HK : Hd (k ≤ 10000000 ∧ val 16777216 xs % 2 ^ k = 0 ∧ val 16777216 xs / 2 ^ k % 2 = 1) := ⟨⟨(by omega), hk1, hk2⟩⟩; have HBC : Hd (Bd (s * (val 16777216 xs / 2 ^ k))) := ⟨bd_le (cut_le k HX.out.num.eq (Int.le_of_lt HV0.out)) (dv_bd HB0.out)⟩; clear hk hk1 hk2; obtain ⟨hc, hf, hz, hy⟩ := bcell hq; have hs := hq.size; (try simp at hs); have HZ : Hd (w.heap.size + 1 + 1 ≤ w1.heap.size) := ⟨(by omega)⟩; clear hs)
      | (go_at_call 261; (with_reducible refine (s_Cut s A n c xs a k _ (HX.out.below (by (repeat (first | exact Below.refl _ _ | assumption | refine Below.drew ?_ | refine bdn ?_ | refine ba _ ?_ | refine bs0 _ _ ?_ ?_ | refine bs1 _ _ _ ?_ ?_ | refine bs2 _ _ _ _ ?_ ?_ | refine bt3 (by assumption) ?_)))) HK.out.1 HBC.out).mono ?_); rintro e' w2 ⟨s2, A2, n2, c2, rfl, hW, hq2⟩; clear hc hf hz hy; replace hq := bt3 hq2 hq; have HW2 : Hd (WhO w2 (w.heap.size + 1 + 1) s2 A2 n2 c2 (s * (val 16777216 xs / 2 ^ k))) := ⟨hW.mono HZ.out⟩; clear hW hq2; obtain ⟨hc, hf, hz, hy⟩ := bcell hq; have hs := hq.size; (try simp at hs); have h0' : w.heap.size < w2.heap.size := (by omega); have h1' : w.heap.size + 1 < w2.heap.size := (by omega); clear hs))
    refine bodyPost_ret (v := .agg #[.int .i64 s2, .slice A2 n2 c2, .int .i64 (x + k)]) (by simp (maxDischargeDepth := 7) [results, Tryz.results211, go_sem, *]) rfl ⟨s2, A2, n2, c2, x + k, rfl, ⟨_, (((HW2.out.set _ _ (by omega) _).set _ _ (by omega) _).set _ _ (by omega) _).mono (by omega), dy_cut HX.out.num.eq HS1.out HV0.out HK.out.2.1 HK.out.2.2 rfl HL.out.1 HL.out.2 HB0.out⟩, ?_⟩
    (repeat (first | exact Below.refl _ _ | assumption | refine Below.drew ?_ | refine bdn ?_ | refine ba _ ?_ | refine bs0 _ _ ?_ ?_ | refine bs1 _ _ _ ?_ ?_ | refine bs2 _ _ _ _ ?_ ?_ | refine bt3 (by assumption) ?_))
end Go.Proofs.YtflgjecpjaiecaaGreat
