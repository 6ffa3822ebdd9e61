/- Plain facts: whole numbers as lists of digits, lowest first. -/
import Init
set_option linter.unusedVariables false
set_option linter.unusedSimpArgs false
namespace Go.Proofs.Ytmiafbbndonpaaa.Num

/-- the number of a list of digits in base B -/
def val (B : Int) : List Int → Int
  | [] => 0
  | x :: xs => x + B * val B xs
/-- all digits lie in the base -/
def Rng (B : Int) (xs : List Int) : Prop := ∀ x ∈ xs, 0 ≤ x ∧ x < B
/-- no zeros at the end -/
def Lst (xs : List Int) : Prop := ∀ h : xs ≠ [], xs.getLast h ≠ 0
def Canon (B : Int) (xs : List Int) : Prop := Rng B xs ∧ Lst xs

theorem Rng.nil (B : Int) : Rng B [] := fun _ h => by simp at h
theorem Rng.cons {B x : Int} {xs : List Int} (h0 : 0 ≤ x) (h1 : x < B) (h : Rng B xs) : Rng B (x :: xs) := by
  intro y hy; rcases List.mem_cons.1 hy with rfl | hy
  · exact ⟨h0, h1⟩
  · exact h y hy
theorem Rng.append {B : Int} {xs ys : List Int} (h : Rng B xs) (k : Rng B ys) : Rng B (xs ++ ys) := by
  intro y hy; rcases List.mem_append.1 hy with hy | hy
  · exact h y hy
  · exact k y hy
theorem Rng.snoc {B x : Int} {xs : List Int} (h : Rng B xs) (h0 : 0 ≤ x) (h1 : x < B) : Rng B (xs ++ [x]) := h.append (Rng.cons h0 h1 (Rng.nil B))
theorem Rng.tail {B x : Int} {xs : List Int} (h : Rng B (x :: xs)) : Rng B xs := fun y hy => h y (List.mem_cons_of_mem _ hy)
theorem Rng.take {B : Int} {xs : List Int} (h : Rng B xs) (k : Nat) : Rng B (xs.take k) := fun y hy => h y (List.mem_of_mem_take hy)
theorem Rng.drop {B : Int} {xs : List Int} (h : Rng B xs) (k : Nat) : Rng B (xs.drop k) := fun y hy => h y (List.mem_of_mem_drop hy)
theorem Rng.getD {B : Int} (hB : 0 < B) {xs : List Int} (h : Rng B xs) (k : Nat) : 0 ≤ xs.getD k 0 ∧ xs.getD k 0 < B := by
  rw [List.getD_eq_getElem?_getD]
  by_cases hk : k < xs.length
  · rw [List.getElem?_eq_getElem hk]; exact h _ (List.getElem_mem hk)
  · rw [List.getElem?_eq_none (by omega)]; exact ⟨Int.le_refl _, hB⟩
theorem Rng.set {B x : Int} {xs : List Int} (h : Rng B xs) (h0 : 0 ≤ x) (h1 : x < B) (i : Nat) : Rng B (xs.set i x) := by
  intro y hy
  rcases List.mem_or_eq_of_mem_set hy with hy | rfl
  · exact h y hy
  · exact ⟨h0, h1⟩
theorem Rng.replicate {B : Int} (hB : 0 < B) (n : Nat) : Rng B (List.replicate n 0) := fun y hy => by
  have := List.eq_of_mem_replicate hy; subst this; exact ⟨Int.le_refl _, hB⟩

theorem val_nonneg {B : Int} (hB : 0 < B) {xs : List Int} (h : Rng B xs) : 0 ≤ val B xs := by
  induction xs with
  | nil => exact Int.le_refl _
  | cons x xs ih =>
    have h1 := (h x (List.mem_cons_self ..)).1
    have h2 := Int.mul_nonneg (Int.le_of_lt hB) (ih h.tail)
    show 0 ≤ x + B * val B xs
    omega
theorem pow_pos' {B : Int} (hB : 0 < B) (n : Nat) : 0 < B ^ n := Int.pow_pos hB
theorem val_lt {B : Int} (hB : 0 < B) {xs : List Int} (h : Rng B xs) : val B xs < B ^ xs.length := by
  induction xs with
  | nil => show (0 : Int) < B ^ 0; simp
  | cons x xs ih =>
    have h1 := (h x (List.mem_cons_self ..)).2
    have h2 : val B xs + 1 ≤ B ^ xs.length := ih h.tail
    have h3 := Int.mul_le_mul_of_nonneg_left h2 (Int.le_of_lt hB)
    show x + B * val B xs < B ^ (xs.length + 1)
    rw [Int.pow_succ, Int.mul_comm _ B]
    rw [Int.mul_add] at h3
    omega
theorem pow_le {B : Int} (hB : 1 ≤ B) {m n : Nat} (h : m ≤ n) : B ^ m ≤ B ^ n := by
  obtain ⟨d, rfl⟩ : ∃ d, n = m + d := ⟨n - m, by omega⟩
  have h1 : 0 < B ^ m := pow_pos' (by omega) m
  have h2 : 0 < B ^ d := pow_pos' (by omega) d
  have := Int.mul_le_mul_of_nonneg_left (show (1 : Int) ≤ B ^ d by omega) (Int.le_of_lt h1)
  rw [Int.pow_add]; omega
theorem val_append (B : Int) (xs ys : List Int) : val B (xs ++ ys) = val B xs + B ^ xs.length * val B ys := by
  induction xs with
  | nil => show val B ys = 0 + B ^ 0 * val B ys; simp
  | cons x xs ih =>
    show x + B * val B (xs ++ ys) = x + B * val B xs + B ^ (xs.length + 1) * val B ys
    rw [ih, Int.pow_succ, Int.mul_add, Int.mul_comm (B ^ xs.length) B, Int.mul_assoc]; omega
theorem val_snoc (B : Int) (xs : List Int) (x : Int) : val B (xs ++ [x]) = val B xs + B ^ xs.length * x := by
  rw [val_append]; show _ + _ * (x + B * 0) = _; simp
theorem val_replicate (B : Int) (n : Nat) : val B (List.replicate n 0) = 0 := by
  induction n with
  | zero => rfl
  | succ n ih => show 0 + B * val B (List.replicate n 0) = 0; rw [ih]; simp
theorem val_take_drop (B : Int) (xs : List Int) (k : Nat) (h : k ≤ xs.length) : val B xs = val B (xs.take k) + B ^ k * val B (xs.drop k) := by
  have := val_append B (xs.take k) (xs.drop k)
  rw [List.take_append_drop, List.length_take, Nat.min_eq_left h] at this
  exact this
theorem val_take_succ (B : Int) (xs : List Int) (k : Nat) : val B (xs.take (k + 1)) = val B (xs.take k) + B ^ k * xs.getD k 0 := by
  by_cases h : k < xs.length
  · rw [List.take_succ_eq_append_getElem h, val_snoc, List.length_take, Nat.min_eq_left (by omega), List.getD_eq_getElem?_getD, List.getElem?_eq_getElem h]; rfl
  · rw [List.take_of_length_le (by omega), List.take_of_length_le (by omega), List.getD_eq_getElem?_getD, List.getElem?_eq_none (by omega)]; simp
theorem val_drop (B : Int) (xs : List Int) (k : Nat) : val B (xs.drop k) = xs.getD k 0 + B * val B (xs.drop (k + 1)) := by
  by_cases h : k < xs.length
  · rw [List.drop_eq_getElem_cons h, List.getD_eq_getElem?_getD, List.getElem?_eq_getElem h]; rfl
  · rw [List.drop_eq_nil_of_le (by omega), List.drop_eq_nil_of_le (by omega), List.getD_eq_getElem?_getD, List.getElem?_eq_none (by omega)]; show (0 : Int) = 0 + B * 0; simp
theorem val_set (B : Int) (xs : List Int) (k : Nat) (x : Int) (h : k < xs.length) : val B (xs.set k x) = val B xs + B ^ k * (x - xs.getD k 0) := by
  induction xs generalizing k with
  | nil => simp at h
  | cons y xs ih =>
    cases k with
    | zero => show x + B * val B xs = y + B * val B xs + B ^ 0 * (x - y); simp; omega
    | succ k =>
      show y + B * val B (xs.set k x) = y + B * val B xs + B ^ (k + 1) * (x - xs.getD k 0)
      rw [ih k (by simpa using h), Int.pow_succ, Int.mul_add, Int.mul_comm (B ^ k) B, Int.mul_assoc]; omega

/-- canonical digits: the top one tells the size -/
theorem Canon.lower {B : Int} (hB : 0 < B) {xs : List Int} (h : Canon B xs) (hx : xs ≠ []) : B ^ (xs.length - 1) ≤ val B xs := by
  obtain ⟨n, hn⟩ : ∃ n, xs.length = n + 1 := ⟨xs.length - 1, by have := List.length_pos_iff.2 hx; omega⟩
  have e := val_take_succ B xs n
  rw [List.take_of_length_le (by omega)] at e
  have hl : xs.getD n 0 = xs.getLast hx := by
    rw [List.getLast_eq_getElem, List.getD_eq_getElem?_getD, List.getElem?_eq_getElem (by omega)]
    simp only [Option.getD_some]; congr 1; omega
  have h1 := h.2 hx
  have h2 := (h.1 _ (List.getLast_mem hx)).1
  have h3 := val_nonneg hB (h.1.take n)
  have h4 : B ^ n * 1 ≤ B ^ n * xs.getD n 0 := Int.mul_le_mul_of_nonneg_left (by rw [hl]; omega) (Int.le_of_lt (pow_pos' hB n))
  rw [hn, e]; simp only [Nat.add_sub_cancel]; omega
theorem Canon.pos {B : Int} (hB : 0 < B) {xs : List Int} (h : Canon B xs) (hx : xs ≠ []) : 0 < val B xs :=
  Int.lt_of_lt_of_le (pow_pos' hB _) (h.lower hB hx)
theorem Canon.nil_iff {B : Int} (hB : 0 < B) {xs : List Int} (h : Canon B xs) : xs = [] ↔ val B xs = 0 := by
  constructor
  · rintro rfl; rfl
  · intro e
    by_cases hx : xs = []
    · exact hx
    · have := h.pos hB hx; omega
/-- of two canonical lists the longer one is greater -/
theorem Canon.len_lt {B : Int} (hB : 1 < B) {xs ys : List Int} (h : Canon B xs) (k : Canon B ys) (hl : xs.length < ys.length) : val B xs < val B ys := by
  have hy : ys ≠ [] := by rintro rfl; simp at hl
  have h1 := val_lt (by omega) h.1
  have h2 := k.lower (by omega) hy
  have h3 : B ^ xs.length ≤ B ^ (ys.length - 1) := pow_le (by omega) (by omega)
  omega
theorem val_inj {B : Int} (hB : 0 < B) : ∀ {xs ys : List Int}, Rng B xs → Rng B ys → xs.length = ys.length → val B xs = val B ys → xs = ys
  | [], [], _, _, _, _ => rfl
  | x :: xs, y :: ys, h, k, hl, e => by
    have h1 := h x (List.mem_cons_self ..)
    have h2 := k y (List.mem_cons_self ..)
    have e' : x + B * val B xs = y + B * val B ys := e
    have m1 : (x + B * val B xs) % B = x := by rw [Int.add_mul_emod_self_left, Int.emod_eq_of_lt h1.1 h1.2]
    have m2 : (y + B * val B ys) % B = y := by rw [Int.add_mul_emod_self_left, Int.emod_eq_of_lt h2.1 h2.2]
    have hxy : x = y := by rw [← m1, ← m2, e']
    subst hxy
    have : B * val B xs = B * val B ys := by omega
    have := Int.eq_of_mul_eq_mul_left (by omega) this
    rw [val_inj hB h.tail k.tail (by simpa using hl) this]
  | [], _ :: _, _, _, hl, _ => by simp at hl
  | _ :: _, [], _, _, hl, _ => by simp at hl
theorem Canon.inj {B : Int} (hB : 1 < B) {xs ys : List Int} (h : Canon B xs) (k : Canon B ys) (e : val B xs = val B ys) : xs = ys := by
  rcases Nat.lt_trichotomy xs.length ys.length with hl | hl | hl
  · have := h.len_lt hB k hl; omega
  · exact val_inj (by omega) h.1 k.1 hl e
  · have := k.len_lt hB h hl; omega
theorem Lst.nil : Lst [] := fun h => absurd rfl h
theorem Canon.nil (B : Int) : Canon B [] := ⟨Rng.nil B, Lst.nil⟩
/-- a beginning whose next digits are zeros has the value -/
theorem val_take_zeros (B : Int) (xs : List Int) (k n : Nat) (h : k ≤ n) (hz : ∀ j, k ≤ j → j < n → xs.getD j 0 = 0) : val B (xs.take n) = val B (xs.take k) := by
  induction n with
  | zero => have : k = 0 := by omega
            subst this; rfl
  | succ n ih =>
    by_cases e : k = n + 1
    · subst e; rfl
    · rw [val_take_succ, hz n (by omega) (by omega), ih (by omega) (fun j h1 h2 => hz j h1 (by omega))]; simp
theorem Lst.take {xs : List Int} {k : Nat} (hk : k ≤ xs.length) (h : k = 0 ∨ xs.getD (k - 1) 0 ≠ 0) : Lst (xs.take k) := by
  intro hne
  have hpos : 0 < k := by
    rcases Nat.eq_zero_or_pos k with h0 | h0
    · subst h0; simp at hne
    · exact h0
  have h' := h.resolve_left (by omega)
  rw [List.getLast_eq_getElem]
  simp only [List.length_take, Nat.min_eq_left hk, List.getElem_take]
  rw [List.getD_eq_getElem?_getD, List.getElem?_eq_getElem (by omega)] at h'
  exact h'
/-- a digit of the value -/
theorem val_div_pow {B : Int} (hB : 0 < B) {xs : List Int} (h : Rng B xs) (k : Nat) : val B xs / B ^ k = val B (xs.drop k) := by
  by_cases hk : k ≤ xs.length
  · have h1 := val_lt hB (h.take k)
    have h0 := val_nonneg hB (h.take k)
    rw [List.length_take, Nat.min_eq_left hk] at h1
    rw [val_take_drop B xs k hk, Int.add_mul_ediv_left _ _ (by have := pow_pos' hB k; omega), Int.ediv_eq_zero_of_lt h0 h1]; omega
  · rw [List.drop_eq_nil_of_le (by omega)]
    have h1 := val_lt hB h
    have h2 : B ^ xs.length ≤ B ^ k := pow_le (by omega) (by omega)
    exact Int.ediv_eq_zero_of_lt (val_nonneg hB h) (by omega)
theorem val_mod_pow {B : Int} (hB : 0 < B) {xs : List Int} (h : Rng B xs) (k : Nat) (hk : k ≤ xs.length) : val B xs % B ^ k = val B (xs.take k) := by
  have h1 := val_lt hB (h.take k)
  have h0 := val_nonneg hB (h.take k)
  rw [List.length_take, Nat.min_eq_left hk] at h1
  rw [val_take_drop B xs k hk, Int.add_mul_emod_self_left, Int.emod_eq_of_lt h0 h1]
end Go.Proofs.Ytmiafbbndonpaaa.Num
