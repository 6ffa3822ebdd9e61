/- Plain facts: both quotients are rounded alike. -/
import Derived.Test.YtlaaielopcphiaaD1
import Derived.Test.YtlaaielopcphiaaD4
set_option linter.unusedVariables false
set_option linter.unusedSimpArgs false
set_option exponentiation.threshold 40000
namespace Go.Proofs.Ytlaaielopcphiaa
open Go.RowKit Num Flt
theorem rF_of {mode V : Int} (h : V ≠ 0) : rF mode V = (if V < 0 then 2147483648 else 0) + rgN mode (decide (V < 0)) V.natAbs ∧ rFl mode V = flF mode (decide (V < 0)) V.natAbs := by
  unfold rF rFl; rw [if_neg h, if_neg h]; exact ⟨rfl, rfl⟩
theorem rF_alike {mode V U : Int} (hV : V ≠ 0) (hU : U ≠ 0) (hs : V < 0 ↔ U < 0) (h : ∀ neg, rgN mode neg V.natAbs = rgN mode neg U.natAbs ∧ flF mode neg V.natAbs = flF mode neg U.natAbs) : rF mode V = rF mode U ∧ rFl mode V = rFl mode U := by
  obtain ⟨e1, e2⟩ := rF_of (mode := mode) hV
  obtain ⟨e3, e4⟩ := rF_of (mode := mode) hU
  have hd : decide (V < 0) = decide (U < 0) := decide_eq_decide.2 hs
  rw [e1, e2, e3, e4, hd, (h _).1, (h _).2]
  refine ⟨?_, rfl⟩
  by_cases k : U < 0
  · rw [if_pos k, if_pos (hs.2 k)]
  · rw [if_neg k, if_neg (fun j => k (hs.1 j))]
/-- a cut quotient in the scale, as a magnitude: m 2^e over n 2^d, lengthened by k, c bits behind the quotient -/
theorem cut_mag {X Y m n k c : Nat} {e d E : Int} (hX : (X : Int) = m * 2 ^ (e + SC).toNat) (hY : (Y : Int) = n * 2 ^ (d + SC).toNat) (hn : 0 < n) (he : -1000 ≤ e ∧ e ≤ 1000) (hd : -1000 ≤ d ∧ d ≤ 1000) (hk : k ≤ 200) (hc : c ≤ 10) (hE : E = e - d - k - c) :
    ∃ p g, c ≤ g ∧ g + p = 30000 ∧ cutM X (Y * 2 ^ 10000) p c g = (2 ^ c * (m * 2 ^ k / n) + (if m * 2 ^ k % n = 0 then 0 else 1)) * 2 ^ (E + SC).toNat ∧ X * 2 ^ p / (Y * 2 ^ 10000) = m * 2 ^ k / n := by
  have hsc : (SC : Int) = 20000 := rfl
  have hX' : X = m * 2 ^ (e + SC).toNat := by exact_mod_cast hX
  have hY' : Y = n * 2 ^ (d + SC).toNat := by exact_mod_cast hY
  refine ⟨((k : Int) + d - e + 10000).toNat, (SC + e - d - (k : Int)).toNat, by omega, by omega, ?_⟩
  have h1 : X * 2 ^ ((k : Int) + d - e + 10000).toNat = m * 2 ^ k * 2 ^ ((d + SC).toNat + 10000) := by
    rw [hX', Nat.mul_assoc, ← Nat.pow_add, Nat.mul_assoc, ← Nat.pow_add]
    congr 2; omega
  have h2 : Y * 2 ^ 10000 = n * 2 ^ ((d + SC).toNat + 10000) := by rw [hY', Nat.mul_assoc, ← Nat.pow_add]
  obtain ⟨h3, h4⟩ := cut_scale (A := m) (B := n) (k := k) (z := (d + SC).toNat + 10000) h1 h2
  refine ⟨?_, h3⟩
  unfold cutM
  rw [h3]
  have e5 : (SC + e - d - (k : Int)).toNat - c = (E + SC).toNat := by omega
  rw [e5]
  by_cases h5 : m * 2 ^ k % n = 0
  · rw [if_pos h5, if_pos (h4.2 h5)]
  · rw [if_neg h5, if_neg (fun j => h5 (h4.1 j))]
/-- a marked quotient as a number -/
def mkQ (m n k c : Nat) (E : Int) : Nat := (2 ^ c * (m * 2 ^ k / n) + (if m * 2 ^ k % n = 0 then 0 else 1)) * 2 ^ (E + SC).toNat
theorem mkQ_pos {m n k c : Nat} {E : Int} (h : 2 ^ 25 ≤ m * 2 ^ k / n) : 0 < mkQ m n k c E := by
  unfold mkQ
  refine Nat.mul_pos ?_ (Nat.two_pow_pos _)
  have h1 := Nat.mul_pos (Nat.two_pow_pos c) (Nat.lt_of_lt_of_le (Nat.two_pow_pos 25) h)
  omega
theorem div_alike {mode sg : Int} {X Y m n k c m' n' k' c' : Nat} {e d E e2 d2 E' : Int} (hs : sg = 1 ∨ sg = -1) (hX : (X : Int) = m * 2 ^ (e + SC).toNat) (hY : (Y : Int) = n * 2 ^ (d + SC).toNat) (hX' : (X : Int) = m' * 2 ^ (e2 + SC).toNat) (hY' : (Y : Int) = n' * 2 ^ (d2 + SC).toNat)
    (hn : 0 < n) (hn' : 0 < n') (he : -1000 ≤ e ∧ e ≤ 1000) (hd : -1000 ≤ d ∧ d ≤ 1000) (he2 : -1000 ≤ e2 ∧ e2 ≤ 1000) (hd2 : -1000 ≤ d2 ∧ d2 ≤ 1000) (hk : k ≤ 200) (hk' : k' ≤ 200) (hc : 1 ≤ c ∧ c ≤ 10) (hc' : 1 ≤ c' ∧ c' ≤ 10)
    (hE : E = e - d - k - c) (hE' : E' = e2 - d2 - k' - c') (hF : 2 ^ 25 ≤ m * 2 ^ k / n) (hF' : 2 ^ 25 ≤ m' * 2 ^ k' / n') :
    rF mode (sg * (mkQ m n k c E : Int)) = rF mode (sg * (mkQ m' n' k' c' E' : Int)) ∧ rFl mode (sg * (mkQ m n k c E : Int)) = rFl mode (sg * (mkQ m' n' k' c' E' : Int)) := by
  obtain ⟨p, g, h1, h2, h3, h4⟩ := cut_mag hX hY hn he hd hk hc.2 hE
  obtain ⟨p', g', k1, k2, k3, k4⟩ := cut_mag hX' hY' hn' he2 hd2 hk' hc'.2 hE'
  have hY0 : 0 < Y * 2 ^ 10000 := by
    refine Nat.mul_pos ?_ (Nat.two_pow_pos _)
    have h5 : 0 < (n : Int) * 2 ^ (d + SC).toNat := Int.mul_pos (by omega) (pow2_pos _)
    rw [← hY] at h5
    exact Int.ofNat_lt.1 h5
  have h := fun neg => cut_eq (mode := mode) (neg := neg) (X := X) (p := p) (p' := p') hY0 hc.1 hc'.1 h1 k1 (by omega) (by rw [h4]; exact hF) (by rw [k4]; exact hF')
  rw [h3, k3] at h
  have p1 := mkQ_pos (c := c) (E := E) hF
  have p2 := mkQ_pos (c := c') (E := E') hF'
  unfold mkQ at *
  generalize (2 ^ c * (m * 2 ^ k / n) + (if m * 2 ^ k % n = 0 then 0 else 1)) * 2 ^ (E + SC).toNat = M at *
  generalize (2 ^ c' * (m' * 2 ^ k' / n') + (if m' * 2 ^ k' % n' = 0 then 0 else 1)) * 2 ^ (E' + SC).toNat = M' at *
  have e1 : (sg * (M : Int)).natAbs = M := by rcases hs with rfl | rfl <;> omega
  have e2 : (sg * (M' : Int)).natAbs = M' := by rcases hs with rfl | rfl <;> omega
  refine rF_alike (by rcases hs with rfl | rfl <;> omega) (by rcases hs with rfl | rfl <;> omega) (by rcases hs with rfl | rfl <;> omega) ?_
  rw [e1, e2]
  exact h
end Go.Proofs.Ytlaaielopcphiaa
