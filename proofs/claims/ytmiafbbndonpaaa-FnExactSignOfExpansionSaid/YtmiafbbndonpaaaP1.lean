/- Contracts: digits of the program's integers. -/
import Derived.Test.YtmiafbbndonpaaaS8
set_option linter.unusedVariables false
set_option linter.unusedSimpArgs false
namespace Go.Proofs.Ytmiafbbndonpaaa
open Go.RowKit Num
theorem cutAt32 (xs : List Int) (k : Nat) (hk : k ≤ xs.length) (hz : ∀ j, k ≤ j → j < xs.length → xs.getD j 0 = 0) (hl : k = 0 ∨ xs.getD (k - 1) 0 ≠ 0) (h : Rng 4294967296 xs) :
    Canon 4294967296 (xs.take k) ∧ val 4294967296 (xs.take k) = val 4294967296 xs :=
  ⟨⟨h.take k, Lst.take hk hl⟩, by rw [← val_take_zeros 4294967296 xs k xs.length hk hz, List.take_of_length_le (Nat.le_refl _)]⟩
theorem R32.take {w : World} {A : Option Addr} {xs : List Int} (h : R32 w A xs) (k : Nat) : R32 w A (xs.take k) := by
  refine ⟨by simp [c32], fun hn => ?_⟩
  rw [List.length_take] at hn
  obtain ⟨ad, e, hb, hc⟩ := h.2 (by omega)
  refine ⟨ad, e, hb, fun j u hu => hc j u ?_⟩
  simp only [c32, List.getElem?_map, List.getElem?_take] at hu ⊢
  split at hu
  · exact hu
  · simp at hu
set_option maxHeartbeats 4000000 in
theorem m_Trim (A : Option Addr) (n c : Nat) (xs : List Int) (w : World) (hn : n = xs.length) (hl : n ≤ LIM) (hc : n ≤ c) (hR : R32 w A xs) (hr : Rng 4294967296 xs) :
    Calls Try.prog 218 #[.slice A n c] w fun e w' => (∃ k : Nat, e = .returned (.slice A k c) ∧ k ≤ n ∧ Canon 4294967296 (xs.take k) ∧ val 4294967296 (xs.take k) = val 4294967296 xs) ∧ w = w' := by
  have HR : Hd (R32 w A xs) := ⟨hR⟩
  have HN : Hd (n = xs.length ∧ Rng 4294967296 xs) := ⟨⟨hn, hr⟩⟩
  have hnI : (n : Int) ≤ 1099511627776 := by unfold LIM at hl; omega
  have hcI : (n : Int) ≤ c := by omega
  clear hn hl hR hr hc
  go_enter Try.func218, Try.ntmps218
  go_wp2
  go_loop [0] (fun v => ∃ k : Nat, (k : Int) ≤ n ∧ v = .slice A k c ∧ Hd (∀ j, k ≤ j → j < n → xs.getD j 0 = 0)) (fun v => match v with | .slice _ k _ => k | _ => 0)
  case atStart => exact ⟨n, Int.le_refl _, rfl, ⟨fun j h1 h2 => by omega⟩⟩
  case round =>
    obtain ⟨k, hk, rfl, HZ⟩ := hrel
    by_cases hp : 0 < k
    · obtain ⟨m, rfl⟩ : ∃ m, k = m + 1 := ⟨k - 1, by omega⟩
      obtain ⟨ad, rfl, hcell⟩ := HR.out.at_ (k := m) (by have := HN.out; omega)
      generalize hy : xs.getD m 0 = y at *
      have HY : Hd (xs.getD m 0 = y) := ⟨hy⟩
      clear hy
      have hk2 : m + 1 ≤ c := by omega
      by_cases hz : y = 0
      · have hd : (y == 0) = true := by simpa using hz
        have HZ0 : Hd (y = 0) := ⟨hz⟩
        clear hz
        go_wp2
        refine ⟨⟨m, by omega, rfl, ⟨fun j h1 h2 => ?_⟩⟩, Nat.lt_succ_self _⟩
        by_cases e : j = m
        · subst e; rw [HY.out, HZ0.out]
        · exact HZ.out j (by omega) h2
      · have hd : (y == 0) = false := by simpa using hz
        have HZ0 : Hd (y ≠ 0) := ⟨hz⟩
        clear hz
        have HC := Hd.mk (cutAt32 xs (m + 1) (by have := HN.out; omega) (fun j h1 h2 => HZ.out j h1 (by have := HN.out; omega)) (.inr (by simp only [Nat.add_sub_cancel]; rw [HY.out]; exact HZ0.out)) HN.out.2)
        go_wp2
        go_ret
        exact ⟨⟨m + 1, rfl, by omega, HC.out.1, HC.out.2⟩, rfl⟩
    · obtain rfl : k = 0 := by omega
      have HC := Hd.mk (cutAt32 xs 0 (by omega) (fun j h1 h2 => HZ.out j h1 (by have := HN.out; omega)) (.inl rfl) HN.out.2)
      go_wp2
      go_ret
      exact ⟨⟨0, rfl, by omega, HC.out.1, HC.out.2⟩, rfl⟩
end Go.Proofs.Ytmiafbbndonpaaa
