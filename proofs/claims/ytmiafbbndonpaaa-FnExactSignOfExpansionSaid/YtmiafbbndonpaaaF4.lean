/- Contracts: lists of floats, lists of intervals; both of two intervals. -/
import Derived.Test.YtmiafbbndonpaaaF3
set_option linter.unusedVariables false
set_option linter.unusedSimpArgs false
namespace Go.Proofs.Ytmiafbbndonpaaa
open Go.RowKit Flt
theorem getD_at {α : Type} {xs : List α} {k : Nat} (d : α) (h : k < xs.length) : xs.getD k d = xs[k] := by rw [List.getD_eq_getElem?_getD, List.getElem?_eq_getElem h]; rfl
def allFin (xs : List Nat) : Bool := xs.all fun x => decide (fin x)
theorem allFin_succ (xs : List Nat) (k : Nat) (h : k < xs.length) : allFin (xs.take (k + 1)) = (allFin (xs.take k) && decide (fin (xs.getD k 0))) := by
  rw [List.take_succ_eq_append_getElem h, getD_at _ h]; unfold allFin; rw [List.all_append]; congr 1; simp only [List.all_cons, List.all_nil, Bool.and_true]
theorem allFin_take_false (xs : List Nat) (k : Nat) (h1 : allFin (xs.take k) = false) : allFin xs = false := by
  unfold allFin at *
  rw [List.all_eq_false] at *
  obtain ⟨z, hz, h⟩ := h1
  exact ⟨z, List.mem_of_mem_take hz, h⟩
set_option maxHeartbeats 1000000 in
theorem i_areFinite (b off n c : Nat) (xs : List Nat) (w : World) (hl : xs.length = n) (hm : n ≤ 9223372036854775807) (hW : ∀ x ∈ xs, W x)
    (hc : ∀ j, j < n → w.cell? ⟨b, off + j, none⟩ = some (.float .f32 (xs.getD j 0))) :
    Calls Try.prog 95 #[.slice (some ⟨b, off, none⟩) n c] w fun e w' => e = .returned (.bool (allFin xs)) ∧ w = w' := by
  have HL : Hd (xs.length = n) := ⟨hl⟩
  have HW : Hd (∀ x ∈ xs, W x) := ⟨hW⟩
  have HC : Hd (∀ j, j < n → w.cell? ⟨b, off + j, none⟩ = some (.float .f32 (xs.getD j 0))) := ⟨hc⟩
  clear hl hW hc
  go_enter Try.func95, Try.ntmps95
  go_wp2
  go_loop [7] (fun i => ∃ k : Nat, k ≤ n ∧ i = .int .i64 k ∧ Hd (allFin (xs.take k) = true)) (fun i => n - (intOf i).toNat)
  case atStart => exact ⟨0, Nat.zero_le _, rfl, ⟨rfl⟩⟩
  case round =>
    obtain ⟨k, hk, rfl, HK⟩ := hrel
    by_cases hlt : k < n
    · have hcell := HC.out k hlt
      have hx : W (xs.getD k 0) := HW.out _ (by have := HL.out; rw [getD_at _ (by omega)]; exact List.getElem_mem _)
      have HX : Hd (W (xs.getD k 0)) := ⟨hx⟩
      have HT : Hd (allFin (xs.take (k + 1)) = (allFin (xs.take k) && decide (fin (xs.getD k 0)))) := ⟨allFin_succ xs k (by have := HL.out; omega)⟩
      clear hx
      generalize hy : xs.getD k 0 = y at *
      have HY : Hd (xs.getD k 0 = y) := ⟨hy⟩
      clear hy
      by_cases hf : fin y
      · have hd : decide (fin y) = true := decide_eq_true hf
        clear hf
        go_wp2_with (go_at_call 115; refine (i_isFinite _ _ HX.out).mono ?_; rintro e w' ⟨rfl, rfl⟩)
        go_round
        case rel => exact ⟨k + 1, by omega, by go_num, ⟨by rw [HT.out, HK.out, hd]; rfl⟩⟩
        case measure => simp [intOf]; omega
      · have hd : decide (fin y) = false := decide_eq_false hf
        have HF : Hd (allFin xs = false) := ⟨allFin_take_false xs (k + 1) (by rw [HT.out, hd]; simp)⟩
        clear hf
        go_wp2_with (go_at_call 115; refine (i_isFinite _ _ HX.out).mono ?_; rintro e w' ⟨rfl, rfl⟩)
        go_ret
        exact ⟨by rw [HF.out]; rfl, rfl⟩
    · go_wp2_with fail
      go_ret
      exact ⟨by have : allFin xs = true := by have h := HK.out; rwa [List.take_of_length_le (by have := HL.out; omega)] at h
                rw [this]; rfl, rfl⟩
theorem i_areFinite_nil (w : World) (c : Nat) :
    Calls Try.prog 95 #[.slice none 0 c] w fun e w' => e = .returned (.bool true) ∧ w = w' := by
  go_enter Try.func95, Try.ntmps95
  go_wp2
  refine wp_loop_rounds 1 ?_
  rw [rounds_succ]
  go_wp2_with fail
  go_ret
  exact ⟨rfl, rfl⟩
end Go.Proofs.Ytmiafbbndonpaaa
