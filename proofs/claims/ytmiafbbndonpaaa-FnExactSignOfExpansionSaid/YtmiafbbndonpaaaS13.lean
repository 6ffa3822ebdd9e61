/- Contracts: expansions of the reference: their test, their sign. -/
import Derived.Test.YtmiafbbndonpaaaS12
set_option linter.unusedVariables false
set_option linter.unusedSimpArgs false
namespace Go.Proofs.Ytmiafbbndonpaaa
open Go.RowKit Num Flt
@[go_sem] theorem run_asAgg {P : Program} (a : Array Value) (w : World) : (asAgg (.agg a)).run P w = .ok a w := rfl
@[go_sem] theorem run_fieldD (s x : Int) (A : Option Addr) (n c : Nat) (w : World) : Sem.run Try.prog (Instr.field 35 (.agg #[.int .i64 s, .slice A n c, .int .i64 x]) 0) w = .ok (.agg #[.int .i64 s, .slice A n c]) w := by
  simp [Instr.field, go_sem]
@[go_sem] theorem run_fieldW (s : Int) (A : Option Addr) (n c : Nat) (w : World) : Sem.run Try.prog (Instr.field 33 (.agg #[.int .i64 s, .slice A n c]) 0) w = .ok (.int .i64 s) w := by
  simp [Instr.field, go_sem]
def AllFin (xs : List Nat) : Prop := ∀ x ∈ xs, fin x
instance (xs : List Nat) : Decidable (AllFin xs) := by unfold AllFin; infer_instance
/-- the code of a list of floats -/
def lstC (xs : List Nat) : Int := if xs.length < 1 ∨ 8 < xs.length then 2 else if AllFin xs then 0 else 1
set_option maxHeartbeats 4000000 in
theorem s_List (A : Option Addr) (n c : Nat) (xs : List Nat) (w : World) (hn : n = xs.length) (hl : n ≤ LIM) (hR : RF w A xs) (hx : ∀ x ∈ xs, W x) :
    Calls Try.prog 62 #[.slice A n c] w fun e w' => e = .returned (.int .i64 (lstC xs)) ∧ ∃ d, w' = w.drewN d := by
  have HR : Hd (RF w A xs) := ⟨hR⟩
  have HN : Hd (n = xs.length ∧ ∀ x ∈ xs, W x) := ⟨⟨hn, hx⟩⟩
  have hnI : (n : Int) ≤ 1099511627776 := by unfold LIM at hl; omega
  clear hl hR hx
  by_cases h1 : n < 1
  · have HV : Hd (lstC xs = 2) := ⟨if_pos (by omega)⟩
    clear hn
    go_enter Try.func62, Try.ntmps62
    go_wp2
    go_ret
    rw [HV.out]; exact ⟨rfl, 0, rfl⟩
  · by_cases h2 : 8 < n
    · have HV : Hd (lstC xs = 2) := ⟨if_pos (by omega)⟩
      have h2' : (8 : Int) < n := by omega
      clear hn h2
      go_enter Try.func62, Try.ntmps62
      go_wp2
      go_ret
      rw [HV.out]; exact ⟨rfl, 0, rfl⟩
    · have HV : Hd (lstC xs = if AllFin xs then 0 else 1) := ⟨if_neg (by omega)⟩
      have h2' : (n : Int) ≤ 8 := by omega
      clear hn h2
      go_enter Try.func62, Try.ntmps62
      go_wp2
      go_loopw [3] (fun i wr => ∃ (k d : Nat), i = .int .i64 k ∧ (k : Int) ≤ n ∧ Hd (AllFin (xs.take k)) ∧ wr = w.drewN d) (fun i _ => n - (intOf i).toNat)
      case atStart => exact ⟨0, 0, rfl, by omega, ⟨by intro x hx; simp at hx⟩, rfl⟩
      case round =>
        obtain ⟨k, d, rfl, hk, HA, rfl⟩ := hrel
        by_cases h3 : k < n
        · obtain ⟨ad, hA, hcx⟩ := HR.out.at_ (k := k) (by have := HN.out; omega)
          subst hA
          generalize hex : xs.getD k 0 = x at *
          have HEx : Hd (xs.getD k 0 = x) := ⟨hex⟩
          have HM : Hd (x ∈ xs) := ⟨by rw [← hex]; have h := HN.out.1; rw [List.getD_eq_getElem?_getD, List.getElem?_eq_getElem (by omega)]; exact List.getElem_mem _⟩
          clear hex
          by_cases h4 : fin x
          · have p4 : decide (fin x) = true := decide_eq_true h4
            have HA1 : Hd (AllFin (xs.take (k + 1))) := ⟨by
              have h := HN.out.1
              rw [List.take_succ_eq_append_getElem (by omega)]
              intro y hy
              rcases List.mem_append.1 hy with hy | hy
              · exact HA.out y hy
              · have h5 : y = xs[k]'(by omega) := by simpa using hy
                have h6 := HEx.out
                rw [List.getD_eq_getElem?_getD, List.getElem?_eq_getElem (show k < xs.length by omega)] at h6
                rw [h5]; simp at h6; rw [h6]; exact h4⟩
            clear h4
            go_wp2_with (go_at_call 93; (with_reducible refine (s_Finite _ _).mono ?_); rintro e w' ⟨rfl, ⟨nd, rfl⟩⟩)
            go_roundw
            case rel => exact ⟨k + 1, _, by go_num, by omega, HA1, rfl⟩
            case measure => simp [intOf]; omega
          · have p4 : decide (fin x) = false := decide_eq_false h4
            have HV1 : Hd (lstC xs = 1) := ⟨by rw [HV.out, if_neg (fun h => h4 (h x HM.out))]⟩
            clear h4
            go_wp2_with (go_at_call 93; (with_reducible refine (s_Finite _ _).mono ?_); rintro e w' ⟨rfl, ⟨nd, rfl⟩⟩)
            go_ret
            rw [HV1.out]; exact ⟨rfl, _, rfl⟩
        · have HV1 : Hd (lstC xs = 0) := ⟨by
            have h := HA.out
            rw [List.take_of_length_le (by have := HN.out; omega)] at h
            rw [HV.out, if_pos h]⟩
          go_wp2
          go_ret
          rw [HV1.out]; exact ⟨rfl, d, rfl⟩

theorem dy_sign {w : World} {s : Int} {A : Option Addr} {n c l : Nat} {e V : Int} (h : DyP w s A n c e V l) : s = V.sign := by
  obtain ⟨m, hw, hd⟩ := h
  obtain ⟨xs, hx⟩ := hw.opened
  have hp := pow2_pos (e + SC).toNat
  rw [hd.val]; unfold dv
  generalize (2 : Int) ^ (e + SC).toNat = p at *
  rw [Int.sign_mul, Int.sign_eq_one_of_pos hp, Int.mul_one]
  by_cases h0 : s = 0
  · rw [hx.num.zero.1 h0, h0]; rfl
  · obtain ⟨h1, h2, _⟩ := hx.num.one h0
    have h3 := hx.num.eq
    rcases h1 with rfl | rfl
    · rw [Int.sign_eq_one_of_pos (by omega)]
    · rw [Int.sign_eq_neg_one_of_neg (by omega)]
theorem lst_fin {xs : List Nat} (h : lstC xs = 0) : xs.length ≤ 8 ∧ AllFin xs := by
  unfold lstC at h
  split at h
  · simp at h
  · split at h
    · rename_i h1 h2; exact ⟨by omega, h2⟩
    · simp at h
set_option maxRecDepth 20000 in
set_option maxHeartbeats 4000000 in
theorem s_SignOfE (A : Option Addr) (n c : Nat) (xs : List Nat) (w : World) (hn : n = xs.length) (hl : n ≤ LIM) (hR : RF w A xs) (hx : ∀ x ∈ xs, W x) :
    Calls Try.prog 18 #[.slice A n c] w fun e w' => e = .returned (if lstC xs = 0 then .tuple #[.int .i64 (sumv xs).sign, .int .i64 0] else .tuple #[.int .i64 0, .int .i64 (lstC xs)]) ∧ Below w.heap.size w w' := by
  have HR : Hd (RF w A xs) := ⟨hR⟩
  have HN : Hd (n = xs.length ∧ n ≤ LIM ∧ ∀ x ∈ xs, W x) := ⟨⟨hn, hl, hx⟩⟩
  by_cases h0 : lstC xs = 0
  · have HF : Hd (n ≤ 1000 ∧ ∀ x ∈ xs, W x ∧ fin x) := ⟨⟨by have := (lst_fin h0).1; omega, fun x h => ⟨hx x h, (lst_fin h0).2 x h⟩⟩⟩
    rw [if_pos h0]
    clear hn hl hR hx
    go_enter Try.func18, Try.ntmps18
    go_wp2_with (first | (go_at_call 62; (with_reducible refine (s_List A n c xs _ HN.out.1 HN.out.2.1 HR.out HN.out.2.2).mono ?_); rintro e w' ⟨rfl, ⟨nd, rfl⟩⟩) | (go_at_call 63; (with_reducible refine (s_All A n c xs _ HN.out.1 HF.out.1 (HR.out.below (by (repeat (first | exact Below.refl _ _ | assumption | refine Below.drew ?_ | refine bdn ?_ | refine ba _ ?_ | refine bs0 _ _ ?_ ?_ | refine bs1 _ _ _ ?_ ?_ | refine bs2 _ _ _ _ ?_ ?_ | refine bt3 (by assumption) ?_)))) HF.out.2).mono ?_); rintro e' w2 ⟨s2, A2, n2, c2, x2, rfl, hD, hq⟩; have HS : Hd (s2 = (sumv xs).sign) := ⟨dy_sign hD.dp⟩; have HB : Hd (Below w.heap.size w w2) := ⟨Below.trans (bdn (Below.refl _ _)) hq⟩; clear hD hq))
    go_ret2
    exact ⟨by rw [← HS.out]; rfl, HB.out⟩
  · have h1 : (lstC xs == 0) = false := by simpa using h0
    rw [if_neg h0]
    clear hn hl hR hx
    go_enter Try.func18, Try.ntmps18
    go_wp2_with (go_at_call 62; (with_reducible refine (s_List A n c xs _ HN.out.1 HN.out.2.1 HR.out HN.out.2.2).mono ?_); rintro e w' ⟨rfl, ⟨nd, rfl⟩⟩)
    go_ret2
    refine ⟨rfl, ?_⟩
    (repeat (first | exact Below.refl _ _ | assumption | refine Below.drew ?_ | refine bdn ?_ | refine ba _ ?_ | refine bs0 _ _ ?_ ?_ | refine bs1 _ _ _ ?_ ?_ | refine bs2 _ _ _ _ ?_ ?_ | refine bt3 (by assumption) ?_))
end Go.Proofs.Ytmiafbbndonpaaa
