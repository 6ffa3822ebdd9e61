/- Contracts: places of floats, neighbours. -/
import Derived.Test.YtlfgefcagjjfkaaF10
set_option linter.unusedVariables false
set_option linter.unusedSimpArgs false
namespace Go.Proofs.Ytlfgefcagjjfkaa
open Go.RowKit Flt
set_option maxHeartbeats 2000000 in
theorem s_At (n : Int) (w : World) (h0 : -2139095040 ≤ n) (h1 : n ≤ 2139095040) :
    Calls Try.prog 72 #[.int .i64 n] w fun e w' => e = .returned (.float .f32 (atP n)) ∧ w = w' := by
  by_cases hn : 0 ≤ n
  · obtain ⟨k, rfl⟩ := Int.eq_ofNat_of_zero_le hn
    rw [show atP (k : Int) = k by unfold atP; rw [if_neg (by omega)]; simp]
    exact s_AtN k w (by omega)
  · obtain ⟨k, hk⟩ := Int.eq_ofNat_of_zero_le (show 0 ≤ -n by omega)
    obtain rfl : n = -(k : Int) := by omega
    have e : atP (-(k : Int)) = ng k := by unfold atP ng; rw [if_pos (by omega), if_pos (by omega)]; simp; omega
    rw [e]
    have hg := negFloat_eq k (by unfold W; omega)
    have HK : Hd (k ≤ 2139095040) := ⟨by omega⟩
    have hk0 : 0 < k := by omega
    clear e hn hk
    go_enter Try.func72, Try.ntmps72
    go_wp2_with (go_at_call 72; refine (s_AtN k _ HK.out).mono ?_; rintro e w' ⟨rfl, rfl⟩)
    go_ret
    exact ⟨rfl, rfl⟩
/-- the place out of the parts -/
theorem place_parts {x : Nat} (h : fin x) : (8388608 ≤ pm x → ((pe x : Int) + 1) * 8388608 + (pm x : Int) - 8388608 = ((x % 2147483648 : Nat) : Int)) ∧ (pm x < 8388608 → pm x = x % 2147483648) := by
  unfold pm pe mg ex; unfold fin at h
  generalize x % 2147483648 = r at *
  constructor
  · intro h1; split at h1
    · omega
    · rename_i k; rw [if_neg k, if_neg k]; omega
  · intro h1; split at h1
    · rename_i k; rw [if_pos k]
    · omega
set_option maxHeartbeats 4000000 in
theorem s_Place (x : Nat) (w : World) (hx : W x) (hn : ¬ nan x) :
    Calls Try.prog 71 #[.float .f32 x] w fun e w' => e = .returned (.int .i64 (pl x)) ∧ ∃ n, w' = w.drewN n := by
  have HX : Hd (W x) := ⟨hx⟩
  have hl := lt0_iff x hx hn
  have HV : Hd (pl x = if 2147483648 < x then -((x % 2147483648 : Nat) : Int) else ((x % 2147483648 : Nat) : Int)) := ⟨by unfold pl; unfold W at hx; (repeat' split) <;> omega⟩
  by_cases hf : fin x
  · have pf : decide (fin x) = true := decide_eq_true hf
    have HF : Hd (fin x) := ⟨hf⟩
    have HP := place_parts hf
    have hm := pm_lt x
    have he := pe_le hf
    have HM : Hd (pm x < 16777216) := ⟨hm⟩
    by_cases hb : 8388608 ≤ pm x
    · have HQ : Hd (((pe x : Int) + 1) * 8388608 + (pm x : Int) - 8388608 = ((x % 2147483648 : Nat) : Int)) := ⟨HP.1 hb⟩
      have hb2 : (8388608 : Int) ≤ (pm x : Int) := by omega
      have hm2 : (pm x : Int) < 16777216 := by omega
      have he2 : (pe x : Int) ≤ 253 := by omega
      clear HP hb hm he
      by_cases h1 : 2147483648 < x
      · rw [decide_eq_true h1] at hl
        have HW : Hd (pl x = -((x % 2147483648 : Nat) : Int)) := ⟨by rw [HV.out, if_pos h1]⟩
        clear h1 HV hx hn hf
        go_enter Try.func71, Try.ntmps71
        go_wp2_with (first | (go_at_call 45; refine (s_Finite _ _).mono ?_; rintro e w' ⟨rfl, ⟨nd, rfl⟩⟩) | (go_at_call 78; refine (s_Parts _ _ HX.out HF.out).mono ?_; rintro e w' ⟨rfl, rfl⟩))
        go_ret
        exact ⟨by rw [HW.out, ← HQ.out]; go_num, _, rfl⟩
      · rw [decide_eq_false h1] at hl
        have HW : Hd (pl x = ((x % 2147483648 : Nat) : Int)) := ⟨by rw [HV.out, if_neg h1]⟩
        clear h1 HV hx hn hf
        go_enter Try.func71, Try.ntmps71
        go_wp2_with (first | (go_at_call 45; refine (s_Finite _ _).mono ?_; rintro e w' ⟨rfl, ⟨nd, rfl⟩⟩) | (go_at_call 78; refine (s_Parts _ _ HX.out HF.out).mono ?_; rintro e w' ⟨rfl, rfl⟩))
        go_ret
        exact ⟨by rw [HW.out, ← HQ.out]; go_num, _, rfl⟩
    · have HQ : Hd (((x % 2147483648 : Nat) : Int) = (pm x : Int)) := ⟨by rw [HP.2 (by omega)]⟩
      have hb2 : decide ((8388608 : Int) ≤ (pm x : Int)) = false := by simp; omega
      clear HP hb hm he
      by_cases h1 : 2147483648 < x
      · rw [decide_eq_true h1] at hl
        have HW : Hd (pl x = -((x % 2147483648 : Nat) : Int)) := ⟨by rw [HV.out, if_pos h1]⟩
        clear h1 HV hx hn hf
        go_enter Try.func71, Try.ntmps71
        go_wp2_with (first | (go_at_call 45; refine (s_Finite _ _).mono ?_; rintro e w' ⟨rfl, ⟨nd, rfl⟩⟩) | (go_at_call 78; refine (s_Parts _ _ HX.out HF.out).mono ?_; rintro e w' ⟨rfl, rfl⟩))
        go_ret
        exact ⟨by rw [HW.out, HQ.out]; exact congrArg (fun n => Ending.returned (.int .i64 n)) (by have := HM.out; unfold wrap64; omega), _, rfl⟩
      · rw [decide_eq_false h1] at hl
        have HW : Hd (pl x = ((x % 2147483648 : Nat) : Int)) := ⟨by rw [HV.out, if_neg h1]⟩
        clear h1 HV hx hn hf
        go_enter Try.func71, Try.ntmps71
        go_wp2_with (first | (go_at_call 45; refine (s_Finite _ _).mono ?_; rintro e w' ⟨rfl, ⟨nd, rfl⟩⟩) | (go_at_call 78; refine (s_Parts _ _ HX.out HF.out).mono ?_; rintro e w' ⟨rfl, rfl⟩))
        go_ret
        exact ⟨by rw [HW.out, HQ.out]; rfl, _, rfl⟩
  · have pf : decide (fin x) = false := decide_eq_false hf
    have HQ : Hd (((x % 2147483648 : Nat) : Int) = 2139095040) := ⟨by unfold fin at hf; unfold nan at hn; omega⟩
    by_cases h1 : 2147483648 < x
    · rw [decide_eq_true h1] at hl
      have HW : Hd (pl x = -((x % 2147483648 : Nat) : Int)) := ⟨by rw [HV.out, if_pos h1]⟩
      clear h1 HV hx hn hf
      go_enter Try.func71, Try.ntmps71
      go_wp2_with (first | (go_at_call 45; refine (s_Finite _ _).mono ?_; rintro e w' ⟨rfl, ⟨nd, rfl⟩⟩))
      go_ret
      exact ⟨by rw [HW.out, HQ.out]; rfl, _, rfl⟩
    · rw [decide_eq_false h1] at hl
      have HW : Hd (pl x = ((x % 2147483648 : Nat) : Int)) := ⟨by rw [HV.out, if_neg h1]⟩
      clear h1 HV hx hn hf
      go_enter Try.func71, Try.ntmps71
      go_wp2_with (first | (go_at_call 45; refine (s_Finite _ _).mono ?_; rintro e w' ⟨rfl, ⟨nd, rfl⟩⟩))
      go_ret
      exact ⟨by rw [HW.out, HQ.out]; rfl, _, rfl⟩

set_option maxHeartbeats 2000000 in
theorem s_Step (x : Nat) (d : Int) (w : World) (hx : W x) (hn : ¬ nan x) (hd : d = 1 ∨ d = -1) :
    Calls Try.prog 63 #[.float .f32 x, .int .i64 d] w fun e w' => e = .returned (.float .f32 (atP (max (min (pl x + d) 2139095040) (-2139095040)))) ∧ ∃ n, w' = w.drewN n := by
  have HX : Hd (W x ∧ ¬ nan x) := ⟨⟨hx, hn⟩⟩
  have h0 := pl_hi x
  have h1 := pl_lo x
  have h2 : pl x + d ≤ 2147483650 := by rcases hd with rfl | rfl <;> omega
  have h3 : -2147483650 ≤ pl x + d := by rcases hd with rfl | rfl <;> omega
  clear hx hn h0 h1 hd
  have e1 : (if (2139095040 : Int) < pl x + d then (2139095040 : Int) else pl x + d) = min (pl x + d) 2139095040 := by split <;> omega
  have e2 : (if (-2139095040 : Int) > min (pl x + d) 2139095040 then (-2139095040 : Int) else min (pl x + d) 2139095040) = max (min (pl x + d) 2139095040) (-2139095040) := by split <;> omega
  have HB : Hd (-2139095040 ≤ max (min (pl x + d) 2139095040) (-2139095040) ∧ max (min (pl x + d) 2139095040) (-2139095040) ≤ 2139095040) := ⟨by omega⟩
  go_enter Try.func63, Try.ntmps63
  go_wp2_with (first | (go_at_call 71; refine (s_Place _ _ HX.out.1 HX.out.2).mono ?_; rintro e w' ⟨rfl, ⟨nd, rfl⟩⟩) | (go_at_call 72; refine (s_At _ _ (by omega) (by omega)).mono ?_; rintro e w' ⟨rfl, rfl⟩))
  go_ret
  exact ⟨rfl, _, rfl⟩

end Go.Proofs.Ytlfgefcagjjfkaa
