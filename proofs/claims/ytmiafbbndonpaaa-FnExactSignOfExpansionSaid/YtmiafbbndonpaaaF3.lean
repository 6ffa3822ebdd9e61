/- Contracts: the interval test of the program, lists of floats and of intervals. -/
import Derived.Test.YtmiafbbndonpaaaF2
set_option linter.unusedVariables false
set_option linter.unusedSimpArgs false
namespace Go.Proofs.Ytmiafbbndonpaaa
open Go.RowKit Flt
theorem pl_hi (x : Nat) : pl x ≤ (x % 2147483648 : Nat) := by unfold pl; split <;> omega
theorem pl_lo (x : Nat) : -((x % 2147483648 : Nat) : Int) ≤ pl x := by unfold pl; split <;> omega
set_option maxHeartbeats 8000000 in
theorem i_IsInterval (a b : Nat) (w : World) (ha : W a) (hb : W b) :
    Calls Try.prog 80 #[.agg #[.float .f32 a, .float .f32 b]] w fun e w' => e = .returned (.bool (decide (IsIv a b))) ∧ Below w.heap.size w w' := by
  have hgt := o_gt a b
  have he1 := o_eq a 2139095040
  have he2 := o_eq b 4286578688
  have hz1 := o_eq0 a ha
  have hz2 := o_eq0 b hb
  have hni : ¬ nan 2139095040 := by decide
  have hnn : ¬ nan 4286578688 := by decide
  rw [show pl 2139095040 = 2139095040 by decide] at he1
  rw [show pl 4286578688 = -2139095040 by decide] at he2
  by_cases h1 : nan a
  · have p1 : decide (nan a) = true := decide_eq_true h1
    rw [show decide (IsIv a b) = false from decide_eq_false (fun h => h.1 h1)]
    clear h1 hni hnn ha hb hgt he1 he2 hz1 hz2
    go_enter Try.func80, Try.ntmps80
    go_wp2_with (go_at_call 144; refine (i_isNaN _ _).mono ?_; rintro e w' ⟨rfl, rfl⟩)
    go_ret
    exact ⟨rfl, ba _ (Below.refl _ _)⟩
  · have p1 : decide (nan a) = false := decide_eq_false h1
    by_cases h2 : nan b
    · have p2 : decide (nan b) = true := decide_eq_true h2
      rw [show decide (IsIv a b) = false from decide_eq_false (fun h => h.2.1 h2)]
      clear h1 h2 hni hnn ha hb hgt he1 he2 hz1 hz2
      go_enter Try.func80, Try.ntmps80
      go_wp2_with (go_at_call 144; refine (i_isNaN _ _).mono ?_; rintro e w' ⟨rfl, rfl⟩)
      go_ret
      exact ⟨rfl, ba _ (Below.refl _ _)⟩
    · have p2 : decide (nan b) = false := decide_eq_false h2
      by_cases h3 : pl b < pl a
      · rw [decide_eq_true ⟨h1, h2, h3⟩] at hgt
        rw [show decide (IsIv a b) = false from decide_eq_false (fun h => by have := h.2.2.1; omega)]
        clear h1 h2 h3 hni hnn ha hb he1 he2 hz1 hz2
        go_enter Try.func80, Try.ntmps80
        go_wp2_with (go_at_call 144; refine (i_isNaN _ _).mono ?_; rintro e w' ⟨rfl, rfl⟩)
        go_ret
        exact ⟨rfl, ba _ (Below.refl _ _)⟩
      · rw [decide_eq_false (fun h => h3 h.2.2)] at hgt
        by_cases h4 : pl a = 2139095040
        · rw [decide_eq_true ⟨h1, hni, h4⟩] at he1
          rw [show decide (IsIv a b) = false from decide_eq_false (fun h => by have := h.2.2.2.2.2.1; omega)]
          clear h1 h2 h3 h4 hni hnn ha hb he2 hz1 hz2
          go_enter Try.func80, Try.ntmps80
          go_wp2_with (go_at_call 144; refine (i_isNaN _ _).mono ?_; rintro e w' ⟨rfl, rfl⟩)
          go_quiet ((go_at_call 145; first | (with_reducible exact quiet_eq (i_inf1 _)) | (with_reducible exact quiet_eq (i_inf2 _))))
          go_wp2_with fail
          go_ret
          exact ⟨rfl, below_drewN _ (ba _ (Below.refl _ _))⟩
        · rw [decide_eq_false (fun h => h4 h.2.2)] at he1
          by_cases h5 : pl b = -2139095040
          · rw [decide_eq_true ⟨h2, hnn, h5⟩] at he2
            rw [show decide (IsIv a b) = false from decide_eq_false (fun h => by have := h.2.2.2.2.2.2; omega)]
            clear h1 h2 h3 h4 h5 hni hnn ha hb hz1 hz2
            go_enter Try.func80, Try.ntmps80
            go_wp2_with (go_at_call 144; refine (i_isNaN _ _).mono ?_; rintro e w' ⟨rfl, rfl⟩)
            go_quiet ((go_at_call 145; first | (with_reducible exact quiet_eq (i_inf1 _)) | (with_reducible exact quiet_eq (i_inf2 _))))
            go_wp2_with fail
            go_ret
            exact ⟨rfl, below_drewN _ (ba _ (Below.refl _ _))⟩
          · rw [decide_eq_false (fun h => h5 h.2.2)] at he2
            by_cases h6 : a = 0 ∨ a = 2147483648
            · rw [decide_eq_true h6] at hz1
              by_cases h7 : 2147483648 ≤ a
              · have p7 : mB a = true := decide_eq_true h7
                rw [show decide (IsIv a b) = false from decide_eq_false (fun h => by have := h.2.2.2.1; omega)]
                clear h1 h2 h3 h4 h5 h6 h7 hni hnn ha hb hz2
                go_enter Try.func80, Try.ntmps80
                go_wp2_with (go_at_call 144; refine (i_isNaN _ _).mono ?_; rintro e w' ⟨rfl, rfl⟩)
                go_quiet ((go_at_call 145; first | (with_reducible exact quiet_eq (i_inf1 _)) | (with_reducible exact quiet_eq (i_inf2 _))))
                go_wp2_with (go_at_call 110; refine (i_minus _ _).mono ?_; rintro e w' ⟨rfl, rfl⟩)
                go_ret
                exact ⟨rfl, below_drewN _ (ba _ (Below.refl _ _))⟩
              · have p7 : mB a = false := decide_eq_false h7
                by_cases h8 : b = 0 ∨ b = 2147483648
                · rw [decide_eq_true h8] at hz2
                  by_cases h9 : 2147483648 ≤ b
                  · have p9 : mB b = true := decide_eq_true h9
                    rw [show decide (IsIv a b) = false from decide_eq_false (fun h => by have := h.2.2.2.2.1; omega)]
                    clear h1 h2 h3 h4 h5 h6 h7 hni hnn ha hb h8 h9
                    go_enter Try.func80, Try.ntmps80
                    go_wp2_with (go_at_call 144; refine (i_isNaN _ _).mono ?_; rintro e w' ⟨rfl, rfl⟩)
                    go_quiet ((go_at_call 145; first | (with_reducible exact quiet_eq (i_inf1 _)) | (with_reducible exact quiet_eq (i_inf2 _))))
                    go_wp2_with (go_at_call 110; refine (i_minus _ _).mono ?_; rintro e w' ⟨rfl, rfl⟩)
                    go_ret
                    exact ⟨rfl, below_drewN _ (ba _ (Below.refl _ _))⟩
                  · have p9 : mB b = false := decide_eq_false h9
                    rw [show decide (IsIv a b) = true from decide_eq_true ⟨h1, h2, by omega, by omega, by omega, by have := pl_hi a; unfold nan at h1; omega, by have := pl_lo b; unfold nan at h2; omega⟩]
                    clear h1 h2 h3 h4 h5 h6 h7 hni hnn ha hb h8 h9
                    go_enter Try.func80, Try.ntmps80
                    go_wp2_with (go_at_call 144; refine (i_isNaN _ _).mono ?_; rintro e w' ⟨rfl, rfl⟩)
                    go_quiet ((go_at_call 145; first | (with_reducible exact quiet_eq (i_inf1 _)) | (with_reducible exact quiet_eq (i_inf2 _))))
                    go_wp2_with (go_at_call 110; refine (i_minus _ _).mono ?_; rintro e w' ⟨rfl, rfl⟩)
                    go_ret
                    exact ⟨rfl, below_drewN _ (ba _ (Below.refl _ _))⟩
                · rw [decide_eq_false h8] at hz2
                  rw [show decide (IsIv a b) = true from decide_eq_true ⟨h1, h2, by omega, by omega, by omega, by have := pl_hi a; unfold nan at h1; omega, by have := pl_lo b; unfold nan at h2; omega⟩]
                  clear h1 h2 h3 h4 h5 h6 h7 hni hnn ha hb h8
                  go_enter Try.func80, Try.ntmps80
                  go_wp2_with (go_at_call 144; refine (i_isNaN _ _).mono ?_; rintro e w' ⟨rfl, rfl⟩)
                  go_quiet ((go_at_call 145; first | (with_reducible exact quiet_eq (i_inf1 _)) | (with_reducible exact quiet_eq (i_inf2 _))))
                  go_wp2_with (go_at_call 110; refine (i_minus _ _).mono ?_; rintro e w' ⟨rfl, rfl⟩)
                  go_ret
                  exact ⟨rfl, below_drewN _ (ba _ (Below.refl _ _))⟩
            · rw [decide_eq_false h6] at hz1
              by_cases h8 : b = 0 ∨ b = 2147483648
              · rw [decide_eq_true h8] at hz2
                by_cases h9 : 2147483648 ≤ b
                · have p9 : mB b = true := decide_eq_true h9
                  rw [show decide (IsIv a b) = false from decide_eq_false (fun h => by have := h.2.2.2.2.1; omega)]
                  clear h1 h2 h3 h4 h5 h6  hni hnn ha hb h8 h9
                  go_enter Try.func80, Try.ntmps80
                  go_wp2_with (go_at_call 144; refine (i_isNaN _ _).mono ?_; rintro e w' ⟨rfl, rfl⟩)
                  go_quiet ((go_at_call 145; first | (with_reducible exact quiet_eq (i_inf1 _)) | (with_reducible exact quiet_eq (i_inf2 _))))
                  go_wp2_with (go_at_call 110; refine (i_minus _ _).mono ?_; rintro e w' ⟨rfl, rfl⟩)
                  go_ret
                  exact ⟨rfl, below_drewN _ (ba _ (Below.refl _ _))⟩
                · have p9 : mB b = false := decide_eq_false h9
                  rw [show decide (IsIv a b) = true from decide_eq_true ⟨h1, h2, by omega, by omega, by omega, by have := pl_hi a; unfold nan at h1; omega, by have := pl_lo b; unfold nan at h2; omega⟩]
                  clear h1 h2 h3 h4 h5 h6  hni hnn ha hb h8 h9
                  go_enter Try.func80, Try.ntmps80
                  go_wp2_with (go_at_call 144; refine (i_isNaN _ _).mono ?_; rintro e w' ⟨rfl, rfl⟩)
                  go_quiet ((go_at_call 145; first | (with_reducible exact quiet_eq (i_inf1 _)) | (with_reducible exact quiet_eq (i_inf2 _))))
                  go_wp2_with (go_at_call 110; refine (i_minus _ _).mono ?_; rintro e w' ⟨rfl, rfl⟩)
                  go_ret
                  exact ⟨rfl, below_drewN _ (ba _ (Below.refl _ _))⟩
              · rw [decide_eq_false h8] at hz2
                rw [show decide (IsIv a b) = true from decide_eq_true ⟨h1, h2, by omega, by omega, by omega, by have := pl_hi a; unfold nan at h1; omega, by have := pl_lo b; unfold nan at h2; omega⟩]
                clear h1 h2 h3 h4 h5 h6  hni hnn ha hb h8
                go_enter Try.func80, Try.ntmps80
                go_wp2_with (go_at_call 144; refine (i_isNaN _ _).mono ?_; rintro e w' ⟨rfl, rfl⟩)
                go_quiet ((go_at_call 145; first | (with_reducible exact quiet_eq (i_inf1 _)) | (with_reducible exact quiet_eq (i_inf2 _))))
                go_wp2_with (go_at_call 110; refine (i_minus _ _).mono ?_; rintro e w' ⟨rfl, rfl⟩)
                go_ret
                exact ⟨rfl, below_drewN _ (ba _ (Below.refl _ _))⟩
end Go.Proofs.Ytmiafbbndonpaaa
