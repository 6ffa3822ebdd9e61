/- Contracts: powers of floats, rounded down and up, both sides. -/
import Derived.Test.YtlaaielopcphiaaGreatW3
import Derived.Test.YtlaaielopcphiaaGreatGj
import Derived.Test.YtlaaielopcphiaaGreatGx
import Derived.Test.YtlaaielopcphiaaGreatGp
set_option linter.unusedVariables false
set_option linter.unusedSimpArgs false
set_option exponentiation.threshold 40000
namespace Go.Proofs.YtlaaielopcphiaaGreat
open Go.RowKit Num Flt
theorem DyO.setD {w : World} {B G : Nat} {s : Int} {A : Option Addr} {n c : Nat} {e V : Int} {l : Nat} {t : TypeId} {cs : Array Value} (h : DyO w B s A n c e V l) (hk : Blk w G t cs) (ht : 2 ≠ t) (o : Nat) (u : Value) : DyO (w.setCell ⟨G, o, none⟩ u) B s A n c e V l := by
  obtain ⟨m, ⟨xs, h1, h2, h3, h4⟩, h5⟩ := h
  refine ⟨m, ⟨xs, h1, h2, h3, ?_⟩, h5⟩
  refine World.ownsRow.kept h4 (row := some G) ?_ ?_
  · exact ⟨rfl, rfl, rfl, by simp, fun i hi hne => Below.heap_setCell w _ _ i (fun e => hne (by rw [e]))⟩
  · cases hv : (Value.slice A n c).ownBlock with
    | none => exact Or.inl rfl
    | some k =>
      refine Or.inr (fun e => ?_)
      obtain ⟨⟨cs', hb⟩, _⟩ := O64.blk h4 hv
      cases e
      exact (hb.ne_ hk ht) rfl
theorem inf_word {x : Nat} (hx : W x) (hn : ¬ nan x) (hf : ¬ fin x) : x = 2139095040 ∨ x = 4286578688 := by unfold W nan fin at *; omega
theorem s_RaiseI (x n : Nat) (w : World) (hx : W x) (hn : ¬ nan x) (hf : ¬ fin x) : Calls Tryz.prog 150 #[.float .f32 x, .int .i64 n] w (RetV (.tuple #[.float .f32 (ra 1 x n), .float .f32 (ra 2 x n)]) w) := by
  have hd : decide (fin x) = false := decide_eq_false hf
  have e : ∀ m, ra m x n = if n % 2 = 0 then 2139095040 else x := fun m => by unfold ra; rw [if_neg hf]
  rw [e, e]
  have ht : ((n : Int)).tmod 2 = ((n % 2 : Nat) : Int) := by rw [Int.tmod_eq_emod_of_nonneg (by omega)]; omega
  by_cases he : n % 2 = 0
  · rw [if_pos he]
    rw [he] at ht
    have h0 : ((n : Int)).tmod 2 = 0 := ht
    clear e ht he hf
    go_enter Tryz.func150, Tryz.ntmps150
    go_wp2_with (first | (go_at_call 85; (with_reducible refine (s_Finite _ _).mono ?_); rintro e w' ⟨rfl, ⟨nd, rfl⟩⟩) | (go_at_call 148; (with_reducible refine (s_Huge _).mono ?_); rintro e w' ⟨rfl, rfl⟩))
    refine bodyPost_ret (v := .tuple #[.float .f32 2139095040, .float .f32 2139095040]) (by simp (maxDischargeDepth := 7) [results, Tryz.results150, go_sem]) rfl ⟨rfl, ?_⟩
    (repeat (first | exact Below.refl _ _ | assumption | refine Below.drew ?_ | refine bdn ?_ | refine ba _ ?_ | refine bs0 _ _ ?_ ?_ | refine bs1 _ _ _ ?_ ?_ | refine bs2 _ _ _ _ ?_ ?_ | refine bs3 _ _ _ _ _ ?_ ?_ | refine bt3 (by assumption) ?_))
  · rw [if_neg he]
    have h0 : ¬ ((n : Int)).tmod 2 = 0 := by rw [ht]; omega
    rcases inf_word hx hn hf with rfl | rfl
    · have hg : (FloatKind.f32.format.order 2139095040 0 == some .gt) = true := by decide
      clear e ht he hf
      go_enter Tryz.func150, Tryz.ntmps150
      go_wp2_with (first | (go_at_call 85; (with_reducible refine (s_Finite _ _).mono ?_); rintro e w' ⟨rfl, ⟨nd, rfl⟩⟩) | (go_at_call 148; (with_reducible refine (s_Huge _).mono ?_); rintro e w' ⟨rfl, rfl⟩))
      refine bodyPost_ret (v := .tuple #[.float .f32 2139095040, .float .f32 2139095040]) (by simp (maxDischargeDepth := 7) [results, Tryz.results150, go_sem]) rfl ⟨rfl, ?_⟩
      (repeat (first | exact Below.refl _ _ | assumption | refine Below.drew ?_ | refine bdn ?_ | refine ba _ ?_ | refine bs0 _ _ ?_ ?_ | refine bs1 _ _ _ ?_ ?_ | refine bs2 _ _ _ _ ?_ ?_ | refine bs3 _ _ _ _ _ ?_ ?_ | refine bt3 (by assumption) ?_))
    · have hg : (FloatKind.f32.format.order 4286578688 0 == some .gt) = false := by decide
      clear e ht he hf
      go_enter Tryz.func150, Tryz.ntmps150
      go_wp2_with (first | (go_at_call 85; (with_reducible refine (s_Finite _ _).mono ?_); rintro e w' ⟨rfl, ⟨nd, rfl⟩⟩) | (go_at_call 148; (with_reducible refine (s_Huge _).mono ?_); rintro e w' ⟨rfl, rfl⟩))
      refine bodyPost_ret (v := .tuple #[.float .f32 4286578688, .float .f32 4286578688]) (by simp (maxDischargeDepth := 7) [results, Tryz.results150, go_sem, show Op.negFloat FloatKind.f32 2139095040 = 4286578688 by decide]) rfl ⟨rfl, ?_⟩
      (repeat (first | exact Below.refl _ _ | assumption | refine Below.drew ?_ | refine bdn ?_ | refine ba _ ?_ | refine bs0 _ _ ?_ ?_ | refine bs1 _ _ _ ?_ ?_ | refine bs2 _ _ _ _ ?_ ?_ | refine bs3 _ _ _ _ _ ?_ ?_ | refine bt3 (by assumption) ?_))
set_option maxHeartbeats 4000000 in
theorem s_RaiseF (x n : Nat) (w : World) (hx : W x) (hf : fin x) (hn : n ≤ 20) : Calls Tryz.prog 150 #[.float .f32 x, .int .i64 n] w (RetV (.tuple #[.float .f32 (rF 1 (pw x n)), .float .f32 (rF 2 (pw x n))]) w) := by
  have hd : decide (fin x) = true := decide_eq_true hf
  have HX := Hd.mk (And.intro hx hf)
  have HB1 : Hd (Bd 1) := ⟨by have := pw_bd (x := 0) (n := 0) (by decide) (by decide); rw [pw_zero] at this; exact dv_bd this⟩
  have HB2 : Hd (Bd (dv 1 0)) := ⟨by have := pw_bd (x := 0) (n := 0) (by decide) (by decide); rwa [pw_zero] at this⟩
  clear hx hf
  go_enter Tryz.func150, Tryz.ntmps150
  go_wp2_with (first | (go_at_call 85; (with_reducible refine (s_Finite _ _).mono ?_); rintro e w' ⟨rfl, ⟨nd, rfl⟩⟩) | (go_at_call 171; (with_reducible refine (s_Of 1 _ (by decide) HB1.out).mono ?_); rintro e1 w1 ⟨s1, A1, n1, c1, rfl, hW, hb⟩; have HQ := Hd.mk (bt3 hb (by (repeat (first | exact Below.refl _ _ | assumption | refine Below.drew ?_ | refine bdn ?_ | refine ba _ ?_ | refine bs0 _ _ ?_ ?_ | refine bs1 _ _ _ ?_ ?_ | refine bs2 _ _ _ _ ?_ ?_ | refine bs3 _ _ _ _ _ ?_ ?_ | refine bt3 (by assumption) ?_)) : Below w.heap.size w _)); have H1 := Hd.mk hW; clear hW hb) | (go_at_call 169; (with_reducible refine (s_DMake s1 A1 n1 c1 1 0 0 _ (H1.out.wh.below (by (repeat (first | exact Below.refl _ _ | assumption | refine Below.drew ?_ | refine bdn ?_ | refine ba _ ?_ | refine bs0 _ _ ?_ ?_ | refine bs1 _ _ _ ?_ ?_ | refine bs2 _ _ _ _ ?_ ?_ | refine bs3 _ _ _ _ _ ?_ ?_ | refine bt3 (by assumption) ?_)))) (by decide) (by decide) (by decide) HB2.out).mono ?_); rintro e2 w2 ⟨s2, A2, n2, c2, x2, rfl, hD, hb⟩; replace HQ := Hd.mk (bt3 hb (bt3 (by (repeat (first | exact Below.refl _ _ | assumption | refine Below.drew ?_ | refine bdn ?_ | refine ba _ ?_ | refine bs0 _ _ ?_ ?_ | refine bs1 _ _ _ ?_ ?_ | refine bs2 _ _ _ _ ?_ ?_ | refine bs3 _ _ _ _ _ ?_ ?_ | refine bt3 (by assumption) ?_))) HQ.out)); have H2 := Hd.mk (hD.mono (Nat.zero_le _)); clear hD hb H1) | (go_at_call 110; (with_reducible refine (s_DOf x _ HX.out.1 HX.out.2).mono ?_); rintro e3 w3 ⟨s3, A3, n3, c3, x3, rfl, hD, hb⟩; replace H2 := Hd.mk (H2.out.keep (bt3 hb (by (repeat (first | exact Below.refl _ _ | assumption | refine Below.drew ?_ | refine bdn ?_ | refine ba _ ?_ | refine bs0 _ _ ?_ ?_ | refine bs1 _ _ _ ?_ ?_ | refine bs2 _ _ _ _ ?_ ?_ | refine bs3 _ _ _ _ _ ?_ ?_ | refine bt3 (by assumption) ?_))))); replace HQ := Hd.mk (bt3 hb (bt3 (by (repeat (first | exact Below.refl _ _ | assumption | refine Below.drew ?_ | refine bdn ?_ | refine ba _ ?_ | refine bs0 _ _ ?_ ?_ | refine bs1 _ _ _ ?_ ?_ | refine bs2 _ _ _ _ ?_ ?_ | refine bs3 _ _ _ _ _ ?_ ?_ | refine bt3 (by assumption) ?_))) HQ.out)); have H3 := Hd.mk (hD.mono (Nat.zero_le _)); clear hD hb))
  go_loopw [1] (fun nv wr => ∃ (k : Nat) (i s : Int) (A : Option Addr) (m c : Nat) (e : Int), nv = .int .i64 i ∧ i = (n : Int) - k ∧ k ≤ n ∧ Hd (Blk wr w3.heap.size 35 #[.int .i64 s, .slice A m c, .int .i64 e]) ∧ Hd (DyO wr 0 s A m c e (pw x k) (149 * k)) ∧ Hd (Blk wr (w3.heap.size + 1) 35 #[.int .i64 s3, .slice A3 n3 c3, .int .i64 x3]) ∧ Hd (DyO wr 0 s3 A3 n3 c3 x3 (fv x) 149) ∧ Hd (Below w.heap.size w wr))
    (fun nv _ => (intOf nv).toNat)
  case atStart =>
    refine ⟨0, n, s2, A2, n2, c2, x2, rfl, by omega, by omega, ⟨?_⟩, ⟨?_⟩, ⟨?_⟩, ⟨?_⟩, ⟨?_⟩⟩
    · exact (Blk.new _ _ _).alloc _
    · rw [pw_zero]; exact H2.out.keep (ba _ (ba _ (Below.refl _ _)))
    · have := Blk.new (w3.alloc (Obj.cells #[.int .i64 s2, .slice A2 n2 c2, .int .i64 x2] 35)) 35 #[.int .i64 s3, .slice A3 n3 c3, .int .i64 x3]
      simpa using this
    · exact H3.out.keep (ba _ (ba _ (Below.refl _ _)))
    · exact ba _ (ba _ HQ.out)
  case round =>
    obtain ⟨k, i, s, A, m, c, e, rfl, hi, hk, HB6, HD6, HB7, HD7, HB⟩ := hrel
    have c0 : wr.cell? _ = some (.int .i64 s) := HB6.out.cell 0
    have c1 : wr.cell? _ = some (.slice A m c) := HB6.out.cell 1
    have c2 : wr.cell? _ = some (.int .i64 e) := HB6.out.cell 2
    have HLE := Hd.mk HQ.out.size
    by_cases h1 : k < n
    · have d0 : wr.cell? _ = some (.int .i64 s3) := HB7.out.cell 0
      have d1 : wr.cell? _ = some (.slice A3 n3 c3) := HB7.out.cell 1
      have d2 : wr.cell? _ = some (.int .i64 x3) := HB7.out.cell 2
      have hi1 : 0 < i := by omega
      have hi2 : i ≤ 20 := by omega
      have HPW := Hd.mk (pw_succ HX.out.2 (show k ≤ 20 by omega))
      have HBM : Hd (Bd (mulV (pw x k) (fv x))) := ⟨by rw [HPW.out]; exact pw_bd HX.out.2 (by omega)⟩
      go_wp2_with (go_at_call 164; (with_reducible refine (s_DMul s s3 e x3 (pw x k) (fv x) A A3 m n3 c c3 (149 * k) 149 _ (HD6.out.dp.below (by (repeat (first | exact Below.refl _ _ | assumption | refine Below.drew ?_ | refine bdn ?_ | refine ba _ ?_ | refine bs0 _ _ ?_ ?_ | refine bs1 _ _ _ ?_ ?_ | refine bs2 _ _ _ _ ?_ ?_ | refine bs3 _ _ _ _ _ ?_ ?_ | refine bt3 (by assumption) ?_)))) (HD7.out.dp.below (by (repeat (first | exact Below.refl _ _ | assumption | refine Below.drew ?_ | refine bdn ?_ | refine ba _ ?_ | refine bs0 _ _ ?_ ?_ | refine bs1 _ _ _ ?_ ?_ | refine bs2 _ _ _ _ ?_ ?_ | refine bs3 _ _ _ _ _ ?_ ?_ | refine bt3 (by assumption) ?_)))) (by unfold SC; omega) HBM.out).mono ?_); rintro e4 w4 ⟨s4, A4, n4, c4, x4, rfl, hD, hb⟩; have hb := bt3 hb (show Below wr.heap.size wr _ by (repeat (first | exact Below.refl _ _ | assumption | refine Below.drew ?_ | refine bdn ?_ | refine ba _ ?_ | refine bs0 _ _ ?_ ?_ | refine bs1 _ _ _ ?_ ?_ | refine bs2 _ _ _ _ ?_ ?_ | refine bs3 _ _ _ _ _ ?_ ?_ | refine bt3 (by assumption) ?_))); replace HB6 := Hd.mk (HB6.out.below hb HB6.out.lt); replace HB7 := Hd.mk (HB7.out.below hb HB7.out.lt); replace HD7 := Hd.mk (HD7.out.keep hb); replace HB := Hd.mk (bt3 hb HB.out); have HD4 := Hd.mk (hD.mono (Nat.zero_le _)); have g0 : w4.cell? _ = some (.int .i64 s) := HB6.out.cell 0; have g1 : w4.cell? _ = some (.slice A m c) := HB6.out.cell 1; have g2 : w4.cell? _ = some (.int .i64 e) := HB6.out.cell 2; have f0 := HB6.out.frozen 0; have f1 := HB6.out.frozen 1; have f2 := HB6.out.frozen 2; clear hD hb)
      go_roundw
      case rel =>
        refine ⟨k + 1, i - 1, s4, A4, n4, c4, x4, by go_num, by omega, by omega, ⟨?_⟩, ⟨?_⟩, ⟨?_⟩, ⟨?_⟩, ⟨?_⟩⟩
        · have := ((HB6.out.set_ 0 (.int .i64 s4)).set_ 1 (.slice A4 n4 c4)).set_ 2 (.int .i64 x4)
          simpa using this
        · rw [← HPW.out]
          exact ((HD4.out.setD HB6.out (by decide) 0 _).setD (HB6.out.set_ 0 _) (by decide) 1 _).setD ((HB6.out.set_ 0 _).set_ 1 _) (by decide) 2 _
        · exact ((HB7.out.far (by simp) _).far (by simp) _).far (by simp) _
        · exact ((HD7.out.setD HB6.out (by decide) 0 _).setD (HB6.out.set_ 0 _) (by decide) 1 _).setD ((HB6.out.set_ 0 _).set_ 1 _) (by decide) 2 _
        · exact ((HB.out.setCell HLE.out _).setCell HLE.out _).setCell HLE.out _
      case measure => (simp [intOf]; try omega)
    · obtain rfl : k = n := by omega
      have hi0 : ¬ 0 < i := by omega
      generalize pw x k = V at *
      clear HLE
      go_wp2_with fail
      refine wp_region_held_drew (S := (fun w' => w'.cell? ⟨w3.heap.size, 0, none⟩ = some (.int .i64 s) ∧ w'.cell? ⟨w3.heap.size, 1, none⟩ = some (.slice A m c) ∧ w'.cell? ⟨w3.heap.size, 2, none⟩ = some (.int .i64 e))) (by kernel_rfl) ⟨HB6.out.cell 0, HB6.out.cell 1, HB6.out.cell 2⟩ (fun hHeld => ?_)
      refine wpAnyH_take (i := 0) (v := _) rfl (by kernel_rfl) (by kernel_rfl) (by kernel_rfl) (fun _ _ _ h => h) (Or.inl ⟨by rfl, by (intro w hSw; (try dsimp only at hSw); go_simp; (first | done | with_reducible rfl))⟩) (by assumption) ?_; (try simp only [Act.put, List.setIfInBounds_toArray, List.set_cons_zero, List.set_cons_succ, List.getElem_toArray, List.getElem_cons_zero, List.getElem_cons_succ])
      refine wpAnyH_take (i := 2) (v := _) rfl (by kernel_rfl) (by kernel_rfl) (by kernel_rfl) (fun _ _ _ h => h) (Or.inl ⟨by rfl, by (intro w hSw; (try dsimp only at hSw); go_simp; (first | done | with_reducible rfl))⟩) (by assumption) ?_; (try simp only [Act.put, List.setIfInBounds_toArray, List.set_cons_zero, List.set_cons_succ, List.getElem_toArray, List.getElem_cons_zero, List.getElem_cons_succ])
      refine wpAnyH_ready (rs := [1]) (by kernel_rfl) (by simp) ?_; refine AllReadyH.cons rfl (fun K hK => ?_) AllReadyH.nil
      go_simp; go_wp2_with (go_at_call 205; (with_reducible refine (s_Down s A m c e V _ _ (HD6.out.dp.below (by (repeat (first | exact Below.refl _ _ | assumption | refine Below.drew ?_ | refine bdn ?_ | refine ba _ ?_ | refine bs0 _ _ ?_ ?_ | refine bs1 _ _ _ ?_ ?_ | refine bs2 _ _ _ _ ?_ ?_ | refine bs3 _ _ _ _ _ ?_ ?_ | refine bt3 (by assumption) ?_))))).mono ?_); rintro e5 w5 ⟨rfl, hb⟩; have hb := bt3 hb (show Below wr.heap.size wr _ by (repeat (first | exact Below.refl _ _ | assumption | refine Below.drew ?_ | refine bdn ?_ | refine ba _ ?_ | refine bs0 _ _ ?_ ?_ | refine bs1 _ _ _ ?_ ?_ | refine bs2 _ _ _ _ ?_ ?_ | refine bs3 _ _ _ _ _ ?_ ?_ | refine bt3 (by assumption) ?_))); replace HB6 := Hd.mk (HB6.out.below hb HB6.out.lt); replace HD6 := Hd.mk (HD6.out.keep hb); replace HB := Hd.mk (bt3 hb HB.out); clear hb); refine hK.out _ _ (by first | assumption | exact hHeld | exact ⟨HB6.out.cell 0, HB6.out.cell 1, HB6.out.cell 2⟩) (fun hHeld => ?_); clear hK K; (try simp only [Act.put, List.setIfInBounds_toArray, List.set_cons_zero, List.set_cons_succ, List.getElem_toArray, List.getElem_cons_zero, List.getElem_cons_succ])
      refine wpAnyH_ready (rs := [3]) (by kernel_rfl) (by simp) ?_; refine AllReadyH.cons rfl (fun K hK => ?_) AllReadyH.nil
      go_simp; go_wp2_with (go_at_call 206; (with_reducible refine (s_Up s A m c e V _ _ (HD6.out.dp.below (by (repeat (first | exact Below.refl _ _ | assumption | refine Below.drew ?_ | refine bdn ?_ | refine ba _ ?_ | refine bs0 _ _ ?_ ?_ | refine bs1 _ _ _ ?_ ?_ | refine bs2 _ _ _ _ ?_ ?_ | refine bs3 _ _ _ _ _ ?_ ?_ | refine bt3 (by assumption) ?_))))).mono ?_); rintro e5 w6 ⟨rfl, hb⟩; have hb := bt3 hb (show Below w5.heap.size w5 _ by (repeat (first | exact Below.refl _ _ | assumption | refine Below.drew ?_ | refine bdn ?_ | refine ba _ ?_ | refine bs0 _ _ ?_ ?_ | refine bs1 _ _ _ ?_ ?_ | refine bs2 _ _ _ _ ?_ ?_ | refine bs3 _ _ _ _ _ ?_ ?_ | refine bt3 (by assumption) ?_))); replace HB6 := Hd.mk (HB6.out.below hb HB6.out.lt); replace HD6 := Hd.mk (HD6.out.keep hb); replace HB := Hd.mk (bt3 hb HB.out); clear hb); refine hK.out _ _ (by first | assumption | exact hHeld | exact ⟨HB6.out.cell 0, HB6.out.cell 1, HB6.out.cell 2⟩) (fun hHeld => ?_); clear hK K; (try simp only [Act.put, List.setIfInBounds_toArray, List.set_cons_zero, List.set_cons_succ, List.getElem_toArray, List.getElem_cons_zero, List.getElem_cons_succ])
      refine wpAnyH_take (i := 4) (v := _) rfl (by kernel_rfl) (by kernel_rfl) (by kernel_rfl) (fun _ _ _ h => h) (Or.inl ⟨by rfl, by (intro w hSw; (try dsimp only at hSw); go_simp; (first | done | with_reducible rfl))⟩) (by assumption) ?_; (try simp only [Act.put, List.setIfInBounds_toArray, List.set_cons_zero, List.set_cons_succ, List.getElem_toArray, List.getElem_cons_zero, List.getElem_cons_succ])
      refine wpAnyH_take (i := 5) (v := _) rfl (by kernel_rfl) (by kernel_rfl) (by kernel_rfl) (fun _ _ _ h => h) (Or.inl ⟨by rfl, by (intro w hSw; (try dsimp only at hSw); go_simp; (first | done | with_reducible rfl))⟩) (by assumption) ?_; (try simp only [Act.put, List.setIfInBounds_toArray, List.set_cons_zero, List.set_cons_succ, List.getElem_toArray, List.getElem_cons_zero, List.getElem_cons_succ])
      refine wpAnyH_done (by kernel_rfl) ?_ _
      go_simp
      go_wp2_with fail
      refine bodyPost_ret (v := .tuple #[.float .f32 (rF 1 V), .float .f32 (rF 2 V)]) (by simp (maxDischargeDepth := 7) [results, Tryz.results150, go_sem]) rfl ⟨rfl, ?_⟩
      exact bt3 (by (repeat (first | exact Below.refl _ _ | assumption | refine Below.drew ?_ | refine bdn ?_ | refine ba _ ?_ | refine bs0 _ _ ?_ ?_ | refine bs1 _ _ _ ?_ ?_ | refine bs2 _ _ _ _ ?_ ?_ | refine bs3 _ _ _ _ _ ?_ ?_ | refine bt3 (by assumption) ?_))) HB.out
end Go.Proofs.YtlaaielopcphiaaGreat
