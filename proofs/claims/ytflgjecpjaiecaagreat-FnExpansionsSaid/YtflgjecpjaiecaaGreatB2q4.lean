/- Contracts: DyadicOf and AddDyadics of the program, lists and dyadic numbers compared as the laws on draws ask it. -/
import Derived.Test.YtflgjecpjaiecaaGreatHgq4
import Derived.Test.YtflgjecpjaiecaaGreatGyq4
import Derived.Test.YtflgjecpjaiecaaGreatA2q4
set_option linter.unusedVariables false
set_option linter.unusedSimpArgs false
set_option exponentiation.threshold 40000
namespace Go.Proofs.YtflgjecpjaiecaaGreat
open Go.RowKit Num Flt
set_option maxHeartbeats 4000000 in
theorem i_DyOf (x : Nat) (w : World) (hx : W x) (hf : fin x) : Calls Tryz.prog 56 #[.float .f32 x] w (RetDC (fv x) 149 0 w) := by
  have HX := Hd.mk (And.intro hx hf)
  have HI := Hd.mk (fun w => i_isFinite x w hx)
  rw [decide_eq_true hf] at HI
  have hs : (fv x).natAbs < 2 ^ 22000 := Nat.lt_trans (fv_lt2 hf) (Nat.pow_lt_pow_right (by decide) (by decide))
  have HD := Hd.mk (fun g e w (hX : NuP w g e (fv x) 149) => n_Dyadic g e (fv x) 149 w hX hs (by decide))
  have HN := Hd.mk (fun w => n_Of x w hx hf)
  clear hx hf hs
  generalize fv x = V at *
  go_enter Tryz.func56, Tryz.ntmps56
  go_wp2_with (first | (go_at_call 129; (with_reducible refine (HI.out _).mono ?_); rintro e w1 ⟨rfl, rfl⟩; have HK := Hd.mk (PeH.start w)) | (go_at_call 111; (with_reducible refine (HN.out _).mono ?_); rintro e2 w2 ⟨g2, x2, rfl, hN, hb⟩; replace HK := Hd.mk (HK.out.below hb); have HNU := Hd.mk hN; have r0 : w2.cell? _ = some (.int .i64 0) := HK.out.b1.cell 0; have r1 : w2.cell? _ = some (.slice none 0 0) := HK.out.b1.cell 1; have r2 : w2.cell? _ = some (.int .i64 0) := HK.out.b1.cell 2; have f0 := HK.out.b1.frozen 0; have f1 := HK.out.b1.frozen 1; have f2 := HK.out.b1.frozen 2; clear hN hb) | (go_at_call 128; (with_reducible refine (HD.out g2 x2 _ HNU.out).mono ?_); rintro e7 w7 ⟨s7, A7, n7, c7, x7, rfl, hD, hb⟩; have hz1 := HK.out.b1.lt; have H7 := Hd.mk hD; replace HK := Hd.mk (HK.out.below hb); have r0 : w7.cell? _ = some (.int .i64 0) := HK.out.b1.cell 0; have r1 : w7.cell? _ = some (.slice none 0 0) := HK.out.b1.cell 1; have r2 : w7.cell? _ = some (.int .i64 0) := HK.out.b1.cell 2; have f0 := HK.out.b1.frozen 0; have f1 := HK.out.b1.frozen 1; have f2 := HK.out.b1.frozen 2; clear hD hb))
  refine bodyPost_ret (v := .tuple #[.agg #[.int .i64 s7, .slice A7 n7 c7, .int .i64 x7], .int .i64 0]) (by simp (maxDischargeDepth := 7) [results, Tryz.results56, go_sem, *]) rfl ⟨s7, A7, n7, c7, x7, rfl, (((H7.out.set _ _ (by omega) _).set _ _ (by omega) _).set _ _ (by omega) _).mono (by omega), (by have hbb := HK.out.bel; (repeat (first | exact Below.refl _ _ | assumption | refine Below.drew ?_ | refine bdn ?_ | refine ba _ ?_ | refine bs0 _ _ ?_ ?_ | refine bs1 _ _ _ ?_ ?_ | refine bs2 _ _ _ _ ?_ ?_ | refine bs3 _ _ _ _ _ ?_ ?_ | refine bt3 (by assumption) ?_)))⟩
/-! sums -/
structure AdH (w wx : World) (s x : Int) (A : Option Addr) (n c : Nat) (L : List Int) (s' x' : Int) (A' : Option Addr) (n' c' : Nat) (L' : List Int) : Prop where
  bel : Below w.heap.size w wx
  b0 : Blk wx w.heap.size 66 #[.int .i64 s, .slice A n c, .int .i64 x]
  b1 : Blk wx (w.heap.size + 1) 66 #[.int .i64 s', .slice A' n' c', .int .i64 x']
  b2 : Blk wx (w.heap.size + 1 + 1) 66 #[.int .i64 0, .slice none 0 0, .int .i64 0]
  rd : R64 wx A L
  rd' : R64 wx A' L'
theorem AdH.below {w wx w' : World} {s x : Int} {A : Option Addr} {n c : Nat} {L : List Int} {s' x' : Int} {A' : Option Addr} {n' c' : Nat} {L' : List Int} (h : AdH w wx s x A n c L s' x' A' n' c' L') (hb : Below wx.heap.size wx w') : AdH w w' s x A n c L s' x' A' n' c' L' :=
  ⟨bt3 hb h.bel, h.b0.below hb h.b0.lt, h.b1.below hb h.b1.lt, h.b2.below hb h.b2.lt, h.rd.below hb, h.rd'.below hb⟩
abbrev Wad (w : World) (s x : Int) (A : Option Addr) (n c : Nat) (s' x' : Int) (A' : Option Addr) (n' c' : Nat) : World := ((w.alloc (Obj.cells #[.int .i64 s, .slice A n c, .int .i64 x] 66)).alloc (Obj.cells #[.int .i64 s', .slice A' n' c', .int .i64 x'] 66)).alloc (Obj.cells #[.int .i64 0, .slice none 0 0, .int .i64 0] 66)
theorem AdH.start {w : World} {A : Option Addr} {L : List Int} {A' : Option Addr} {L' : List Int} (hR : R64 w A L) (hR' : R64 w A' L') (s x : Int) (n c : Nat) (s' x' : Int) (n' c' : Nat) : AdH w (Wad w s x A n c s' x' A' n' c') s x A n c L s' x' A' n' c' L' := by
  refine ⟨ba _ (ba _ (ba _ (Below.refl _ _))), ((Blk.new _ _ _).alloc _).alloc _, ?_, ?_, hR.below (ba _ (ba _ (ba _ (Below.refl _ _)))), hR'.below (ba _ (ba _ (ba _ (Below.refl _ _))))⟩
  · have := (Blk.new (w.alloc (Obj.cells #[.int .i64 s, .slice A n c, .int .i64 x] 66)) 66 #[.int .i64 s', .slice A' n' c', .int .i64 x']).alloc (Obj.cells #[.int .i64 0, .slice none 0 0, .int .i64 0] 66)
    simpa [Wad] using this
  · have := Blk.new ((w.alloc (Obj.cells #[.int .i64 s, .slice A n c, .int .i64 x] 66)).alloc (Obj.cells #[.int .i64 s', .slice A' n' c', .int .i64 x'] 66)) 66 #[.int .i64 0, .slice none 0 0, .int .i64 0]
    simpa [Wad] using this
theorem AdH.cells {w wx : World} {s x : Int} {A : Option Addr} {n c : Nat} {L : List Int} {s' x' : Int} {A' : Option Addr} {n' c' : Nat} {L' : List Int} (h : AdH w wx s x A n c L s' x' A' n' c' L') : (fun w' => w'.cell? ⟨w.heap.size, 0, none⟩ = some (.int .i64 s) ∧ w'.cell? ⟨w.heap.size, 1, none⟩ = some (.slice A n c) ∧ w'.cell? ⟨w.heap.size, 2, none⟩ = some (.int .i64 x) ∧ w'.cell? ⟨w.heap.size + 1, 0, none⟩ = some (.int .i64 s') ∧ w'.cell? ⟨w.heap.size + 1, 1, none⟩ = some (.slice A' n' c') ∧ w'.cell? ⟨w.heap.size + 1, 2, none⟩ = some (.int .i64 x')) wx := ⟨h.b0.cell 0, h.b0.cell 1, h.b0.cell 2, h.b1.cell 0, h.b1.cell 1, h.b1.cell 2⟩
theorem dyn_isDB {s x V : Int} {L : List Int} (h : DyN s L x V 149) (hs : V.natAbs < 2 ^ 22000) : isDB s L x := by
  obtain ⟨m, hN, hF, _⟩ := h
  have := dy_small hF hs (by decide)
  exact (isDB_fit hN hF).2 ⟨this.1, this.2.1, this.2.2.1⟩
theorem dyn_number {s x V : Int} {A : Option Addr} {n c : Nat} {L : List Int} {w : World} (h : DyN s L x V 149) (hn : n = L.length) (hR : R64 w A L) : Calls Tryz.prog 131 #[.agg #[.int .i64 s, .slice A n c, .int .i64 x]] w (RetN V 149 w) := by
  obtain ⟨m, hN, hF, hl⟩ := h
  exact n_Number s x A n c L m V 149 w hn (by omega) hR hN hF
theorem bd_s22 {V : Int} (h : V.natAbs < 2 ^ 22000) : Bd V := by
  have := bd_close2 (U := V) (V := 0) h (by simp)
  rwa [Int.sub_zero] at this
set_option maxHeartbeats 4000000 in
theorem i_AddDy (s x : Int) (A : Option Addr) (n c : Nat) (L : List Int) (s' x' : Int) (A' : Option Addr) (n' c' : Nat) (L' : List Int) (V U : Int) (w : World) (hn : n = L.length) (hR : R64 w A L) (h : DyN s L x V 149) (hn' : n' = L'.length) (hR' : R64 w A' L') (h' : DyN s' L' x' U 149) (hV : V.natAbs < 2 ^ 22000) (hU : U.natAbs < 2 ^ 22000) (hs : (V + U).natAbs < 2 ^ 22000) :
    Calls Tryz.prog 57 #[.agg #[.int .i64 s, .slice A n c, .int .i64 x], .agg #[.int .i64 s', .slice A' n' c', .int .i64 x']] w (RetDC (V + U) 149 0 w) := by
  have HT := Hd.mk (AdH.start hR hR' s x n c s' x' n' c')
  have hl : n ≤ LIM := by have := h.lim; unfold LIM; omega
  have hl' : n' ≤ LIM := by have := h'.lim; unfold LIM; omega
  have HD := Hd.mk (fun w hR => RetB.yes (dyn_isDB h hV) (i_IsD s x A n c L w hn hl hR))
  have HD' := Hd.mk (fun w hR => RetB.yes (dyn_isDB h' hU) (i_IsD s' x' A' n' c' L' w hn' hl' hR))
  have HY := Hd.mk (fun w (hR : R64 w A L) => dyn_number (c := c) h hn hR)
  have HY' := Hd.mk (fun w (hR : R64 w A' L') => dyn_number (c := c') h' hn' hR)
  have HBD := Hd.mk (bd_s22 hs)
  have HFI := Hd.mk (fun g e w (hX : NuP w g e (V + U) 149) => n_Dyadic g e (V + U) 149 w hX hs (by decide))
  clear hn hR h hn' hR' h' hV hU hs hl hl'
  go_enter Tryz.func57, Tryz.ntmps57
  have c0 : (Wad w s x A n c s' x' A' n' c').cell? _ = some (.int .i64 s) := HT.out.b0.cell 0; have c1 : (Wad w s x A n c s' x' A' n' c').cell? _ = some (.slice A n c) := HT.out.b0.cell 1; have c2 : (Wad w s x A n c s' x' A' n' c').cell? _ = some (.int .i64 x) := HT.out.b0.cell 2; have c3 : (Wad w s x A n c s' x' A' n' c').cell? _ = some (.int .i64 s') := HT.out.b1.cell 0; have c4 : (Wad w s x A n c s' x' A' n' c').cell? _ = some (.slice A' n' c') := HT.out.b1.cell 1; have c5 : (Wad w s x A n c s' x' A' n' c').cell? _ = some (.int .i64 x') := HT.out.b1.cell 2; have r0 : (Wad w s x A n c s' x' A' n' c').cell? _ = some (.int .i64 0) := HT.out.b2.cell 0; have r1 : (Wad w s x A n c s' x' A' n' c').cell? _ = some (.slice none 0 0) := HT.out.b2.cell 1; have r2 : (Wad w s x A n c s' x' A' n' c').cell? _ = some (.int .i64 0) := HT.out.b2.cell 2; have f0 := HT.out.b2.frozen 0; have f1 := HT.out.b2.frozen 1; have f2 := HT.out.b2.frozen 2
  go_wp2_with (first | (go_at_call 130; (with_reducible refine (HD.out _ (HT.out.rd.below (by (repeat (first | exact Below.refl _ _ | assumption | refine Below.drew ?_ | refine bdn ?_ | refine ba _ ?_ | refine bs0 _ _ ?_ ?_ | refine bs1 _ _ _ ?_ ?_ | refine bs2 _ _ _ _ ?_ ?_ | refine bs3 _ _ _ _ _ ?_ ?_ | refine bt3 (by assumption) ?_))))).mono ?_); rintro e2 w2 ⟨rfl, hb⟩; replace HT := Hd.mk (HT.out.below (bt3 hb (by (repeat (first | exact Below.refl _ _ | assumption | refine Below.drew ?_ | refine bdn ?_ | refine ba _ ?_ | refine bs0 _ _ ?_ ?_ | refine bs1 _ _ _ ?_ ?_ | refine bs2 _ _ _ _ ?_ ?_ | refine bs3 _ _ _ _ _ ?_ ?_ | refine bt3 (by assumption) ?_))))); have c0 : w2.cell? _ = some (.int .i64 s) := HT.out.b0.cell 0; have c1 : w2.cell? _ = some (.slice A n c) := HT.out.b0.cell 1; have c2 : w2.cell? _ = some (.int .i64 x) := HT.out.b0.cell 2; have c3 : w2.cell? _ = some (.int .i64 s') := HT.out.b1.cell 0; have c4 : w2.cell? _ = some (.slice A' n' c') := HT.out.b1.cell 1; have c5 : w2.cell? _ = some (.int .i64 x') := HT.out.b1.cell 2; have r0 : w2.cell? _ = some (.int .i64 0) := HT.out.b2.cell 0; have r1 : w2.cell? _ = some (.slice none 0 0) := HT.out.b2.cell 1; have r2 : w2.cell? _ = some (.int .i64 0) := HT.out.b2.cell 2; have f0 := HT.out.b2.frozen 0; have f1 := HT.out.b2.frozen 1; have f2 := HT.out.b2.frozen 2; clear hb) | (go_at_call 130; (with_reducible refine (HD'.out _ (HT.out.rd'.below (by (repeat (first | exact Below.refl _ _ | assumption | refine Below.drew ?_ | refine bdn ?_ | refine ba _ ?_ | refine bs0 _ _ ?_ ?_ | refine bs1 _ _ _ ?_ ?_ | refine bs2 _ _ _ _ ?_ ?_ | refine bs3 _ _ _ _ _ ?_ ?_ | refine bt3 (by assumption) ?_))))).mono ?_); rintro e2 w2 ⟨rfl, hb⟩; replace HT := Hd.mk (HT.out.below (bt3 hb (by (repeat (first | exact Below.refl _ _ | assumption | refine Below.drew ?_ | refine bdn ?_ | refine ba _ ?_ | refine bs0 _ _ ?_ ?_ | refine bs1 _ _ _ ?_ ?_ | refine bs2 _ _ _ _ ?_ ?_ | refine bs3 _ _ _ _ _ ?_ ?_ | refine bt3 (by assumption) ?_))))); have c0 : w2.cell? _ = some (.int .i64 s) := HT.out.b0.cell 0; have c1 : w2.cell? _ = some (.slice A n c) := HT.out.b0.cell 1; have c2 : w2.cell? _ = some (.int .i64 x) := HT.out.b0.cell 2; have c3 : w2.cell? _ = some (.int .i64 s') := HT.out.b1.cell 0; have c4 : w2.cell? _ = some (.slice A' n' c') := HT.out.b1.cell 1; have c5 : w2.cell? _ = some (.int .i64 x') := HT.out.b1.cell 2; have r0 : w2.cell? _ = some (.int .i64 0) := HT.out.b2.cell 0; have r1 : w2.cell? _ = some (.slice none 0 0) := HT.out.b2.cell 1; have r2 : w2.cell? _ = some (.int .i64 0) := HT.out.b2.cell 2; have f0 := HT.out.b2.frozen 0; have f1 := HT.out.b2.frozen 1; have f2 := HT.out.b2.frozen 2; clear hb))
  clear c0 c1 c2 c3 c4 c5 r0 r1 r2 f0 f1 f2
  refine wp_region_held_drew (S := (fun w' => w'.cell? ⟨w.heap.size, 0, none⟩ = some (.int .i64 s) ∧ w'.cell? ⟨w.heap.size, 1, none⟩ = some (.slice A n c) ∧ w'.cell? ⟨w.heap.size, 2, none⟩ = some (.int .i64 x) ∧ w'.cell? ⟨w.heap.size + 1, 0, none⟩ = some (.int .i64 s') ∧ w'.cell? ⟨w.heap.size + 1, 1, none⟩ = some (.slice A' n' c') ∧ w'.cell? ⟨w.heap.size + 1, 2, none⟩ = some (.int .i64 x'))) (by kernel_rfl) HT.out.cells (fun hHeld => ?_)
  refine wpAnyH_take (i := 0) (v := _) rfl (by kernel_rfl) (by kernel_rfl) (by kernel_rfl) (fun _ _ _ h => h) (Or.inl ⟨by rfl, by (intro w hSw; (try dsimp only at hSw); go_simp; (first | done | with_reducible rfl))⟩) (by assumption) ?_; (try simp only [Act.put, List.setIfInBounds_toArray, List.set_cons_zero, List.set_cons_succ, List.getElem_toArray, List.getElem_cons_zero, List.getElem_cons_succ])
  refine wpAnyH_take (i := 2) (v := _) rfl (by kernel_rfl) (by kernel_rfl) (by kernel_rfl) (fun _ _ _ h => h) (Or.inl ⟨by rfl, by (intro w hSw; (try dsimp only at hSw); go_simp; (first | done | with_reducible rfl))⟩) (by assumption) ?_; (try simp only [Act.put, List.setIfInBounds_toArray, List.set_cons_zero, List.set_cons_succ, List.getElem_toArray, List.getElem_cons_zero, List.getElem_cons_succ])
  refine wpAnyH_ready (rs := [1]) (by kernel_rfl) (by simp) ?_; refine AllReadyH.cons rfl (fun K hK => ?_) AllReadyH.nil
  go_simp; go_wp2_with (go_at_call 131; (with_reducible refine (HY.out _ (HT.out.rd.below (by (repeat (first | exact Below.refl _ _ | assumption | refine Below.drew ?_ | refine bdn ?_ | refine ba _ ?_ | refine bs0 _ _ ?_ ?_ | refine bs1 _ _ _ ?_ ?_ | refine bs2 _ _ _ _ ?_ ?_ | refine bs3 _ _ _ _ _ ?_ ?_ | refine bt3 (by assumption) ?_))))).mono ?_); rintro e3 w3 ⟨g3, x3, rfl, hN, hb⟩; replace HT := Hd.mk (HT.out.below (bt3 hb (by (repeat (first | exact Below.refl _ _ | assumption | refine Below.drew ?_ | refine bdn ?_ | refine ba _ ?_ | refine bs0 _ _ ?_ ?_ | refine bs1 _ _ _ ?_ ?_ | refine bs2 _ _ _ _ ?_ ?_ | refine bs3 _ _ _ _ _ ?_ ?_ | refine bt3 (by assumption) ?_))))); have HN3 := Hd.mk hN; clear hN hb); refine hK.out _ _ (by first | assumption | exact hHeld | exact HT.out.cells | exact (HT.out.below (by (repeat (first | exact Below.refl _ _ | assumption | refine Below.drew ?_ | refine bdn ?_ | refine ba _ ?_ | refine bs0 _ _ ?_ ?_ | refine bs1 _ _ _ ?_ ?_ | refine bs2 _ _ _ _ ?_ ?_ | refine bs3 _ _ _ _ _ ?_ ?_ | refine bt3 (by assumption) ?_)))).cells) (fun hHeld => ?_); clear hK K; (try simp only [Act.put, List.setIfInBounds_toArray, List.set_cons_zero, List.set_cons_succ, List.getElem_toArray, List.getElem_cons_zero, List.getElem_cons_succ])
  refine wpAnyH_ready (rs := [3]) (by kernel_rfl) (by simp) ?_; refine AllReadyH.cons rfl (fun K hK => ?_) AllReadyH.nil
  go_simp; go_wp2_with (go_at_call 131; (with_reducible refine (HY'.out _ (HT.out.rd'.below (by (repeat (first | exact Below.refl _ _ | assumption | refine Below.drew ?_ | refine bdn ?_ | refine ba _ ?_ | refine bs0 _ _ ?_ ?_ | refine bs1 _ _ _ ?_ ?_ | refine bs2 _ _ _ _ ?_ ?_ | refine bs3 _ _ _ _ _ ?_ ?_ | refine bt3 (by assumption) ?_))))).mono ?_); rintro e4 w4 ⟨g4, x4, rfl, hN, hb⟩; replace HN3 := Hd.mk (HN3.out.below (bt3 hb (by (repeat (first | exact Below.refl _ _ | assumption | refine Below.drew ?_ | refine bdn ?_ | refine ba _ ?_ | refine bs0 _ _ ?_ ?_ | refine bs1 _ _ _ ?_ ?_ | refine bs2 _ _ _ _ ?_ ?_ | refine bs3 _ _ _ _ _ ?_ ?_ | refine bt3 (by assumption) ?_))))); replace HT := Hd.mk (HT.out.below (bt3 hb (by (repeat (first | exact Below.refl _ _ | assumption | refine Below.drew ?_ | refine bdn ?_ | refine ba _ ?_ | refine bs0 _ _ ?_ ?_ | refine bs1 _ _ _ ?_ ?_ | refine bs2 _ _ _ _ ?_ ?_ | refine bs3 _ _ _ _ _ ?_ ?_ | refine bt3 (by assumption) ?_))))); have HN4 := Hd.mk hN; clear hN hb); refine hK.out _ _ (by first | assumption | exact hHeld | exact HT.out.cells | exact (HT.out.below (by (repeat (first | exact Below.refl _ _ | assumption | refine Below.drew ?_ | refine bdn ?_ | refine ba _ ?_ | refine bs0 _ _ ?_ ?_ | refine bs1 _ _ _ ?_ ?_ | refine bs2 _ _ _ _ ?_ ?_ | refine bs3 _ _ _ _ _ ?_ ?_ | refine bt3 (by assumption) ?_)))).cells) (fun hHeld => ?_); clear hK K; (try simp only [Act.put, List.setIfInBounds_toArray, List.set_cons_zero, List.set_cons_succ, List.getElem_toArray, List.getElem_cons_zero, List.getElem_cons_succ])
  refine wpAnyH_ready (rs := [4]) (by kernel_rfl) (by simp) ?_; refine AllReadyH.cons rfl (fun K hK => ?_) AllReadyH.nil
  go_simp; go_wp2_with (go_at_call 113; (with_reducible refine (n_Add g3 g4 x3 x4 V U 149 _ (HN3.out.below (by (repeat (first | exact Below.refl _ _ | assumption | refine Below.drew ?_ | refine bdn ?_ | refine ba _ ?_ | refine bs0 _ _ ?_ ?_ | refine bs1 _ _ _ ?_ ?_ | refine bs2 _ _ _ _ ?_ ?_ | refine bs3 _ _ _ _ _ ?_ ?_ | refine bt3 (by assumption) ?_)))) (HN4.out.below (by (repeat (first | exact Below.refl _ _ | assumption | refine Below.drew ?_ | refine bdn ?_ | refine ba _ ?_ | refine bs0 _ _ ?_ ?_ | refine bs1 _ _ _ ?_ ?_ | refine bs2 _ _ _ _ ?_ ?_ | refine bs3 _ _ _ _ _ ?_ ?_ | refine bt3 (by assumption) ?_)))) HBD.out).mono ?_); rintro e5 w5 ⟨g5, x5, rfl, hN, hb⟩; replace HT := Hd.mk (HT.out.below (bt3 hb (by (repeat (first | exact Below.refl _ _ | assumption | refine Below.drew ?_ | refine bdn ?_ | refine ba _ ?_ | refine bs0 _ _ ?_ ?_ | refine bs1 _ _ _ ?_ ?_ | refine bs2 _ _ _ _ ?_ ?_ | refine bs3 _ _ _ _ _ ?_ ?_ | refine bt3 (by assumption) ?_))))); have HN5 := Hd.mk hN; clear hN hb); refine hK.out _ _ (by first | assumption | exact hHeld | exact HT.out.cells | exact (HT.out.below (by (repeat (first | exact Below.refl _ _ | assumption | refine Below.drew ?_ | refine bdn ?_ | refine ba _ ?_ | refine bs0 _ _ ?_ ?_ | refine bs1 _ _ _ ?_ ?_ | refine bs2 _ _ _ _ ?_ ?_ | refine bs3 _ _ _ _ _ ?_ ?_ | refine bt3 (by assumption) ?_)))).cells) (fun hHeld => ?_); clear hK K; (try simp only [Act.put, List.setIfInBounds_toArray, List.set_cons_zero, List.set_cons_succ, List.getElem_toArray, List.getElem_cons_zero, List.getElem_cons_succ])
  refine wpAnyH_ready (rs := [5]) (by kernel_rfl) (by simp) ?_; refine AllReadyH.cons rfl (fun K hK => ?_) AllReadyH.nil
  go_simp; go_wp2_with (go_at_call 128; (with_reducible refine (HFI.out g5 x5 _ HN5.out).mono ?_); rintro e6 w6 ⟨s6, A6, n6, c6, x6, rfl, hO, hb⟩; have hO := hO.mono (show w.heap.size + 1 + 1 + 1 ≤ _ from HT.out.b2.lt); replace HT := Hd.mk (HT.out.below (bt3 hb (by (repeat (first | exact Below.refl _ _ | assumption | refine Below.drew ?_ | refine bdn ?_ | refine ba _ ?_ | refine bs0 _ _ ?_ ?_ | refine bs1 _ _ _ ?_ ?_ | refine bs2 _ _ _ _ ?_ ?_ | refine bs3 _ _ _ _ _ ?_ ?_ | refine bt3 (by assumption) ?_))))); have H6 := Hd.mk hO; clear hO hb); refine hK.out _ _ (by first | assumption | exact hHeld | exact HT.out.cells | exact (HT.out.below (by (repeat (first | exact Below.refl _ _ | assumption | refine Below.drew ?_ | refine bdn ?_ | refine ba _ ?_ | refine bs0 _ _ ?_ ?_ | refine bs1 _ _ _ ?_ ?_ | refine bs2 _ _ _ _ ?_ ?_ | refine bs3 _ _ _ _ _ ?_ ?_ | refine bt3 (by assumption) ?_)))).cells) (fun hHeld => ?_); clear hK K; (try simp only [Act.put, List.setIfInBounds_toArray, List.set_cons_zero, List.set_cons_succ, List.getElem_toArray, List.getElem_cons_zero, List.getElem_cons_succ])
  refine wpAnyH_take (i := 6) (v := _) rfl (by kernel_rfl) (by kernel_rfl) (by kernel_rfl) (fun _ _ _ h => h) (Or.inl ⟨by rfl, by (intro w hSw; (try dsimp only at hSw); go_simp; (first | done | with_reducible rfl))⟩) (by assumption) ?_; (try simp only [Act.put, List.setIfInBounds_toArray, List.set_cons_zero, List.set_cons_succ, List.getElem_toArray, List.getElem_cons_zero, List.getElem_cons_succ])
  refine wpAnyH_take (i := 7) (v := _) rfl (by kernel_rfl) (by kernel_rfl) (by kernel_rfl) (fun _ _ _ h => h) (Or.inl ⟨by rfl, by (intro w hSw; (try dsimp only at hSw); go_simp; (first | done | with_reducible rfl))⟩) (by assumption) ?_; (try simp only [Act.put, List.setIfInBounds_toArray, List.set_cons_zero, List.set_cons_succ, List.getElem_toArray, List.getElem_cons_zero, List.getElem_cons_succ])
  have c0 : World.cell? _ _ = some (.int .i64 s) := HT.out.b0.cell 0; have c1 : World.cell? _ _ = some (.slice A n c) := HT.out.b0.cell 1; have c2 : World.cell? _ _ = some (.int .i64 x) := HT.out.b0.cell 2; have c3 : World.cell? _ _ = some (.int .i64 s') := HT.out.b1.cell 0; have c4 : World.cell? _ _ = some (.slice A' n' c') := HT.out.b1.cell 1; have c5 : World.cell? _ _ = some (.int .i64 x') := HT.out.b1.cell 2; have r0 : World.cell? _ _ = some (.int .i64 0) := HT.out.b2.cell 0; have r1 : World.cell? _ _ = some (.slice none 0 0) := HT.out.b2.cell 1; have r2 : World.cell? _ _ = some (.int .i64 0) := HT.out.b2.cell 2; have f0 := HT.out.b2.frozen 0; have f1 := HT.out.b2.frozen 1; have f2 := HT.out.b2.frozen 2; have hbb := HT.out.bel
  refine wpAnyH_ready (rs := [8]) (by kernel_rfl) (by simp) ?_; refine AllReadyH.cons rfl (fun K hK => ?_) AllReadyH.nil
  go_simp
  go_wp2_with fail
  refine hK.out _ _ (by first | assumption | (refine ⟨?_, ?_, ?_, ?_, ?_, ?_⟩ <;> go_simp; done) | (go_simp; done) | (go_keep; done)) (fun hHeld => ?_)
  clear hK K
  (try simp only [Act.put, List.setIfInBounds_toArray, List.set_cons_zero, List.set_cons_succ, List.getElem_toArray, List.getElem_cons_zero, List.getElem_cons_succ])
  refine wpAnyH_take (i := 9) (v := _) rfl (by kernel_rfl) (by kernel_rfl) (by kernel_rfl) (fun _ _ _ h => h) (Or.inl ⟨by rfl, by (intro w hSw; (try dsimp only at hSw); go_simp; (first | done | with_reducible rfl))⟩) (by assumption) ?_; (try simp only [Act.put, List.setIfInBounds_toArray, List.set_cons_zero, List.set_cons_succ, List.getElem_toArray, List.getElem_cons_zero, List.getElem_cons_succ])
  refine wpAnyH_done (by kernel_rfl) ?_ _
  go_simp
  go_wp2_with fail
  refine bodyPost_ret (v := .tuple #[.agg #[.int .i64 s6, .slice A6 n6 c6, .int .i64 x6], .int .i64 0]) (by simp (maxDischargeDepth := 7) [results, Tryz.results57, go_sem, *]) rfl ⟨s6, A6, n6, c6, x6, rfl, ?_, ?_⟩
  · refine DyO.mono (B := w.heap.size + 1 + 1 + 1) ?_ (by omega)
    refine DyO.set ?_ _ _ (by omega) _
    refine DyO.set ?_ _ _ (by omega) _
    refine DyO.set ?_ _ _ (by omega) _
    exact H6.out
  (repeat (first | with_reducible exact hbb | with_reducible refine Below.setCell ?_ (show w.heap.size ≤ _ by dsimp only; omega) _ | with_reducible refine ba _ ?_))
/-! lists compared -/
set_option maxHeartbeats 4000000 in
theorem l_like (A A' : Option Addr) (n c c' : Nat) (xs : List Int) (w : World) (hn : n = xs.length) (hl : n ≤ LIM) (hR : R64 w A xs) (hR' : R64 w A' xs) :
    Calls Tryz.prog 132 #[.slice A n c, .slice A' n c'] w fun e w' => e = .returned (.bool true) ∧ ∃ d, w' = w.drewN d := by
  have HR : Hd (R64 w A xs ∧ R64 w A' xs ∧ n = xs.length) := ⟨⟨hR, hR', hn⟩⟩
  have hnI : (n : Int) ≤ 1099511627776 := by unfold LIM at hl; omega
  clear hn hl hR hR'
  go_enter Tryz.func132, Tryz.ntmps132
  go_wp2
  go_loopw [5] (fun i wr => ∃ (k d : Nat), i = .int .i64 k ∧ (k : Int) ≤ n ∧ wr = w.drewN d) (fun i _ => n - (intOf i).toNat)
  case atStart => exact ⟨0, 0, rfl, by omega, rfl⟩
  case round =>
    obtain ⟨k, d, rfl, hk, rfl⟩ := hrel
    by_cases h1 : k < n
    · obtain ⟨ad, hA, hcx⟩ := HR.out.1.at_ (k := k) (by have := HR.out.2.2; omega)
      subst hA
      obtain ⟨ad', hA, hcy⟩ := HR.out.2.1.at_ (k := k) (by have := HR.out.2.2; omega)
      subst hA
      generalize hex : xs.getD k 0 = x at *
      clear hex
      have hkI : (k : Int) < n := by omega
      go_wp2
      go_quiet (fail)
      go_wp2_with fail
      go_roundw
      case rel => exact ⟨k + 1, _, by go_num, by omega, rfl⟩
      case measure => simp [intOf]; omega
    · obtain rfl : k = n := by omega
      go_wp2
      go_ret
      exact ⟨rfl, _, rfl⟩
set_option maxHeartbeats 4000000 in
theorem l_dy9 (s x : Int) (A A' : Option Addr) (n c c' : Nat) (xs : List Int) (w : World) (hn : n = xs.length) (hl : n ≤ LIM) (hR : R64 w A xs) (hR' : R64 w A' xs) :
    Calls Tryz.prog 58 #[.agg #[.int .i64 s, .slice A n c, .int .i64 x], .agg #[.int .i64 s, .slice A' n c', .int .i64 x]] w fun e w' => e = .returned (.bool true) ∧ Below w.heap.size w w' := by
  have HC := Hd.mk (fun w hR hR' => l_like A A' n c c' xs w hn hl hR hR')
  have HR := Hd.mk (And.intro hR hR')
  clear hn hl hR hR'
  go_enter Tryz.func58, Tryz.ntmps58
  go_wp2_with (go_at_call 132; (with_reducible refine (HC.out _ (HR.out.1.below (by (repeat (first | exact Below.refl _ _ | assumption | refine Below.drew ?_ | refine bdn ?_ | refine ba _ ?_ | refine bs0 _ _ ?_ ?_ | refine bs1 _ _ _ ?_ ?_ | refine bs2 _ _ _ _ ?_ ?_ | refine bs3 _ _ _ _ _ ?_ ?_ | refine bt3 (by assumption) ?_)))) (HR.out.2.below (by (repeat (first | exact Below.refl _ _ | assumption | refine Below.drew ?_ | refine bdn ?_ | refine ba _ ?_ | refine bs0 _ _ ?_ ?_ | refine bs1 _ _ _ ?_ ?_ | refine bs2 _ _ _ _ ?_ ?_ | refine bs3 _ _ _ _ _ ?_ ?_ | refine bt3 (by assumption) ?_))))).mono ?_); rintro e w' ⟨rfl, ⟨nd, rfl⟩⟩)
  go_ret
  exact ⟨rfl, by (repeat (first | exact Below.refl _ _ | assumption | refine Below.drew ?_ | refine bdn ?_ | refine ba _ ?_ | refine bs0 _ _ ?_ ?_ | refine bs1 _ _ _ ?_ ?_ | refine bs2 _ _ _ _ ?_ ?_ | refine bs3 _ _ _ _ _ ?_ ?_ | refine bt3 (by assumption) ?_))⟩
set_option maxHeartbeats 4000000 in
theorem l_fs9 (A A' : Option Addr) (n c c' : Nat) (xs : List Nat) (w : World) (hn : n = xs.length) (hl : n ≤ LIM) (hR : RF w A xs) (hR' : RF w A' xs) (hx : ∀ x ∈ xs, W x ∧ ¬ nan x) :
    Calls Tryz.prog 75 #[.slice A n c, .slice A' n c'] w fun e w' => e = .returned (.bool true) ∧ ∃ d, w' = w.drewN d := by
  have HR : Hd (RF w A xs ∧ RF w A' xs ∧ n = xs.length) := ⟨⟨hR, hR', hn⟩⟩
  have HF := Hd.mk (fun k (hk : k < xs.length) w => l_f9 (xs.getD k 0) w (hx _ (by rw [List.getD_eq_getElem?_getD, List.getElem?_eq_getElem hk]; exact List.getElem_mem hk)).1 (hx _ (by rw [List.getD_eq_getElem?_getD, List.getElem?_eq_getElem hk]; exact List.getElem_mem hk)).2)
  have hnI : (n : Int) ≤ 1099511627776 := by unfold LIM at hl; omega
  clear hn hl hR hR' hx
  go_enter Tryz.func75, Tryz.ntmps75
  go_wp2
  go_loopw [5] (fun i wr => ∃ (k d : Nat), i = .int .i64 k ∧ (k : Int) ≤ n ∧ wr = w.drewN d) (fun i _ => n - (intOf i).toNat)
  case atStart => exact ⟨0, 0, rfl, by omega, rfl⟩
  case round =>
    obtain ⟨k, d, rfl, hk, rfl⟩ := hrel
    by_cases h1 : k < n
    · obtain ⟨ad, hA, hcx⟩ := HR.out.1.at_ (k := k) (by have := HR.out.2.2; omega)
      subst hA
      obtain ⟨ad', hA, hcy⟩ := HR.out.2.1.at_ (k := k) (by have := HR.out.2.2; omega)
      subst hA
      have HL := Hd.mk (HF.out k (by have := HR.out.2.2; omega))
      generalize hex : xs.getD k 0 = x at *
      clear hex
      have hkI : (k : Int) < n := by omega
      go_wp2
      go_region_with ((go_at_call 28; (with_reducible refine (HL.out _).mono ?_); rintro e w' ⟨rfl, rfl⟩))
      all_goals
        go_wp2_with fail
        go_roundw
        case rel => exact ⟨k + 1, _, by go_num, by omega, rfl⟩
        case measure => simp [intOf]; omega
    · obtain rfl : k = n := by omega
      go_wp2
      go_ret
      exact ⟨rfl, _, rfl⟩
end Go.Proofs.YtflgjecpjaiecaaGreat
