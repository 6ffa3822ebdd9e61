/- Contracts: draws of two pairs; equality of pairs; plain facts on sums of pairs. -/
import Derived.Test.YtflgjecpjaiecaaGreatY4q2
import Derived.Test.YtflgjecpjaiecaaGreatQ4q2
import Derived.Test.YtflgjecpjaiecaaGreatA2q2
set_option linter.unusedVariables false
set_option linter.unusedSimpArgs false
namespace Go.Proofs.YtflgjecpjaiecaaGreat
open Go.RowKit Num Flt
structure DcH (w wk : World) : Prop where
  bel : Below w.heap.size w wk
  b2 : Blk wk w.heap.size 30 #[.float .f32 0, .float .f32 0]
  b3 : Blk wk (w.heap.size + 1) 30 #[.float .f32 0, .float .f32 0]
theorem DcH.start {w w1 : World} (hb : Below (Wz2 w).heap.size (Wz2 w) w1) : DcH w w1 := by
  have h2 : Blk (Wz2 w) w.heap.size 30 #[.float .f32 0, .float .f32 0] := (Blk.new _ _ _).alloc _
  have h3 : Blk (Wz2 w) (w.heap.size + 1) 30 #[.float .f32 0, .float .f32 0] := by
    have := Blk.new (w.alloc (Obj.cells #[.float .f32 0, .float .f32 0] 30)) 30 #[.float .f32 0, .float .f32 0]
    simpa [Wz2] using this
  exact ⟨bt3 hb (ba _ (ba _ (Below.refl _ _))), h2.below hb h2.lt, h3.below hb h3.lt⟩
set_option maxHeartbeats 20000000 in
theorem s_DrawMP (A : Option Addr) (n c : Nat) (xs : List Nat) (w : World) (hC : CodeP w w.heap.size A n xs) : Calls Tryz.prog 48 #[.slice A n c] w (RetPP w) := by
  have HC := Hd.mk hC; clear hC; (go_enter Tryz.func48, Tryz.ntmps48); (go_upto_region 2 with (go_at_call 43; (with_reducible refine (s_DrawAP A n c xs _ (HC.out.more' (by (repeat (first | exact Below.refl _ _ | assumption | refine Below.drew ?_ | refine bdn ?_ | refine ba _ ?_ | refine bs0 _ _ ?_ ?_ | refine bs1 _ _ _ ?_ ?_ | refine bs2 _ _ _ _ ?_ ?_ | refine bs3 _ _ _ _ _ ?_ ?_ | refine bt3 (by assumption) ?_))))).mono ?_); rintro e1 w1 ⟨a, b, c', d, rfl, ha, hb', hc, hd, hb⟩; have HP := Hd.mk (And.intro ha (And.intro hb' (And.intro hc hd))); have HS := Hd.mk (DcH.start hb); have r0 : w1.cell? _ = some (.float .f32 0) := HS.out.b2.cell 0; have r1 : w1.cell? _ = some (.float .f32 0) := HS.out.b2.cell 1; have q0 := HS.out.b2.frozen 0; have q1 := HS.out.b2.frozen 1; have z0 : w.heap.size < w1.heap.size := HS.out.b2.lt; have s0 : w1.cell? _ = some (.float .f32 0) := HS.out.b3.cell 0; have s1 : w1.cell? _ = some (.float .f32 0) := HS.out.b3.cell 1; have p0 := HS.out.b3.frozen 0; have p1 := HS.out.b3.frozen 1; have z1 : w.heap.size + 1 < w1.heap.size := HS.out.b3.lt; have hq1 : Below w.heap.size w w1 := HS.out.bel; clear hb ha hb' hc hd)); go_region; (go_wp2_with fail); refine bodyPost_ret (v := .tuple #[.agg #[.float .f32 a, .float .f32 b], .agg #[.float .f32 c', .float .f32 d]]) (by simp (maxDischargeDepth := 7) [results, Tryz.results48, go_sem, *]) rfl ⟨_, _, _, _, rfl, HP.out.1, HP.out.2.1, HP.out.2.2.1, HP.out.2.2.2, ?_⟩; (repeat (first | exact Below.refl _ _ | assumption | refine Below.drew ?_ | refine bdn ?_ | refine ba _ ?_ | refine bs0 _ _ ?_ ?_ | refine bs1 _ _ _ ?_ ?_ | refine bs2 _ _ _ _ ?_ ?_ | refine bs3 _ _ _ _ _ ?_ ?_ | refine bt3 (by assumption) ?_))
set_option maxHeartbeats 20000000 in
theorem s_DrawDP (A : Option Addr) (n c : Nat) (xs : List Nat) (w : World) (hC : CodeP w w.heap.size A n xs) : Calls Tryz.prog 51 #[.slice A n c] w (RetPP w) := by
  have HC := Hd.mk hC; clear hC; (go_enter Tryz.func51, Tryz.ntmps51); (go_upto_region 2 with (go_at_call 43; (with_reducible refine (s_DrawAP A n c xs _ (HC.out.more' (by (repeat (first | exact Below.refl _ _ | assumption | refine Below.drew ?_ | refine bdn ?_ | refine ba _ ?_ | refine bs0 _ _ ?_ ?_ | refine bs1 _ _ _ ?_ ?_ | refine bs2 _ _ _ _ ?_ ?_ | refine bs3 _ _ _ _ _ ?_ ?_ | refine bt3 (by assumption) ?_))))).mono ?_); rintro e1 w1 ⟨a, b, c', d, rfl, ha, hb', hc, hd, hb⟩; have HP := Hd.mk (And.intro ha (And.intro hb' (And.intro hc hd))); have HS := Hd.mk (DcH.start hb); have r0 : w1.cell? _ = some (.float .f32 0) := HS.out.b2.cell 0; have r1 : w1.cell? _ = some (.float .f32 0) := HS.out.b2.cell 1; have q0 := HS.out.b2.frozen 0; have q1 := HS.out.b2.frozen 1; have z0 : w.heap.size < w1.heap.size := HS.out.b2.lt; have s0 : w1.cell? _ = some (.float .f32 0) := HS.out.b3.cell 0; have s1 : w1.cell? _ = some (.float .f32 0) := HS.out.b3.cell 1; have p0 := HS.out.b3.frozen 0; have p1 := HS.out.b3.frozen 1; have z1 : w.heap.size + 1 < w1.heap.size := HS.out.b3.lt; have hq1 : Below w.heap.size w w1 := HS.out.bel; clear hb ha hb' hc hd)); go_region; (go_wp2_with fail); refine bodyPost_ret (v := .tuple #[.agg #[.float .f32 a, .float .f32 b], .agg #[.float .f32 c', .float .f32 d]]) (by simp (maxDischargeDepth := 7) [results, Tryz.results51, go_sem, *]) rfl ⟨_, _, _, _, rfl, HP.out.1, HP.out.2.1, HP.out.2.2.1, HP.out.2.2.2, ?_⟩; (repeat (first | exact Below.refl _ _ | assumption | refine Below.drew ?_ | refine bdn ?_ | refine ba _ ?_ | refine bs0 _ _ ?_ ?_ | refine bs1 _ _ _ ?_ ?_ | refine bs2 _ _ _ _ ?_ ?_ | refine bs3 _ _ _ _ _ ?_ ?_ | refine bt3 (by assumption) ?_))
set_option maxHeartbeats 4000000 in
theorem l_pair9 (a b : Nat) (w : World) (ha : W a) (hb : W b) (na : ¬ nan a) (nb : ¬ nan b) : Calls Tryz.prog 46 #[.agg #[.float .f32 a, .float .f32 b], .agg #[.float .f32 a, .float .f32 b]] w (RetV (.bool true) w) := by
  have H1 := Hd.mk (fun w => l_f9 a w ha na)
  have H2 := Hd.mk (fun w => l_f9 b w hb nb)
  clear ha hb na nb
  go_enter Tryz.func46, Tryz.ntmps46
  go_wp2_with (first | (go_at_call 28; (with_reducible refine (H1.out _).mono ?_); rintro e w' ⟨rfl, rfl⟩) | (go_at_call 28; (with_reducible refine (H2.out _).mono ?_); rintro e w' ⟨rfl, rfl⟩))
  go_ret
  exact ⟨rfl, by (repeat (first | exact Below.refl _ _ | assumption | refine Below.drew ?_ | refine bdn ?_ | refine ba _ ?_ | refine bs0 _ _ ?_ ?_ | refine bs1 _ _ _ ?_ ?_ | refine bs2 _ _ _ _ ?_ ?_ | refine bs3 _ _ _ _ _ ?_ ?_ | refine bt3 (by assumption) ?_))⟩
end Go.Proofs.YtflgjecpjaiecaaGreat
