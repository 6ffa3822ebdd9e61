/- Gi: S21 S22, merged. -/
import Derived.Test.YtflgjecpjaiecaaGreatGhq4
/- Contracts: exact sums of two floats, both sides. -/
set_option linter.unusedVariables false
set_option linter.unusedSimpArgs false
namespace Go.Proofs.YtflgjecpjaiecaaGreat
open Go.RowKit Num Flt
/-! sums and products of finite floats are words that are not NaN -/
theorem word_W (s : Bool) {r : Nat} (h : r ≤ 2139095040) : W (Ieee.single.word s r) ∧ ¬ nan (Ieee.single.word s r) := by
  have hw : Ieee.single.signWeight = 2147483648 := by decide
  unfold Ieee.Format.word W nan
  rw [hw]; cases s <;> simp <;> omega
theorem nearest_W (s : Bool) (m : Nat) (p : Int) : W (Ieee.single.nearest s m p) ∧ ¬ nan (Ieee.single.nearest s m p) := by
  unfold Ieee.Format.nearest
  dsimp only
  split
  · exact word_W _ (by decide)
  · exact word_W _ (Nat.le_trans (Nat.min_le_right ..) (by decide))
theorem read_f {x : Nat} (h : fin x) : ∃ s m p, Ieee.single.read x = .number s m p := ⟨_, _, _, read_fin Ieee.single (by decide) (show x % Ieee.single.signWeight < Ieee.single.infRung from h)⟩
theorem add_some {x y : Nat} (hx : fin x) (hy : fin y) : floatBits .add .f32 x y = some (addW x y) ∧ W (addW x y) ∧ ¬ nan (addW x y) := by
  obtain ⟨s, m, p, h1⟩ := read_f hx
  obtain ⟨t, n, q, h2⟩ := read_f hy
  have : ∃ a b c, floatBits .add .f32 x y = some (Ieee.single.nearest a b c) := by
    show ∃ a b c, Ieee.single.add x y = _
    unfold Ieee.Format.add
    rw [h1, h2]
    exact ⟨_, _, _, rfl⟩
  obtain ⟨a, b, c, h⟩ := this
  unfold addW
  rw [h]
  exact ⟨rfl, nearest_W a b c⟩
theorem rF_num (mode V : Int) : W (rF mode V) ∧ ¬ nan (rF mode V) := by
  unfold rF
  split
  · exact ⟨by unfold W; omega, by decide⟩
  · have := rgN_le mode (decide (V < 0)) V.natAbs
    unfold nan W; split <;> omega
/-- the float nearest to a number, 0 without a sign -/
def nrF (V : Int) : Nat := zp (rF 0 V)
theorem nrF_num (V : Int) : W (nrF V) ∧ ¬ nan (nrF V) := ⟨W_zp (rF_num 0 V).1, fun h => (rF_num 0 V).2 ((nan_zp _).1 h)⟩
theorem fv_bd2 {x y : Nat} (hx : fin x) (hy : fin y) : Bd (fv x + fv y) := by
  have h1 := fv_lt hx
  have h2 := fv_lt hy
  have h3 := FB_top
  unfold Bd; generalize TOP = T at *; generalize FB = F at *; omega
theorem fv_bd3 {x y z : Nat} (hx : fin x) (hy : fin y) (hz : fin z) : Bd (fv x + fv y - fv z) := by
  have h1 := fv_lt hx
  have h2 := fv_lt hy
  have h4 := fv_lt hz
  have h3 := FB_top
  unfold Bd; generalize TOP = T at *; generalize FB = F at *; omega
theorem s_RoundR (s : Int) (A : Option Addr) (n c : Nat) (e V mode : Int) (l : Nat) (w : World) (y : Nat) (f : Int) (hX : DyP w s A n c e V l) (hmd : 0 ≤ mode ∧ mode ≤ 4) (hy : rF mode V = y) (hf : rFl mode V = f) :
    Calls Tryz.prog 155 #[.agg #[.int .i64 s, .slice A n c, .int .i64 e], .int .i64 mode] w fun e w' => e = .returned (.tuple #[.float .f32 y, .int .i64 f]) ∧ Below w.heap.size w w' := by
  subst hy hf; exact s_Round s A n c e V mode l w hX hmd
theorem n_RoundR (i : Nat) (e V mode : Int) (l : Nat) (w : World) (y : Nat) (f : Int) (hX : NuP w i e V l) (hmd : 0 ≤ mode ∧ mode ≤ 4) (hy : rF mode V = y) (hf : rFl mode V = f) :
    Calls Tryz.prog 117 #[.agg #[.pointer (some ⟨i, 0, none⟩), .int .i64 e], .int .i64 mode] w fun e w' => e = .returned (.tuple #[.float .f32 y, .int .i64 f]) ∧ Below w.heap.size w w' := by
  subst hy hf; exact n_Round i e V mode l w hX hmd
def RetV (v : Value) (w : World) (e : Ending) (w' : World) : Prop := e = .returned v ∧ Below w.heap.size w w'
set_option maxHeartbeats 4000000 in
theorem s_Near (s : Int) (A : Option Addr) (n c : Nat) (e V : Int) (l : Nat) (w : World) (hX : DyP w s A n c e V l) :
    Calls Tryz.prog 152 #[.agg #[.int .i64 s, .slice A n c, .int .i64 e]] w (RetV (.float .f32 (nrF V)) w) := by
  have HX : Hd (DyP w s A n c e V l) := ⟨hX⟩
  have h := o_eq0 (rF 0 V) (rF_num 0 V).1
  unfold nrF
  clear hX
  generalize hy : rF 0 V = y at *
  generalize hf : rFl 0 V = f at *
  have HY : Hd (rF 0 V = y ∧ rFl 0 V = f) := ⟨⟨hy, hf⟩⟩
  clear hy hf
  by_cases hz : y = 0 ∨ y = 2147483648
  · have h' : (FloatKind.f32.format.order y 0 == some .eq) = true := by rw [h]; simpa using hz
    have HZ : Hd (zp y = 0) := ⟨by unfold zp; rcases hz with rfl | rfl <;> simp⟩
    rw [HZ.out]
    clear h hz
    go_enter Tryz.func152, Tryz.ntmps152
    go_wp2_with (go_at_call 155; (with_reducible refine (s_RoundR s A n c e V 0 l _ y f (HX.out.below (by (repeat (first | exact Below.refl _ _ | assumption | refine Below.drew ?_ | refine bdn ?_ | refine ba _ ?_ | refine bs0 _ _ ?_ ?_ | refine bs1 _ _ _ ?_ ?_ | refine bs2 _ _ _ _ ?_ ?_ | refine bs3 _ _ _ _ _ ?_ ?_ | refine bt3 (by assumption) ?_)))) (by decide) HY.out.1 HY.out.2).mono ?_); rintro e' w1 ⟨rfl, hb⟩; have HB : Hd (Below w.heap.size w w1) := ⟨bt3 hb (by (repeat (first | exact Below.refl _ _ | assumption | refine Below.drew ?_ | refine bdn ?_ | refine ba _ ?_ | refine bs0 _ _ ?_ ?_ | refine bs1 _ _ _ ?_ ?_ | refine bs2 _ _ _ _ ?_ ?_ | refine bs3 _ _ _ _ _ ?_ ?_ | refine bt3 (by assumption) ?_)))⟩; clear hb)
    go_ret
    exact ⟨rfl, HB.out⟩
  · have h' : (FloatKind.f32.format.order y 0 == some .eq) = false := by rw [h]; simpa using hz
    have HZ : Hd (zp y = y) := ⟨by unfold zp; rw [if_neg (by omega)]⟩
    rw [HZ.out]
    clear h hz
    go_enter Tryz.func152, Tryz.ntmps152
    go_wp2_with (go_at_call 155; (with_reducible refine (s_RoundR s A n c e V 0 l _ y f (HX.out.below (by (repeat (first | exact Below.refl _ _ | assumption | refine Below.drew ?_ | refine bdn ?_ | refine ba _ ?_ | refine bs0 _ _ ?_ ?_ | refine bs1 _ _ _ ?_ ?_ | refine bs2 _ _ _ _ ?_ ?_ | refine bs3 _ _ _ _ _ ?_ ?_ | refine bt3 (by assumption) ?_)))) (by decide) HY.out.1 HY.out.2).mono ?_); rintro e' w1 ⟨rfl, hb⟩; have HB : Hd (Below w.heap.size w w1) := ⟨bt3 hb (by (repeat (first | exact Below.refl _ _ | assumption | refine Below.drew ?_ | refine bdn ?_ | refine ba _ ?_ | refine bs0 _ _ ?_ ?_ | refine bs1 _ _ _ ?_ ?_ | refine bs2 _ _ _ _ ?_ ?_ | refine bs3 _ _ _ _ _ ?_ ?_ | refine bt3 (by assumption) ?_)))⟩; clear hb)
    go_ret
    exact ⟨rfl, HB.out⟩
end Go.Proofs.YtflgjecpjaiecaaGreat
/- Contracts: exact sums of two floats, both sides. -/
set_option linter.unusedVariables false
set_option linter.unusedSimpArgs false
namespace Go.Proofs.YtflgjecpjaiecaaGreat
open Go.RowKit Num Flt
theorem NuF.neg {m e V : Int} {l : Nat} (h : NuF m e V l) : NuF (-m) e (-V) l :=
  ⟨by rw [h.val]; unfold dv; rw [Int.neg_mul], h.lo, h.lsc, h.hi, h.bd.neg⟩
theorem NuF.bdm {m e V : Int} {l : Nat} (h : NuF m e V l) : Bd m := dv_bd (e := e) (by rw [← h.val]; exact h.bd)
theorem NuP.more {w : World} {g : Nat} {e V : Int} {l l' : Nat} (h : NuP w g e V l) (hl : l ≤ l') (hs : l' ≤ SC) : NuP w g e V l' := by
  obtain ⟨m, h1, h2⟩ := h; exact ⟨m, h1, h2.more hl hs⟩
/-- what the middle of a function of a number holds -/
structure N1H (w wb : World) (g : Nat) (e : Int) : Prop where
  bel : Below w.heap.size w wb
  siz : w.heap.size + 1 + 1 ≤ wb.heap.size
  b0 : Blk wb w.heap.size 113 #[.pointer (some ⟨g, 0, none⟩), .int .i64 e]
  b1 : Blk wb (w.heap.size + 1) 113 #[.pointer none, .int .i64 0]
abbrev N1 (w : World) (g : Nat) (e : Int) : World := (w.alloc (Obj.cells #[.pointer (some ⟨g, 0, none⟩), .int .i64 e] 113)).alloc (Obj.cells #[.pointer none, .int .i64 0] 113)
theorem N1H.start (w : World) (g : Nat) (e : Int) : N1H w (N1 w g e) g e := by
  refine ⟨ba _ (ba _ (Below.refl _ _)), by simp [N1], (Blk.new _ _ _).alloc _, ?_⟩
  have := Blk.new (w.alloc (Obj.cells #[.pointer (some ⟨g, 0, none⟩), .int .i64 e] 113)) 113 #[.pointer none, .int .i64 0]
  simpa [N1] using this
theorem N1H.below {w wb w' : World} {g : Nat} {e : Int} (h : N1H w wb g e) (hb : Below wb.heap.size wb w') : N1H w w' g e :=
  ⟨bt3 hb h.bel, Nat.le_trans h.siz hb.size, h.b0.below hb h.b0.lt, h.b1.below hb h.b1.lt⟩
set_option maxHeartbeats 4000000 in
theorem n_Neg (g : Nat) (e V : Int) (l : Nat) (w : World) (hA : NuP w g e V l) :
    Calls Tryz.prog 214 #[.agg #[.pointer (some ⟨g, 0, none⟩), .int .i64 e]] w (RetN (-V) l w) := by
  obtain ⟨m, hB, fB⟩ := hA
  have HNF : Hd (NuF (-m) e (-V) l ∧ Bd (-m)) := ⟨⟨fB.neg, fB.bdm.neg⟩⟩
  have HH : Hd (N1H w (N1 w g e) g e) := ⟨N1H.start ..⟩
  have HB : Hd (Big (N1 w g e) g m) := ⟨hB.below HH.out.bel⟩
  clear hB fB
  go_enter Tryz.func214, Tryz.ntmps214
  go_wp2_with fail
  unfold N1 at HH HB
  generalize hwb : (w.alloc (Obj.cells #[.pointer (some ⟨g, 0, none⟩), .int .i64 e] 113)).alloc (Obj.cells #[.pointer none, .int .i64 0] 113) = wb at *
  clear hwb
  have hs1 := HH.out.siz
  have c0 : wb.cell? _ = some (.pointer (some ⟨g, 0, none⟩)) := HH.out.b0.cell 0
  have c1 : wb.cell? _ = some (.int .i64 e) := HH.out.b0.cell 1
  have n1 : ¬ (w.heap.size + 1 = w.heap.size) := by omega
  have ne0 := World.new_ne wb ⟨w.heap.size, 0, none⟩ c0
  go_region_held3 (fun w' => w'.cell? ⟨w.heap.size, 0, none⟩ = some (.pointer (some ⟨g, 0, none⟩)) ∧ w'.cell? ⟨w.heap.size, 1, none⟩ = some (.int .i64 e)) ((first | assumption | (exact keep2 hq ⟨c0, c1⟩) | go_keep | (refine ⟨?_, ?_⟩ <;> go_simp) | (constructor <;> go_simp)))
    (first | (go_at_call 257; (with_reducible refine (m_NegZ _ g m _ (by first | exact IntB.new _ | exact (IntB.new _).drew) (HB.out.below (by (repeat (first | exact Below.refl _ _ | assumption | refine Below.drew ?_ | refine bdn ?_ | refine ba _ ?_ | refine bs0 _ _ ?_ ?_ | refine bs1 _ _ _ ?_ ?_ | refine bs2 _ _ _ _ ?_ ?_ | refine bs3 _ _ _ _ _ ?_ ?_ | refine bt3 (by assumption) ?_)))) HNF.out.2).mono ?_); rintro e5 w5 ⟨rfl, hB5, hg5⟩; have hq : Below wb.heap.size wb w5 := Below.grown (by (repeat (first | exact Below.refl _ _ | assumption | refine Below.drew ?_ | refine bdn ?_ | refine ba _ ?_ | refine bs0 _ _ ?_ ?_ | refine bs1 _ _ _ ?_ ?_ | refine bs2 _ _ _ _ ?_ ?_ | refine bs3 _ _ _ _ _ ?_ ?_ | refine bt3 (by assumption) ?_))) hg5 (le_alloc _ (Nat.le_refl _)) (fun i hi => by cases hi; exact Nat.le_refl _); have HR : Hd (Big w5 _ (-m)) := ⟨hB5⟩; have HK := Hd.mk (HH.out.below hq); have r0 := HK.out.b1.cell 0; have r1 := HK.out.b1.cell 1; have f0 := HK.out.b1.frozen 0; have f1 := HK.out.b1.frozen 1; clear hB5 hg5))
  go_wp2_with fail
  refine bodyPost_ret (v := .agg #[.pointer (some ⟨wb.heap.size, 0, none⟩), .int .i64 e]) (by simp (maxDischargeDepth := 7) [results, Tryz.results214, go_sem, *]) rfl ⟨_, e, rfl, (NuP.of HR.out HNF.out.1).set2 HK.out.b1 (by decide) (by decide) _ _, ?_⟩
  exact ((bt3 hq HH.out.bel).setCell (by simp) _).setCell (by simp) _
set_option maxHeartbeats 4000000 in
theorem n_Sub (g g' : Nat) (e e' V U : Int) (l : Nat) (w : World) (hA : NuP w g e V l) (hB : NuP w g' e' U l) (hbd : Bd (V - U)) :
    Calls Tryz.prog 136 #[.agg #[.pointer (some ⟨g, 0, none⟩), .int .i64 e], .agg #[.pointer (some ⟨g', 0, none⟩), .int .i64 e']] w (RetN (V - U) l w) := by
  have HBD : Hd (Bd (V + -U)) := ⟨by rw [← Int.sub_eq_add_neg]; exact hbd⟩
  rw [Int.sub_eq_add_neg]
  have HH : Hd (N3H w (N3 w g e g' e') g e g' e') := ⟨N3H.start ..⟩
  have HA : Hd (NuP (N3 w g e g' e') g e V l) := ⟨hA.below (N3.bel ..)⟩
  have HB : Hd (NuP (N3 w g e g' e') g' e' U l) := ⟨hB.below (N3.bel ..)⟩
  clear hA hB hbd
  go_enter Tryz.func136, Tryz.ntmps136
  go_wp2_with fail
  unfold N3 at HH HA HB
  generalize hwb : ((w.alloc (Obj.cells #[.pointer (some ⟨g, 0, none⟩), .int .i64 e] 113)).alloc (Obj.cells #[.pointer (some ⟨g', 0, none⟩), .int .i64 e'] 113)).alloc (Obj.cells #[.pointer none, .int .i64 0] 113) = wb at *
  clear hwb
  have hs1 := HH.out.siz
  have c0 : wb.cell? _ = some (.pointer (some ⟨g, 0, none⟩)) := HH.out.b0.cell 0
  have c1 : wb.cell? _ = some (.int .i64 e) := HH.out.b0.cell 1
  have d0 : wb.cell? _ = some (.pointer (some ⟨g', 0, none⟩)) := HH.out.b1.cell 0
  have d1 : wb.cell? _ = some (.int .i64 e') := HH.out.b1.cell 1
  have n1 : ¬ (w.heap.size + 1 + 1 = w.heap.size) := by omega
  have n2 : ¬ (w.heap.size + 1 + 1 = w.heap.size + 1) := by omega
  go_region_held3 (fun w' => w'.cell? ⟨w.heap.size, 0, none⟩ = some (.pointer (some ⟨g, 0, none⟩)) ∧ w'.cell? ⟨w.heap.size, 1, none⟩ = some (.int .i64 e) ∧ w'.cell? ⟨w.heap.size + 1, 0, none⟩ = some (.pointer (some ⟨g', 0, none⟩)) ∧ w'.cell? ⟨w.heap.size + 1, 1, none⟩ = some (.int .i64 e')) ((first | assumption | (exact keep4 hq ⟨c0, c1, d0, d1⟩) | go_keep | (refine ⟨?_, ?_, ?_, ?_⟩ <;> go_simp) | (constructor <;> go_simp)))
    (first | (go_at_call 214; (with_reducible refine (n_Neg g' e' U l _ (HB.out.below (by (repeat (first | exact Below.refl _ _ | assumption | refine Below.drew ?_ | refine bdn ?_ | refine ba _ ?_ | refine bs0 _ _ ?_ ?_ | refine bs1 _ _ _ ?_ ?_ | refine bs2 _ _ _ _ ?_ ?_ | refine bs3 _ _ _ _ _ ?_ ?_ | refine bt3 (by assumption) ?_))))).mono ?_); rintro e3 w3 ⟨gn, en, rfl, hN, hb⟩; have hq : Below wb.heap.size wb w3 := bt3 hb (by (repeat (first | exact Below.refl _ _ | assumption | refine Below.drew ?_ | refine bdn ?_ | refine ba _ ?_ | refine bs0 _ _ ?_ ?_ | refine bs1 _ _ _ ?_ ?_ | refine bs2 _ _ _ _ ?_ ?_ | refine bs3 _ _ _ _ _ ?_ ?_ | refine bt3 (by assumption) ?_))); have HN : Hd (NuP w3 gn en (-U) l) := ⟨hN⟩; clear hN hb) | (go_at_call 113; (with_reducible refine (n_Add g gn e en V (-U) l _ (HA.out.below (by (repeat (first | exact Below.refl _ _ | assumption | refine Below.drew ?_ | refine bdn ?_ | refine ba _ ?_ | refine bs0 _ _ ?_ ?_ | refine bs1 _ _ _ ?_ ?_ | refine bs2 _ _ _ _ ?_ ?_ | refine bs3 _ _ _ _ _ ?_ ?_ | refine bt3 (by assumption) ?_)))) (HN.out.below (by (repeat (first | exact Below.refl _ _ | assumption | refine Below.drew ?_ | refine bdn ?_ | refine ba _ ?_ | refine bs0 _ _ ?_ ?_ | refine bs1 _ _ _ ?_ ?_ | refine bs2 _ _ _ _ ?_ ?_ | refine bs3 _ _ _ _ _ ?_ ?_ | refine bt3 (by assumption) ?_)))) HBD.out).mono ?_); rintro e4 w4 ⟨gr, er, rfl, hN, hb⟩; replace hq : Below wb.heap.size wb w4 := bt3 hb (by (repeat (first | exact Below.refl _ _ | assumption | refine Below.drew ?_ | refine bdn ?_ | refine ba _ ?_ | refine bs0 _ _ ?_ ?_ | refine bs1 _ _ _ ?_ ?_ | refine bs2 _ _ _ _ ?_ ?_ | refine bs3 _ _ _ _ _ ?_ ?_ | refine bt3 (by assumption) ?_))); have HR : Hd (NuP w4 gr er (V + -U) l) := ⟨hN⟩; have HK := Hd.mk (HH.out.below hq); have r0 := HK.out.b2.cell 0; have r1 := HK.out.b2.cell 1; have f0 := HK.out.b2.frozen 0; have f1 := HK.out.b2.frozen 1; clear hN hb))
  go_wp2_with fail
  refine bodyPost_ret (v := .agg #[.pointer (some ⟨gr, 0, none⟩), .int .i64 er]) (by simp (maxDischargeDepth := 7) [results, Tryz.results136, go_sem, *]) rfl ⟨gr, er, rfl, HR.out.set2 HK.out.b2 (by decide) (by decide) _ _, ?_⟩
  exact ((bt3 hq HH.out.bel).setCell (by simp; omega) _).setCell (by simp; omega) _
set_option maxHeartbeats 4000000 in
theorem m_Rest (g : Nat) (e V : Int) (h l : Nat) (w : World) (hA : NuP w g e V l) (hl : 149 ≤ l) (hls : l ≤ SC) (hh : W h) (hf : fin h) (hbd : Bd (V - fv h)) :
    Calls Tryz.prog 202 #[.agg #[.pointer (some ⟨g, 0, none⟩), .int .i64 e], .float .f32 h] w (RetV (.tuple #[.float .f32 (nrF (V - fv h)), .bool (rFl 0 (V - fv h) == 0)]) w) := by
  have HA : Hd (NuP w g e V l) := ⟨hA⟩
  have HX : Hd (W h ∧ fin h ∧ 149 ≤ l ∧ l ≤ SC ∧ Bd (V - fv h)) := ⟨⟨hh, hf, hl, hls, hbd⟩⟩
  have HB0 : Hd (Below w.heap.size w (w.alloc (Obj.cells #[.pointer (some ⟨g, 0, none⟩), .int .i64 e] 113))) := ⟨ba _ (Below.refl _ _)⟩
  have HK : Hd (Blk (w.alloc (Obj.cells #[.pointer (some ⟨g, 0, none⟩), .int .i64 e] 113)) w.heap.size 113 #[.pointer (some ⟨g, 0, none⟩), .int .i64 e]) := ⟨Blk.new _ _ _⟩
  unfold nrF
  generalize hy : rF 0 (V - fv h) = y at *
  generalize hff : rFl 0 (V - fv h) = f at *
  have HY : Hd (rF 0 (V - fv h) = y ∧ rFl 0 (V - fv h) = f ∧ W y) := ⟨⟨hy, hff, by rw [← hy]; exact (rF_num _ _).1⟩⟩
  clear hA hl hls hh hf hbd hy hff
  go_enter Tryz.func202, Tryz.ntmps202
  go_wp2_with fail
  generalize hwb : w.alloc (Obj.cells #[.pointer (some ⟨g, 0, none⟩), .int .i64 e] 113) = wb at *
  clear hwb
  have c0 : wb.cell? _ = some (.pointer (some ⟨g, 0, none⟩)) := HK.out.cell 0
  have c1 : wb.cell? _ = some (.int .i64 e) := HK.out.cell 1
  go_region_held3 (fun w' => w'.cell? ⟨w.heap.size, 0, none⟩ = some (.pointer (some ⟨g, 0, none⟩)) ∧ w'.cell? ⟨w.heap.size, 1, none⟩ = some (.int .i64 e)) ((first | assumption | (exact keep2 hq ⟨c0, c1⟩) | go_keep | (refine ⟨?_, ?_⟩ <;> go_simp) | (constructor <;> go_simp)))
    (first | (go_at_call 111; (with_reducible refine (n_Of h _ HX.out.1 HX.out.2.1).mono ?_); rintro e3 w3 ⟨gn, en, rfl, hN, hb⟩; have hq : Below wb.heap.size wb w3 := bt3 hb (by (repeat (first | exact Below.refl _ _ | assumption | refine Below.drew ?_ | refine bdn ?_ | refine ba _ ?_ | refine bs0 _ _ ?_ ?_ | refine bs1 _ _ _ ?_ ?_ | refine bs2 _ _ _ _ ?_ ?_ | refine bs3 _ _ _ _ _ ?_ ?_ | refine bt3 (by assumption) ?_))); have HN : Hd (NuP w3 gn en (fv h) l) := ⟨hN.more HX.out.2.2.1 HX.out.2.2.2.1⟩; clear hN hb) | (go_at_call 136; (with_reducible refine (n_Sub g gn e en V (fv h) l _ (HA.out.below (bt3 (by (repeat (first | exact Below.refl _ _ | assumption | refine Below.drew ?_ | refine bdn ?_ | refine ba _ ?_ | refine bs0 _ _ ?_ ?_ | refine bs1 _ _ _ ?_ ?_ | refine bs2 _ _ _ _ ?_ ?_ | refine bs3 _ _ _ _ _ ?_ ?_ | refine bt3 (by assumption) ?_))) HB0.out)) (HN.out.below (by (repeat (first | exact Below.refl _ _ | assumption | refine Below.drew ?_ | refine bdn ?_ | refine ba _ ?_ | refine bs0 _ _ ?_ ?_ | refine bs1 _ _ _ ?_ ?_ | refine bs2 _ _ _ _ ?_ ?_ | refine bs3 _ _ _ _ _ ?_ ?_ | refine bt3 (by assumption) ?_)))) HX.out.2.2.2.2).mono ?_); rintro e4 w4 ⟨gr, er, rfl, hN, hb⟩; replace hq : Below wb.heap.size wb w4 := bt3 hb (by (repeat (first | exact Below.refl _ _ | assumption | refine Below.drew ?_ | refine bdn ?_ | refine ba _ ?_ | refine bs0 _ _ ?_ ?_ | refine bs1 _ _ _ ?_ ?_ | refine bs2 _ _ _ _ ?_ ?_ | refine bs3 _ _ _ _ _ ?_ ?_ | refine bt3 (by assumption) ?_))); have HR : Hd (NuP w4 gr er (V - fv h) l) := ⟨hN⟩; clear hN hb) | (go_at_call 117; (with_reducible refine (n_RoundR gr er (V - fv h) 0 l _ y f (HR.out.below (by (repeat (first | exact Below.refl _ _ | assumption | refine Below.drew ?_ | refine bdn ?_ | refine ba _ ?_ | refine bs0 _ _ ?_ ?_ | refine bs1 _ _ _ ?_ ?_ | refine bs2 _ _ _ _ ?_ ?_ | refine bs3 _ _ _ _ _ ?_ ?_ | refine bt3 (by assumption) ?_)))) (by decide) HY.out.1 HY.out.2.1).mono ?_); rintro e5 w5 ⟨rfl, hb⟩; replace hq : Below wb.heap.size wb w5 := bt3 hb (by (repeat (first | exact Below.refl _ _ | assumption | refine Below.drew ?_ | refine bdn ?_ | refine ba _ ?_ | refine bs0 _ _ ?_ ?_ | refine bs1 _ _ _ ?_ ?_ | refine bs2 _ _ _ _ ?_ ?_ | refine bs3 _ _ _ _ _ ?_ ?_ | refine bt3 (by assumption) ?_))); clear hb))
  go_wp2_with (go_at_call 137; (with_reducible refine (i_plain y _ HY.out.2.2).mono ?_); rintro e w' ⟨rfl, rfl⟩)
  go_ret2
  exact ⟨rfl, bt3 (by (repeat (first | exact Below.refl _ _ | assumption | refine Below.drew ?_ | refine bdn ?_ | refine ba _ ?_ | refine bs0 _ _ ?_ ?_ | refine bs1 _ _ _ ?_ ?_ | refine bs2 _ _ _ _ ?_ ?_ | refine bs3 _ _ _ _ _ ?_ ?_ | refine bt3 (by assumption) ?_))) HB0.out⟩
def smF (x y : Nat) : Nat := nrF (fv x + fv y - fv (addW x y))
abbrev Wp (w : World) : World := w.alloc (Obj.cells #[.float .f32 0, .float .f32 0] 30)
theorem Wp.bel (w : World) : Below w.heap.size w (Wp w) := ba _ (Below.refl _ _)
theorem Wp.blk (w : World) : Blk (Wp w) w.heap.size 30 #[.float .f32 0, .float .f32 0] := Blk.new _ _ _
theorem Wp.lt (w : World) : w.heap.size < (Wp w).heap.size := by simp [Wp]
set_option maxHeartbeats 4000000 in
theorem s_SumY (x y : Nat) (w : World) (hx : W x) (hy : W y) (fx : fin x) (fy : fin y) (fh : fin (addW x y)) :
    Calls Tryz.prog 126 #[.float .f32 x, .float .f32 y] w (RetV (.tuple #[.agg #[.float .f32 (addW x y), .float .f32 (smF x y)], .bool true]) w) := by
  have HX : Hd (W x ∧ fin x ∧ W y ∧ fin y ∧ W (addW x y) ∧ fin (addW x y) ∧ Bd (fv x + fv y) ∧ Bd (fv x + fv y - fv (addW x y))) := ⟨⟨hx, fx, hy, fy, addW_W x y, fh, fv_bd2 fx fy, fv_bd3 fx fy fh⟩⟩
  have k := fun w => run_float_arith (P := Tryz.prog) w .add 22 .f32 x y (addW x y) (addW_eq fx fy)
  have p1 : decide (fin (addW x y)) = true := decide_eq_true fh
  unfold smF
  clear hx hy fx fy fh
  generalize addW x y = h at *
  go_enter Tryz.func126, Tryz.ntmps126
  go_wp2_with (first | (go_at_call 125; (with_reducible refine (s_Finite h _).mono ?_); rintro e w' ⟨rfl, ⟨nd, rfl⟩⟩) | (go_at_call 153; (with_reducible refine (s_DOf x _ HX.out.1 HX.out.2.1).mono ?_); rintro e3 w3 ⟨s3, A3, n3, c3, x3, rfl, hD, hb⟩; have hq : Below (Wp w).heap.size (Wp w) w3 := bt3 hb (by (repeat (first | exact Below.refl _ _ | assumption | refine Below.drew ?_ | refine bdn ?_ | refine ba _ ?_ | refine bs0 _ _ ?_ ?_ | refine bs1 _ _ _ ?_ ?_ | refine bs2 _ _ _ _ ?_ ?_ | refine bs3 _ _ _ _ _ ?_ ?_ | refine bt3 (by assumption) ?_))); have H3 : Hd (DyP w3 s3 A3 n3 c3 x3 (fv x) 149) := ⟨hD.dp⟩; clear hD hb) | (go_at_call 153; (with_reducible refine (s_DOf y _ HX.out.2.2.1 HX.out.2.2.2.1).mono ?_); rintro e4 w4 ⟨s4, A4, n4, c4, x4, rfl, hD, hb⟩; replace hq : Below (Wp w).heap.size (Wp w) w4 := bt3 hb hq; replace H3 : Hd (DyP w4 s3 A3 n3 c3 x3 (fv x) 149) := ⟨H3.out.below hb⟩; have H4 : Hd (DyP w4 s4 A4 n4 c4 x4 (fv y) 149) := ⟨hD.dp⟩; clear hD hb) | (go_at_call 203; (with_reducible refine (s_DAdd s3 s4 x3 x4 (fv x) (fv y) A3 A4 n3 n4 c3 c4 149 _ H3.out H4.out HX.out.2.2.2.2.2.2.1).mono ?_); rintro e5 w5 ⟨s5, A5, n5, c5, x5, rfl, hD, hb⟩; replace hq : Below (Wp w).heap.size (Wp w) w5 := bt3 hb hq; have H5 : Hd (DyP w5 s5 A5 n5 c5 x5 (fv x + fv y) 149) := ⟨hD.dp⟩; clear hD hb) | (go_at_call 153; (with_reducible refine (s_DOf h _ HX.out.2.2.2.2.1 HX.out.2.2.2.2.2.1).mono ?_); rintro e6 w6 ⟨s6, A6, n6, c6, x6, rfl, hD, hb⟩; replace hq : Below (Wp w).heap.size (Wp w) w6 := bt3 hb hq; replace H5 : Hd (DyP w6 s5 A5 n5 c5 x5 (fv x + fv y) 149) := ⟨H5.out.below hb⟩; have H6 : Hd (DyP w6 s6 A6 n6 c6 x6 (fv h) 149) := ⟨hD.dp⟩; clear hD hb) | (go_at_call 142; (with_reducible refine (s_DSub s5 s6 x5 x6 (fv x + fv y) (fv h) A5 A6 n5 n6 c5 c6 149 _ H5.out H6.out HX.out.2.2.2.2.2.2.2).mono ?_); rintro e7 w7 ⟨s7, A7, n7, c7, x7, rfl, hD, hb⟩; replace hq : Below (Wp w).heap.size (Wp w) w7 := bt3 hb hq; have H7 : Hd (DyP w7 s7 A7 n7 c7 x7 (fv x + fv y - fv h) 149) := ⟨hD.dp⟩; clear hD hb) | (go_at_call 152; (with_reducible refine (s_Near s7 A7 n7 c7 x7 _ 149 _ H7.out).mono ?_); rintro e9 w9 ⟨rfl, hb⟩; replace hq : Below (Wp w).heap.size (Wp w) w9 := bt3 hb hq; clear hb; have HK := Hd.mk ((Wp.blk w).below hq (Wp.lt w)); have r0 := HK.out.cell 0; have r1 := HK.out.cell 1; have q0 := HK.out.frozen 0; have q1 := HK.out.frozen 1; have HB : Hd (Below w.heap.size w w9) := ⟨bt3 hq (Wp.bel w)⟩; clear hq))
  refine bodyPost_ret (v := .tuple #[.agg #[.float .f32 h, .float .f32 (nrF (fv x + fv y - fv h))], .bool true]) (by simp (maxDischargeDepth := 7) [results, Tryz.results126, go_sem, *]) rfl ⟨rfl, ?_⟩
  exact (HB.out.setCell (Nat.le_refl _) _).setCell (Nat.le_refl _) _
set_option maxHeartbeats 4000000 in
theorem s_SumN (x y : Nat) (w : World) (fx : fin x) (fy : fin y) (fh : ¬ fin (addW x y)) :
    Calls Tryz.prog 126 #[.float .f32 x, .float .f32 y] w (RetV (.tuple #[.agg #[.float .f32 0, .float .f32 0], .bool false]) w) := by
  have k := fun w => run_float_arith (P := Tryz.prog) w .add 22 .f32 x y (addW x y) (addW_eq fx fy)
  have p1 : decide (fin (addW x y)) = false := decide_eq_false fh
  clear fx fy fh
  generalize addW x y = h at *
  go_enter Tryz.func126, Tryz.ntmps126
  go_wp2_with (go_at_call 125; (with_reducible refine (s_Finite h _).mono ?_); rintro e w' ⟨rfl, ⟨nd, rfl⟩⟩)
  refine bodyPost_ret (v := .tuple #[.agg #[.float .f32 0, .float .f32 0], .bool false]) (by simp (maxDischargeDepth := 7) [results, Tryz.results126, go_sem, *]) rfl ⟨rfl, ?_⟩
  (repeat (first | exact Below.refl _ _ | assumption | refine Below.drew ?_ | refine bdn ?_ | refine ba _ ?_ | refine bs0 _ _ ?_ ?_ | refine bs1 _ _ _ ?_ ?_ | refine bs2 _ _ _ _ ?_ ?_ | refine bs3 _ _ _ _ _ ?_ ?_ | refine bt3 (by assumption) ?_))
set_option maxHeartbeats 4000000 in
theorem i_SumY (x y : Nat) (w : World) (hx : W x) (hy : W y) (fx : fin x) (fy : fin y) (fh : fin (addW x y)) :
    Calls Tryz.prog 124 #[.float .f32 x, .float .f32 y] w (RetV (.tuple #[.agg #[.float .f32 (addW x y), .float .f32 (smF x y)], .bool true]) w) := by
  have HX : Hd (W x ∧ fin x ∧ W y ∧ fin y ∧ W (addW x y) ∧ fin (addW x y) ∧ Bd (fv x + fv y) ∧ Bd (fv x + fv y - fv (addW x y)) ∧ 149 ≤ SC) := ⟨⟨hx, fx, hy, fy, addW_W x y, fh, fv_bd2 fx fy, fv_bd3 fx fy fh, by unfold SC; omega⟩⟩
  have k := fun w => run_float_arith (P := Tryz.prog) w .add 22 .f32 x y (addW x y) (addW_eq fx fy)
  have p1 : decide (fin (addW x y)) = true := decide_eq_true fh
  unfold smF
  clear hx hy fx fy fh
  generalize addW x y = h at *
  go_enter Tryz.func124, Tryz.ntmps124
  go_wp2_with (first | (go_at_call 129; (with_reducible refine (i_isFinite h _ HX.out.2.2.2.2.1).mono ?_); rintro e w' ⟨rfl, rfl⟩) | (go_at_call 111; (with_reducible refine (n_Of x _ HX.out.1 HX.out.2.1).mono ?_); rintro e3 w3 ⟨g3, x3, rfl, hN, hb⟩; have hq : Below (Wp w).heap.size (Wp w) w3 := bt3 hb (by (repeat (first | exact Below.refl _ _ | assumption | refine Below.drew ?_ | refine bdn ?_ | refine ba _ ?_ | refine bs0 _ _ ?_ ?_ | refine bs1 _ _ _ ?_ ?_ | refine bs2 _ _ _ _ ?_ ?_ | refine bs3 _ _ _ _ _ ?_ ?_ | refine bt3 (by assumption) ?_))); have H3 := Hd.mk hN; clear hN hb) | (go_at_call 111; (with_reducible refine (n_Of y _ HX.out.2.2.1 HX.out.2.2.2.1).mono ?_); rintro e4 w4 ⟨g4, x4, rfl, hN, hb⟩; replace hq : Below (Wp w).heap.size (Wp w) w4 := bt3 hb hq; replace H3 := Hd.mk (H3.out.below hb); have H4 := Hd.mk hN; clear hN hb) | (go_at_call 113; (with_reducible refine (n_Add g3 g4 x3 x4 (fv x) (fv y) 149 _ H3.out H4.out HX.out.2.2.2.2.2.2.1).mono ?_); rintro e5 w5 ⟨g5, x5, rfl, hN, hb⟩; replace hq : Below (Wp w).heap.size (Wp w) w5 := bt3 hb hq; have H5 := Hd.mk hN; clear hN hb) | (go_at_call 202; (with_reducible refine (m_Rest g5 x5 (fv x + fv y) h 149 _ H5.out (Nat.le_refl _) HX.out.2.2.2.2.2.2.2.2 HX.out.2.2.2.2.1 HX.out.2.2.2.2.2.1 HX.out.2.2.2.2.2.2.2.1).mono ?_); rintro e9 w9 ⟨rfl, hb⟩; replace hq : Below (Wp w).heap.size (Wp w) w9 := bt3 hb hq; clear hb; have HK := Hd.mk ((Wp.blk w).below hq (Wp.lt w)); have r0 := HK.out.cell 0; have r1 := HK.out.cell 1; have q0 := HK.out.frozen 0; have q1 := HK.out.frozen 1; have HB : Hd (Below w.heap.size w w9) := ⟨bt3 hq (Wp.bel w)⟩; clear hq))
  refine bodyPost_ret (v := .tuple #[.agg #[.float .f32 h, .float .f32 (nrF (fv x + fv y - fv h))], .bool true]) (by simp (maxDischargeDepth := 7) [results, Tryz.results124, go_sem, *]) rfl ⟨rfl, ?_⟩
  exact (HB.out.setCell (Nat.le_refl _) _).setCell (Nat.le_refl _) _
set_option maxHeartbeats 4000000 in
theorem i_SumN (x y : Nat) (w : World) (fx : fin x) (fy : fin y) (fh : ¬ fin (addW x y)) :
    Calls Tryz.prog 124 #[.float .f32 x, .float .f32 y] w (RetV (.tuple #[.agg #[.float .f32 0, .float .f32 0], .bool false]) w) := by
  have HX : Hd (W (addW x y)) := ⟨addW_W x y⟩
  have k := fun w => run_float_arith (P := Tryz.prog) w .add 22 .f32 x y (addW x y) (addW_eq fx fy)
  have p1 : decide (fin (addW x y)) = false := decide_eq_false fh
  clear fx fy fh
  generalize addW x y = h at *
  go_enter Tryz.func124, Tryz.ntmps124
  go_wp2_with (go_at_call 129; (with_reducible refine (i_isFinite h _ HX.out).mono ?_); rintro e w' ⟨rfl, rfl⟩)
  refine bodyPost_ret (v := .tuple #[.agg #[.float .f32 0, .float .f32 0], .bool false]) (by simp (maxDischargeDepth := 7) [results, Tryz.results124, go_sem, *]) rfl ⟨rfl, ?_⟩
  (repeat (first | exact Below.refl _ _ | assumption | refine Below.drew ?_ | refine bdn ?_ | refine ba _ ?_ | refine bs0 _ _ ?_ ?_ | refine bs1 _ _ _ ?_ ?_ | refine bs2 _ _ _ _ ?_ ?_ | refine bs3 _ _ _ _ _ ?_ ?_ | refine bt3 (by assumption) ?_))
/-! the answers of ExactSum -/
end Go.Proofs.YtflgjecpjaiecaaGreat
