/- Gp: S29 S30 S31, merged. -/
import Derived.Test.YtflgjecpjaiecaaGreatGn
import Derived.Test.YtflgjecpjaiecaaGreatGj
/- Contracts: sums and differences of intervals, widths, both sides. -/
set_option linter.unusedVariables false
set_option linter.unusedSimpArgs false
namespace Go.Proofs.YtflgjecpjaiecaaGreat
open Go.RowKit Num Flt
theorem fin_ng {x : Nat} (h : W x) (hf : fin x) : fin (ng x) := by unfold W at h; unfold fin ng at *; split <;> omega
theorem fv_ng {x : Nat} (h : W x) : fv (ng x) = - fv x := by
  have h1 : ng x % 2147483648 = x % 2147483648 := by unfold W at h; unfold ng; split <;> omega
  have e1 : pm (ng x) = pm x := by unfold pm; rw [h1]
  have e2 : pe (ng x) = pe x := by unfold pe; rw [h1]
  have hz := mg_zero (x % 2147483648)
  have hp : pm x = mg 8388608 (x % 2147483648) := rfl
  have e3 : mv (ng x) = - mv x := by
    unfold mv
    rw [e1]
    unfold ng
    unfold W at h
    split <;> split <;> split <;> omega
  unfold fv
  rw [e2, e3]
  unfold dv
  rw [Int.neg_mul]
set_option maxHeartbeats 4000000 in
theorem s_Up (s : Int) (A : Option Addr) (n c : Nat) (e V : Int) (l : Nat) (w : World) (hX : DyP w s A n c e V l) :
    Calls Tryz.prog 229 #[.agg #[.int .i64 s, .slice A n c, .int .i64 e]] w (RetV (.float .f32 (rF 2 V)) w) := by
  have HX := Hd.mk hX
  clear hX
  generalize hy : rF 2 V = y at *
  generalize hf : rFl 2 V = f at *
  have HY := Hd.mk (And.intro hy hf)
  clear hy hf
  go_enter Tryz.func229, Tryz.ntmps229
  go_wp2_with (go_at_call 155; (with_reducible refine (s_RoundR s A n c e V 2 l _ y f (HX.out.below (by (repeat (first | exact Below.refl _ _ | assumption | refine Below.drew ?_ | refine bdn ?_ | refine ba _ ?_ | refine bs0 _ _ ?_ ?_ | refine bs1 _ _ _ ?_ ?_ | refine bs2 _ _ _ _ ?_ ?_ | refine bs3 _ _ _ _ _ ?_ ?_ | refine bt3 (by assumption) ?_)))) (by decide) HY.out.1 HY.out.2).mono ?_); rintro e' w1 ⟨rfl, hb⟩; have HB : Hd (Below w.heap.size w w1) := ⟨bt3 hb (by (repeat (first | exact Below.refl _ _ | assumption | refine Below.drew ?_ | refine bdn ?_ | refine ba _ ?_ | refine bs0 _ _ ?_ ?_ | refine bs1 _ _ _ ?_ ?_ | refine bs2 _ _ _ _ ?_ ?_ | refine bs3 _ _ _ _ _ ?_ ?_ | refine bt3 (by assumption) ?_)))⟩; clear hb)
  go_ret
  exact ⟨rfl, HB.out⟩
set_option maxHeartbeats 4000000 in
theorem s_Down (s : Int) (A : Option Addr) (n c : Nat) (e V : Int) (l : Nat) (w : World) (hX : DyP w s A n c e V l) :
    Calls Tryz.prog 228 #[.agg #[.int .i64 s, .slice A n c, .int .i64 e]] w (RetV (.float .f32 (rF 1 V)) w) := by
  have HX := Hd.mk hX
  clear hX
  generalize hy : rF 1 V = y at *
  generalize hf : rFl 1 V = f at *
  have HY := Hd.mk (And.intro hy hf)
  clear hy hf
  go_enter Tryz.func228, Tryz.ntmps228
  go_wp2_with (go_at_call 155; (with_reducible refine (s_RoundR s A n c e V 1 l _ y f (HX.out.below (by (repeat (first | exact Below.refl _ _ | assumption | refine Below.drew ?_ | refine bdn ?_ | refine ba _ ?_ | refine bs0 _ _ ?_ ?_ | refine bs1 _ _ _ ?_ ?_ | refine bs2 _ _ _ _ ?_ ?_ | refine bs3 _ _ _ _ _ ?_ ?_ | refine bt3 (by assumption) ?_)))) (by decide) HY.out.1 HY.out.2).mono ?_); rintro e' w1 ⟨rfl, hb⟩; have HB : Hd (Below w.heap.size w w1) := ⟨bt3 hb (by (repeat (first | exact Below.refl _ _ | assumption | refine Below.drew ?_ | refine bdn ?_ | refine ba _ ?_ | refine bs0 _ _ ?_ ?_ | refine bs1 _ _ _ ?_ ?_ | refine bs2 _ _ _ _ ?_ ?_ | refine bs3 _ _ _ _ _ ?_ ?_ | refine bt3 (by assumption) ?_)))⟩; clear hb)
  go_ret
  exact ⟨rfl, HB.out⟩
/-- what addIn answers -/
def RetAI (V mode : Int) (w : World) (e : Ending) (w' : World) : Prop := ∃ r f, e = .returned (.tuple #[.float .f32 r, .int .i64 f]) ∧ W r ∧ zp r = zp (rF mode V) ∧ Below w.heap.size w w'
theorem zsF_zp (a b : Bool) (mode : Int) : W (zsF a b mode) ∧ zp (zsF a b mode) = 0 := by
  have h : ∀ b, W (szF b) ∧ zp (szF b) = 0 := fun b => ⟨(szF_num b).1, by cases b <;> rfl⟩
  unfold zsF; split <;> exact h _
set_option maxHeartbeats 4000000 in
theorem i_addIn (x y : Nat) (mode : Int) (w : World) (hx : W x) (hy : W y) (fx : fin x) (fy : fin y) (hmd : 0 ≤ mode ∧ mode ≤ 4) :
    Calls Tryz.prog 89 #[.float .f32 x, .float .f32 y, .int .i64 mode] w (RetAI (fv x + fv y) mode w) := by
  have HX : Hd (W x ∧ fin x ∧ W y ∧ fin y ∧ Bd (fv x + fv y) ∧ (0 ≤ mode ∧ mode ≤ 4)) := ⟨⟨hx, fx, hy, fy, fv_bd2 fx fy, hmd⟩⟩
  have ex := o_eq0 x hx
  have ey := o_eq0 y hy
  have zx := fv_zero hx
  have zy := fv_zero hy
  clear hx hy fx fy hmd
  by_cases hV : fv x + fv y = 0
  · have HSG : Hd ((fv x + fv y).sign = 0) := ⟨by rw [hV]; rfl⟩
    have HZ : Hd (zp (rF mode (fv x + fv y)) = 0) := ⟨by rw [hV]; rfl⟩
    by_cases h0 : x = 0 ∨ x = 2147483648
    · have h1 : y = 0 ∨ y = 2147483648 := zy.1 (by have := zx.2 h0; omega)
      rw [decide_eq_true h0] at ex
      rw [decide_eq_true h1] at ey
      clear zx zy hV h0 h1
      go_enter Tryz.func89, Tryz.ntmps89
      go_wp2_with (first | (go_at_call 111; (with_reducible refine (n_Of x _ HX.out.1 HX.out.2.1).mono ?_); rintro e3 w3 ⟨g3, x3, rfl, hN, hb⟩; have hq : Below w.heap.size w w3 := bt3 hb (by (repeat (first | exact Below.refl _ _ | assumption | refine Below.drew ?_ | refine bdn ?_ | refine ba _ ?_ | refine bs0 _ _ ?_ ?_ | refine bs1 _ _ _ ?_ ?_ | refine bs2 _ _ _ _ ?_ ?_ | refine bs3 _ _ _ _ _ ?_ ?_ | refine bt3 (by assumption) ?_))); have H3 := Hd.mk hN; clear hN hb) | (go_at_call 111; (with_reducible refine (n_Of y _ HX.out.2.2.1 HX.out.2.2.2.1).mono ?_); rintro e4 w4 ⟨g4, x4, rfl, hN, hb⟩; replace hq : Below w.heap.size w w4 := bt3 hb hq; replace H3 := Hd.mk (H3.out.below hb); have H4 := Hd.mk hN; clear hN hb) | (go_at_call 113; (with_reducible refine (n_Add g3 g4 x3 x4 (fv x) (fv y) 149 _ H3.out H4.out HX.out.2.2.2.2.1).mono ?_); rintro e7 w7 ⟨g7, x7, rfl, hN, hb⟩; replace hq : Below w.heap.size w w7 := bt3 hb hq; have H7 := Hd.mk hN; clear hN hb) | (go_at_call 114; (with_reducible refine (n_SignR g7 x7 (fv x + fv y) _ 149 _ HSG.out (H7.out.below (by (repeat (first | exact Below.refl _ _ | assumption | refine Below.drew ?_ | refine bdn ?_ | refine ba _ ?_ | refine bs0 _ _ ?_ ?_ | refine bs1 _ _ _ ?_ ?_ | refine bs2 _ _ _ _ ?_ ?_ | refine bs3 _ _ _ _ _ ?_ ?_ | refine bt3 (by assumption) ?_))))).mono ?_); rintro e8 w8 ⟨rfl, hb⟩; obtain ⟨hc, hf, hz, hy⟩ := bcell hb; have hsz := hb.size; (try simp at hsz); have k0 : w7.heap.size < w8.heap.size := (by omega); replace hq : Below w.heap.size w w8 := bt3 hb (by (repeat (first | exact Below.refl _ _ | assumption | refine Below.drew ?_ | refine bdn ?_ | refine ba _ ?_ | refine bs0 _ _ ?_ ?_ | refine bs1 _ _ _ ?_ ?_ | refine bs2 _ _ _ _ ?_ ?_ | refine bs3 _ _ _ _ _ ?_ ?_ | refine bt3 (by assumption) ?_))); replace H7 := Hd.mk (H7.out.below (bt3 hb (by (repeat (first | exact Below.refl _ _ | assumption | refine Below.drew ?_ | refine bdn ?_ | refine ba _ ?_ | refine bs0 _ _ ?_ ?_ | refine bs1 _ _ _ ?_ ?_ | refine bs2 _ _ _ _ ?_ ?_ | refine bs3 _ _ _ _ _ ?_ ?_ | refine bt3 (by assumption) ?_))))); clear hb hsz) | (go_at_call 115; (with_reducible refine (i_minus x _).mono ?_); rintro e w' ⟨rfl, rfl⟩) | (go_at_call 115; (with_reducible refine (i_minus y _).mono ?_); rintro e w' ⟨rfl, rfl⟩) | (go_at_call 116; (with_reducible refine (i_zeroSum _ _ mode _).mono ?_); rintro e w' ⟨rfl, rfl⟩))
      go_ret2
      exact ⟨_, _, rfl, (zsF_zp _ _ _).1, by rw [HZ.out]; exact (zsF_zp _ _ _).2, by (repeat (first | exact Below.refl _ _ | assumption | refine Below.drew ?_ | refine bdn ?_ | refine ba _ ?_ | refine bs0 _ _ ?_ ?_ | refine bs1 _ _ _ ?_ ?_ | refine bs2 _ _ _ _ ?_ ?_ | refine bs3 _ _ _ _ _ ?_ ?_ | refine bt3 (by assumption) ?_))⟩
    · have h1 : ¬ (y = 0 ∨ y = 2147483648) := fun k => h0 (zx.1 (by have := zy.2 k; omega))
      rw [decide_eq_false h0] at ex
      rw [decide_eq_false h1] at ey
      clear zx zy hV h0 h1
      go_enter Tryz.func89, Tryz.ntmps89
      go_wp2_with (first | (go_at_call 111; (with_reducible refine (n_Of x _ HX.out.1 HX.out.2.1).mono ?_); rintro e3 w3 ⟨g3, x3, rfl, hN, hb⟩; have hq : Below w.heap.size w w3 := bt3 hb (by (repeat (first | exact Below.refl _ _ | assumption | refine Below.drew ?_ | refine bdn ?_ | refine ba _ ?_ | refine bs0 _ _ ?_ ?_ | refine bs1 _ _ _ ?_ ?_ | refine bs2 _ _ _ _ ?_ ?_ | refine bs3 _ _ _ _ _ ?_ ?_ | refine bt3 (by assumption) ?_))); have H3 := Hd.mk hN; clear hN hb) | (go_at_call 111; (with_reducible refine (n_Of y _ HX.out.2.2.1 HX.out.2.2.2.1).mono ?_); rintro e4 w4 ⟨g4, x4, rfl, hN, hb⟩; replace hq : Below w.heap.size w w4 := bt3 hb hq; replace H3 := Hd.mk (H3.out.below hb); have H4 := Hd.mk hN; clear hN hb) | (go_at_call 113; (with_reducible refine (n_Add g3 g4 x3 x4 (fv x) (fv y) 149 _ H3.out H4.out HX.out.2.2.2.2.1).mono ?_); rintro e7 w7 ⟨g7, x7, rfl, hN, hb⟩; replace hq : Below w.heap.size w w7 := bt3 hb hq; have H7 := Hd.mk hN; clear hN hb) | (go_at_call 114; (with_reducible refine (n_SignR g7 x7 (fv x + fv y) _ 149 _ HSG.out (H7.out.below (by (repeat (first | exact Below.refl _ _ | assumption | refine Below.drew ?_ | refine bdn ?_ | refine ba _ ?_ | refine bs0 _ _ ?_ ?_ | refine bs1 _ _ _ ?_ ?_ | refine bs2 _ _ _ _ ?_ ?_ | refine bs3 _ _ _ _ _ ?_ ?_ | refine bt3 (by assumption) ?_))))).mono ?_); rintro e8 w8 ⟨rfl, hb⟩; obtain ⟨hc, hf, hz, hy⟩ := bcell hb; have hsz := hb.size; (try simp at hsz); have k0 : w7.heap.size < w8.heap.size := (by omega); replace hq : Below w.heap.size w w8 := bt3 hb (by (repeat (first | exact Below.refl _ _ | assumption | refine Below.drew ?_ | refine bdn ?_ | refine ba _ ?_ | refine bs0 _ _ ?_ ?_ | refine bs1 _ _ _ ?_ ?_ | refine bs2 _ _ _ _ ?_ ?_ | refine bs3 _ _ _ _ _ ?_ ?_ | refine bt3 (by assumption) ?_))); replace H7 := Hd.mk (H7.out.below (bt3 hb (by (repeat (first | exact Below.refl _ _ | assumption | refine Below.drew ?_ | refine bdn ?_ | refine ba _ ?_ | refine bs0 _ _ ?_ ?_ | refine bs1 _ _ _ ?_ ?_ | refine bs2 _ _ _ _ ?_ ?_ | refine bs3 _ _ _ _ _ ?_ ?_ | refine bt3 (by assumption) ?_))))); clear hb hsz) | (go_at_call 115; (with_reducible refine (i_minus x _).mono ?_); rintro e w' ⟨rfl, rfl⟩) | (go_at_call 115; (with_reducible refine (i_minus y _).mono ?_); rintro e w' ⟨rfl, rfl⟩) | (go_at_call 116; (with_reducible refine (i_zeroSum _ _ mode _).mono ?_); rintro e w' ⟨rfl, rfl⟩))
      go_ret2
      exact ⟨_, _, rfl, (zsF_zp _ _ _).1, by rw [HZ.out]; exact (zsF_zp _ _ _).2, by (repeat (first | exact Below.refl _ _ | assumption | refine Below.drew ?_ | refine bdn ?_ | refine ba _ ?_ | refine bs0 _ _ ?_ ?_ | refine bs1 _ _ _ ?_ ?_ | refine bs2 _ _ _ _ ?_ ?_ | refine bs3 _ _ _ _ _ ?_ ?_ | refine bt3 (by assumption) ?_))⟩
  · obtain ⟨sg, hsg⟩ : ∃ sg, (fv x + fv y).sign = sg := ⟨_, rfl⟩
    have hs : (sg == 0) = false := by rw [← hsg]; simpa [Int.sign_eq_zero_iff_zero] using hV
    have HSG := Hd.mk hsg
    clear ex ey zx zy hV hsg
    go_enter Tryz.func89, Tryz.ntmps89
    go_wp2_with (first | (go_at_call 111; (with_reducible refine (n_Of x _ HX.out.1 HX.out.2.1).mono ?_); rintro e3 w3 ⟨g3, x3, rfl, hN, hb⟩; have hq : Below w.heap.size w w3 := bt3 hb (by (repeat (first | exact Below.refl _ _ | assumption | refine Below.drew ?_ | refine bdn ?_ | refine ba _ ?_ | refine bs0 _ _ ?_ ?_ | refine bs1 _ _ _ ?_ ?_ | refine bs2 _ _ _ _ ?_ ?_ | refine bs3 _ _ _ _ _ ?_ ?_ | refine bt3 (by assumption) ?_))); have H3 := Hd.mk hN; clear hN hb) | (go_at_call 111; (with_reducible refine (n_Of y _ HX.out.2.2.1 HX.out.2.2.2.1).mono ?_); rintro e4 w4 ⟨g4, x4, rfl, hN, hb⟩; replace hq : Below w.heap.size w w4 := bt3 hb hq; replace H3 := Hd.mk (H3.out.below hb); have H4 := Hd.mk hN; clear hN hb) | (go_at_call 113; (with_reducible refine (n_Add g3 g4 x3 x4 (fv x) (fv y) 149 _ H3.out H4.out HX.out.2.2.2.2.1).mono ?_); rintro e7 w7 ⟨g7, x7, rfl, hN, hb⟩; replace hq : Below w.heap.size w w7 := bt3 hb hq; have H7 := Hd.mk hN; clear hN hb) | (go_at_call 114; (with_reducible refine (n_SignR g7 x7 (fv x + fv y) _ 149 _ HSG.out (H7.out.below (by (repeat (first | exact Below.refl _ _ | assumption | refine Below.drew ?_ | refine bdn ?_ | refine ba _ ?_ | refine bs0 _ _ ?_ ?_ | refine bs1 _ _ _ ?_ ?_ | refine bs2 _ _ _ _ ?_ ?_ | refine bs3 _ _ _ _ _ ?_ ?_ | refine bt3 (by assumption) ?_))))).mono ?_); rintro e8 w8 ⟨rfl, hb⟩; obtain ⟨hc, hf, hz, hy⟩ := bcell hb; have hsz := hb.size; (try simp at hsz); have k0 : w7.heap.size < w8.heap.size := (by omega); replace hq : Below w.heap.size w w8 := bt3 hb (by (repeat (first | exact Below.refl _ _ | assumption | refine Below.drew ?_ | refine bdn ?_ | refine ba _ ?_ | refine bs0 _ _ ?_ ?_ | refine bs1 _ _ _ ?_ ?_ | refine bs2 _ _ _ _ ?_ ?_ | refine bs3 _ _ _ _ _ ?_ ?_ | refine bt3 (by assumption) ?_))); replace H7 := Hd.mk (H7.out.below (bt3 hb (by (repeat (first | exact Below.refl _ _ | assumption | refine Below.drew ?_ | refine bdn ?_ | refine ba _ ?_ | refine bs0 _ _ ?_ ?_ | refine bs1 _ _ _ ?_ ?_ | refine bs2 _ _ _ _ ?_ ?_ | refine bs3 _ _ _ _ _ ?_ ?_ | refine bt3 (by assumption) ?_))))); clear hb hsz) | (go_at_call 117; (with_reducible refine (n_Round g7 x7 (fv x + fv y) mode 149 _ (H7.out.below (by (repeat (first | exact Below.refl _ _ | assumption | refine Below.drew ?_ | refine bdn ?_ | refine ba _ ?_ | refine bs0 _ _ ?_ ?_ | refine bs1 _ _ _ ?_ ?_ | refine bs2 _ _ _ _ ?_ ?_ | refine bs3 _ _ _ _ _ ?_ ?_ | refine bt3 (by assumption) ?_)))) HX.out.2.2.2.2.2).mono ?_); rintro e9 w9 ⟨rfl, hb⟩; have HB9 : Hd (Below w.heap.size w w9) := ⟨bt3 hb (by (repeat (first | exact Below.refl _ _ | assumption | refine Below.drew ?_ | refine bdn ?_ | refine ba _ ?_ | refine bs0 _ _ ?_ ?_ | refine bs1 _ _ _ ?_ ?_ | refine bs2 _ _ _ _ ?_ ?_ | refine bs3 _ _ _ _ _ ?_ ?_ | refine bt3 (by assumption) ?_)))⟩; clear hb))
    go_ret2
    exact ⟨_, _, rfl, (rF_num _ _).1, rfl, HB9.out⟩
/-- an end of a sum -/
def seF (x y : Nat) (mode : Int) : Nat := if fin x then (if fin y then zp (rF mode (fv x + fv y)) else y) else x
abbrev Wi3 (w : World) (a b c d : Nat) : World := ((w.alloc (Obj.cells #[.float .f32 a, .float .f32 b] 41)).alloc (Obj.cells #[.float .f32 c, .float .f32 d] 41)).alloc (Obj.cells #[.float .f32 0, .float .f32 0] 41)
theorem Wi3.bel (w : World) (a b c d : Nat) : Below w.heap.size w (Wi3 w a b c d) := ba _ (ba _ (ba _ (Below.refl _ _)))
theorem Wi3.b0 (w : World) (a b c d : Nat) : Blk (Wi3 w a b c d) w.heap.size 41 #[.float .f32 a, .float .f32 b] := ((Blk.new _ _ _).alloc _).alloc _
theorem Wi3.b1 (w : World) (a b c d : Nat) : Blk (Wi3 w a b c d) (w.heap.size + 1) 41 #[.float .f32 c, .float .f32 d] := by
  have := (Blk.new (w.alloc (Obj.cells #[.float .f32 a, .float .f32 b] 41)) 41 #[.float .f32 c, .float .f32 d]).alloc (Obj.cells #[.float .f32 0, .float .f32 0] 41)
  simpa [Wi3] using this
theorem Wi3.b2 (w : World) (a b c d : Nat) : Blk (Wi3 w a b c d) (w.heap.size + 1 + 1) 41 #[.float .f32 0, .float .f32 0] := by
  have := Blk.new ((w.alloc (Obj.cells #[.float .f32 a, .float .f32 b] 41)).alloc (Obj.cells #[.float .f32 c, .float .f32 d] 41)) 41 #[.float .f32 0, .float .f32 0]
  simpa [Wi3] using this
end Go.Proofs.YtflgjecpjaiecaaGreat

/- Contracts: sums and differences of intervals, widths, both sides: the reference's sums, the exported functions. -/
set_option linter.unusedVariables false
set_option linter.unusedSimpArgs false
namespace Go.Proofs.YtflgjecpjaiecaaGreat
open Go.RowKit Num Flt
/-- the ends of a sum in the reference -/
def slF (a c : Nat) : Nat := if fin a ∧ fin c then rF 1 (fv a + fv c) else 4286578688
def shF (b d : Nat) : Nat := if fin b ∧ fin d then rF 2 (fv b + fv d) else 2139095040
theorem no_fin {a c : Nat} (h : ¬ (fin a ∧ fin c)) : decide (fin a) = false ∨ (decide (fin a) = true ∧ decide (fin c) = false) := by
  by_cases k : fin a
  · exact Or.inr ⟨decide_eq_true k, decide_eq_false (fun j => h ⟨k, j⟩)⟩
  · exact Or.inl (decide_eq_false k)
/-- the ends of intervals that are not finite -/
theorem iv_lo_inf {a b : Nat} (ha : W a) (h : IsIv a b) (hn : ¬ fin a) : a = 4286578688 := by
  obtain ⟨h1, _, _, _, _, h6, _⟩ := h
  unfold nan at h1; unfold fin at hn; unfold pl at h6; unfold W at ha
  split at h6 <;> omega
theorem iv_hi_inf {a b : Nat} (hb : W b) (h : IsIv a b) (hn : ¬ fin b) : b = 2139095040 := by
  obtain ⟨_, h1, _, _, _, _, h7⟩ := h
  unfold nan at h1; unfold fin at hn; unfold pl at h7; unfold W at hb
  split at h7 <;> omega
theorem se_lo {a c : Nat} (ha : ¬ fin a → a = 4286578688) (hc : ¬ fin c → c = 4286578688) : seF a c 1 = zp (slF a c) := by
  unfold seF slF
  by_cases h1 : fin a
  · by_cases h2 : fin c
    · rw [if_pos h1, if_pos h2, if_pos ⟨h1, h2⟩]
    · rw [if_pos h1, if_neg h2, if_neg (fun k => h2 k.2), hc h2]; rfl
  · rw [if_neg h1, if_neg (fun k => h1 k.1), ha h1]; rfl
theorem se_hi {b d : Nat} (hb : ¬ fin b → b = 2139095040) (hd : ¬ fin d → d = 2139095040) : seF b d 2 = zp (shF b d) := by
  unfold seF shF
  by_cases h1 : fin b
  · by_cases h2 : fin d
    · rw [if_pos h1, if_pos h2, if_pos ⟨h1, h2⟩]
    · rw [if_pos h1, if_neg h2, if_neg (fun k => h2 k.2), hd h2]; rfl
  · rw [if_neg h1, if_neg (fun k => h1 k.1), hb h1]; rfl
end Go.Proofs.YtflgjecpjaiecaaGreat

/- Contracts: sums and differences of intervals, widths, both sides: the exported functions. -/
set_option linter.unusedVariables false
set_option linter.unusedSimpArgs false
namespace Go.Proofs.YtflgjecpjaiecaaGreat
open Go.RowKit Num Flt
/-- the width -/
def wiF (a b : Nat) : Nat := if fin a ∧ fin b then zp (rF 2 (fv b - fv a)) else 2139095040
abbrev Wi1 (w : World) (a b : Nat) : World := w.alloc (Obj.cells #[.float .f32 a, .float .f32 b] 41)
theorem Wi1.blk (w : World) (a b : Nat) : Blk (Wi1 w a b) w.heap.size 41 #[.float .f32 a, .float .f32 b] := Blk.new _ _ _
def wdC (a b : Nat) : Int := if IsIv a b then 0 else 1
def wdO (a b : Nat) : Nat := if IsIv a b then wiF a b else 0
def RetWD (a b : Nat) (w : World) : Ending → World → Prop := RetV (.tuple #[.float .f32 (wdO a b), .int .i64 (wdC a b)]) w
theorem wd_num (a b : Nat) : ¬ nan (wdO a b) := by
  unfold wdO wiF; split
  · split
    · exact fun h => (rF_num _ _).2 ((nan_zp _).1 h)
    · decide
  · decide
/-! sums and differences -/
def RetI2 (C : Int) (lo hi : Nat) (w : World) : Ending → World → Prop := RetV (.tuple #[.agg #[.float .f32 lo, .float .f32 hi], .int .i64 C]) w
theorem both_of {a b c d : Nat} (h : IsIv a b ∧ IsIv c d) : bothC a b c d = 0 := by unfold bothC; rw [if_pos h]
theorem both_no {a b c d : Nat} (h : ¬ (IsIv a b ∧ IsIv c d)) : bothC a b c d = 1 := by unfold bothC; rw [if_neg h]
/-- the answers of AddIntervals -/
def aiL (a b c d : Nat) : Nat := if bothC a b c d = 0 then seF a c 1 else 0
def aiH (a b c d : Nat) : Nat := if bothC a b c d = 0 then seF b d 2 else 0
theorem se_num (x y : Nat) (mode : Int) (hx : ¬ nan x) (hy : ¬ nan y) : ¬ nan (seF x y mode) := by
  unfold seF; split
  · split
    · exact fun h => (rF_num _ _).2 ((nan_zp _).1 h)
    · exact hy
  · exact hx
theorem ai_num (a b c d : Nat) : ¬ nan (aiL a b c d) ∧ ¬ nan (aiH a b c d) := by
  by_cases h : IsIv a b ∧ IsIv c d
  · unfold aiL aiH; rw [both_of h, if_pos rfl, if_pos rfl]
    exact ⟨se_num _ _ _ h.1.1 h.2.1, se_num _ _ _ h.1.2.1 h.2.2.1⟩
  · unfold aiL aiH; rw [both_no h, if_neg (by decide), if_neg (by decide)]; decide
end Go.Proofs.YtflgjecpjaiecaaGreat
