/- Gj: S23, merged. -/
import Derived.Test.YtflgjecpjaiecaaGreatGi
/- Contracts: the middle of an interval, both sides. -/
set_option linter.unusedVariables false
set_option linter.unusedSimpArgs false
namespace Go.Proofs.YtflgjecpjaiecaaGreat
open Go.RowKit Num Flt
theorem dv_half {m e : Int} (h : -20000 < e) : dv m e = 2 * dv m (e - 1) := by
  unfold dv
  have hsc : (SC : Int) = 20000 := rfl
  have : (e + SC).toNat = (e - 1 + SC).toNat + 1 := by omega
  rw [this, Int.pow_succ]
  generalize (2 : Int) ^ (e - 1 + SC).toNat = p
  rw [Int.mul_comm p 2, Int.mul_left_comm]
theorem bd_half {V : Int} (h : Bd V) : Bd (V / 2) := by
  unfold Bd at *; generalize TOP = T at *; omega
theorem dy_half {m e V : Int} {l : Nat} (h : DyF m e V l) (hl : l < 20000) (hm : m ≠ 0) : DyF m (e - 1) (V / 2) (l + 1) := by
  have hsc : (SC : Nat) = 20000 := rfl
  have h1 := h.lo
  have h2 := dv_half (m := m) (e := e) (by omega)
  exact ⟨by rw [h.val, h2]; omega, by omega, by omega, by have := h.hi; omega, fun k => absurd k hm, h.odd, bd_half h.bd⟩
theorem nu_half {m e V : Int} {l : Nat} (h : NuF m e V l) (hl : l < 20000) : NuF m (e - 1) (V / 2) (l + 1) := by
  have hsc : (SC : Nat) = 20000 := rfl
  have h1 := h.lo
  have h2 := dv_half (m := m) (e := e) (by omega)
  exact ⟨by rw [h.val, h2]; omega, by omega, by omega, by have := h.hi; omega, bd_half h.bd⟩
theorem DyP.half {w : World} {s : Int} {A : Option Addr} {n c l : Nat} {e V : Int} (h : DyP w s A n c e V l) (hl : l < 20000) (hs : s ≠ 0) : DyP w s A n c (e - 1) (V / 2) (l + 1) := by
  obtain ⟨m, h1, h2⟩ := h
  exact ⟨m, h1, dy_half h2 hl (fun k => hs (h1.zero.2 k))⟩
theorem DyP.bounds {w : World} {s : Int} {A : Option Addr} {n c l : Nat} {e V : Int} (h : DyP w s A n c e V l) : -20000 ≤ e ∧ e ≤ 2400000 := by
  obtain ⟨m, h1, h2⟩ := h
  have hsc : (SC : Nat) = 20000 := rfl
  have := h2.lo; have := h2.lsc; have := h2.hi; omega
theorem DyP.zero {w : World} {s : Int} {A : Option Addr} {n c l : Nat} {e V : Int} (h : DyP w s A n c e V l) (hs : s = 0) : V = 0 := by
  have := dy_sign h; rw [hs] at this
  exact Int.sign_eq_zero_iff_zero.1 this.symm
/-! infinite ends -/
theorem wide_lt {x : Nat} (hn : ¬ nan x) : wide x < 18446744073709551616 ∧ wide x % 9223372036854775808 ≤ 9218868437227405312 ∧ ((wide x % 9223372036854775808 = 9218868437227405312) ↔ ¬ fin x) := by
  have hw : ∀ (s : Bool) {r : Nat}, r < 9223372036854775808 → Ieee.double.word s r < 18446744073709551616 ∧ Ieee.double.word s r % 9223372036854775808 = r := by
    intro s r h
    unfold Ieee.Format.word
    show (if s = true then 9223372036854775808 + r else r) < _ ∧ (if s = true then 9223372036854775808 + r else r) % _ = r
    split <;> omega
  unfold wide
  by_cases h : x % 2147483648 = 0
  · rw [wide_zero h, Option.getD_some]
    have := hw (sgf Ieee.single x) (r := 0) (by decide)
    refine ⟨this.1, by omega, ?_⟩
    rw [this.2]; unfold fin; omega
  · by_cases h2 : fin x
    · rw [wide_num h h2, Option.getD_some]
      have hm : mg 8388608 (x % 2147483648) ≠ 0 := fun k => h ((mg_zero _).1 k)
      have hlt := mg_lt (x % 2147483648)
      have he := ex_le (r := x % 2147483648) h2
      have hl : (mg 8388608 (x % 2147483648)).log2 ≤ 23 := by have := (Nat.log2_lt hm (k := 24)).2 (by simpa using hlt); omega
      have hd := drung_le (place := -149 + (ex 8388608 (x % 2147483648) : Nat)) hm (by omega) (by omega)
      have := hw (sgf Ieee.single x) (r := drung (mg 8388608 (x % 2147483648)) (-149 + (ex 8388608 (x % 2147483648) : Nat))) (by omega)
      refine ⟨this.1, by omega, ?_⟩
      rw [this.2]
      exact ⟨fun k => by omega, fun k => absurd h2 k⟩
    · rw [wide_inf (by unfold fin at h2; unfold nan at hn; omega), Option.getD_some]
      have := hw (sgf Ieee.single x) (r := Ieee.double.infRung) (by decide)
      refine ⟨this.1, by rw [this.2]; decide, ?_⟩
      rw [this.2]
      exact ⟨fun _ => h2, fun _ => by decide⟩
theorem abs_bits {X : Nat} (h : X < 18446744073709551616) : bits .andNot .u64 (X : Int) 9223372036854775808 = ((X % 9223372036854775808 : Nat) : Int) := by
  rw [u64_andNot _ _ (by omega) (by omega) (by omega) (by omega)]
  have e : (18446744073709551615 - (9223372036854775808 : Int).toNat : Nat) = 2 ^ 63 - 1 := by decide
  have h63 : (2 : Nat) ^ 63 = 9223372036854775808 := by decide
  rw [Int.toNat_natCast, e, Nat.and_two_pow_sub_one_eq_mod, h63]
set_option maxHeartbeats 4000000 in
theorem l_AbsD (X Y : Nat) (w : World) (h : X < 18446744073709551616) (hY : X % 9223372036854775808 = Y) : Calls Tryz.prog 282 #[.float .f64 X] w fun e w' => e = .returned (.float .f64 Y) ∧ w = w' := by
  have k1 := run_f64bits
  have k2 := run_f64frombits
  have k3 := abs_bits h
  rw [hY] at k3
  clear h hY
  go_enter Tryz.func282, Tryz.ntmps282
  go_wp2
  go_ret
  exact ⟨by simp, rfl⟩
set_option maxHeartbeats 4000000 in
theorem l_InfD (X Y : Nat) (b : Bool) (w : World) (h : X < 18446744073709551616) (hY : X % 9223372036854775808 = Y) (hl : Y ≤ 9218868437227405312) (hb : b = decide (Y = 9218868437227405312)) : Calls Tryz.prog 269 #[.float .f64 X, .int .i64 0] w fun e w' => e = .returned (.bool b) ∧ w = w' := by
  have HX : Hd (X < 18446744073709551616 ∧ X % 9223372036854775808 = Y) := ⟨⟨h, hY⟩⟩
  have k3 : (FloatKind.f64.format.order Y 9218868437227405311 == some .gt) = b := by
    rw [d_ord hl (by omega), hb]
    by_cases hy : Y = 9218868437227405312
    · subst hy; decide
    · rw [cmpb_gt (by omega)]; symm; exact decide_eq_false hy
  clear h hY hl hb
  go_enter Tryz.func269, Tryz.ntmps269
  go_wp2_with (go_at_call 282; (with_reducible refine (l_AbsD X Y _ HX.out.1 HX.out.2).mono ?_); rintro e w' ⟨rfl, rfl⟩)
  go_ret
  exact ⟨rfl, rfl⟩
set_option maxHeartbeats 4000000 in
theorem i_isInf (x : Nat) (w : World) (hn : ¬ nan x) : Calls Tryz.prog 231 #[.float .f32 x] w fun e w' => e = .returned (.bool (!decide (fin x))) ∧ w = w' := by
  have k1 := fun w => run_convert_float_float (P := Tryz.prog) w 22 26 .f32 .f64 x (wide x) (by kernel_rfl) Tryz.underlying26 (wide_some hn)
  have h := wide_lt hn
  have HX : Hd (wide x < 18446744073709551616 ∧ wide x % 9223372036854775808 ≤ 9218868437227405312 ∧ (!decide (fin x)) = decide (wide x % 9223372036854775808 = 9218868437227405312)) := ⟨⟨h.1, h.2.1, by
    by_cases hf : fin x
    · rw [decide_eq_true hf, decide_eq_false (fun k => (h.2.2.1 k) hf)]; rfl
    · rw [decide_eq_false hf, decide_eq_true (h.2.2.2 hf)]; rfl⟩⟩
  generalize hb : (!decide (fin x)) = b at *
  generalize hX : wide x = X at *
  clear h hn hb hX
  go_enter Tryz.func231, Tryz.ntmps231
  go_wp2_with (go_at_call 269; (with_reducible refine (l_InfD X _ b _ HX.out.1 rfl HX.out.2.1 HX.out.2.2).mono ?_); rintro e w' ⟨rfl, rfl⟩)
  go_ret
  exact ⟨rfl, rfl⟩
theorem wrap_m1 {e : Int} (h0 : -20000 ≤ e) (h1 : e ≤ 2400000) : wrap64 (e - 1) = e - 1 := by unfold wrap64; omega
def mdF (a b : Nat) : Nat := nrF ((fv a + fv b) / 2)
/-- what the reference's middle holds behind the sum -/
structure MidC (w wx : World) (g : Nat) (s : Int) (A : Option Addr) (n c : Nat) (e V : Int) : Prop where
  bel : Below w.heap.size w wx
  c0 : wx.cell? ⟨g, 0, none⟩ = some (.int .i64 s)
  c1 : wx.cell? ⟨g, 1, none⟩ = some (.slice A n c)
  c2 : wx.cell? ⟨g, 2, none⟩ = some (.int .i64 e)
  f2 : wx.frozen? ⟨g, 2, none⟩ = false
  dy : DyP wx s A n c e V 149
  stb : ∀ o u, DyP (wx.setCell ⟨g, o, none⟩ u) s A n c e V 149
  lt : w.heap.size < g
theorem MidC.ofSet {w wx : World} {g B : Nat} {s : Int} {A : Option Addr} {n c : Nat} {e V : Int} (hb : Below w.heap.size w wx) (hD : DyO wx B s A n c e V 149) (hg : g < B) (hB : Blk wx g 66 #[.int .i64 0, .slice none 0 0, .int .i64 0]) (hlt : w.heap.size < g) :
    MidC w (((wx.setCell ⟨g, 0, none⟩ (.int .i64 s)).setCell ⟨g, 1, none⟩ (.slice A n c)).setCell ⟨g, 2, none⟩ (.int .i64 e)) g s A n c e V := by
  have K : Blk (((wx.setCell ⟨g, 0, none⟩ (.int .i64 s)).setCell ⟨g, 1, none⟩ (.slice A n c)).setCell ⟨g, 2, none⟩ (.int .i64 e)) g 66 #[.int .i64 s, .slice A n c, .int .i64 e] := ((hB.set_ 0 _).set_ 1 _).set_ 2 _
  have hs := ((hD.set g 0 hg (.int .i64 s)).set g 1 hg (.slice A n c)).set g 2 hg (.int .i64 e)
  exact ⟨((hb.setCell (by simp; omega) _).setCell (by simp; omega) _).setCell (by simp; omega) _, K.cell 0, K.cell 1, K.cell 2, K.frozen 2, hs.dp, fun o u => (hs.set g o hg u).dp, hlt⟩
theorem MidC.ofNew {w wx : World} {s : Int} {A : Option Addr} {n c : Nat} {e V : Int} (hb : Below w.heap.size w wx) (hD : DyP wx s A n c e V 149) (hlt : w.heap.size < wx.heap.size) :
    MidC w (wx.alloc (Obj.cells #[.int .i64 s, .slice A n c, .int .i64 e] 66)) wx.heap.size s A n c e V := by
  have K := Blk.new wx 66 #[.int .i64 s, .slice A n c, .int .i64 e]
  have hb2 : Below wx.heap.size wx (wx.alloc (Obj.cells #[.int .i64 s, .slice A n c, .int .i64 e] 66)) := ba _ (Below.refl _ _)
  exact ⟨ba _ hb, K.cell 0, K.cell 1, K.cell 2, K.frozen 2, hD.below hb2, fun o u => hD.below (hb2.setCell (Nat.le_refl _) u), hlt⟩
/-! the answers of MiddleOf -/
def moC (a b : Nat) : Int := if IsIv a b then (if fin a ∧ fin b then 0 else 5) else 1
def moF (a b : Nat) : Nat := if moC a b = 0 then mdF a b else 0
theorem mo_bad {a b : Nat} (h : ¬ IsIv a b) : moC a b = 1 ∧ moF a b = 0 := by
  have h1 : moC a b = 1 := by unfold moC; rw [if_neg h]
  exact ⟨h1, by unfold moF; rw [h1]; rfl⟩
theorem mo_inf {a b : Nat} (h : IsIv a b) (hn : ¬ (fin a ∧ fin b)) : moC a b = 5 ∧ moF a b = 0 := by
  have h1 : moC a b = 5 := by unfold moC; rw [if_pos h, if_neg hn]
  exact ⟨h1, by unfold moF; rw [h1]; rfl⟩
theorem mo_good {a b : Nat} (h : IsIv a b) (hn : fin a ∧ fin b) : moC a b = 0 ∧ moF a b = mdF a b := by
  have h1 : moC a b = 0 := by unfold moC; rw [if_pos h, if_pos hn]
  exact ⟨h1, by unfold moF; rw [h1]; rfl⟩
theorem mdF_num (a b : Nat) : W (mdF a b) ∧ ¬ nan (mdF a b) := nrF_num _
theorem mo_num (a b : Nat) : ¬ nan (moF a b) := by
  unfold moF; split
  · exact (mdF_num a b).2
  · decide
def RetMO (a b : Nat) (w : World) : Ending → World → Prop := RetV (.tuple #[.float .f32 (moF a b), .int .i64 (moC a b)]) w
end Go.Proofs.YtflgjecpjaiecaaGreat
