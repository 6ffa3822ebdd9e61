/- Hf: D12 D13, merged. -/
import Derived.Test.YtflgjecpjaiecaaGreatHdq3
import Derived.Test.YtflgjecpjaiecaaGreatHeq3
import Derived.Test.YtflgjecpjaiecaaGreatGmq3
import Derived.Test.YtflgjecpjaiecaaGreatGaq3
/- Contracts: DivideIn, both sides. -/
set_option linter.unusedVariables false
set_option linter.unusedSimpArgs false
set_option exponentiation.threshold 40000
namespace Go.Proofs.YtflgjecpjaiecaaGreat
open Go.RowKit Num Flt
theorem one_limb {w : World} {t : Int} {A : Option Addr} {m c : Nat} {b : Int} (h : WhP w t A m c b) (hb0 : b ≠ 0) (hb : bln b.natAbs ≤ 24) : ∃ yy, m = 1 ∧ 0 < yy ∧ b = t * yy ∧ (t = 1 ∨ t = -1) ∧ WhD w t A 1 c [yy] (t * yy) := by
  have ht := (h.sgn hb0).2
  obtain ⟨ys, hD⟩ := h.opened
  have hv := hD.num.abs
  have h1 := bln_lt b.natAbs
  have h2 : 2 ^ bln b.natAbs ≤ 2 ^ 24 := Nat.pow_le_pow_right (by decide) hb
  have e24 : (2 : Nat) ^ 24 = 16777216 := by decide
  have hne : ys ≠ [] := by
    rintro rfl
    have h3 : val 16777216 [] = 0 := rfl
    omega
  have hl : ys.length = 1 := by
    rcases Nat.lt_or_ge 1 ys.length with k | k
    · exfalso
      have h3 := hD.can.lower (by decide) hne
      have h4 : (16777216 : Int) ^ 1 ≤ 16777216 ^ (ys.length - 1) := pow_le (by decide) (by omega)
      rw [Int.pow_succ, Int.pow_zero] at h4
      omega
    · have := List.length_pos_iff.2 hne; omega
  obtain ⟨yy, rfl⟩ : ∃ yy, ys = [yy] := by
    match ys, hl with
    | [y], _ => exact ⟨y, rfl⟩
  have hm : m = 1 := hD.len
  have hy : val 16777216 [yy] = yy := by simp [val]
  have he := hD.num.eq
  rw [hy] at he hv
  subst hm
  refine ⟨yy, rfl, by omega, he, ht, ?_⟩
  rw [← he]; exact hD
set_option maxHeartbeats 4000000 in
theorem n_OfE (x : Nat) (w : World) (hx : W x) (hf : fin x) : Calls Tryz.prog 111 #[.float .f32 x] w fun e' w' => ∃ g, e' = .returned (.agg #[.pointer (some ⟨g, 0, none⟩), .int .i64 (-149 + (pe x : Nat))]) ∧ Big w' g (mv x) ∧ Below w.heap.size w w' := by
  have HX : Hd (W x ∧ fin x ∧ -4294967296 < mv x ∧ mv x < 4294967296) := ⟨⟨hx, hf, by have := mv_lt x; omega, by have := mv_lt x; omega⟩⟩
  clear hx hf
  go_enter Tryz.func111, Tryz.ntmps111
  go_wp2_with (first | (go_at_call 183; (with_reducible refine (m_Parts x _ HX.out.1 HX.out.2.1).mono ?_); rintro e w' ⟨rfl, rfl⟩) | (go_at_call 184; (with_reducible refine (m_New (mv x) _ HX.out.2.2.1 HX.out.2.2.2).mono ?_); rintro e w2 ⟨g, rfl, hge, hB, hb⟩; have HB := Hd.mk hB; have HK := Hd.mk (Blk.below (Blk.new w _ _) hb (by simp)); clear hge hB; obtain ⟨hc, hf, hz, hy⟩ := bcell hb; have hs := hb.size; (try simp at hs); have h0' : w.heap.size < w2.heap.size := (by omega); clear hs))
  refine bodyPost_ret (v := .agg #[.pointer (some ⟨g, 0, none⟩), .int .i64 (-149 + (pe x : Nat))]) (by simp (maxDischargeDepth := 7) [results, Tryz.results111, go_sem, *]) rfl ⟨g, rfl, ?_, ?_⟩
  · exact ((HB.out.setT HK.out (by decide) (by decide) 0 _).setT (HK.out.set_ 0 _) (by decide) (by decide) 1 _)
  · (repeat (first | exact Below.refl _ _ | assumption | refine Below.drew ?_ | refine bdn ?_ | refine ba _ ?_ | refine bs0 _ _ ?_ ?_ | refine bs1 _ _ _ ?_ ?_ | refine bs2 _ _ _ _ ?_ ?_ | refine bs3 _ _ _ _ _ ?_ ?_ | refine bt3 (by assumption) ?_))
theorem i_sZero (b : Bool) (w : World) : Calls Tryz.prog 156 #[.bool b] w fun e w' => e = .returned (.float .f32 (szF b)) ∧ w = w' := by
  cases b
  · go_enter Tryz.func156, Tryz.ntmps156
    go_wp2_with (go_at_call 190; (with_reducible refine (i_minusZero _).mono ?_); rintro e w' ⟨rfl, rfl⟩)
    go_ret
    exact ⟨rfl, rfl⟩
  · go_enter Tryz.func156, Tryz.ntmps156
    go_wp2_with (go_at_call 190; (with_reducible refine (i_minusZero _).mono ?_); rintro e w' ⟨rfl, rfl⟩)
    go_ret
    exact ⟨rfl, rfl⟩
/-- the quotient's value in the scale -/
def dQ (x y : Nat) : Int := qV (mv x) (mv y) (-149 + (pe x : Int)) (-149 + (pe y : Int)) (fv x) (fv y)
def zr (x : Nat) : Prop := x = 0 ∨ x = 2147483648
instance (x : Nat) : Decidable (zr x) := by unfold zr; infer_instance
def dvF (x y : Nat) (mode : Int) : Nat := if zr x then szF (mB x != mB y) else rF mode (dQ x y)
def dvL (x y : Nat) (mode : Int) : Int := if zr x then 0 else rFl mode (dQ x y)
theorem fv_nz {x : Nat} (hx : W x) (hz : ¬ zr x) : fv x ≠ 0 := by
  intro h
  unfold fv at h
  have h1 := dv_nz h
  unfold mv pm mg at h1
  unfold zr at hz
  unfold W at hx
  split at h1 <;> split at h1 <;> omega
set_option maxHeartbeats 4000000 in
theorem s_Divide (x y : Nat) (mode : Int) (w : World) (hx : W x) (hy : W y) (fx : fin x) (fy : fin y) (hz : ¬ zr y) (hmd : 0 ≤ mode ∧ mode ≤ 4) : Calls Tryz.prog 107 #[.float .f32 x, .float .f32 y, .int .i64 mode] w (RetV (.tuple #[.float .f32 (dvF x y mode), .int .i64 (dvL x y mode)]) w) := by
  have h0 := o_eq0 x hx
  have HNN := Hd.mk (And.intro (nan_fin fx) (nan_fin fy))
  by_cases hzx : zr x
  · have eF : dvF x y mode = szF (mB x != mB y) := if_pos hzx
    have eL : dvL x y mode = 0 := if_pos hzx
    rw [eF, eL]
    have hzd : decide (x = 0 ∨ x = 2147483648) = true := decide_eq_true hzx
    rw [hzd] at h0
    have HX := Hd.mk (And.intro hx hy)
    clear hx hy fx fy hz hmd eF eL hzx hzd
    go_enter Tryz.func107, Tryz.ntmps107
    go_wp2_with (first | (go_at_call 174; (with_reducible refine (s_Bit4 x _ HX.out.1 HNN.out.1).mono ?_); rintro e w' ⟨rfl, rfl⟩) | (go_at_call 174; (with_reducible refine (s_Bit4 y _ HX.out.2 HNN.out.2).mono ?_); rintro e w' ⟨rfl, rfl⟩) | (go_at_call 179; (with_reducible refine (s_Zero4 _ _).mono ?_); rintro e w' ⟨rfl, rfl⟩))
    go_ret2
    exact ⟨rfl, by (repeat (first | exact Below.refl _ _ | assumption | refine Below.drew ?_ | refine bdn ?_ | refine ba _ ?_ | refine bs0 _ _ ?_ ?_ | refine bs1 _ _ _ ?_ ?_ | refine bs2 _ _ _ _ ?_ ?_ | refine bs3 _ _ _ _ _ ?_ ?_ | refine bt3 (by assumption) ?_))⟩
  · have eF : dvF x y mode = rF mode (dQ x y) := if_neg hzx
    have eL : dvL x y mode = rFl mode (dQ x y) := if_neg hzx
    rw [eF, eL]
    have hzd : decide (x = 0 ∨ x = 2147483648) = false := decide_eq_false hzx
    rw [hzd] at h0
    have HX := Hd.mk (And.intro hx (And.intro fx (And.intro hy (And.intro fy (And.intro (fv_nz hx hzx) (And.intro (fv_nz hy hz) hmd))))))
    clear hx hy fx fy hz hmd eF eL hzx hzd
    generalize hp : rF mode (dQ x y) = p at *
    generalize hf : rFl mode (dQ x y) = f at *
    have HPF := Hd.mk (And.intro hp hf)
    unfold dQ at HPF
    clear hp hf
    go_enter Tryz.func107, Tryz.ntmps107
    go_wp2_with (first | (go_at_call 153; (with_reducible refine (s_DOf x _ HX.out.1 HX.out.2.1).mono ?_); rintro e3 w3 ⟨s3, A3, n3, c3, x3, rfl, hD, hb⟩; have HQ := Hd.mk (bt3 hb (by (repeat (first | exact Below.refl _ _ | assumption | refine Below.drew ?_ | refine bdn ?_ | refine ba _ ?_ | refine bs0 _ _ ?_ ?_ | refine bs1 _ _ _ ?_ ?_ | refine bs2 _ _ _ _ ?_ ?_ | refine bs3 _ _ _ _ _ ?_ ?_ | refine bt3 (by assumption) ?_)) : Below w.heap.size w _)); have H3 := Hd.mk hD.dp; clear hD hb) | (go_at_call 153; (with_reducible refine (s_DOf y _ HX.out.2.2.1 HX.out.2.2.2.1).mono ?_); rintro e4 w4 ⟨s4, A4, n4, c4, x4, rfl, hD, hb⟩; have hb := bt3 hb (show Below w3.heap.size w3 _ by (repeat (first | exact Below.refl _ _ | assumption | refine Below.drew ?_ | refine bdn ?_ | refine ba _ ?_ | refine bs0 _ _ ?_ ?_ | refine bs1 _ _ _ ?_ ?_ | refine bs2 _ _ _ _ ?_ ?_ | refine bs3 _ _ _ _ _ ?_ ?_ | refine bt3 (by assumption) ?_))); replace H3 := Hd.mk (H3.out.below hb); replace HQ := Hd.mk (bt3 hb HQ.out); obtain ⟨a, hWa, hFa⟩ := H3.out; obtain ⟨b, hWb, hFb⟩ := hD.dp; obtain ⟨ha0, hab, ha1, ha2⟩ := dyf_float HX.out.2.1 hFa HX.out.2.2.2.2.1; obtain ⟨hb0, hbb, hb1, hb2⟩ := dyf_float HX.out.2.2.2.1 hFb HX.out.2.2.2.2.2.1; obtain ⟨yy, hn1, hyy, hbe, ht4, hWD⟩ := one_limb hWb hb0 hbb; subst hn1; obtain ⟨xs, hWX⟩ := hWa.opened; have HRT := Hd.mk (fun (w' : World) (h : Below w4.heap.size w4 w') => s_Ratio s3 s4 x3 x4 A3 A4 n3 c3 c4 xs a yy w' (hWX.below h) (hWD.below h) ht4 hyy hab ha0 ⟨by omega, by omega⟩ ⟨by omega, by omega⟩); have HSM := Hd.mk (div_same (mode := mode) HX.out.2.1 HX.out.2.2.2.1 hFa hFb HX.out.2.2.2.2.1 HX.out.2.2.2.2.2.1 hbe ht4 hyy); clear hD hb hWa hFa hWb hFb ha0 hab ha1 ha2 hb0 hbb hb1 hb2 hyy hbe ht4 hWD hWX H3) | (go_at_call 180; (with_reducible refine (HRT.out _ (by (repeat (first | exact Below.refl _ _ | assumption | refine Below.drew ?_ | refine bdn ?_ | refine ba _ ?_ | refine bs0 _ _ ?_ ?_ | refine bs1 _ _ _ ?_ ?_ | refine bs2 _ _ _ _ ?_ ?_ | refine bs3 _ _ _ _ _ ?_ ?_ | refine bt3 (by assumption) ?_)))).mono ?_); rintro e5 w5 ⟨s5, A5, n5, c5, x5, rfl, hD, hb⟩; replace HQ := Hd.mk (bt3 hb (bt3 (by (repeat (first | exact Below.refl _ _ | assumption | refine Below.drew ?_ | refine bdn ?_ | refine ba _ ?_ | refine bs0 _ _ ?_ ?_ | refine bs1 _ _ _ ?_ ?_ | refine bs2 _ _ _ _ ?_ ?_ | refine bs3 _ _ _ _ _ ?_ ?_ | refine bt3 (by assumption) ?_))) HQ.out)); have H5 := Hd.mk hD.dp; clear hD hb) | (go_at_call 155; (with_reducible refine (s_RoundR s5 A5 n5 c5 x5 _ mode 2000 _ p f (H5.out.below (by (repeat (first | exact Below.refl _ _ | assumption | refine Below.drew ?_ | refine bdn ?_ | refine ba _ ?_ | refine bs0 _ _ ?_ ?_ | refine bs1 _ _ _ ?_ ?_ | refine bs2 _ _ _ _ ?_ ?_ | refine bs3 _ _ _ _ _ ?_ ?_ | refine bt3 (by assumption) ?_)))) HX.out.2.2.2.2.2.2 (HSM.out.1.trans HPF.out.1) (HSM.out.2.trans HPF.out.2)).mono ?_); rintro e6 w6 ⟨rfl, hb⟩; replace HQ := Hd.mk (bt3 hb (bt3 (by (repeat (first | exact Below.refl _ _ | assumption | refine Below.drew ?_ | refine bdn ?_ | refine ba _ ?_ | refine bs0 _ _ ?_ ?_ | refine bs1 _ _ _ ?_ ?_ | refine bs2 _ _ _ _ ?_ ?_ | refine bs3 _ _ _ _ _ ?_ ?_ | refine bt3 (by assumption) ?_))) HQ.out)); clear hb))
    go_ret2
    exact ⟨rfl, bt3 (by (repeat (first | exact Below.refl _ _ | assumption | refine Below.drew ?_ | refine bdn ?_ | refine ba _ ?_ | refine bs0 _ _ ?_ ?_ | refine bs1 _ _ _ ?_ ?_ | refine bs2 _ _ _ _ ?_ ?_ | refine bs3 _ _ _ _ _ ?_ ?_ | refine bt3 (by assumption) ?_))) HQ.out⟩
set_option maxHeartbeats 4000000 in
theorem i_divIn (x y : Nat) (mode : Int) (w : World) (hx : W x) (hy : W y) (fx : fin x) (fy : fin y) (hz : ¬ zr y) (hmd : 0 ≤ mode ∧ mode ≤ 4) : Calls Tryz.prog 91 #[.float .f32 x, .float .f32 y, .int .i64 mode] w (RetV (.tuple #[.float .f32 (dvF x y mode), .int .i64 (dvL x y mode)]) w) := by
  have h0 := o_eq0 x hx
  by_cases hzx : zr x
  · have eF : dvF x y mode = szF (mB x != mB y) := if_pos hzx
    have eL : dvL x y mode = 0 := if_pos hzx
    rw [eF, eL]
    have hzd : decide (x = 0 ∨ x = 2147483648) = true := decide_eq_true hzx
    rw [hzd] at h0
    have HX := Hd.mk (And.intro hx hy)
    clear hx hy fx fy hz hmd eF eL hzx hzd
    go_enter Tryz.func91, Tryz.ntmps91
    go_wp2_with (first | (go_at_call 115; (with_reducible refine (i_minus x _).mono ?_); rintro e w' ⟨rfl, rfl⟩) | (go_at_call 115; (with_reducible refine (i_minus y _).mono ?_); rintro e w' ⟨rfl, rfl⟩) | (go_at_call 156; (with_reducible refine (i_sZero _ _).mono ?_); rintro e w' ⟨rfl, rfl⟩))
    go_ret2
    exact ⟨rfl, by (repeat (first | exact Below.refl _ _ | assumption | refine Below.drew ?_ | refine bdn ?_ | refine ba _ ?_ | refine bs0 _ _ ?_ ?_ | refine bs1 _ _ _ ?_ ?_ | refine bs2 _ _ _ _ ?_ ?_ | refine bs3 _ _ _ _ _ ?_ ?_ | refine bt3 (by assumption) ?_))⟩
  · have eF : dvF x y mode = rF mode (dQ x y) := if_neg hzx
    have eL : dvL x y mode = rFl mode (dQ x y) := if_neg hzx
    rw [eF, eL]
    have hzd : decide (x = 0 ∨ x = 2147483648) = false := decide_eq_false hzx
    rw [hzd] at h0
    have hmx := mv_lt x
    have hmy := mv_lt y
    have hx0 := fv_nz hx hzx
    have hy0 := fv_nz hy hz
    have hmx0 : mv x ≠ 0 := fun k => hx0 (by unfold fv; rw [k]; unfold dv; simp)
    have hmy0 : mv y ≠ 0 := fun k => hy0 (by unfold fv; rw [k]; unfold dv; simp)
    have e24 : (2 : Nat) ^ 24 = 16777216 := by decide
    have hbx : bln (mv x).natAbs ≤ 24 := bln_le (by omega)
    have hby : bln (mv y).natAbs ≤ 24 := bln_le (by omega)
    have hpx := pe_le fx
    have hpy := pe_le fy
    have HQT := Hd.mk (fun (ga gb : Nat) (w : World) hA hB => n_Quo ga gb (-149 + (pe x : Int)) (-149 + (pe y : Int)) (mv x) (mv y) (fv x) (fv y) 149 149 w hA hB (nuF_float fx) (nuF_float fy) hbx hby hmx0 hmy0 ⟨by omega, by omega⟩ ⟨by omega, by omega⟩)
    have HX := Hd.mk (And.intro hx (And.intro fx (And.intro hy (And.intro fy (And.intro hx0 (And.intro hy0 hmd))))))
    clear hx hy fx fy hz hmd eF eL hzx hzd hmx hmy hx0 hy0 hmx0 hmy0 e24 hbx hby hpx hpy
    generalize hp : rF mode (dQ x y) = p at *
    generalize hf : rFl mode (dQ x y) = f at *
    have HPF := Hd.mk (And.intro hp hf)
    unfold dQ at HPF
    clear hp hf
    go_enter Tryz.func91, Tryz.ntmps91
    go_wp2_with (first | (go_at_call 111; (with_reducible refine (n_OfE x _ HX.out.1 HX.out.2.1).mono ?_); rintro e3 w3 ⟨g3, rfl, hB, hb⟩; have HQ := Hd.mk (bt3 hb (by (repeat (first | exact Below.refl _ _ | assumption | refine Below.drew ?_ | refine bdn ?_ | refine ba _ ?_ | refine bs0 _ _ ?_ ?_ | refine bs1 _ _ _ ?_ ?_ | refine bs2 _ _ _ _ ?_ ?_ | refine bs3 _ _ _ _ _ ?_ ?_ | refine bt3 (by assumption) ?_)) : Below w.heap.size w _)); have H3 := Hd.mk hB; clear hB hb) | (go_at_call 111; (with_reducible refine (n_OfE y _ HX.out.2.2.1 HX.out.2.2.2.1).mono ?_); rintro e4 w4 ⟨g4, rfl, hB, hb⟩; have hb := bt3 hb (show Below w3.heap.size w3 _ by (repeat (first | exact Below.refl _ _ | assumption | refine Below.drew ?_ | refine bdn ?_ | refine ba _ ?_ | refine bs0 _ _ ?_ ?_ | refine bs1 _ _ _ ?_ ?_ | refine bs2 _ _ _ _ ?_ ?_ | refine bs3 _ _ _ _ _ ?_ ?_ | refine bt3 (by assumption) ?_))); replace H3 := Hd.mk (H3.out.below hb); have H4 := Hd.mk hB; replace HQ := Hd.mk (bt3 hb HQ.out); clear hB hb) | (go_at_call 157; (with_reducible refine (HQT.out g3 g4 _ (H3.out.below (by (repeat (first | exact Below.refl _ _ | assumption | refine Below.drew ?_ | refine bdn ?_ | refine ba _ ?_ | refine bs0 _ _ ?_ ?_ | refine bs1 _ _ _ ?_ ?_ | refine bs2 _ _ _ _ ?_ ?_ | refine bs3 _ _ _ _ _ ?_ ?_ | refine bt3 (by assumption) ?_)))) (H4.out.below (by (repeat (first | exact Below.refl _ _ | assumption | refine Below.drew ?_ | refine bdn ?_ | refine ba _ ?_ | refine bs0 _ _ ?_ ?_ | refine bs1 _ _ _ ?_ ?_ | refine bs2 _ _ _ _ ?_ ?_ | refine bs3 _ _ _ _ _ ?_ ?_ | refine bt3 (by assumption) ?_))))).mono ?_); rintro e5 w5 ⟨g5, x5, rfl, hN, hb⟩; replace HQ := Hd.mk (bt3 hb (bt3 (by (repeat (first | exact Below.refl _ _ | assumption | refine Below.drew ?_ | refine bdn ?_ | refine ba _ ?_ | refine bs0 _ _ ?_ ?_ | refine bs1 _ _ _ ?_ ?_ | refine bs2 _ _ _ _ ?_ ?_ | refine bs3 _ _ _ _ _ ?_ ?_ | refine bt3 (by assumption) ?_))) HQ.out)); have H5 := Hd.mk hN; clear hN hb) | (go_at_call 117; (with_reducible refine (n_RoundR g5 x5 _ mode 1000 _ p f (H5.out.below (by (repeat (first | exact Below.refl _ _ | assumption | refine Below.drew ?_ | refine bdn ?_ | refine ba _ ?_ | refine bs0 _ _ ?_ ?_ | refine bs1 _ _ _ ?_ ?_ | refine bs2 _ _ _ _ ?_ ?_ | refine bs3 _ _ _ _ _ ?_ ?_ | refine bt3 (by assumption) ?_)))) HX.out.2.2.2.2.2.2 HPF.out.1 HPF.out.2).mono ?_); rintro e6 w6 ⟨rfl, hb⟩; replace HQ := Hd.mk (bt3 hb (bt3 (by (repeat (first | exact Below.refl _ _ | assumption | refine Below.drew ?_ | refine bdn ?_ | refine ba _ ?_ | refine bs0 _ _ ?_ ?_ | refine bs1 _ _ _ ?_ ?_ | refine bs2 _ _ _ _ ?_ ?_ | refine bs3 _ _ _ _ _ ?_ ?_ | refine bt3 (by assumption) ?_))) HQ.out)); clear hb))
    go_ret2
    exact ⟨rfl, bt3 (by (repeat (first | exact Below.refl _ _ | assumption | refine Below.drew ?_ | refine bdn ?_ | refine ba _ ?_ | refine bs0 _ _ ?_ ?_ | refine bs1 _ _ _ ?_ ?_ | refine bs2 _ _ _ _ ?_ ?_ | refine bs3 _ _ _ _ _ ?_ ?_ | refine bt3 (by assumption) ?_))) HQ.out⟩
end Go.Proofs.YtflgjecpjaiecaaGreat
/- Contracts: the exported DivideIn, both sides. -/
set_option linter.unusedVariables false
set_option linter.unusedSimpArgs false
namespace Go.Proofs.YtflgjecpjaiecaaGreat
open Go.RowKit Num Flt
def diC (x y : Nat) (mode : Int) : Int := if fin x ∧ fin y then (if modeB mode = true then (if zr y then 5 else 0) else 2) else 1
def diF (x y : Nat) (mode : Int) : Nat := if diC x y mode = 0 then dvF x y mode else 0
def diL (x y : Nat) (mode : Int) : Int := if diC x y mode = 0 then dvL x y mode else 0
theorem di_no {x y : Nat} {mode c : Int} (h : diC x y mode = c) (hc : c ≠ 0) : diF x y mode = 0 ∧ diL x y mode = 0 := by
  unfold diF diL; rw [h, if_neg hc, if_neg hc]; exact ⟨rfl, rfl⟩
theorem di_yes {x y : Nat} {mode : Int} (h : diC x y mode = 0) : diF x y mode = dvF x y mode ∧ diL x y mode = dvL x y mode := by
  unfold diF diL; rw [if_pos h, if_pos h]; exact ⟨rfl, rfl⟩
theorem di_num (x y : Nat) (mode : Int) : ¬ nan (diF x y mode) := by
  unfold diF dvF
  split
  · split
    · exact (szF_num _).2
    · exact (rF_num _ _).2
  · decide
set_option maxHeartbeats 4000000 in
theorem s_DivideIn (x y : Nat) (mode : Int) (w : World) (hx : W x) (hy : W y) : Calls Tryz.prog 40 #[.float .f32 x, .float .f32 y, .int .i64 mode] w (RetV (.tuple #[.float .f32 (diF x y mode), .int .i64 (diL x y mode), .int .i64 (diC x y mode)]) w) := by
  have HT := Hd.mk (fun w => s_Two4 x y mode w)
  have h0 := o_eq0 y hy
  by_cases h12 : fin x ∧ fin y
  · cases hm : modeB mode
    · rw [tw_mode h12 hm] at HT
      have hc : diC x y mode = 2 := by unfold diC; rw [if_pos h12, hm]; rfl
      rw [(di_no hc (by decide)).1, (di_no hc (by decide)).2, hc]
      clear h12 hm hx hy hc h0
      go_enter Tryz.func40, Tryz.ntmps40
      go_wp2_with (go_at_call 85; (with_reducible refine (HT.out _).mono ?_); rintro e w' ⟨rfl, ⟨nd, rfl⟩⟩)
      refine bodyPost_ret (v := .tuple #[.float .f32 0, .int .i64 0, .int .i64 2]) (by simp (maxDischargeDepth := 7) [results, Tryz.results40, go_sem]) rfl ⟨rfl, ?_⟩
      (repeat (first | exact Below.refl _ _ | assumption | refine Below.drew ?_ | refine bdn ?_ | refine ba _ ?_ | refine bs0 _ _ ?_ ?_ | refine bs1 _ _ _ ?_ ?_ | refine bs2 _ _ _ _ ?_ ?_ | refine bs3 _ _ _ _ _ ?_ ?_ | refine bt3 (by assumption) ?_))
    · rw [tw_good h12 hm] at HT
      by_cases hz : zr y
      · have hc : diC x y mode = 5 := by unfold diC; rw [if_pos h12, hm, if_pos hz]; rfl
        rw [(di_no hc (by decide)).1, (di_no hc (by decide)).2, hc]
        have hzd : decide (y = 0 ∨ y = 2147483648) = true := decide_eq_true hz
        rw [hzd] at h0
        clear h12 hm hx hy hc hz hzd
        go_enter Tryz.func40, Tryz.ntmps40
        go_wp2_with (go_at_call 85; (with_reducible refine (HT.out _).mono ?_); rintro e w' ⟨rfl, ⟨nd, rfl⟩⟩)
        refine bodyPost_ret (v := .tuple #[.float .f32 0, .int .i64 0, .int .i64 5]) (by simp (maxDischargeDepth := 7) [results, Tryz.results40, go_sem]) rfl ⟨rfl, ?_⟩
        (repeat (first | exact Below.refl _ _ | assumption | refine Below.drew ?_ | refine bdn ?_ | refine ba _ ?_ | refine bs0 _ _ ?_ ?_ | refine bs1 _ _ _ ?_ ?_ | refine bs2 _ _ _ _ ?_ ?_ | refine bs3 _ _ _ _ _ ?_ ?_ | refine bt3 (by assumption) ?_))
      · have hc : diC x y mode = 0 := by unfold diC; rw [if_pos h12, hm, if_neg hz]; rfl
        rw [(di_yes hc).1, (di_yes hc).2, hc]
        have HD := Hd.mk (fun w => s_Divide x y mode w hx hy h12.1 h12.2 hz (modeB_of hm))
        have hzd : decide (y = 0 ∨ y = 2147483648) = false := decide_eq_false hz
        rw [hzd] at h0
        clear h12 hm hx hy hc hz hzd
        generalize dvF x y mode = p at *
        generalize dvL x y mode = f at *
        go_enter Tryz.func40, Tryz.ntmps40
        go_wp2_with (first | (go_at_call 85; (with_reducible refine (HT.out _).mono ?_); rintro e w' ⟨rfl, ⟨nd, rfl⟩⟩) | (go_at_call 107; (with_reducible refine (HD.out _).mono ?_); rintro e w' ⟨rfl, hb⟩; (try replace hb := bt3 hb (by assumption)); obtain ⟨hc, hf, hz, hy⟩ := bcell hb; have hs := hb.size; (try simp at hs); (try have h0 : w.heap.size < w'.heap.size := by omega); (try have h1 : w.heap.size + 1 < w'.heap.size := by omega); (try have h2 : w.heap.size + 1 + 1 < w'.heap.size := by omega); (try have h3 : w.heap.size + 1 + 1 + 1 < w'.heap.size := by omega); clear hs))
        refine bodyPost_ret (v := .tuple #[.float .f32 p, .int .i64 f, .int .i64 0]) (by simp (maxDischargeDepth := 7) [results, Tryz.results40, go_sem]) rfl ⟨rfl, ?_⟩
        (repeat (first | exact Below.refl _ _ | assumption | refine Below.drew ?_ | refine bdn ?_ | refine ba _ ?_ | refine bs0 _ _ ?_ ?_ | refine bs1 _ _ _ ?_ ?_ | refine bs2 _ _ _ _ ?_ ?_ | refine bs3 _ _ _ _ _ ?_ ?_ | refine bt3 (by assumption) ?_))
  · rw [tw_bad mode h12] at HT
    have hc : diC x y mode = 1 := by unfold diC; rw [if_neg h12]
    rw [(di_no hc (by decide)).1, (di_no hc (by decide)).2, hc]
    clear h12 hx hy hc h0
    go_enter Tryz.func40, Tryz.ntmps40
    go_wp2_with (go_at_call 85; (with_reducible refine (HT.out _).mono ?_); rintro e w' ⟨rfl, ⟨nd, rfl⟩⟩)
    refine bodyPost_ret (v := .tuple #[.float .f32 0, .int .i64 0, .int .i64 1]) (by simp (maxDischargeDepth := 7) [results, Tryz.results40, go_sem]) rfl ⟨rfl, ?_⟩
    (repeat (first | exact Below.refl _ _ | assumption | refine Below.drew ?_ | refine bdn ?_ | refine ba _ ?_ | refine bs0 _ _ ?_ ?_ | refine bs1 _ _ _ ?_ ?_ | refine bs2 _ _ _ _ ?_ ?_ | refine bs3 _ _ _ _ _ ?_ ?_ | refine bt3 (by assumption) ?_))
set_option maxHeartbeats 4000000 in
theorem i_DivideIn (x y : Nat) (mode : Int) (w : World) (hx : W x) (hy : W y) : Calls Tryz.prog 39 #[.float .f32 x, .float .f32 y, .int .i64 mode] w (RetV (.tuple #[.float .f32 (diF x y mode), .int .i64 (diL x y mode), .int .i64 (diC x y mode)]) w) := by
  have HM := Hd.mk (fun w => i_Mode mode w)
  have h0 := o_eq0 y hy
  have HX := Hd.mk (And.intro hx hy)
  by_cases h12 : fin x ∧ fin y
  · have p1 : decide (fin x) = true := decide_eq_true h12.1
    have p2 : decide (fin y) = true := decide_eq_true h12.2
    cases hm : modeB mode
    · rw [hm] at HM
      have hc : diC x y mode = 2 := by unfold diC; rw [if_pos h12, hm]; rfl
      rw [(di_no hc (by decide)).1, (di_no hc (by decide)).2, hc]
      clear h12 hm hx hy hc h0
      go_enter Tryz.func39, Tryz.ntmps39
      go_wp2_with (first | (go_at_call 88; (with_reducible refine (i_areFinite2 w.heap.size 2 x y _ HX.out.1 HX.out.2 (by go_simp) (by go_simp)).mono ?_); rintro e w' ⟨rfl, rfl⟩) | (go_at_call 102; (with_reducible refine (HM.out _).mono ?_); rintro e w' ⟨rfl, rfl⟩))
      refine bodyPost_ret (v := .tuple #[.float .f32 0, .int .i64 0, .int .i64 2]) (by simp (maxDischargeDepth := 7) [results, Tryz.results39, go_sem]) rfl ⟨rfl, ?_⟩
      (repeat (first | exact Below.refl _ _ | assumption | refine Below.drew ?_ | refine bdn ?_ | refine ba _ ?_ | refine bs0 _ _ ?_ ?_ | refine bs1 _ _ _ ?_ ?_ | refine bs2 _ _ _ _ ?_ ?_ | refine bs3 _ _ _ _ _ ?_ ?_ | refine bt3 (by assumption) ?_))
    · rw [hm] at HM
      by_cases hz : zr y
      · have hc : diC x y mode = 5 := by unfold diC; rw [if_pos h12, hm, if_pos hz]; rfl
        rw [(di_no hc (by decide)).1, (di_no hc (by decide)).2, hc]
        have hzd : decide (y = 0 ∨ y = 2147483648) = true := decide_eq_true hz
        rw [hzd] at h0
        clear h12 hm hx hy hc hz hzd
        go_enter Tryz.func39, Tryz.ntmps39
        go_wp2_with (first | (go_at_call 88; (with_reducible refine (i_areFinite2 w.heap.size 2 x y _ HX.out.1 HX.out.2 (by go_simp) (by go_simp)).mono ?_); rintro e w' ⟨rfl, rfl⟩) | (go_at_call 102; (with_reducible refine (HM.out _).mono ?_); rintro e w' ⟨rfl, rfl⟩))
        refine bodyPost_ret (v := .tuple #[.float .f32 0, .int .i64 0, .int .i64 5]) (by simp (maxDischargeDepth := 7) [results, Tryz.results39, go_sem]) rfl ⟨rfl, ?_⟩
        (repeat (first | exact Below.refl _ _ | assumption | refine Below.drew ?_ | refine bdn ?_ | refine ba _ ?_ | refine bs0 _ _ ?_ ?_ | refine bs1 _ _ _ ?_ ?_ | refine bs2 _ _ _ _ ?_ ?_ | refine bs3 _ _ _ _ _ ?_ ?_ | refine bt3 (by assumption) ?_))
      · have hc : diC x y mode = 0 := by unfold diC; rw [if_pos h12, hm, if_neg hz]; rfl
        rw [(di_yes hc).1, (di_yes hc).2, hc]
        have HD := Hd.mk (fun w => i_divIn x y mode w hx hy h12.1 h12.2 hz (modeB_of hm))
        have hzd : decide (y = 0 ∨ y = 2147483648) = false := decide_eq_false hz
        rw [hzd] at h0
        clear h12 hm hx hy hc hz hzd
        generalize dvF x y mode = p at *
        generalize dvL x y mode = f at *
        go_enter Tryz.func39, Tryz.ntmps39
        go_wp2_with (first | (go_at_call 88; (with_reducible refine (i_areFinite2 w.heap.size 2 x y _ HX.out.1 HX.out.2 (by go_simp) (by go_simp)).mono ?_); rintro e w' ⟨rfl, rfl⟩) | (go_at_call 102; (with_reducible refine (HM.out _).mono ?_); rintro e w' ⟨rfl, rfl⟩) | (go_at_call 91; (with_reducible refine (HD.out _).mono ?_); rintro e w' ⟨rfl, hb⟩; (try replace hb := bt3 hb (by assumption)); obtain ⟨hc, hf, hz, hy⟩ := bcell hb; have hs := hb.size; (try simp at hs); (try have h0 : w.heap.size < w'.heap.size := by omega); (try have h1 : w.heap.size + 1 < w'.heap.size := by omega); (try have h2 : w.heap.size + 1 + 1 < w'.heap.size := by omega); (try have h3 : w.heap.size + 1 + 1 + 1 < w'.heap.size := by omega); clear hs))
        refine bodyPost_ret (v := .tuple #[.float .f32 p, .int .i64 f, .int .i64 0]) (by simp (maxDischargeDepth := 7) [results, Tryz.results39, go_sem]) rfl ⟨rfl, ?_⟩
        (repeat (first | exact Below.refl _ _ | assumption | refine Below.drew ?_ | refine bdn ?_ | refine ba _ ?_ | refine bs0 _ _ ?_ ?_ | refine bs1 _ _ _ ?_ ?_ | refine bs2 _ _ _ _ ?_ ?_ | refine bs3 _ _ _ _ _ ?_ ?_ | refine bt3 (by assumption) ?_))
  · have hc : diC x y mode = 1 := by unfold diC; rw [if_neg h12]
    rw [(di_no hc (by decide)).1, (di_no hc (by decide)).2, hc]
    have p1 : (decide (fin x) && decide (fin y)) = false := by
      cases h1 : decide (fin x)
      · rfl
      · cases h2 : decide (fin y)
        · rfl
        · exact absurd ⟨of_decide_eq_true h1, of_decide_eq_true h2⟩ h12
    have HA := Hd.mk (fun (g c : Nat) (w : World) c0 c1 => i_areFinite2 g c x y w hx hy c0 c1)
    rw [p1] at HA
    clear h12 hx hy hc h0 p1
    go_enter Tryz.func39, Tryz.ntmps39
    go_wp2_with (go_at_call 88; (with_reducible refine (HA.out w.heap.size 2 _ (by go_simp) (by go_simp)).mono ?_); rintro e w' ⟨rfl, rfl⟩)
    refine bodyPost_ret (v := .tuple #[.float .f32 0, .int .i64 0, .int .i64 1]) (by simp (maxDischargeDepth := 7) [results, Tryz.results39, go_sem]) rfl ⟨rfl, ?_⟩
    (repeat (first | exact Below.refl _ _ | assumption | refine Below.drew ?_ | refine bdn ?_ | refine ba _ ?_ | refine bs0 _ _ ?_ ?_ | refine bs1 _ _ _ ?_ ?_ | refine bs2 _ _ _ _ ?_ ?_ | refine bs3 _ _ _ _ _ ?_ ?_ | refine bt3 (by assumption) ?_))
end Go.Proofs.YtflgjecpjaiecaaGreat
