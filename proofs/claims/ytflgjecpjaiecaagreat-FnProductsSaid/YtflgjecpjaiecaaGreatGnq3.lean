/- Gn: N4 S28, merged. -/
import Derived.Test.YtflgjecpjaiecaaGreatGkq3
import Derived.Test.YtflgjecpjaiecaaGreatGmq3
/- Plain facts: the language's float operations are the rounding to the nearest. -/
set_option linter.unusedVariables false
set_option linter.unusedSimpArgs false
set_option exponentiation.threshold 30000
namespace Go.Proofs.YtflgjecpjaiecaaGreat
open Go.RowKit Num Flt
theorem cut_even (neg : Bool) (n d : Nat) (hn : n ≠ 0) : Ieee.Toward.even.cut neg n d = n / 2 ^ d + (if n % 2 ^ d = 0 then false else decide (2 ^ d < 2 * (n % 2 ^ d)) || (decide (2 ^ d = 2 * (n % 2 ^ d)) && decide (n / 2 ^ d % 2 = 1))).toNat := by
  unfold Ieee.Toward.cut
  dsimp only
  rw [Nat.one_shiftLeft]
  have hlt : n < 2 ^ (n.log2 + 1) := Nat.lt_log2_self
  rcases Nat.le_total d (n.log2 + 2) with h | h
  · rw [Nat.min_eq_left h]
    have hp := Nat.two_pow_pos d
    by_cases hz : n % 2 ^ d = 0
    · rw [if_pos hz, hz]
      have e1 : decide (2 ^ d < 2 * 0) = false := decide_eq_false (by omega)
      have e2 : (2 ^ d == 2 * 0) = false := by rw [beq_eq_false_iff_ne]; omega
      rw [e1, e2]; rfl
    · rw [if_neg hz]
      congr 2
  · rw [Nat.min_eq_right h]
    have hp2 : 2 ^ (n.log2 + 2) = 2 * 2 ^ (n.log2 + 1) := by rw [Nat.pow_succ _ (n.log2 + 1), Nat.mul_comm]
    have hp3 : 2 ^ (n.log2 + 2) ≤ 2 ^ d := Nat.pow_le_pow_right (by decide) h
    generalize 2 ^ (n.log2 + 2) = P at *
    generalize 2 ^ (n.log2 + 1) = Q at *
    generalize 2 ^ d = D at *
    rw [Nat.div_eq_of_lt (by omega), Nat.mod_eq_of_lt (by omega), Nat.div_eq_of_lt (show n < D by omega), Nat.mod_eq_of_lt (show n < D by omega), if_neg hn]
    have e1 : decide (P < 2 * n) = false := decide_eq_false (by omega)
    have e2 : (P == 2 * n) = false := by rw [beq_eq_false_iff_ne]; omega
    have e3 : decide (D < 2 * n) = false := decide_eq_false (by omega)
    have e4 : decide (D = 2 * n) = false := decide_eq_false (by omega)
    rw [e1, e2, e3, e4]; rfl
/-- rounding to the nearest: the language's and that of magnitudes -/
theorem up_even (neg : Bool) (n d r : Nat) (hq : rqN (n * 2 ^ r) = d + r) : rmN 0 neg (n * 2 ^ r) = n / 2 ^ d + (if n % 2 ^ d = 0 then false else decide (2 ^ d < 2 * (n % 2 ^ d)) || (decide (2 ^ d = 2 * (n % 2 ^ d)) && decide (n / 2 ^ d % 2 = 1))).toNat := by
  have hr := Nat.two_pow_pos r
  have e1 : rtN (n * 2 ^ r) = n / 2 ^ d := by unfold rtN; rw [hq, Nat.pow_add, Nat.mul_div_mul_right _ _ hr]
  have e2 : rrN (n * 2 ^ r) = n % 2 ^ d * 2 ^ r := by unfold rrN; rw [hq, Nat.pow_add, Nat.mul_mod_mul_right]
  unfold rmN upB
  rw [e1, e2, hq, Nat.pow_add]
  congr 2
  generalize n % 2 ^ d = x
  generalize 2 ^ d = D
  generalize 2 ^ r = R at *
  by_cases hx : x = 0
  · rw [if_pos hx, if_pos (by rw [hx, Nat.zero_mul])]
  · rw [if_neg hx, if_neg (by intro k; rcases Nat.mul_eq_zero.1 k with k | k <;> omega), if_pos rfl]
    have f1 : decide (D * R < 2 * (x * R)) = decide (D < 2 * x) := decide_eq_decide.2 (by rw [← Nat.mul_assoc]; exact Nat.mul_lt_mul_right hr)
    have f2 : decide (D * R = 2 * (x * R)) = decide (D = 2 * x) := decide_eq_decide.2 (by rw [← Nat.mul_assoc]; exact Nat.mul_left_inj (by omega))
    rw [f1, f2]
theorem rung_ge {M : Nat} {neg : Bool} (h : ovB 0 neg M = true) : 2139095040 ≤ (rqN M - 19851) * 8388608 + rmN 0 neg M := by
  unfold ovB at h
  have h1 := of_decide_eq_true h
  have h2 := rmN_le 0 neg M
  have h24 : (2 : Nat) ^ 24 = 16777216 := by decide
  have h23 : (2 : Nat) ^ 23 = 8388608 := by decide
  have h3 : bln (rmN 0 neg M) ≤ 25 := bln_le (by rw [show (2 : Nat) ^ 25 = 33554432 by decide]; omega)
  have h4 := rmN_ge (M := M) 0 neg (by omega)
  rcases Nat.lt_or_ge 20104 (rqN M) with h5 | h5
  · omega
  · have h6 : ¬ rmN 0 neg M < 2 ^ 24 := fun k => by have := bln_le k; omega
    omega
theorem nearest_rg (neg : Bool) {m : Nat} (hm : m ≠ 0) {p : Int} (hp : -20000 ≤ p) : Ieee.single.nearest neg m p = Ieee.single.word neg (rgN 0 neg (m * 2 ^ (p + 20000).toNat)) := by
  have hq := (rq_of hm hp).1
  have hb : (bln m : Int) = m.log2 + 1 := by unfold bln; rw [if_neg hm]; omega
  have hst : stB 0 neg = false := by unfold stB; simp
  have hB : Ieee.single.binade = 8388608 := by decide
  have hI : Ieee.single.infRung = 2139095040 := by decide
  have hL : Ieee.single.leastPlace = -149 := by decide
  have hF : (Ieee.single.fractionBits : Int) = 23 := by decide
  unfold Ieee.Format.nearest
  rw [if_neg hm, hB, hI, hL, hF]
  dsimp only
  congr 1
  have hlast : max (p + (m.log2 : Int) - 23) (-149) = (rqN (m * 2 ^ (p + 20000).toNat) : Int) - 20000 := by rw [hq, hb]; omega
  rw [hlast]
  generalize hM : m * 2 ^ (p + 20000).toNat = M at *
  have h19 : 19851 ≤ rqN M := by unfold rqN; omega
  have hk : Ieee.Toward.even.cut neg (m <<< (p - ((rqN M : Int) - 20000)).toNat) (((rqN M : Int) - 20000) - p).toNat = rmN 0 neg M := by
    rcases Int.le_total ((rqN M : Int) - 20000) p with h | h
    · obtain ⟨k, hk⟩ := Int.eq_ofNat_of_zero_le (show 0 ≤ p - ((rqN M : Int) - 20000) by omega)
      rw [hk, show (((rqN M : Int) - 20000) - p).toNat = 0 by omega, Int.toNat_natCast, Nat.shiftLeft_eq]
      have e : M = m * 2 ^ k * 2 ^ rqN M := by
        conv => lhs; rw [← hM]
        rw [Nat.mul_assoc, ← Nat.pow_add]; congr 2; omega
      rw [cut_even neg _ 0 (by have := Nat.two_pow_pos k; intro z; rcases Nat.mul_eq_zero.1 z with z | z <;> omega)]
      have := up_even neg (m * 2 ^ k) 0 (rqN M) (by rw [← e]; omega)
      rw [← e] at this
      rw [this]
    · obtain ⟨k, hk⟩ := Int.eq_ofNat_of_zero_le (show 0 ≤ ((rqN M : Int) - 20000) - p by omega)
      rw [hk, show (p - ((rqN M : Int) - 20000)).toNat = 0 by omega, Int.toNat_natCast, Nat.shiftLeft_eq, Nat.pow_zero, Nat.mul_one]
      rw [cut_even neg _ k hm]
      have := up_even neg m k (p + 20000).toNat (by rw [hM]; omega)
      rw [hM] at this
      rw [this]
  rw [hk, show ((rqN M : Int) - 20000 - -149).toNat = rqN M - 19851 by omega]
  unfold rgN
  cases ho : ovB 0 neg M
  · rw [if_neg (by decide)]
    exact Nat.min_eq_left (Nat.le_of_lt (rg_fin ho))
  · rw [if_pos rfl, hst, if_neg (by decide)]
    exact Nat.min_eq_right (rung_ge ho)
theorem sv_sv (a b : Nat) (s t : Bool) : sv s a * sv t b = sv (s != t) (a * b) := by
  unfold sv; cases s <;> cases t <;> simp [Int.neg_mul, Int.mul_neg]
theorem sgn_sv (u : Bool) (c : Nat) (hc : c ≠ 0) : decide (sv u c < 0) = u := by
  unfold sv; cases u
  · apply decide_eq_false; simp
  · apply decide_eq_true; simp; omega
theorem sg_eq {x : Nat} (h : W x) : sgf Ieee.single x = decide (2147483648 ≤ x) := by
  unfold sgf
  show (x / 2147483648 % 2 == 1) = _
  unfold W at h
  rw [Bool.eq_iff_iff]; simp; omega
/-- a finite float: its value -/
theorem mv_sv {x : Nat} (h : W x) : mv x = sv (sgf Ieee.single x) (pm x) := by
  rw [sg_eq h]
  unfold mv sv
  by_cases h1 : 2147483648 ≤ x
  · rw [decide_eq_true h1]
    by_cases h2 : 2147483648 < x
    · rw [if_pos h2, if_pos rfl]
    · obtain rfl : x = 2147483648 := by omega
      have : pm 2147483648 = 0 := by decide
      rw [this]; rfl
  · rw [decide_eq_false h1, if_neg (by omega), if_neg (by decide)]
theorem read_v {x : Nat} (h : fin x) : Ieee.single.read x = .number (sgf Ieee.single x) (pm x) (-149 + (pe x : Nat)) :=
  read_fin Ieee.single (by decide) (show x % Ieee.single.signWeight < Ieee.single.infRung from h)
theorem word_rF {neg : Bool} {V : Int} {mode : Int} (hV : V ≠ 0) (hn : decide (V < 0) = neg) : Ieee.single.word neg (rgN mode neg V.natAbs) = rF mode V := by
  unfold rF Ieee.Format.word
  rw [if_neg hV, hn]
  have hw : Ieee.single.signWeight = 2147483648 := by decide
  rw [hw]
  cases neg
  · have : ¬ V < 0 := of_decide_eq_false hn
    rw [if_neg this, if_neg (by decide), Nat.zero_add]
  · have : V < 0 := of_decide_eq_true hn
    rw [if_pos this, if_pos rfl]
theorem mulV_eq {x y : Nat} (fx : fin x) (fy : fin y) : mulV (fv x) (fv y) = dv (mv x * mv y) (-149 + (pe x : Int) + (-149 + (pe y : Int))) := by
  have e1 := pe_le fx
  have e2 := pe_le fy
  exact dv_mul (by omega) (by omega) (by omega)
/-- the language's product is the product rounded to the nearest -/
theorem mul_rF {x y : Nat} (hx : W x) (hy : W y) (fx : fin x) (fy : fin y) (h0 : mulV (fv x) (fv y) ≠ 0) : muF x y = rF 0 (mulV (fv x) (fv y)) := by
  have eP := mulV_eq fx fy
  have hm : mv x * mv y ≠ 0 := fun k => h0 (by rw [eP, k]; unfold dv; simp)
  have hmul : mv x * mv y = sv (sgf Ieee.single x) (pm x) * sv (sgf Ieee.single y) (pm y) := by rw [mv_sv hx, mv_sv hy]
  have hab : (mv x * mv y).natAbs = pm x * pm y := by
    rw [hmul, Int.natAbs_mul]
    have : ∀ (s : Bool) (a : Nat), (sv s a).natAbs = a := fun s a => by unfold sv; split <;> simp
    rw [this, this]
  have hneg : decide (mulV (fv x) (fv y) < 0) = (sgf Ieee.single x != sgf Ieee.single y) := by
    have e : decide (mulV (fv x) (fv y) < 0) = decide (mv x * mv y < 0) := decide_eq_decide.2 (by
      rw [eP]; unfold dv
      have hp := pow2_pos (-149 + (pe x : Int) + (-149 + (pe y : Int)) + SC).toNat
      constructor
      · intro h; by_cases hc : mv x * mv y < 0
        · exact hc
        · have := Int.mul_nonneg (show 0 ≤ mv x * mv y by omega) (Int.le_of_lt hp); omega
      · intro h; exact Int.mul_neg_of_neg_of_pos h hp)
    rw [e, hmul, sv_sv, sgn_sv _ _ (by rw [← hab]; omega)]
  rw [← word_rF h0 hneg]
  have hN : (mulV (fv x) (fv y)).natAbs = pm x * pm y * 2 ^ (-149 + (pe x : Int) + (-149 + (pe y : Int)) + 20000).toNat := by rw [eP, dv_abs, hab]
  rw [hN, ← nearest_rg _ (by rw [← hab]; omega) (by omega)]
  unfold muF
  have : floatBits .mul .f32 x y = some (Ieee.single.nearest (sgf Ieee.single x != sgf Ieee.single y) (pm x * pm y) (-149 + (pe x : Int) + (-149 + (pe y : Int)))) := by
    show Ieee.single.mul x y = _
    unfold Ieee.Format.mul
    rw [read_v fx, read_v fy]
    simp only [Ieee.Datum.product, Option.map, Ieee.Format.write]
  rw [this]; rfl
theorem fv_0 : fv 0 = 0 := by
  have h2 : mv 0 = 0 := by decide
  unfold fv; rw [h2]; unfold dv; simp
end Go.Proofs.YtflgjecpjaiecaaGreat
/- Contracts: short products of two floats, both sides. -/
set_option linter.unusedVariables false
set_option linter.unusedSimpArgs false
namespace Go.Proofs.YtflgjecpjaiecaaGreat
open Go.RowKit Num Flt
theorem mul_eq {x y : Nat} (hx : fin x) (hy : fin y) : floatBits .mul .f32 x y = some (muF x y) := (mul_some hx hy).1
/-- what the reference's short product holds behind the rest -/
structure PrH (w wx : World) (g : Nat) (s : Int) (A : Option Addr) (n c : Nat) (e R : Int) : Prop where
  bel : Below (Wp w).heap.size (Wp w) wx
  b1 : Blk wx g 66 #[.int .i64 s, .slice A n c, .int .i64 e]
  dy : DyP wx s A n c e R (149 + 149)
  lt : w.heap.size < g
theorem PrH.below {w wx w' : World} {g : Nat} {s : Int} {A : Option Addr} {n c : Nat} {e R : Int} (h : PrH w wx g s A n c e R) (hb : Below wx.heap.size wx w') : PrH w w' g s A n c e R :=
  ⟨bt3 hb h.bel, h.b1.below hb h.b1.lt, h.dy.below hb, h.lt⟩
end Go.Proofs.YtflgjecpjaiecaaGreat
