/- Gn: N4 S28, merged. -/
import Derived.Test.YtflgjecpjaiecaaGreatGkq4
import Derived.Test.YtflgjecpjaiecaaGreatGmq4
/- Plain facts: the language's float operations are the rounding to the nearest. -/
set_option linter.unusedVariables false
set_option linter.unusedSimpArgs false
set_option exponentiation.threshold 30000
namespace Go.Proofs.YtflgjecpjaiecaaGreat
open Go.RowKit Num Flt
theorem cut_even (neg : Bool) (n d : Nat) (hn : n ≠ 0) : Ieee.Toward.even.cut neg n d = n / 2 ^ d + (if n % 2 ^ d = 0 then false else decide (2 ^ d < 2 * (n % 2 ^ d)) || (decide (2 ^ d = 2 * (n % 2 ^ d)) && decide (n / 2 ^ d % 2 = 1))).toNat := by
  unfold Ieee.Toward.cut
  dsimp only
  rw [Nat.one_shiftLeft]
  have hlt : n < 2 ^ (n.log2 + 1) := Nat.lt_log2_self
  rcases Nat.le_total d (n.log2 + 2) with h | h
  · rw [Nat.min_eq_left h]
    have hp := Nat.two_pow_pos d
    by_cases hz : n % 2 ^ d = 0
    · rw [if_pos hz, hz]
      have e1 : decide (2 ^ d < 2 * 0) = false := decide_eq_false (by omega)
      have e2 : (2 ^ d == 2 * 0) = false := by rw [beq_eq_false_iff_ne]; omega
      rw [e1, e2]; rfl
    · rw [if_neg hz]
      congr 2
  · rw [Nat.min_eq_right h]
    have hp2 : 2 ^ (n.log2 + 2) = 2 * 2 ^ (n.log2 + 1) := by rw [Nat.pow_succ _ (n.log2 + 1), Nat.mul_comm]
    have hp3 : 2 ^ (n.log2 + 2) ≤ 2 ^ d := Nat.pow_le_pow_right (by decide) h
    generalize 2 ^ (n.log2 + 2) = P at *
    generalize 2 ^ (n.log2 + 1) = Q at *
    generalize 2 ^ d = D at *
    rw [Nat.div_eq_of_lt (by omega), Nat.mod_eq_of_lt (by omega), Nat.div_eq_of_lt (show n < D by omega), Nat.mod_eq_of_lt (show n < D by omega), if_neg hn]
    have e1 : decide (P < 2 * n) = false := decide_eq_false (by omega)
    have e2 : (P == 2 * n) = false := by rw [beq_eq_false_iff_ne]; omega
    have e3 : decide (D < 2 * n) = false := decide_eq_false (by omega)
    have e4 : decide (D = 2 * n) = false := decide_eq_false (by omega)
    rw [e1, e2, e3, e4]; rfl
/-- rounding to the nearest: the language's and that of magnitudes -/
theorem up_even (neg : Bool) (n d r : Nat) (hq : rqN (n * 2 ^ r) = d + r) : rmN 0 neg (n * 2 ^ r) = n / 2 ^ d + (if n % 2 ^ d = 0 then false else decide (2 ^ d < 2 * (n % 2 ^ d)) || (decide (2 ^ d = 2 * (n % 2 ^ d)) && decide (n / 2 ^ d % 2 = 1))).toNat := by
  have hr := Nat.two_pow_pos r
  have e1 : rtN (n * 2 ^ r) = n / 2 ^ d := by unfold rtN; rw [hq, Nat.pow_add, Nat.mul_div_mul_right _ _ hr]
  have e2 : rrN (n * 2 ^ r) = n % 2 ^ d * 2 ^ r := by unfold rrN; rw [hq, Nat.pow_add, Nat.mul_mod_mul_right]
  unfold rmN upB
  rw [e1, e2, hq, Nat.pow_add]
  congr 2
  generalize n % 2 ^ d = x
  generalize 2 ^ d = D
  generalize 2 ^ r = R at *
  by_cases hx : x = 0
  · rw [if_pos hx, if_pos (by rw [hx, Nat.zero_mul])]
  · rw [if_neg hx, if_neg (by intro k; rcases Nat.mul_eq_zero.1 k with k | k <;> omega), if_pos rfl]
    have f1 : decide (D * R < 2 * (x * R)) = decide (D < 2 * x) := decide_eq_decide.2 (by rw [← Nat.mul_assoc]; exact Nat.mul_lt_mul_right hr)
    have f2 : decide (D * R = 2 * (x * R)) = decide (D = 2 * x) := decide_eq_decide.2 (by rw [← Nat.mul_assoc]; exact Nat.mul_left_inj (by omega))
    rw [f1, f2]
theorem rung_ge {M : Nat} {neg : Bool} (h : ovB 0 neg M = true) : 2139095040 ≤ (rqN M - 19851) * 8388608 + rmN 0 neg M := by
  unfold ovB at h
  have h1 := of_decide_eq_true h
  have h2 := rmN_le 0 neg M
  have h24 : (2 : Nat) ^ 24 = 16777216 := by decide
  have h23 : (2 : Nat) ^ 23 = 8388608 := by decide
  have h3 : bln (rmN 0 neg M) ≤ 25 := bln_le (by rw [show (2 : Nat) ^ 25 = 33554432 by decide]; omega)
  have h4 := rmN_ge (M := M) 0 neg (by omega)
  rcases Nat.lt_or_ge 20104 (rqN M) with h5 | h5
  · omega
  · have h6 : ¬ rmN 0 neg M < 2 ^ 24 := fun k => by have := bln_le k; omega
    omega
theorem nearest_rg (neg : Bool) {m : Nat} (hm : m ≠ 0) {p : Int} (hp : -20000 ≤ p) : Ieee.single.nearest neg m p = Ieee.single.word neg (rgN 0 neg (m * 2 ^ (p + 20000).toNat)) := by
  have hq := (rq_of hm hp).1
  have hb : (bln m : Int) = m.log2 + 1 := by unfold bln; rw [if_neg hm]; omega
  have hst : stB 0 neg = false := by unfold stB; simp
  have hB : Ieee.single.binade = 8388608 := by decide
  have hI : Ieee.single.infRung = 2139095040 := by decide
  have hL : Ieee.single.leastPlace = -149 := by decide
  have hF : (Ieee.single.fractionBits : Int) = 23 := by decide
  unfold Ieee.Format.nearest
  rw [if_neg hm, hB, hI, hL, hF]
  dsimp only
  congr 1
  have hlast : max (p + (m.log2 : Int) - 23) (-149) = (rqN (m * 2 ^ (p + 20000).toNat) : Int) - 20000 := by rw [hq, hb]; omega
  rw [hlast]
  generalize hM : m * 2 ^ (p + 20000).toNat = M at *
  have h19 : 19851 ≤ rqN M := by unfold rqN; omega
  have hk : Ieee.Toward.even.cut neg (m <<< (p - ((rqN M : Int) - 20000)).toNat) (((rqN M : Int) - 20000) - p).toNat = rmN 0 neg M := by
    rcases Int.le_total ((rqN M : Int) - 20000) p with h | h
    · obtain ⟨k, hk⟩ := Int.eq_ofNat_of_zero_le (show 0 ≤ p - ((rqN M : Int) - 20000) by omega)
      rw [hk, show (((rqN M : Int) - 20000) - p).toNat = 0 by omega, Int.toNat_natCast, Nat.shiftLeft_eq]
      have e : M = m * 2 ^ k * 2 ^ rqN M := by
        conv => lhs; rw [← hM]
        rw [Nat.mul_assoc, ← Nat.pow_add]; congr 2; omega
      rw [cut_even neg _ 0 (by have := Nat.two_pow_pos k; intro z; rcases Nat.mul_eq_zero.1 z with z | z <;> omega)]
      have := up_even neg (m * 2 ^ k) 0 (rqN M) (by rw [← e]; omega)
      rw [← e] at this
      rw [this]
    · obtain ⟨k, hk⟩ := Int.eq_ofNat_of_zero_le (show 0 ≤ ((rqN M : Int) - 20000) - p by omega)
      rw [hk, show (p - ((rqN M : Int) - 20000)).toNat = 0 by omega, Int.toNat_natCast, Nat.shiftLeft_eq, Nat.pow_zero, Nat.mul_one]
      rw [cut_even neg _ k hm]
      have := up_even neg m k (p + 20000).toNat (by rw [hM]; omega)
      rw [hM] at this
      rw [this]
  rw [hk, show ((rqN M : Int) - 20000 - -149).toNat = rqN M - 19851 by omega]
  unfold rgN
  cases ho : ovB 0 neg M
  · rw [if_neg (by decide)]
    exact Nat.min_eq_left (Nat.le_of_lt (rg_fin ho))
  · rw [if_pos rfl, hst, if_neg (by decide)]
    exact Nat.min_eq_right (rung_ge ho)
theorem sg_eq {x : Nat} (h : W x) : sgf Ieee.single x = decide (2147483648 ≤ x) := by
  unfold sgf
  show (x / 2147483648 % 2 == 1) = _
  unfold W at h
  rw [Bool.eq_iff_iff]; simp; omega
/-- a finite float: its value -/
theorem mv_sv {x : Nat} (h : W x) : mv x = sv (sgf Ieee.single x) (pm x) := by
  rw [sg_eq h]
  unfold mv sv
  by_cases h1 : 2147483648 ≤ x
  · rw [decide_eq_true h1]
    by_cases h2 : 2147483648 < x
    · rw [if_pos h2, if_pos rfl]
    · obtain rfl : x = 2147483648 := by omega
      have : pm 2147483648 = 0 := by decide
      rw [this]; rfl
  · rw [decide_eq_false h1, if_neg (by omega), if_neg (by decide)]
theorem read_v {x : Nat} (h : fin x) : Ieee.single.read x = .number (sgf Ieee.single x) (pm x) (-149 + (pe x : Nat)) :=
  read_fin Ieee.single (by decide) (show x % Ieee.single.signWeight < Ieee.single.infRung from h)
theorem word_rF {neg : Bool} {V : Int} {mode : Int} (hV : V ≠ 0) (hn : decide (V < 0) = neg) : Ieee.single.word neg (rgN mode neg V.natAbs) = rF mode V := by
  unfold rF Ieee.Format.word
  rw [if_neg hV, hn]
  have hw : Ieee.single.signWeight = 2147483648 := by decide
  rw [hw]
  cases neg
  · have : ¬ V < 0 := of_decide_eq_false hn
    rw [if_neg this, if_neg (by decide), Nat.zero_add]
  · have : V < 0 := of_decide_eq_true hn
    rw [if_pos this, if_pos rfl]
/-- the value of a float that rounding gives -/
theorem fv_word {neg : Bool} {q r : Nat} (hr : r ≤ 16777216) (hq : q = 0 ∨ 8388608 ≤ r) (hf : q * 8388608 + r < 2139095040) : fv ((if neg = true then 2147483648 else 0) + (q * 8388608 + r)) = sv neg (r * 2 ^ (q + 19851)) := by
  have hmod : ((if neg = true then 2147483648 else 0) + (q * 8388608 + r)) % 2147483648 = q * 8388608 + r := by cases neg <;> simp <;> omega
  have hW : W ((if neg = true then 2147483648 else 0) + (q * 8388608 + r)) := by unfold W; cases neg <;> simp <;> omega
  unfold fv
  rw [mv_sv hW]
  have hs : sgf Ieee.single ((if neg = true then 2147483648 else 0) + (q * 8388608 + r)) = neg := by
    rw [sg_eq hW]; cases neg
    · apply decide_eq_false; simp; omega
    · apply decide_eq_true; simp
  rw [hs]
  have hV : pm ((if neg = true then 2147483648 else 0) + (q * 8388608 + r)) * 2 ^ pe ((if neg = true then 2147483648 else 0) + (q * 8388608 + r)) = r * 2 ^ q := by
    unfold pm pe
    rw [hmod, ← V_eq]
    rcases Nat.lt_or_ge r 16777216 with h | h
    · exact V_rung (by decide) q r (by omega) hq
    · obtain rfl : r = 16777216 := by omega
      have e : q * 8388608 + 16777216 = (q + 1) * 8388608 + 8388608 := by omega
      rw [e, V_rung (by decide) (q + 1) 8388608 (by omega) (Or.inr (Nat.le_refl _)), Nat.pow_succ]
      generalize 2 ^ q = Q
      omega
  generalize pm ((if neg = true then 2147483648 else 0) + (q * 8388608 + r)) = a at *
  generalize pe ((if neg = true then 2147483648 else 0) + (q * 8388608 + r)) = b at *
  have hsc : (SC : Nat) = 20000 := rfl
  have e1 : (-149 + (b : Int) + SC).toNat = b + 19851 := by omega
  unfold dv
  rw [e1, Nat.pow_add, ← Nat.mul_assoc, ← hV, Nat.mul_assoc, ← Nat.pow_add]
  rw [sv_mul]
  push_cast
  rfl
theorem fv_rF {mode V : Int} (hV : V ≠ 0) (ho : ovB mode (decide (V < 0)) V.natAbs = false) : fv (rF mode V) = sv (decide (V < 0)) (rmN mode (decide (V < 0)) V.natAbs * 2 ^ rqN V.natAbs) ∧ fin (rF mode V) := by
  have h24 : (2 : Nat) ^ 24 = 16777216 := by decide
  have h23 : (2 : Nat) ^ 23 = 8388608 := by decide
  have hg : rgN mode (decide (V < 0)) V.natAbs = (rqN V.natAbs - 19851) * 8388608 + rmN mode (decide (V < 0)) V.natAbs := by unfold rgN; rw [ho]; simp
  have hf := rg_fin ho
  have hle := rmN_le mode (decide (V < 0)) V.natAbs
  have hge := @rmN_ge V.natAbs mode (decide (V < 0))
  have h19 : 19851 ≤ rqN V.natAbs := by unfold rqN; omega
  rw [h24] at hle
  rw [h23] at hge
  unfold rF
  rw [if_neg hV, hg]
  generalize rmN mode (decide (V < 0)) V.natAbs = r at *
  have hn : (if V < 0 then 2147483648 else 0) = (if decide (V < 0) = true then 2147483648 else 0) := by simp
  rw [hn]
  generalize decide (V < 0) = neg at *
  generalize rqN V.natAbs = q at *
  have e : q = q - 19851 + 19851 := by omega
  constructor
  · rw [fv_word hle (by rcases Nat.lt_or_ge 19851 q with k | k; exact Or.inr (hge k); exact Or.inl (by omega)) hf, ← e]
  · unfold fin; cases neg <;> simp <;> omega
theorem sv_neg_abs (V : Int) : V = sv (decide (V < 0)) V.natAbs := by
  unfold sv
  by_cases h : V < 0
  · rw [decide_eq_true h, if_pos rfl]; omega
  · rw [decide_eq_false h, if_neg (by decide)]; omega
theorem rm_near (mode : Int) (neg : Bool) (M : Nat) : ((M : Int) - (rmN mode neg M * 2 ^ rqN M : Nat)).natAbs ≤ 2 ^ rqN M ∧ ((M : Int) = (rmN mode neg M * 2 ^ rqN M : Nat) ↔ rrN M = 0) := by
  have hd : M = rtN M * 2 ^ rqN M + rrN M := by unfold rtN rrN; rw [Nat.mul_comm]; exact (Nat.div_add_mod M _).symm
  have hl : rrN M < 2 ^ rqN M := Nat.mod_lt _ (Nat.two_pow_pos _)
  have hu : rrN M = 0 → upB mode neg M = false := fun h => by unfold upB; rw [if_pos h]
  unfold rmN
  generalize hb : upB mode neg M = b at *
  generalize rtN M = t at *
  generalize rrN M = r at *
  generalize 2 ^ rqN M = P at *
  cases b
  · simp only [Bool.toNat_false, Nat.add_zero]
    generalize t * P = tp at *
    omega
  · have : (t + true.toNat) * P = t * P + P := by rw [Bool.toNat_true, Nat.add_mul, Nat.one_mul]
    rw [this]
    generalize t * P = tp at *
    refine ⟨by omega, ?_⟩
    constructor
    · intro h; omega
    · intro h; have := hu h; cases this
/-- the rest of a rounding that does not overflow is small -/
theorem rest_small {V : Int} (hV : V ≠ 0) (ho : ovB 0 (decide (V < 0)) V.natAbs = false) : (V - fv (rF 0 V)).natAbs ≤ 2 ^ 20104 := by
  have h1 := (fv_rF hV ho).1
  have h2 := (rm_near 0 (decide (V < 0)) V.natAbs).1
  have h3 := (ov_not ho).2
  have h4 : rqN V.natAbs ≤ 20104 := by unfold rqN; omega
  have h5 : 2 ^ rqN V.natAbs ≤ 2 ^ 20104 := Nat.pow_le_pow_right (by decide) h4
  rw [h1]
  have h6 := sv_neg_abs V
  generalize decide (V < 0) = neg at *
  generalize rmN 0 neg V.natAbs * 2 ^ rqN V.natAbs = A at *
  generalize 2 ^ rqN V.natAbs = P at *
  generalize (2 : Nat) ^ 20104 = Q at *
  unfold sv at *
  cases neg <;> simp at * <;> omega
theorem ov_small {R : Nat} (neg : Bool) (h : R ≤ 2 ^ 20104) : ovB 0 neg R = false := by
  have h1 : bln R ≤ 20105 := bln_le (by rw [Nat.pow_succ]; have := Nat.two_pow_pos 20104; generalize (2 : Nat) ^ 20104 = Q at *; omega)
  have h2 := rmN_le 0 neg R
  have h24 : (2 : Nat) ^ 24 = 16777216 := by decide
  have h3 : bln (rmN 0 neg R) ≤ 25 := bln_le (by rw [show (2 : Nat) ^ 25 = 33554432 by decide]; omega)
  have h4 : rqN R ≤ 20081 := by unfold rqN; omega
  unfold ovB
  exact decide_eq_false (by omega)
theorem fv_zp {x : Nat} : fv (zp x) = fv x := by
  unfold zp; split
  · rename_i h; subst h
    have h1 : mv 2147483648 = 0 := by decide
    have h2 : mv 0 = 0 := by decide
    unfold fv; rw [h1, h2]; unfold dv; simp
  · rfl
theorem fin_zp {x : Nat} (h : fin x) : fin (zp x) := by unfold fin zp at *; split <;> omega
theorem fv_0 : fv 0 = 0 := by
  have h2 : mv 0 = 0 := by decide
  unfold fv; rw [h2]; unfold dv; simp
/-- a small value: its nearest float is finite, and exact just if no flag is raised -/
theorem near_exact {R : Int} (h : R.natAbs ≤ 2 ^ 20104) : fin (nrF R) ∧ (rFl 0 R = 0 ↔ fv (nrF R) = R) := by
  unfold nrF
  rw [fv_zp]
  by_cases hR : R = 0
  · subst hR
    have e1 : rF 0 0 = 0 := rfl
    rw [e1, fv_0]
    exact ⟨fin_zp (by decide), fun _ => rfl, fun _ => rfl⟩
  · have ho := ov_small (decide (R < 0)) h
    have h1 := fv_rF hR ho
    refine ⟨fin_zp h1.2, ?_⟩
    have h2 := (rm_near 0 (decide (R < 0)) R.natAbs).2
    have h3 : rFl 0 R = 0 ↔ rrN R.natAbs = 0 := by
      unfold rFl flF
      rw [if_neg hR, ho, if_neg (by decide)]
      split
      · rename_i k; simp [k]
      · rename_i k
        split <;> simp [k]
    rw [h3, ← h2, h1.1]
    have h6 := sv_neg_abs R
    generalize rmN 0 (decide (R < 0)) R.natAbs * 2 ^ rqN R.natAbs = A at *
    by_cases hn : R < 0
    · rw [decide_eq_true hn] at *
      unfold sv at *
      simp at *
      omega
    · rw [decide_eq_false hn] at *
      unfold sv at *
      simp at *
      omega
end Go.Proofs.YtflgjecpjaiecaaGreat
/- Contracts: short products of two floats, both sides. -/
set_option linter.unusedVariables false
set_option linter.unusedSimpArgs false
namespace Go.Proofs.YtflgjecpjaiecaaGreat
open Go.RowKit Num Flt
/-- what the reference's short product holds behind the rest -/
structure PrH (w wx : World) (g : Nat) (s : Int) (A : Option Addr) (n c : Nat) (e R : Int) : Prop where
  bel : Below (Wp w).heap.size (Wp w) wx
  b1 : Blk wx g 66 #[.int .i64 s, .slice A n c, .int .i64 e]
  dy : DyP wx s A n c e R (149 + 149)
  lt : w.heap.size < g
theorem PrH.below {w wx w' : World} {g : Nat} {s : Int} {A : Option Addr} {n c : Nat} {e R : Int} (h : PrH w wx g s A n c e R) (hb : Below wx.heap.size wx w') : PrH w w' g s A n c e R :=
  ⟨bt3 hb h.bel, h.b1.below hb h.b1.lt, h.dy.below hb, h.lt⟩
end Go.Proofs.YtflgjecpjaiecaaGreat
