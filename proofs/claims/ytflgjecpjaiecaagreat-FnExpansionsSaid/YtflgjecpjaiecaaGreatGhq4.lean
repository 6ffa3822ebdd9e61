/- Gh: S18 S19 Rn S20, merged. -/
import Derived.Test.YtflgjecpjaiecaaGreatGgq4
import Derived.Deep.CutBlock
/- Contracts: rounding in the reference: overflow, digits into a float. -/
set_option linter.unusedVariables false
set_option linter.unusedSimpArgs false
namespace Go.Proofs.YtflgjecpjaiecaaGreat
open Go.RowKit Num Flt
set_option maxHeartbeats 4000000 in
theorem s_Multiple (s : Int) (A : Option Addr) (n c : Nat) (m e V mode : Int) (l : Nat) (w : World) (hX : WhP w s A n c m) (hF : DyF m e V l) (hm : m ≠ 0) (hmd : 0 ≤ mode ∧ mode ≤ 4) (hsv : s = V.sign) :
    Calls Tryz.prog 220 #[.agg #[.int .i64 s, .slice A n c, .int .i64 e], .int .i64 mode] w (RetMu V mode w) := by
  have he0 : -20000 ≤ e := by have := hF.lo; have := hF.lsc; have hsc : (SC : Int) = 20000 := rfl; omega
  have eM : V.natAbs = m.natAbs * 2 ^ (e + 20000).toNat := by rw [hF.val, dv_abs]
  have hq := (rq_of (m := m.natAbs) (by omega) he0).1
  rw [← eM] at hq
  generalize hr : (rqN V.natAbs : Int) = r at *
  have hq2 : r - 20000 = max ((bln m.natAbs : Int) + e - 24) (-149) := by rw [hq]; omega
  rcases Int.le_total (r - 20000) e with h | h
  · obtain ⟨k, hk⟩ := Int.eq_ofNat_of_zero_le (show 0 ≤ e - (r - 20000) by omega)
    exact s_MultL s A n c m e V mode (r - 20000) l k w hX hF hm (by rw [hr]) (by rw [← hk]; omega) hq2
  · rcases Int.lt_or_eq_of_le h with h1 | h1
    · obtain ⟨k, hk⟩ := Int.eq_ofNat_of_zero_le (show 0 ≤ (r - 20000) - e by omega)
      exact s_MultR s A n c m e V mode (r - 20000) l k w hX hF hm (by rw [hr]) (by rw [← hk]; omega) (by omega) hq2 hmd.1 hmd.2 hsv
    · exact s_MultL s A n c m e V mode (r - 20000) l 0 w hX hF hm (by rw [hr]) (by rw [← h1]; simp) hq2
theorem s_AtMax (w : World) : Calls Tryz.prog 238 #[.int .i64 2139095039] w fun e w' => e = .returned (.float .f32 2139095039) ∧ w = w' := s_AtN 2139095039 w (by decide)
theorem ng_a : ng 2139095040 = 4286578688 := by decide
theorem ng_b : ng 2139095039 = 4286578687 := by decide
set_option maxHeartbeats 4000000 in
theorem s_Over (s mode : Int) (neg : Bool) (w : World) (hs : s = sgI neg) :
    Calls Tryz.prog 222 #[.int .i64 s, .int .i64 mode] w fun e w' => e = .returned (.float .f32 (ovF mode neg)) ∧ w = w' := by
  have hg1 := negFloat_eq 2139095040 (by unfold W; omega)
  have hg2 := negFloat_eq 2139095039 (by unfold W; omega)
  rw [ng_a] at hg1
  rw [ng_b] at hg2
  cases neg
  · obtain rfl : s = 1 := hs
    by_cases h3 : mode = 3
    · subst h3
      have HV : Hd (ovF 3 false = 2139095039) := ⟨by decide⟩
      go_enter Tryz.func222, Tryz.ntmps222
      go_wp2_with (first | (go_at_call 166; (with_reducible refine (s_Huge _).mono ?_); rintro e w' ⟨rfl, rfl⟩) | (go_at_call 238; (with_reducible refine (s_AtMax _).mono ?_); rintro e w' ⟨rfl, rfl⟩))
      go_ret
      exact ⟨by rw [HV.out] <;> rfl, rfl⟩
    · have d3 : (mode == 3) = false := by simpa using h3
      by_cases h1 : mode = 1
      · subst h1
        have HV : Hd (ovF 1 false = 2139095039) := ⟨by decide⟩
        go_enter Tryz.func222, Tryz.ntmps222
        go_wp2_with (first | (go_at_call 166; (with_reducible refine (s_Huge _).mono ?_); rintro e w' ⟨rfl, rfl⟩) | (go_at_call 238; (with_reducible refine (s_AtMax _).mono ?_); rintro e w' ⟨rfl, rfl⟩))
        go_ret
        exact ⟨by rw [HV.out] <;> rfl, rfl⟩
      · have d1 : (mode == 1) = false := by simpa using h1
        have HV : Hd (ovF mode false = 2139095040) := ⟨by unfold ovF stB; simp [h3, h1]⟩
        by_cases h2 : mode = 2
        · subst h2
          clear h3 h1 d3 d1
          go_enter Tryz.func222, Tryz.ntmps222
          go_wp2_with (first | (go_at_call 166; (with_reducible refine (s_Huge _).mono ?_); rintro e w' ⟨rfl, rfl⟩) | (go_at_call 238; (with_reducible refine (s_AtMax _).mono ?_); rintro e w' ⟨rfl, rfl⟩))
          go_ret
          exact ⟨by rw [HV.out] <;> rfl, rfl⟩
        · have d2 : (mode == 2) = false := by simpa using h2
          clear h3 h1 h2
          go_enter Tryz.func222, Tryz.ntmps222
          go_wp2_with (first | (go_at_call 166; (with_reducible refine (s_Huge _).mono ?_); rintro e w' ⟨rfl, rfl⟩) | (go_at_call 238; (with_reducible refine (s_AtMax _).mono ?_); rintro e w' ⟨rfl, rfl⟩))
          go_ret
          exact ⟨by rw [HV.out] <;> rfl, rfl⟩
  · obtain rfl : s = -1 := hs
    by_cases h3 : mode = 3
    · subst h3
      have HV : Hd (ovF 3 true = 4286578687) := ⟨by decide⟩
      go_enter Tryz.func222, Tryz.ntmps222
      go_wp2_with (first | (go_at_call 166; (with_reducible refine (s_Huge _).mono ?_); rintro e w' ⟨rfl, rfl⟩) | (go_at_call 238; (with_reducible refine (s_AtMax _).mono ?_); rintro e w' ⟨rfl, rfl⟩))
      go_ret
      exact ⟨by rw [HV.out] <;> rfl, rfl⟩
    · have d3 : (mode == 3) = false := by simpa using h3
      by_cases h2 : mode = 2
      · subst h2
        have HV : Hd (ovF 2 true = 4286578687) := ⟨by decide⟩
        go_enter Tryz.func222, Tryz.ntmps222
        go_wp2_with (first | (go_at_call 166; (with_reducible refine (s_Huge _).mono ?_); rintro e w' ⟨rfl, rfl⟩) | (go_at_call 238; (with_reducible refine (s_AtMax _).mono ?_); rintro e w' ⟨rfl, rfl⟩))
        go_ret
        exact ⟨by rw [HV.out] <;> rfl, rfl⟩
      · have d2 : (mode == 2) = false := by simpa using h2
        have HV : Hd (ovF mode true = 4286578688) := ⟨by unfold ovF stB; simp [h3, h2]⟩
        by_cases h1 : mode = 1
        · subst h1
          clear h3 h2 d3 d2
          go_enter Tryz.func222, Tryz.ntmps222
          go_wp2_with (first | (go_at_call 166; (with_reducible refine (s_Huge _).mono ?_); rintro e w' ⟨rfl, rfl⟩) | (go_at_call 238; (with_reducible refine (s_AtMax _).mono ?_); rintro e w' ⟨rfl, rfl⟩))
          go_ret
          exact ⟨by rw [HV.out] <;> rfl, rfl⟩
        · have d1 : (mode == 1) = false := by simpa using h1
          clear h3 h1 h2
          go_enter Tryz.func222, Tryz.ntmps222
          go_wp2_with (first | (go_at_call 166; (with_reducible refine (s_Huge _).mono ?_); rintro e w' ⟨rfl, rfl⟩) | (go_at_call 238; (with_reducible refine (s_AtMax _).mono ?_); rintro e w' ⟨rfl, rfl⟩))
          go_ret
          exact ⟨by rw [HV.out] <;> rfl, rfl⟩
/-- nothing and a float -/
theorem d_add0 {r : Nat} (h : r < 9218868437227405312) : floatBits .add .f64 0 (Ieee.double.word false r) = some (Ieee.double.word false r) := by
  show Ieee.double.add _ _ = _
  unfold Ieee.Format.add
  rw [read_word false h, show Ieee.double.read 0 = .number false 0 (-1074) by decide]
  simp only [Ieee.Datum.sum, Option.map, Ieee.Format.write]
  have e0 : min (-1074 : Int) (-1074 + ((ex 4503599627370496 r : Nat) : Int)) = -1074 := by omega
  rw [e0]
  have e1 : Ieee.signed false 0 ((-1074 : Int) - -1074).toNat + Ieee.signed false (mg 4503599627370496 r) (-1074 + ((ex 4503599627370496 r : Nat) : Int) - -1074).toNat = ((mg 4503599627370496 r * 2 ^ ex 4503599627370496 r : Nat) : Int) := by
    unfold Ieee.signed
    rw [if_neg (by decide), if_neg (by decide), Nat.shiftLeft_eq, Nat.shiftLeft_eq, show (-1074 + ((ex 4503599627370496 r : Nat) : Int) - -1074).toNat = ex 4503599627370496 r by omega, Nat.zero_mul]
    simp
  rw [e1]
  have e2 : (if (((mg 4503599627370496 r * 2 ^ ex 4503599627370496 r : Nat) : Int) = 0) then (false && false) else decide (((mg 4503599627370496 r * 2 ^ ex 4503599627370496 r : Nat) : Int) < 0)) = false := by
    split
    · rfl
    · exact decide_eq_false (by omega)
  rw [e2, Int.natAbs_natCast]
  congr 1
  apply dnearest false _ _ r (Nat.le_of_lt h)
  exact ⟨0, by omega, by rw [V_eq, Nat.pow_zero, Nat.mul_one]; simp⟩
/-- the digits of a number up to 2^24, and the floats that they make -/
def dgs (a : Nat) : List Int := if a = 0 then [] else if a < 16777216 then [(a : Int)] else [0, 1]
def fz (a : Nat) : Nat := if a = 0 then 0 else dw false a 0
def fx (a k : Nat) : Nat := if k = 0 then fz a else if a < 16777216 then 0 else if k = 1 then 4607182418800017408 else 0
theorem canon_one {t : Int} (h0 : 0 < t) (h1 : t < 16777216) : Canon 16777216 [t] := by
  refine ⟨?_, ?_⟩
  · intro x hx; simp at hx; omega
  · unfold Lst; first | (intro h; simp; omega) | (simp; omega)
theorem canon_two : Canon 16777216 [0, 1] := by
  refine ⟨?_, ?_⟩
  · intro x hx; simp at hx; omega
  · unfold Lst; first | (intro h; simp) | simp
theorem dgs_of {a : Nat} {xs : List Int} (h : Canon 16777216 xs) (hv : val 16777216 xs = (a : Int)) (ha : a ≤ 16777216) : xs = dgs a := by
  unfold dgs
  split
  · rename_i h0; subst h0; exact (h.nil_iff (by decide)).2 hv
  · rename_i h0
    split
    · rename_i h1
      exact h.inj (by decide) (canon_one (by omega) (by omega)) (by rw [hv]; simp [val])
    · exact h.inj (by decide) canon_two (by rw [hv]; simp [val]; omega)
theorem fx_step {a k : Nat} (ha : a ≤ 16777216) (hk : k < (dgs a).length) : ∃ y, floatBits .mul .f64 (fx a (k + 1)) 4715268809856909312 = some y ∧ floatBits .add .f64 y (floatOfInt .f64 ((dgs a).getD k 0)) = some (fx a k) := by
  unfold dgs at *
  split at hk
  · simp at hk
  · rename_i h0
    rw [if_neg h0]
    split at hk
    · rename_i h1
      rw [if_pos h1]
      obtain rfl : k = 0 := by simp at hk; omega
      have e1 : fx a (0 + 1) = 0 := by unfold fx; rw [if_neg (by omega), if_pos h1]
      have e2 : fx a 0 = Ieee.double.word false (drung a 0) := by unfold fx fz; rw [if_pos rfl, if_neg h0]; rfl
      have hl : a.log2 ≤ 52 := log2_lt53 h0 (by omega)
      have e3 : floatOfInt .f64 (a : Int) = Ieee.double.word false (drung a 0) := by
        rw [d_ofInt (a : Int) (by omega) (by omega), decide_eq_false (by omega), Int.natAbs_natCast]
      refine ⟨0, ?_, ?_⟩
      · rw [e1]; kernel_rfl
      · show floatBits .add .f64 0 (floatOfInt .f64 (a : Int)) = _
        rw [e2, e3]
        exact d_add0 (Nat.lt_of_lt_of_le (drung_le h0 (by omega) (by omega)) (by decide))
    · rename_i h1
      rw [if_neg h1]
      obtain rfl : a = 16777216 := by omega
      have hk2 : k = 0 ∨ k = 1 := by simp at hk; omega
      rcases hk2 with rfl | rfl
      · exact ⟨4715268809856909312, by kernel_rfl, by kernel_rfl⟩
      · exact ⟨0, by kernel_rfl, by kernel_rfl⟩
theorem s_TwosQ (a : Nat) (q : Int) (w : World) (ha : a ≤ 16777216) (h0 : -149 ≤ q) (h1 : q ≤ 200) :
    Calls Tryz.prog 223 #[.float .f64 (fz a), .int .i64 q] w fun e w' => e = .returned (.float .f64 (if a = 0 then 0 else dw false a q)) ∧ w = w' := by
  unfold fz
  rcases Int.le_total 0 q with h | h
  · obtain ⟨n, rfl⟩ := Int.eq_ofNat_of_zero_le h
    by_cases hz : a = 0
    · rw [if_pos hz, if_pos hz]; exact s_Twos0 n w (by omega)
    · rw [if_neg hz, if_neg hz]
      have hl : a.log2 ≤ 52 := log2_lt53 hz (by omega)
      have := s_TwosUp false a 0 n w hz (by omega) (by omega) (by omega) (by omega)
      rwa [Int.zero_add] at this
  · obtain ⟨n, hn⟩ := Int.eq_ofNat_of_zero_le (show 0 ≤ -q by omega)
    obtain rfl : q = -(n : Int) := by omega
    by_cases hz : a = 0
    · rw [if_pos hz, if_pos hz]; exact s_Twos0D n w (by omega)
    · rw [if_neg hz, if_neg hz]
      have hl : a.log2 ≤ 52 := log2_lt53 hz (by omega)
      have := s_TwosDown false a 0 n w hz (by omega) (by omega) (by omega) (by omega)
      rwa [show (0 : Int) - n = -(n : Int) by omega] at this
/-- the last step: the single word -/
theorem single_of {mode : Int} {neg : Bool} {M : Nat} (h : ovB mode neg M = false) :
    floatToFloatBits .f64 (if rmN mode neg M = 0 then 0 else dw false (rmN mode neg M) ((rqN M : Int) - 20000)) .f32 = some (rgN mode neg M) := by
  have hf := rg_fin h
  have hg : rgN mode neg M = (rqN M - 19851) * 8388608 + rmN mode neg M := by unfold rgN; rw [h]; simp
  have hq : 19851 ≤ rqN M := by unfold rqN; omega
  have hle := rmN_le mode neg M
  have hge := @rmN_ge M mode neg
  rw [hg]
  have h24 : (2 : Nat) ^ 24 = 16777216 := by decide
  have h23 : (2 : Nat) ^ 23 = 8388608 := by decide
  rw [h24] at hle
  rw [h23] at hge
  generalize rmN mode neg M = t at *
  generalize rqN M = q at *
  by_cases ht : t = 0
  · rw [if_pos ht]
    have : q = 19851 := by
      rcases Nat.lt_or_ge 19851 q with k | k
      · have := hge k; omega
      · omega
    subst ht this
    exact toSingle0
  · rw [if_neg ht]
    have := toSingle (t := t) (q := (q : Int) - 20000) (k := q - 19851) ht hle (by omega) (by
      rcases Nat.lt_or_ge 19851 q with k | k
      · exact Or.inr (hge k)
      · exact Or.inl (by omega)) hf false
    exact this
end Go.Proofs.YtflgjecpjaiecaaGreat
/- Contracts: rounding in the reference. -/
set_option linter.unusedVariables false
set_option linter.unusedSimpArgs false
namespace Go.Proofs.YtflgjecpjaiecaaGreat
open Go.RowKit Num Flt
def RetFl (mode V : Int) (w : World) (e : Ending) (w' : World) : Prop := e = .returned (.tuple #[.float .f32 (rF mode V), .int .i64 (rFl mode V)]) ∧ Below w.heap.size w w'
/-- what the middle of the function holds -/
structure RoH (w wx : World) (s : Int) (A : Option Addr) (n c : Nat) (e : Int) (g : Nat) (s1 : Int) (A1 : Option Addr) (n1 c1 : Nat) (m a : Int) : Prop where
  bel : Below w.heap.size w wx
  b0 : Blk wx w.heap.size 66 #[.int .i64 s, .slice A n c, .int .i64 e]
  b6 : Blk wx g 64 #[.int .i64 s1, .slice A1 n1 c1]
  vm : WhP wx s A n c m
  va : WhP wx s1 A1 n1 c1 a
  lt : w.heap.size < g
theorem RoH.below {w wx w' : World} {s : Int} {A : Option Addr} {n c : Nat} {e : Int} {g : Nat} {s1 : Int} {A1 : Option Addr} {n1 c1 : Nat} {m a : Int} (h : RoH w wx s A n c e g s1 A1 n1 c1 m a) (hb : Below wx.heap.size wx w') : RoH w w' s A n c e g s1 A1 n1 c1 m a :=
  ⟨bt3 hb h.bel, h.b0.below hb h.b0.lt, h.b6.below hb h.b6.lt, h.vm.below hb, h.va.below hb, h.lt⟩
abbrev Wr (w : World) (s : Int) (A : Option Addr) (n c : Nat) (e : Int) : World := w.alloc (Obj.cells #[.int .i64 s, .slice A n c, .int .i64 e] 66)
theorem RoH.start {w w1 : World} {s : Int} {A : Option Addr} {n c : Nat} {e : Int} {s1 : Int} {A1 : Option Addr} {n1 c1 : Nat} {m a : Int} (hX : WhP w s A n c m) (hb : Below (Wr w s A n c e).heap.size (Wr w s A n c e) w1) (hw : WhP w1 s1 A1 n1 c1 a) :
    RoH w (w1.alloc (Obj.cells #[.int .i64 s1, .slice A1 n1 c1] 64)) s A n c e w1.heap.size s1 A1 n1 c1 m a := by
  have h1 : Blk (Wr w s A n c e) w.heap.size 66 #[.int .i64 s, .slice A n c, .int .i64 e] := Blk.new _ _ _
  have hs : w.heap.size < w1.heap.size := by have := hb.size; simp at this; omega
  have hbb := ba (Obj.cells #[.int .i64 s1, .slice A1 n1 c1] 64) (bt3 hb (ba _ (Below.refl _ _)))
  exact ⟨hbb, (h1.below hb h1.lt).alloc _, Blk.new _ _ _, hX.below hbb, hw.below (ba _ (Below.refl _ _)), hs⟩
set_option maxHeartbeats 4000000 in
theorem s_Round0 (s : Int) (A : Option Addr) (n c : Nat) (m e V mode : Int) (w : World) (hs : s = 0) (hV : V = 0) :
    Calls Tryz.prog 155 #[.agg #[.int .i64 s, .slice A n c, .int .i64 e], .int .i64 mode] w (RetFl mode V w) := by
  subst hs
  have HV : Hd (rF mode V = 0 ∧ rFl mode V = 0) := ⟨⟨by rw [hV]; rfl, by rw [hV]; rfl⟩⟩
  clear hV
  go_enter Tryz.func155, Tryz.ntmps155
  go_wp2
  go_ret2
  exact ⟨by rw [HV.out.1, HV.out.2] <;> rfl, by (repeat (first | exact Below.refl _ _ | assumption | refine Below.drew ?_ | refine bdn ?_ | refine ba _ ?_ | refine bs0 _ _ ?_ ?_ | refine bs1 _ _ _ ?_ ?_ | refine bs2 _ _ _ _ ?_ ?_ | refine bs3 _ _ _ _ _ ?_ ?_ | refine bt3 (by assumption) ?_))⟩
def RetMv (q : Int) (x : Bool) (r : Nat) (w : World) (e : Ending) (w' : World) : Prop := ∃ s A n c, e = .returned (.tuple #[.agg #[.int .i64 s, .slice A n c], .int .i64 q, .bool x]) ∧ WhP w' s A n c (r : Int) ∧ Below w.heap.size w w'
theorem s_MultipleR (s : Int) (A : Option Addr) (n c : Nat) (m e V mode q : Int) (x : Bool) (r l : Nat) (w : World) (hX : WhP w s A n c m) (hF : DyF m e V l) (hm : m ≠ 0) (hmd : 0 ≤ mode ∧ mode ≤ 4) (hsv : s = V.sign)
    (hq : (rqN V.natAbs : Int) - 20000 = q) (hx : decide (rrN V.natAbs = 0) = x) (hr : rmN mode (decide (V < 0)) V.natAbs = r) :
    Calls Tryz.prog 220 #[.agg #[.int .i64 s, .slice A n c, .int .i64 e], .int .i64 mode] w (RetMv q x r w) := by
  subst hq hx hr; exact s_Multiple s A n c m e V mode l w hX hF hm hmd hsv
theorem dgs_wh {w : World} {s : Int} {A : Option Addr} {n c r : Nat} (h : WhP w s A n c (r : Int)) (hr : r ≤ 16777216) : n = (dgs r).length ∧ R64 w A (dgs r) := by
  obtain ⟨xs, h1, h2, h3, h4, h5⟩ := h
  have hv : val 16777216 xs = (r : Int) := by
    have := h4.eq
    rcases h4.sgn with ⟨hs, hx⟩ | ⟨hs, hx⟩
    · subst hx hs; simp [val] at *; omega
    · have := h4.can.pos (by decide) hx
      rcases hs with rfl | rfl <;> omega
  have := dgs_of h4.can hv hr
  subst this
  exact ⟨h1, h5⟩
theorem wrap_s1 {t : Int} (h0 : 0 ≤ t) (h1 : t ≤ 100) : wrap64 (t - 1) = t - 1 := by unfold wrap64; omega
theorem s_TwosZ (a : Nat) (q : Int) (z : Nat) (w : World) (ha : a ≤ 16777216) (h0 : -149 ≤ q) (h1 : q ≤ 200) (hz : (if a = 0 then 0 else dw false a q) = z) :
    Calls Tryz.prog 223 #[.float .f64 (fz a), .int .i64 q] w fun e w' => e = .returned (.float .f64 z) ∧ w = w' := by
  subst hz; exact s_TwosQ a q w ha h0 h1
theorem rg_sign {neg : Bool} {mode : Int} {M : Nat} (h : ovB mode neg M = false) : W (rgN mode neg M) ∧ ¬ nan (rgN mode neg M) ∧ ng (rgN mode neg M) = 2147483648 + rgN mode neg M := by
  have hf := rg_fin h
  have hg : rgN mode neg M = (rqN M - 19851) * 8388608 + rmN mode neg M := by unfold rgN; rw [h]; simp
  rw [← hg] at hf
  generalize rgN mode neg M = v at *
  refine ⟨by unfold W; omega, by unfold nan; omega, by unfold ng; rw [if_pos (by omega)]; omega⟩
set_option maxHeartbeats 4000000 in
theorem s_Round1 (s : Int) (A : Option Addr) (n c : Nat) (m e V mode : Int) (l : Nat) (w : World) (hX : WhP w s A n c m) (hF : DyF m e V l) (hm : m ≠ 0) (hmd : 0 ≤ mode ∧ mode ≤ 4) (hsv : s = V.sign) (hV0 : V ≠ 0) :
    Calls Tryz.prog 155 #[.agg #[.int .i64 s, .slice A n c, .int .i64 e], .int .i64 mode] w (RetFl mode V w) := by
  have he0 : -20000 ≤ e := by have := hF.lo; have := hF.lsc; have hsc : (SC : Int) = 20000 := rfl; omega
  have he1 : e ≤ 2400000 := hF.hi
  have hbm : Bd m := dv_bd (by rw [← hF.val]; exact hF.bd)
  have hL := bln_bd hbm
  have eM : V.natAbs = m.natAbs * 2 ^ (e + 20000).toNat := by rw [hF.val, dv_abs]
  have hq := rq_of (m := m.natAbs) (by omega) he0
  rw [← eM] at hq
  have HSG := Hd.mk (dy_sgI hsv hV0)
  have HIN : Hd (WhP w s A n c m ∧ DyF m e V l ∧ m ≠ 0 ∧ (0 ≤ mode ∧ mode ≤ 4) ∧ s = V.sign) := ⟨⟨hX, hF, hm, hmd, hsv⟩⟩
  have HRF : Hd (rF mode V = (if decide (V < 0) = true then 2147483648 else 0) + rgN mode (decide (V < 0)) V.natAbs ∧ rFl mode V = flF mode (decide (V < 0)) V.natAbs) := ⟨by
    unfold rF rFl; rw [if_neg hV0, if_neg hV0]
    exact ⟨by congr 1; by_cases h : V < 0 <;> simp [h], rfl⟩⟩
  have hle := rmN_le mode (decide (V < 0)) V.natAbs
  rw [show (2 : Nat) ^ 24 = 16777216 by decide] at hle
  have hbr := bln_bd (bd_nat hle)
  rw [Int.natAbs_natCast] at hbr
  have hqb : (rqN V.natAbs : Int) ≤ 5000000 := by omega
  have hrq0 : 19851 ≤ (rqN V.natAbs : Int) := by omega
  have HS2 := Hd.mk (@single_of mode (decide (V < 0)) V.natAbs)
  generalize hxx : decide (rrN V.natAbs = 0) = x at *
  have HXX : Hd (decide (rrN V.natAbs = 0) = x) := ⟨hxx⟩
  have HLE := Hd.mk hle
  have hs0 : ¬ s = 0 := by rw [HSG.out]; unfold sgI; split <;> omega
  generalize hneg : decide (V < 0) = neg at *
  generalize hM : V.natAbs = M at *
  generalize hr : rmN mode neg M = r at *
  have HOV : Hd (ovB mode neg M = decide (128 < (bln r : Int) + ((rqN M : Int) - 20000))) := ⟨by unfold ovB; rw [hr]; apply decide_eq_decide.2; omega⟩
  generalize hqq : (rqN M : Int) - 20000 = q at *
  have hq1 : -149 ≤ q := by omega
  have hq2 : q ≤ 5000000 := by omega
  have hrl : (bln r : Int) ≤ 2400000 := by omega
  generalize hlr : (bln r : Int) = lr at *
  have HLR : Hd ((bln ((r : Nat) : Int).natAbs : Int) = lr) := ⟨by rw [Int.natAbs_natCast]; exact hlr⟩
  have hlm : (bln m.natAbs : Int) ≤ 2400000 := by omega
  generalize hlk : (bln m.natAbs : Int) = lm at *
  have HLM : Hd ((bln m.natAbs : Int) = lm) := ⟨hlk⟩
  have hlm0 : 0 ≤ lm := by omega
  have hlr0 : 0 ≤ lr := by omega
  have HBM : Hd ((bln M : Int) = lm + e + 20000) := ⟨hq.2⟩
  have HQQ : Hd ((rqN V.natAbs : Int) - 20000 = q) := ⟨by rw [hM]; exact hqq⟩
  have HNM : Hd (decide (V < 0) = neg ∧ V.natAbs = M ∧ rmN mode neg M = r) := ⟨⟨hneg, hM, hr⟩⟩
  have hd0 : (s == 0) = false := by simpa using hs0
  clear hxx hX hF hm hmd hsv hV0 hbm hL eM hq hle hbr hqb hrq0 hneg hM hr hqq hlr hlk hs0
  unfold RetFl
  go_enter Tryz.func155, Tryz.ntmps155
  go_upto_region 4 with (go_at_call 220; go_loud ((with_reducible refine (s_MultipleR s A n c m e V mode q x r l _ (HIN.out.1.below (by (repeat (first | exact Below.refl _ _ | assumption | refine Below.drew ?_ | refine bdn ?_ | refine ba _ ?_ | refine bs0 _ _ ?_ ?_ | refine bs1 _ _ _ ?_ ?_ | refine bs2 _ _ _ _ ?_ ?_ | refine bs3 _ _ _ _ _ ?_ ?_ | refine bt3 (by assumption) ?_)))) HIN.out.2.1 HIN.out.2.2.1 HIN.out.2.2.2.1 HIN.out.2.2.2.2 HQQ.out (by rw [HNM.out.2.1]; exact HXX.out) (by rw [HNM.out.1, HNM.out.2.1]; exact HNM.out.2.2)).mono ?_); rintro e1 w1 ⟨s1, A1, n1, c1', rfl, hW, hb⟩; have HM := Hd.mk (RoH.start HIN.out.1 hb hW); clear hb hW))
  generalize hwb : w1.alloc (Obj.cells #[.int .i64 s1, .slice A1 n1 c1'] 64) = wb at *
  generalize hg : w1.heap.size = g at *
  clear hwb hg
  have hw1 : IntKind.i64.wrap (lr + q) = lr + q := by rw [IntKind.wrap_i64]; omega
  by_cases hov : 128 < lr + q
  · have c0 := HM.out.b0.cell 0; have c1 := HM.out.b0.cell 1; have c2 := HM.out.b0.cell 2; have a0 := HM.out.b6.cell 0; have a1 := HM.out.b6.cell 1
    have HV : Hd (rF mode V = ovF mode neg ∧ rFl mode V = 5) := ⟨by
      have h1 : ovB mode neg M = true := by rw [HOV.out]; exact decide_eq_true hov
      rw [HRF.out.1, HRF.out.2]
      constructor
      · unfold ovF rgN; rw [h1]; simp
      · unfold flF; rw [h1]; simp⟩
    go_wp2_with (first | ((go_at_call 221; (with_reducible refine (s_LengthR s1 A1 n1 c1' (r : Int) lr _ (HM.out.va.below (by (repeat (first | exact Below.refl _ _ | assumption | refine Below.drew ?_ | refine bdn ?_ | refine ba _ ?_ | refine bs0 _ _ ?_ ?_ | refine bs1 _ _ _ ?_ ?_ | refine bs2 _ _ _ _ ?_ ?_ | refine bs3 _ _ _ _ _ ?_ ?_ | refine bt3 (by assumption) ?_)))) HLR.out).mono ?_); rintro e2 w2 ⟨rfl, hb2⟩; have HM2 := Hd.mk (HM.out.below hb2); clear c0 c1 c2 a0 a1; have c0 := HM2.out.b0.cell 0; have c1 := HM2.out.b0.cell 1; have c2 := HM2.out.b0.cell 2; have a0 := HM2.out.b6.cell 0; have a1 := HM2.out.b6.cell 1; clear hb2)) | (go_at_call 222; (with_reducible refine (s_Over s mode neg _ HSG.out).mono ?_); rintro e w' ⟨rfl, rfl⟩))
    go_ret2
    exact ⟨by rw [HV.out.1, HV.out.2] <;> rfl, by have := HM2.out.bel; (repeat (first | exact Below.refl _ _ | assumption | refine Below.drew ?_ | refine bdn ?_ | refine ba _ ?_ | refine bs0 _ _ ?_ ?_ | refine bs1 _ _ _ ?_ ?_ | refine bs2 _ _ _ _ ?_ ?_ | refine bs3 _ _ _ _ _ ?_ ?_ | refine bt3 (by assumption) ?_))⟩
  · have HNO : Hd (ovB mode neg M = false) := ⟨by rw [HOV.out]; exact decide_eq_false hov⟩
    have c0 := HM.out.b0.cell 0; have c1 := HM.out.b0.cell 1; have c2 := HM.out.b0.cell 2; have a0 := HM.out.b6.cell 0; have a1 := HM.out.b6.cell 1
    have HDG := Hd.mk (dgs_wh HM.out.va HLE.out)
    go_upto_block 0 with ((go_at_call 221; (with_reducible refine (s_LengthR s1 A1 n1 c1' (r : Int) lr _ (HM.out.va.below (by (repeat (first | exact Below.refl _ _ | assumption | refine Below.drew ?_ | refine bdn ?_ | refine ba _ ?_ | refine bs0 _ _ ?_ ?_ | refine bs1 _ _ _ ?_ ?_ | refine bs2 _ _ _ _ ?_ ?_ | refine bs3 _ _ _ _ _ ?_ ?_ | refine bt3 (by assumption) ?_)))) HLR.out).mono ?_); rintro e2 w2 ⟨rfl, hb2⟩; have HM2 := Hd.mk (HM.out.below hb2); clear c0 c1 c2 a0 a1; have c0 := HM2.out.b0.cell 0; have c1 := HM2.out.b0.cell 1; have c2 := HM2.out.b0.cell 2; have a0 := HM2.out.b6.cell 0; have a1 := HM2.out.b6.cell 1; clear hb2))
    clear a0 a1
    have HDR : Hd (R64 w2 A1 (dgs r)) := ⟨(dgs_wh HM2.out.va HLE.out).2⟩
    have a0 := HM2.out.b6.cell 0
    have a1 := HM2.out.b6.cell 1
    have hnn : (n1 : Int) ≤ 100 := by have := HDG.out.1; unfold dgs at this; split at this <;> (try split at this) <;> (rw [this]; simp)
    go_cut [9] (fun s9 wx => s9 = .float .f64 (fz r) ∧ wx = w2)
    case first =>
      go_wp2
      go_loop [9, 10] (fun x9 i => ∃ k : Nat, x9 = .float .f64 (fx r k) ∧ i = .int .i64 ((k : Int) - 1) ∧ (k : Int) ≤ n1) (fun _ i => (intOf i + 1).toNat)
      case atStart => exact ⟨n1, by
        have h1 := HDG.out.1
        have h2 : fx r n1 = 0 := by
          rw [h1]; unfold dgs fx fz
          split
          · rfl
          · rename_i h0
            split
            · rename_i h3; simp [h0, h3]
            · rename_i h3; simp [h3]
        rw [h2], by rw [wrap_s1 (Int.natCast_nonneg n1) hnn], Int.le_refl _⟩
      case round =>
        obtain ⟨k, rfl, rfl, hk⟩ := hrel
        rcases Nat.eq_zero_or_pos k with h0 | h0
        · subst h0
          go_wp2
          go_meet
          exact ⟨rfl, rfl⟩
        · obtain ⟨j, rfl⟩ : ∃ j, k = j + 1 := ⟨k - 1, by omega⟩
          have hj : j < (dgs r).length := by have := HDG.out.1; omega
          obtain ⟨ad, rfl, hcx⟩ := HDR.out.at_ (k := j) hj
          obtain ⟨y, hy1, hy2⟩ := fx_step HLE.out hj
          have k1 := fun w => run_float_arith (P := Tryz.prog) w .mul 26 .f64 (fx r (j + 1)) 4715268809856909312 y hy1
          have k2 := fun w => run_float_arith (P := Tryz.prog) w .add 26 .f64 y (floatOfInt .f64 ((dgs r).getD j 0)) (fx r j) hy2
          generalize fx r (j + 1) = x1 at *
          generalize hxx : fx r j = x0 at *
          have HX0 : Hd (fx r j = x0) := ⟨hxx⟩
          generalize (dgs r).getD j 0 = dg at *
          have hjn : (j : Int) < n1 := by omega
          have he : ((↑(j + 1) : Int) - 1) = j := by omega
          rw [he]; clear he hk h0 hj hxx hy1 hy2
          go_wp2
          go_round
          case rel => exact ⟨j, by rw [HX0.out], by go_num, by omega⟩
          case measure => simp [intOf]
    case rest =>
      obtain ⟨rfl, rfl⟩ := hcut
      have k1 := fun w => run_convert_float_float (P := Tryz.prog) w 26 22 .f64 .f32 (if r = 0 then 0 else dw false r q) (rgN mode neg M) (by kernel_rfl) Tryz.underlying22 (HS2.out HNO.out)
      generalize hz : (if r = 0 then 0 else dw false r q) = z at *
      have HZ := Hd.mk hz
      have HQ3 : Hd (-149 ≤ q ∧ q ≤ 200) := ⟨⟨hq1, by omega⟩⟩
      clear hz HS2
      generalize hwy : wc = wy at *
      clear hwy
      go_upto_if 56 with (go_at_call 223; (with_reducible refine (s_TwosZ r q z _ HLE.out HQ3.out.1 HQ3.out.2 HZ.out).mono ?_); rintro e w' ⟨rfl, rfl⟩)
      clear k1
      go_cut [12] (fun s12 wx => s12 = .int .i64 (rFl mode V) ∧ Hd (RoH w wx s A n c e g s1 A1 n1 c1' m (r : Int)))
      case first =>
        cases x
        · have hw3 : IntKind.i64.wrap (lm + e) = lm + e := by rw [IntKind.wrap_i64]; omega
          have HR0 : Hd (¬ rrN M = 0) := ⟨of_decide_eq_false HXX.out⟩
          by_cases hl : lm + e ≤ -126
          · have HF : Hd (rFl mode V = 3) := ⟨by rw [HRF.out.2]; unfold flF; rw [HNO.out, if_neg (by decide), if_neg HR0.out, if_pos (by have := HBM.out; omega)]⟩
            go_upto_region 14 with fail
            go_region_with ((go_at_call 221; (with_reducible refine (s_LengthR s A n c m lm _ (HM2.out.vm.below (by (repeat (first | exact Below.refl _ _ | assumption | refine Below.drew ?_ | refine bdn ?_ | refine ba _ ?_ | refine bs0 _ _ ?_ ?_ | refine bs1 _ _ _ ?_ ?_ | refine bs2 _ _ _ _ ?_ ?_ | refine bs3 _ _ _ _ _ ?_ ?_ | refine bt3 (by assumption) ?_)))) HLM.out).mono ?_); rintro e2 w3 ⟨rfl, hb2⟩; have hq : Below wy.heap.size wy w3 := bt3 hb2 (by (repeat (first | exact Below.refl _ _ | assumption | refine Below.drew ?_ | refine bdn ?_ | refine ba _ ?_ | refine bs0 _ _ ?_ ?_ | refine bs1 _ _ _ ?_ ?_ | refine bs2 _ _ _ _ ?_ ?_ | refine bs3 _ _ _ _ _ ?_ ?_ | refine bt3 (by assumption) ?_))); clear c0 c1 c2 a0 a1; have HM3 := Hd.mk (HM2.out.below hq); have c0 := HM3.out.b0.cell 0; have c1 := HM3.out.b0.cell 1; have c2 := HM3.out.b0.cell 2; have a0 := HM3.out.b6.cell 0; have a1 := HM3.out.b6.cell 1; clear hb2 hq))
            all_goals go_wp2_with fail
            all_goals go_meet
            all_goals exact ⟨by rw [HF.out] <;> rfl, HM3⟩
          · have HF : Hd (rFl mode V = 1) := ⟨by rw [HRF.out.2]; unfold flF; rw [HNO.out, if_neg (by decide), if_neg HR0.out, if_neg (by have := HBM.out; omega)]⟩
            go_upto_region 14 with fail
            go_region_with ((go_at_call 221; (with_reducible refine (s_LengthR s A n c m lm _ (HM2.out.vm.below (by (repeat (first | exact Below.refl _ _ | assumption | refine Below.drew ?_ | refine bdn ?_ | refine ba _ ?_ | refine bs0 _ _ ?_ ?_ | refine bs1 _ _ _ ?_ ?_ | refine bs2 _ _ _ _ ?_ ?_ | refine bs3 _ _ _ _ _ ?_ ?_ | refine bt3 (by assumption) ?_)))) HLM.out).mono ?_); rintro e2 w3 ⟨rfl, hb2⟩; have hq : Below wy.heap.size wy w3 := bt3 hb2 (by (repeat (first | exact Below.refl _ _ | assumption | refine Below.drew ?_ | refine bdn ?_ | refine ba _ ?_ | refine bs0 _ _ ?_ ?_ | refine bs1 _ _ _ ?_ ?_ | refine bs2 _ _ _ _ ?_ ?_ | refine bs3 _ _ _ _ _ ?_ ?_ | refine bt3 (by assumption) ?_))); clear c0 c1 c2 a0 a1; have HM3 := Hd.mk (HM2.out.below hq); have c0 := HM3.out.b0.cell 0; have c1 := HM3.out.b0.cell 1; have c2 := HM3.out.b0.cell 2; have a0 := HM3.out.b6.cell 0; have a1 := HM3.out.b6.cell 1; clear hb2 hq))
            all_goals go_wp2_with fail
            all_goals go_meet
            all_goals exact ⟨by rw [HF.out] <;> rfl, HM3⟩
        · have HF : Hd (rFl mode V = 0) := ⟨by rw [HRF.out.2]; unfold flF; rw [HNO.out, if_neg (by decide), if_pos (of_decide_eq_true HXX.out)]⟩
          go_wp2
          go_meet
          exact ⟨by rw [HF.out] <;> rfl, HM2⟩
      case rest =>
        obtain ⟨rfl, HM4⟩ := hcut
        clear c0 c1 c2 a0 a1
        have c0 := HM4.out.b0.cell 0
        have HG := Hd.mk (rg_sign HNO.out)
        cases neg
        · have HF : Hd (rF mode V = rgN mode false M) := ⟨by rw [HRF.out.1]; simp⟩
          obtain rfl : s = 1 := HSG.out
          generalize hfl : rFl mode V = fl at *
          have HFL := Hd.mk hfl
          clear hfl
          go_wp2
          go_ret2
          exact ⟨by rw [HF.out, HFL.out] <;> rfl, HM4.out.bel⟩
        · have HF : Hd (rF mode V = ng (rgN mode true M)) := ⟨by rw [HRF.out.1, HG.out.2.2]; simp⟩
          obtain rfl : s = -1 := HSG.out
          generalize hfl : rFl mode V = fl at *
          have HFL := Hd.mk hfl
          clear hfl
          go_wp2_with (go_at_call 104; (with_reducible refine (s_Turned (rgN mode true M) _ HG.out.1 HG.out.2.1).mono ?_); rintro e w' ⟨rfl, rfl⟩)
          go_ret2
          exact ⟨by rw [HF.out, HFL.out] <;> rfl, HM4.out.bel⟩
theorem s_Round (s : Int) (A : Option Addr) (n c : Nat) (e V mode : Int) (l : Nat) (w : World) (hX : DyP w s A n c e V l) (hmd : 0 ≤ mode ∧ mode ≤ 4) :
    Calls Tryz.prog 155 #[.agg #[.int .i64 s, .slice A n c, .int .i64 e], .int .i64 mode] w (RetFl mode V w) := by
  have hsv := dy_sign hX
  obtain ⟨m, h1, h2⟩ := hX
  by_cases hm : m = 0
  · have hV : V = 0 := by rw [h2.val, hm]; unfold dv; rw [Int.zero_mul]
    exact s_Round0 s A n c m e V mode w (by rw [hsv, hV]; rfl) hV
  · have hV : V ≠ 0 := by
      rw [h2.val]; unfold dv
      have := pow2_pos (e + SC).toNat
      generalize (2 : Int) ^ (e + SC).toNat = p at *
      exact Int.mul_ne_zero hm (by omega)
    exact s_Round1 s A n c m e V mode l w h1 h2 hm hmd hsv hV
end Go.Proofs.YtflgjecpjaiecaaGreat
/- Contracts: rounding in the program. -/
set_option linter.unusedVariables false
set_option linter.unusedSimpArgs false
namespace Go.Proofs.YtflgjecpjaiecaaGreat
open Go.RowKit Num Flt
/-- the boxes of the function -/
structure R3H (w wx : World) (i : Nat) (e mode : Int) (g6 : Nat) (sg m : Int) : Prop where
  bel : Below w.heap.size w wx
  b2 : Blk wx w.heap.size 113 #[.pointer (some ⟨i, 0, none⟩), .int .i64 e]
  b3 : Blk wx (w.heap.size + 1) 2 #[.int .i64 mode]
  b6 : Blk wx g6 3 #[.int .i64 sg]
  bi : Big wx i m
  l6 : w.heap.size + 1 < g6
theorem R3H.below {w wx w' : World} {i : Nat} {e mode : Int} {g6 : Nat} {sg m : Int} (h : R3H w wx i e mode g6 sg m) (hb : Below wx.heap.size wx w') : R3H w w' i e mode g6 sg m :=
  ⟨bt3 hb h.bel, h.b2.below hb h.b2.lt, h.b3.below hb h.b3.lt, h.b6.below hb h.b6.lt, h.bi.below hb, h.l6⟩
structure RnH (w wx : World) (i : Nat) (e mode : Int) (g6 : Nat) (sg m : Int) (g10 g12 : Nat) (a r : Int) : Prop where
  h3 : R3H w wx i e mode g6 sg m
  a10 : Big wx g10 a
  r12 : Big wx g12 r
  ne : g10 ≠ g12
  ni : i ≠ g12
  l12 : w.heap.size ≤ g12
theorem RnH.below {w wx w' : World} {i : Nat} {e mode : Int} {g6 : Nat} {sg m : Int} {g10 g12 : Nat} {a r : Int} (h : RnH w wx i e mode g6 sg m g10 g12 a r) (hb : Below wx.heap.size wx w') : RnH w w' i e mode g6 sg m g10 g12 a r :=
  ⟨h.h3.below hb, h.a10.below hb, h.r12.below hb, h.ne, h.ni, h.l12⟩
/-- the result laid anew -/
theorem RnH.grow {w wx w' : World} {i : Nat} {e mode : Int} {g6 : Nat} {sg m : Int} {g10 g12 : Nat} {a r r' : Int} (h : RnH w wx i e mode g6 sg m g10 g12 a r) (hg : wx.grownBy w' (some g12)) (hr : Big w' g12 r') : RnH w w' i e mode g6 sg m g10 g12 a r' := by
  have hz := h.r12.intB
  obtain ⟨bb, A, n, c, hk⟩ := id hz
  have n2 := h.h3.b2.ne_ hk (by decide)
  have n3 := h.h3.b3.ne_ hk (by decide)
  have n6 := h.h3.b6.ne_ hk (by decide)
  exact ⟨⟨h.h3.bel.grown hg h.h3.bel.size (fun k e => by cases e; exact h.l12), h.h3.b2.grown hg (by simpa using n2), h.h3.b3.grown hg (by simpa using n3), h.h3.b6.grown hg (by simpa using n6), h.h3.bi.grown' hz hg h.ni, h.h3.l6⟩, h.a10.grown' hz hg h.ne, hr, h.ne, h.ni, h.l12⟩
abbrev Wq (w : World) (i : Nat) (e mode : Int) : World := (w.alloc (Obj.cells #[.pointer (some ⟨i, 0, none⟩), .int .i64 e] 113)).alloc (Obj.cells #[.int .i64 mode] 2)
theorem Wq.b2 (w : World) (i : Nat) (e mode : Int) : Blk (Wq w i e mode) w.heap.size 113 #[.pointer (some ⟨i, 0, none⟩), .int .i64 e] := (Blk.new _ _ _).alloc _
theorem Wq.b3 (w : World) (i : Nat) (e mode : Int) : Blk (Wq w i e mode) (w.heap.size + 1) 2 #[.int .i64 mode] := by
  have := Blk.new (w.alloc (Obj.cells #[.pointer (some ⟨i, 0, none⟩), .int .i64 e] 113)) 2 #[.int .i64 mode]
  simpa using this
theorem Wq.bel (w : World) (i : Nat) (e mode : Int) : Below w.heap.size w (Wq w i e mode) := ba _ (ba _ (Below.refl _ _))
theorem R3H.fresh {w w1 w2 : World} {i : Nat} {e mode sg m : Int} (hQ : Below (Wq w i e mode).heap.size (Wq w i e mode) w1) (hB : Big w1 i m) (hq : Below w1.heap.size w1 w2) : R3H w (w2.alloc (Obj.cells #[.int .i64 sg] 3)) i e mode w2.heap.size sg m := by
  have h2 := (Wq.b2 w i e mode)
  have h3 := (Wq.b3 w i e mode)
  have h4 := ba (Obj.cells #[.int .i64 sg] 3) hq
  have h5 : w.heap.size + 1 < w2.heap.size := Nat.lt_of_lt_of_le (h3.below hQ h3.lt).lt hq.size
  exact ⟨bt3 h4 (bt3 hQ (Wq.bel ..)), (h2.below hQ h2.lt).below h4 (h2.below hQ h2.lt).lt, (h3.below hQ h3.lt).below h4 (h3.below hQ h3.lt).lt, Blk.new _ _ _, hB.below h4, h5⟩
theorem R3H.stored {w w1 w2 : World} {i : Nat} {e mode sg m : Int} (hQ : Below (Wq w i e mode).heap.size (Wq w i e mode) w1) (hB : Big w1 i m) (hq : Below w1.heap.size w1 w2) (h6 : Blk w2 w1.heap.size 3 #[.int .i64 0]) : R3H w (w2.setCell ⟨w1.heap.size, 0, none⟩ (.int .i64 sg)) i e mode w1.heap.size sg m := by
  have h2 := (Wq.b2 w i e mode)
  have h3 := (Wq.b3 w i e mode)
  have h2' := h2.below hQ h2.lt
  have h3' := h3.below hQ h3.lt
  have h5 := h3'.lt
  have h7 := h2'.lt
  exact ⟨(bt3 hq (bt3 hQ (Wq.bel ..))).setCell (Nat.le_of_lt h7) _, (h2'.below hq h7).far (by simp; omega) _, (h3'.below hq h5).far (by simp; omega) _, h6.set_ 0 _, (hB.below hq).setT h6 (by decide) (by decide) 0 _, h5⟩
set_option maxHeartbeats 4000000 in
theorem n_Round0 (i : Nat) (e V mode : Int) (l : Nat) (w : World) (hX : NuP w i e V l) (hV : V = 0) :
    Calls Tryz.prog 117 #[.agg #[.pointer (some ⟨i, 0, none⟩), .int .i64 e], .int .i64 mode] w (RetFl mode V w) := by
  have HX : Hd (NuP (Wq w i e mode) i e 0 l) := ⟨by rw [← hV]; exact hX.below (Wq.bel ..)⟩
  have HV : Hd (rF mode V = 0 ∧ rFl mode V = 0) := ⟨⟨by rw [hV]; rfl, by rw [hV]; rfl⟩⟩
  clear hV hX
  go_enter Tryz.func117, Tryz.ntmps117
  go_wp2_with (go_at_call 114; (with_reducible refine (n_Sign i e 0 l _ HX.out).mono ?_); rintro e1 w1 ⟨rfl, hb⟩; have hq : Below w.heap.size w w1 := bt3 hb (Wq.bel ..))
  go_ret2
  exact ⟨by rw [HV.out.1, HV.out.2] <;> rfl, hq⟩
theorem m_BitLenR (x : Nat) (a r : Int) (w : World) (hX : Big w x a) (hr : (bln a.natAbs : Int) = r) :
    Calls Tryz.prog 191 #[.pointer (some ⟨x, 0, none⟩)] w fun e w' => e = .returned (.int .i64 r) ∧ w = w' := by
  subst hr; exact m_BitLen x a w hX
theorem n_SignR (g : Nat) (e V sg : Int) (l : Nat) (w : World) (hs : V.sign = sg) (hX : NuP w g e V l) :
    Calls Tryz.prog 114 #[.agg #[.pointer (some ⟨g, 0, none⟩), .int .i64 e]] w fun e' w' => e' = .returned (.int .i64 sg) ∧ Below w.heap.size w w' := by
  subst hs; exact n_Sign g e V l w hX
theorem l_LdexpZ (r : Nat) (q : Int) (x z : Nat) (w : World) (hr : r ≤ 16777216) (h0 : -149 ≤ q) (h1 : q ≤ 200) (hx : floatOfInt .f64 (r : Int) = x) (hz : (if r = 0 then 0 else dw false r q) = z) :
    Calls Tryz.prog 199 #[.float .f64 x, .int .i64 q] w fun e w' => e = .returned (.float .f64 z) ∧ w = w' := by
  subst hx hz
  by_cases h : r = 0
  · subst h; exact l_Ldexp0 q w
  · rw [if_neg h, ofInt_nat r h (by omega)]
    have hl : r.log2 ≤ 52 := log2_lt53 h (by omega)
    exact l_Ldexp r q w h (by omega) (by omega) (by omega)
theorem RnH.start {w wx w2 : World} {i : Nat} {e mode : Int} {g6 : Nat} {sg m a : Int} (h : R3H w wx i e mode g6 sg m) (hB : Big w2 wx.heap.size a) (hg : (wx.alloc (Obj.cells #[.bool false, .slice none 0 0] 168)).grownBy w2 (some wx.heap.size)) :
    RnH w (w2.alloc (Obj.cells #[.bool false, .slice none 0 0] 168)) i e mode g6 sg m wx.heap.size w2.heap.size a 0 := by
  have h1 := grown_below hg
  have h2 := h.below h1
  have h3 := hB.lt
  have h4 := h2.bel.size
  have h5 := h2.bi.lt
  exact ⟨h2.below (ba _ (Below.refl _ _)), hB.below (ba _ (Below.refl _ _)), Big.zero (Blk.new _ _ _), by omega, by omega, h4⟩
theorem m_LshZR (g x : Nat) (a kk : Int) (k : Nat) (w : World) (hz : IntB w g) (hX : Big w x a) (hk : k ≤ 10000000) (hkk : kk = (k : Int)) (hbd : Bd (a * 2 ^ k)) :
    Calls Tryz.prog 194 #[.pointer (some ⟨g, 0, none⟩), .pointer (some ⟨x, 0, none⟩), .int .u64 kk] w (RetZ g (a * 2 ^ k) w) := by
  subst hkk; exact m_LshZ g x a k w hz hX hk hbd
theorem m_BitR (x : Nat) (a : Int) (k : Nat) (r : Int) (w : World) (hX : Big w x a) (hr : (a.natAbs : Int) / 2 ^ 0 % 2 = r) :
    Calls Tryz.prog 198 #[.pointer (some ⟨x, 0, none⟩), .int .i64 0] w fun e w' => e = .returned (.int .u64 r) ∧ w = w' := by
  subst hr; exact m_Bit x a 0 w hX (by omega)
theorem m_CmpZR (x y : Nat) (a b r : Int) (w : World) (hX : Big w x a) (hY : Big w y b) (hr : cmpI a b = r) :
    Calls Tryz.prog 197 #[.pointer (some ⟨x, 0, none⟩), .pointer (some ⟨y, 0, none⟩)] w fun e w' => e = .returned (.int .i64 r) ∧ ∃ d, w' = w.drewN d := by
  subst hr; exact m_CmpZ x y a b w hX hY
theorem bd_pow {j : Nat} (h : j < 2400000) : Bd ((2 : Int) ^ j) := by
  have e : TOP = 2 ^ (24 * 100000) := by unfold TOP; exact p24 100000
  have h1 : (2 : Int) ^ (j + 1) ≤ 2 ^ (24 * 100000) := pow_le (by decide) (by omega)
  rw [← e, Int.pow_succ] at h1
  have h2 := pow2_pos j
  unfold Bd
  generalize (2 : Int) ^ j = p at *
  generalize TOP = T at *
  omega
theorem two_ready {w3 w4 : World} {z : Nat} (hz : z = w3.heap.size + 1) (hg4 : ((w3.alloc (Obj.cells #[.bool false, .slice none 0 0] 168)).alloc (Obj.cells #[.bool false, .slice none 0 0] 168)).grownBy w4 (some z)) : Below w3.heap.size w3 w4 ∧ IntB w4 w3.heap.size := by
  subst hz
  refine ⟨(ba _ (ba _ (Below.refl _ _))).grown hg4 (le_alloc _ (le_alloc _ (Nat.le_refl _))) (fun k e => by cases e; omega), ?_⟩
  exact ((IntB.new w3).below (ba _ (Below.refl _ _))).grown hg4 (by omega)
/-- the flags of a rounding that does not overflow -/
def f0F (M : Nat) : Int := if rrN M = 0 then 0 else if bln M ≤ 19874 then 3 else 1
set_option maxRecDepth 20000 in
set_option maxHeartbeats 4000000 in
theorem n_Round1 (i : Nat) (m e V mode : Int) (l : Nat) (w : World) (hB : Big w i m) (hF : NuF m e V l) (hmd : 0 ≤ mode ∧ mode ≤ 4) (hV0 : V ≠ 0) :
    Calls Tryz.prog 117 #[.agg #[.pointer (some ⟨i, 0, none⟩), .int .i64 e], .int .i64 mode] w (RetFl mode V w) := by
  have hm : m ≠ 0 := fun h => hV0 (by rw [hF.val, h]; unfold dv; rw [Int.zero_mul])
  have HX : Hd (Big (Wq w i e mode) i m ∧ NuF m e V l) := ⟨⟨hB.below (Wq.bel ..), hF⟩⟩
  have hs : (V.sign == 0) = false := by simpa [Int.sign_eq_zero_iff_zero] using hV0
  have he0 : -20000 ≤ e := by have := hF.lo; have := hF.lsc; have hsc : (SC : Int) = 20000 := rfl; omega
  have he1 : e ≤ 2400000 := hF.hi
  have hbm : Bd m := dv_bd (by rw [← hF.val]; exact hF.bd)
  have hL := bln_bd hbm
  have eM : V.natAbs = m.natAbs * 2 ^ (e + 20000).toNat := by rw [hF.val, dv_abs]
  have hq := rq_of (m := m.natAbs) (by omega) he0
  have HLT := Hd.mk (@rt_left m.natAbs e he0)
  have HRT := Hd.mk (fun k hk h => @rt_right m.natAbs e he0 k hk h)
  rw [← eM] at hq HLT HRT
  have HSG := Hd.mk (dy_sgI (s := V.sign) rfl hV0)
  have HBA : Hd (Bd (m.natAbs : Int)) := ⟨bd_abs hbm⟩
  have HRF : Hd (rF mode V = (if decide (V < 0) = true then 2147483648 else 0) + rgN mode (decide (V < 0)) V.natAbs ∧ rFl mode V = flF mode (decide (V < 0)) V.natAbs) := ⟨by
    unfold rF rFl; rw [if_neg hV0, if_neg hV0]
    exact ⟨by congr 1; by_cases h : V < 0 <;> simp [h], rfl⟩⟩
  have hle := rmN_le mode (decide (V < 0)) V.natAbs
  rw [show (2 : Nat) ^ 24 = 16777216 by decide] at hle
  have hbr := bln_bd (bd_nat hle)
  rw [Int.natAbs_natCast] at hbr
  have hqb : (rqN V.natAbs : Int) ≤ 5000000 := by omega
  have hrq0 : 19851 ≤ (rqN V.natAbs : Int) := by omega
  have HS2 := Hd.mk (@single_of mode (decide (V < 0)) V.natAbs)
  have HLE := Hd.mk hle
  generalize hneg : decide (V < 0) = neg at *
  generalize hM : V.natAbs = M at *
  have HLG := Hd.mk (@ov_long M mode neg)
  generalize hsg : V.sign = sg at *
  have HSV := Hd.mk hsg
  generalize hr : rmN mode neg M = r at *
  have HRM : Hd (rtN M + (upB mode neg M).toNat = r) := ⟨hr⟩
  have HOV : Hd (ovB mode neg M = decide (128 < (bln r : Int) + ((rqN M : Int) - 20000))) := ⟨by unfold ovB; rw [hr]; apply decide_eq_decide.2; omega⟩
  have HRQ : Hd ((rqN M : Int) = ((rqN M : Int) - 20000) + 20000) := ⟨by omega⟩
  have hqm : (rqN M : Int) - 20000 = max ((bln m.natAbs : Int) + e - 24) (-149) := by omega
  generalize hqq : (rqN M : Int) - 20000 = q at *
  have hq1 : -149 ≤ q := by omega
  have hq2 : q ≤ 5000000 := by omega
  have hrl : (bln r : Int) ≤ 2400000 := by omega
  generalize hlr : (bln r : Int) = lr at *
  have HLR : Hd ((bln ((r : Nat) : Int).natAbs : Int) = lr) := ⟨by rw [Int.natAbs_natCast]; exact hlr⟩
  have hlm : (bln m.natAbs : Int) ≤ 2400000 := by omega
  generalize hlk : (bln m.natAbs : Int) = lm at *
  have HLM : Hd ((bln m.natAbs : Int) = lm) := ⟨hlk⟩
  have hlm0 : 0 ≤ lm := by omega
  have hlr0 : 0 ≤ lr := by omega
  have HBM : Hd ((bln M : Int) = lm + e + 20000) := ⟨hq.2⟩
  have HQM : Hd (q = max (lm + e - 24) (-149)) := ⟨hqm⟩
  have HTP : Hd (m.natAbs ≠ 0) := ⟨by omega⟩
  have HNF : Hd (flF mode neg M = if ovB mode neg M = true then 5 else f0F M) := ⟨rfl⟩
  have HNR : Hd (rmN mode neg M = r) := ⟨hr⟩
  clear hB hF hm hV0 hbm hL eM hq hle hbr hqb hrq0 hneg hM hsg hr hqq hlr hlk hqm
  go_enter Tryz.func117, Tryz.ntmps117
  go_upto_region 3 with (go_at_call 114; (with_reducible refine (n_SignR i e V sg l _ HSV.out (NuP.of HX.out.1 HX.out.2)).mono ?_); rintro e1 w1 ⟨rfl, hb⟩; have HQ := Hd.mk hb; have HB2 := Hd.mk ((Wq.b2 w i e mode).below hb (Wq.b2 w i e mode).lt); have HB3 := Hd.mk ((Wq.b3 w i e mode).below hb (Wq.b3 w i e mode).lt); have HBI := Hd.mk (HX.out.1.below hb); have c0 := HB2.out.cell 0; have c1 := HB2.out.cell 1; have d0 := HB3.out.cell 0; clear hb)
  go_cut [6, 7] (fun s6 s7 wx => ∃ g6, s6 = .pointer (some ⟨g6, 0, none⟩) ∧ s7 = .int .i64 lm ∧ Hd (R3H w wx i e mode g6 sg m))
  case first =>
    have hz1 := HB2.out.lt
    have hne1 : ¬ (w.heap.size = w1.heap.size) := by omega
    have hne2 : ¬ (w1.heap.size = w.heap.size) := by omega
    have ne0 := World.new_ne w1 ⟨w.heap.size, 0, none⟩ c0
    have p0 := (HB2.out.drew.alloc (Obj.cells #[.int .i64 0] 3)).cell 0
    have p1 := (HB2.out.drew.alloc (Obj.cells #[.int .i64 0] 3)).cell 1
    go_region_with (first | (go_at_call 114; (with_reducible refine (n_SignR i e V sg l _ HSV.out (NuP.of (HBI.out.below (by (repeat (first | exact Below.refl _ _ | assumption | refine Below.drew ?_ | refine bdn ?_ | refine ba _ ?_ | refine bs0 _ _ ?_ ?_ | refine bs1 _ _ _ ?_ ?_ | refine bs2 _ _ _ _ ?_ ?_ | refine bs3 _ _ _ _ _ ?_ ?_ | refine bt3 (by assumption) ?_)))) HX.out.2)).mono ?_); rintro e2 w2 ⟨rfl, hb2⟩; have hz2 := hb2.size; have hne3 : ¬ (w.heap.size = w2.heap.size) := (by (try simp at hz2); omega); have hne4 : ¬ (w2.heap.size = w.heap.size) := (by (try simp at hz2); omega); have hq : Below w1.heap.size w1 w2 := bt3 hb2 (by (repeat (first | exact Below.refl _ _ | assumption | refine Below.drew ?_ | refine bdn ?_ | refine ba _ ?_ | refine bs0 _ _ ?_ ?_ | refine bs1 _ _ _ ?_ ?_ | refine bs2 _ _ _ _ ?_ ?_ | refine bs3 _ _ _ _ _ ?_ ?_ | refine bt3 (by assumption) ?_))); clear c0 c1 d0; have HB2' := Hd.mk (HB2.out.below hq HB2.out.lt); have c0 := HB2'.out.cell 0; have c1 := HB2'.out.cell 1; have ne0' := World.new_ne w2 ⟨w.heap.size, 0, none⟩ c0; have p0 := (HB2'.out.alloc (Obj.cells #[.int .i64 0] 3)).cell 0; have p1 := (HB2'.out.alloc (Obj.cells #[.int .i64 0] 3)).cell 1; have q0 := (HB2'.out.alloc (Obj.cells #[.int .i64 sg] 3)).cell 0; have q1 := (HB2'.out.alloc (Obj.cells #[.int .i64 sg] 3)).cell 1; (try (have HB6 : Hd (Blk w2 w1.heap.size 3 #[.int .i64 0]) := ⟨by first | exact (Blk.new w1.drew _ _).below hb2 (by simp) | exact (Blk.new w1 _ _).below hb2 (by simp)⟩; have r0 := HB6.out.cell 0; have f0 := HB6.out.frozen 0))) | (go_at_call 191; (with_reducible refine (m_BitLenR i m lm _ (HBI.out.below (by (repeat (first | exact Below.refl _ _ | assumption | refine Below.drew ?_ | refine bdn ?_ | refine ba _ ?_ | refine bs0 _ _ ?_ ?_ | refine bs1 _ _ _ ?_ ?_ | refine bs2 _ _ _ _ ?_ ?_ | refine bs3 _ _ _ _ _ ?_ ?_ | refine bt3 (by assumption) ?_)))) HLM.out).mono ?_); rintro e2 w2 ⟨rfl, rfl⟩))
    all_goals go_wp2_with fail
    all_goals go_meet
    all_goals first | exact ⟨w2.heap.size, rfl, rfl, ⟨R3H.fresh HQ.out HBI.out hq⟩⟩ | exact ⟨w1.heap.size, rfl, rfl, ⟨R3H.stored HQ.out HBI.out hq HB6.out⟩⟩
  case rest =>
    obtain ⟨g6, rfl, rfl, HR⟩ := hcut
    clear c0 c1 d0
    have c0 := HR.out.b2.cell 0
    have c1 := HR.out.b2.cell 1
    have d0 := HR.out.b3.cell 0
    have s0 := HR.out.b6.cell 0
    have hw1 : IntKind.i64.wrap (lm + e) = lm + e := by rw [IntKind.wrap_i64]; omega
    have hw2 : IntKind.i64.wrap (lm + e - 24) = lm + e - 24 := by rw [IntKind.wrap_i64]; omega
    by_cases hov : 128 < lm + e
    · have HV : Hd (rF mode V = ovF mode neg ∧ rFl mode V = 5) := ⟨by
        have h1 : ovB mode neg M = true := HLG.out (by have := HBM.out; omega)
        rw [HRF.out.1, HRF.out.2]
        constructor
        · unfold ovF rgN; rw [h1]; simp
        · unfold flF; rw [h1]; simp⟩
      have s0' : wc.cell? ⟨g6, 0, none⟩ = some (.int .i64 (sgI neg)) := by rw [← HSG.out]; exact s0
      go_wp2_with (go_at_call 192; (with_reducible refine (m_Over (w.heap.size + 1) g6 mode neg _ d0 s0').mono ?_); rintro e w' ⟨rfl, rfl⟩)
      go_ret2
      exact ⟨by rw [HV.out.1, HV.out.2] <;> rfl, HR.out.bel⟩
    · have hw3 : ∀ x : Int, x = q → IntKind.i64.wrap x = x := fun x h => by rw [IntKind.wrap_i64]; omega
      go_upto_region 7 with fail
      go_cut [9] (fun s9 wx => s9 = .int .i64 q ∧ wx = wc)
      case first =>
        go_wp2_with fail
        all_goals go_meet
        all_goals exact ⟨by first | rfl | (congr 1; have := HQM.out; omega), rfl⟩
      case rest =>
        obtain ⟨rfl, rfl⟩ := hcut
        generalize hwy : wc = wy at *
        clear hwy
        have p0 := (HR.out.b2.alloc (Obj.cells #[.bool false, .slice none 0 0] 168)).cell 0
        go_upto_if 50 with (go_at_call 193; go_loud ((with_reducible refine (m_AbsZ _ i m _ (IntB.new _) (HR.out.bi.below (by (repeat (first | exact Below.refl _ _ | assumption | refine Below.drew ?_ | refine bdn ?_ | refine ba _ ?_ | refine bs0 _ _ ?_ ?_ | refine bs1 _ _ _ ?_ ?_ | refine bs2 _ _ _ _ ?_ ?_ | refine bs3 _ _ _ _ _ ?_ ?_ | refine bt3 (by assumption) ?_)))) HBA.out).mono ?_); rintro e2 w2 ⟨rfl, hB2, hg2⟩; have HS := Hd.mk (RnH.start HR.out hB2 hg2); clear hB2 hg2 c0 c1; have c0 := HS.out.h3.b2.cell 0; have c1 := HS.out.h3.b2.cell 1))
        generalize hwz : w2.alloc (Obj.cells #[.bool false, .slice none 0 0] 168) = wz at *
        generalize hg12 : w2.heap.size = g12 at *
        generalize hg10 : wy.heap.size = g10 at *
        clear hwz hg12 hg10
        have HTB : Hd ((m.natAbs : Int) / 2 ^ 0 = m.natAbs) := ⟨by simp⟩
        go_cut [11, 13, 14, 15, 16] (fun s11 s13 s14 s15 s16 wx => s11 = .int .i64 (f0F M) ∧ Hd (RnH w wx i e mode g6 sg m g10 g12 (m.natAbs : Int) (r : Int)))
        case first =>
          by_cases hle : q ≤ e
          · obtain ⟨k, hk⟩ := Int.eq_ofNat_of_zero_le (show 0 ≤ e - q by omega)
            have hL := HLT.out (by have := HRQ.out; omega)
            have hkn : (e + 20000 - (rqN M : Int)).toNat = k := by have := HRQ.out; omega
            rw [hkn] at hL
            have HV : Hd ((m.natAbs : Int) * 2 ^ k = (r : Int) ∧ f0F M = 0 ∧ k ≤ 10000000) := ⟨by
              refine ⟨?_, ?_, by omega⟩
              · have hu : upB mode neg M = false := by unfold upB; rw [if_pos hL.2]
                have := HRM.out
                rw [hu, hL.1] at this
                rw [← this]; simp
              · unfold f0F; rw [if_pos hL.2]⟩
            have HBR : Hd (Bd ((m.natAbs : Int) * 2 ^ k)) := ⟨by rw [HV.out.1]; exact bd_nat HLE.out⟩
            have he : e = q + (k : Int) := by omega
            have hk3 : q + (k : Int) - q = (k : Int) := by omega
            have hkI : (k : Int) ≤ 3000000 := by omega
            clear hk hL hkn
            subst he
            generalize hff : f0F M = ff at *
            have HFF := Hd.mk hff
            clear hff
            go_wp2_with (go_at_call 194; go_loud ((with_reducible refine (m_LshZ g12 g10 (m.natAbs : Int) k _ HS.out.r12.intB HS.out.a10 HV.out.2.2 HBR.out).mono ?_); rintro e3 w3 ⟨rfl, hB3, hg3⟩; have HK := Hd.mk (HS.out.grow hg3 (by rw [HV.out.1] at hB3; exact hB3)); clear hB3 hg3))
            go_meet
            exact ⟨by rw [HV.out.2.1], HK⟩
          · obtain ⟨k, hk⟩ := Int.eq_ofNat_of_zero_le (show 0 ≤ q - e by omega)
            have hk0 : 0 < k := by omega
            have hR := HRT.out k hk0 (by have := HRQ.out; omega)
            have hkI : (k : Int) ≤ 3000000 := by have := HQM.out; omega
            have hkp : 1 ≤ (k : Int) := by omega
            have HKN : Hd (k ≤ 10000000 ∧ k - 1 ≤ 10000000 ∧ (k : Int) - 1 = ((k - 1 : Nat) : Int) ∧ 0 ≤ (m.natAbs : Int)) := ⟨⟨by omega, by omega, by omega, by omega⟩⟩
            have hqe : q - e = (k : Int) := by omega
            have hdm := Nat.div_add_mod m.natAbs (2 ^ k)
            have hp := Nat.two_pow_pos k
            have HD : Hd ((m.natAbs : Int) / 2 ^ k = ((m.natAbs / 2 ^ k : Nat) : Int) ∧ (m.natAbs : Int) - (m.natAbs : Int) / 2 ^ k * 2 ^ k = ((m.natAbs % 2 ^ k : Nat) : Int)) := ⟨by
              have e1 : (m.natAbs : Int) / 2 ^ k = ((m.natAbs / 2 ^ k : Nat) : Int) := by push_cast; rfl
              refine ⟨e1, ?_⟩
              rw [e1]
              have e2 : ((2 : Int) ^ k) = ((2 ^ k : Nat) : Int) := by push_cast; rfl
              rw [e2, ← Int.natCast_mul, Nat.mul_comm]
              omega⟩
            have HBD : Hd (Bd ((m.natAbs : Int) / 2 ^ k * 2 ^ k) ∧ Bd ((m.natAbs : Int) - (m.natAbs : Int) / 2 ^ k * 2 ^ k)) := ⟨by
              have hb := HBA.out
              have h1 := HD.out.1
              have h2 := HD.out.2
              have h3 : ((m.natAbs / 2 ^ k * 2 ^ k : Nat) : Int) = (m.natAbs : Int) / 2 ^ k * 2 ^ k := by rw [h1]; push_cast; rfl
              have h4 : m.natAbs / 2 ^ k * 2 ^ k ≤ m.natAbs := Nat.div_mul_le_self _ _
              have h5 : m.natAbs % 2 ^ k ≤ m.natAbs := Nat.mod_le _ _
              rw [h2, ← h3]
              unfold Bd at *; generalize TOP = T at *; omega⟩
            clear hk hdm hp
            generalize hti : (m.natAbs : Int) = ti at *
            generalize hdi : ti / 2 ^ k = di at *
            have HDI : Hd (ti / 2 ^ k = di) := ⟨hdi⟩
            generalize hri : ti - di * 2 ^ k = rsI at *
            have HRI : Hd (ti - di * 2 ^ k = rsI) := ⟨hri⟩
            clear hti hdi hri
            go_upto_if 77 with (first | (go_at_call 195; go_loud ((with_reducible refine (m_RshZ g12 g10 ti k _ HS.out.r12.intB HS.out.a10 HKN.out.1 HKN.out.2.2.2 HBA.out).mono ?_); rintro e3 w3 ⟨rfl, hB3, hg3⟩; have HK := Hd.mk (HS.out.grow hg3 (by rw [HDI.out] at hB3; exact hB3)); clear hB3 hg3)) | (go_at_call 194; go_loud ((with_reducible refine (m_LshZ (w3.heap.size + 1) g12 di k _ (by have := IntB.new (w3.alloc (Obj.cells #[.bool false, .slice none 0 0] 168)); simpa using this) (HK.out.r12.below (by (repeat (first | exact Below.refl _ _ | assumption | refine Below.drew ?_ | refine bdn ?_ | refine ba _ ?_ | refine bs0 _ _ ?_ ?_ | refine bs1 _ _ _ ?_ ?_ | refine bs2 _ _ _ _ ?_ ?_ | refine bs3 _ _ _ _ _ ?_ ?_ | refine bt3 (by assumption) ?_)))) HKN.out.1 HBD.out.1).mono ?_); rintro e4 w4 ⟨rfl, hB4, hg4⟩; have HP := Hd.mk (two_ready rfl hg4); have HB4 := Hd.mk hB4; clear hB4 hg4)) | (go_at_call 196; go_loud ((with_reducible refine (m_SubZ w3.heap.size g10 (w3.heap.size + 1) ti (di * 2 ^ k) _ HP.out.2 (HK.out.a10.below HP.out.1) HB4.out (by omega) (by rw [HRI.out]; exact HBD.out.2)).mono ?_); rintro e5 w5 ⟨rfl, hB5, hg5⟩; have HP5 : Hd (Below w3.heap.size w3 w5) := ⟨HP.out.1.grown hg5 HP.out.1.size (fun k e => by cases e; exact Nat.le_refl _)⟩; have HB5 : Hd (Big w5 w3.heap.size rsI) := ⟨by rw [HRI.out] at hB5; exact hB5⟩; clear hB5 hg5)) | (go_at_call 188; go_loud ((with_reducible refine (m_Sign w3.heap.size rsI _ HB5.out).mono ?_); rintro e6 w6 ⟨rfl, d6, rfl⟩; have HV5 : Hd (RnH w (w5.drewN d6) i e mode g6 sg m g10 g12 ti di) := ⟨HK.out.below (bdn HP5.out)⟩; have HG5 : Hd (Big (w5.drewN d6) w3.heap.size rsI) := ⟨HB5.out.below (bdn (Below.refl _ _))⟩)))
            generalize hwv : w5.drewN d6 = wv at *
            generalize hg14 : w3.heap.size = g14 at *
            clear hwv HP HP5 HB4 HB5 HK
            have HDR : Hd (di = ((m.natAbs / 2 ^ k : Nat) : Int) ∧ rsI = ((m.natAbs % 2 ^ k : Nat) : Int)) := ⟨HD.out⟩
            by_cases hrs : rsI = 0
            · have hb : (rsI.sign == 0) = true := by rw [hrs]; rfl
              have h0 : rrN M = 0 := hR.2.1.2 (by have := HDR.out.2; omega)
              have HV : Hd (di = (r : Int) ∧ f0F M = 0) := ⟨by
                refine ⟨?_, by unfold f0F; rw [if_pos h0]⟩
                have hu : upB mode neg M = false := by unfold upB; rw [if_pos h0]
                have := HRM.out
                rw [hu, hR.1] at this
                rw [← this, HDR.out.1]; simp⟩
              generalize hff : f0F M = ff at *
              have HFF := Hd.mk hff
              clear hff hrs
              go_wp2_with fail
              go_meet
              exact ⟨by rw [HV.out.2], ⟨by have := HV5.out; rw [HV.out.1] at this; exact this⟩⟩
            · have hb : (rsI.sign == 0) = false := by simpa [Int.sign_eq_zero_iff_zero] using hrs
              have h0 : rrN M ≠ 0 := fun h => hrs (by have := HDR.out.2; have := hR.2.1.1 h; omega)
              have HR0 := Hd.mk h0
              have HU0 : Hd (upB 0 neg M = (decide (2 ^ (k - 1) < m.natAbs % 2 ^ k) || (decide (2 ^ (k - 1) = m.natAbs % 2 ^ k) && decide (m.natAbs / 2 ^ k % 2 = 1)))) := ⟨by
                rw [upB_near neg h0, decide_eq_decide.2 hR.2.2.1, decide_eq_decide.2 hR.2.2.2, hR.1]⟩
              have HRV : Hd (m.natAbs / 2 ^ k + (upB mode neg M).toNat = r) := ⟨by rw [← hR.1]; exact HRM.out⟩
              have HPW : Hd (Bd ((1 : Int) * 2 ^ (k - 1))) := ⟨by rw [Int.one_mul]; exact bd_pow (by have := HQM.out; omega)⟩
              have HFV : Hd (f0F M = if lm + e ≤ -126 then 3 else 1) := ⟨by
                unfold f0F; rw [if_neg h0]
                have := HBM.out
                by_cases hl : lm + e ≤ -126
                · rw [if_pos hl, if_pos (by omega)]
                · rw [if_neg hl, if_neg (by omega)]⟩
              have HCC : Hd ((cmpI rsI (1 * 2 ^ (k - 1)) = 1 ∧ 2 ^ (k - 1) < m.natAbs % 2 ^ k) ∨ (cmpI rsI (1 * 2 ^ (k - 1)) = 0 ∧ 2 ^ (k - 1) = m.natAbs % 2 ^ k) ∨ (cmpI rsI (1 * 2 ^ (k - 1)) = -1 ∧ m.natAbs % 2 ^ k < 2 ^ (k - 1))) := ⟨by
                have h6 : ((1 : Int) * 2 ^ (k - 1)) = ((2 ^ (k - 1) : Nat) : Int) := by rw [Int.one_mul]; push_cast; rfl
                rw [HDR.out.2, h6]
                generalize 2 ^ (k - 1) = P
                generalize m.natAbs % 2 ^ k = R
                unfold cmpI
                rcases Nat.lt_trichotomy P R with h | h | h
                · exact Or.inl ⟨by rw [if_neg (by omega), if_pos (by omega)], h⟩
                · exact Or.inr (Or.inl ⟨by rw [if_neg (by omega), if_neg (by omega)], h⟩)
                · exact Or.inr (Or.inr ⟨by rw [if_pos (by omega)], h⟩)⟩
              generalize hcc : cmpI rsI (1 * 2 ^ (k - 1)) = cc at *
              have HCI : Hd (cmpI rsI (1 * 2 ^ (k - 1)) = cc) := ⟨hcc⟩
              have hkm := HKN.out.2.2.1
              generalize hkk : ((k - 1 : Nat) : Int) = kk at *
              have HKK : Hd (kk = ((k - 1 : Nat) : Int)) := ⟨hkk.symm⟩
              clear h0 hR hcc hkk hrs HRT
              clear c0 c1 p0
              have c1 := HV5.out.h3.b2.cell 1
              have c0 := HV5.out.h3.b2.cell 0
              have hks : 0 ≤ kk := by omega
              have hks2 : kk ≤ 3000000 := by omega
              by_cases hl : lm + e ≤ -126
              · have HF3 : Hd (f0F M = 3) := ⟨by rw [HFV.out, if_pos hl]⟩
                generalize hff : f0F M = ff at *
                obtain rfl : ff = 3 := HF3.out
                clear HFV HF3
                go_upto_block 0 with (first | (go_at_call 184; go_loud ((with_reducible refine (m_New 1 _ (by omega) (by omega)).mono ?_); rintro e7 w7 ⟨gn, rfl, hgn, hB7, hb7⟩; have HN7 := Hd.mk hB7; have HQ7 := Hd.mk hb7; clear hB7 hb7)) | (go_at_call 194; go_loud ((with_reducible refine (m_LshZR wv.heap.size gn 1 kk (k - 1) _ ((IntB.new wv).below HQ7.out) HN7.out HKN.out.2.1 HKK.out HPW.out).mono ?_); rintro e8 w8 ⟨rfl, hB8, hg8⟩; have HB8 := Hd.mk hB8; have HQ8 : Hd (Below wv.heap.size wv w8) := ⟨(bt3 HQ7.out (ba _ (Below.refl _ _))).grown hg8 (bt3 HQ7.out (ba _ (Below.refl _ _))).size (fun k e => by cases e; exact Nat.le_refl _)⟩; clear hB8 hg8)) | (go_at_call 197; go_loud ((with_reducible refine (m_CmpZR g14 wv.heap.size rsI (1 * 2 ^ (k - 1)) cc _ (HG5.out.below HQ8.out) HB8.out HCI.out).mono ?_); rintro e9 w9 ⟨rfl, d9, rfl⟩; have HV9 : Hd (RnH w (w8.drewN d9) i e mode g6 sg m g10 g12 ti di) := ⟨HV5.out.below (bdn HQ8.out)⟩; clear c0 c1 d0 s0; have c0 := HV9.out.h3.b2.cell 0; have c1 := HV9.out.h3.b2.cell 1; have d0 := HV9.out.h3.b3.cell 0; have s0 := HV9.out.h3.b6.cell 0)))
                generalize hwk : w8.drewN d9 = wk at *
                clear hwk
                go_cut [16] (fun s16 wx => s16 = .bool (upB mode neg M) ∧ Hd (RnH w wx i e mode g6 sg m g10 g12 ti di))
                case first =>
                  obtain ⟨hmd0, hmd1⟩ := hmd
                  have hmode : mode = 0 ∨ mode = 1 ∨ mode = 2 ∨ mode = 3 ∨ mode = 4 := by omega
                  rcases hmode with rfl | rfl | rfl | rfl | rfl
                  · have HB2 : Hd (((di.natAbs : Int) / 2 ^ 0 % 2) = ((m.natAbs / 2 ^ k % 2 : Nat) : Int)) := ⟨by rw [HDR.out.1, Int.natAbs_natCast, Int.pow_zero, Int.ediv_one]; rfl⟩
                    have hb2 := Nat.mod_two_eq_zero_or_one (m.natAbs / 2 ^ k)
                    generalize m.natAbs / 2 ^ k % 2 = x2 at *
                    generalize m.natAbs % 2 ^ k = x3 at *
                    generalize 2 ^ (k - 1) = x4 at *
                    rcases HCC.out with ⟨rfl, hx⟩ | ⟨rfl, hx⟩ | ⟨rfl, hx⟩
                    · have HUx : Hd (upB 0 neg M = true) := ⟨by rw [HU0.out, decide_eq_true hx]; rfl⟩
                      clear hx
                      go_wp2
                      go_meet
                      exact ⟨by rw [HUx.out], HV9⟩
                    · rcases hb2 with rfl | rfl
                      · have HUx : Hd (upB 0 neg M = false) := ⟨by rw [HU0.out, decide_eq_false (show ¬ x4 < x3 by omega), decide_eq_true hx]; rfl⟩
                        have HB3 : Hd ((di.natAbs : Int) / 2 ^ 0 % 2 = (0 : Int)) := ⟨HB2.out⟩
                        clear hx
                        go_wp2_with (go_at_call 198; go_loud ((with_reducible refine (m_BitR g12 di 0 0 _ HV9.out.r12 HB3.out).mono ?_); rintro e w' ⟨rfl, rfl⟩))
                        go_meet
                        exact ⟨by rw [HUx.out], HV9⟩
                      · have HUx : Hd (upB 0 neg M = true) := ⟨by rw [HU0.out, decide_eq_false (show ¬ x4 < x3 by omega), decide_eq_true hx]; rfl⟩
                        have HB3 : Hd ((di.natAbs : Int) / 2 ^ 0 % 2 = (1 : Int)) := ⟨HB2.out⟩
                        clear hx
                        go_wp2_with (go_at_call 198; go_loud ((with_reducible refine (m_BitR g12 di 0 1 _ HV9.out.r12 HB3.out).mono ?_); rintro e w' ⟨rfl, rfl⟩))
                        go_meet
                        exact ⟨by rw [HUx.out], HV9⟩
                    · have HUx : Hd (upB 0 neg M = false) := ⟨by rw [HU0.out, decide_eq_false (show ¬ x4 < x3 by omega), decide_eq_false (show ¬ x4 = x3 by omega)]; rfl⟩
                      clear hx
                      go_wp2
                      go_meet
                      exact ⟨by rw [HUx.out], HV9⟩
                  · have HUx := Hd.mk (upB_down neg HR0.out)
                    have hneg : neg = true ∨ neg = false := by cases neg <;> simp
                    rcases hneg with hn | hn
                    · subst hn
                      obtain rfl : sg = -1 := HSG.out
                      go_wp2
                      go_meet
                      exact ⟨by rw [HUx.out] <;> rfl, HV9⟩
                    · subst hn
                      obtain rfl : sg = 1 := HSG.out
                      go_wp2
                      go_meet
                      exact ⟨by rw [HUx.out] <;> rfl, HV9⟩
                  · have HUx := Hd.mk (upB_up neg HR0.out)
                    have hneg : neg = true ∨ neg = false := by cases neg <;> simp
                    rcases hneg with hn | hn
                    · subst hn
                      obtain rfl : sg = -1 := HSG.out
                      go_wp2
                      go_meet
                      exact ⟨by rw [HUx.out] <;> rfl, HV9⟩
                    · subst hn
                      obtain rfl : sg = 1 := HSG.out
                      go_wp2
                      go_meet
                      exact ⟨by rw [HUx.out] <;> rfl, HV9⟩
                  · have HUx := Hd.mk (upB_zero neg HR0.out)
                    go_wp2
                    go_meet
                    exact ⟨by rw [HUx.out], HV9⟩
                  · have HUx := Hd.mk (upB_out neg HR0.out)
                    go_wp2
                    go_meet
                    exact ⟨by rw [HUx.out], HV9⟩
                case rest =>
                  obtain ⟨rfl, HVA⟩ := hcut
                  clear c0 c1 d0 s0
                  generalize hup : upB mode neg M = up at *
                  clear hup
                  cases up
                  · have HE : Hd (di = (r : Int)) := ⟨by have := HRV.out; rw [HDR.out.1, ← this]; simp⟩
                    go_wp2_with fail
                    go_meet
                    exact ⟨rfl, ⟨by have := HVA.out; rw [HE.out] at this; exact this⟩⟩
                  · have HE : Hd (di + 1 = (r : Int)) := ⟨by have := HRV.out; rw [HDR.out.1, ← this]; rfl⟩
                    have HBE : Hd (Bd (di + 1)) := ⟨by rw [HE.out]; exact bd_nat HLE.out⟩
                    go_wp2_with (first | (go_at_call 184; go_loud ((with_reducible refine (m_New 1 _ (by omega) (by omega)).mono ?_); rintro e7 wm ⟨gm, rfl, hgm, hBm, hbm⟩; have HNm := Hd.mk hBm; have HVm := Hd.mk (HVA.out.below hbm); have hneg1 := HVA.out.r12.lt; clear hBm hbm)) | (go_at_call 186; go_loud ((with_reducible refine (m_AddZ g12 g12 gm di 1 _ HVm.out.r12.intB HVm.out.r12 HNm.out (by omega) HBE.out).mono ?_); rintro e8 wn ⟨rfl, hBn, hgn2⟩; have HVn := Hd.mk (HVm.out.grow hgn2 (by rw [HE.out] at hBn; exact hBn)); clear hBn hgn2)))
                    go_meet
                    exact ⟨rfl, HVn⟩
              · have HF3 : Hd (f0F M = 1) := ⟨by rw [HFV.out, if_neg hl]⟩
                generalize hff : f0F M = ff at *
                obtain rfl : ff = 1 := HF3.out
                clear HFV HF3
                go_upto_block 0 with (first | (go_at_call 184; go_loud ((with_reducible refine (m_New 1 _ (by omega) (by omega)).mono ?_); rintro e7 w7 ⟨gn, rfl, hgn, hB7, hb7⟩; have HN7 := Hd.mk hB7; have HQ7 := Hd.mk hb7; clear hB7 hb7)) | (go_at_call 194; go_loud ((with_reducible refine (m_LshZR wv.heap.size gn 1 kk (k - 1) _ ((IntB.new wv).below HQ7.out) HN7.out HKN.out.2.1 HKK.out HPW.out).mono ?_); rintro e8 w8 ⟨rfl, hB8, hg8⟩; have HB8 := Hd.mk hB8; have HQ8 : Hd (Below wv.heap.size wv w8) := ⟨(bt3 HQ7.out (ba _ (Below.refl _ _))).grown hg8 (bt3 HQ7.out (ba _ (Below.refl _ _))).size (fun k e => by cases e; exact Nat.le_refl _)⟩; clear hB8 hg8)) | (go_at_call 197; go_loud ((with_reducible refine (m_CmpZR g14 wv.heap.size rsI (1 * 2 ^ (k - 1)) cc _ (HG5.out.below HQ8.out) HB8.out HCI.out).mono ?_); rintro e9 w9 ⟨rfl, d9, rfl⟩; have HV9 : Hd (RnH w (w8.drewN d9) i e mode g6 sg m g10 g12 ti di) := ⟨HV5.out.below (bdn HQ8.out)⟩; clear c0 c1 d0 s0; have c0 := HV9.out.h3.b2.cell 0; have c1 := HV9.out.h3.b2.cell 1; have d0 := HV9.out.h3.b3.cell 0; have s0 := HV9.out.h3.b6.cell 0)))
                generalize hwk : w8.drewN d9 = wk at *
                clear hwk
                go_cut [16] (fun s16 wx => s16 = .bool (upB mode neg M) ∧ Hd (RnH w wx i e mode g6 sg m g10 g12 ti di))
                case first =>
                  obtain ⟨hmd0, hmd1⟩ := hmd
                  have hmode : mode = 0 ∨ mode = 1 ∨ mode = 2 ∨ mode = 3 ∨ mode = 4 := by omega
                  rcases hmode with rfl | rfl | rfl | rfl | rfl
                  · have HB2 : Hd (((di.natAbs : Int) / 2 ^ 0 % 2) = ((m.natAbs / 2 ^ k % 2 : Nat) : Int)) := ⟨by rw [HDR.out.1, Int.natAbs_natCast, Int.pow_zero, Int.ediv_one]; rfl⟩
                    have hb2 := Nat.mod_two_eq_zero_or_one (m.natAbs / 2 ^ k)
                    generalize m.natAbs / 2 ^ k % 2 = x2 at *
                    generalize m.natAbs % 2 ^ k = x3 at *
                    generalize 2 ^ (k - 1) = x4 at *
                    rcases HCC.out with ⟨rfl, hx⟩ | ⟨rfl, hx⟩ | ⟨rfl, hx⟩
                    · have HUx : Hd (upB 0 neg M = true) := ⟨by rw [HU0.out, decide_eq_true hx]; rfl⟩
                      clear hx
                      go_wp2
                      go_meet
                      exact ⟨by rw [HUx.out], HV9⟩
                    · rcases hb2 with rfl | rfl
                      · have HUx : Hd (upB 0 neg M = false) := ⟨by rw [HU0.out, decide_eq_false (show ¬ x4 < x3 by omega), decide_eq_true hx]; rfl⟩
                        have HB3 : Hd ((di.natAbs : Int) / 2 ^ 0 % 2 = (0 : Int)) := ⟨HB2.out⟩
                        clear hx
                        go_wp2_with (go_at_call 198; go_loud ((with_reducible refine (m_BitR g12 di 0 0 _ HV9.out.r12 HB3.out).mono ?_); rintro e w' ⟨rfl, rfl⟩))
                        go_meet
                        exact ⟨by rw [HUx.out], HV9⟩
                      · have HUx : Hd (upB 0 neg M = true) := ⟨by rw [HU0.out, decide_eq_false (show ¬ x4 < x3 by omega), decide_eq_true hx]; rfl⟩
                        have HB3 : Hd ((di.natAbs : Int) / 2 ^ 0 % 2 = (1 : Int)) := ⟨HB2.out⟩
                        clear hx
                        go_wp2_with (go_at_call 198; go_loud ((with_reducible refine (m_BitR g12 di 0 1 _ HV9.out.r12 HB3.out).mono ?_); rintro e w' ⟨rfl, rfl⟩))
                        go_meet
                        exact ⟨by rw [HUx.out], HV9⟩
                    · have HUx : Hd (upB 0 neg M = false) := ⟨by rw [HU0.out, decide_eq_false (show ¬ x4 < x3 by omega), decide_eq_false (show ¬ x4 = x3 by omega)]; rfl⟩
                      clear hx
                      go_wp2
                      go_meet
                      exact ⟨by rw [HUx.out], HV9⟩
                  · have HUx := Hd.mk (upB_down neg HR0.out)
                    have hneg : neg = true ∨ neg = false := by cases neg <;> simp
                    rcases hneg with hn | hn
                    · subst hn
                      obtain rfl : sg = -1 := HSG.out
                      go_wp2
                      go_meet
                      exact ⟨by rw [HUx.out] <;> rfl, HV9⟩
                    · subst hn
                      obtain rfl : sg = 1 := HSG.out
                      go_wp2
                      go_meet
                      exact ⟨by rw [HUx.out] <;> rfl, HV9⟩
                  · have HUx := Hd.mk (upB_up neg HR0.out)
                    have hneg : neg = true ∨ neg = false := by cases neg <;> simp
                    rcases hneg with hn | hn
                    · subst hn
                      obtain rfl : sg = -1 := HSG.out
                      go_wp2
                      go_meet
                      exact ⟨by rw [HUx.out] <;> rfl, HV9⟩
                    · subst hn
                      obtain rfl : sg = 1 := HSG.out
                      go_wp2
                      go_meet
                      exact ⟨by rw [HUx.out] <;> rfl, HV9⟩
                  · have HUx := Hd.mk (upB_zero neg HR0.out)
                    go_wp2
                    go_meet
                    exact ⟨by rw [HUx.out], HV9⟩
                  · have HUx := Hd.mk (upB_out neg HR0.out)
                    go_wp2
                    go_meet
                    exact ⟨by rw [HUx.out], HV9⟩
                case rest =>
                  obtain ⟨rfl, HVA⟩ := hcut
                  clear c0 c1 d0 s0
                  generalize hup : upB mode neg M = up at *
                  clear hup
                  cases up
                  · have HE : Hd (di = (r : Int)) := ⟨by have := HRV.out; rw [HDR.out.1, ← this]; simp⟩
                    go_wp2_with fail
                    go_meet
                    exact ⟨rfl, ⟨by have := HVA.out; rw [HE.out] at this; exact this⟩⟩
                  · have HE : Hd (di + 1 = (r : Int)) := ⟨by have := HRV.out; rw [HDR.out.1, ← this]; rfl⟩
                    have HBE : Hd (Bd (di + 1)) := ⟨by rw [HE.out]; exact bd_nat HLE.out⟩
                    go_wp2_with (first | (go_at_call 184; go_loud ((with_reducible refine (m_New 1 _ (by omega) (by omega)).mono ?_); rintro e7 wm ⟨gm, rfl, hgm, hBm, hbm⟩; have HNm := Hd.mk hBm; have HVm := Hd.mk (HVA.out.below hbm); have hneg1 := HVA.out.r12.lt; clear hBm hbm)) | (go_at_call 186; go_loud ((with_reducible refine (m_AddZ g12 g12 gm di 1 _ HVm.out.r12.intB HVm.out.r12 HNm.out (by omega) HBE.out).mono ?_); rintro e8 wn ⟨rfl, hBn, hgn2⟩; have HVn := Hd.mk (HVm.out.grow hgn2 (by rw [HE.out] at hBn; exact hBn)); clear hBn hgn2)))
                    go_meet
                    exact ⟨rfl, HVn⟩
        case rest =>
          obtain ⟨rfl, HT⟩ := hcut
          clear c0 c1 d0 s0 p0
          have d0 := HT.out.h3.b3.cell 0
          have s0 := HT.out.h3.b6.cell 0
          have s0' : wc.cell? ⟨g6, 0, none⟩ = some (.int .i64 (sgI neg)) := by rw [← HSG.out]; exact s0
          generalize hff : f0F M = ff at *
          have HFF := Hd.mk hff
          clear hff
          have hw4 : IntKind.i64.wrap (lr + q) = lr + q := by rw [IntKind.wrap_i64]; omega
          by_cases hov2 : 128 < lr + q
          · have HV : Hd (rF mode V = ovF mode neg ∧ rFl mode V = 5) := ⟨by
              have h1 : ovB mode neg M = true := by rw [HOV.out]; exact decide_eq_true hov2
              rw [HRF.out.1, HRF.out.2]
              constructor
              · unfold ovF rgN; rw [h1]; simp
              · unfold flF; rw [h1]; simp⟩
            go_wp2_with (first | (go_at_call 191; (with_reducible refine (m_BitLenR g12 (r : Int) lr _ HT.out.r12 HLR.out).mono ?_); rintro e w' ⟨rfl, rfl⟩) | (go_at_call 192; (with_reducible refine (m_Over (w.heap.size + 1) g6 mode neg _ d0 s0').mono ?_); rintro e w' ⟨rfl, rfl⟩))
            go_ret2
            exact ⟨by rw [HV.out.1, HV.out.2] <;> rfl, HT.out.h3.bel⟩
          · have HNO : Hd (ovB mode neg M = false) := ⟨by rw [HOV.out]; exact decide_eq_false hov2⟩
            have HG := Hd.mk (rg_sign HNO.out)
            have hg := negFloat_eq (rgN mode neg M) HG.out.1
            have k1 := fun w => run_convert_float_float (P := Tryz.prog) w 26 22 .f64 .f32 (if r = 0 then 0 else dw false r q) (rgN mode neg M) (by kernel_rfl) Tryz.underlying22 (HS2.out HNO.out)
            generalize hz : (if r = 0 then 0 else dw false r q) = z at *
            have HZ := Hd.mk hz
            have HQ3 : Hd (-149 ≤ q ∧ q ≤ 200 ∧ 0 ≤ (r : Int) ∧ (r : Int) < 4294967296) := ⟨⟨hq1, by omega, by omega, by have := HLE.out; omega⟩⟩
            have HFL : Hd (rFl mode V = ff) := ⟨by rw [HRF.out.2, HNF.out, HNO.out, if_neg (by decide)]⟩
            generalize hy : rgN mode neg M = y at *
            have HYY := Hd.mk hy
            clear hz HS2 hy
            generalize hri : ((r : Nat) : Int) = ri at *
            have HRI : Hd (((r : Nat) : Int) = ri) := ⟨hri⟩
            clear hri
            have hneg : neg = true ∨ neg = false := by cases neg <;> simp
            rcases hneg with hn | hn
            · subst hn
              have HF : Hd (rF mode V = ng y) := ⟨by rw [HRF.out.1, HG.out.2.2]; simp⟩
              obtain rfl : sg = -1 := HSG.out
              go_wp2_with (first | (go_at_call 191; (with_reducible refine (m_BitLenR g12 ri lr _ HT.out.r12 HLR.out).mono ?_); rintro e w' ⟨rfl, rfl⟩) | (go_at_call 200; (with_reducible refine (m_Int64 g12 ri _ HT.out.r12 HQ3.out.2.2.1 HQ3.out.2.2.2).mono ?_); rintro e w' ⟨rfl, rfl⟩) | (go_at_call 199; (with_reducible refine (l_LdexpZ r q (floatOfInt .f64 ri) z _ HLE.out HQ3.out.1 HQ3.out.2.1 (by rw [HRI.out]) HZ.out).mono ?_); rintro e w' ⟨rfl, rfl⟩))
              go_ret2
              exact ⟨by rw [HF.out, HFL.out] <;> rfl, HT.out.h3.bel⟩
            · subst hn
              have HF : Hd (rF mode V = y) := ⟨by rw [HRF.out.1]; simp⟩
              obtain rfl : sg = 1 := HSG.out
              go_wp2_with (first | (go_at_call 191; (with_reducible refine (m_BitLenR g12 ri lr _ HT.out.r12 HLR.out).mono ?_); rintro e w' ⟨rfl, rfl⟩) | (go_at_call 200; (with_reducible refine (m_Int64 g12 ri _ HT.out.r12 HQ3.out.2.2.1 HQ3.out.2.2.2).mono ?_); rintro e w' ⟨rfl, rfl⟩) | (go_at_call 199; (with_reducible refine (l_LdexpZ r q (floatOfInt .f64 ri) z _ HLE.out HQ3.out.1 HQ3.out.2.1 (by rw [HRI.out]) HZ.out).mono ?_); rintro e w' ⟨rfl, rfl⟩))
              go_ret2
              exact ⟨by rw [HF.out, HFL.out] <;> rfl, HT.out.h3.bel⟩
theorem n_Round (i : Nat) (e V mode : Int) (l : Nat) (w : World) (hX : NuP w i e V l) (hmd : 0 ≤ mode ∧ mode ≤ 4) :
    Calls Tryz.prog 117 #[.agg #[.pointer (some ⟨i, 0, none⟩), .int .i64 e], .int .i64 mode] w (RetFl mode V w) := by
  by_cases hV : V = 0
  · exact n_Round0 i e V mode l w hX hV
  · obtain ⟨m, h1, h2⟩ := hX
    exact n_Round1 i m e V mode l w h1 h2 hmd hV
end Go.Proofs.YtflgjecpjaiecaaGreat
/- Contracts: the rounding of an expansion, both sides. -/
set_option linter.unusedVariables false
set_option linter.unusedSimpArgs false
namespace Go.Proofs.YtflgjecpjaiecaaGreat
open Go.RowKit Num Flt
def modeB (mode : Int) : Bool := decide (0 ≤ mode) && decide (mode ≤ 4)
theorem s_InM (x : Int) (w : World) : Calls Tryz.prog 86 #[.int .i64 x, .int .i64 0, .int .i64 4] w fun e w' => e = .returned (.bool (modeB x)) ∧ w = w' := by
  unfold modeB
  by_cases h0 : 0 ≤ x
  · by_cases h1 : x ≤ 4
    · rw [decide_eq_true h0, decide_eq_true h1]
      go_enter Tryz.func86, Tryz.ntmps86
      go_wp2
      go_ret
      exact ⟨rfl, rfl⟩
    · rw [decide_eq_true h0, decide_eq_false h1]
      go_enter Tryz.func86, Tryz.ntmps86
      go_wp2
      go_ret
      exact ⟨rfl, rfl⟩
  · rw [decide_eq_false h0]
    go_enter Tryz.func86, Tryz.ntmps86
    go_wp2
    go_ret
    exact ⟨rfl, rfl⟩
theorem s_Mode (mode : Int) (w : World) : Calls Tryz.prog 154 #[.int .i64 mode] w fun e w' => e = .returned (.bool (modeB mode)) ∧ w = w' := by
  go_enter Tryz.func154, Tryz.ntmps154
  go_wp2_with (go_at_call 86; (with_reducible refine (s_InM mode _).mono ?_); rintro e w' ⟨rfl, rfl⟩)
  go_ret
  exact ⟨rfl, rfl⟩
theorem i_Mode (mode : Int) (w : World) : Calls Tryz.prog 102 #[.int .i64 mode] w fun e w' => e = .returned (.bool (modeB mode)) ∧ w = w' := by
  unfold modeB
  by_cases h0 : 0 ≤ mode
  · by_cases h1 : mode ≤ 4
    · rw [decide_eq_true h0, decide_eq_true h1]
      go_enter Tryz.func102, Tryz.ntmps102
      go_wp2
      go_ret
      exact ⟨rfl, rfl⟩
    · rw [decide_eq_true h0, decide_eq_false h1]
      go_enter Tryz.func102, Tryz.ntmps102
      go_wp2
      go_ret
      exact ⟨rfl, rfl⟩
  · rw [decide_eq_false h0]
    go_enter Tryz.func102, Tryz.ntmps102
    go_wp2
    go_ret
    exact ⟨rfl, rfl⟩
theorem modeB_of {mode : Int} (h : modeB mode = true) : 0 ≤ mode ∧ mode ≤ 4 := by
  unfold modeB at h; simpa using h
/-- the answers of RoundExpansion -/
def reC (xs : List Nat) (mode : Int) : Int := if lstC xs = 0 then (if modeB mode = true then 0 else 2) else lstC xs
def reF (xs : List Nat) (mode : Int) : Nat := if reC xs mode = 0 then rF mode (sumv xs) else 0
def reFl (xs : List Nat) (mode : Int) : Int := if reC xs mode = 0 then rFl mode (sumv xs) else 0
def RetRE (xs : List Nat) (mode : Int) (w : World) (e : Ending) (w' : World) : Prop := e = .returned (.tuple #[.float .f32 (reF xs mode), .int .i64 (reFl xs mode), .int .i64 (reC xs mode)]) ∧ Below w.heap.size w w'
theorem re_bad {xs : List Nat} (mode : Int) (h : lstC xs ≠ 0) : reC xs mode = lstC xs ∧ reF xs mode = 0 ∧ reFl xs mode = 0 := by
  have h1 : reC xs mode = lstC xs := by unfold reC; rw [if_neg h]
  exact ⟨h1, by unfold reF; rw [h1, if_neg h], by unfold reFl; rw [h1, if_neg h]⟩
theorem re_mode {xs : List Nat} {mode : Int} (h : lstC xs = 0) (hm : modeB mode = false) : reC xs mode = 2 ∧ reF xs mode = 0 ∧ reFl xs mode = 0 := by
  have h1 : reC xs mode = 2 := by unfold reC; rw [if_pos h, hm]; rfl
  exact ⟨h1, by unfold reF; rw [h1]; rfl, by unfold reFl; rw [h1]; rfl⟩
theorem re_good {xs : List Nat} {mode : Int} (h : lstC xs = 0) (hm : modeB mode = true) : reC xs mode = 0 ∧ reF xs mode = rF mode (sumv xs) ∧ reFl xs mode = rFl mode (sumv xs) := by
  have h1 : reC xs mode = 0 := by unfold reC; rw [if_pos h, hm]; rfl
  exact ⟨h1, by unfold reF; rw [h1]; rfl, by unfold reFl; rw [h1]; rfl⟩
set_option maxHeartbeats 4000000 in
theorem s_RoundE (A : Option Addr) (n c : Nat) (xs : List Nat) (mode : Int) (w : World) (hn : n = xs.length) (hl : n ≤ LIM) (hR : RF w A xs) (hx : ∀ x ∈ xs, W x) :
    Calls Tryz.prog 84 #[.slice A n c, .int .i64 mode] w (RetRE xs mode w) := by
  have HR : Hd (RF w A xs ∧ n = xs.length ∧ n ≤ LIM ∧ ∀ x ∈ xs, W x) := ⟨⟨hR, hn, hl, hx⟩⟩
  clear hR hn hl hx
  by_cases h0 : lstC xs = 0
  · have HF : Hd (n ≤ 1000 ∧ ∀ x ∈ xs, W x ∧ fin x) := ⟨⟨by have := (lst_fin h0).1; have := HR.out.2.1; omega, fun x h => ⟨HR.out.2.2.2 x h, (lst_fin h0).2 x h⟩⟩⟩
    cases hm : modeB mode
    · have HV := Hd.mk (re_mode h0 hm)
      go_enter Tryz.func84, Tryz.ntmps84
      go_wp2_with (first | (go_at_call 147; (with_reducible refine (s_List A n c xs _ HR.out.2.1 HR.out.2.2.1 HR.out.1 HR.out.2.2.2).mono ?_); rintro e w' ⟨rfl, ⟨nd, rfl⟩⟩) | (go_at_call 154; (with_reducible refine (s_Mode mode _).mono ?_); rintro e w' ⟨rfl, rfl⟩))
      refine bodyPost_ret (v := .tuple #[.float .f32 0, .int .i64 0, .int .i64 2]) (by simp (maxDischargeDepth := 7) [results, Tryz.results84, go_sem, *]) rfl ⟨?_, ?_⟩
      · rw [HV.out.1, HV.out.2.1, HV.out.2.2]
      · (repeat (first | exact Below.refl _ _ | assumption | refine Below.drew ?_ | refine bdn ?_ | refine ba _ ?_ | refine bs0 _ _ ?_ ?_ | refine bs1 _ _ _ ?_ ?_ | refine bs2 _ _ _ _ ?_ ?_ | refine bs3 _ _ _ _ _ ?_ ?_ | refine bt3 (by assumption) ?_))
    · have HV := Hd.mk (re_good h0 hm)
      have HM := Hd.mk (modeB_of hm)
      go_enter Tryz.func84, Tryz.ntmps84
      go_wp2_with (first | (go_at_call 147; (with_reducible refine (s_List A n c xs _ HR.out.2.1 HR.out.2.2.1 HR.out.1 HR.out.2.2.2).mono ?_); rintro e w' ⟨rfl, ⟨nd, rfl⟩⟩) | (go_at_call 154; (with_reducible refine (s_Mode mode _).mono ?_); rintro e w' ⟨rfl, rfl⟩) | (go_at_call 151; (with_reducible refine (s_All A n c xs _ HR.out.2.1 HF.out.1 (HR.out.1.below (by (repeat (first | exact Below.refl _ _ | assumption | refine Below.drew ?_ | refine bdn ?_ | refine ba _ ?_ | refine bs0 _ _ ?_ ?_ | refine bs1 _ _ _ ?_ ?_ | refine bs2 _ _ _ _ ?_ ?_ | refine bs3 _ _ _ _ _ ?_ ?_ | refine bt3 (by assumption) ?_)))) HF.out.2).mono ?_); rintro e' w2 ⟨s2, A2, n2, c2, x2, rfl, hD, hq⟩; have HD := Hd.mk hD.dp; have HB : Hd (Below w.heap.size w w2) := ⟨Below.trans (bdn (Below.refl _ _)) hq⟩; clear hD hq) | (go_at_call 155; (with_reducible refine (s_Round s2 A2 n2 c2 x2 (sumv xs) mode 149 _ HD.out HM.out).mono ?_); rintro e' w3 ⟨rfl, hq⟩; have HB3 : Hd (Below w.heap.size w w3) := ⟨bt3 hq HB.out⟩; clear hq))
      refine bodyPost_ret (v := .tuple #[.float .f32 (rF mode (sumv xs)), .int .i64 (rFl mode (sumv xs)), .int .i64 0]) (by simp (maxDischargeDepth := 7) [results, Tryz.results84, go_sem, *]) rfl ⟨?_, HB3.out⟩
      rw [HV.out.1, HV.out.2.1, HV.out.2.2]
  · have HV := Hd.mk (re_bad mode h0)
    have h1 : (lstC xs == 0) = false := by simpa using h0
    generalize hlc : lstC xs = lc at *
    have HLC := Hd.mk hlc
    clear hlc h0
    go_enter Tryz.func84, Tryz.ntmps84
    go_wp2_with (go_at_call 147; (with_reducible refine (s_List A n c xs _ HR.out.2.1 HR.out.2.2.1 HR.out.1 HR.out.2.2.2).mono ?_); rintro e w' ⟨rfl, ⟨nd, rfl⟩⟩; rw [HLC.out])
    refine bodyPost_ret (v := .tuple #[.float .f32 0, .int .i64 0, .int .i64 lc]) (by simp (maxDischargeDepth := 7) [results, Tryz.results84, go_sem, *]) rfl ⟨?_, ?_⟩
    · rw [HV.out.1, HV.out.2.1, HV.out.2.2]
    · (repeat (first | exact Below.refl _ _ | assumption | refine Below.drew ?_ | refine bdn ?_ | refine ba _ ?_ | refine bs0 _ _ ?_ ?_ | refine bs1 _ _ _ ?_ ?_ | refine bs2 _ _ _ _ ?_ ?_ | refine bs3 _ _ _ _ _ ?_ ?_ | refine bt3 (by assumption) ?_))
set_option maxHeartbeats 4000000 in
theorem m_RoundE (A : Option Addr) (n c : Nat) (xs : List Nat) (mode : Int) (w : World) (hn : n = xs.length) (hl : n ≤ LIM) (hR : RF w A xs) (hx : ∀ x ∈ xs, W x) :
    Calls Tryz.prog 83 #[.slice A n c, .int .i64 mode] w (RetRE xs mode w) := by
  have HR : Hd (RF w A xs ∧ n = xs.length ∧ n ≤ LIM ∧ ∀ x ∈ xs, W x) := ⟨⟨hR, hn, hl, hx⟩⟩
  clear hR hn hl hx
  by_cases h0 : lstC xs = 0
  · have HF : Hd (n ≤ 1000 ∧ ∀ x ∈ xs, W x ∧ fin x) := ⟨⟨by have := (lst_fin h0).1; have := HR.out.2.1; omega, fun x h => ⟨HR.out.2.2.2 x h, (lst_fin h0).2 x h⟩⟩⟩
    cases hm : modeB mode
    · have HV := Hd.mk (re_mode h0 hm)
      go_enter Tryz.func83, Tryz.ntmps83
      go_wp2_with (first | (go_at_call 148; (with_reducible refine (m_Exp A n c xs _ HR.out.2.1 HR.out.2.2.1 HR.out.1 HR.out.2.2.2).mono ?_); rintro e w' ⟨rfl, rfl⟩) | (go_at_call 102; (with_reducible refine (i_Mode mode _).mono ?_); rintro e w' ⟨rfl, rfl⟩))
      refine bodyPost_ret (v := .tuple #[.float .f32 0, .int .i64 0, .int .i64 2]) (by simp (maxDischargeDepth := 7) [results, Tryz.results83, go_sem, *]) rfl ⟨?_, ?_⟩
      · rw [HV.out.1, HV.out.2.1, HV.out.2.2]
      · (repeat (first | exact Below.refl _ _ | assumption | refine Below.drew ?_ | refine bdn ?_ | refine ba _ ?_ | refine bs0 _ _ ?_ ?_ | refine bs1 _ _ _ ?_ ?_ | refine bs2 _ _ _ _ ?_ ?_ | refine bs3 _ _ _ _ _ ?_ ?_ | refine bt3 (by assumption) ?_))
    · have HV := Hd.mk (re_good h0 hm)
      have HM := Hd.mk (modeB_of hm)
      go_enter Tryz.func83, Tryz.ntmps83
      go_wp2_with (first | (go_at_call 148; (with_reducible refine (m_Exp A n c xs _ HR.out.2.1 HR.out.2.2.1 HR.out.1 HR.out.2.2.2).mono ?_); rintro e w' ⟨rfl, rfl⟩) | (go_at_call 102; (with_reducible refine (i_Mode mode _).mono ?_); rintro e w' ⟨rfl, rfl⟩) | (go_at_call 149; (with_reducible refine (n_Parts A n c xs _ HR.out.2.1 HF.out.1 HR.out.1 HF.out.2).mono ?_); rintro e1 w1 ⟨g, x, rfl, hN, hb⟩; have HN := Hd.mk hN; have HB : Hd (Below w.heap.size w w1) := ⟨hb⟩; clear hN hb) | (go_at_call 117; (with_reducible refine (n_Round g x (sumv xs) mode 149 _ HN.out HM.out).mono ?_); rintro e' w3 ⟨rfl, hq⟩; have HB3 : Hd (Below w.heap.size w w3) := ⟨bt3 hq HB.out⟩; clear hq))
      refine bodyPost_ret (v := .tuple #[.float .f32 (rF mode (sumv xs)), .int .i64 (rFl mode (sumv xs)), .int .i64 0]) (by simp (maxDischargeDepth := 7) [results, Tryz.results83, go_sem, *]) rfl ⟨?_, HB3.out⟩
      rw [HV.out.1, HV.out.2.1, HV.out.2.2]
  · have HV := Hd.mk (re_bad mode h0)
    have h1 : (lstC xs == 0) = false := by simpa using h0
    generalize hlc : lstC xs = lc at *
    have HLC := Hd.mk hlc
    clear hlc h0
    go_enter Tryz.func83, Tryz.ntmps83
    go_wp2_with (go_at_call 148; (with_reducible refine (m_Exp A n c xs _ HR.out.2.1 HR.out.2.2.1 HR.out.1 HR.out.2.2.2).mono ?_); rintro e w' ⟨rfl, rfl⟩; rw [HLC.out])
    refine bodyPost_ret (v := .tuple #[.float .f32 0, .int .i64 0, .int .i64 lc]) (by simp (maxDischargeDepth := 7) [results, Tryz.results83, go_sem, *]) rfl ⟨?_, ?_⟩
    · rw [HV.out.1, HV.out.2.1, HV.out.2.2]
    · (repeat (first | exact Below.refl _ _ | assumption | refine Below.drew ?_ | refine bdn ?_ | refine ba _ ?_ | refine bs0 _ _ ?_ ?_ | refine bs1 _ _ _ ?_ ?_ | refine bs2 _ _ _ _ ?_ ?_ | refine bs3 _ _ _ _ _ ?_ ?_ | refine bt3 (by assumption) ?_))
end Go.Proofs.YtflgjecpjaiecaaGreat
