/- Gg: P17 S14 S15 Ld Rd S16 S17, merged. -/
import Derived.Test.YtflgjecpjaiecaaGreatGeq4
import Derived.Test.YtflgjecpjaiecaaGreatGcq4
import Derived.Test.YtflgjecpjaiecaaGreatGbq4
import Derived.Test.YtflgjecpjaiecaaGreatGaq4
import Derived.Laws.BitsAllLaws
import Derived.Deep.CutBlock
/- Contracts: the program's integers: bits, low digits, shifts to the right, trailing zeros. -/
set_option linter.unusedVariables false
set_option linter.unusedSimpArgs false
namespace Go.Proofs.YtflgjecpjaiecaaGreat
open Go.RowKit Num
theorem MagD.at_ {w : World} {A : Option Addr} {n c : Nat} {xs : List Int} {v : Int} (h : MagD w A n c xs v) {k : Nat} (hk : k < n) : ∃ ad, A = some ad ∧ w.cell? (ad.add k) = some (.int .u32 (xs.getD k 0)) :=
  h.reads.at_ (by have := h.len; omega)
theorem MagD.bit {w : World} {A : Option Addr} {n c : Nat} {xs : List Int} {v : Int} (h : MagD w A n c xs v) (k : Nat) : v / 2 ^ k % 2 = xs.getD (k / 32) 0 / 2 ^ (k % 32) % 2 := by
  rw [h.eq]; exact bit_dig (p := 32) rfl h.can.1 k (by decide)
set_option maxHeartbeats 4000000 in
theorem m_Bit (x : Nat) (a : Int) (k : Nat) (w : World) (hX : Big w x a) (hk : k ≤ 10000000) :
    Calls Tryz.prog 198 #[.pointer (some ⟨x, 0, none⟩), .int .i64 k] w fun e w' => e = .returned (.int .u64 ((a.natAbs : Int) / 2 ^ k % 2)) ∧ w = w' := by
  obtain ⟨neg, A, n, c, c0, c1, ⟨xs, hM⟩, hn, ha, hneg, h0⟩ := hX.parts
  have hkI : (k : Int) ≤ 10000000 := by omega
  have hb := hM.bit k
  rw [hb]
  by_cases h1 : k / 32 < n
  · obtain ⟨ad, hA, hcx⟩ := hM.at_ h1
    subst hA
    have hg := hM.can.1.getD (B := 4294967296) (by decide) (k / 32)
    have hx0 : 0 ≤ xs.getD (k / 32) 0 / 2 ^ (k % 32) := Int.ediv_nonneg hg.1 (Int.le_of_lt (pow_pos' (by decide) _))
    have hx1 : xs.getD (k / 32) 0 / 2 ^ (k % 32) < 4294967296 := Int.lt_of_le_of_lt (Int.ediv_le_self _ hg.1) hg.2
    have hand : bits .and .u32 (xs.getD (k / 32) 0 / 2 ^ (k % 32)) 1 = xs.getD (k / 32) 0 / 2 ^ (k % 32) % 2 := bits_mask .u32 32 (by decide) wraps_u32 1 (by decide) _ hx0 (by omega)
    generalize xs.getD (k / 32) 0 = y at *
    have h1I : ¬ ((k : Int) / 32 ≥ n) := by omega
    clear hM ha hneg h0 hb hX hk
    go_enter Tryz.func198, Tryz.ntmps198
    go_wp2
    go_ret
    exact ⟨rfl, rfl⟩
  · have hz : xs.getD (k / 32) 0 = 0 := getD_far (by have := hM.len; omega)
    rw [hz]
    have h1I : (k : Int) / 32 ≥ n := by omega
    have hq : (0 : Int) / 2 ^ (k % 32) % 2 = 0 := by simp
    rw [hq]
    clear hM ha hneg h0 hb hX hk hz hq
    go_enter Tryz.func198, Tryz.ntmps198
    go_wp2
    go_ret
    exact ⟨rfl, rfl⟩
/-- the digits of a number below 2^32 -/
theorem MagD.small {w : World} {A : Option Addr} {n c : Nat} {xs : List Int} {v : Int} (h : MagD w A n c xs v) (hv : v < 4294967296) : (n = 0 ∧ v = 0) ∨ (n = 1 ∧ xs = [v] ∧ 0 < v) := by
  have hl := h.len
  have he := h.eq
  match xs, h.can, he, hl with
  | [], _, he, hl => exact .inl ⟨hl, he⟩
  | [x], hc, he, hl =>
    have hp := hc.pos (by decide) (by simp)
    have e2 : val 4294967296 [x] = x := by show x + 4294967296 * 0 = x; omega
    rw [e2] at he hp
    exact .inr ⟨hl, by rw [he], by omega⟩
  | x :: y :: zs, hc, he, hl =>
    have hp := hc.lower (by decide) (by simp)
    have h1 : (4294967296 : Int) ^ 1 ≤ 4294967296 ^ ((x :: y :: zs).length - 1) := pow_le (by decide) (by simp)
    rw [Int.pow_succ, Int.pow_zero] at h1
    omega
set_option maxHeartbeats 4000000 in
theorem m_Low (x : Nat) (a : Int) (w : World) (hX : Big w x a) (h0 : 0 ≤ a) (h1 : a < 4294967296) :
    Calls Tryz.prog 252 #[.pointer (some ⟨x, 0, none⟩)] w fun e w' => e = .returned (.int .u64 a) ∧ w = w' := by
  obtain ⟨neg, A, n, c, c0, c1, ⟨xs, hM⟩, hn, ha, hneg, hz⟩ := hX.parts
  have e : (a.natAbs : Int) = a := by omega
  rw [e] at hM
  rcases hM.small h1 with ⟨rfl, hv⟩ | ⟨rfl, hv, hp⟩
  · subst hv
    clear hM ha hneg hz hX e
    go_enter Tryz.func252, Tryz.ntmps252
    go_wp2
    refine wp_loop_rounds 1 ?_
    rw [rounds_succ]
    go_wp2_with fail
    go_ret
    exact ⟨rfl, rfl⟩
  · obtain ⟨ad, hA, hcx⟩ := hM.at_ (k := 0) (by omega)
    subst hA
    have e2 : xs.getD 0 0 = a := by rw [hv]; rfl
    rw [e2] at hcx
    have e3 : ad.add 0 = ad := by simp [Addr.add]
    rw [e3] at hcx
    have hor : bits .or .u64 0 a = a := by rw [u64_or _ _ (by omega) (by omega) h0 (by omega)]; simp; omega
    clear hM ha hneg hz hX e hv e2 e3
    go_enter Tryz.func252, Tryz.ntmps252
    go_wp2
    refine wp_loop_rounds 2 ?_
    rw [rounds_succ]
    go_wp2_with fail
    rw [rounds_succ]
    go_wp2_with fail
    go_ret
    exact ⟨rfl, rfl⟩
set_option maxHeartbeats 4000000 in
theorem m_Int64 (x : Nat) (a : Int) (w : World) (hX : Big w x a) (h0 : 0 ≤ a) (h1 : a < 4294967296) :
    Calls Tryz.prog 200 #[.pointer (some ⟨x, 0, none⟩)] w fun e w' => e = .returned (.int .i64 a) ∧ w = w' := by
  obtain ⟨neg, A, n, c, c0, c1, hM, hn, ha, hneg, hz⟩ := hX.parts
  have HX : Hd (Big w x a) := ⟨hX⟩
  obtain rfl : neg = false := by rw [hneg]; exact decide_eq_false (by omega)
  clear hM ha hneg hz hX
  go_enter Tryz.func200, Tryz.ntmps200
  go_wp2_with (go_at_call 252; (with_reducible refine (m_Low x a _ HX.out h0 h1).mono ?_); rintro e w' ⟨rfl, rfl⟩)
  go_ret
  exact ⟨rfl, rfl⟩
set_option maxHeartbeats 4000000 in
theorem m_RshZ (g x : Nat) (a : Int) (k : Nat) (w : World) (hz : IntB w g) (hX : Big w x a) (hk : k ≤ 10000000) (ha0 : 0 ≤ a) (hbd : Bd a) :
    Calls Tryz.prog 195 #[.pointer (some ⟨g, 0, none⟩), .pointer (some ⟨x, 0, none⟩), .int .u64 k] w (RetZ g (a / 2 ^ k) w) := by
  obtain ⟨neg, A, n, c, c0, c1, hM, hn, ha, hneg, h0⟩ := hX.parts
  have HZ : Hd (IntB w g) := ⟨hz⟩
  have HM : Hd (MagP w A n c a) := ⟨by have := hM; rwa [show (a.natAbs : Int) = a by omega] at this⟩
  have HN : Hd (n ≤ 1000000 ∧ k ≤ 10000000) := ⟨⟨by omega, hk⟩⟩
  have HBD : Hd (Bd (a / 2 ^ k)) := ⟨bd_le (by
    have h1 : a / 2 ^ k ≤ a := Int.ediv_le_self _ ha0
    have h2 : 0 ≤ a / 2 ^ k := Int.ediv_nonneg ha0 (Int.le_of_lt (pow2_pos k))
    omega) hbd⟩
  obtain rfl : neg = false := by rw [hneg]; exact decide_eq_false (by omega)
  clear hz hM hn ha hneg h0 hk hbd hX ha0
  go_enter Tryz.func195, Tryz.ntmps195
  go_wp2_with (first | (go_at_call 246; (with_reducible refine (m_Right A n c _ k _ (HM.out.below (by (repeat (first | exact Below.refl _ _ | assumption | refine Below.drew ?_ | refine bdn ?_ | refine ba _ ?_ | refine bs0 _ _ ?_ ?_ | refine bs1 _ _ _ ?_ ?_ | refine bs2 _ _ _ _ ?_ ?_ | refine bs3 _ _ _ _ _ ?_ ?_ | refine bt3 (by assumption) ?_)))) HN.out.1 HN.out.2).mono ?_); rintro e w1 ⟨A1, n1, k1, rfl, hM1, hb⟩; have HM1 : Hd (MagP w1 A1 n1 k1 _) := ⟨hM1⟩; have HB : Hd (Below w.heap.size w w1) := ⟨hb⟩; clear hM1 hb) | (go_at_call 240; (with_reducible refine (m_PutM g false A1 n1 k1 _ _ (HZ.out.below HB.out) HM1.out HBD.out).mono ?_); rintro e w2 ⟨rfl, hB, hg⟩; have HR : Hd (Big w2 g (a / 2 ^ k) ∧ w.grownBy w2 (some g)) := ⟨⟨by simpa [sgv] using hB, bgrown HB.out hg⟩⟩; clear hB hg))
  go_ret
  exact ⟨rfl, HR.out.1, HR.out.2⟩
end Go.Proofs.YtflgjecpjaiecaaGreat
/- Contracts: lengths and products of whole numbers, of the reference. -/
set_option linter.unusedVariables false
set_option linter.unusedSimpArgs false
namespace Go.Proofs.YtflgjecpjaiecaaGreat
open Go.RowKit Num
theorem NumS.abs {s : Int} {xs : List Int} {a : Int} (h : NumS s xs a) : (a.natAbs : Int) = val 16777216 xs := by
  have h0 := val_nonneg (B := 16777216) (by decide) h.can.1
  have h1 := h.eq
  rcases h.sgn with ⟨rfl, rfl⟩ | ⟨rfl | rfl, _⟩
  · rw [h1]; simp [val]
  · omega
  · omega
set_option maxHeartbeats 4000000 in
theorem s_Length (s : Int) (A : Option Addr) (n c : Nat) (xs : List Int) (a : Int) (w : World) (hX : WhD w s A n c xs a) :
    Calls Tryz.prog 221 #[.agg #[.int .i64 s, .slice A n c]] w fun e w' => e = .returned (.int .i64 (bln a.natAbs)) ∧ Below w.heap.size w w' := by
  have hnI : (n : Int) ≤ 100000 := by have := hX.lim5; omega
  have he := hX.num.abs
  by_cases h0 : n = 0
  · subst h0
    have HV : Hd (bln a.natAbs = 0) := ⟨by
      have h2 : xs = [] := List.eq_nil_of_length_eq_zero hX.len.symm
      rw [h2] at he
      have h3 : val 16777216 [] = 0 := rfl
      have : a.natAbs = 0 := by omega
      rw [this]; rfl⟩
    clear hX he
    go_enter Tryz.func221, Tryz.ntmps221
    go_wp2
    go_ret
    exact ⟨by rw [HV.out]; rfl, ba _ (Below.refl _ _)⟩
  · obtain ⟨m, rfl⟩ : ∃ m, n = m + 1 := ⟨n - 1, by omega⟩
    have hx : xs ≠ [] := fun e => by have := hX.len; rw [e] at this; simp at this
    have hb := Canon.bln (B := 16777216) (p := 24) (by decide) rfl hX.can hx
    have hlen : xs.length - 1 = m := by have := hX.len; omega
    rw [hlen, ← he, Int.natAbs_natCast] at hb
    have hg := hX.rng.getD (B := 16777216) (by decide) m
    obtain ⟨ad, hA, hcx⟩ := hX.reads.at_ (k := m) (by have := hX.len; omega)
    subst hA
    generalize xs.getD m 0 = x at *
    obtain ⟨t, rfl⟩ : ∃ t : Nat, x = t := ⟨x.toNat, by omega⟩
    rw [Int.natAbs_natCast] at hb
    have HB : Hd (bln a.natAbs = 24 * m + bln t) := ⟨hb.1⟩
    have HT : Hd ((t : Int) < 16777216) := ⟨hg.2⟩
    replace hnI : (m : Int) ≤ 99999 := by omega
    replace hcx : (w.alloc (Obj.cells #[.int .i64 s, .slice (some ad) (m + 1) c] 64)).cell? (ad.add m) = some (.int .i64 t) := cb (ba _ (Below.refl _ _)) hcx
    clear hX hb hx hlen hg h0 he
    go_enter Tryz.func221, Tryz.ntmps221
    go_wp2
    go_loop [4, 5] (fun i d => ∃ j : Nat, i = .int .i64 (24 * (m : Int) + j) ∧ d = .int .i64 ((t / 2 ^ j : Nat) : Int) ∧ Hd (j = 0 ∨ 2 ^ (j - 1) ≤ t) ∧ (j : Int) ≤ 32) (fun _ d => (intOf d).toNat)
    case atStart => exact ⟨0, by go_num, by simp, ⟨Or.inl rfl⟩, by omega⟩
    case round =>
      obtain ⟨j, rfl, rfl, HJ, hj⟩ := hrel
      by_cases h1 : t / 2 ^ j = 0
      · have HE : Hd (bln a.natAbs = 24 * m + j) := ⟨by rw [HB.out, bln_half HJ.out h1]⟩
        rw [h1]
        clear h1
        go_wp2
        go_ret
        exact ⟨by rw [HE.out]; go_num, ba _ (Below.refl _ _)⟩
      · have h2 := half_step h1
        have HS : Hd (t / 2 ^ j / 2 = t / 2 ^ (j + 1) ∧ 2 ^ j ≤ t) := ⟨h2⟩
        have hj2 : j < 32 := by
          rcases Nat.lt_or_ge j 32 with h | h
          · exact h
          · have h3 : (2 : Nat) ^ 32 ≤ 2 ^ j := Nat.pow_le_pow_right (by decide) h
            have h4 : (2 : Nat) ^ 32 = 4294967296 := by decide
            have := h2.2; have := HT.out; omega
        have key : ∀ u : Nat, ((u / 2 : Nat) : Int) = (u : Int) / 2 := fun u => by omega
        have HD : Hd (((t / 2 ^ (j + 1) : Nat) : Int) = ((t / 2 ^ j : Nat) : Int) / 2) := ⟨by rw [← HS.out.1]; exact key _⟩
        have hd1 : ((t / 2 ^ j : Nat) : Int) < 16777216 := Int.lt_of_le_of_lt (Int.ofNat_le.2 (Nat.div_le_self _ _)) HT.out
        have hd0 : 0 < ((t / 2 ^ j : Nat) : Int) := Int.natCast_pos.2 (Nat.pos_of_ne_zero h1)
        clear key
        generalize hu : ((t / 2 ^ j : Nat) : Int) = d at *
        have HU : Hd (((t / 2 ^ j : Nat) : Int) = d) := ⟨hu⟩
        clear h1 h2 hu
        go_wp2
        go_round
        case rel => exact ⟨j + 1, by go_num, by rw [HD.out], ⟨Or.inr (by simpa using HS.out.2)⟩, by omega⟩
        case measure => simp [intOf]; omega
/-- a row of int64s in block g, known whole -/
def Row64 (w : World) (g : Nat) (zs : List Int) : Prop := Blk w g 2 (c64 zs).toArray
theorem Row64.cell {w : World} {g : Nat} {zs : List Int} (h : Row64 w g zs) {i : Nat} (hi : i < zs.length) : w.cell? ⟨g, i, none⟩ = some (.int .i64 (zs.getD i 0)) := by
  rw [Blk.cell h]; simpa using c64_at zs i hi
theorem Row64.set {w : World} {g : Nat} {zs : List Int} (h : Row64 w g zs) (i : Nat) (x : Int) : Row64 (w.setCell ⟨g, i, none⟩ (.int .i64 x)) g (zs.set i x) := by
  have := Blk.set_ h i (.int .i64 x)
  unfold Row64
  have e : (c64 (zs.set i x)).toArray = (c64 zs).toArray.setIfInBounds i (.int .i64 x) := by simp [c64, List.map_set]
  rw [e]; exact this
theorem Row64.reads {w : World} {g : Nat} {zs : List Int} (h : Row64 w g zs) : R64 w (some ⟨g, 0, none⟩) zs := by
  refine ⟨by simp [c64], fun _ => ⟨_, rfl, Blk.lt h, fun j u hu => ?_⟩⟩
  have : (⟨g, 0, none⟩ : Addr).add j = ⟨g, j, none⟩ := by unfold Addr.add; split <;> simp_all
  rw [this, Blk.cell h]; simpa using hu
end Go.Proofs.YtflgjecpjaiecaaGreat
/- Contracts: rounding in the reference: multiples of the last place. -/
set_option linter.unusedVariables false
set_option linter.unusedSimpArgs false
namespace Go.Proofs.YtflgjecpjaiecaaGreat
open Go.RowKit Num Flt
/-- the nearest one, told by bits, of an odd number -/
theorem up_near {m k : Nat} (hodd : m % 2 = 1) (hk : 0 < k) : (decide (2 ^ (k - 1) < m % 2 ^ k) || (decide (2 ^ (k - 1) = m % 2 ^ k) && decide (m / 2 ^ k % 2 = 1))) = (decide (m / 2 ^ (k - 1) % 2 = 1) && (decide (1 < k) || decide (m / 2 ^ k % 2 = 1))) := by
  obtain ⟨j, rfl⟩ : ∃ j, k = j + 1 := ⟨k - 1, by omega⟩
  simp only [Nat.add_sub_cancel]
  have hp := Nat.two_pow_pos j
  have e1 : m / 2 ^ (j + 1) = m / 2 ^ j / 2 := by rw [Nat.pow_succ, Nat.div_div_eq_div_mul]
  have e2 : m % 2 ^ (j + 1) = m % 2 ^ j + 2 ^ j * (m / 2 ^ j % 2) := by rw [Nat.pow_succ, Nat.mod_mul]
  have h1 := Nat.mod_lt m hp
  rcases Nat.mod_two_eq_zero_or_one (m / 2 ^ j) with h | h
  · rw [e2, h, Nat.mul_zero, Nat.add_zero]
    have : ¬ 2 ^ j < m % 2 ^ j := by omega
    have : ¬ 2 ^ j = m % 2 ^ j := by omega
    simp [*]
  · rw [e2, h, Nat.mul_one]
    by_cases hj : j = 0
    · subst hj
      simp [Nat.mod_one]
    · have h2 : m % 2 ^ j ≠ 0 := fun h3 => by
        obtain ⟨i, rfl⟩ : ∃ i, j = i + 1 := ⟨j - 1, by omega⟩
        have := Nat.dvd_of_mod_eq_zero h3
        have h4 : 2 ∣ m := Nat.dvd_trans ⟨2 ^ i, by rw [Nat.pow_succ, Nat.mul_comm]⟩ this
        omega
      have h3 : 2 ^ j < m % 2 ^ j + 2 ^ j := by omega
      have h4 : 1 < j + 1 := by omega
      simp [h3, h4]
theorem upB_near {M : Nat} (neg : Bool) (h : rrN M ≠ 0) : upB 0 neg M = (decide (2 ^ rqN M < 2 * rrN M) || (decide (2 ^ rqN M = 2 * rrN M) && decide (rtN M % 2 = 1))) := by
  unfold upB; rw [if_neg h, if_pos rfl]
theorem upB_down {M : Nat} (neg : Bool) (h : rrN M ≠ 0) : upB 1 neg M = neg := by unfold upB; rw [if_neg h, if_neg (by decide), if_pos rfl]
theorem upB_up {M : Nat} (neg : Bool) (h : rrN M ≠ 0) : upB 2 neg M = !neg := by unfold upB; rw [if_neg h, if_neg (by decide), if_neg (by decide), if_pos rfl]
theorem upB_zero {M : Nat} (neg : Bool) (h : rrN M ≠ 0) : upB 3 neg M = false := by unfold upB; rw [if_neg h]; rfl
theorem upB_out {M : Nat} (neg : Bool) (h : rrN M ≠ 0) : upB 4 neg M = true := by unfold upB; rw [if_neg h]; rfl
theorem s_LengthB (s : Int) (A : Option Addr) (n c : Nat) (a : Int) (w : World) (hX : WhP w s A n c a) :
    Calls Tryz.prog 221 #[.agg #[.int .i64 s, .slice A n c]] w fun e w' => e = .returned (.int .i64 (bln a.natAbs)) ∧ Below w.heap.size w w' := by
  obtain ⟨xs, h⟩ := hX.opened
  exact s_Length s A n c xs a w h
theorem s_BitP (s : Int) (A : Option Addr) (n c : Nat) (a : Int) (k : Nat) (w : World) (hX : WhP w s A n c a) (hk : k ≤ 10000000) :
    Calls Tryz.prog 265 #[.agg #[.int .i64 s, .slice A n c], .int .i64 k] w fun e w' => e = .returned (.int .i64 ((a.natAbs / 2 ^ k % 2 : Nat) : Int)) ∧ Below w.heap.size w w' := by
  obtain ⟨xs, h⟩ := hX.opened
  have e := h.num.abs
  have e2 : ((a.natAbs / 2 ^ k % 2 : Nat) : Int) = val 16777216 xs / 2 ^ k % 2 := by rw [← e]; push_cast; rfl
  rw [e2]
  exact s_Bit s A n c xs a k w h hk
theorem s_CutP (s : Int) (A : Option Addr) (n c : Nat) (a k : Nat) (w : World) (hX : WhP w s A n c (a : Int)) (ha : a ≠ 0) (hk : k ≤ 10000000) (hb0 : Bd ((a / 2 ^ k : Nat) : Int)) :
    Calls Tryz.prog 261 #[.agg #[.int .i64 s, .slice A n c], .int .i64 k] w (RetWh ((a / 2 ^ k : Nat) : Int) w) := by
  obtain ⟨xs, h⟩ := hX.opened
  have e := h.num.abs
  rw [Int.natAbs_natCast] at e
  have hs : s = 1 := by
    have h1 := h.num.eq
    have h2 := val_nonneg (B := 16777216) (by decide) h.rng
    rcases h.num.sgn with ⟨rfl, rfl⟩ | ⟨rfl | rfl, _⟩
    · simp [val] at h1; omega
    · rfl
    · omega
  subst hs
  have e2 : ((a / 2 ^ k : Nat) : Int) = 1 * (val 16777216 xs / 2 ^ k) := by rw [Int.one_mul, ← e]; push_cast; rfl
  rw [e2] at hb0 ⊢
  exact s_Cut 1 A n c xs a k w h hk hb0
/-- a float times -1 -/
theorem f_turn (x : Nat) (hx : W x) (hn : ¬ nan x) : floatBits .mul .f32 x 3212836864 = some (ng x) := by
  show Ieee.single.mul _ _ = _
  unfold Ieee.Format.mul
  rw [show Ieee.single.read 3212836864 = .number true 8388608 (-23) by decide]
  have hw : ∀ s : Bool, Ieee.single.word (s ^^ true) (x % 2147483648) = if s then x % 2147483648 else 2147483648 + x % 2147483648 := fun s => by cases s <;> rfl
  have hg : (if sgf Ieee.single x then x % 2147483648 else 2147483648 + x % 2147483648) = ng x := by
    unfold sgf ng
    show (if (x / 2147483648 % 2 == 1) = true then _ else _) = _
    unfold W at hx
    by_cases h : x < 2147483648
    · rw [Nat.div_eq_of_lt h, if_neg (by decide), if_pos h, Nat.mod_eq_of_lt h]; omega
    · rw [show x / 2147483648 = 1 by omega, if_pos (by decide), if_neg h]; omega
  rcases Nat.lt_or_eq_of_le (show x % 2147483648 ≤ 2139095040 by unfold nan at hn; omega) with h | h
  · rw [read_fin Ieee.single (x := x) (by decide) h]
    simp only [Ieee.Datum.product, Option.map, Ieee.Format.write]
    have e := snearest (sgf Ieee.single x ^^ true) (mg 8388608 (x % 2147483648) * 8388608) (-149 + (ex 8388608 (x % 2147483648) : Nat) + -23) (x % 2147483648) (Nat.le_of_lt h) ⟨23, by omega, by
      rw [V_eq, show (-149 + ((ex 8388608 (x % 2147483648) : Nat) : Int) + -23 + 149 + ((23 : Nat) : Int)).toNat = ex 8388608 (x % 2147483648) by omega]
      generalize mg 8388608 (x % 2147483648) = A
      generalize 2 ^ ex 8388608 (x % 2147483648) = E
      rw [Nat.mul_right_comm]⟩
    rw [hw, hg] at e
    exact congrArg some e
  · rw [read_inf Ieee.single (x := x) (by decide) h]
    simp only [Ieee.Datum.product, Option.map, Ieee.Format.write]
    rw [if_neg (by decide)]
    have := hw (sgf Ieee.single x)
    rw [h] at this hg
    show some (Ieee.single.word (sgf Ieee.single x ^^ true) 2139095040) = _
    rw [this, hg]
set_option maxHeartbeats 4000000 in
theorem s_Turned (x : Nat) (w : World) (hx : W x) (hn : ¬ nan x) : Calls Tryz.prog 104 #[.float .f32 x] w fun e w' => e = .returned (.float .f32 (ng x)) ∧ w = w' := by
  have k2 := fun w => run_float_arith (P := Tryz.prog) w .mul 22 .f32 x 3212836864 (ng x) (f_turn x hx hn)
  clear hx hn
  go_enter Tryz.func104, Tryz.ntmps104
  go_wp2
  go_ret
  exact ⟨rfl, rfl⟩
end Go.Proofs.YtflgjecpjaiecaaGreat
/- Contracts: math.Ldexp at whole numbers below 2^53. -/
set_option linter.unusedVariables false
set_option linter.unusedSimpArgs false
set_option exponentiation.threshold 3000
namespace Go.Proofs.YtflgjecpjaiecaaGreat
open Go.RowKit Flt
theorem run_f64bits (x : Nat) (w : World) : (callFunc 276 #[.float .f64 x]).run Tryz.prog w = .ok (.value (.int .u64 x)) w := by
  rw [run_callFunc_extern (P := Tryz.prog) (f := 276) (fn := Tryz.f276) (e := Extern.MathFloatBits.float64bits) (by kernel_rfl) (by kernel_rfl) (by kernel_rfl) (by kernel_rfl) (by kernel_rfl)]
  rfl
/-- the order of two wide words without a sign -/
theorem d_ord {a b : Nat} (ha : a ≤ 9218868437227405312) (hb : b ≤ 9218868437227405312) : FloatKind.f64.format.order a b = some (compare (a : Int) b) := by
  have h : ∀ {x : Nat}, x ≤ 9218868437227405312 → x % Ieee.double.signWeight = x ∧ sgf Ieee.double x = false := fun {x} hx => by
    refine ⟨Nat.mod_eq_of_lt (by show x < 9223372036854775808; omega), ?_⟩
    unfold sgf
    show (x / 9223372036854775808 % 2 == 1) = false
    rw [Nat.div_eq_of_lt (by omega)]; rfl
  have := order_eq Ieee.double (x := a) (y := b) (by decide) (by decide) (by rw [(h ha).1]; exact ha) (by rw [(h hb).1]; exact hb)
  rw [(h ha).1, (h hb).1, (h ha).2, (h hb).2] at this
  exact this
theorem d_one (s : Bool) {r : Nat} (h : r < 9218868437227405312) : floatBits .mul .f64 4607182418800017408 (Ieee.double.word s r) = some (Ieee.double.word s r) := by
  show Ieee.double.mul _ _ = _
  unfold Ieee.Format.mul
  rw [read_word s h, show Ieee.double.read 4607182418800017408 = .number false 4503599627370496 (-52) by decide]
  simp only [Ieee.Datum.product, Option.map, Ieee.Format.write, Bool.false_xor]
  congr 1
  apply dnearest s _ _ r (Nat.le_of_lt h)
  refine ⟨52, by omega, ?_⟩
  rw [V_eq, show (-52 + (-1074 + ((ex 4503599627370496 r : Nat) : Int)) + 1074 + ((52 : Nat) : Int)).toNat = ex 4503599627370496 r by omega]
  generalize mg 4503599627370496 r = A
  generalize 2 ^ ex 4503599627370496 r = E
  rw [Nat.mul_assoc]
  generalize A * E = P
  show 4503599627370496 * P = P * 4503599627370496
  omega
/-- the bits of a wide word without a sign, E its exponent field, F its fraction -/
structure Bt (X E F : Nat) : Prop where
  eq : X = E * 4503599627370496 + F
  lt : F < 4503599627370496
  e0 : 1 ≤ E
  e1 : E ≤ 2046
theorem Bt.le {X E F : Nat} (h : Bt X E F) : X < 9218868437227405312 := by have := h.eq; have := h.lt; have := h.e1; omega
theorem Bt.abs {X E F : Nat} (h : Bt X E F) : bits .andNot .u64 (X : Int) 9223372036854775808 = X := by
  have := h.le
  rw [u64_andNot _ _ (by omega) (by omega) (by omega) (by omega)]
  have e : (18446744073709551615 - (9223372036854775808 : Int).toNat : Nat) = 2 ^ 63 - 1 := by decide
  have h63 : (2 : Nat) ^ 63 = 9223372036854775808 := by decide
  rw [Int.toNat_natCast, e, Nat.and_two_pow_sub_one_eq_mod, Nat.mod_eq_of_lt (by omega)]
theorem Bt.frac {X E F : Nat} (h : Bt X E F) : bits .andNot .u64 (X : Int) 9218868437227405312 = F := by
  have hl := h.le
  rw [u64_andNot _ _ (by omega) (by omega) (by omega) (by omega)]
  have e : (18446744073709551615 - (9218868437227405312 : Int).toNat : Nat) = 2 ^ 63 + (2 ^ 52 - 1) := by decide
  rw [Int.toNat_natCast, e]
  have h2 : X &&& (2 ^ 63 + (2 ^ 52 - 1)) = F := by
    have e2 : (2 ^ 63 + (2 ^ 52 - 1) : Nat) = 2 ^ 63 ||| (2 ^ 52 - 1) := by decide
    have e3 : X &&& 2 ^ 63 = 0 := by
      have h63 : (2 : Nat) ^ 63 = 9223372036854775808 := by decide
      apply Nat.eq_of_testBit_eq
      intro i
      rw [Nat.testBit_and, Nat.testBit_two_pow, Nat.zero_testBit]
      by_cases hi : 63 = i
      · subst hi; rw [Nat.testBit_lt_two_pow (by omega)]; rfl
      · simp [hi]
    rw [e2, Nat.and_or_distrib_left, e3, Nat.zero_or, Nat.and_two_pow_sub_one_eq_mod]
    have h52 : (2 : Nat) ^ 52 = 4503599627370496 := by decide
    have := h.eq; have := h.lt
    omega
  rw [h2]
theorem Bt.put {X E F : Nat} (h : Bt X E F) : bits .or .u64 (F : Int) ((E : Int) * 4503599627370496) = X := by
  have hl := h.le
  have := h.eq; have := h.lt; have := h.e1
  rw [u64_or _ _ (by omega) (by omega) (by omega) (by omega)]
  have e1 : ((E : Int) * 4503599627370496).toNat = 2 ^ 52 * E := by
    have h52 : (2 : Nat) ^ 52 = 4503599627370496 := by decide
    rw [h52]; omega
  have h52 : (2 : Nat) ^ 52 = 4503599627370496 := by decide
  rw [Int.toNat_natCast, e1, Nat.or_comm, ← Nat.two_pow_add_eq_or_of_lt (by omega), h52]
  omega
theorem cmpb_lt {a b : Int} (h : b ≤ a) : ((some (compare a b) : Option Ordering) == some .lt) = false := by
  rcases Int.lt_or_eq_of_le h with h | h
  · rw [Std.compare_eq_gt.2 h]; rfl
  · subst h; simp
theorem cmpb_gt {a b : Int} (h : a ≤ b) : ((some (compare a b) : Option Ordering) == some .gt) = false := by
  rcases Int.lt_or_eq_of_le h with h | h
  · rw [Std.compare_eq_lt.2 h]; rfl
  · subst h; simp
theorem cmpb_eq {a b : Int} (h : a ≠ b) : ((some (compare a b) : Option Ordering) == some .eq) = false := by
  rcases Int.lt_or_gt_of_ne h with h | h
  · rw [Std.compare_eq_lt.2 h]; rfl
  · rw [Std.compare_eq_gt.2 h]; rfl
set_option maxHeartbeats 4000000 in
theorem l_Abs (X E F : Nat) (w : World) (h : Bt X E F) : Calls Tryz.prog 282 #[.float .f64 X] w fun e w' => e = .returned (.float .f64 X) ∧ w = w' := by
  have k1 := run_f64bits
  have k2 := run_f64frombits
  have k3 := h.abs
  clear h
  go_enter Tryz.func282, Tryz.ntmps282
  go_wp2
  go_ret
  exact ⟨by simp, rfl⟩
set_option maxHeartbeats 4000000 in
theorem l_IsInf (X E F : Nat) (w : World) (h : Bt X E F) : Calls Tryz.prog 269 #[.float .f64 X, .int .i64 0] w fun e w' => e = .returned (.bool false) ∧ w = w' := by
  have HX : Hd (Bt X E F) := ⟨h⟩
  have k3 : (FloatKind.f64.format.order X 9218868437227405311 == some .gt) = false := by
    rw [d_ord (Nat.le_of_lt h.le) (by omega)]; exact cmpb_gt (by have := h.le; omega)
  clear h
  go_enter Tryz.func269, Tryz.ntmps269
  go_wp2_with (go_at_call 282; (with_reducible refine (l_Abs X E F _ HX.out).mono ?_); rintro e w' ⟨rfl, rfl⟩)
  go_ret
  exact ⟨rfl, rfl⟩
set_option maxHeartbeats 4000000 in
theorem l_IsNaN (X E F : Nat) (w : World) (h : Bt X E F) : Calls Tryz.prog 274 #[.float .f64 X] w fun e w' => e = .returned (.bool false) ∧ w = w' := by
  have k3 : (FloatKind.f64.format.order X X != some .eq) = false := by
    rw [d_ord (Nat.le_of_lt h.le) (Nat.le_of_lt h.le)]; simp
  clear h
  go_enter Tryz.func274, Tryz.ntmps274
  go_wp2
  go_ret
  exact ⟨rfl, rfl⟩
set_option maxHeartbeats 4000000 in
theorem l_norm (X E F : Nat) (w : World) (h : Bt X E F) : Calls Tryz.prog 275 #[.float .f64 X] w fun e w' => e = .returned (.tuple #[.float .f64 X, .int .i64 0]) ∧ w = w' := by
  have HX : Hd (Bt X E F) := ⟨h⟩
  have k3 : (FloatKind.f64.format.order X 4503599627370496 == some .lt) = false := by
    rw [d_ord (Nat.le_of_lt h.le) (by omega)]; exact cmpb_lt (by have := h.eq; have := h.e0; omega)
  clear h
  go_enter Tryz.func275, Tryz.ntmps275
  go_wp2_with (go_at_call 282; (with_reducible refine (l_Abs X E F _ HX.out).mono ?_); rintro e w' ⟨rfl, rfl⟩)
  go_ret2
  exact ⟨rfl, rfl⟩
set_option maxHeartbeats 4000000 in
theorem l_ldexp (X E F Y E' : Nat) (q : Int) (w : World) (h : Bt X E F) (h' : Bt Y E' F) (he : q + E = E') (hq0 : -2000 ≤ q) (hq1 : q ≤ 2000) (hE : (E : Int) ≤ 2046) (hE' : (E' : Int) ≤ 2046) (hE1 : 1 ≤ (E' : Int)) :
    Calls Tryz.prog 251 #[.float .f64 X, .int .i64 q] w fun e w' => e = .returned (.float .f64 Y) ∧ w = w' := by
  have HX : Hd (Bt X E F) := ⟨h⟩
  have k0 : (FloatKind.f64.format.order X 0 == some .eq) = false := by
    rw [d_ord (Nat.le_of_lt h.le) (by omega)]; exact cmpb_eq (by have := h.eq; have := h.e0; omega)
  have k1 := run_f64bits
  have k2 := run_f64frombits
  have k3 := h.frac
  have k4 := h'.put
  have k5 : (X : Int) / 4503599627370496 = E := by have := h.eq; have := h.lt; omega
  have k6' : bits .and .i64 (E : Int) 2047 = (E : Int) % 2048 := bits_mask .i64 63 (by decide) (fun n a b => by rw [IntKind.wrap_i64]; omega) 11 (by decide) (E : Int) (by omega) (by omega)
  have k6 : bits .and .i64 (E : Int) 2047 = E := by rw [k6']; omega
  clear k6'
  have k7 : q + 0 + ((E : Int) - 1023) + 1023 = E' := by omega
  have k8 : q + ((E : Int) - 1023) + 1023 = E' := by omega
  have k9 : IntKind.u64.wrap ((E' : Int) * 4503599627370496) = (E' : Int) * 4503599627370496 := by rw [IntKind.wrap_u64]; omega
  have k10 := fun w => run_float_arith (P := Tryz.prog) w .mul 26 .f64 4607182418800017408 Y Y (d_one false h'.le)
  clear h h'
  go_enter Tryz.func251, Tryz.ntmps251
  go_wp2_with (first | (go_at_call 269; (with_reducible refine (l_IsInf X E F _ HX.out).mono ?_); rintro e w' ⟨rfl, rfl⟩) | (go_at_call 274; (with_reducible refine (l_IsNaN X E F _ HX.out).mono ?_); rintro e w' ⟨rfl, rfl⟩) | (go_at_call 275; (with_reducible refine (l_norm X E F _ HX.out).mono ?_); rintro e w' ⟨rfl, rfl⟩))
  go_ret
  exact ⟨by simp, rfl⟩
theorem bt_drung {m : Nat} {q : Int} (hm : m ≠ 0) (h : m < 9007199254740992) (h1 : -1022 ≤ q + m.log2) (h2 : q + m.log2 ≤ 1023) :
    Bt (drung m q) (q + m.log2 + 1023).toNat (m * 2 ^ (52 - m.log2) - 4503599627370496) := by
  have hk := kept_bounds hm h
  unfold drung
  generalize m * 2 ^ (52 - m.log2) = M at *
  have e : (q + (m.log2 : Int) + 1023).toNat = (q + (m.log2 : Int) + 1022).toNat + 1 := by omega
  exact ⟨by rw [e]; omega, by omega, by omega, by omega⟩
set_option maxHeartbeats 4000000 in
theorem l_Ldexp (t : Nat) (q : Int) (w : World) (ht : t ≠ 0) (h : t < 9007199254740992) (h1 : -1022 ≤ q + t.log2) (h2 : q + t.log2 ≤ 1023) :
    Calls Tryz.prog 199 #[.float .f64 (drung t 0), .int .i64 q] w fun e w' => e = .returned (.float .f64 (drung t q)) ∧ w = w' := by
  have hl := log2_lt53 ht h
  have HB := Hd.mk (bt_drung (q := 0) ht h (by omega) (by omega))
  have HB' := Hd.mk (bt_drung (q := q) ht h h1 h2)
  have HK := fun w => Hd.mk (l_ldexp _ _ _ _ _ q w HB.out HB'.out (by omega) (by omega) (by omega) (by omega) (by omega) (by omega))
  clear ht h h1 h2 hl
  go_enter Tryz.func199, Tryz.ntmps199
  go_wp2_with (go_at_call 251; (with_reducible refine ((HK _).out).mono ?_); rintro e w' ⟨rfl, rfl⟩)
  go_ret
  exact ⟨rfl, rfl⟩
set_option maxHeartbeats 4000000 in
theorem l_ldexp0 (q : Int) (w : World) : Calls Tryz.prog 251 #[.float .f64 0, .int .i64 q] w fun e w' => e = .returned (.float .f64 0) ∧ w = w' := by
  have k0 : (FloatKind.f64.format.order 0 0 == some .eq) = true := by kernel_rfl
  go_enter Tryz.func251, Tryz.ntmps251
  go_wp2
  go_ret
  exact ⟨rfl, rfl⟩
set_option maxHeartbeats 4000000 in
theorem l_Ldexp0 (q : Int) (w : World) : Calls Tryz.prog 199 #[.float .f64 0, .int .i64 q] w fun e w' => e = .returned (.float .f64 0) ∧ w = w' := by
  go_enter Tryz.func199, Tryz.ntmps199
  go_wp2_with (go_at_call 251; (with_reducible refine (l_ldexp0 q _).mono ?_); rintro e w' ⟨rfl, rfl⟩)
  go_ret
  exact ⟨rfl, rfl⟩
/-- the single word of a kept significand at an exponent -/
theorem toSingle {t : Nat} {q : Int} {k : Nat} (ht : t ≠ 0) (h : t ≤ 16777216) (hq : q = -149 + (k : Int)) (hk : k = 0 ∨ 8388608 ≤ t) (hr : k * 8388608 + t < 2139095040) (s : Bool) :
    floatToFloatBits .f64 (Ieee.double.word s (drung t q)) .f32 = some (Ieee.single.word s (k * 8388608 + t)) := by
  have hl : t.log2 ≤ 24 := by
    have := (Nat.log2_lt ht (k := 25)).2 (by have h25 : (2 : Nat) ^ 25 = 33554432 := by decide
                                             omega)
    omega
  have hk2 : k ≤ 254 := by omega
  have hd := drung_le (m := t) (place := q) ht (by omega) (by omega)
  refine d_toSingle s (by omega) hr ?_
  rw [V_drung ht (by omega) (by omega)]
  have e1 : (q + 1074).toNat = k + 925 := by omega
  have e2 : V 8388608 (k * 8388608 + t) = t * 2 ^ k := by
    rcases Nat.lt_or_ge t 16777216 with h3 | h3
    · exact V_rung (by decide) k t (by omega) hk
    · have h4 : t = 16777216 := by omega
      subst h4
      have := V_rung (B := 8388608) (by decide) (k + 1) 8388608 (by decide) (.inr (Nat.le_refl _))
      rw [show k * 8388608 + 16777216 = (k + 1) * 8388608 + 8388608 by omega, this, Nat.pow_succ]
      omega
  rw [e1, e2, Nat.pow_add, Nat.mul_assoc]
theorem toSingle0 : floatToFloatBits .f64 0 .f32 = some 0 := by kernel_rfl
theorem ofInt_nat (t : Nat) (ht : t ≠ 0) (h : t < 9007199254740992) : floatOfInt .f64 (t : Int) = drung t 0 := by
  rw [d_ofInt (t : Int) (by omega) (by omega)]
  have : decide ((t : Int) < 0) = false := decide_eq_false (by omega)
  rw [this, Int.natAbs_natCast]; rfl
end Go.Proofs.YtflgjecpjaiecaaGreat
/- Contracts: what rounds past the greatest float, of the program. -/
set_option linter.unusedVariables false
set_option linter.unusedSimpArgs false
namespace Go.Proofs.YtflgjecpjaiecaaGreat
open Go.RowKit Num Flt
/-- the float of an overflow -/
def ovF (mode : Int) (neg : Bool) : Nat := (if neg = true then 2147483648 else 0) + if stB mode neg = true then 2139095039 else 2139095040
def sgI (neg : Bool) : Int := if neg = true then -1 else 1
set_option maxHeartbeats 4000000 in
theorem m_Over (ga gb : Nat) (mode : Int) (neg : Bool) (w : World) (c0 : w.cell? ⟨ga, 0, none⟩ = some (.int .i64 mode)) (c1 : w.cell? ⟨gb, 0, none⟩ = some (.int .i64 (sgI neg))) :
    Calls Tryz.prog 192 #[.pointer (some ⟨ga, 0, none⟩), .pointer (some ⟨gb, 0, none⟩)] w fun e w' => e = .returned (.tuple #[.float .f32 (ovF mode neg), .int .i64 5]) ∧ w = w' := by
  cases neg
  · have e1 : sgI false = 1 := rfl
    rw [e1] at c1
    by_cases h3 : mode = 3
    · subst h3
      go_enter Tryz.func192, Tryz.ntmps192
      go_wp2_with (first | (go_at_call 176; (with_reducible refine (i_atPlace 2139095039 _ (by omega) (by omega)).mono ?_); rintro e w' ⟨rfl, rfl⟩) | (go_at_call 176; (with_reducible refine (i_atPlace (-2139095039) _ (by omega) (by omega)).mono ?_); rintro e w' ⟨rfl, rfl⟩) | (go_at_call 171; (with_reducible refine (i_inf1 _).mono ?_); rintro e w' ⟨rfl, rfl⟩) | (go_at_call 171; (with_reducible refine (i_inf2 _).mono ?_); rintro e w' ⟨rfl, rfl⟩))
      go_ret2
      exact ⟨rfl, rfl⟩
    · by_cases h1 : mode = 1
      · subst h1
        go_enter Tryz.func192, Tryz.ntmps192
        go_wp2_with (first | (go_at_call 176; (with_reducible refine (i_atPlace 2139095039 _ (by omega) (by omega)).mono ?_); rintro e w' ⟨rfl, rfl⟩) | (go_at_call 176; (with_reducible refine (i_atPlace (-2139095039) _ (by omega) (by omega)).mono ?_); rintro e w' ⟨rfl, rfl⟩) | (go_at_call 171; (with_reducible refine (i_inf1 _).mono ?_); rintro e w' ⟨rfl, rfl⟩) | (go_at_call 171; (with_reducible refine (i_inf2 _).mono ?_); rintro e w' ⟨rfl, rfl⟩))
        go_ret2
        exact ⟨rfl, rfl⟩
      · have HV : Hd (ovF mode false = 2139095040) := ⟨by unfold ovF stB; simp [h3, h1]⟩
        rw [HV.out]
        have d3 : (mode == 3) = false := by simpa using h3
        have d1 : (mode == 1) = false := by simpa using h1
        by_cases h2 : mode = 2
        · subst h2
          clear h3 h1 d3 d1 e1 HV
          go_enter Tryz.func192, Tryz.ntmps192
          go_wp2_with (first | (go_at_call 176; (with_reducible refine (i_atPlace 2139095039 _ (by omega) (by omega)).mono ?_); rintro e w' ⟨rfl, rfl⟩) | (go_at_call 176; (with_reducible refine (i_atPlace (-2139095039) _ (by omega) (by omega)).mono ?_); rintro e w' ⟨rfl, rfl⟩) | (go_at_call 171; (with_reducible refine (i_inf1 _).mono ?_); rintro e w' ⟨rfl, rfl⟩) | (go_at_call 171; (with_reducible refine (i_inf2 _).mono ?_); rintro e w' ⟨rfl, rfl⟩))
          go_ret2
          exact ⟨rfl, rfl⟩
        · have d2 : (mode == 2) = false := by simpa using h2
          clear h3 h1 h2 e1
          go_enter Tryz.func192, Tryz.ntmps192
          go_wp2_with (first | (go_at_call 176; (with_reducible refine (i_atPlace 2139095039 _ (by omega) (by omega)).mono ?_); rintro e w' ⟨rfl, rfl⟩) | (go_at_call 176; (with_reducible refine (i_atPlace (-2139095039) _ (by omega) (by omega)).mono ?_); rintro e w' ⟨rfl, rfl⟩) | (go_at_call 171; (with_reducible refine (i_inf1 _).mono ?_); rintro e w' ⟨rfl, rfl⟩) | (go_at_call 171; (with_reducible refine (i_inf2 _).mono ?_); rintro e w' ⟨rfl, rfl⟩))
          go_ret2
          exact ⟨rfl, rfl⟩
  · have e1 : sgI true = -1 := rfl
    rw [e1] at c1
    by_cases h3 : mode = 3
    · subst h3
      go_enter Tryz.func192, Tryz.ntmps192
      go_wp2_with (first | (go_at_call 176; (with_reducible refine (i_atPlace 2139095039 _ (by omega) (by omega)).mono ?_); rintro e w' ⟨rfl, rfl⟩) | (go_at_call 176; (with_reducible refine (i_atPlace (-2139095039) _ (by omega) (by omega)).mono ?_); rintro e w' ⟨rfl, rfl⟩) | (go_at_call 171; (with_reducible refine (i_inf1 _).mono ?_); rintro e w' ⟨rfl, rfl⟩) | (go_at_call 171; (with_reducible refine (i_inf2 _).mono ?_); rintro e w' ⟨rfl, rfl⟩))
      go_ret2
      exact ⟨rfl, rfl⟩
    · by_cases h2 : mode = 2
      · subst h2
        go_enter Tryz.func192, Tryz.ntmps192
        go_wp2_with (first | (go_at_call 176; (with_reducible refine (i_atPlace 2139095039 _ (by omega) (by omega)).mono ?_); rintro e w' ⟨rfl, rfl⟩) | (go_at_call 176; (with_reducible refine (i_atPlace (-2139095039) _ (by omega) (by omega)).mono ?_); rintro e w' ⟨rfl, rfl⟩) | (go_at_call 171; (with_reducible refine (i_inf1 _).mono ?_); rintro e w' ⟨rfl, rfl⟩) | (go_at_call 171; (with_reducible refine (i_inf2 _).mono ?_); rintro e w' ⟨rfl, rfl⟩))
        go_ret2
        exact ⟨rfl, rfl⟩
      · have HV : Hd (ovF mode true = 4286578688) := ⟨by unfold ovF stB; simp [h3, h2]⟩
        rw [HV.out]
        have d3 : (mode == 3) = false := by simpa using h3
        have d2 : (mode == 2) = false := by simpa using h2
        by_cases h1 : mode = 1
        · subst h1
          clear h3 h2 d3 d2 e1 HV
          go_enter Tryz.func192, Tryz.ntmps192
          go_wp2_with (first | (go_at_call 176; (with_reducible refine (i_atPlace 2139095039 _ (by omega) (by omega)).mono ?_); rintro e w' ⟨rfl, rfl⟩) | (go_at_call 176; (with_reducible refine (i_atPlace (-2139095039) _ (by omega) (by omega)).mono ?_); rintro e w' ⟨rfl, rfl⟩) | (go_at_call 171; (with_reducible refine (i_inf1 _).mono ?_); rintro e w' ⟨rfl, rfl⟩) | (go_at_call 171; (with_reducible refine (i_inf2 _).mono ?_); rintro e w' ⟨rfl, rfl⟩))
          go_ret2
          exact ⟨rfl, rfl⟩
        · have d1 : (mode == 1) = false := by simpa using h1
          clear h3 h1 h2 e1
          go_enter Tryz.func192, Tryz.ntmps192
          go_wp2_with (first | (go_at_call 176; (with_reducible refine (i_atPlace 2139095039 _ (by omega) (by omega)).mono ?_); rintro e w' ⟨rfl, rfl⟩) | (go_at_call 176; (with_reducible refine (i_atPlace (-2139095039) _ (by omega) (by omega)).mono ?_); rintro e w' ⟨rfl, rfl⟩) | (go_at_call 171; (with_reducible refine (i_inf1 _).mono ?_); rintro e w' ⟨rfl, rfl⟩) | (go_at_call 171; (with_reducible refine (i_inf2 _).mono ?_); rintro e w' ⟨rfl, rfl⟩))
          go_ret2
          exact ⟨rfl, rfl⟩
end Go.Proofs.YtflgjecpjaiecaaGreat
/- Contracts: rounding in the reference: the multiple of the last place. -/
set_option linter.unusedVariables false
set_option linter.unusedSimpArgs false
namespace Go.Proofs.YtflgjecpjaiecaaGreat
open Go.RowKit Num Flt
theorem bln_le_of {a k : Nat} (h : (a : Int) < 2 ^ k) : bln a ≤ k := bln_le (by
  have : ((2 : Int) ^ k) = ((2 ^ k : Nat) : Int) := by push_cast; rfl
  rw [this] at h; omega)
theorem bln_bd {m : Int} (h : Bd m) : bln m.natAbs ≤ 2400000 := by
  have e : TOP = 2 ^ (24 * 100000) := by unfold TOP; exact p24 100000
  have h2 : (m.natAbs : Int) < TOP := by unfold Bd at h; generalize TOP = T at *; omega
  rw [e] at h2
  exact bln_le_of h2
theorem dv_abs (m e : Int) : (dv m e).natAbs = m.natAbs * 2 ^ (e + 20000).toNat := by
  unfold dv; rw [Int.natAbs_mul, Int.natAbs_pow]; rfl
theorem bd_nat {a : Nat} (h : a ≤ 16777216) : Bd (a : Int) := by
  have h5 : (16777216 : Int) ^ 2 ≤ TOP := by unfold TOP; exact pow_le (by decide) (by decide)
  simp only [Int.pow_succ, Int.pow_zero, Int.one_mul] at h5
  unfold Bd; generalize TOP = T at *; omega
theorem dy_sgI {s V : Int} (h : s = V.sign) (hv : V ≠ 0) : s = sgI (decide (V < 0)) := by
  unfold sgI
  by_cases h0 : V < 0
  · rw [h, Int.sign_eq_neg_one_of_neg h0]; simp [h0]
  · rw [h, Int.sign_eq_one_of_pos (by omega)]; simp [h0]
/-- what the middle of the function holds -/
structure MuH (w wx : World) (s : Int) (A : Option Addr) (n c : Nat) (e : Int) (g : Nat) (s1 : Int) (A1 : Option Addr) (n1 c1 : Nat) (a : Int) : Prop where
  bel : Below w.heap.size w wx
  b0 : Blk wx w.heap.size 66 #[.int .i64 s, .slice A n c, .int .i64 e]
  b1 : Blk wx (w.heap.size + 1) 64 #[.int .i64 0, .slice none 0 0]
  b7 : Blk wx g 64 #[.int .i64 s1, .slice A1 n1 c1]
  va : WhP wx s1 A1 n1 c1 a
  lt : w.heap.size + 1 < g
theorem MuH.below {w wx w' : World} {s : Int} {A : Option Addr} {n c : Nat} {e : Int} {g : Nat} {s1 : Int} {A1 : Option Addr} {n1 c1 : Nat} {a : Int} (h : MuH w wx s A n c e g s1 A1 n1 c1 a) (hb : Below wx.heap.size wx w') : MuH w w' s A n c e g s1 A1 n1 c1 a :=
  ⟨bt3 hb h.bel, h.b0.below hb h.b0.lt, h.b1.below hb h.b1.lt, h.b7.below hb h.b7.lt, h.va.below hb, h.lt⟩
abbrev Wm (w : World) (s : Int) (A : Option Addr) (n c : Nat) (e : Int) : World := (w.alloc (Obj.cells #[.int .i64 s, .slice A n c, .int .i64 e] 66)).alloc (Obj.cells #[.int .i64 0, .slice none 0 0] 64)
theorem MuH.start {w w1 : World} {s : Int} {A : Option Addr} {n c : Nat} {e : Int} {s1 : Int} {A1 : Option Addr} {n1 c1 : Nat} {a : Int} (hb : Below (Wm w s A n c e).heap.size (Wm w s A n c e) w1) (hw : WhP w1 s1 A1 n1 c1 a) :
    MuH w (w1.alloc (Obj.cells #[.int .i64 s1, .slice A1 n1 c1] 64)) s A n c e w1.heap.size s1 A1 n1 c1 a := by
  have h1 : Blk (Wm w s A n c e) w.heap.size 66 #[.int .i64 s, .slice A n c, .int .i64 e] := (Blk.new _ _ _).alloc _
  have h2 : Blk (Wm w s A n c e) (w.heap.size + 1) 64 #[.int .i64 0, .slice none 0 0] := by
    have := Blk.new (w.alloc (Obj.cells #[.int .i64 s, .slice A n c, .int .i64 e] 66)) 64 #[.int .i64 0, .slice none 0 0]
    simpa using this
  have hs : w.heap.size + 1 < w1.heap.size := by have := hb.size; simp at this; omega
  exact ⟨ba _ (bt3 hb (ba _ (ba _ (Below.refl _ _)))), (h1.below hb h1.lt).alloc _, (h2.below hb h2.lt).alloc _, Blk.new _ _ _, hw.below (ba _ (Below.refl _ _)), hs⟩
/-- the multiple, as a function hands it back -/
def RetMu (V mode : Int) (w : World) (e : Ending) (w' : World) : Prop := ∃ s A n c, e = .returned (.tuple #[.agg #[.int .i64 s, .slice A n c], .int .i64 ((rqN V.natAbs : Int) - 20000), .bool (decide (rrN V.natAbs = 0))]) ∧ WhP w' s A n c ((rmN mode (decide (V < 0)) V.natAbs : Nat) : Int) ∧ Below w.heap.size w w'
theorem s_LengthR (s : Int) (A : Option Addr) (n c : Nat) (a r : Int) (w : World) (hX : WhP w s A n c a) (hr : (bln a.natAbs : Int) = r) :
    Calls Tryz.prog 221 #[.agg #[.int .i64 s, .slice A n c]] w fun e w' => e = .returned (.int .i64 r) ∧ Below w.heap.size w w' := by
  subst hr; exact s_LengthB s A n c a w hX
set_option maxHeartbeats 4000000 in
theorem s_MultL (s : Int) (A : Option Addr) (n c : Nat) (m e V mode q : Int) (l k : Nat) (w : World) (hX : WhP w s A n c m) (hF : DyF m e V l) (hm : m ≠ 0) (hq : q = (rqN V.natAbs : Int) - 20000) (he : e = q + k) (hq2 : q = max ((bln m.natAbs : Int) + e - 24) (-149)) :
    Calls Tryz.prog 220 #[.agg #[.int .i64 s, .slice A n c, .int .i64 e], .int .i64 mode] w (RetMu V mode w) := by
  have hsc : (SC : Int) = 20000 := rfl
  have he0 : -20000 ≤ e := by have := hF.lo; have := hF.lsc; omega
  have he1 : e ≤ 2400000 := hF.hi
  have hbm : Bd m := dv_bd (by rw [← hF.val]; exact hF.bd)
  have hL := bln_bd hbm
  have eM : V.natAbs = m.natAbs * 2 ^ (e + 20000).toNat := by rw [hF.val, dv_abs]
  have hk0 : k = (e + 20000 - rqN V.natAbs).toNat := by omega
  have ht := rt_left (m := m.natAbs) he0 (by rw [← eM]; omega)
  rw [← eM, ← hk0] at ht
  have hr : rmN mode (decide (V < 0)) V.natAbs = m.natAbs * 2 ^ k := by unfold rmN upB; rw [if_pos ht.2, ht.1]; rfl
  have HV : Hd ((m.natAbs : Int) * 2 ^ k = ((rmN mode (decide (V < 0)) V.natAbs : Nat) : Int) ∧ decide (rrN V.natAbs = 0) = true ∧ (rqN V.natAbs : Int) - 20000 = q) := ⟨⟨by rw [hr]; push_cast; rfl, decide_eq_true ht.2, hq.symm⟩⟩
  have HX : Hd (WhP w s A n c m) := ⟨hX⟩
  have HBA : Hd (Bd (m.natAbs : Int) ∧ Bd ((m.natAbs : Int) * 2 ^ k) ∧ k ≤ 10000000) := ⟨⟨bd_abs hbm, by rw [HV.out.1]; exact bd_nat (rmN_le _ _ _), by omega⟩⟩
  have HQ : Hd (q = max ((bln m.natAbs : Int) + e - 24) (-149)) := ⟨hq2⟩
  have hkI : (k : Int) ≤ 10000000 := by omega
  have hq0 : -149 ≤ q := by omega
  have hq1 : q ≤ 2400000 := by omega
  have hLI : (bln m.natAbs : Int) ≤ 2400000 := by omega
  unfold RetMu
  rw [HV.out.2.1, HV.out.2.2]
  have hs1 : q - (q + (k : Int)) = -(k : Int) := by omega
  subst he
  clear hX hF hm hq hq2 hbm eM hk0 ht hr hL hsc
  generalize hLL : (bln m.natAbs : Int) = L at *
  have HL : Hd ((bln m.natAbs : Int) = L) := ⟨hLL⟩
  have hL0 : 0 ≤ L := by omega
  clear hLL
  go_enter Tryz.func220, Tryz.ntmps220
  go_upto_region 2 with (go_at_call 264; (with_reducible refine (s_AbsW s A n c m _ (HX.out.below (by (repeat (first | exact Below.refl _ _ | assumption | refine Below.drew ?_ | refine bdn ?_ | refine ba _ ?_ | refine bs0 _ _ ?_ ?_ | refine bs1 _ _ _ ?_ ?_ | refine bs2 _ _ _ _ ?_ ?_ | refine bs3 _ _ _ _ _ ?_ ?_ | refine bt3 (by assumption) ?_)))) HBA.out.1).mono ?_); rintro e1 w1 ⟨s1, A1, n1, c1', rfl, hW, hb⟩; have HM := Hd.mk (MuH.start (s := s) (A := A) (n := n) (c := c) (e := q + (k : Int)) hb hW.wh); clear hb hW)
  generalize hwb : w1.alloc (Obj.cells #[.int .i64 s1, .slice A1 n1 c1'] 64) = wb at *
  generalize hg : w1.heap.size = g at *
  clear hwb hg
  go_cut [8] (fun s8 wx => s8 = .int .i64 q ∧ Hd (MuH w wx s A n c (q + (k : Int)) g s1 A1 n1 c1' (m.natAbs : Int)))
  case first =>
    have c0 := HM.out.b0.cell 0; have c1 := HM.out.b0.cell 1; have c2 := HM.out.b0.cell 2; have a0 := HM.out.b7.cell 0; have a1 := HM.out.b7.cell 1
    have HL2 : Hd ((bln ((m.natAbs : Nat) : Int).natAbs : Int) = L) := ⟨by rw [Int.natAbs_natCast]; exact HL.out⟩
    have hw1 : IntKind.i64.wrap (L + (q + (k : Int))) = L + (q + (k : Int)) := by rw [IntKind.wrap_i64]; omega
    have hw2 : IntKind.i64.wrap (L + (q + (k : Int)) - 24) = L + (q + (k : Int)) - 24 := by rw [IntKind.wrap_i64]; omega
    go_region_with ((go_at_call 221; (with_reducible refine (s_LengthR s1 A1 n1 c1' (m.natAbs : Int) L _ (HM.out.va.below (by (repeat (first | exact Below.refl _ _ | assumption | refine Below.drew ?_ | refine bdn ?_ | refine ba _ ?_ | refine bs0 _ _ ?_ ?_ | refine bs1 _ _ _ ?_ ?_ | refine bs2 _ _ _ _ ?_ ?_ | refine bs3 _ _ _ _ _ ?_ ?_ | refine bt3 (by assumption) ?_)))) HL2.out).mono ?_); rintro e2 w2 ⟨rfl, hb2⟩; have hq : Below wb.heap.size wb w2 := bt3 hb2 (by (repeat (first | exact Below.refl _ _ | assumption | refine Below.drew ?_ | refine bdn ?_ | refine ba _ ?_ | refine bs0 _ _ ?_ ?_ | refine bs1 _ _ _ ?_ ?_ | refine bs2 _ _ _ _ ?_ ?_ | refine bs3 _ _ _ _ _ ?_ ?_ | refine bt3 (by assumption) ?_))); clear c0 c1 c2 a0 a1; have HM2 := Hd.mk (HM.out.below hq); have c0 := HM2.out.b0.cell 0; have c1 := HM2.out.b0.cell 1; have c2 := HM2.out.b0.cell 2; have a0 := HM2.out.b7.cell 0; have a1 := HM2.out.b7.cell 1; clear hb2))
    all_goals go_wp2_with fail
    all_goals
      go_meet
      exact ⟨by first | rfl | (congr 1; have := HQ.out; omega), HM2⟩
  case rest =>
    obtain ⟨rfl, HM⟩ := hcut
    have c0 := HM.out.b0.cell 0; have c1 := HM.out.b0.cell 1; have c2 := HM.out.b0.cell 2; have a0 := HM.out.b7.cell 0; have a1 := HM.out.b7.cell 1
    go_wp2_with (go_at_call 210; (with_reducible refine (s_LeftP s1 A1 n1 c1' (m.natAbs : Int) k _ (HM.out.va.below (by (repeat (first | exact Below.refl _ _ | assumption | refine Below.drew ?_ | refine bdn ?_ | refine ba _ ?_ | refine bs0 _ _ ?_ ?_ | refine bs1 _ _ _ ?_ ?_ | refine bs2 _ _ _ _ ?_ ?_ | refine bs3 _ _ _ _ _ ?_ ?_ | refine bt3 (by assumption) ?_)))) HBA.out.2.2 HBA.out.2.1).mono ?_); rintro e3 w3 ⟨s3, A3, n3, c3, rfl, hW3, hb3⟩; have HM3 := Hd.mk (HM.out.below hb3); have HW3 := Hd.mk hW3; have r0 := HM3.out.b1.cell 0; have r1 := HM3.out.b1.cell 1; have f0 := HM3.out.b1.frozen 0; have f1 := HM3.out.b1.frozen 1; clear hb3 hW3)
    have hsz := HM3.out.b1.lt
    refine bodyPost_ret (v := .tuple #[.agg #[.int .i64 s3, .slice A3 n3 c3], .int .i64 q, .bool true]) (by simp (maxDischargeDepth := 7) [results, Tryz.results220, go_sem, *]) rfl ⟨s3, A3, n3, c3, rfl, ?_, ?_⟩
    · rw [← HV.out.1]
      exact ((HW3.out.set _ _ HM.out.b1.lt _).set _ _ HM.out.b1.lt _).wh
    · exact (HM3.out.bel.setCell (Nat.le_succ _) _).setCell (Nat.le_succ _) _
end Go.Proofs.YtflgjecpjaiecaaGreat
/- Contracts: rounding in the reference: the multiple of the last place, with a rest. -/
set_option linter.unusedVariables false
set_option linter.unusedSimpArgs false
namespace Go.Proofs.YtflgjecpjaiecaaGreat
open Go.RowKit Num Flt
/-- .. behind the cut: block h holds the cut number -/
structure MvH (w wx : World) (s : Int) (A : Option Addr) (n c : Nat) (e : Int) (g : Nat) (s1 : Int) (A1 : Option Addr) (n1 c1 : Nat) (a : Int) (h : Nat) (s2 : Int) (A2 : Option Addr) (n2 c2 : Nat) (b : Int) : Prop where
  mu : MuH w wx s A n c e g s1 A1 n1 c1 a
  bh : Blk wx h 64 #[.int .i64 s2, .slice A2 n2 c2]
  vb : WhO wx (w.heap.size + 1 + 1) s2 A2 n2 c2 b
  lt : w.heap.size + 1 < h
theorem MvH.below {w wx w' : World} {s : Int} {A : Option Addr} {n c : Nat} {e : Int} {g : Nat} {s1 : Int} {A1 : Option Addr} {n1 c1 : Nat} {a : Int} {h : Nat} {s2 : Int} {A2 : Option Addr} {n2 c2 : Nat} {b : Int} (k : MvH w wx s A n c e g s1 A1 n1 c1 a h s2 A2 n2 c2 b) (hb : Below wx.heap.size wx w') : MvH w w' s A n c e g s1 A1 n1 c1 a h s2 A2 n2 c2 b :=
  ⟨k.mu.below hb, k.bh.below hb k.bh.lt, k.vb.keep hb, k.lt⟩
theorem MvH.start {w wx w3 : World} {s : Int} {A : Option Addr} {n c : Nat} {e : Int} {g : Nat} {s1 : Int} {A1 : Option Addr} {n1 c1 : Nat} {a : Int} {s2 : Int} {A2 : Option Addr} {n2 c2 : Nat} {b : Int} (h : MuH w wx s A n c e g s1 A1 n1 c1 a) (hb : Below wx.heap.size wx w3) (hw : WhO w3 wx.heap.size s2 A2 n2 c2 b) :
    MvH w (w3.alloc (Obj.cells #[.int .i64 s2, .slice A2 n2 c2] 64)) s A n c e g s1 A1 n1 c1 a w3.heap.size s2 A2 n2 c2 b := by
  have h1 := h.b1.lt
  have h2 := hb.size
  exact ⟨(h.below hb).below (ba _ (Below.refl _ _)), Blk.new _ _ _, (hw.keep (ba _ (Below.refl _ _))).mono (by omega), by omega⟩
theorem s_BitR (s : Int) (A : Option Addr) (n c : Nat) (a r kk : Int) (k : Nat) (w : World) (hX : WhP w s A n c a) (hk : k ≤ 10000000) (hkk : kk = (k : Int)) (hr : ((a.natAbs / 2 ^ k % 2 : Nat) : Int) = r) :
    Calls Tryz.prog 265 #[.agg #[.int .i64 s, .slice A n c], .int .i64 kk] w fun e w' => e = .returned (.int .i64 r) ∧ Below w.heap.size w w' := by
  subst hr hkk; exact s_BitP s A n c a k w hX hk
theorem rr_zero {M : Nat} (h : M = 0) : rrN M = 0 := by unfold rrN; exact Nat.mod_eq_zero_of_dvd ⟨0, by rw [Nat.mul_zero]; exact h⟩
theorem rr_odd {m : Int} {e : Int} {k : Nat} (hodd : m % 2 = 1) (he : -20000 ≤ e) (hk : 0 < k) (h : (rqN (m.natAbs * 2 ^ (e + 20000).toNat) : Int) = e + 20000 + k) : rrN (m.natAbs * 2 ^ (e + 20000).toNat) ≠ 0 := by
  have h2 := (rt_right he hk h).2.1
  intro h3
  have h4 := h2.1 h3
  have h5 : 2 ∣ m.natAbs := Nat.dvd_trans ⟨2 ^ (k - 1), by rw [Nat.mul_comm, ← Nat.pow_succ, show (k - 1).succ = k by omega]⟩ (Nat.dvd_of_mod_eq_zero h4)
  omega
set_option maxHeartbeats 4000000 in
theorem s_MultR (s : Int) (A : Option Addr) (n c : Nat) (m e V mode q : Int) (l k : Nat) (w : World) (hX : WhP w s A n c m) (hF : DyF m e V l) (hm : m ≠ 0) (hq : q = (rqN V.natAbs : Int) - 20000) (he : q = e + k) (hk : 0 < k) (hq2 : q = max ((bln m.natAbs : Int) + e - 24) (-149)) (hmd0 : 0 ≤ mode) (hmd1 : mode ≤ 4) (hsv : s = V.sign) :
    Calls Tryz.prog 220 #[.agg #[.int .i64 s, .slice A n c, .int .i64 e], .int .i64 mode] w (RetMu V mode w) := by
  have hsc : (SC : Int) = 20000 := rfl
  have he0 : -20000 ≤ e := by have := hF.lo; have := hF.lsc; omega
  have he1 : e ≤ 2400000 := hF.hi
  have hbm : Bd m := dv_bd (by rw [← hF.val]; exact hF.bd)
  have hL := bln_bd hbm
  have eM : V.natAbs = m.natAbs * 2 ^ (e + 20000).toNat := by rw [hF.val, dv_abs]
  have hrq : (rqN V.natAbs : Int) = e + 20000 + k := by omega
  have ht := rt_right (m := m.natAbs) he0 hk (by rw [← eM]; exact hrq)
  have hrr := rr_odd (hF.odd hm) he0 hk (by rw [← eM]; exact hrq)
  rw [← eM] at ht hrr
  have hodd : m.natAbs % 2 = 1 := by have := hF.odd hm; omega
  have hV0 : V ≠ 0 := fun h => hrr (rr_zero (by rw [h]; rfl))
  have HSG := Hd.mk (dy_sgI hsv hV0)
  generalize hneg : decide (V < 0) = neg at *
  have HU0 : Hd (upB 0 neg V.natAbs = (decide (m.natAbs / 2 ^ (k - 1) % 2 = 1) && (decide (1 < k) || decide (m.natAbs / 2 ^ k % 2 = 1)))) := ⟨by
    rw [upB_near neg hrr, ← up_near hodd hk, decide_eq_decide.2 ht.2.2.1, decide_eq_decide.2 ht.2.2.2, ht.1]⟩
  have HRR : Hd (rrN V.natAbs ≠ 0) := ⟨hrr⟩
  have HV : Hd (rtN V.natAbs = m.natAbs / 2 ^ k ∧ decide (rrN V.natAbs = 0) = false ∧ (rqN V.natAbs : Int) - 20000 = q) := ⟨⟨ht.1, decide_eq_false hrr, hq.symm⟩⟩
  have HX : Hd (WhP w s A n c m) := ⟨hX⟩
  have hkb : k ≤ 10000000 := by omega
  have hmn : m.natAbs / 2 ^ k ≤ 16777216 := by have := rtN_lt V.natAbs; rw [ht.1] at this; have h24 : (2 : Nat) ^ 24 = 16777216 := by decide
                                               omega
  have HBA : Hd (Bd (m.natAbs : Int) ∧ Bd ((m.natAbs / 2 ^ k : Nat) : Int) ∧ k ≤ 10000000 ∧ m.natAbs ≠ 0 ∧ k - 1 ≤ 10000000) := ⟨⟨bd_abs hbm, bd_nat hmn, by omega, by omega, by omega⟩⟩
  have HQ : Hd (q = max ((bln m.natAbs : Int) + e - 24) (-149)) := ⟨hq2⟩
  have HK : Hd (0 < k) := ⟨hk⟩
  have hkI : (k : Int) ≤ 10000000 := by omega
  have hkp : 1 ≤ (k : Int) := by omega
  have hLI : (bln m.natAbs : Int) ≤ 2400000 := by omega
  unfold RetMu
  rw [HV.out.2.1, HV.out.2.2, hneg]
  have hs1 : e + (k : Int) - e = (k : Int) := by omega
  subst he
  clear hX hF hm hq hq2 hbm eM hrq ht hrr hodd hV0 hL hsc hk hmn hkb hsv hneg
  generalize hLL : (bln m.natAbs : Int) = L at *
  have HL2 : Hd ((bln ((m.natAbs : Nat) : Int).natAbs : Int) = L) := ⟨by rw [Int.natAbs_natCast]; exact hLL⟩
  have hL0 : 0 ≤ L := by omega
  clear hLL
  go_enter Tryz.func220, Tryz.ntmps220
  go_upto_region 2 with (go_at_call 264; go_loud ((with_reducible refine (s_AbsW s A n c m _ (HX.out.below (by (repeat (first | exact Below.refl _ _ | assumption | refine Below.drew ?_ | refine bdn ?_ | refine ba _ ?_ | refine bs0 _ _ ?_ ?_ | refine bs1 _ _ _ ?_ ?_ | refine bs2 _ _ _ _ ?_ ?_ | refine bs3 _ _ _ _ _ ?_ ?_ | refine bt3 (by assumption) ?_)))) HBA.out.1).mono ?_); rintro e1 w1 ⟨s1, A1, n1, c1', rfl, hW, hb⟩; have HM := Hd.mk (MuH.start (s := s) (A := A) (n := n) (c := c) (e := e) hb hW.wh); clear hb hW))
  generalize hwb : w1.alloc (Obj.cells #[.int .i64 s1, .slice A1 n1 c1'] 64) = wb at *
  generalize hg : w1.heap.size = g at *
  clear hwb hg
  go_cut [8] (fun s8 wx => s8 = .int .i64 (e + (k : Int)) ∧ Hd (MuH w wx s A n c e g s1 A1 n1 c1' (m.natAbs : Int)))
  case first =>
    have c0 := HM.out.b0.cell 0; have c1 := HM.out.b0.cell 1; have c2 := HM.out.b0.cell 2; have a0 := HM.out.b7.cell 0; have a1 := HM.out.b7.cell 1
    have hw1 : IntKind.i64.wrap (L + e) = L + e := by rw [IntKind.wrap_i64]; omega
    have hw2 : IntKind.i64.wrap (L + e - 24) = L + e - 24 := by rw [IntKind.wrap_i64]; omega
    go_region_with ((go_at_call 221; (with_reducible refine (s_LengthR s1 A1 n1 c1' (m.natAbs : Int) L _ (HM.out.va.below (by (repeat (first | exact Below.refl _ _ | assumption | refine Below.drew ?_ | refine bdn ?_ | refine ba _ ?_ | refine bs0 _ _ ?_ ?_ | refine bs1 _ _ _ ?_ ?_ | refine bs2 _ _ _ _ ?_ ?_ | refine bs3 _ _ _ _ _ ?_ ?_ | refine bt3 (by assumption) ?_)))) HL2.out).mono ?_); rintro e2 w2 ⟨rfl, hb2⟩; have hq : Below wb.heap.size wb w2 := bt3 hb2 (by (repeat (first | exact Below.refl _ _ | assumption | refine Below.drew ?_ | refine bdn ?_ | refine ba _ ?_ | refine bs0 _ _ ?_ ?_ | refine bs1 _ _ _ ?_ ?_ | refine bs2 _ _ _ _ ?_ ?_ | refine bs3 _ _ _ _ _ ?_ ?_ | refine bt3 (by assumption) ?_))); clear c0 c1 c2 a0 a1; have HM2 := Hd.mk (HM.out.below hq); have c0 := HM2.out.b0.cell 0; have c1 := HM2.out.b0.cell 1; have c2 := HM2.out.b0.cell 2; have a0 := HM2.out.b7.cell 0; have a1 := HM2.out.b7.cell 1; clear hb2))
    all_goals go_wp2_with fail
    all_goals
      go_meet
      exact ⟨by first | rfl | (congr 1; have := HQ.out; omega), HM2⟩
  case rest =>
    obtain ⟨rfl, HM⟩ := hcut
    have c0 := HM.out.b0.cell 0; have c1 := HM.out.b0.cell 1; have c2 := HM.out.b0.cell 2; have a0 := HM.out.b7.cell 0; have a1 := HM.out.b7.cell 1
    go_upto_block 0 with (go_at_call 261; (with_reducible refine (s_CutP s1 A1 n1 c1' m.natAbs k _ (HM.out.va.below (by (repeat (first | exact Below.refl _ _ | assumption | refine Below.drew ?_ | refine bdn ?_ | refine ba _ ?_ | refine bs0 _ _ ?_ ?_ | refine bs1 _ _ _ ?_ ?_ | refine bs2 _ _ _ _ ?_ ?_ | refine bs3 _ _ _ _ _ ?_ ?_ | refine bt3 (by assumption) ?_)))) HBA.out.2.2.2.1 HBA.out.2.2.1 HBA.out.2.1).mono ?_); rintro e3 w3 ⟨s3, A3, n3, c3, rfl, hW3, hb3⟩; have HV3 := Hd.mk (MvH.start HM.out hb3 hW3); clear hb3 hW3)
    clear c0 c1 c2 a0 a1
    generalize hwd : w3.alloc (Obj.cells #[.int .i64 s3, .slice A3 n3 c3] 64) = wd at *
    generalize hh : w3.heap.size = h at *
    clear hwd hh
    go_cut [11] (fun s11 wx => s11 = .bool (upB mode neg V.natAbs) ∧ Hd (MvH w wx s A n c e g s1 A1 n1 c1' (m.natAbs : Int) h s3 A3 n3 c3 ((m.natAbs / 2 ^ k : Nat) : Int)))
    case first =>
      have c0 := HV3.out.mu.b0.cell 0
      have c1 := HV3.out.mu.b0.cell 1
      have c2 := HV3.out.mu.b0.cell 2
      have a0 := HV3.out.mu.b7.cell 0
      have a1 := HV3.out.mu.b7.cell 1
      have m0 := HV3.out.bh.cell 0
      have m1 := HV3.out.bh.cell 1
      have hmode : mode = 0 ∨ mode = 1 ∨ mode = 2 ∨ mode = 3 ∨ mode = 4 := by omega
      rcases hmode with rfl | rfl | rfl | rfl | rfl
      · have HK1 : Hd ((k : Int) - 1 = ((k - 1 : Nat) : Int) ∧ (0 : Int) = ((0 : Nat) : Int)) := ⟨⟨by omega, rfl⟩⟩
        have HB2 : Hd (((((m.natAbs / 2 ^ k : Nat) : Int).natAbs / 2 ^ 0 % 2 : Nat) : Int) = ((m.natAbs / 2 ^ k % 2 : Nat) : Int)) := ⟨by rw [Int.natAbs_natCast, Nat.pow_zero, Nat.div_one]⟩
        have HB1 : Hd (((((m.natAbs : Nat) : Int).natAbs / 2 ^ (k - 1) % 2 : Nat) : Int) = ((m.natAbs / 2 ^ (k - 1) % 2 : Nat) : Int)) := ⟨by rw [Int.natAbs_natCast]⟩
        have hb1 := Nat.mod_two_eq_zero_or_one (m.natAbs / 2 ^ (k - 1))
        have hb2 := Nat.mod_two_eq_zero_or_one (m.natAbs / 2 ^ k)
        generalize m.natAbs / 2 ^ (k - 1) % 2 = x1 at *
        generalize m.natAbs / 2 ^ k % 2 = x2 at *
        rcases hb1 with rfl | rfl
        · go_wp2_with (go_at_call 265; (with_reducible refine (s_BitR s1 A1 n1 c1' (m.natAbs : Int) _ _ (k - 1) _ HV3.out.mu.va HBA.out.2.2.2.2 HK1.out.1 HB1.out).mono ?_); rintro e4 w4 ⟨rfl, hb4⟩; have HV4 := Hd.mk (HV3.out.below hb4); have c0' := HV4.out.mu.b0.cell 0; have m0' := HV4.out.bh.cell 0; have m1' := HV4.out.bh.cell 1; clear hb4)
          go_meet
          exact ⟨by rw [HU0.out]; rfl, HV4⟩
        · by_cases hk1 : 1 < k
          · have hk1I : 1 < (k : Int) := by omega
            have hd1 : decide (1 < k) = true := decide_eq_true hk1
            have hdI : decide (1 < (k : Int)) = true := decide_eq_true hk1I
            clear hk1
            go_wp2_with (go_at_call 265; (with_reducible refine (s_BitR s1 A1 n1 c1' (m.natAbs : Int) _ _ (k - 1) _ HV3.out.mu.va HBA.out.2.2.2.2 HK1.out.1 HB1.out).mono ?_); rintro e4 w4 ⟨rfl, hb4⟩; have HV4 := Hd.mk (HV3.out.below hb4); have c0' := HV4.out.mu.b0.cell 0; have m0' := HV4.out.bh.cell 0; have m1' := HV4.out.bh.cell 1; clear hb4)
            go_meet
            exact ⟨by rw [HU0.out, hd1]; first | rfl | (rw [hdI]; rfl), HV4⟩
          · have hk1I : ¬ 1 < (k : Int) := by omega
            have hd1 : decide (1 < k) = false := decide_eq_false hk1
            have hdI : decide (1 < (k : Int)) = false := decide_eq_false hk1I
            clear hk1
            rcases hb2 with rfl | rfl
            · go_wp2_with (first | (go_at_call 265; have := HV4; clear this; (with_reducible refine (s_BitR s3 A3 n3 c3 ((m.natAbs / 2 ^ k : Nat) : Int) _ _ 0 _ HV4.out.vb.wh (Nat.zero_le _) HK1.out.2 HB2.out).mono ?_); rintro e5 w5 ⟨rfl, hb5⟩; have HV5 := Hd.mk (HV4.out.below hb5); clear hb5) | (go_at_call 265; (with_reducible refine (s_BitR s1 A1 n1 c1' (m.natAbs : Int) _ _ (k - 1) _ HV3.out.mu.va HBA.out.2.2.2.2 HK1.out.1 HB1.out).mono ?_); rintro e4 w4 ⟨rfl, hb4⟩; have HV4 := Hd.mk (HV3.out.below hb4); have c0' := HV4.out.mu.b0.cell 0; have m0' := HV4.out.bh.cell 0; have m1' := HV4.out.bh.cell 1; clear hb4))
              go_meet
              exact ⟨by rw [HU0.out, hd1]; first | rfl | (rw [hdI]; rfl), HV5⟩
            · go_wp2_with (first | (go_at_call 265; have := HV4; clear this; (with_reducible refine (s_BitR s3 A3 n3 c3 ((m.natAbs / 2 ^ k : Nat) : Int) _ _ 0 _ HV4.out.vb.wh (Nat.zero_le _) HK1.out.2 HB2.out).mono ?_); rintro e5 w5 ⟨rfl, hb5⟩; have HV5 := Hd.mk (HV4.out.below hb5); clear hb5) | (go_at_call 265; (with_reducible refine (s_BitR s1 A1 n1 c1' (m.natAbs : Int) _ _ (k - 1) _ HV3.out.mu.va HBA.out.2.2.2.2 HK1.out.1 HB1.out).mono ?_); rintro e4 w4 ⟨rfl, hb4⟩; have HV4 := Hd.mk (HV3.out.below hb4); have c0' := HV4.out.mu.b0.cell 0; have m0' := HV4.out.bh.cell 0; have m1' := HV4.out.bh.cell 1; clear hb4))
              go_meet
              exact ⟨by rw [HU0.out, hd1]; first | rfl | (rw [hdI]; rfl), HV5⟩
      · have HUx := Hd.mk (upB_down neg HRR.out)
        cases neg
        · obtain rfl : s = 1 := HSG.out
          go_wp2
          go_meet
          exact ⟨by rw [HUx.out] <;> rfl, HV3⟩
        · obtain rfl : s = -1 := HSG.out
          go_wp2
          go_meet
          exact ⟨by rw [HUx.out] <;> rfl, HV3⟩
      · have HUx := Hd.mk (upB_up neg HRR.out)
        cases neg
        · obtain rfl : s = 1 := HSG.out
          go_wp2
          go_meet
          exact ⟨by rw [HUx.out] <;> rfl, HV3⟩
        · obtain rfl : s = -1 := HSG.out
          go_wp2
          go_meet
          exact ⟨by rw [HUx.out] <;> rfl, HV3⟩
      · have HUx := Hd.mk (upB_zero neg HRR.out)
        go_wp2
        go_meet
        exact ⟨by rw [HUx.out] <;> rfl, HV3⟩
      · have HUx := Hd.mk (upB_out neg HRR.out)
        go_wp2
        go_meet
        exact ⟨by rw [HUx.out] <;> rfl, HV3⟩
    case rest =>
      obtain ⟨rfl, HV6⟩ := hcut
      have m0 := HV6.out.bh.cell 0
      have m1 := HV6.out.bh.cell 1
      have f0 := HV6.out.bh.frozen 0
      have f1 := HV6.out.bh.frozen 1
      have r0 := HV6.out.mu.b1.cell 0
      have r1 := HV6.out.mu.b1.cell 1
      have t0 := HV6.out.mu.b1.frozen 0
      have t1 := HV6.out.mu.b1.frozen 1
      have hlt := HV6.out.lt
      have hlt2 := HV6.out.bh.lt
      have hne1 : ¬ (h = w.heap.size + 1) := by omega
      have hne2 : ¬ (w.heap.size + 1 = h) := by omega
      have HRM : Hd (rmN mode neg V.natAbs = m.natAbs / 2 ^ k + (upB mode neg V.natAbs).toNat) := ⟨by unfold rmN; rw [HV.out.1]⟩
      have HRB : Hd (Bd ((rmN mode neg V.natAbs : Nat) : Int)) := ⟨bd_nat (rmN_le _ _ _)⟩
      cases hu : upB mode neg V.natAbs
      · rw [hu] at HRM
        clear hu
        go_wp2_with fail
        refine bodyPost_ret (v := .tuple #[.agg #[.int .i64 s3, .slice A3 n3 c3], .int .i64 (e + (k : Int)), .bool false]) (by simp (maxDischargeDepth := 7) [results, Tryz.results220, go_sem, *]) rfl ⟨s3, A3, n3, c3, rfl, ?_, ?_⟩
        · rw [HRM.out]
          exact ((HV6.out.vb.set _ _ (Nat.lt_succ_self _) _).set _ _ (Nat.lt_succ_self _) _).wh
        · exact (HV6.out.mu.bel.setCell (Nat.le_succ _) _).setCell (Nat.le_succ _) _
      · rw [hu] at HRM
        clear hu
        have HT : Hd (((m.natAbs / 2 ^ k : Nat) : Int) + 1 = ((rmN mode neg V.natAbs : Nat) : Int)) := ⟨by rw [HRM.out]; rfl⟩
        have hge : w.heap.size ≤ h := by omega
        have HB1 : Hd (Bd 1) := ⟨bd_nat (by omega : (1 : Nat) ≤ 16777216)⟩
        have HT2 : Hd (Bd (((m.natAbs / 2 ^ k : Nat) : Int) + 1)) := ⟨by rw [HT.out]; exact HRB.out⟩
        go_wp2_with fail
        go_region_with (first | (go_at_call 213; go_loud ((with_reducible refine (s_Of 1 _ (by decide) HB1.out).mono ?_); rintro e7 w7 ⟨s7, A7, n7, c7, rfl, hW7, hb7⟩; have hq : Below wc.heap.size wc w7 := bt3 hb7 (by (repeat (first | exact Below.refl _ _ | assumption | refine Below.drew ?_ | refine bdn ?_ | refine ba _ ?_ | refine bs0 _ _ ?_ ?_ | refine bs1 _ _ _ ?_ ?_ | refine bs2 _ _ _ _ ?_ ?_ | refine bs3 _ _ _ _ _ ?_ ?_ | refine bt3 (by assumption) ?_))); have HV7 := Hd.mk (HV6.out.below hq); have m0 := HV7.out.bh.cell 0; have m1 := HV7.out.bh.cell 1; have f0 := HV7.out.bh.frozen 0; have f1 := HV7.out.bh.frozen 1; have r0 := HV7.out.mu.b1.cell 0; have r1 := HV7.out.mu.b1.cell 1; have t0 := HV7.out.mu.b1.frozen 0; have t1 := HV7.out.mu.b1.frozen 1; clear hq; have H7 := Hd.mk hW7.wh; clear hb7 hW7)) | (go_at_call 253; go_loud ((with_reducible refine (s_AddW s3 s7 A3 A7 n3 n7 c3 c7 _ 1 _ (HV7.out.vb.wh) H7.out HT2.out).mono ?_); rintro e8 w8 ⟨s8, A8, n8, c8, rfl, hW8, hb8⟩; have HV8 := Hd.mk (HV7.out.below hb8); have H8 := Hd.mk hW8; clear m0 m1 f0 f1 r0 r1 t0 t1; have m0 := HV8.out.bh.cell 0; have m1 := HV8.out.bh.cell 1; have f0 := HV8.out.bh.frozen 0; have f1 := HV8.out.bh.frozen 1; have r0 := HV8.out.mu.b1.cell 0; have r1 := HV8.out.mu.b1.cell 1; have t0 := HV8.out.mu.b1.frozen 0; have t1 := HV8.out.mu.b1.frozen 1; clear hb8 hW8)))
        all_goals clear m0 m1
        all_goals have hb8 := Hd.mk ((HV8.out.bh.set_ 0 (.int .i64 s8)).set_ 1 (.slice A8 n8 c8))
        all_goals have m0 := hb8.out.cell 0
        all_goals have m1 := hb8.out.cell 1
        all_goals go_wp2_with fail
        all_goals refine bodyPost_ret (v := .tuple #[.agg #[.int .i64 s8, .slice A8 n8 c8], .int .i64 (e + (k : Int)), .bool false]) (by simp (maxDischargeDepth := 7) [results, Tryz.results220, go_sem, *]) rfl ⟨s8, A8, n8, c8, rfl, ?_, ?_⟩
        all_goals try rw [← HT.out]
        all_goals first | exact ((((H8.out.set _ _ HV7.out.bh.lt _).set _ _ HV7.out.bh.lt _).set _ _ HV7.out.mu.b1.lt _).set _ _ HV7.out.mu.b1.lt _).wh | exact (((HV8.out.mu.bel.setCell hge _).setCell hge _).setCell (Nat.le_succ _) _).setCell (Nat.le_succ _) _
end Go.Proofs.YtflgjecpjaiecaaGreat
