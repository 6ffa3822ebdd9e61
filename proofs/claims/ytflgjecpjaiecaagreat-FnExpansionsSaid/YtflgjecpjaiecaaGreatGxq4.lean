/- Gx: P18 P19 P20 P21, merged. -/
import Derived.Test.YtflgjecpjaiecaaGreatGgq4
import Derived.Deep.RegionLaw
/- Contracts: the program's integers: shifts of negative ones, trailing zeros, common bits. -/
set_option linter.unusedVariables false
set_option linter.unusedSimpArgs false
namespace Go.Proofs.YtflgjecpjaiecaaGreat
open Go.RowKit Num
theorem R32_new1 (w : World) (a : Int) : R32 (w.alloc (.cells #[.int .u32 a] 171)) (some ⟨w.heap.size, 0, none⟩) [a] := by
  refine ⟨rfl, fun _ => ⟨_, rfl, by simp, fun j u hu => ?_⟩⟩
  have hb := Blk.new w 171 #[.int .u32 a]
  match j, hu with
  | 0, hu => simp [c32] at hu; subst hu; exact hb.cell 0
theorem canon_1d {B y : Int} (h0 : 0 < y) (h1 : y < B) : Canon B [y] := ⟨Rng.cons (by omega) h1 (Rng.nil _), fun h => by simp; omega⟩
theorem MagP.one (w : World) : MagP (w.alloc (.cells #[.int .u32 1] 171)) (some ⟨w.heap.size, 0, none⟩) 1 1 1 :=
  ⟨[1], rfl, Nat.le_refl _, canon_1d (by decide) (by decide), R32_new1 w 1, fun ad e => by cases e; exact ⟨_, Blk.new _ _ _⟩, rfl⟩
theorem MagP.lim {w : World} {A : Option Addr} {n c : Nat} {v : Int} (h : MagP w A n c v) (hb : Bd v) : n ≤ 1000000 := by
  obtain ⟨xs, h⟩ := h
  have h2 := len32 h.can (by rw [← h.eq]; exact hb)
  have := h.len
  omega
theorem neg_shift {v p : Int} (hp : 0 < p) : -v / p = -((v - 1) / p + 1) := by
  have h1 := Int.mul_ediv_add_emod (v - 1) p
  have h2 := Int.emod_nonneg (v - 1) (Int.ne_of_gt hp)
  have h3 := Int.emod_lt_of_pos (v - 1) hp
  generalize (v - 1) / p = q at *
  generalize (v - 1) % p = r at *
  refine ((Int.ediv_emod_unique hp (r := p - 1 - r)).2 ⟨?_, by omega, by omega⟩).1
  rw [Int.mul_neg, Int.mul_add, Int.mul_one]; omega
set_option maxHeartbeats 4000000 in
theorem m_RshN (g x : Nat) (a : Int) (k : Nat) (w : World) (hz : IntB w g) (hX : Big w x a) (hk : k ≤ 10000000) (ha0 : a < 0) (hbd : Bd a) :
    Calls Tryz.prog 195 #[.pointer (some ⟨g, 0, none⟩), .pointer (some ⟨x, 0, none⟩), .int .u64 k] w (RetZ g (a / 2 ^ k) w) := by
  obtain ⟨neg, A, n, c, c0, c1, hM, hn, ha, hneg, h0⟩ := hX.parts
  have HZ : Hd (IntB w g) := ⟨hz⟩
  have hv : (a.natAbs : Int) = -a := by omega
  rw [hv] at hM
  have HM : Hd (MagP w A n c (-a)) := ⟨hM⟩
  have HN : Hd (n ≤ 1000000 ∧ k ≤ 10000000 ∧ (1 : Int) ≤ -a) := ⟨⟨by omega, hk, by omega⟩⟩
  have hp := pow2_pos k
  have e0 : a / 2 ^ k = -((-a - 1) / 2 ^ k + 1) := by
    have h := neg_shift (v := -a) hp
    rwa [Int.neg_neg] at h
  have hq1 : (-a - 1) / 2 ^ k ≤ -a - 1 := Int.ediv_le_self _ (by omega)
  have hq0 : 0 ≤ (-a - 1) / 2 ^ k := Int.ediv_nonneg (by omega) (Int.le_of_lt hp)
  have HBD : Hd (Bd (-a - 1) ∧ Bd ((-a - 1) / 2 ^ k) ∧ Bd ((-a - 1) / 2 ^ k + 1)) := ⟨⟨bd_le (by omega) hbd, bd_le (by omega) hbd, bd_le (by omega) hbd⟩⟩
  obtain rfl : neg = true := by rw [hneg]; exact decide_eq_true (by omega)
  have HE : Hd (sgv true ((-a - 1) / 2 ^ k + 1) = a / 2 ^ k) := ⟨by rw [e0]; rfl⟩
  clear hz hM hn ha hneg h0 hk hbd hX ha0 hv e0 hq1 hq0 hp
  go_enter Tryz.func195, Tryz.ntmps195
  go_wp2_with (first
    | (go_at_call 247; (with_reducible refine (m_Sub A _ n 1 c 1 (-a) 1 _ (HM.out.below (by (repeat (first | exact Below.refl _ _ | assumption | refine Below.drew ?_ | refine bdn ?_ | refine ba _ ?_ | refine bs0 _ _ ?_ ?_ | refine bs1 _ _ _ ?_ ?_ | refine bs2 _ _ _ _ ?_ ?_ | refine bs3 _ _ _ _ _ ?_ ?_ | refine bt3 (by assumption) ?_)))) (MagP.one _) HN.out.1 HN.out.2.2).mono ?_); rintro e w1 ⟨A1, n1, k1, rfl, hM1, hb⟩; have HM1 := Hd.mk hM1; have HB : Hd (Below w.heap.size w w1) := ⟨bt3 hb (by (repeat (first | exact Below.refl _ _ | assumption | refine Below.drew ?_ | refine bdn ?_ | refine ba _ ?_ | refine bs0 _ _ ?_ ?_ | refine bs1 _ _ _ ?_ ?_ | refine bs2 _ _ _ _ ?_ ?_ | refine bs3 _ _ _ _ _ ?_ ?_ | refine bt3 (by assumption) ?_)))⟩; clear hM1 hb)
    | (go_at_call 246; (with_reducible refine (m_Right A1 n1 k1 (-a - 1) k _ (HM1.out.below (by (repeat (first | exact Below.refl _ _ | assumption | refine Below.drew ?_ | refine bdn ?_ | refine ba _ ?_ | refine bs0 _ _ ?_ ?_ | refine bs1 _ _ _ ?_ ?_ | refine bs2 _ _ _ _ ?_ ?_ | refine bs3 _ _ _ _ _ ?_ ?_ | refine bt3 (by assumption) ?_)))) (HM1.out.lim HBD.out.1) HN.out.2.1).mono ?_); rintro e w2 ⟨A2, n2, k2, rfl, hM2, hb⟩; have HM2 := Hd.mk hM2; replace HB : Hd (Below w.heap.size w w2) := ⟨bt3 hb HB.out⟩; clear hM2 hb)
    | (go_at_call 248; (with_reducible refine (m_Add A2 _ n2 1 k2 1 ((-a - 1) / 2 ^ k) 1 _ (HM2.out.below (by (repeat (first | exact Below.refl _ _ | assumption | refine Below.drew ?_ | refine bdn ?_ | refine ba _ ?_ | refine bs0 _ _ ?_ ?_ | refine bs1 _ _ _ ?_ ?_ | refine bs2 _ _ _ _ ?_ ?_ | refine bs3 _ _ _ _ _ ?_ ?_ | refine bt3 (by assumption) ?_)))) (MagP.one _) (HM2.out.lim HBD.out.2.1) (by decide)).mono ?_); rintro e w3 ⟨A3, n3, k3, rfl, hM3, hb⟩; have HM3 := Hd.mk hM3; replace HB : Hd (Below w.heap.size w w3) := ⟨bt3 hb (by have hbb := HB.out; (repeat (first | exact Below.refl _ _ | assumption | refine Below.drew ?_ | refine bdn ?_ | refine ba _ ?_ | refine bs0 _ _ ?_ ?_ | refine bs1 _ _ _ ?_ ?_ | refine bs2 _ _ _ _ ?_ ?_ | refine bs3 _ _ _ _ _ ?_ ?_ | refine bt3 (by assumption) ?_)))⟩; clear hM3 hb)
    | (go_at_call 240; (with_reducible refine (m_PutM g true A3 n3 k3 _ _ (HZ.out.below HB.out) HM3.out HBD.out.2.2).mono ?_); rintro e w4 ⟨rfl, hB, hg⟩; have HR : Hd (Big w4 g _ ∧ w.grownBy w4 (some g)) := ⟨⟨hB, bgrown HB.out hg⟩⟩; clear hB hg))
  go_ret
  exact ⟨rfl, by rw [← HE.out]; exact HR.out.1, HR.out.2⟩
theorem m_RshA (g x : Nat) (a : Int) (k : Nat) (w : World) (hz : IntB w g) (hX : Big w x a) (hk : k ≤ 10000000) (hbd : Bd a) :
    Calls Tryz.prog 195 #[.pointer (some ⟨g, 0, none⟩), .pointer (some ⟨x, 0, none⟩), .int .u64 k] w (RetZ g (a / 2 ^ k) w) := by
  by_cases h : a < 0
  · exact m_RshN g x a k w hz hX hk h hbd
  · exact m_RshZ g x a k w hz hX hk (by omega) hbd
theorem bln_two {v k : Nat} (h0 : v ≠ 0) (h : v % 2 ^ k = 0) : k < bln v := by
  rcases Nat.lt_or_ge k (bln v) with h1 | h1
  · exact h1
  · exfalso
    have h2 : v < 2 ^ bln v := bln_lt v
    have h3 : (2 : Nat) ^ bln v ≤ 2 ^ k := Nat.pow_le_pow_right (by decide) h1
    have h4 := Nat.mod_eq_of_lt (Nat.lt_of_lt_of_le h2 h3)
    omega
theorem bit_next {v k : Nat} (h : v % 2 ^ k = 0) (hb : v / 2 ^ k % 2 = 0) : v % 2 ^ (k + 1) = 0 := by
  have h1 : v = 2 ^ k * (v / 2 ^ k) := by have := Nat.div_add_mod v (2 ^ k); omega
  have h2 : v / 2 ^ k = 2 * (v / 2 ^ k / 2) := by omega
  rw [h2] at h1
  rw [h1, Nat.pow_succ, ← Nat.mul_assoc]
  exact Nat.mul_mod_right _ _
set_option maxHeartbeats 4000000 in
theorem m_TZ (x : Nat) (a : Int) (w : World) (hX : Big w x a) (h0 : a ≠ 0) (hbd : Bd a) :
    Calls Tryz.prog 254 #[.pointer (some ⟨x, 0, none⟩)] w fun e w' => (∃ k : Nat, e = .returned (.int .u64 k) ∧ k ≤ 10000000 ∧ a.natAbs % 2 ^ k = 0 ∧ a.natAbs / 2 ^ k % 2 = 1) ∧ w = w' := by
  have HX := Hd.mk hX
  have HV : Hd (a.natAbs ≠ 0 ∧ bln a.natAbs ≤ 10000000) := ⟨⟨by omega, by have := bln_bd hbd; omega⟩⟩
  clear hX h0 hbd
  go_enter Tryz.func254, Tryz.ntmps254
  go_wp2
  go_loop [3] (fun i => ∃ k : Nat, i = .int .i64 k ∧ Hd (a.natAbs % 2 ^ k = 0)) (fun i => bln a.natAbs - (intOf i).toNat)
  case atStart => exact ⟨0, rfl, ⟨by simp; omega⟩⟩
  case round =>
    obtain ⟨k, rfl, HK⟩ := hrel
    have HL := Hd.mk (bln_two HV.out.1 HK.out)
    have hl : (k : Int) < bln a.natAbs := by have := HL.out; omega
    have hkI : (k : Int) ≤ 10000000 := by have := HV.out.2; omega
    have HB := Hd.mk (fun w hX => m_Bit x a k w hX (by omega))
    have HC := Hd.mk (fun w hX => m_BitLen x a w hX)
    have hu : IntKind.u64.wrap k = k := by rw [IntKind.wrap_u64]; omega
    have e1 : (a.natAbs : Int) / 2 ^ k % 2 = ((a.natAbs / 2 ^ k % 2 : Nat) : Int) := by push_cast; rfl
    rw [e1] at HB
    rcases Nat.mod_two_eq_zero_or_one (a.natAbs / 2 ^ k) with hb | hb
    · have HN := Hd.mk (bit_next HK.out hb)
      rw [hb] at HB
      clear hb e1
      generalize bln a.natAbs = L at *
      go_wp2_with (first | (go_at_call 191; (with_reducible refine (HC.out _ HX.out).mono ?_); rintro e w' ⟨rfl, rfl⟩) | (go_at_call 198; (with_reducible refine (HB.out _ HX.out).mono ?_); rintro e w' ⟨rfl, rfl⟩))
      go_round
      case rel => exact ⟨k + 1, by go_num, HN⟩
      case measure => simp [intOf]; omega
    · have HN := Hd.mk (And.intro HK.out hb)
      rw [hb] at HB
      clear hb e1
      generalize bln a.natAbs = L at *
      go_wp2_with (first | (go_at_call 191; (with_reducible refine (HC.out _ HX.out).mono ?_); rintro e w' ⟨rfl, rfl⟩) | (go_at_call 198; (with_reducible refine (HB.out _ HX.out).mono ?_); rintro e w' ⟨rfl, rfl⟩))
      go_ret
      exact ⟨⟨k, rfl, by omega, HN.out.1, HN.out.2⟩, rfl⟩
/-- one digit put behind a row of the call's own, as a step of a region that draws its order -/
theorem step_push32 {ops : Array Oper} {o : Oper} {a : Act} {K : Act → World → Prop} {Q : Exit → Act → World → Prop} {E : Prop} (w : World) (hgd : o.guard = none) (s x : Operand)
    (ho : o.op = .call { callee := .builtin .append, args := #[s, x], argTypes := #[166, 166] })
    (B : Nat) (v : Value) (xs : List Int) (hs : a.eval s = v) (hown : O32 w B v xs) (g c : Nat) (y : Int) (hx : a.eval x = .slice (some ⟨g, 0, none⟩) 1 c) (hc : w.cell? ⟨g, 0, none⟩ = some (.int .u32 y))
    (hl : xs.length < LIM) (hB : B ≤ w.heap.size)
    (h : ∀ v' w', O32 w' B v' (xs ++ [y]) → Below B w w' → K (a.put o.dst v') w') :
    if Region.wanted o (yielded ops a.tmps) = true then Oper.wp Tryz.prog o a w K Q else E := by
  obtain ⟨i0, hi0, hz0, hz1, hz2⟩ := info_parts info32
  refine step_append_any (P := Tryz.prog) w hgd s x 166 ho B 171 i0 _ 1 4 Tryz.underlying166 hi0 hz0 hz1 hz2 rfl (by omega) v xs.length (c32 xs) hs hown (w.heap.size) (some ⟨g, 0, none⟩) 1 c [.int .u32 y] hx ?_ ?_ ?_ ?_ hB ?_
  · refine ⟨rfl, fun _ => ⟨⟨g, 0, none⟩, rfl, World.block_lt_of_cell? w _ hc, ?_⟩⟩
    intro j u hj
    match j, hj with
    | 0, hj => simp at hj; subst hj; simpa [Addr.add] using hc
  · intro u hu; simp at hu; subst hu; rfl
  · unfold LIM at hl; unfold maxLen; omega
  · unfold LIM at hl; omega
  · intro v' w' h1 h2 _
    refine h v' w' ?_ ?_
    · unfold O32
      have e : c32 (xs ++ [y]) = c32 xs ++ [.int .u32 y] := by simp [c32]
      rw [e, List.length_append]; exact h1
    · refine (Below.refl _ _).grown h2 hB ?_
      intro k hk
      rcases hown.2 with ⟨rfl, _⟩ | ⟨g', cap, cur, rfl, hg, _⟩
      · simp [Value.ownBlock] at hk
      · have : g' = k := by simpa [Value.ownBlock] using hk
        omega
theorem step_is_append32 {ops : Array Oper} {o : Oper} {a : Act} {w : World} {K : Act → World → Prop} {Q : Exit → Act → World → Prop} {E : Prop} (s x : Operand)
    (ho : o.op = .call { callee := .builtin .append, args := #[s, x], argTypes := #[166, 166] })
    (h : if Region.wanted o (yielded ops a.tmps) = true then Oper.wp Tryz.prog o a w K Q else E) : if Region.wanted o (yielded ops a.tmps) = true then Oper.wp Tryz.prog o a w K Q else E := h
theorem low_digit {B : Int} {xs : List Int} (hB : 0 < B) (hr : Rng B xs) (hx : xs ≠ []) : val B xs % B = xs.getD 0 0 := by
  match xs, hx with
  | x :: ys, _ =>
    have h := hr.getD hB 0
    show (x + B * val B ys) % B = x
    rw [Int.add_mul_emod_self_left]
    exact Int.emod_eq_of_lt h.1 h.2
theorem O32.keep {w w' : World} {B : Nat} {v : Value} {xs : List Int} (h : O32 w B v xs) (hb : Below w.heap.size w w') : O32 w' B v xs :=
  World.ownsRow.kept (row := none) h ⟨hb.os, hb.tape, hb.output, hb.size, fun k hk _ => hb.block k hk⟩ (by cases v.ownBlock <;> simp)
theorem m_PutO (g B : Nat) (v : Value) (xs : List Int) (w : World) (hz : IntB w g) (h : O32 w B v xs) (hr : Rng 4294967296 xs) (hl : xs.length ≤ 1000000) :
    Calls Tryz.prog 240 #[.pointer (some ⟨g, 0, none⟩), .bool false, v] w (RetZ g (val 4294967296 xs) w) := by
  obtain ⟨b0, A0, n0, c0, hb⟩ := hz
  have h' := h
  rcases h'.2 with ⟨rfl, h0⟩ | ⟨g', cap, cur, rfl, hg, hh, h3, h4, h5, h6⟩
  · obtain rfl : xs = [] := List.eq_nil_of_length_eq_zero h0
    exact (m_Put g #[] b0 A0 n0 c0 false none 0 0 [] w hb rfl (by unfold LIM; omega) (Nat.le_refl _) Reads.none_ hr (fun _ k => by cases k) (Or.inl (by omega))).mono fun e w' k => ⟨k.1, by simpa using k.2.1, k.2.2⟩
  · exact (m_Put g #[] b0 A0 n0 c0 false (some ⟨g', 0, none⟩) xs.length cap xs w hb rfl (by unfold LIM; omega) h3 (Reads.of_own h) hr (fun ad e => by cases e; exact ⟨_, hh⟩) (Or.inl hl)).mono fun e w' k => ⟨k.1, by simpa using k.2.1, k.2.2⟩
set_option maxRecDepth 8000 in
set_option maxHeartbeats 4000000 in
theorem m_AndM (g x y : Nat) (a : Int) (w : World) (hz : IntB w g) (hX : Big w x a) (hY : Big w y 16777215) (ha : 0 < a) (hbd : Bd a) :
    Calls Tryz.prog 255 #[.pointer (some ⟨g, 0, none⟩), .pointer (some ⟨x, 0, none⟩), .pointer (some ⟨y, 0, none⟩)] w (RetZ g (a % 16777216) w) := by
  obtain ⟨neg, A, n, c, c0, c1, ⟨xs, hM⟩, hn, z1, hneg, z2⟩ := hX.parts
  obtain ⟨neg', A', n', c', d0, d1, ⟨ys, hM'⟩, z3, z4, z5, z6⟩ := hY.parts
  clear z1 z2 z3 z4 z5 z6
  have e1 : (a.natAbs : Int) = a := by omega
  rw [e1] at hM
  rcases hM'.small (by decide) with ⟨_, hv⟩ | ⟨rfl, rfl, z7⟩
  · exact absurd hv (by decide)
  clear z7
  have hxe : xs ≠ [] := fun h => by have := hM.eq; rw [h] at this; simp [val] at this; omega
  have hnl : 0 < n := by rw [hM.len]; exact List.length_pos_iff.2 hxe
  obtain ⟨ad, hA, hcx⟩ := hM.at_ (k := 0) hnl
  obtain ⟨ad', hA', hcy⟩ := hM'.at_ (k := 0) (by decide)
  subst hA hA'
  have ea : ∀ q : Addr, q.add 0 = q := fun q => by simp [Addr.add]
  rw [ea] at hcx hcy
  have hd := low_digit (B := 4294967296) (by decide) hM.can.1 hxe
  rw [← hM.eq] at hd
  have hg := hM.can.1.getD (B := 4294967296) (by decide) 0
  have hcy2 : w.cell? ad' = some (.int .u32 16777215) := hcy
  generalize xs.getD 0 0 = q at *
  have hand : bits .and .u32 q 16777215 = q % 16777216 := bits_mask .u32 32 (by decide) wraps_u32 24 (by decide) q hg.1 (by omega)
  have hq : a % 16777216 = q % 16777216 := by omega
  have HZ := Hd.mk hz
  have HO := Hd.mk (own_empty32 w w.heap.size (Nat.le_refl _))
  have HQ : Hd (a % 16777216 = q % 16777216 ∧ Rng 4294967296 [q % 16777216] ∧ Bd (val 4294967296 [q % 16777216]) ∧ val 4294967296 [q % 16777216] = q % 16777216) := ⟨by
    have e3 : val 4294967296 [q % 16777216] = q % 16777216 := by show q % 16777216 + 4294967296 * 0 = _; omega
    refine ⟨hq, Rng.cons (by omega) (by omega) (Rng.nil _), ?_, e3⟩
    rw [e3, ← hq]
    have hq9 : a % 16777216 ≤ a := by omega
    have hq8 : 0 ≤ a % 16777216 := by omega
    generalize a % 16777216 = q9 at *
    exact bd_le (by omega) hbd⟩
  rw [HQ.out.1]
  have n0 : (0 : Int) < n := by omega
  clear hz hX hY ha hbd hM hM' hn hneg e1 hxe hnl hcy hd hg hq
  by_cases hn2 : n = 1
  · subst hn2
    go_enter Tryz.func255, Tryz.ntmps255; go_wp2_with fail; go_region_held3 (fun w' => w'.cell? ⟨x, 1, none⟩ = some (.slice (some ad) 1 c) ∧ w'.cell? ⟨y, 1, none⟩ = some (.slice (some ad') 1 c')) ((first | assumption | go_keep | (refine ⟨?_, ?_⟩ <;> go_simp) | (constructor <;> go_simp))) (skip); go_wp2_with fail; refine wp_loop_rounds 2 ?_; rw [rounds_succ]; go_wp2_with fail
    go_region_held3 (fun w' => w'.cell? ⟨x, 1, none⟩ = some (.slice (some ad) 1 c) ∧ w'.cell? ⟨y, 1, none⟩ = some (.slice (some ad') 1 c') ∧ w'.cell? ad = some (.int .u32 q) ∧ w'.cell? ad' = some (.int .u32 16777215)) ((first | assumption | (exact ⟨k0, k1, k2, k3⟩) | go_keep | (refine ⟨?_, ?_, ?_, ?_⟩ <;> go_simp) | (constructor <;> go_simp))) (first | ((with_reducible refine step_is_append32 (.tmp 24) (.tmp 40) rfl ?_); refine step_push32 _ rfl (.tmp 24) (.tmp 40) rfl w.heap.size _ [] rfl (HO.out.keep (by (repeat (first | exact Below.refl _ _ | assumption | refine Below.drew ?_ | refine bdn ?_ | refine ba _ ?_ | refine bs0 _ _ ?_ ?_ | refine bs1 _ _ _ ?_ ?_ | refine bs2 _ _ _ _ ?_ ?_ | refine bs3 _ _ _ _ _ ?_ ?_ | refine bt3 (by assumption) ?_)))) _ 1 (q % 16777216) rfl (by go_simp) (by decide) (by simp; omega) ?_; intro v1 w1 ho1 hb1; have HO1 : Hd (O32 w1 w.heap.size v1 [q % 16777216]) := ⟨ho1⟩; have HB1 : Hd (Below w.heap.size w w1) := ⟨bel_up (by (repeat (first | exact Below.refl _ _ | assumption | refine Below.drew ?_ | refine bdn ?_ | refine ba _ ?_ | refine bs0 _ _ ?_ ?_ | refine bs1 _ _ _ ?_ ?_ | refine bs2 _ _ _ _ ?_ ?_ | refine bs3 _ _ _ _ _ ?_ ?_ | refine bt3 (by assumption) ?_))) hb1⟩; have k0 := cb HB1.out c1; have k1 := cb HB1.out d1; have k2 := cb HB1.out hcx; have k3 := cb HB1.out hcy2; clear ho1 hb1))
    go_wp2_with fail; rw [rounds_succ]; go_wp2_with (go_at_call 240; (with_reducible refine (m_PutO g w.heap.size v1 [q % 16777216] _ (HZ.out.below (by have hbb := HB1.out; (repeat (first | exact Below.refl _ _ | assumption | refine Below.drew ?_ | refine bdn ?_ | refine ba _ ?_ | refine bs0 _ _ ?_ ?_ | refine bs1 _ _ _ ?_ ?_ | refine bs2 _ _ _ _ ?_ ?_ | refine bs3 _ _ _ _ _ ?_ ?_ | refine bt3 (by assumption) ?_)))) (HO1.out.keep (by (repeat (first | exact Below.refl _ _ | assumption | refine Below.drew ?_ | refine bdn ?_ | refine ba _ ?_ | refine bs0 _ _ ?_ ?_ | refine bs1 _ _ _ ?_ ?_ | refine bs2 _ _ _ _ ?_ ?_ | refine bs3 _ _ _ _ _ ?_ ?_ | refine bt3 (by assumption) ?_)))) HQ.out.2.1 (by simp)).mono ?_); rintro e w4 ⟨rfl, hB, hg⟩; have HR : Hd (Big w4 g _ ∧ w.grownBy w4 (some g)) := ⟨⟨hB, bgrown (by have hbb := HB1.out; (repeat (first | exact Below.refl _ _ | assumption | refine Below.drew ?_ | refine bdn ?_ | refine ba _ ?_ | refine bs0 _ _ ?_ ?_ | refine bs1 _ _ _ ?_ ?_ | refine bs2 _ _ _ _ ?_ ?_ | refine bs3 _ _ _ _ _ ?_ ?_ | refine bt3 (by assumption) ?_))) hg⟩⟩; clear hB hg)
    go_ret
    exact ⟨rfl, by rw [← HQ.out.2.2.2]; exact HR.out.1, HR.out.2⟩
  · have n1 : ¬ ((n : Int) ≤ 1) := by omega
    have n4 : 0 < n := by omega
    have n2 : (1 : Int) < n := by omega
    have n3 : ¬ ((n : Int) < 1) := by omega
    go_enter Tryz.func255, Tryz.ntmps255; go_wp2_with fail; go_region_held3 (fun w' => w'.cell? ⟨x, 1, none⟩ = some (.slice (some ad) n c) ∧ w'.cell? ⟨y, 1, none⟩ = some (.slice (some ad') 1 c')) ((first | assumption | go_keep | (refine ⟨?_, ?_⟩ <;> go_simp) | (constructor <;> go_simp))) (skip); go_wp2_with fail; refine wp_loop_rounds 2 ?_; rw [rounds_succ]; go_wp2_with fail
    go_region_held3 (fun w' => w'.cell? ⟨x, 1, none⟩ = some (.slice (some ad) n c) ∧ w'.cell? ⟨y, 1, none⟩ = some (.slice (some ad') 1 c') ∧ w'.cell? ad = some (.int .u32 q) ∧ w'.cell? ad' = some (.int .u32 16777215)) ((first | assumption | (exact ⟨k0, k1, k2, k3⟩) | go_keep | (refine ⟨?_, ?_, ?_, ?_⟩ <;> go_simp) | (constructor <;> go_simp))) (first | ((with_reducible refine step_is_append32 (.tmp 24) (.tmp 40) rfl ?_); refine step_push32 _ rfl (.tmp 24) (.tmp 40) rfl w.heap.size _ [] rfl (HO.out.keep (by (repeat (first | exact Below.refl _ _ | assumption | refine Below.drew ?_ | refine bdn ?_ | refine ba _ ?_ | refine bs0 _ _ ?_ ?_ | refine bs1 _ _ _ ?_ ?_ | refine bs2 _ _ _ _ ?_ ?_ | refine bs3 _ _ _ _ _ ?_ ?_ | refine bt3 (by assumption) ?_)))) _ 1 (q % 16777216) rfl (by go_simp) (by decide) (by simp; omega) ?_; intro v1 w1 ho1 hb1; have HO1 : Hd (O32 w1 w.heap.size v1 [q % 16777216]) := ⟨ho1⟩; have HB1 : Hd (Below w.heap.size w w1) := ⟨bel_up (by (repeat (first | exact Below.refl _ _ | assumption | refine Below.drew ?_ | refine bdn ?_ | refine ba _ ?_ | refine bs0 _ _ ?_ ?_ | refine bs1 _ _ _ ?_ ?_ | refine bs2 _ _ _ _ ?_ ?_ | refine bs3 _ _ _ _ _ ?_ ?_ | refine bt3 (by assumption) ?_))) hb1⟩; have k0 := cb HB1.out c1; have k1 := cb HB1.out d1; have k2 := cb HB1.out hcx; have k3 := cb HB1.out hcy2; clear ho1 hb1))
    go_wp2_with fail; rw [rounds_succ]; go_wp2_with (go_at_call 240; (with_reducible refine (m_PutO g w.heap.size v1 [q % 16777216] _ (HZ.out.below (by have hbb := HB1.out; (repeat (first | exact Below.refl _ _ | assumption | refine Below.drew ?_ | refine bdn ?_ | refine ba _ ?_ | refine bs0 _ _ ?_ ?_ | refine bs1 _ _ _ ?_ ?_ | refine bs2 _ _ _ _ ?_ ?_ | refine bs3 _ _ _ _ _ ?_ ?_ | refine bt3 (by assumption) ?_)))) (HO1.out.keep (by (repeat (first | exact Below.refl _ _ | assumption | refine Below.drew ?_ | refine bdn ?_ | refine ba _ ?_ | refine bs0 _ _ ?_ ?_ | refine bs1 _ _ _ ?_ ?_ | refine bs2 _ _ _ _ ?_ ?_ | refine bs3 _ _ _ _ _ ?_ ?_ | refine bt3 (by assumption) ?_)))) HQ.out.2.1 (by simp)).mono ?_); rintro e w4 ⟨rfl, hB, hg⟩; have HR : Hd (Big w4 g _ ∧ w.grownBy w4 (some g)) := ⟨⟨hB, bgrown (by have hbb := HB1.out; (repeat (first | exact Below.refl _ _ | assumption | refine Below.drew ?_ | refine bdn ?_ | refine ba _ ?_ | refine bs0 _ _ ?_ ?_ | refine bs1 _ _ _ ?_ ?_ | refine bs2 _ _ _ _ ?_ ?_ | refine bs3 _ _ _ _ _ ?_ ?_ | refine bt3 (by assumption) ?_))) hg⟩⟩; clear hB hg)
    go_ret
    exact ⟨rfl, by rw [← HQ.out.2.2.2]; exact HR.out.1, HR.out.2⟩
end Go.Proofs.YtflgjecpjaiecaaGreat
/- Contracts: odd forms of the program's numbers. -/
set_option linter.unusedVariables false
set_option linter.unusedSimpArgs false
namespace Go.Proofs.YtflgjecpjaiecaaGreat
open Go.RowKit Num
theorem dv_nz {m e : Int} (h : dv m e = 0) : m = 0 := by
  unfold dv at h
  rcases Int.mul_eq_zero.1 h with h | h
  · exact h
  · exact absurd h (Int.ne_of_gt (pow2_pos _))
theorem dy_odd {m e V : Int} {l k : Nat} (hF : NuF m e V l) (hm : m ≠ 0) (h1 : m.natAbs % 2 ^ k = 0) (h2 : m.natAbs / 2 ^ k % 2 = 1) : DyF (m / 2 ^ k) (e + k) V l := by
  have g1 : (m.natAbs : Int) % 2 ^ k = 0 := by exact_mod_cast h1
  have g2 : (m.natAbs : Int) / 2 ^ k % 2 = 1 := by exact_mod_cast h2
  have hd : ((2 : Int) ^ k) ∣ (m.natAbs : Int) := Int.dvd_of_emod_eq_zero g1
  rcases Int.lt_or_gt_of_ne hm with h | h
  · have e1 : m = -1 * (m.natAbs : Int) := by omega
    have h3 := dy_cut (s := -1) (a := m) (k := k) e1 (Or.inr rfl) (by omega) g1 g2 hF.val hF.lo hF.lsc hF.bd
    have e2 : m / 2 ^ k = -1 * ((m.natAbs : Int) / 2 ^ k) := by
      conv => lhs; rw [e1]
      rw [Int.neg_mul, Int.one_mul, Int.neg_mul, Int.one_mul]
      exact Int.neg_ediv_of_dvd hd
    rw [e2]; exact h3
  · have e1 : m = 1 * (m.natAbs : Int) := by omega
    have h3 := dy_cut (s := 1) (a := m) (k := k) e1 (Or.inl rfl) (by omega) g1 g2 hF.val hF.lo hF.lsc hF.bd
    have e2 : m / 2 ^ k = 1 * ((m.natAbs : Int) / 2 ^ k) := by
      conv => lhs; rw [e1]
      rw [Int.one_mul, Int.one_mul]
    rw [e2]; exact h3
theorem n_SgR (g : Nat) (e V sg : Int) (l : Nat) (w : World) (hs : V.sign = sg) (hX : NuP w g e V l) :
    Calls Tryz.prog 114 #[.agg #[.pointer (some ⟨g, 0, none⟩), .int .i64 e]] w fun e' w' => e' = .returned (.int .i64 sg) ∧ Below w.heap.size w w' := by
  subst hs; exact n_Sign g e V l w hX
/-- what a call that hands back a number in its odd form leaves -/
def RetOd (V : Int) (l : Nat) (w : World) (e : Ending) (w' : World) : Prop := ∃ g x m, e = .returned (.agg #[.pointer (some ⟨g, 0, none⟩), .int .i64 x]) ∧ Big w' g m ∧ DyF m x V l ∧ Below w.heap.size w w'
set_option maxHeartbeats 4000000 in
theorem n_Zero0 (w : World) : Calls Tryz.prog 218 #[] w fun e w' => (∃ g, e = .returned (.agg #[.pointer (some ⟨g, 0, none⟩), .int .i64 0]) ∧ Big w' g 0) ∧ Below w.heap.size w w' := by
  go_enter Tryz.func218, Tryz.ntmps218
  go_wp2
  refine bodyPost_ret (v := .agg #[.pointer (some ⟨w.heap.size + 1, 0, none⟩), .int .i64 0]) (by simp (maxDischargeDepth := 7) [results, Tryz.results218, go_sem, *]) rfl ⟨⟨w.heap.size + 1, rfl, ?_⟩, ?_⟩
  · have hb : Blk ((w.alloc (.cells #[.pointer (some ⟨w.heap.size + 1, 0, none⟩), .int .i64 0] 113)).alloc (.cells #[.bool false, .slice none 0 0] 168)) (w.heap.size + 1) 168 #[.bool false, .slice none 0 0] := by
      have := Blk.new (w.alloc (.cells #[.pointer (some ⟨w.heap.size + 1, 0, none⟩), .int .i64 0] 113)) 168 #[.bool false, .slice none 0 0]; simpa using this
    exact Big.zero hb
  · (repeat (first | exact Below.refl _ _ | assumption | refine Below.drew ?_ | refine bdn ?_ | refine ba _ ?_ | refine bs0 _ _ ?_ ?_ | refine bs1 _ _ _ ?_ ?_ | refine bs2 _ _ _ _ ?_ ?_ | refine bs3 _ _ _ _ _ ?_ ?_ | refine bt3 (by assumption) ?_))
abbrev O2 (w : World) (g : Nat) (e : Int) : World := (w.alloc (Obj.cells #[.pointer (some ⟨g, 0, none⟩), .int .i64 e] 113)).alloc (Obj.cells #[.pointer none, .int .i64 0] 113)
/-- what odd holds -/
structure O2H (w wx : World) (g : Nat) (e : Int) : Prop where
  bel : Below w.heap.size w wx
  b0 : Blk wx w.heap.size 113 #[.pointer (some ⟨g, 0, none⟩), .int .i64 e]
  b1 : Blk wx (w.heap.size + 1) 113 #[.pointer none, .int .i64 0]
theorem O2H.start (w : World) (g : Nat) (e : Int) : O2H w (O2 w g e) g e := by
  refine ⟨ba _ (ba _ (Below.refl _ _)), (Blk.new _ _ _).alloc _, ?_⟩
  have := Blk.new (w.alloc (Obj.cells #[.pointer (some ⟨g, 0, none⟩), .int .i64 e] 113)) 113 #[.pointer none, .int .i64 0]
  simpa [O2] using this
theorem O2H.below {w wx w' : World} {g : Nat} {e : Int} (h : O2H w wx g e) (hb : Below wx.heap.size wx w') : O2H w w' g e :=
  ⟨bt3 hb h.bel, h.b0.below hb h.b0.lt, h.b1.below hb h.b1.lt⟩
set_option maxHeartbeats 4000000 in
theorem n_Odd (g : Nat) (e V : Int) (l : Nat) (w : World) (hX : NuP w g e V l) : Calls Tryz.prog 204 #[.agg #[.pointer (some ⟨g, 0, none⟩), .int .i64 e]] w (RetOd V l w) := by
  obtain ⟨m, hB, hF⟩ := id hX
  have HX := Hd.mk hX
  have HB := Hd.mk hB
  by_cases hm : m = 0
  · have hV : V = 0 := by rw [hF.val, hm]; simp [dv]
    have HSG : Hd (V.sign = 0) := ⟨by rw [hV]; rfl⟩
    have HD : Hd (DyF 0 0 V l) := ⟨⟨by rw [hV]; simp [dv], by omega, hF.lsc, by omega, fun _ => rfl, fun h => absurd rfl h, hF.bd⟩⟩
    clear hX hB hF hm hV
    go_enter Tryz.func204, Tryz.ntmps204
    go_wp2_with (first | (go_at_call 114; (with_reducible refine (n_SgR g e V _ l _ HSG.out (HX.out.below (by (repeat (first | exact Below.refl _ _ | assumption | refine Below.drew ?_ | refine bdn ?_ | refine ba _ ?_ | refine bs0 _ _ ?_ ?_ | refine bs1 _ _ _ ?_ ?_ | refine bs2 _ _ _ _ ?_ ?_ | refine bs3 _ _ _ _ _ ?_ ?_ | refine bt3 (by assumption) ?_))))).mono ?_); rintro e1 w1 ⟨rfl, hb⟩; have HH := Hd.mk ((O2H.start w g e).below hb); have HB1 := Hd.mk (HB.out.below (bt3 hb (by (repeat (first | exact Below.refl _ _ | assumption | refine Below.drew ?_ | refine bdn ?_ | refine ba _ ?_ | refine bs0 _ _ ?_ ?_ | refine bs1 _ _ _ ?_ ?_ | refine bs2 _ _ _ _ ?_ ?_ | refine bs3 _ _ _ _ _ ?_ ?_ | refine bt3 (by assumption) ?_))))); have c0 : w1.cell? _ = some (.pointer (some ⟨g, 0, none⟩)) := HH.out.b0.cell 0; have c1 : w1.cell? _ = some (.int .i64 e) := HH.out.b0.cell 1; have r0 : w1.cell? _ = some (.pointer none) := HH.out.b1.cell 0; have r1 : w1.cell? _ = some (.int .i64 0) := HH.out.b1.cell 1; have f0 := HH.out.b1.frozen 0; have f1 := HH.out.b1.frozen 1; clear hb) | (go_at_call 218; (with_reducible refine (n_Zero0 _).mono ?_); rintro e2 w2 ⟨⟨g2, rfl, hz⟩, hb⟩; have HZ := Hd.mk hz; replace HH := Hd.mk (HH.out.below hb); have c0 : w2.cell? _ = some (.pointer (some ⟨g, 0, none⟩)) := HH.out.b0.cell 0; have c1 : w2.cell? _ = some (.int .i64 e) := HH.out.b0.cell 1; have r0 : w2.cell? _ = some (.pointer none) := HH.out.b1.cell 0; have r1 : w2.cell? _ = some (.int .i64 0) := HH.out.b1.cell 1; have f0 := HH.out.b1.frozen 0; have f1 := HH.out.b1.frozen 1; clear hz hb))
    refine bodyPost_ret (v := .agg #[.pointer (some ⟨g2, 0, none⟩), .int .i64 0]) (by simp (maxDischargeDepth := 7) [results, Tryz.results204, go_sem, *]) rfl ⟨g2, 0, 0, rfl, ?_, HD.out, ?_⟩
    · exact (HZ.out.setT HH.out.b1 (by decide) (by decide) _ _).setT (HH.out.b1.set_ _ _) (by decide) (by decide) _ _
    · have hbb := HH.out.bel
      exact (hbb.setCell (by simp) _).setCell (by simp) _
  · obtain ⟨sg, hsg⟩ : ∃ sg, V.sign = sg := ⟨_, rfl⟩
    have hV0 : V ≠ 0 := fun h => by
      have h1 := hF.val
      rw [h] at h1
      exact hm (dv_nz h1.symm)
    have hs0 : (sg == 0) = false := by rw [← hsg]; simpa [Int.sign_eq_zero_iff_zero] using hV0
    have HSG := Hd.mk hsg
    have HBM : Hd (Bd m ∧ m ≠ 0) := ⟨⟨dv_bd (e := e) (by rw [← hF.val]; exact hF.bd), hm⟩⟩
    have HF := Hd.mk hF
    have HEB : Hd (-20000 ≤ e ∧ e ≤ 2400000) := ⟨⟨by have := hF.lo; have := hF.lsc; have : (SC : Nat) = 20000 := rfl; omega, hF.hi⟩⟩
    clear hX hB hF hm hsg hV0
    go_enter Tryz.func204, Tryz.ntmps204
    go_upto_region 4 with (first | (go_at_call 114; (with_reducible refine (n_SgR g e V _ l _ HSG.out (HX.out.below (by (repeat (first | exact Below.refl _ _ | assumption | refine Below.drew ?_ | refine bdn ?_ | refine ba _ ?_ | refine bs0 _ _ ?_ ?_ | refine bs1 _ _ _ ?_ ?_ | refine bs2 _ _ _ _ ?_ ?_ | refine bs3 _ _ _ _ _ ?_ ?_ | refine bt3 (by assumption) ?_))))).mono ?_); rintro e1 w1 ⟨rfl, hb⟩; have HH := Hd.mk ((O2H.start w g e).below hb); have HB1 := Hd.mk (HB.out.below (bt3 hb (by (repeat (first | exact Below.refl _ _ | assumption | refine Below.drew ?_ | refine bdn ?_ | refine ba _ ?_ | refine bs0 _ _ ?_ ?_ | refine bs1 _ _ _ ?_ ?_ | refine bs2 _ _ _ _ ?_ ?_ | refine bs3 _ _ _ _ _ ?_ ?_ | refine bt3 (by assumption) ?_))))); have c0 : w1.cell? _ = some (.pointer (some ⟨g, 0, none⟩)) := HH.out.b0.cell 0; have c1 : w1.cell? _ = some (.int .i64 e) := HH.out.b0.cell 1; have r0 : w1.cell? _ = some (.pointer none) := HH.out.b1.cell 0; have r1 : w1.cell? _ = some (.int .i64 0) := HH.out.b1.cell 1; have f0 := HH.out.b1.frozen 0; have f1 := HH.out.b1.frozen 1; clear hb) | (go_at_call 254; (with_reducible refine (m_TZ g m _ HB1.out HBM.out.2 HBM.out.1).mono ?_); rintro e2 w2 ⟨⟨k, rfl, hk, h1, h2⟩, rfl⟩; have HK := Hd.mk (And.intro hk (dy_odd HF.out HBM.out.2 h1 h2)); clear h1 h2))
    have hw1 : IntKind.i64.wrap (k : Int) = k := by rw [IntKind.wrap_i64]; omega
    have hw2 : IntKind.i64.wrap (e + k) = e + k := by have := HEB.out; rw [IntKind.wrap_i64]; omega
    have hs1 := HH.out.b1.lt
    have n1 : ¬ (w.heap.size + 1 = w.heap.size) := by omega
    have ne0 := World.new_ne w1 ⟨w.heap.size, 0, none⟩ c0
    have ne1 := World.new_ne w1 ⟨w.heap.size + 1, 0, none⟩ r0
    go_region_held3 (fun w' => w'.cell? ⟨w.heap.size, 0, none⟩ = some (.pointer (some ⟨g, 0, none⟩)) ∧ w'.cell? ⟨w.heap.size, 1, none⟩ = some (.int .i64 e)) ((first | assumption | (exact ⟨cb hq c0, cb hq c1⟩) | go_keep | (refine ⟨?_, ?_⟩ <;> go_simp) | (constructor <;> go_simp)))
      (first | (go_at_call 195; (with_reducible refine (m_RshA _ g m k _ (by first | exact IntB.new _ | exact (IntB.new _).drew) (HB1.out.below (by (repeat (first | exact Below.refl _ _ | assumption | refine Below.drew ?_ | refine bdn ?_ | refine ba _ ?_ | refine bs0 _ _ ?_ ?_ | refine bs1 _ _ _ ?_ ?_ | refine bs2 _ _ _ _ ?_ ?_ | refine bs3 _ _ _ _ _ ?_ ?_ | refine bt3 (by assumption) ?_)))) hk HBM.out.1).mono ?_); rintro e5 w5 ⟨rfl, hB5, hg5⟩; have hq : Below w1.heap.size w1 w5 := Below.grown (by (repeat (first | exact Below.refl _ _ | assumption | refine Below.drew ?_ | refine bdn ?_ | refine ba _ ?_ | refine bs0 _ _ ?_ ?_ | refine bs1 _ _ _ ?_ ?_ | refine bs2 _ _ _ _ ?_ ?_ | refine bs3 _ _ _ _ _ ?_ ?_ | refine bt3 (by assumption) ?_))) hg5 (le_alloc _ (Nat.le_refl _)) (fun i hi => by cases hi; exact Nat.le_refl _); have HR : Hd (Big w5 _ (m / 2 ^ k)) := ⟨hB5⟩; have HG := Hd.mk (HH.out.below hq); have s0 : w5.cell? _ = some (.pointer none) := HG.out.b1.cell 0; have s1 : w5.cell? _ = some (.int .i64 0) := HG.out.b1.cell 1; have t0 := HG.out.b1.frozen 0; have t1 := HG.out.b1.frozen 1; clear hB5 hg5))
    all_goals
      go_wp2_with fail
      refine bodyPost_ret (v := .agg #[.pointer (some ⟨w1.heap.size, 0, none⟩), .int .i64 (e + k)]) (by simp (maxDischargeDepth := 7) [results, Tryz.results204, go_sem, *]) rfl ⟨w1.heap.size, e + k, m / 2 ^ k, rfl, ?_, HK.out.2, ?_⟩
      · exact (HR.out.setT HG.out.b1 (by decide) (by decide) _ _).setT (HG.out.b1.set_ _ _) (by decide) (by decide) _ _
      · have hbb := HG.out.bel
        exact (hbb.setCell (by simp) _).setCell (by simp) _
end Go.Proofs.YtflgjecpjaiecaaGreat
/- Contracts: whole numbers out of the program's integers, and its dyadic results. -/
set_option linter.unusedVariables false
set_option linter.unusedSimpArgs false
set_option exponentiation.threshold 30000
namespace Go.Proofs.YtflgjecpjaiecaaGreat
open Go.RowKit Num
theorem O64.far {w w' : World} {B z : Nat} {v : Value} {xs : List Int} (h : O64 w B v xs) (hg : w.grownBy w' (some z)) (hz : z < B) : O64 w' B v xs := by
  refine World.ownsRow.kept h hg ?_
  rcases h.2 with ⟨rfl, _⟩ | ⟨g', cap, cur, rfl, hg', _⟩
  · left; rfl
  · right
    intro k
    have : g' = z := by simpa [Value.ownBlock] using k
    omega
/-- what the digits of a whole number hold, with the rest that is still to be parted -/
structure FbD (m r : Int) (zs : List Int) : Prop where
  rng : Rng 16777216 zs
  eq : val 16777216 zs + 16777216 ^ zs.length * r = m.natAbs
  pos : 0 ≤ r
  lst : r = 0 → Lst zs
theorem FbD.start (m : Int) : FbD m (m.natAbs : Int) [] := ⟨Rng.nil _, by simp [val], by omega, fun _ => Lst.nil⟩
theorem FbD.next {m r : Int} {zs : List Int} (h : FbD m r zs) (hr : 0 < r) : FbD m (r / 16777216) (zs ++ [r % 16777216]) := by
  refine ⟨h.rng.snoc (by omega) (by omega), ?_, by omega, fun h0 => ?_⟩
  · rw [val_snoc, List.length_append, List.length_singleton, Int.pow_succ, ← h.eq]
    have e := Int.mul_ediv_add_emod r 16777216
    conv => rhs; rw [← e]
    rw [Int.mul_add, Int.mul_assoc]
    omega
  · intro hne
    simp
    omega
theorem FbD.short {m r : Int} {zs : List Int} (h : FbD m r zs) (hr : 0 < r) (hm : bln m.natAbs ≤ 2400) : zs.length < 100 := by
  rcases Nat.lt_or_ge zs.length 100 with h1 | h1
  · exact h1
  · exfalso
    have h2 : m.natAbs < 2 ^ 2400 := Nat.lt_of_lt_of_le (bln_lt _) (Nat.pow_le_pow_right (by decide) hm)
    have h3 : (m.natAbs : Int) < 2 ^ 2400 := by exact_mod_cast h2
    have h4 : (16777216 : Int) ^ zs.length = 2 ^ (24 * zs.length) := p24 _
    have h5 : (2 : Int) ^ 2400 ≤ 2 ^ (24 * zs.length) := pow_le (by decide) (by omega)
    have h6 := val_nonneg (B := 16777216) (by decide) h.rng
    have h7 : (2 : Int) ^ (24 * zs.length) * 1 ≤ 2 ^ (24 * zs.length) * r := Int.mul_le_mul_of_nonneg_left (by omega) (Int.le_of_lt (pow_pos' (by decide) _))
    have h8 := h.eq
    rw [h4] at h8
    generalize (2 : Int) ^ (24 * zs.length) = p at *
    generalize p * r = q at *
    generalize (2 : Int) ^ 2400 = t at *
    omega
theorem FbD.num {m : Int} {zs : List Int} (h : FbD m 0 zs) : NumS m.sign zs m := by
  have e : val 16777216 zs = m.natAbs := by have := h.eq; rw [Int.mul_zero, Int.add_zero] at this; exact this
  have hc : Canon 16777216 zs := ⟨h.rng, h.lst rfl⟩
  refine ⟨hc, ?_, by rw [e]; exact (Int.sign_mul_natAbs m).symm⟩
  by_cases hm : m = 0
  · left
    have h0 : val 16777216 zs = 0 := by rw [e, hm]; rfl
    exact ⟨by rw [hm]; rfl, (hc.nil_iff (by decide)).2 h0⟩
  · right
    constructor
    · rcases Int.lt_or_gt_of_ne hm with k | k
      · exact Or.inr (Int.sign_eq_neg_one_of_neg k)
      · exact Or.inl (Int.sign_eq_one_of_pos k)
    · intro k
      rw [k] at e
      simp [val] at e
      omega
/-- what the making of a whole number holds in its loop -/
structure FbH (w wr : World) (B gt gr gm : Nat) (s r : Int) (v : Value) (zs : List Int) : Prop where
  bel : Below w.heap.size w wr
  b0 : Blk wr w.heap.size 64 #[.int .i64 0, .slice none 0 0]
  bt : Blk wr gt 64 #[.int .i64 s, v]
  hr : Big wr gr r
  hm : Big wr gm 16777215
  own : O64 wr B v zs
  oB : B ≤ wr.heap.size
  o1 : w.heap.size < gt ∧ gt < B ∧ w.heap.size < gr ∧ gr < B ∧ gm < B
  o2 : gt ≠ gr ∧ gr ≠ gm ∧ gm ≠ gt
theorem FbH.below {w wr w' : World} {B gt gr gm : Nat} {s r : Int} {v : Value} {zs : List Int} (h : FbH w wr B gt gr gm s r v zs) (hb : Below wr.heap.size wr w') : FbH w w' B gt gr gm s r v zs :=
  ⟨bt3 hb h.bel, h.b0.below hb h.b0.lt, h.bt.below hb h.bt.lt, h.hr.below hb, h.hm.below hb, h.own.keep hb, Nat.le_trans h.oB hb.size, h.o1, h.o2⟩
/-- the length that a whole number's row has in memory -/
def lenAt (w : World) (g : Nat) : Nat := match w.cell? ⟨g, 1, none⟩ with | some (.slice _ n _) => n | _ => 0
def RetFb (m : Int) (w : World) (e : Ending) (w' : World) : Prop := ∃ A n c, e = .returned (.tuple #[.agg #[.int .i64 m.sign, .slice A n c], .bool true]) ∧ WhO w' w.heap.size m.sign A n c m ∧ Below w.heap.size w w'
theorem O64.blk {w : World} {B : Nat} {v : Value} {xs : List Int} (h : O64 w B v xs) {k : Nat} (hk : v.ownBlock = some k) : (∃ cs, Blk w k 2 cs) ∧ B ≤ k := by
  rcases h.2 with ⟨rfl, _⟩ | ⟨g', cap, cur, rfl, hg, hh, _⟩
  · simp [Value.ownBlock] at hk
  · have : g' = k := by simpa [Value.ownBlock] using hk
    subst this
    exact ⟨⟨_, hh⟩, hg⟩
theorem Blk.push64 {w w' : World} {B g : Nat} {t : TypeId} {cs : Array Value} {v : Value} {ys : List Int} (h : Blk w g t cs) (ht : 2 ≠ t) (ho : O64 w B v ys) (hg : w.grownBy w' v.ownBlock) : Blk w' g t cs := by
  refine h.grown hg (fun k => ?_)
  obtain ⟨⟨cs', hk⟩, _⟩ := ho.blk k.symm
  exact (hk.ne_ h ht) rfl
theorem Big.push64 {w w' : World} {B g : Nat} {a : Int} {v : Value} {ys : List Int} (h : Big w g a) (ho : O64 w B v ys) (hg : w.grownBy w' v.ownBlock) : Big w' g a := by
  obtain ⟨neg, A, n, c, xs, hb, hd⟩ := h
  refine ⟨neg, A, n, c, xs, hb.push64 (by decide) ho hg, hd.grown hg ?_⟩
  intro ad e k
  obtain ⟨cs', hk'⟩ := hd.typ ad e
  obtain ⟨⟨cs, hk⟩, _⟩ := ho.blk k.symm
  exact (hk.ne_ hk' (by decide)) rfl
/-- one number put behind a row of the call's own, as a step of a region that draws its order; only the row's block is changed -/
theorem step_push64G {ops : Array Oper} {o : Oper} {a : Act} {K : Act → World → Prop} {Q : Exit → Act → World → Prop} {E : Prop} (w : World) (hgd : o.guard = none) (s x : Operand)
    (ho : o.op = .call { callee := .builtin .append, args := #[s, x], argTypes := #[62, 62] })
    (B : Nat) (v : Value) (xs : List Int) (hs : a.eval s = v) (hown : O64 w B v xs) (g c : Nat) (y : Int) (hx : a.eval x = .slice (some ⟨g, 0, none⟩) 1 c) (hc : w.cell? ⟨g, 0, none⟩ = some (.int .i64 y))
    (hl : xs.length < LIM) (hB : B ≤ w.heap.size)
    (h : ∀ v' w', O64 w' B v' (xs ++ [y]) → w.grownBy w' v.ownBlock → K (a.put o.dst v') w') :
    if Region.wanted o (yielded ops a.tmps) = true then Oper.wp Tryz.prog o a w K Q else E := by
  obtain ⟨i0, hi0, hz0, hz1, hz2⟩ := info_parts info64
  refine step_append_any (P := Tryz.prog) w hgd s x 62 ho B 2 i0 _ 1 8 Tryz.underlying62 hi0 hz0 hz1 hz2 rfl (by omega) v xs.length (c64 xs) hs hown (w.heap.size) (some ⟨g, 0, none⟩) 1 c [.int .i64 y] hx ?_ ?_ ?_ ?_ hB ?_
  · refine ⟨rfl, fun _ => ⟨⟨g, 0, none⟩, rfl, World.block_lt_of_cell? w _ hc, ?_⟩⟩
    intro j u hj
    match j, hj with
    | 0, hj => simp at hj; subst hj; simpa [Addr.add] using hc
  · intro u hu; simp at hu; subst hu; rfl
  · unfold LIM at hl; unfold maxLen; omega
  · unfold LIM at hl; omega
  · intro v' w' h1 h2 _
    refine h v' w' ?_ h2
    unfold O64; rw [c64_append, List.length_append]; exact h1
theorem FbH.shift {w wr w' : World} {B gt gr gm : Nat} {s r r' : Int} {v : Value} {zs : List Int} (h : FbH w wr B gt gr gm s r v zs) (hg : wr.grownBy w' (some gr)) (hr : Big w' gr r') : FbH w w' B gt gr gm s r' v zs :=
  ⟨h.bel.grown hg h.bel.size (fun k hk => by cases hk; have := h.o1; omega), h.b0.grown hg (by have := h.o1; simp; omega), h.bt.grown hg (by have := h.o2; simp; omega), hr, h.hm.grown' h.hr.intB hg (by have := h.o2; omega), h.own.far hg (by have := h.o1; omega), Nat.le_trans h.oB hg.size, h.o1, h.o2⟩
theorem FbH.app {w wr w1 : World} {B gt gr gm : Nat} {s r : Int} {v v' : Value} {zs zs' : List Int} (h : FbH w wr B gt gr gm s r v zs) (ho : O64 w1 B v' zs') (hg : wr.grownBy w1 v.ownBlock) : FbH w (w1.setCell ⟨gt, 1, none⟩ v') B gt gr gm s r v' zs' :=
  have ht := h.bt.push64 (by decide) h.own hg
  ⟨(h.bel.grown hg h.bel.size (fun k hk => by have := (h.own.blk hk).2; have := h.o1; omega)).setCell (by have := h.o1; simp; omega) _, (h.b0.push64 (by decide) h.own hg).far (by have := h.o1; simp; omega) _, ht.set_ 1 _, (h.hr.push64 h.own hg).setT ht (by decide) (by decide) _ _, (h.hm.push64 h.own hg).setT ht (by decide) (by decide) _ _, ownsRow_setCell_below ho (by have := h.o1; simp; omega) _, Nat.le_trans h.oB (by simpa using hg.size), h.o1, h.o2⟩
theorem FbH.app1 {w wr w1 : World} {B gt gr gm : Nat} {s r : Int} {v : Value} {zs : List Int} (h : FbH w wr B gt gr gm s r v zs) (hg : wr.grownBy w1 v.ownBlock) : Blk w1 gt 64 #[.int .i64 s, v] := h.bt.push64 (by decide) h.own hg
theorem FbH.len {w wr : World} {B gt gr gm : Nat} {s r : Int} {v : Value} {zs : List Int} (h : FbH w wr B gt gr gm s r v zs) : lenAt wr gt = zs.length := by
  obtain ⟨A, c, rfl, _⟩ := h.own.form
  have e : wr.cell? ⟨gt, 1, none⟩ = some (.slice A zs.length c) := h.bt.cell 1
  unfold lenAt; rw [e]
theorem FbD.bd {m r : Int} {zs : List Int} (h : FbD m r zs) (hm : Bd (m.natAbs : Int)) : Bd r := by
  have h6 := val_nonneg (B := 16777216) (by decide) h.rng
  have h7 : 1 * r ≤ (16777216 : Int) ^ zs.length * r := Int.mul_le_mul_of_nonneg_right (by have := pow_pos' (B := 16777216) (by decide) zs.length; omega) h.pos
  have h8 := h.eq
  have h9 := h.pos
  generalize (16777216 : Int) ^ zs.length * r = q at *
  exact bd_le (by omega) hm
theorem m_Rsh24 (g x : Nat) (a : Int) (w : World) (hz : IntB w g) (hX : Big w x a) (ha0 : 0 ≤ a) (hbd : Bd a) :
    Calls Tryz.prog 195 #[.pointer (some ⟨g, 0, none⟩), .pointer (some ⟨x, 0, none⟩), .int .u64 24] w (RetZ g (a / 16777216) w) := by
  have h := m_RshZ g x a 24 w hz hX (by decide) ha0 hbd
  exact h
/-- the world in which the absolute value is made -/
abbrev WFb (w : World) (d : Nat) (s : Int) : World := ((((w.alloc (Obj.cells #[.int .i64 0, .slice none 0 0] 64)).drewN d).alloc (Obj.cells #[.int .i64 s, .slice none 0 0] 64)).alloc (Obj.cells #[.bool false, .slice none 0 0] 168))
theorem intb_fb (w : World) (d : Nat) (s : Int) : IntB (WFb w d s) (w.heap.size + 1 + 1) := by
  have := IntB.new (((w.alloc (Obj.cells #[.int .i64 0, .slice none 0 0] 64)).drewN d).alloc (Obj.cells #[.int .i64 s, .slice none 0 0] 64))
  simpa [WFb] using this
theorem fb_start {w w3 w4 : World} {d gm : Nat} {s r : Int} (hg : (WFb w d s).grownBy w3 (some (w.heap.size + 1 + 1))) (hr : Big w3 (w.heap.size + 1 + 1) r) (hb : Below w3.heap.size w3 w4) (hm : Big w4 gm 16777215) (hgm : w3.heap.size ≤ gm) : FbH w w4 w4.heap.size (w.heap.size + 1) (w.heap.size + 1 + 1) gm s r (.slice none 0 0) [] := by
  have h0 : Blk (WFb w d s) w.heap.size 64 #[.int .i64 0, .slice none 0 0] := (((Blk.new w _ _).drewN d).alloc _).alloc _
  have h1 : Blk (WFb w d s) (w.heap.size + 1) 64 #[.int .i64 s, .slice none 0 0] := by
    have := (Blk.new ((w.alloc (Obj.cells #[.int .i64 0, .slice none 0 0] 64)).drewN d) 64 #[.int .i64 s, .slice none 0 0]).alloc (Obj.cells #[.bool false, .slice none 0 0] 168)
    simpa [WFb] using this
  have hB : Below w.heap.size w (WFb w d s) := ba _ (ba _ (bdn (ba _ (Below.refl _ _))))
  have hz : (WFb w d s).heap.size = w.heap.size + 1 + 1 + 1 := by simp [WFb]
  have hs3 := hg.size
  have hs4 := hb.size
  have hml := hm.lt
  have k0 := h0.grown hg (by simp; omega)
  have k1 := h1.grown hg (by simp)
  exact ⟨bt3 hb (hB.grown hg hB.size (fun k hk => by cases hk; omega)), k0.below hb k0.lt, k1.below hb k1.lt, hr.below hb, hm, World.ownsRow_nil _ _ _ _, Nat.le_refl _, ⟨by omega, by omega, by omega, by omega, hml⟩, ⟨by omega, by omega, by omega⟩⟩
set_option maxRecDepth 20000 in
set_option maxHeartbeats 4000000 in
theorem i_fromBig (g : Nat) (m : Int) (w : World) (hB : Big w g m) (hl : bln m.natAbs ≤ 2400) (hbd : Bd m) : Calls Tryz.prog 205 #[.pointer (some ⟨g, 0, none⟩)] w (RetFb m w) := by
  have HB := Hd.mk hB
  have HLN : Hd (bln m.natAbs ≤ 2400 ∧ Bd (m.natAbs : Int)) := ⟨⟨hl, bd_le (by omega) hbd⟩⟩
  have hlI : ¬ ((bln m.natAbs : Int) > 2400) := by omega
  clear hB hl hbd
  go_enter Tryz.func205, Tryz.ntmps205
  go_wp2_with (first
    | (go_at_call 191; (with_reducible refine (m_BitLen g m _ (HB.out.below (by (repeat (first | exact Below.refl _ _ | assumption | refine Below.drew ?_ | refine bdn ?_ | refine ba _ ?_ | refine bs0 _ _ ?_ ?_ | refine bs1 _ _ _ ?_ ?_ | refine bs2 _ _ _ _ ?_ ?_ | refine bs3 _ _ _ _ _ ?_ ?_ | refine bt3 (by assumption) ?_))))).mono ?_); rintro e w' ⟨rfl, rfl⟩)
    | (go_at_call 188; (with_reducible refine (m_Sign g m _ (HB.out.below (by (repeat (first | exact Below.refl _ _ | assumption | refine Below.drew ?_ | refine bdn ?_ | refine ba _ ?_ | refine bs0 _ _ ?_ ?_ | refine bs1 _ _ _ ?_ ?_ | refine bs2 _ _ _ _ ?_ ?_ | refine bs3 _ _ _ _ _ ?_ ?_ | refine bt3 (by assumption) ?_))))).mono ?_); rintro e w' ⟨rfl, ⟨nd, rfl⟩⟩)
    | (go_at_call 193; (with_reducible refine (m_AbsZ _ g m _ (intb_fb w _ _) (HB.out.below (by (repeat (first | exact Below.refl _ _ | assumption | refine Below.drew ?_ | refine bdn ?_ | refine ba _ ?_ | refine bs0 _ _ ?_ ?_ | refine bs1 _ _ _ ?_ ?_ | refine bs2 _ _ _ _ ?_ ?_ | refine bs3 _ _ _ _ _ ?_ ?_ | refine bt3 (by assumption) ?_)))) HLN.out.2).mono ?_); rintro e3 w3 ⟨rfl, hB3, hg3⟩; have H3 := Hd.mk (And.intro hg3 hB3); clear hB3 hg3)
    | (go_at_call 184; (with_reducible refine (m_New 16777215 _ (by decide) (by decide)).mono ?_); rintro e4 w4 ⟨gm, rfl, hgm, hBm, hb⟩; have HF := Hd.mk (fb_start (s := m.sign) H3.out.1 H3.out.2 hb hBm hgm); clear hgm hBm hb))
  clear H3
  generalize w4.heap.size = B at HF
  go_loopw [] (fun wr => ∃ (r : Int) (v : Value) (zs : List Int), Hd (FbH w wr B (w.heap.size + 1) (w.heap.size + 1 + 1) gm m.sign r v zs) ∧ Hd (FbD m r zs) ∧ Hd (zs.length ≤ 100))
    (fun wr => 101 - lenAt wr (w.heap.size + 1))
  case atStart => exact ⟨_, _, [], HF, ⟨FbD.start m⟩, ⟨by simp⟩⟩
  case round =>
    clear HF
    obtain ⟨r, v, zs, HF, HD, HZL⟩ := hrel
    by_cases hr : 0 < r
    · have HSG := Hd.mk (fun (w' : World) (h : Big w' (w.heap.size + 1 + 1) r) => m_Sign (w.heap.size + 1 + 1) r w' h)
      rw [Int.sign_eq_one_of_pos hr] at HSG
      have HBR := Hd.mk (And.intro (HD.out.bd HLN.out.2) hr)
      have hsh := HD.out.short hr HLN.out.1
      have HLZ : Hd (zs.length < LIM) := ⟨by unfold LIM; omega⟩
      have HLE := Hd.mk HF.out.len
      have HDN := Hd.mk (HD.out.next hr)
      go_upto_region 7 with (go_at_call 188; (with_reducible refine (HSG.out _ (HF.out.hr.below (by (repeat (first | exact Below.refl _ _ | assumption | refine Below.drew ?_ | refine bdn ?_ | refine ba _ ?_ | refine bs0 _ _ ?_ ?_ | refine bs1 _ _ _ ?_ ?_ | refine bs2 _ _ _ _ ?_ ?_ | refine bs3 _ _ _ _ _ ?_ ?_ | refine bt3 (by assumption) ?_))))).mono ?_); rintro e wy ⟨rfl, hdr⟩; have HFy : Hd (FbH w wy B (w.heap.size + 1) (w.heap.size + 1 + 1) gm m.sign r v zs) := ⟨HF.out.below (by obtain ⟨nd, rfl⟩ := hdr; exact bdn (Below.refl _ _))⟩; clear hdr)
      clear HF
      have HF := HFy
      clear HFy
      have c0 : wy.cell? _ = some (.int .i64 m.sign) := HF.out.bt.cell 0; have c1 : wy.cell? _ = some v := HF.out.bt.cell 1; have f0 := HF.out.bt.frozen 0; have f1 := HF.out.bt.frozen 1
      have ne0 := World.new_ne wy ⟨w.heap.size + 1, 0, none⟩ c0
      have ca : (wy.alloc (Obj.cells #[.bool false, .slice none 0 0] 168)).cell? ⟨w.heap.size + 1, 1, none⟩ = some v := cb (ba _ (Below.refl _ _)) c1
      have ne1 : ¬ (w.heap.size + 1 = wy.heap.size) := fun k => ne0 k.symm
      go_region_law (first
        | ((with_reducible refine step_is_append (.tmp 22) (.tmp 28) rfl ?_); refine step_push64G _ rfl (.tmp 22) (.tmp 28) rfl B v zs rfl (HF.out.own.keep (by (repeat (first | exact Below.refl _ _ | assumption | refine Below.drew ?_ | refine bdn ?_ | refine ba _ ?_ | refine bs0 _ _ ?_ ?_ | refine bs1 _ _ _ ?_ ?_ | refine bs2 _ _ _ _ ?_ ?_ | refine bs3 _ _ _ _ _ ?_ ?_ | refine bt3 (by assumption) ?_)))) _ 1 (r % 16777216) rfl (by go_simp) HLZ.out (Nat.le_trans HF.out.oB (by have hz := hq.size; simp; omega)) ?_; intro v1 w1 ho1 hg1; have HA := Hd.mk (FbH.app (HF.out.below (by (repeat (first | exact Below.refl _ _ | assumption | refine Below.drew ?_ | refine bdn ?_ | refine ba _ ?_ | refine bs0 _ _ ?_ ?_ | refine bs1 _ _ _ ?_ ?_ | refine bs2 _ _ _ _ ?_ ?_ | refine bs3 _ _ _ _ _ ?_ ?_ | refine bt3 (by assumption) ?_)))) ho1 hg1); have HA1 := Hd.mk (FbH.app1 (HF.out.below (by (repeat (first | exact Below.refl _ _ | assumption | refine Below.drew ?_ | refine bdn ?_ | refine ba _ ?_ | refine bs0 _ _ ?_ ?_ | refine bs1 _ _ _ ?_ ?_ | refine bs2 _ _ _ _ ?_ ?_ | refine bs3 _ _ _ _ _ ?_ ?_ | refine bt3 (by assumption) ?_)))) hg1); have k1 : w1.cell? _ = some v := HA1.out.cell 1; have k2 := HA1.out.frozen 1; obtain ⟨A1, c9, hv1, hR1⟩ := ho1.form; rw [List.length_append, List.length_singleton] at hv1; subst hv1; clear ho1 hg1 hR1)
        | (go_simp; first | (go_at_call 255; (with_reducible refine (m_AndM _ (w.heap.size + 1 + 1) gm r _ (by first | exact IntB.new _ | exact (IntB.new _).drew) (HF.out.hr.below (by (repeat (first | exact Below.refl _ _ | assumption | refine Below.drew ?_ | refine bdn ?_ | refine ba _ ?_ | refine bs0 _ _ ?_ ?_ | refine bs1 _ _ _ ?_ ?_ | refine bs2 _ _ _ _ ?_ ?_ | refine bs3 _ _ _ _ _ ?_ ?_ | refine bt3 (by assumption) ?_)))) (HF.out.hm.below (by (repeat (first | exact Below.refl _ _ | assumption | refine Below.drew ?_ | refine bdn ?_ | refine ba _ ?_ | refine bs0 _ _ ?_ ?_ | refine bs1 _ _ _ ?_ ?_ | refine bs2 _ _ _ _ ?_ ?_ | refine bs3 _ _ _ _ _ ?_ ?_ | refine bt3 (by assumption) ?_)))) HBR.out.2 HBR.out.1).mono ?_); rintro e5 w5 ⟨rfl, hB5, hg5⟩; have hq : Below wy.heap.size wy w5 := Below.grown (by (repeat (first | exact Below.refl _ _ | assumption | refine Below.drew ?_ | refine bdn ?_ | refine ba _ ?_ | refine bs0 _ _ ?_ ?_ | refine bs1 _ _ _ ?_ ?_ | refine bs2 _ _ _ _ ?_ ?_ | refine bs3 _ _ _ _ _ ?_ ?_ | refine bt3 (by assumption) ?_))) hg5 (le_alloc _ (Nat.le_refl _)) (fun i hi => by cases hi; exact Nat.le_refl _); have HD5 := Hd.mk hB5; have c5 : w5.cell? _ = some v := cb hq c1; have c6 : (w5.alloc (Obj.cells #[.int .i64 (r % 16777216)] 2)).cell? ⟨w.heap.size + 1, 1, none⟩ = some v := cb (ba _ (Below.refl _ _)) c5; clear hB5 hg5) | (go_at_call 200; (with_reducible refine (m_Int64 _ (r % 16777216) _ (HD5.out.below (by (repeat (first | exact Below.refl _ _ | assumption | refine Below.drew ?_ | refine bdn ?_ | refine ba _ ?_ | refine bs0 _ _ ?_ ?_ | refine bs1 _ _ _ ?_ ?_ | refine bs2 _ _ _ _ ?_ ?_ | refine bs3 _ _ _ _ _ ?_ ?_ | refine bt3 (by assumption) ?_)))) (by omega) (by omega)).mono ?_); rintro e w' ⟨rfl, rfl⟩)))
      all_goals
        go_wp2_with (go_at_call 195; go_loud ((with_reducible refine (m_Rsh24 (w.heap.size + 1 + 1) (w.heap.size + 1 + 1) r _ HA.out.hr.intB HA.out.hr (Int.le_of_lt HBR.out.2) HBR.out.1).mono ?_); rintro e6 w6 ⟨rfl, hB6, hg6⟩; have HS := Hd.mk (HA.out.shift hg6 hB6); clear hB6 hg6))
        go_roundw
        case rel => exact ⟨r / 16777216, _, _, HS, HDN, ⟨by simp; omega⟩⟩
        case measure =>
          have h1 := HS.out.len
          have h2 := HLE.out
          simp at h1
          omega
    · obtain rfl : r = 0 := by have := HD.out.pos; omega
      have HSG := Hd.mk (fun (w' : World) (h : Big w' (w.heap.size + 1 + 1) 0) => m_Sign (w.heap.size + 1 + 1) 0 w' h)
      obtain ⟨A, c, rfl, hR⟩ := HF.out.own.form
      have c0 : wr.cell? _ = some (.int .i64 m.sign) := HF.out.bt.cell 0; have c1 : wr.cell? _ = some (.slice A zs.length c) := HF.out.bt.cell 1; have f0 := HF.out.bt.frozen 0; have f1 := HF.out.bt.frozen 1
      have r0 : wr.cell? _ = some (.int .i64 0) := HF.out.b0.cell 0
      have r1 : wr.cell? _ = some (.slice none 0 0) := HF.out.b0.cell 1
      have g0 := HF.out.b0.frozen 0
      have g1 := HF.out.b0.frozen 1
      have HNU := Hd.mk HD.out.num
      have HO := HF.out.o1
      go_wp2_with (go_at_call 188; (with_reducible refine (HSG.out _ (HF.out.hr.below (by (repeat (first | exact Below.refl _ _ | assumption | refine Below.drew ?_ | refine bdn ?_ | refine ba _ ?_ | refine bs0 _ _ ?_ ?_ | refine bs1 _ _ _ ?_ ?_ | refine bs2 _ _ _ _ ?_ ?_ | refine bs3 _ _ _ _ _ ?_ ?_ | refine bt3 (by assumption) ?_))))).mono ?_); rintro e w' ⟨rfl, ⟨nd, rfl⟩⟩)
      refine bodyPost_ret (v := .tuple #[.agg #[.int .i64 m.sign, .slice A zs.length c], .bool true]) (by simp (maxDischargeDepth := 7) [results, Tryz.results205, go_sem, *]) rfl ⟨A, zs.length, c, rfl, ?_, ?_⟩
      · exact ⟨zs, rfl, by have := HZL.out; omega, HNU.out, O64.mono (ownsRow_setCell_below (ownsRow_setCell_below (HF.out.own.keep (by (repeat (first | exact Below.refl _ _ | assumption | refine Below.drew ?_ | refine bdn ?_ | refine ba _ ?_ | refine bs0 _ _ ?_ ?_ | refine bs1 _ _ _ ?_ ?_ | refine bs2 _ _ _ _ ?_ ?_ | refine bs3 _ _ _ _ _ ?_ ?_ | refine bt3 (by assumption) ?_)))) (by simp; omega) _) (by simp; omega) _) (by omega)⟩
      · have hbb := HF.out.bel
        (repeat (first | exact Below.refl _ _ | assumption | refine Below.drew ?_ | refine bdn ?_ | refine ba _ ?_ | refine bs0 _ _ ?_ ?_ | refine bs1 _ _ _ ?_ ?_ | refine bs2 _ _ _ _ ?_ ?_ | refine bs3 _ _ _ _ _ ?_ ?_ | refine bt3 (by assumption) ?_))
end Go.Proofs.YtflgjecpjaiecaaGreat
/- Contracts: the program's dyadic results. -/
set_option linter.unusedVariables false
set_option linter.unusedSimpArgs false
set_option exponentiation.threshold 30000
namespace Go.Proofs.YtflgjecpjaiecaaGreat
open Go.RowKit Num
theorem dy_small {m x V : Int} {l : Nat} (h : DyF m x V l) (hs : V.natAbs < 2 ^ 22000) (hl : l ≤ 300) : bln m.natAbs ≤ 2400 ∧ -3000 ≤ x ∧ x ≤ 3000 ∧ Bd m := by
  have hsc : (SC : Nat) = 20000 := rfl
  have hlo := h.lo
  have hbm : Bd m := dv_bd (e := x) (by rw [← h.val]; exact h.bd)
  by_cases hm : m = 0
  · have hx := h.zer hm
    subst hm
    exact ⟨by decide, by omega, by omega, hbm⟩
  · have hv := h.val
    unfold dv at hv
    have h1 : V.natAbs = m.natAbs * 2 ^ (x + SC).toNat := by rw [hv, Int.natAbs_mul, Int.natAbs_pow]; rfl
    have h2 := bln_mul (x + SC).toNat (n := m.natAbs) (by omega)
    rw [← h1] at h2
    have h3 : bln V.natAbs ≤ 22000 := bln_le hs
    have h4 : 0 < bln m.natAbs := bln_pos.2 (by omega)
    exact ⟨by omega, by omega, by omega, hbm⟩
/-- what a call that hands back a dyadic number and a code leaves -/
def RetDC (V : Int) (l : Nat) (C : Int) (w : World) (e : Ending) (w' : World) : Prop := ∃ s A n c x, e = .returned (.tuple #[.agg #[.int .i64 s, .slice A n c, .int .i64 x], .int .i64 C]) ∧ DyO w' w.heap.size s A n c x V l ∧ Below w.heap.size w w'
theorem dyO_zero (w : World) (B l : Nat) (hl : l ≤ SC) : DyO w B 0 none 0 0 0 0 l :=
  ⟨0, ⟨[], rfl, by omega, ⟨Canon.nil _, .inl ⟨rfl, rfl⟩, rfl⟩, World.ownsRow_nil _ _ _ _⟩, ⟨by simp [dv], by omega, hl, by omega, fun _ => rfl, fun h => absurd rfl h, bd_zero⟩⟩
/-- what dyadic holds -/
structure DvH (w wx : World) (g : Nat) (e : Int) : Prop where
  bel : Below w.heap.size w wx
  b0 : Blk wx w.heap.size 113 #[.pointer (some ⟨g, 0, none⟩), .int .i64 e]
  b1 : Blk wx (w.heap.size + 1) 66 #[.int .i64 0, .slice none 0 0, .int .i64 0]
abbrev Dv2 (w : World) (g : Nat) (e : Int) : World := (w.alloc (Obj.cells #[.pointer (some ⟨g, 0, none⟩), .int .i64 e] 113)).alloc (Obj.cells #[.int .i64 0, .slice none 0 0, .int .i64 0] 66)
theorem DvH.start (w : World) (g : Nat) (e : Int) : DvH w (Dv2 w g e) g e := by
  refine ⟨ba _ (ba _ (Below.refl _ _)), (Blk.new _ _ _).alloc _, ?_⟩
  have := Blk.new (w.alloc (Obj.cells #[.pointer (some ⟨g, 0, none⟩), .int .i64 e] 113)) 66 #[.int .i64 0, .slice none 0 0, .int .i64 0]
  simpa [Dv2] using this
theorem DvH.below {w wx w' : World} {g : Nat} {e : Int} (h : DvH w wx g e) (hb : Below wx.heap.size wx w') : DvH w w' g e :=
  ⟨bt3 hb h.bel, h.b0.below hb h.b0.lt, h.b1.below hb h.b1.lt⟩
theorem DvH.put {w wx : World} {g g' : Nat} {e e' : Int} (h : DvH w wx g e) : DvH w ((wx.setCell ⟨w.heap.size, 0, none⟩ (.pointer (some ⟨g', 0, none⟩))).setCell ⟨w.heap.size, 1, none⟩ (.int .i64 e')) g' e' :=
  ⟨(h.bel.setCell (by simp) _).setCell (by simp) _, by have := (h.b0.set_ 0 (.pointer (some ⟨g', 0, none⟩))).set_ 1 (.int .i64 e'); exact this, (h.b1.far (by simp) _).far (by simp) _⟩
set_option maxHeartbeats 4000000 in
theorem n_Dyadic (g : Nat) (e V : Int) (l : Nat) (w : World) (hX : NuP w g e V l) (hs : V.natAbs < 2 ^ 22000) (hl : l ≤ 300) : Calls Tryz.prog 128 #[.agg #[.pointer (some ⟨g, 0, none⟩), .int .i64 e]] w (RetDC V l 0 w) := by
  have HX := Hd.mk hX
  have HSM := Hd.mk (fun m x (h : DyF m x V l) => dy_small h hs hl)
  clear hX hs hl
  go_enter Tryz.func128, Tryz.ntmps128
  go_upto_region 2 with (go_at_call 204; (with_reducible refine (n_Odd g e V l _ (HX.out.below (by (repeat (first | exact Below.refl _ _ | assumption | refine Below.drew ?_ | refine bdn ?_ | refine ba _ ?_ | refine bs0 _ _ ?_ ?_ | refine bs1 _ _ _ ?_ ?_ | refine bs2 _ _ _ _ ?_ ?_ | refine bs3 _ _ _ _ _ ?_ ?_ | refine bt3 (by assumption) ?_))))).mono ?_); rintro e1 w1 ⟨g1, x, m, rfl, hB1, hF1, hb⟩; have HH := Hd.mk ((DvH.start w g e).below hb); have HM := Hd.mk (And.intro hB1 hF1); have c0 : w1.cell? _ = some (.pointer (some ⟨g, 0, none⟩)) := HH.out.b0.cell 0; have c1 : w1.cell? _ = some (.int .i64 e) := HH.out.b0.cell 1; have f0 := HH.out.b0.frozen 0; have f1 := HH.out.b0.frozen 1; clear hB1 hF1 hb)
  have HP := Hd.mk (HH.out.put (g' := g1) (e' := x))
  have HB := Hd.mk ((HM.out.1.setT HH.out.b0 (by decide) (by decide) 0 (.pointer (some ⟨g1, 0, none⟩))).setT (HH.out.b0.set_ 0 (.pointer (some ⟨g1, 0, none⟩))) (by decide) (by decide) 1 (.int .i64 x))
  have HF := Hd.mk HM.out.2
  have HS := Hd.mk (HSM.out m x HF.out)
  clear HH HM HSM c0 c1 f0 f1
  generalize (w1.setCell ⟨w.heap.size, 0, none⟩ (.pointer (some ⟨g1, 0, none⟩))).setCell ⟨w.heap.size, 1, none⟩ (.int .i64 x) = wy at *
  have HH := HP
  have c0 : wy.cell? _ = some (.pointer (some ⟨g1, 0, none⟩)) := HH.out.b0.cell 0; have c1 : wy.cell? _ = some (.int .i64 x) := HH.out.b0.cell 1; have f0 := HH.out.b0.frozen 0; have f1 := HH.out.b0.frozen 1
  have x1 : ¬ (x < -3000) := by have := HS.out.2.1; omega
  have x2 : ¬ (x > 3000) := by have := HS.out.2.2.1; omega
  have x3 : ¬ (3000 < x) := x2
  clear HP
  go_upto_region 3 with (go_at_call 205; (with_reducible refine (i_fromBig g1 m _ (HB.out.below (by (repeat (first | exact Below.refl _ _ | assumption | refine Below.drew ?_ | refine bdn ?_ | refine ba _ ?_ | refine bs0 _ _ ?_ ?_ | refine bs1 _ _ _ ?_ ?_ | refine bs2 _ _ _ _ ?_ ?_ | refine bs3 _ _ _ _ _ ?_ ?_ | refine bt3 (by assumption) ?_)))) HS.out.1 HS.out.2.2.2).mono ?_); rintro e2 w2 ⟨A, n, c, rfl, hW, hb⟩; have HG := Hd.mk ((HH.out.below hb).below (ba (Obj.cells #[.int .i64 m.sign, .slice A n c] 64) (Below.refl _ _))); have HW := Hd.mk (hW.keep (ba (Obj.cells #[.int .i64 m.sign, .slice A n c] 64) (Below.refl _ _))); have HT := Hd.mk (Blk.new w2 64 #[.int .i64 m.sign, .slice A n c]); have HN := Hd.mk (And.intro (HH.out.below hb).b1.lt HH.out.b1.lt); clear hW hb)
  generalize w2.alloc (Obj.cells #[.int .i64 m.sign, .slice A n c] 64) = w3 at *
  have hn := HN.out
  generalize w2.heap.size = gt at *
  generalize wy.heap.size = gy at *
  have d0 : w3.cell? _ = some (.pointer (some ⟨g1, 0, none⟩)) := HG.out.b0.cell 0
  have d1 : w3.cell? _ = some (.int .i64 x) := HG.out.b0.cell 1
  have r0 : w3.cell? _ = some (.int .i64 0) := HG.out.b1.cell 0
  have r1 : w3.cell? _ = some (.slice none 0 0) := HG.out.b1.cell 1
  have r2 : w3.cell? _ = some (.int .i64 0) := HG.out.b1.cell 2
  have t0 : w3.cell? _ = some (.int .i64 m.sign) := HT.out.cell 0
  have t1 : w3.cell? _ = some (.slice A n c) := HT.out.cell 1
  have g0 := HG.out.b1.frozen 0
  have g1' := HG.out.b1.frozen 1
  have g2 := HG.out.b1.frozen 2
  go_wp2_with fail
  refine bodyPost_ret (v := .tuple #[.agg #[.int .i64 m.sign, .slice A n c, .int .i64 x], .int .i64 0]) (by simp (maxDischargeDepth := 7) [results, Tryz.results128, go_sem, *]) rfl ⟨m.sign, A, n, c, x, rfl, ⟨m, ?_, HF.out⟩, ?_⟩
  · exact (((HW.out.set _ _ (by omega) _).set _ _ (by omega) _).set _ _ (by omega) _).mono (by omega)
  · have hbb := HG.out.bel
    (repeat (first | exact Below.refl _ _ | assumption | refine Below.drew ?_ | refine bdn ?_ | refine ba _ ?_ | refine bs0 _ _ ?_ ?_ | refine bs1 _ _ _ ?_ ?_ | refine bs2 _ _ _ _ ?_ ?_ | refine bs3 _ _ _ _ _ ?_ ?_ | refine bt3 (by assumption) ?_))
end Go.Proofs.YtflgjecpjaiecaaGreat
