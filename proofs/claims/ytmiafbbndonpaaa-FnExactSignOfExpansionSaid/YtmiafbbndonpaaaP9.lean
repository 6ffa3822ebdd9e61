/- Contracts: shifts to the right, lengths, copies and products of the program's digits. -/
import Derived.Test.YtmiafbbndonpaaaP8
import Derived.Laws.Cover3
set_option linter.unusedVariables false
set_option linter.unusedSimpArgs false
namespace Go.Proofs.Ytmiafbbndonpaaa
open Go.RowKit Num
theorem add_succ' (a : Addr) (i : Nat) : a.add (i + 1) = ⟨a.block, a.off + (i + 1), none⟩ := by simp [Addr.add]
theorem getD_drop (xs : List Int) (q j : Nat) : (xs.drop q).getD j 0 = xs.getD (q + j) 0 := by
  rw [List.getD_eq_getElem?_getD, List.getD_eq_getElem?_getD, List.getElem?_drop]
theorem shr_bounds {x : Int} {r : Nat} (h0 : 0 ≤ x) : 0 ≤ x / 2 ^ r ∧ x / 2 ^ r ≤ x := ⟨Int.ediv_nonneg h0 (Int.le_of_lt (pow_pos' (by decide) _)), Int.ediv_le_self _ h0⟩
set_option maxHeartbeats 4000000 in
theorem m_Right (A : Option Addr) (n c : Nat) (v : Int) (k : Nat) (w : World) (hX : MagP w A n c v) (hl : n ≤ 1000000) (hk : k ≤ 10000000) :
    Calls Try.prog 205 #[.slice A n c, .int .u64 k] w (RetM (v / 2 ^ k) w) := by
  obtain ⟨xs, hX⟩ := hX
  have hnI : (n : Int) ≤ 1000000 := by omega
  have hkI : (k : Int) ≤ 10000000 := by omega
  have hcI : n ≤ c := hX.cap
  have HX : Hd (MagD w A n c xs v) := ⟨hX⟩
  have HG : Hd (Rng 4294967296 xs) := ⟨hX.can.1⟩
  have HE : Hd ((2 : Int) ^ k = 4294967296 ^ (k / 32) * 2 ^ (k % 32)) := ⟨by rw [p32, ← Int.pow_add, Nat.div_add_mod]⟩
  have HV : Hd (v / 2 ^ k = val 4294967296 (xs.drop (k / 32)) / 2 ^ (k % 32)) := ⟨by
    have hp : (0 : Int) < 4294967296 ^ (k / 32) := pow_pos' (by decide) _
    rw [HE.out, hX.eq, ← Int.ediv_ediv_of_nonneg (Int.le_of_lt hp), val_div_pow (by decide) hX.can.1]⟩
  clear hX hl hk
  by_cases h0 : n ≤ k / 32
  · have HV2 : Hd (v / 2 ^ k = 0) := ⟨by rw [HV.out, List.drop_eq_nil_of_le (by have := HX.out.len; omega)]; simp [val]⟩
    have h1 : (n : Int) ≤ k / 32 := by omega
    go_enter Try.func205, Try.ntmps205
    go_wp2
    go_ret
    exact ⟨_, _, _, rfl, by rw [HV2.out]; exact ⟨[], MagD.nil w⟩, Below.refl _ _⟩
  · obtain ⟨m, hm⟩ : ∃ m, n = k / 32 + m := ⟨n - k / 32, by omega⟩
    have hm0 : 0 < m := by omega
    have h1 : ¬ (n : Int) ≤ k / 32 := by omega
    have hq : k / 32 ≤ n := by omega
    have hqc : ¬ c = k / 32 := by omega
    have hnm : n - k / 32 = m := by omega
    have HL : Hd (m ≤ LIM) := ⟨by unfold LIM; omega⟩
    have HXL : Hd (xs.length = k / 32 + m) := ⟨by have := HX.out.len; omega⟩
    have HYL : Hd ((xs.drop (k / 32)).length = m) := ⟨by rw [List.length_drop, HXL.out]; omega⟩
    have HGY : Hd (Rng 4294967296 (xs.drop (k / 32))) := ⟨HG.out.drop _⟩
    obtain ⟨ad, hA, _⟩ := HX.out.reads.at_ (k := k / 32) (by rw [HXL.out]; omega)
    subst hA
    have HM : Hd (n = k / 32 + m) := ⟨hm⟩
    clear hm
    go_enter Try.func205, Try.ntmps205
    go_wp2_with ((with_reducible refine wpList_make32 _ rfl (.tmp 20) (.tmp 20) rfl (m) _ rfl rfl (by first | omega | (push_cast; omega)) HL.out ?_); intro w1 hr1 hb1; have HR1 : Hd (Row32 w1 w.heap.size (List.replicate (m) 0)) := ⟨hr1⟩; have HB1 : Hd (Below w.heap.size w w1) := ⟨hb1⟩; clear hr1 hb1)
    go_loopw [24] (fun i wr => ∃ (j : Nat) (zs : List Int), i = .int .i64 j ∧ (j : Int) ≤ m ∧ Hd (ShrR 4294967296 (xs.drop (k / 32)) (k % 32) m j zs) ∧ Hd (Row32 wr w.heap.size zs) ∧ Hd (Below w.heap.size w wr))
      (fun i _ => m - (intOf i).toNat)
    case atStart => exact ⟨0, List.replicate m 0, rfl, by omega, ⟨ShrR.start _ _ _ _⟩, HR1, HB1⟩
    case round =>
      obtain ⟨j, zs, rfl, hj, HP, HR, HB⟩ := hrel
      by_cases h1 : j < m
      · obtain ⟨ad', hA, hcx⟩ := HX.out.reads.at_ (k := k / 32 + j) (by rw [HXL.out]; omega)
        cases hA
        have hgx := HG.out.getD (by decide) (k / 32 + j)
        replace hcx := (HB.out.cell (World.block_lt_of_cell? w _ hcx)).trans hcx
        rw [← add_of_add] at hcx
        have f0 : wr.frozen? ⟨w.heap.size, j, none⟩ = false := Blk.frozen HR.out _
        have d0 := Row32.cell HR.out (i := j) (by have := HP.out.1; omega)
        generalize hex : xs.getD (k / 32 + j) 0 = x at *
        have HEx : Hd ((xs.drop (k / 32)).getD j 0 = x) := ⟨by rw [getD_drop]; exact hex⟩
        clear hex
        by_cases h2 : j + 1 < m
        · obtain ⟨ad', hA, hcy⟩ := HX.out.reads.at_ (k := k / 32 + (j + 1)) (by rw [HXL.out]; omega)
          cases hA
          have hgy := HG.out.getD (by decide) (k / 32 + (j + 1))
          replace hcy := (HB.out.cell (World.block_lt_of_cell? w _ hcy)).trans hcy
          rw [← add_of_add, add_succ'] at hcy
          generalize hey : xs.getD (k / 32 + (j + 1)) 0 = y at *
          have HEy : Hd ((xs.drop (k / 32)).getD (j + 1) 0 = y) := ⟨by rw [getD_drop]; exact hey⟩
          clear hey
          have hor := or64 hgx.1 hgx.2 hgy.1 hgy.2
          have hb1 := shr_bounds (x := x + y * 4294967296) (r := k % 32) (by omega)
          have HN := Hd.mk (ShrR.next (B := 4294967296) (p := 32) rfl HGY.out (Nat.mod_lt _ (by decide)) HP.out h1 (d := (x + y * 4294967296) / 2 ^ (k % 32) % 4294967296) (by rw [HEx.out, HEy.out, Int.mul_comm 4294967296]))
          go_wp2
          go_roundw
          case rel => exact ⟨j + 1, _, by go_num, by omega, HN, by exact ⟨by have := HR.out.set j ((x + y * 4294967296) / 2 ^ (k % 32) % 4294967296); simpa using this⟩, ⟨HB.out.setCell (Nat.le_refl _) _⟩⟩
          case measure => simp [intOf]; omega
        · have HEy : Hd ((xs.drop (k / 32)).getD (j + 1) 0 = 0) := ⟨getD_far (by rw [HYL.out]; omega)⟩
          have hb1 := shr_bounds (x := x) (r := k % 32) (by omega)
          have HN := Hd.mk (ShrR.next (B := 4294967296) (p := 32) rfl HGY.out (Nat.mod_lt _ (by decide)) HP.out h1 (d := x / 2 ^ (k % 32)) (by rw [HEx.out, HEy.out, Int.mul_zero, Int.add_zero, Int.emod_eq_of_lt hb1.1 (by omega)]))
          go_wp2
          go_roundw
          case rel => exact ⟨j + 1, _, by go_num, by omega, HN, by exact ⟨by have := HR.out.set j (x / 2 ^ (k % 32)); simpa using this⟩, ⟨HB.out.setCell (Nat.le_refl _) _⟩⟩
          case measure => simp [intOf]; omega
      · obtain rfl : j = m := by omega
        have HZ : Hd (zs.length = j ∧ Rng 4294967296 zs ∧ val 4294967296 zs = v / 2 ^ k) := ⟨by
          rw [HV.out]; exact HP.out.done (by decide) HGY.out HYL.out⟩
        have HKK := Hd.mk (m_Trim (some ⟨w.heap.size, 0, none⟩) j j zs _ HZ.out.1.symm HL.out (Nat.le_refl _) HR.out.reads HZ.out.2.1)
        go_wp2_with (go_at_call 218; (with_reducible refine (HKK.out).mono ?_); rintro e w' ⟨⟨i, rfl, hj, hj1, hj2⟩, rfl⟩; have HJ : Hd (i ≤ j ∧ Canon 4294967296 (zs.take i) ∧ val 4294967296 (zs.take i) = val 4294967296 zs) := ⟨⟨hj, hj1, hj2⟩⟩; clear hj hj1 hj2)
        go_ret
        exact ⟨_, _, _, rfl, magD_row HZ.out.1 HJ.out.1 HR.out HJ.out.2.1 (HJ.out.2.2.trans HZ.out.2.2), HB.out⟩
set_option maxHeartbeats 4000000 in
theorem m_Bits (A : Option Addr) (n c : Nat) (v : Int) (w : World) (hX : MagP w A n c v) (hl : n ≤ 1000000) :
    Calls Try.prog 202 #[.slice A n c] w fun e w' => e = .returned (.int .i64 (bln v.natAbs)) ∧ w = w' := by
  obtain ⟨xs, hX⟩ := hX
  have hnI : (n : Int) ≤ 1000000 := by omega
  have HX : Hd (MagD w A n c xs v) := ⟨hX⟩
  by_cases h0 : n = 0
  · subst h0
    have HV : Hd (bln v.natAbs = 0) := ⟨by
      have h2 : xs = [] := List.eq_nil_of_length_eq_zero hX.len.symm
      rw [hX.eq, h2]; rfl⟩
    clear hX hl
    go_enter Try.func202, Try.ntmps202
    go_wp2
    go_ret
    exact ⟨by rw [HV.out]; rfl, rfl⟩
  · obtain ⟨m, rfl⟩ : ∃ m, n = m + 1 := ⟨n - 1, by omega⟩
    have hx : xs ≠ [] := fun e => by have := hX.len; rw [e] at this; simp at this
    have hb := Canon.bln (B := 4294967296) (p := 32) (by decide) rfl hX.can hx
    have hlen : xs.length - 1 = m := by have := hX.len; omega
    rw [hlen, ← hX.eq] at hb
    have hg := hX.can.1.getD (B := 4294967296) (by decide) m
    obtain ⟨ad, hA, hcx⟩ := hX.reads.at_ (k := m) (by have := hX.len; omega)
    subst hA
    generalize xs.getD m 0 = x at *
    obtain ⟨t, rfl⟩ : ∃ t : Nat, x = t := ⟨x.toNat, by omega⟩
    rw [Int.natAbs_natCast] at hb
    have HB : Hd (bln v.natAbs = 32 * m + bln t) := ⟨hb.1⟩
    have HT : Hd ((t : Int) < 4294967296) := ⟨hg.2⟩
    replace hnI : (m : Int) ≤ 999999 := by omega
    clear hX hl hb hx hlen hg h0
    go_enter Try.func202, Try.ntmps202
    go_wp2
    go_loop [3, 4] (fun i d => ∃ j : Nat, i = .int .i64 (32 * (m : Int) + j) ∧ d = .int .u32 ((t / 2 ^ j : Nat) : Int) ∧ Hd (j = 0 ∨ 2 ^ (j - 1) ≤ t) ∧ (j : Int) ≤ 32) (fun _ d => (intOf d).toNat)
    case atStart => exact ⟨0, by go_num, by simp, ⟨Or.inl rfl⟩, by omega⟩
    case round =>
      obtain ⟨j, rfl, rfl, HJ, hj⟩ := hrel
      by_cases h1 : t / 2 ^ j = 0
      · have HE : Hd (bln v.natAbs = 32 * m + j) := ⟨by rw [HB.out, bln_half HJ.out h1]⟩
        rw [h1]
        clear h1
        go_wp2
        go_ret
        exact ⟨by rw [HE.out]; go_num, rfl⟩
      · have h2 := half_step h1
        have HS : Hd (t / 2 ^ j / 2 = t / 2 ^ (j + 1) ∧ 2 ^ j ≤ t) := ⟨h2⟩
        have hj2 : j < 32 := by
          rcases Nat.lt_or_ge j 32 with h | h
          · exact h
          · have h3 : (2 : Nat) ^ 32 ≤ 2 ^ j := Nat.pow_le_pow_right (by decide) h
            have h4 : (2 : Nat) ^ 32 = 4294967296 := by decide
            have := h2.2; have := HT.out; omega
        generalize hu : t / 2 ^ j = u at *
        have hu0 : 0 < (u : Int) := by omega
        clear h1 h2
        go_wp2
        go_round
        case rel => exact ⟨j + 1, by go_num, by have := HS.out.1; rw [← this]; go_num, ⟨Or.inr (by simpa using HS.out.2)⟩, by omega⟩
        case measure => simp [intOf]; omega
theorem oldtyp {w : World} {A : Option Addr} {n c : Nat} {xs : List Int} {v : Int} (h : MagD w A n c xs v) : R32 w A xs := h.reads
/-- a slice of the call's own, from block B on -/
def O32 (w : World) (B : Nat) (v : Value) (xs : List Int) : Prop := w.ownsRow B 172 1 v xs.length (c32 xs)
theorem O32.mag {w : World} {B : Nat} {v : Value} {xs : List Int} (h : O32 w B v xs) (hc : Canon 4294967296 xs) : ∃ A n c, v = .slice A n c ∧ MagD w A n c xs (val 4294967296 xs) := by
  have h' := h
  rcases h'.2 with ⟨rfl, h0⟩ | ⟨g, cap, cur, rfl, hg, hh, h3, h4, h5, h6⟩
  · obtain rfl : xs = [] := List.eq_nil_of_length_eq_zero h0
    exact ⟨none, 0, 0, rfl, MagD.nil w⟩
  · exact ⟨some ⟨g, 0, none⟩, xs.length, cap, rfl, rfl, h3, hc, Reads.of_own h, fun ad e => by cases e; exact ⟨_, hh⟩, rfl⟩
theorem own_empty32 (w : World) (B : Nat) (hb : B ≤ w.heap.size) : O32 (w.alloc (.cells #[] 172)) B (.slice (some ⟨w.heap.size, 0, none⟩) 0 0) [] :=
  World.ownsRow_made (size := 1) w #[] 0 hb (by decide) rfl
@[go_sem] theorem run_eql_slice_nil32 (a : Option Addr) (l c : Nat) (w : World) : (Go.binOp .eql 132 (.slice a l c) (.slice none 0 0)).run Try.prog w = .ok (.bool a.isNone) w := by
  simp only [Go.binOp]
  simp [run_equal_slice_nil w 132 172 a l c Try.underlying132]
set_option maxHeartbeats 4000000 in
theorem m_Clone (A : Option Addr) (n c : Nat) (v : Int) (w : World) (hX : MagP w A n c v) (hl : n ≤ 1000000) :
    Calls Try.prog 204 #[.slice A n c] w (RetM v w) := by
  obtain ⟨xs, hX⟩ := hX
  cases A with
  | none =>
    have h0 : n = 0 := by
      rcases Nat.eq_zero_or_pos n with h | h
      · exact h
      · obtain ⟨ad, h, _⟩ := hX.reads.2 (by rw [← hX.len]; exact h)
        cases h
    subst h0
    have HV : Hd (v = 0) := ⟨by
      have h2 : xs = [] := List.eq_nil_of_length_eq_zero hX.len.symm
      rw [hX.eq, h2]; rfl⟩
    clear hX hl
    go_enter Try.func204, Try.ntmps204
    go_wp2
    go_ret
    exact ⟨_, _, _, rfl, by rw [HV.out]; exact ⟨[], MagD.nil w⟩, Below.refl _ _⟩
  | some ad =>
    obtain ⟨i0, hi0, hz0, hz1, hz2⟩ := info_parts info32
    have HX : Hd (MagD w (some ad) n c xs v) := ⟨hX⟩
    have HR : Hd (Reads w w.heap.size 1 (some ad) n (c32 xs)) := ⟨by have := hX.reads; unfold R32 at this; rw [← hX.len] at this; exact this⟩
    have HL : Hd (n ≤ 1000000) := ⟨hl⟩
    clear hX hl
    go_enter Try.func204, Try.ntmps204
    go_wp2_with (at_builtin; refine wpList_append_any _ rfl (.tmp 5) (.tmp 6) _ rfl w.heap.size 172 i0 _ 1 4 Try.underlying132 hi0 hz0 hz1 hz2 rfl (by omega) (.slice (some ⟨w.heap.size, 0, none⟩) 0 0) 0 [] rfl (own_empty32 w w.heap.size (Nat.le_refl _)) w.heap.size (some ad) n c (c32 xs) rfl (HR.out.alloc (Nat.le_refl _) _) (c32_one xs) (by have := HL.out; simp only [maxLen]; omega) (by have := HL.out; omega) (by simp) ?_; intro v1 w1 hown1 hg1 hat1; have hbw1 : Hd (Below w.heap.size w w1) := ⟨((Below.refl _ _).alloc (Nat.le_refl _) _).grown hg1 (by simp) (by simp [Value.ownBlock])⟩; have HO : Hd (w1.ownsRow w.heap.size 172 1 v1 (0 + n) ([] ++ c32 xs)) := ⟨hown1⟩; clear hown1 hg1 hat1)
    go_ret
    have HO2 : O32 w1 w.heap.size v1 xs := by have := HO.out; rw [Nat.zero_add, List.nil_append, HX.out.len] at this; exact this
    obtain ⟨A1, n1, c1, rfl, hM⟩ := HO2.mag HX.out.can
    exact ⟨A1, n1, c1, rfl, ⟨xs, by rw [HX.out.eq]; exact hM⟩, hbw1.out⟩
end Go.Proofs.Ytmiafbbndonpaaa
