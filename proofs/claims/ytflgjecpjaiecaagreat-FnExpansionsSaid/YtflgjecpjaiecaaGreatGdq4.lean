/- Gd: P1 P2 P3 P4 P5 P6 P7 P8 P9 P10, merged. -/
import Derived.Test.YtflgjecpjaiecaaGreatGbq4
import Derived.Laws.BitsAllLaws
import Derived.Laws.Cover3
/- Contracts: digits of the program's integers. -/
set_option linter.unusedVariables false
set_option linter.unusedSimpArgs false
namespace Go.Proofs.YtflgjecpjaiecaaGreat
open Go.RowKit Num
theorem cutAt32 (xs : List Int) (k : Nat) (hk : k ≤ xs.length) (hz : ∀ j, k ≤ j → j < xs.length → xs.getD j 0 = 0) (hl : k = 0 ∨ xs.getD (k - 1) 0 ≠ 0) (h : Rng 4294967296 xs) :
    Canon 4294967296 (xs.take k) ∧ val 4294967296 (xs.take k) = val 4294967296 xs :=
  ⟨⟨h.take k, Lst.take hk hl⟩, by rw [← val_take_zeros 4294967296 xs k xs.length hk hz, List.take_of_length_le (Nat.le_refl _)]⟩
theorem R32.take {w : World} {A : Option Addr} {xs : List Int} (h : R32 w A xs) (k : Nat) : R32 w A (xs.take k) := by
  refine ⟨by simp [c32], fun hn => ?_⟩
  rw [List.length_take] at hn
  obtain ⟨ad, e, hb, hc⟩ := h.2 (by omega)
  refine ⟨ad, e, hb, fun j u hu => hc j u ?_⟩
  simp only [c32, List.getElem?_map, List.getElem?_take] at hu ⊢
  split at hu
  · exact hu
  · simp at hu
set_option maxHeartbeats 4000000 in
theorem m_Trim (A : Option Addr) (n c : Nat) (xs : List Int) (w : World) (hn : n = xs.length) (hl : n ≤ LIM) (hc : n ≤ c) (hR : R32 w A xs) (hr : Rng 4294967296 xs) :
    Calls Tryz.prog 271 #[.slice A n c] w fun e w' => (∃ k : Nat, e = .returned (.slice A k c) ∧ k ≤ n ∧ Canon 4294967296 (xs.take k) ∧ val 4294967296 (xs.take k) = val 4294967296 xs) ∧ w = w' := by
  have HR : Hd (R32 w A xs) := ⟨hR⟩
  have HN : Hd (n = xs.length ∧ Rng 4294967296 xs) := ⟨⟨hn, hr⟩⟩
  have hnI : (n : Int) ≤ 1099511627776 := by unfold LIM at hl; omega
  have hcI : (n : Int) ≤ c := by omega
  clear hn hl hR hr hc
  go_enter Tryz.func271, Tryz.ntmps271
  go_wp2
  go_loop [0] (fun v => ∃ k : Nat, (k : Int) ≤ n ∧ v = .slice A k c ∧ Hd (∀ j, k ≤ j → j < n → xs.getD j 0 = 0)) (fun v => match v with | .slice _ k _ => k | _ => 0)
  case atStart => exact ⟨n, Int.le_refl _, rfl, ⟨fun j h1 h2 => by omega⟩⟩
  case round =>
    obtain ⟨k, hk, rfl, HZ⟩ := hrel
    by_cases hp : 0 < k
    · obtain ⟨m, rfl⟩ : ∃ m, k = m + 1 := ⟨k - 1, by omega⟩
      obtain ⟨ad, rfl, hcell⟩ := HR.out.at_ (k := m) (by have := HN.out; omega)
      generalize hy : xs.getD m 0 = y at *
      have HY : Hd (xs.getD m 0 = y) := ⟨hy⟩
      clear hy
      have hk2 : m + 1 ≤ c := by omega
      by_cases hz : y = 0
      · have hd : (y == 0) = true := by simpa using hz
        have HZ0 : Hd (y = 0) := ⟨hz⟩
        clear hz
        go_wp2
        refine ⟨⟨m, by omega, rfl, ⟨fun j h1 h2 => ?_⟩⟩, Nat.lt_succ_self _⟩
        by_cases e : j = m
        · subst e; rw [HY.out, HZ0.out]
        · exact HZ.out j (by omega) h2
      · have hd : (y == 0) = false := by simpa using hz
        have HZ0 : Hd (y ≠ 0) := ⟨hz⟩
        clear hz
        have HC := Hd.mk (cutAt32 xs (m + 1) (by have := HN.out; omega) (fun j h1 h2 => HZ.out j h1 (by have := HN.out; omega)) (.inr (by simp only [Nat.add_sub_cancel]; rw [HY.out]; exact HZ0.out)) HN.out.2)
        go_wp2
        go_ret
        exact ⟨⟨m + 1, rfl, by omega, HC.out.1, HC.out.2⟩, rfl⟩
    · obtain rfl : k = 0 := by omega
      have HC := Hd.mk (cutAt32 xs 0 (by omega) (fun j h1 h2 => HZ.out j h1 (by have := HN.out; omega)) (.inl rfl) HN.out.2)
      go_wp2
      go_ret
      exact ⟨⟨0, rfl, by omega, HC.out.1, HC.out.2⟩, rfl⟩
end Go.Proofs.YtflgjecpjaiecaaGreat
/- Contracts: the program's integers in memory, their sign. -/
set_option linter.unusedVariables false
set_option linter.unusedSimpArgs false
namespace Go.Proofs.YtflgjecpjaiecaaGreat
open Go.RowKit Num
/-- the parts of an integer of the program -/
structure BigD (w : World) (neg : Bool) (A : Option Addr) (n c : Nat) (xs : List Int) (a : Int) : Prop where
  len : n = xs.length
  cap : n ≤ c
  lim : n ≤ 1000000
  can : Canon 4294967296 xs
  sgn : neg = true → xs ≠ []
  eq : a = if neg = true then -val 4294967296 xs else val 4294967296 xs
  reads : R32 w A xs
  typ : ∀ ad, A = some ad → ∃ cs, Blk w ad.block 171 cs
/-- an integer of the program in block g -/
def Big (w : World) (g : Nat) (a : Int) : Prop := ∃ neg A n c xs, Blk w g 168 #[.bool neg, .slice A n c] ∧ BigD w neg A n c xs a
theorem R32.grown {w w' : World} {A : Option Addr} {xs : List Int} {row : Option Nat} (h : R32 w A xs) (hg : w.grownBy w' row) (hr : ∀ ad, A = some ad → some ad.block ≠ row) : R32 w' A xs := by
  refine ⟨h.1, fun hn => ?_⟩
  obtain ⟨ad, e, hb, hc⟩ := h.2 hn
  refine ⟨ad, e, Nat.lt_of_lt_of_le hb hg.size, fun j u hu => ?_⟩
  rw [← hc j u hu]
  exact World.cell?_of_block (by rw [block_of_add]; exact hg.block ad.block hb (hr ad e))
theorem BigD.grown {w w' : World} {neg : Bool} {A : Option Addr} {n c : Nat} {xs : List Int} {a : Int} {row : Option Nat} (h : BigD w neg A n c xs a) (hg : w.grownBy w' row) (hr : ∀ ad, A = some ad → some ad.block ≠ row) : BigD w' neg A n c xs a :=
  ⟨h.len, h.cap, h.lim, h.can, h.sgn, h.eq, h.reads.grown hg hr, fun ad e => by obtain ⟨cs, hk⟩ := h.typ ad e; exact ⟨cs, hk.grown hg (hr ad e)⟩⟩
theorem Big.grown {w w' : World} {g g' : Nat} {a : Int} (h : Big w g a) {cs : Array Value} (hk : Blk w g' 168 cs) (hg : w.grownBy w' (some g')) (hne : g ≠ g') : Big w' g a := by
  obtain ⟨neg, A, n, c, xs, hb, hd⟩ := h
  refine ⟨neg, A, n, c, xs, hb.grown hg (by simpa using hne), hd.grown hg ?_⟩
  intro ad e
  obtain ⟨cs', hk'⟩ := hd.typ ad e
  have := Blk.ne_ hk' hk (by decide)
  simpa using this
theorem BigD.sign {w : World} {neg : Bool} {A : Option Addr} {n c : Nat} {xs : List Int} {a : Int} (h : BigD w neg A n c xs a) : a.sign = if neg = true then -1 else if 0 < n then 1 else 0 := by
  cases hn : neg
  · have e := h.eq; rw [hn] at e; simp at e
    by_cases h0 : 0 < n
    · have h1 := h.can.pos (by decide) (fun k => by have := h.len; rw [k] at this; simp at this; omega)
      rw [if_pos h0, e, Int.sign_eq_one_of_pos h1]; rfl
    · have h1 : xs = [] := List.eq_nil_of_length_eq_zero (by have := h.len; omega)
      rw [if_neg h0, e, h1]; rfl
  · have e := h.eq; rw [hn] at e; simp at e
    have h1 := h.can.pos (by decide) (h.sgn hn)
    rw [e, Int.sign_eq_neg_one_of_neg (by omega)]; rfl
set_option maxHeartbeats 4000000 in
theorem m_Sign (g : Nat) (a : Int) (w : World) (h : Big w g a) :
    Calls Tryz.prog 188 #[.pointer (some ⟨g, 0, none⟩)] w fun e w' => e = .returned (.int .i64 a.sign) ∧ ∃ d, w' = w.drewN d := by
  obtain ⟨neg, A, n, c, xs, hb, hd⟩ := h
  have hs := hd.sign
  have c0 : w.cell? ⟨g, 0, none⟩ = some (.bool neg) := hb.cell 0
  have c1 : w.cell? ⟨g, 1, none⟩ = some (.slice A n c) := hb.cell 1
  have hnI : (n : Int) ≤ 1000000 := by have := hd.lim; omega
  have HS : Hd (a.sign = if neg = true then -1 else if 0 < n then 1 else 0) := ⟨hs⟩
  rw [HS.out]
  clear hd hs hb
  cases neg
  · by_cases h0 : 0 < n
    · rw [if_pos h0]
      go_enter Tryz.func188, Tryz.ntmps188
      go_wp2
      go_ret
      exact ⟨rfl, 0, rfl⟩
    · rw [if_neg h0]
      go_enter Tryz.func188, Tryz.ntmps188
      go_wp2
      go_ret
      exact ⟨rfl, 0, rfl⟩
  · go_enter Tryz.func188, Tryz.ntmps188
    go_wp2
    go_ret
    exact ⟨rfl, 0, rfl⟩
theorem grown_set2 (w : World) (g : Nat) (u v : Value) : w.grownBy ((w.setCell ⟨g, 1, none⟩ u).setCell ⟨g, 0, none⟩ v) (some g) :=
  ⟨rfl, rfl, rfl, by simp [World.setCell], fun k hk hne => by
    have h : k ≠ g := fun e => hne (by rw [e])
    exact (Below.heap_setCell _ _ v k h).trans (Below.heap_setCell _ _ u k h)⟩
theorem big_put {w : World} {g : Nat} {v0 v1 : Value} {A : Option Addr} {n c : Nat} {xs : List Int} {a : Int} (hb : Blk w g 168 #[v0, v1]) (nb : Bool) (k : Nat)
    (hn : n = xs.length) (hl : k ≤ 1000000) (hcap : n ≤ c) (hR : R32 w A xs) (ht : ∀ ad, A = some ad → ∃ cs, Blk w ad.block 171 cs) (hk : k ≤ n) (hc : Canon 4294967296 (xs.take k)) (hs : nb = true → 0 < k)
    (ha : a = if nb = true then -val 4294967296 (xs.take k) else val 4294967296 (xs.take k)) : Big ((w.setCell ⟨g, 1, none⟩ (.slice A k c)).setCell ⟨g, 0, none⟩ (.bool nb)) g a := by
  have hg := grown_set2 w g (.slice A k c) (.bool nb)
  have hne : ∀ ad, A = some ad → some ad.block ≠ some g := fun ad e => by
    obtain ⟨cs', hk'⟩ := ht ad e
    have := Blk.ne_ hk' hb (by decide)
    simpa using this
  refine ⟨nb, A, k, c, xs.take k, ?_, ⟨by rw [List.length_take]; omega, by omega, by omega, hc, fun h e => ?_, ha, (hR.take k).grown hg hne, fun ad e => ?_⟩⟩
  · have := (hb.set_ 1 (.slice A k c)).set_ 0 (.bool nb)
    simpa using this
  · have h1 := hs h
    have h2 : (xs.take k).length = 0 := by rw [e]; rfl
    rw [List.length_take] at h2; omega
  · obtain ⟨cs', hk'⟩ := ht ad e
    exact ⟨cs', hk'.grown hg (hne ad e)⟩
theorem len32 {xs : List Int} (hc : Canon 4294967296 xs) (hb : Bd (val 4294967296 xs)) : xs.length ≤ 75001 := by
  by_cases hx : xs = []
  · subst hx; simp
  · have h1 := hc.lower (by decide) hx
    have e : TOP = 4294967296 ^ 75000 := by
      unfold TOP
      rw [p24, show (4294967296 : Int) = 2 ^ 32 from rfl, ← Int.pow_mul]
    have h2 : val 4294967296 xs < TOP := hb.2
    rw [e] at h2
    rcases Nat.lt_or_ge 75001 xs.length with h3 | h3
    · have h4 : (4294967296 : Int) ^ 75000 ≤ 4294967296 ^ (xs.length - 1) := pow_le (by decide) (by omega)
      exact absurd (Int.lt_of_le_of_lt (Int.le_trans h4 h1) h2) (Int.lt_irrefl _)
    · exact h3
theorem kLim {xs : List Int} {n k : Nat} (hn : n = xs.length) (hk : k ≤ n) (hc : Canon 4294967296 (xs.take k)) (hv : val 4294967296 (xs.take k) = val 4294967296 xs) (h : n ≤ 1000000 ∨ Bd (val 4294967296 xs)) : k ≤ 1000000 := by
  rcases h with h | h
  · omega
  · have h2 := len32 hc (by rw [hv]; exact h)
    rw [List.length_take] at h2; omega
set_option maxHeartbeats 4000000 in
theorem m_Put (g : Nat) (cs : Array Value) (b0 : Bool) (A0 : Option Addr) (n0 c0 : Nat) (neg : Bool) (A : Option Addr) (n c : Nat) (xs : List Int) (w : World) (hb : Blk w g 168 #[.bool b0, .slice A0 n0 c0])
    (hn : n = xs.length) (hl : n ≤ LIM) (hcap : n ≤ c) (hR : R32 w A xs) (hr : Rng 4294967296 xs) (ht : ∀ ad, A = some ad → ∃ cs, Blk w ad.block 171 cs) (hbd : n ≤ 1000000 ∨ Bd (val 4294967296 xs)) :
    Calls Tryz.prog 240 #[.pointer (some ⟨g, 0, none⟩), .bool neg, .slice A n c] w fun e w' => e = .returned (.pointer (some ⟨g, 0, none⟩)) ∧ Big w' g (if neg = true then -val 4294967296 xs else val 4294967296 xs) ∧ w.grownBy w' (some g) := by
  have HB : Hd (Blk w g 168 #[.bool b0, .slice A0 n0 c0]) := ⟨hb⟩
  have HR : Hd (n = xs.length ∧ n ≤ LIM ∧ n ≤ c ∧ R32 w A xs ∧ Rng 4294967296 xs ∧ (n ≤ 1000000 ∨ Bd (val 4294967296 xs)) ∧ ∀ ad, A = some ad → ∃ cs, Blk w ad.block 171 cs) := ⟨⟨hn, hl, hcap, hR, hr, hbd, ht⟩⟩
  have d0 : w.cell? ⟨g, 0, none⟩ = some (.bool b0) := hb.cell 0
  have d1 : w.cell? ⟨g, 1, none⟩ = some (.slice A0 n0 c0) := hb.cell 1
  have f0 : w.frozen? ⟨g, 0, none⟩ = false := hb.frozen 0
  have f1 : w.frozen? ⟨g, 1, none⟩ = false := hb.frozen 1
  clear hb hn hl hcap hR hr ht hbd
  go_enter Tryz.func240, Tryz.ntmps240
  go_wp2_with (go_at_call 271; (with_reducible refine (m_Trim A n c xs _ HR.out.1 HR.out.2.1 HR.out.2.2.1 HR.out.2.2.2.1 HR.out.2.2.2.2.1).mono ?_); rintro e w' ⟨⟨k, rfl, hk, hk1, hk2⟩, rfl⟩; have HK : Hd (k ≤ n ∧ Canon 4294967296 (xs.take k) ∧ val 4294967296 (xs.take k) = val 4294967296 xs) := ⟨⟨hk, hk1, hk2⟩⟩; have hkN : k ≤ 1000000 := kLim HR.out.1 hk hk1 hk2 HR.out.2.2.2.2.2.1; have hkI : (k : Int) ≤ 1000000 := (by omega); have HKL : Hd (k ≤ 1000000) := ⟨hkN⟩; clear hkN; clear hk hk1 hk2)
  · go_ret
    refine ⟨rfl, big_put HB.out (decide (0 < k)) k HR.out.1 HKL.out HR.out.2.2.1 HR.out.2.2.2.1 HR.out.2.2.2.2.2.2 HK.out.1 HK.out.2.1 (fun h => by have h1 : 0 < k := of_decide_eq_true h; omega) ?_, grown_set2 _ _ _ _⟩
    rw [← HK.out.2.2]
    by_cases h : 0 < k
    · simp [h]
    · obtain rfl : k = 0 := by omega
      simp [val]
  · go_ret
    exact ⟨rfl, big_put HB.out false k HR.out.1 HKL.out HR.out.2.2.1 HR.out.2.2.2.1 HR.out.2.2.2.2.2.2 HK.out.1 HK.out.2.1 (fun h => by simp at h) (by rw [← HK.out.2.2]; simp), grown_set2 _ _ _ _⟩
end Go.Proofs.YtflgjecpjaiecaaGreat
/- Contracts: new integers of the program. -/
set_option linter.unusedVariables false
set_option linter.unusedSimpArgs false
namespace Go.Proofs.YtflgjecpjaiecaaGreat
open Go.RowKit Num
theorem R32_new2 (w : World) (a b : Int) : R32 (w.alloc (.cells #[.int .u32 a, .int .u32 b] 171)) (some ⟨w.heap.size, 0, none⟩) [a, b] := by
  refine ⟨rfl, fun _ => ⟨_, rfl, by simp, fun j u hu => ?_⟩⟩
  have hb := Blk.new w 171 #[.int .u32 a, .int .u32 b]
  match j, hu with
  | 0, hu => simp [c32] at hu; subst hu; exact hb.cell 0
  | 1, hu => simp [c32] at hu; subst hu; exact hb.cell 1
theorem grown_alloc {w w' : World} {g : Nat} (o : Obj) (h : (w.alloc o).grownBy w' (some g)) : w.grownBy w' (some g) :=
  ⟨h.os, h.tape, h.output, Nat.le_trans (by simp) h.size, fun k hk hne => (h.block k (by simp; omega) hne).trans (Below.heap_alloc w o k hk)⟩
theorem dig2 {m : Int} (h0 : 0 ≤ m) (h1 : m < 4294967296) : Rng 4294967296 [m, m / 4294967296] ∧ val 4294967296 [m, m / 4294967296] = m := by
  have e : m / 4294967296 = 0 := by omega
  rw [e]
  exact ⟨Rng.cons h0 h1 (Rng.cons (by omega) (by omega) (Rng.nil _)), by show m + 4294967296 * (0 + 4294967296 * 0) = m; omega⟩
set_option maxHeartbeats 4000000 in
theorem m_Set (g : Nat) (b0 : Bool) (A0 : Option Addr) (n0 c0 : Nat) (n : Int) (w : World) (hb : Blk w g 168 #[.bool b0, .slice A0 n0 c0]) (h1 : -4294967296 < n) (h2 : n < 4294967296) :
    Calls Tryz.prog 239 #[.pointer (some ⟨g, 0, none⟩), .int .i64 n] w fun e w' => e = .returned (.pointer (some ⟨g, 0, none⟩)) ∧ Big w' g n ∧ w.grownBy w' (some g) := by
  have HB : Hd (Blk w g 168 #[.bool b0, .slice A0 n0 c0]) := ⟨hb⟩
  have hu : IntKind.u64.wrap n = if n < 0 then 18446744073709551616 + n else n := by rw [IntKind.wrap_u64]; split <;> omega
  clear hb
  by_cases h0 : n < 0
  · rw [if_pos h0] at hu
    have hu2 : IntKind.u64.wrap (-(18446744073709551616 + n)) = -n := by rw [IntKind.wrap_u64]; omega
    go_enter Tryz.func239, Tryz.ntmps239
    have HK := Hd.mk (m_Put g #[] b0 A0 n0 c0 true (some ⟨w.heap.size, 0, none⟩) 2 2 [-n, -n / 4294967296] _ (HB.out.alloc _) rfl (by unfold LIM; omega) (by omega) (R32_new2 w _ _) (dig2 (by omega) (by omega)).1 (fun ad e => by cases e; exact ⟨_, Blk.new _ _ _⟩) (Or.inl (by omega)))
    rw [(dig2 (m := -n) (by omega) (by omega)).2] at HK
    go_wp2_with (go_at_call 240; (with_reducible refine HK.out.mono ?_); rintro e w' ⟨rfl, hB, hg⟩; have HR : Hd (Big w' g n ∧ w.grownBy w' (some g)) := ⟨⟨by simpa using hB, grown_alloc _ hg⟩⟩; clear hB hg)
    go_ret
    exact ⟨rfl, HR.out.1, HR.out.2⟩
  · rw [if_neg h0] at hu
    have HK := Hd.mk (m_Put g #[] b0 A0 n0 c0 false (some ⟨w.heap.size, 0, none⟩) 2 2 [n, n / 4294967296] _ (HB.out.alloc _) rfl (by unfold LIM; omega) (by omega) (R32_new2 w _ _) (dig2 (by omega) (by omega)).1 (fun ad e => by cases e; exact ⟨_, Blk.new _ _ _⟩) (Or.inl (by omega)))
    rw [(dig2 (m := n) (by omega) (by omega)).2] at HK
    go_enter Tryz.func239, Tryz.ntmps239
    go_wp2_with (go_at_call 240; (with_reducible refine HK.out.mono ?_); rintro e w' ⟨rfl, hB, hg⟩; have HR : Hd (Big w' g n ∧ w.grownBy w' (some g)) := ⟨⟨by simpa using hB, grown_alloc _ hg⟩⟩; clear hB hg)
    go_ret
    exact ⟨rfl, HR.out.1, HR.out.2⟩
/-- what a call that hands back a new integer leaves -/
def RetI (a : Int) (w : World) (e : Ending) (w' : World) : Prop := ∃ g, e = .returned (.pointer (some ⟨g, 0, none⟩)) ∧ w.heap.size ≤ g ∧ Big w' g a ∧ Below w.heap.size w w'
set_option maxHeartbeats 4000000 in
theorem m_New (n : Int) (w : World) (h1 : -4294967296 < n) (h2 : n < 4294967296) :
    Calls Tryz.prog 184 #[.int .i64 n] w (RetI n w) := by
  have HK := Hd.mk (m_Set w.heap.size false none 0 0 n (w.alloc (.cells #[.bool false, .slice none 0 0] 168)) (Blk.new _ _ _) h1 h2)
  go_enter Tryz.func184, Tryz.ntmps184
  go_wp2_with (go_at_call 239; (with_reducible refine HK.out.mono ?_); rintro e w' ⟨rfl, hB, hg⟩; have HR : Hd (Big w' w.heap.size n ∧ Below w.heap.size w w') := ⟨⟨hB, ((Below.refl _ _).alloc (Nat.le_refl _) _).grown hg (by simp) (fun k e => by cases e; exact Nat.le_refl _)⟩⟩; clear hB hg)
  go_ret
  exact ⟨w.heap.size, rfl, Nat.le_refl _, HR.out.1, HR.out.2⟩
end Go.Proofs.YtflgjecpjaiecaaGreat
/- Contracts: comparison of the program's digits. -/
set_option linter.unusedVariables false
set_option linter.unusedSimpArgs false
namespace Go.Proofs.YtflgjecpjaiecaaGreat
open Go.RowKit Num
theorem cI_nan (a : Int) (w : World) : Calls Tryz.prog 283 #[.int .i64 a] w fun e w' => e = .returned (.bool false) ∧ w = w' := by
  go_enter Tryz.func283, Tryz.ntmps283
  go_wp2
  go_ret
  exact ⟨by simp, rfl⟩
theorem cI (a b : Int) (w : World) : Calls Tryz.prog 272 #[.int .i64 a, .int .i64 b] w fun e w' => e = .returned (.int .i64 (cmpI a b)) ∧ w = w' := by
  rcases Int.lt_trichotomy a b with h | h | h
  · rw [show cmpI a b = -1 from if_pos h]
    go_enter Tryz.func272, Tryz.ntmps272
    go_wp2_with (go_at_call 283; (with_reducible refine (cI_nan _ _).mono ?_); rintro e w' ⟨rfl, rfl⟩)
    go_ret
    exact ⟨rfl, rfl⟩
  · subst h
    rw [show cmpI a a = 0 by simp [cmpI]]
    go_enter Tryz.func272, Tryz.ntmps272
    go_wp2_with (go_at_call 283; (with_reducible refine (cI_nan _ _).mono ?_); rintro e w' ⟨rfl, rfl⟩)
    go_ret
    exact ⟨rfl, rfl⟩
  · rw [show cmpI a b = 1 by unfold cmpI; rw [if_neg (by omega), if_pos h]]
    have h2 : ¬ a < b := by omega
    go_enter Tryz.func272, Tryz.ntmps272
    go_wp2_with (go_at_call 283; (with_reducible refine (cI_nan _ _).mono ?_); rintro e w' ⟨rfl, rfl⟩)
    go_ret
    exact ⟨rfl, rfl⟩
theorem cU_nan (a : Int) (w : World) : Calls Tryz.prog 284 #[.int .u32 a] w fun e w' => e = .returned (.bool false) ∧ w = w' := by
  go_enter Tryz.func284, Tryz.ntmps284
  go_wp2
  go_ret
  exact ⟨by simp, rfl⟩
theorem cU (a b : Int) (w : World) : Calls Tryz.prog 273 #[.int .u32 a, .int .u32 b] w fun e w' => e = .returned (.int .i64 (cmpI a b)) ∧ w = w' := by
  rcases Int.lt_trichotomy a b with h | h | h
  · rw [show cmpI a b = -1 from if_pos h]
    go_enter Tryz.func273, Tryz.ntmps273
    go_wp2_with (go_at_call 284; (with_reducible refine (cU_nan _ _).mono ?_); rintro e w' ⟨rfl, rfl⟩)
    go_ret
    exact ⟨rfl, rfl⟩
  · subst h
    rw [show cmpI a a = 0 by simp [cmpI]]
    go_enter Tryz.func273, Tryz.ntmps273
    go_wp2_with (go_at_call 284; (with_reducible refine (cU_nan _ _).mono ?_); rintro e w' ⟨rfl, rfl⟩)
    go_ret
    exact ⟨rfl, rfl⟩
  · rw [show cmpI a b = 1 by unfold cmpI; rw [if_neg (by omega), if_pos h]]
    have h2 : ¬ a < b := by omega
    go_enter Tryz.func273, Tryz.ntmps273
    go_wp2_with (go_at_call 284; (with_reducible refine (cU_nan _ _).mono ?_); rintro e w' ⟨rfl, rfl⟩)
    go_ret
    exact ⟨rfl, rfl⟩
theorem cmp_digit32 {xs ys : List Int} {k : Nat} (hr : Rng 4294967296 xs) (hr' : Rng 4294967296 ys) (hk : k < xs.length) (hl : xs.length = ys.length) (hd : xs.drop (k + 1) = ys.drop (k + 1)) (h : xs.getD k 0 < ys.getD k 0) : val 4294967296 xs < val 4294967296 ys := by
  have e1 := val_take_drop 4294967296 xs k (by omega)
  have e2 := val_take_drop 4294967296 ys k (by omega)
  rw [val_drop 4294967296 xs k] at e1
  rw [val_drop 4294967296 ys k, ← hd] at e2
  have h1 := val_lt (by decide) (hr.take k)
  rw [List.length_take, Nat.min_eq_left (by omega)] at h1
  have h2 := val_nonneg (by decide) (hr'.take k)
  have h3 : (4294967296 : Int) ^ k * (xs.getD k 0 + 4294967296 * val 4294967296 (xs.drop (k + 1)) + 1) ≤ 4294967296 ^ k * (ys.getD k 0 + 4294967296 * val 4294967296 (xs.drop (k + 1))) :=
    Int.mul_le_mul_of_nonneg_left (by omega) (Int.le_of_lt (pow_pos' (by decide) k))
  rw [Int.mul_add _ _ 1] at h3
  omega
theorem drop_one32 {xs ys : List Int} {k : Nat} (hk : k < xs.length) (hl : xs.length = ys.length) (hd : xs.drop (k + 1) = ys.drop (k + 1)) (h : xs.getD k 0 = ys.getD k 0) : xs.drop k = ys.drop k := by
  rw [List.drop_eq_getElem_cons hk, List.drop_eq_getElem_cons (show k < ys.length by omega), hd]
  rw [List.getD_eq_getElem?_getD, List.getD_eq_getElem?_getD, List.getElem?_eq_getElem hk, List.getElem?_eq_getElem (show k < ys.length by omega)] at h
  simp at h; rw [h]
set_option maxHeartbeats 4000000 in
theorem m_Cmp (A A' : Option Addr) (n m c c' : Nat) (xs ys : List Int) (w : World) (hn : n = xs.length) (hm : m = ys.length) (h : R32 w A xs) (h' : R32 w A' ys) (hr : Canon 4294967296 xs) (hr' : Canon 4294967296 ys) (hl : n ≤ 1000000) (hl' : m ≤ 1000000) :
    Calls Tryz.prog 249 #[.slice A n c, .slice A' m c'] w fun e w' => e = .returned (.int .i64 (cmpI (val 4294967296 xs) (val 4294967296 ys))) ∧ ∃ d, w' = w.drewN d := by
  have HX : Hd (R32 w A xs) := ⟨h⟩
  have HY : Hd (R32 w A' ys) := ⟨h'⟩
  have HG : Hd (Canon 4294967296 xs ∧ Canon 4294967296 ys) := ⟨⟨hr, hr'⟩⟩
  have HN : Hd (n = xs.length ∧ m = ys.length) := ⟨⟨hn, hm⟩⟩
  have hnI : (n : Int) ≤ 1000000 := by omega
  have hmI : (m : Int) ≤ 1000000 := by omega
  clear h h' hr hr' hn hm hl hl'
  by_cases h1 : n < m
  · have HV : Hd (cmpI (val 4294967296 xs) (val 4294967296 ys) = -1) := ⟨if_pos (HG.out.1.len_lt (by decide) HG.out.2 (by have := HN.out; omega))⟩
    have hk : cmpI (n : Int) (m : Int) = -1 := if_pos (by omega)
    go_enter Tryz.func249, Tryz.ntmps249
    go_wp2_with (go_at_call 272; (with_reducible refine (cI _ _ _).mono ?_); rintro e w' ⟨rfl, rfl⟩)
    go_ret
    rw [HV.out, ← hk]; exact ⟨rfl, 0, rfl⟩
  · by_cases h2 : m < n
    · have HV : Hd (cmpI (val 4294967296 xs) (val 4294967296 ys) = 1) := ⟨by
        have := HG.out.2.len_lt (by decide) HG.out.1 (by have := HN.out; omega)
        unfold cmpI; rw [if_neg (by omega), if_pos this]⟩
      have hk : cmpI (n : Int) (m : Int) = 1 := by unfold cmpI; rw [if_neg (by omega), if_pos (by omega)]
      go_enter Tryz.func249, Tryz.ntmps249
      go_wp2_with (go_at_call 272; (with_reducible refine (cI _ _ _).mono ?_); rintro e w' ⟨rfl, rfl⟩)
      go_ret
      rw [HV.out, ← hk]; exact ⟨rfl, 0, rfl⟩
    · obtain rfl : n = m := by omega
      go_enter Tryz.func249, Tryz.ntmps249
      go_wp2
      go_loopw [5] (fun i wr => ∃ (k d : Nat), (k : Int) ≤ n ∧ i = .int .i64 ((k : Int) - 1) ∧ Hd (xs.drop k = ys.drop k) ∧ wr = w.drewN d)
        (fun i _ => (intOf i + 1).toNat)
      case atStart => exact ⟨n, 0, Int.le_refl _, by go_num, ⟨by have := HN.out; exact (List.drop_eq_nil_of_le (show xs.length ≤ n by omega)).trans (List.drop_eq_nil_of_le (show ys.length ≤ n by omega)).symm⟩, rfl⟩
      case round =>
        obtain ⟨k, d, hk, rfl, HD, rfl⟩ := hrel
        rcases Nat.eq_zero_or_pos k with h0 | h0
        · subst h0
          have HV : Hd (cmpI (val 4294967296 xs) (val 4294967296 ys) = 0) := ⟨by have := HD.out; simp at this; rw [this]; simp [cmpI]⟩
          go_wp2
          go_ret
          rw [HV.out]; exact ⟨rfl, d, rfl⟩
        · obtain ⟨j, rfl⟩ : ∃ j, k = j + 1 := ⟨k - 1, by omega⟩
          obtain ⟨ad, rfl, hcx⟩ := HX.out.at_ (k := j) (by have := HN.out; omega)
          obtain ⟨ad', rfl, hcy⟩ := HY.out.at_ (k := j) (by have := HN.out; omega)
          generalize hex : xs.getD j 0 = x at *
          have HEx : Hd (xs.getD j 0 = x) := ⟨hex⟩
          generalize hey : ys.getD j 0 = y at *
          have HEy : Hd (ys.getD j 0 = y) := ⟨hey⟩
          clear hex hey
          have hj : j < n := by omega
          have he : ((↑(j + 1) : Int) - 1) = j := by omega
          rw [he]; clear he hk h0
          by_cases hxy : x = y
          · have hd : (x == y) = true := by simpa using hxy
            have HS : Hd (xs.drop j = ys.drop j) := ⟨drop_one32 (by have := HN.out; omega) (by have := HN.out; omega) HD.out (by rw [HEx.out, HEy.out, hxy])⟩
            clear hxy
            go_wp2
            go_region
            go_wp2
            go_roundw
            case rel => exact ⟨j, _, by omega, by go_num, HS, rfl⟩
            case measure => simp [intOf]
          · have hd : (x == y) = false := by simpa using hxy
            by_cases hlt : x < y
            · have HV : Hd (cmpI (val 4294967296 xs) (val 4294967296 ys) = -1) := ⟨if_pos (cmp_digit32 HG.out.1.1 HG.out.2.1 (by have := HN.out; omega) (by have := HN.out; omega) HD.out (by rw [HEx.out, HEy.out]; exact hlt))⟩
              have HQ : Hd (cmpI x y = -1) := ⟨if_pos hlt⟩
              clear hxy
              go_wp2
              go_region
              go_wp2
              go_region_with (go_at_call 273; (with_reducible refine (cU _ _ _).mono ?_); rintro e w' ⟨rfl, rfl⟩)
              all_goals
                go_wp2
                go_ret
                rw [HV.out, ← HQ.out]; exact ⟨rfl, _, rfl⟩
            · have HV : Hd (cmpI (val 4294967296 xs) (val 4294967296 ys) = 1) := ⟨by
                have := cmp_digit32 HG.out.2.1 HG.out.1.1 (by have := HN.out; omega) (by have := HN.out; omega) HD.out.symm (by rw [HEx.out, HEy.out]; omega)
                unfold cmpI; rw [if_neg (by omega), if_pos this]⟩
              have hd2 : decide (x < y) = false := decide_eq_false hlt
              have HQ : Hd (cmpI x y = 1) := ⟨by unfold cmpI; rw [if_neg hlt, if_pos (by omega)]⟩
              clear hxy hlt
              go_wp2
              go_region
              go_wp2
              go_region_with (go_at_call 273; (with_reducible refine (cU _ _ _).mono ?_); rintro e w' ⟨rfl, rfl⟩)
              all_goals
                go_wp2
                go_ret
                rw [HV.out, ← HQ.out]; exact ⟨rfl, _, rfl⟩
end Go.Proofs.YtflgjecpjaiecaaGreat
/- Rows of digits that a function of the program lays itself and stores into. -/
set_option linter.unusedVariables false
set_option linter.unusedSimpArgs false
namespace Go.Proofs.YtflgjecpjaiecaaGreat
open Go.RowKit Num
theorem info32 : (Tryz.prog.info? 171).map (fun i => (i.zero, i.size, i.bytes)) = some (some (.int .u32 0), 1, 4) := by kernel_rfl
/-- a row of digits in block g, known whole -/
def Row32 (w : World) (g : Nat) (zs : List Int) : Prop := Blk w g 171 (c32 zs).toArray
theorem Row32.cell {w : World} {g : Nat} {zs : List Int} (h : Row32 w g zs) {i : Nat} (hi : i < zs.length) : w.cell? ⟨g, i, none⟩ = some (.int .u32 (zs.getD i 0)) := by
  rw [Blk.cell h]; simpa using c32_at zs i hi
theorem Row32.set {w : World} {g : Nat} {zs : List Int} (h : Row32 w g zs) (i : Nat) (x : Int) : Row32 (w.setCell ⟨g, i, none⟩ (.int .u32 x)) g (zs.set i x) := by
  have := Blk.set_ h i (.int .u32 x)
  unfold Row32
  have e : (c32 (zs.set i x)).toArray = (c32 zs).toArray.setIfInBounds i (.int .u32 x) := by simp [c32, List.map_set]
  rw [e]; exact this
theorem Row32.reads {w : World} {g : Nat} {zs : List Int} (h : Row32 w g zs) : R32 w (some ⟨g, 0, none⟩) zs := by
  refine ⟨by simp [c32], fun _ => ⟨_, rfl, Blk.lt h, fun j u hu => ?_⟩⟩
  have : (⟨g, 0, none⟩ : Addr).add j = ⟨g, j, none⟩ := by unfold Addr.add; split <;> simp_all
  rw [this, Blk.cell h]; simpa using hu
/-- a new row of zeros -/
theorem wpList_make32 {ops : Array Oper} {rest : List Oper} {o : Oper} {a : Act} {Q : Exit → Act → World → Prop} (w : World) (hgd : o.guard = none) (l c : Operand)
    (ho : o.op = Op.makeSlice 166 l c) (n : Nat) (L : Int) (hl : a.eval l = .int .i64 L) (hc : a.eval c = .int .i64 L) (hL : L = (n : Int)) (hn : n ≤ LIM)
    (h : ∀ w', Row32 w' w.heap.size (List.replicate n 0) → Below w.heap.size w w' → wpList Tryz.prog ops Q rest (a.put o.dst (.slice (some ⟨w.heap.size, 0, none⟩) n n)) w') : wpList Tryz.prog ops Q (o :: rest) a w := by
  obtain ⟨i0, hi0, hz0, hz1, hz2⟩ := info_parts info32
  refine wpList_make_full w hgd l c 166 ho w.heap.size 171 i0 _ 1 Tryz.underlying166 hi0 hz0 hz1 .i64 .i64 L L n hl hc hL hL ?_ ?_ (Nat.le_refl _) ?_
  · rw [hz2]; unfold LIM at hn; omega
  · unfold LIM at hn; unfold maxLen; omega
  · intro w' h1 h2
    refine h w' ?_ ((Below.refl _ _).grown h2 (Nat.le_refl _) (by simp))
    rcases h1.2 with ⟨hv, _⟩ | ⟨g, cap, cur, hv, _, hh, _, _, hsz, htk⟩
    · exact absurd hv (by intro e; injection e with e1; cases e1)
    · obtain ⟨e1, e2, e3⟩ := Value.slice.inj hv
      have e4 : w.heap.size = g := congrArg Addr.block (Option.some.inj e1)
      subst e4
      subst e3
      have e : (madeCells (Value.int .u32 0).cells (n * 1)).toList = c32 (List.replicate n 0) := by
        have : (Value.int .u32 0).cells = #[Value.int .u32 0] := rfl
        simp [madeCells, c32, this, Nat.mod_one]
        exact List.eq_replicate_iff.2 ⟨by simp, by simp⟩
      rw [e, List.take_of_length_le (by simp [hsz])] at htk
      unfold Row32 Blk
      rw [hh, ← htk]
end Go.Proofs.YtflgjecpjaiecaaGreat
/- Contracts: sums of the program's digits. -/
set_option linter.unusedVariables false
set_option linter.unusedSimpArgs false
namespace Go.Proofs.YtflgjecpjaiecaaGreat
open Go.RowKit Num
theorem take_set_succ (zs : List Int) (k : Nat) (x : Int) (h : k < zs.length) : (zs.set k x).take (k + 1) = zs.take k ++ [x] := by
  rw [List.take_succ_eq_append_getElem (by simpa using h), List.take_set_of_le (Nat.le_refl k)]; simp
theorem plus_step32 {z x y c : Int} {n : Nat} {X Y : Int} (h : z + 4294967296 ^ n * c = X + Y) : (z + 4294967296 ^ n * ((c + x + y) % 4294967296)) + 4294967296 ^ (n + 1) * ((c + x + y) / 4294967296) = (X + 4294967296 ^ n * x) + (Y + 4294967296 ^ n * y) := by
  have e := Int.mul_ediv_add_emod (c + x + y) 4294967296
  generalize (c + x + y) / 4294967296 = q at *
  generalize (c + x + y) % 4294967296 = r at *
  rw [Int.pow_succ]
  generalize (4294967296 : Int) ^ n = p at *
  have e2 := congrArg (p * ·) e
  simp only [Int.mul_add] at e2
  have e3 : p * 4294967296 * q = p * (4294967296 * q) := by rw [Int.mul_assoc]
  rw [e3]; omega
/-- what a round of a sum leaves -/
def AddR (xs ys : List Int) (N k : Nat) (c : Int) (zs : List Int) : Prop :=
  zs.length = N ∧ Rng 4294967296 (zs.take k) ∧ val 4294967296 (zs.take k) + 4294967296 ^ k * c = val 4294967296 (xs.take k) + val 4294967296 (ys.take k)
theorem AddR.next {xs ys zs : List Int} {N k : Nat} {c t c' : Int} (h : AddR xs ys N k c zs) (hk : k < N) (ht : t = (c + xs.getD k 0 + ys.getD k 0) % 4294967296) (hc : c' = (c + xs.getD k 0 + ys.getD k 0) / 4294967296) : AddR xs ys N (k + 1) c' (zs.set k t) := by
  obtain ⟨h1, h2, h3⟩ := h
  subst ht hc
  refine ⟨by simpa using h1, ?_, ?_⟩
  · rw [take_set_succ _ _ _ (by omega)]; exact h2.snoc (by omega) (by omega)
  · rw [take_set_succ _ _ _ (by omega), val_snoc, List.length_take, Nat.min_eq_left (by omega), val_take_succ, val_take_succ]
    exact plus_step32 h3
set_option maxHeartbeats 4000000 in
theorem m_Add0 (A A' : Option Addr) (n m c c' : Nat) (xs ys : List Int) (w : World) (hn : n = xs.length) (hm : m = ys.length) (h : R32 w A xs) (h' : R32 w A' ys) (hr : Rng 4294967296 xs) (hr' : Rng 4294967296 ys) (hl : n ≤ 1000000) (hl' : m ≤ n) :
    Calls Tryz.prog 248 #[.slice A n c, .slice A' m c'] w fun e w' => (∃ g k zs, e = .returned (.slice (some ⟨g, 0, none⟩) k (n + 1)) ∧ w.heap.size ≤ g ∧ zs.length = n + 1 ∧ k ≤ n + 1 ∧ Row32 w' g zs ∧ Canon 4294967296 (zs.take k) ∧ val 4294967296 (zs.take k) = val 4294967296 xs + val 4294967296 ys) ∧ Below w.heap.size w w' := by
  have HX : Hd (R32 w A xs) := ⟨h⟩
  have HY : Hd (R32 w A' ys) := ⟨h'⟩
  have HG : Hd (Rng 4294967296 xs ∧ Rng 4294967296 ys) := ⟨⟨hr, hr'⟩⟩
  have HN : Hd (n = xs.length ∧ m = ys.length ∧ m ≤ n) := ⟨⟨hn, hm, hl'⟩⟩
  have hnI : (n : Int) ≤ 1000000 := by omega
  have hmI : ¬ (n : Int) < m := by omega
  have HL : Hd (n + 1 ≤ LIM) := ⟨by unfold LIM; omega⟩
  clear h h' hr hr' hn hm hl hl'
  go_enter Tryz.func248, Tryz.ntmps248
  go_wp2_with ((with_reducible refine wpList_make32 _ rfl (.tmp 18) (.tmp 18) rfl (n + 1) _ rfl rfl (by omega) HL.out ?_); intro w1 hr1 hb1; have HR1 : Hd (Row32 w1 w.heap.size (List.replicate (n + 1) 0)) := ⟨hr1⟩; have HB1 : Hd (Below w.heap.size w w1) := ⟨hb1⟩; clear hr1 hb1)
  go_loopw [6, 22] (fun cr i wr => ∃ (k : Nat) (q : Int) (zs : List Int), i = .int .i64 k ∧ cr = .int .u64 q ∧ (k : Int) ≤ n ∧ 0 ≤ q ∧ q ≤ 1 ∧ Hd (AddR xs ys (n + 1) k q zs) ∧ Hd (Row32 wr w.heap.size zs) ∧ Hd (Below w.heap.size w wr))
    (fun _ i _ => n - (intOf i).toNat)
  case atStart => exact ⟨0, 0, List.replicate (n + 1) 0, rfl, rfl, by omega, by omega, by omega, ⟨by simp, by simp [Rng.nil], by simp [val]⟩, HR1, HB1⟩
  case round =>
    obtain ⟨k, q, zs, rfl, rfl, hk, hq0, hq1, HP, HR, HB⟩ := hrel
    by_cases h1 : k < n
    · obtain ⟨ad, hA, hcx⟩ := HX.out.at_ (k := k) (by have := HN.out; omega)
      subst hA
      have hgx := HG.out.1.getD (by decide) k
      replace hcx := (HB.out.cell (World.block_lt_of_cell? w _ hcx)).trans hcx
      have f0 : wr.frozen? ⟨w.heap.size, k, none⟩ = false := Blk.frozen HR.out k
      have d0 := Row32.cell HR.out (i := k) (by have := HP.out.1; omega)
      generalize hex : xs.getD k 0 = x at *
      have HEx : Hd (xs.getD k 0 = x) := ⟨hex⟩
      clear hex
      by_cases h2 : k < m
      · obtain ⟨ad2, hA, hcy⟩ := HY.out.at_ (k := k) (by have := HN.out; omega)
        subst hA
        have hgy := HG.out.2.getD (by decide) k
        replace hcy := (HB.out.cell (World.block_lt_of_cell? w _ hcy)).trans hcy
        generalize hey : ys.getD k 0 = y at *
        have HEy : Hd (ys.getD k 0 = y) := ⟨hey⟩
        clear hey
        go_wp2
        go_roundw
        case rel => exact ⟨k + 1, (q + x + y) / 4294967296, zs.set k ((q + x + y) % 4294967296), by go_num, by go_num, by omega, by omega, by omega, ⟨HP.out.next (by omega) (by rw [HEx.out, HEy.out]) (by rw [HEx.out, HEy.out])⟩, ⟨by have := HR.out.set k ((q + x + y) % 4294967296); simpa using this⟩, ⟨HB.out.setCell (Nat.le_refl _) _⟩⟩
        case measure => simp [intOf]; omega
      · have HEy : Hd (ys.getD k 0 = 0) := ⟨getD_far (by have := HN.out; omega)⟩
        go_wp2
        go_roundw
        case rel => exact ⟨k + 1, (q + x + 0) / 4294967296, zs.set k ((q + x + 0) % 4294967296), by go_num, by go_num, by omega, by omega, by omega, ⟨HP.out.next (by omega) (by rw [HEx.out, HEy.out]) (by rw [HEx.out, HEy.out])⟩, ⟨by have := HR.out.set k ((q + x + 0) % 4294967296); simpa using this⟩, ⟨HB.out.setCell (Nat.le_refl _) _⟩⟩
        case measure => simp [intOf]; omega
    · obtain rfl : k = n := by omega
      have f0 : wr.frozen? ⟨w.heap.size, k, none⟩ = false := Blk.frozen HR.out k
      have d0 := Row32.cell HR.out (i := k) (by have := HP.out.1; omega)
      have HZ : Hd ((zs.set k q).length = k + 1 ∧ Rng 4294967296 (zs.set k q) ∧ val 4294967296 (zs.set k q) = val 4294967296 xs + val 4294967296 ys) := ⟨by
        obtain ⟨e1, e2, e3⟩ := HP.out
        have hN := HN.out
        have e4 : zs.set k q = zs.take k ++ [q] := by
          rw [← take_set_succ zs k q (by omega), List.take_of_length_le (by simp; omega)]
        rw [List.take_of_length_le (show xs.length ≤ k by omega), List.take_of_length_le (show ys.length ≤ k by omega)] at e3
        refine ⟨by simpa using e1, by rw [e4]; exact e2.snoc hq0 (by omega), ?_⟩
        rw [e4, val_snoc, List.length_take, Nat.min_eq_left (by omega)]; exact e3⟩
      have HR2 : Hd (Row32 (wr.setCell ⟨w.heap.size, k, none⟩ (.int .u32 q)) w.heap.size (zs.set k q)) := ⟨HR.out.set k q⟩
      have HB2 : Hd (Below w.heap.size w (wr.setCell ⟨w.heap.size, k, none⟩ (.int .u32 q))) := ⟨HB.out.setCell (Nat.le_refl _) _⟩
      have HK := Hd.mk (m_Trim (some ⟨w.heap.size, 0, none⟩) (k + 1) (k + 1) (zs.set k q) _ HZ.out.1.symm HL.out (Nat.le_refl _) HR2.out.reads HZ.out.2.1)
      go_wp2_with (go_at_call 271; (with_reducible refine HK.out.mono ?_); rintro e w' ⟨⟨j, rfl, hj, hj1, hj2⟩, rfl⟩; have HJ : Hd (j ≤ k + 1 ∧ Canon 4294967296 ((zs.set k q).take j) ∧ val 4294967296 ((zs.set k q).take j) = val 4294967296 (zs.set k q)) := ⟨⟨hj, hj1, hj2⟩⟩; clear hj hj1 hj2)
      go_ret
      exact ⟨⟨w.heap.size, j, zs.set k q, rfl, Nat.le_refl _, HZ.out.1, HJ.out.1, HR2.out, HJ.out.2.1, HJ.out.2.2.trans HZ.out.2.2⟩, HB2.out⟩
end Go.Proofs.YtflgjecpjaiecaaGreat
/- Contracts: sums and differences of the program's digits. -/
set_option linter.unusedVariables false
set_option linter.unusedSimpArgs false
namespace Go.Proofs.YtflgjecpjaiecaaGreat
open Go.RowKit Num
set_option maxHeartbeats 4000000 in
theorem m_Add1 (A A' : Option Addr) (n m c c' : Nat) (xs ys : List Int) (w : World) (hn : n = xs.length) (hm : m = ys.length) (h : R32 w A xs) (h' : R32 w A' ys) (hr : Rng 4294967296 xs) (hr' : Rng 4294967296 ys) (hl : n ≤ 1000000) (hl' : m < n) :
    Calls Tryz.prog 248 #[.slice A' m c', .slice A n c] w fun e w' => (∃ g k zs, e = .returned (.slice (some ⟨g, 0, none⟩) k (n + 1)) ∧ w.heap.size ≤ g ∧ zs.length = n + 1 ∧ k ≤ n + 1 ∧ Row32 w' g zs ∧ Canon 4294967296 (zs.take k) ∧ val 4294967296 (zs.take k) = val 4294967296 xs + val 4294967296 ys) ∧ Below w.heap.size w w' := by
  have HX : Hd (R32 w A xs) := ⟨h⟩
  have HY : Hd (R32 w A' ys) := ⟨h'⟩
  have HG : Hd (Rng 4294967296 xs ∧ Rng 4294967296 ys) := ⟨⟨hr, hr'⟩⟩
  have HN : Hd (n = xs.length ∧ m = ys.length ∧ m ≤ n) := ⟨⟨hn, hm, Nat.le_of_lt hl'⟩⟩
  have hnI : (n : Int) ≤ 1000000 := by omega
  have hmI : (m : Int) < n := by omega
  have HL : Hd (n + 1 ≤ LIM) := ⟨by unfold LIM; omega⟩
  clear h h' hr hr' hn hm hl hl'
  go_enter Tryz.func248, Tryz.ntmps248
  go_wp2_with ((with_reducible refine wpList_make32 _ rfl (.tmp 18) (.tmp 18) rfl (n + 1) _ rfl rfl (by omega) HL.out ?_); intro w1 hr1 hb1; have HR1 : Hd (Row32 w1 w.heap.size (List.replicate (n + 1) 0)) := ⟨hr1⟩; have HB1 : Hd (Below w.heap.size w w1) := ⟨hb1⟩; clear hr1 hb1)
  go_loopw [6, 22] (fun cr i wr => ∃ (k : Nat) (q : Int) (zs : List Int), i = .int .i64 k ∧ cr = .int .u64 q ∧ (k : Int) ≤ n ∧ 0 ≤ q ∧ q ≤ 1 ∧ Hd (AddR xs ys (n + 1) k q zs) ∧ Hd (Row32 wr w.heap.size zs) ∧ Hd (Below w.heap.size w wr))
    (fun _ i _ => n - (intOf i).toNat)
  case atStart => exact ⟨0, 0, List.replicate (n + 1) 0, rfl, rfl, by omega, by omega, by omega, ⟨by simp, by simp [Rng.nil], by simp [val]⟩, HR1, HB1⟩
  case round =>
    obtain ⟨k, q, zs, rfl, rfl, hk, hq0, hq1, HP, HR, HB⟩ := hrel
    by_cases h1 : k < n
    · obtain ⟨ad, hA, hcx⟩ := HX.out.at_ (k := k) (by have := HN.out; omega)
      subst hA
      have hgx := HG.out.1.getD (by decide) k
      replace hcx := (HB.out.cell (World.block_lt_of_cell? w _ hcx)).trans hcx
      have f0 : wr.frozen? ⟨w.heap.size, k, none⟩ = false := Blk.frozen HR.out k
      have d0 := Row32.cell HR.out (i := k) (by have := HP.out.1; omega)
      generalize hex : xs.getD k 0 = x at *
      have HEx : Hd (xs.getD k 0 = x) := ⟨hex⟩
      clear hex
      by_cases h2 : k < m
      · obtain ⟨ad2, hA, hcy⟩ := HY.out.at_ (k := k) (by have := HN.out; omega)
        subst hA
        have hgy := HG.out.2.getD (by decide) k
        replace hcy := (HB.out.cell (World.block_lt_of_cell? w _ hcy)).trans hcy
        generalize hey : ys.getD k 0 = y at *
        have HEy : Hd (ys.getD k 0 = y) := ⟨hey⟩
        clear hey
        go_wp2
        go_roundw
        case rel => exact ⟨k + 1, (q + x + y) / 4294967296, zs.set k ((q + x + y) % 4294967296), by go_num, by go_num, by omega, by omega, by omega, ⟨HP.out.next (by omega) (by rw [HEx.out, HEy.out]) (by rw [HEx.out, HEy.out])⟩, ⟨by have := HR.out.set k ((q + x + y) % 4294967296); simpa using this⟩, ⟨HB.out.setCell (Nat.le_refl _) _⟩⟩
        case measure => simp [intOf]; omega
      · have HEy : Hd (ys.getD k 0 = 0) := ⟨getD_far (by have := HN.out; omega)⟩
        go_wp2
        go_roundw
        case rel => exact ⟨k + 1, (q + x + 0) / 4294967296, zs.set k ((q + x + 0) % 4294967296), by go_num, by go_num, by omega, by omega, by omega, ⟨HP.out.next (by omega) (by rw [HEx.out, HEy.out]) (by rw [HEx.out, HEy.out])⟩, ⟨by have := HR.out.set k ((q + x + 0) % 4294967296); simpa using this⟩, ⟨HB.out.setCell (Nat.le_refl _) _⟩⟩
        case measure => simp [intOf]; omega
    · obtain rfl : k = n := by omega
      have f0 : wr.frozen? ⟨w.heap.size, k, none⟩ = false := Blk.frozen HR.out k
      have d0 := Row32.cell HR.out (i := k) (by have := HP.out.1; omega)
      have HZ : Hd ((zs.set k q).length = k + 1 ∧ Rng 4294967296 (zs.set k q) ∧ val 4294967296 (zs.set k q) = val 4294967296 xs + val 4294967296 ys) := ⟨by
        obtain ⟨e1, e2, e3⟩ := HP.out
        have hN := HN.out
        have e4 : zs.set k q = zs.take k ++ [q] := by
          rw [← take_set_succ zs k q (by omega), List.take_of_length_le (by simp; omega)]
        rw [List.take_of_length_le (show xs.length ≤ k by omega), List.take_of_length_le (show ys.length ≤ k by omega)] at e3
        refine ⟨by simpa using e1, by rw [e4]; exact e2.snoc hq0 (by omega), ?_⟩
        rw [e4, val_snoc, List.length_take, Nat.min_eq_left (by omega)]; exact e3⟩
      have HR2 : Hd (Row32 (wr.setCell ⟨w.heap.size, k, none⟩ (.int .u32 q)) w.heap.size (zs.set k q)) := ⟨HR.out.set k q⟩
      have HB2 : Hd (Below w.heap.size w (wr.setCell ⟨w.heap.size, k, none⟩ (.int .u32 q))) := ⟨HB.out.setCell (Nat.le_refl _) _⟩
      have HK := Hd.mk (m_Trim (some ⟨w.heap.size, 0, none⟩) (k + 1) (k + 1) (zs.set k q) _ HZ.out.1.symm HL.out (Nat.le_refl _) HR2.out.reads HZ.out.2.1)
      go_wp2_with (go_at_call 271; (with_reducible refine HK.out.mono ?_); rintro e w' ⟨⟨j, rfl, hj, hj1, hj2⟩, rfl⟩; have HJ : Hd (j ≤ k + 1 ∧ Canon 4294967296 ((zs.set k q).take j) ∧ val 4294967296 ((zs.set k q).take j) = val 4294967296 (zs.set k q)) := ⟨⟨hj, hj1, hj2⟩⟩; clear hj hj1 hj2)
      go_ret
      exact ⟨⟨w.heap.size, j, zs.set k q, rfl, Nat.le_refl _, HZ.out.1, HJ.out.1, HR2.out, HJ.out.2.1, HJ.out.2.2.trans HZ.out.2.2⟩, HB2.out⟩
/-- digits of the program in memory, with their number -/
structure MagD (w : World) (A : Option Addr) (n c : Nat) (xs : List Int) (v : Int) : Prop where
  len : n = xs.length
  cap : n ≤ c
  can : Canon 4294967296 xs
  reads : R32 w A xs
  typ : ∀ ad, A = some ad → ∃ cs, Blk w ad.block 171 cs
  eq : v = val 4294967296 xs
def MagP (w : World) (A : Option Addr) (n c : Nat) (v : Int) : Prop := ∃ xs, MagD w A n c xs v
theorem MagD.below {w w' : World} {A : Option Addr} {n c : Nat} {xs : List Int} {v : Int} (h : MagD w A n c xs v) (hb : Below w.heap.size w w') : MagD w' A n c xs v :=
  ⟨h.len, h.cap, h.can, h.reads.below hb, fun ad e => by obtain ⟨cs, hk⟩ := h.typ ad e; exact ⟨cs, hk.below hb hk.lt⟩, h.eq⟩
theorem MagP.below {w w' : World} {A : Option Addr} {n c : Nat} {v : Int} (h : MagP w A n c v) (hb : Below w.heap.size w w') : MagP w' A n c v := by
  obtain ⟨xs, h⟩ := h; exact ⟨xs, h.below hb⟩
/-- what a call that hands back digits leaves -/
def RetM (v : Int) (w : World) (e : Ending) (w' : World) : Prop := ∃ A n c, e = .returned (.slice A n c) ∧ MagP w' A n c v ∧ Below w.heap.size w w'
theorem MagD.nil (w : World) : MagD w none 0 0 [] 0 := ⟨rfl, Nat.le_refl _, Canon.nil _, Reads.none_, fun _ h => (by cases h), rfl⟩
theorem magD_row {w : World} {g k N : Nat} {zs : List Int} {v : Int} (hl : zs.length = N) (hk : k ≤ N) (hr : Row32 w g zs) (hc : Canon 4294967296 (zs.take k)) (hv : val 4294967296 (zs.take k) = v) : MagP w (some ⟨g, 0, none⟩) k N v :=
  ⟨zs.take k, by rw [List.length_take]; omega, hk, hc, hr.reads.take k, fun ad e => by cases e; exact ⟨_, hr⟩, hv.symm⟩
theorem BigD.mag {w : World} {neg : Bool} {A : Option Addr} {n c : Nat} {xs : List Int} {a : Int} (h : BigD w neg A n c xs a) : MagD w A n c xs (a.natAbs : Int) := by
  refine ⟨h.len, h.cap, h.can, h.reads, h.typ, ?_⟩
  have h0 := val_nonneg (B := 4294967296) (by decide) h.can.1
  have h1 := h.eq
  split at h1 <;> omega
theorem m_Add (A A' : Option Addr) (n m c c' : Nat) (v u : Int) (w : World) (hX : MagP w A n c v) (hY : MagP w A' m c' u) (hl : n ≤ 1000000) (hl' : m ≤ 1000000) :
    Calls Tryz.prog 248 #[.slice A n c, .slice A' m c'] w (RetM (v + u) w) := by
  obtain ⟨xs, hX⟩ := hX
  obtain ⟨ys, hY⟩ := hY
  by_cases h : m ≤ n
  · refine (m_Add0 A A' n m c c' xs ys w hX.len hY.len hX.reads hY.reads hX.can.1 hY.can.1 hl h).mono ?_
    rintro e w' ⟨⟨g, k, zs, rfl, _, h2, h3, h4, h5, h6⟩, hb⟩
    exact ⟨_, _, _, rfl, magD_row h2 h3 h4 h5 (by rw [h6, hX.eq, hY.eq]), hb⟩
  · refine (m_Add1 A' A m n c' c ys xs w hY.len hX.len hY.reads hX.reads hY.can.1 hX.can.1 hl' (by omega)).mono ?_
    rintro e w' ⟨⟨g, k, zs, rfl, _, h2, h3, h4, h5, h6⟩, hb⟩
    exact ⟨_, _, _, rfl, magD_row h2 h3 h4 h5 (by rw [h6, hX.eq, hY.eq, Int.add_comm]), hb⟩
set_option maxHeartbeats 4000000 in
theorem m_Sub (A A' : Option Addr) (n m c c' : Nat) (v u : Int) (w : World) (hX : MagP w A n c v) (hY : MagP w A' m c' u) (hl : n ≤ 1000000) (hle : u ≤ v) :
    Calls Tryz.prog 247 #[.slice A n c, .slice A' m c'] w (RetM (v - u) w) := by
  obtain ⟨xs, hX⟩ := hX
  obtain ⟨ys, hY⟩ := hY
  have hmn : m ≤ n := by
    rcases Nat.lt_or_ge n m with h | h
    · have := hX.can.len_lt (by decide) hY.can (by have := hX.len; have := hY.len; omega)
      rw [← hX.eq, ← hY.eq] at this; omega
    · exact h
  have HX : Hd (R32 w A xs) := ⟨hX.reads⟩
  have HY : Hd (R32 w A' ys) := ⟨hY.reads⟩
  have HG : Hd (Rng 4294967296 xs ∧ Rng 4294967296 ys) := ⟨⟨hX.can.1, hY.can.1⟩⟩
  have HN : Hd (n = xs.length ∧ m = ys.length ∧ m ≤ n) := ⟨⟨hX.len, hY.len, hmn⟩⟩
  have HV : Hd (v = val 4294967296 xs ∧ u = val 4294967296 ys ∧ u ≤ v) := ⟨⟨hX.eq, hY.eq, hle⟩⟩
  have hnI : (n : Int) ≤ 1000000 := by omega
  have hmI : (m : Int) ≤ n := by omega
  have HL : Hd (n ≤ LIM) := ⟨by unfold LIM; omega⟩
  clear hX hY hl hle hmn
  go_enter Tryz.func247, Tryz.ntmps247
  go_wp2_with ((with_reducible refine wpList_make32 _ rfl (.tmp 12) (.tmp 12) rfl (n) _ rfl rfl (by omega) HL.out ?_); intro w1 hr1 hb1; have HR1 : Hd (Row32 w1 w.heap.size (List.replicate (n) 0)) := ⟨hr1⟩; have HB1 : Hd (Below w.heap.size w w1) := ⟨hb1⟩; clear hr1 hb1)
  go_loopw [6, 16] (fun cr i wr => ∃ (k : Nat) (q : Int) (zs : List Int), i = .int .i64 k ∧ cr = .int .u64 q ∧ (k : Int) ≤ n ∧ 0 ≤ q ∧ q ≤ 1 ∧ Hd (SubR 4294967296 xs ys n k q zs) ∧ Hd (Row32 wr w.heap.size zs) ∧ Hd (Below w.heap.size w wr))
    (fun _ i _ => n - (intOf i).toNat)
  case atStart => exact ⟨0, 0, List.replicate n 0, rfl, rfl, by omega, by omega, by omega, ⟨SubR.start _ _ _ _⟩, HR1, HB1⟩
  case round =>
    obtain ⟨k, q, zs, rfl, rfl, hk, hq0, hq1, HP, HR, HB⟩ := hrel
    by_cases h1 : k < n
    · obtain ⟨ad, hA, hcx⟩ := HX.out.at_ (k := k) (by have := HN.out; omega)
      subst hA
      have hgx := HG.out.1.getD (by decide) k
      replace hcx := (HB.out.cell (World.block_lt_of_cell? w _ hcx)).trans hcx
      have f0 : wr.frozen? ⟨w.heap.size, k, none⟩ = false := Blk.frozen HR.out k
      have d0 := Row32.cell HR.out (i := k) (by have := HP.out.1; omega)
      generalize hex : xs.getD k 0 = x at *
      have HEx : Hd (xs.getD k 0 = x) := ⟨hex⟩
      clear hex
      by_cases h2 : k < m
      · obtain ⟨ad2, hA, hcy⟩ := HY.out.at_ (k := k) (by have := HN.out; omega)
        subst hA
        have hgy := HG.out.2.getD (by decide) k
        replace hcy := (HB.out.cell (World.block_lt_of_cell? w _ hcy)).trans hcy
        generalize hey : ys.getD k 0 = y at *
        have HEy : Hd (ys.getD k 0 = y) := ⟨hey⟩
        clear hey
        by_cases hlt : x < q + y
        · have hw : IntKind.u64.wrap (x - (q + y)) = x - (q + y) + 18446744073709551616 := by rw [IntKind.wrap_u64]; omega
          go_wp2
          go_roundw
          case rel => exact ⟨k + 1, 1, zs.set k ((x - (q + y) + 18446744073709551616) % 4294967296), by go_num, by go_num, by omega, by omega, by omega, ⟨HP.out.next (by omega) (by omega) (by omega) (by rw [HEx.out, HEy.out]; omega)⟩, ⟨by have := HR.out.set k ((x - (q + y) + 18446744073709551616) % 4294967296); simpa using this⟩, ⟨HB.out.setCell (Nat.le_refl _) _⟩⟩
          case measure => simp [intOf]; omega
        · go_wp2
          go_roundw
          case rel => exact ⟨k + 1, 0, zs.set k (x - (q + y)), by go_num, by go_num, by omega, by omega, by omega, ⟨HP.out.next (by omega) (by omega) (by omega) (by rw [HEx.out, HEy.out]; omega)⟩, ⟨by have := HR.out.set k (x - (q + y)); simpa using this⟩, ⟨HB.out.setCell (Nat.le_refl _) _⟩⟩
          case measure => simp [intOf]; omega
      · have HEy : Hd (ys.getD k 0 = 0) := ⟨getD_far (by have := HN.out; omega)⟩
        by_cases hlt : x < q
        · have hw : IntKind.u64.wrap (x - q) = x - q + 18446744073709551616 := by rw [IntKind.wrap_u64]; omega
          go_wp2
          go_roundw
          case rel => exact ⟨k + 1, 1, zs.set k ((x - q + 18446744073709551616) % 4294967296), by go_num, by go_num, by omega, by omega, by omega, ⟨HP.out.next (by omega) (by omega) (by omega) (by rw [HEx.out, HEy.out]; omega)⟩, ⟨by have := HR.out.set k ((x - q + 18446744073709551616) % 4294967296); simpa using this⟩, ⟨HB.out.setCell (Nat.le_refl _) _⟩⟩
          case measure => simp [intOf]; omega
        · go_wp2
          go_roundw
          case rel => exact ⟨k + 1, 0, zs.set k (x - q), by go_num, by go_num, by omega, by omega, by omega, ⟨HP.out.next (by omega) (by omega) (by omega) (by rw [HEx.out, HEy.out]; omega)⟩, ⟨by have := HR.out.set k (x - q); simpa using this⟩, ⟨HB.out.setCell (Nat.le_refl _) _⟩⟩
          case measure => simp [intOf]; omega
    · obtain rfl : k = n := by omega
      have HZ : Hd (zs.length = k ∧ Rng 4294967296 zs ∧ val 4294967296 zs = v - u) := ⟨by
        have := HP.out.done (by decide) HN.out.1.symm (by have := HN.out; omega) (by rw [← HV.out.1, ← HV.out.2.1]; exact HV.out.2.2) (by omega)
        rw [HV.out.1, HV.out.2.1]; exact this⟩
      have HK := Hd.mk (m_Trim (some ⟨w.heap.size, 0, none⟩) k k zs _ HZ.out.1.symm HL.out (Nat.le_refl _) HR.out.reads HZ.out.2.1)
      go_wp2_with (go_at_call 271; (with_reducible refine (HK.out).mono ?_); rintro e w' ⟨⟨j, rfl, hj, hj1, hj2⟩, rfl⟩; have HJ : Hd (j ≤ k ∧ Canon 4294967296 (zs.take j) ∧ val 4294967296 (zs.take j) = val 4294967296 zs) := ⟨⟨hj, hj1, hj2⟩⟩; clear hj hj1 hj2)
      go_ret
      exact ⟨_, _, _, rfl, magD_row HZ.out.1 HJ.out.1 HR.out HJ.out.2.1 (HJ.out.2.2.trans HZ.out.2.2), HB.out⟩
end Go.Proofs.YtflgjecpjaiecaaGreat
/- Contracts: shifts, lengths, copies and products of the program's digits. -/
set_option linter.unusedVariables false
set_option linter.unusedSimpArgs false
namespace Go.Proofs.YtflgjecpjaiecaaGreat
open Go.RowKit Num
theorem p32 (q : Nat) : (4294967296 : Int) ^ q = 2 ^ (32 * q) := by
  rw [Int.pow_mul]; rfl
theorem or32 {z x W : Int} {r : Nat} (hz0 : 0 ≤ z) (hz1 : z < 2 ^ r) (hr : r < 32) (hW : W = x * 2 ^ r) (hx0 : 0 ≤ x) (hx1 : x < 4294967296) :
    bits .or .u32 z (W % 4294967296) = z + W % 4294967296 ∧ z + W % 4294967296 < 4294967296 ∧ 0 ≤ W ∧ W < 18446744073709551616 ∧ 0 ≤ W / 4294967296 ∧ W / 4294967296 < 2 ^ r ∧ W / 4294967296 < 4294967296 := by
  have hp := pow_pos' (B := 2) (by decide) r
  have e : (4294967296 : Int) = 2 ^ (32 - r) * 2 ^ r := by rw [← Int.pow_add, show 32 - r + r = 32 by omega]; rfl
  have e1 : W % 4294967296 = x % 2 ^ (32 - r) * 2 ^ r := by
    rw [hW]; conv => lhs; rw [e]
    rw [Int.mul_comm x, Int.mul_comm (2 ^ (32 - r)), Int.mul_emod_mul_of_pos _ _ hp, Int.mul_comm]
  have hq := pow_pos' (B := 2) (by decide) (32 - r)
  have h1 := Int.emod_nonneg x (show (2 : Int) ^ (32 - r) ≠ 0 by omega)
  have h2 := Int.emod_lt_of_pos x hq
  have h3 : x % 2 ^ (32 - r) * 2 ^ r ≤ (2 ^ (32 - r) - 1) * 2 ^ r := Int.mul_le_mul_of_nonneg_right (by omega) (by omega)
  rw [Int.sub_mul, ← e] at h3
  have h4 : 0 ≤ W := by rw [hW]; exact Int.mul_nonneg hx0 (by omega)
  have h5 : W < 4294967296 * 2 ^ r := by rw [hW]; exact Int.mul_lt_mul_of_pos_right hx1 hp
  have h6 : (2 : Int) ^ r ≤ 2 ^ 31 := pow_le (by decide) (by omega)
  have h6' : (2 : Int) ^ 31 = 2147483648 := rfl
  have h7 : W / 4294967296 < 2 ^ r := Int.ediv_lt_of_lt_mul (by decide) (by omega)
  refine ⟨?_, by rw [e1]; omega, h4, by omega, by omega, h7, by omega⟩
  rw [u32_or _ _ hz0 (by omega) (by omega) (by omega), e1]
  obtain ⟨zn, hzn⟩ : ∃ zn : Nat, z = zn := ⟨z.toNat, by omega⟩
  obtain ⟨xn, hxn⟩ : ∃ xn : Nat, x % 2 ^ (32 - r) = xn := ⟨(x % 2 ^ (32 - r)).toNat, by omega⟩
  rw [hxn, hzn]
  have hpn : ((2 : Int) ^ r) = ((2 ^ r : Nat) : Int) := by push_cast; rfl
  rw [hpn]
  have e5 : ((xn : Int) * ((2 ^ r : Nat) : Int)).toNat = xn * 2 ^ r := by rw [← Int.natCast_mul, Int.toNat_natCast]
  rw [e5, Int.toNat_natCast, Nat.or_comm, or_add (by rw [hpn] at hz1; omega)]
  push_cast; omega
theorem or64 {x y : Int} (hx0 : 0 ≤ x) (hx1 : x < 4294967296) (hy0 : 0 ≤ y) (hy1 : y < 4294967296) : bits .or .u64 x (y * 4294967296) = x + y * 4294967296 := by
  rw [u64_or _ _ hx0 (by omega) (by omega) (by omega)]
  obtain ⟨xn, rfl⟩ : ∃ xn : Nat, x = xn := ⟨x.toNat, by omega⟩
  obtain ⟨yn, rfl⟩ : ∃ yn : Nat, y = yn := ⟨y.toNat, by omega⟩
  have h32 : (2 : Nat) ^ 32 = 4294967296 := by decide
  have e5 : ((yn : Int) * 4294967296).toNat = yn * 2 ^ 32 := by rw [h32]; omega
  rw [e5, Int.toNat_natCast, Nat.or_comm, or_add (by omega), h32]
  omega
set_option maxHeartbeats 4000000 in
theorem m_Left (A : Option Addr) (n c : Nat) (v : Int) (k : Nat) (w : World) (hX : MagP w A n c v) (hl : n ≤ 1000000) (hk : k ≤ 10000000) :
    Calls Tryz.prog 245 #[.slice A n c, .int .u64 k] w (RetM (v * 2 ^ k) w) := by
  obtain ⟨xs, hX⟩ := hX
  have hnI : (n : Int) ≤ 1000000 := by omega
  have hkI : (k : Int) ≤ 10000000 := by omega
  have HX : Hd (MagD w A n c xs v) := ⟨hX⟩
  have HG : Hd (Rng 4294967296 xs) := ⟨hX.can.1⟩
  have HK : Hd (k = 32 * (k / 32) + k % 32 ∧ k ≤ 10000000) := ⟨by omega⟩
  have HL : Hd (k / 32 + n + 1 ≤ LIM) := ⟨by unfold LIM; omega⟩
  clear hX hl hk
  by_cases h0 : n = 0
  · subst h0
    have HV : Hd (v = 0) := ⟨by
      have h1 := HX.out.len
      have h2 : xs = [] := List.eq_nil_of_length_eq_zero h1.symm
      rw [HX.out.eq, h2]; rfl⟩
    go_enter Tryz.func245, Tryz.ntmps245
    go_wp2
    go_ret
    exact ⟨_, _, _, rfl, by rw [HV.out, Int.zero_mul]; exact ⟨[], MagD.nil w⟩, Below.refl _ _⟩
  · have HP0 : Hd (0 < n) := ⟨by omega⟩
    have hd : ((n : Int) == 0) = false := by simpa using h0
    have hn0 : 1 ≤ (n : Int) := by omega
    clear h0
    go_enter Tryz.func245, Tryz.ntmps245
    go_wp2_with ((with_reducible refine wpList_make32 _ rfl (.tmp 18) (.tmp 18) rfl (k / 32 + n + 1) _ rfl rfl (by first | omega | (push_cast; omega)) HL.out ?_); intro w1 hr1 hb1; have HR1 : Hd (Row32 w1 w.heap.size (List.replicate (k / 32 + n + 1) 0)) := ⟨hr1⟩; have HB1 : Hd (Below w.heap.size w w1) := ⟨hb1⟩; clear hr1 hb1)
    go_loopw [22] (fun i wr => ∃ (j : Nat) (zs : List Int), i = .int .i64 j ∧ (j : Int) ≤ n ∧ Hd (ShlR 4294967296 xs (k % 32) (k / 32) (k / 32 + n + 1) j zs) ∧ Hd (Row32 wr w.heap.size zs) ∧ Hd (Below w.heap.size w wr))
      (fun i _ => n - (intOf i).toNat)
    case atStart => exact ⟨0, List.replicate (k / 32 + n + 1) 0, rfl, by omega, ⟨ShlR.start (by decide) _ _ _ _⟩, HR1, HB1⟩
    case round =>
      obtain ⟨j, zs, rfl, hj, HP, HR, HB⟩ := hrel
      by_cases h1 : j < n
      · obtain ⟨ad, hA, hcx⟩ := HX.out.reads.at_ (k := j) (by have := HX.out.len; omega)
        subst hA
        have hgx := HG.out.getD (by decide) j
        replace hcx := (HB.out.cell (World.block_lt_of_cell? w _ hcx)).trans hcx
        have f0 : wr.frozen? ⟨w.heap.size, k / 32 + j, none⟩ = false := Blk.frozen HR.out _
        have f1 : wr.frozen? ⟨w.heap.size, k / 32 + j + 1, none⟩ = false := Blk.frozen HR.out _
        have f1' : wr.frozen? ⟨w.heap.size, k / 32 + (j + 1), none⟩ = false := Blk.frozen HR.out _
        have d0 := Row32.cell HR.out (i := k / 32 + j) (by have := HP.out.1; omega)
        have d1 := Row32.cell HR.out (i := k / 32 + j + 1) (by have := HP.out.1; omega)
        have hgz := HP.out.2.1.getD (by decide) (k / 32 + j)
        have hgz1 := HP.out.2.1.getD (by decide) (k / 32 + j + 1)
        have hz2 := HP.out.2.2.1
        generalize hez1 : zs.getD (k / 32 + j + 1) 0 = z1 at *
        generalize hez : zs.getD (k / 32 + j) 0 = z at *
        have HEz : Hd (zs.getD (k / 32 + j) 0 = z) := ⟨hez⟩
        generalize hex : xs.getD j 0 = x at *
        have HEx : Hd (xs.getD j 0 = x) := ⟨hex⟩
        clear hex hez hez1
        generalize hWW : x * 2 ^ (k % 32) = W
        obtain ⟨o1, o2, o3, o4, o5, o6, o7⟩ := or32 hgz.1 hz2 (Nat.mod_lt _ (by decide)) hWW.symm hgx.1 hgx.2
        have hwr : IntKind.u64.wrap (x * 2 ^ (k % 32)) = W := by rw [hWW, IntKind.wrap_u64]; omega
        have HW : Hd (z + W % 4294967296 + 4294967296 * (W / 4294967296) = z + x * 2 ^ (k % 32)) := ⟨by rw [hWW]; omega⟩
        have HO6 : Hd (W / 4294967296 < 2 ^ (k % 32)) := ⟨o6⟩
        clear hWW hz2 o6
        have HSET : Hd (Row32 ((wr.setCell ⟨w.heap.size, k / 32 + j, none⟩ (.int .u32 (z + W % 4294967296))).setCell ⟨w.heap.size, k / 32 + j + 1, none⟩ (.int .u32 (W / 4294967296))) w.heap.size ((zs.set (k / 32 + j) (z + W % 4294967296)).set (k / 32 + j + 1) (W / 4294967296))) := ⟨(HR.out.set _ _).set _ _⟩
        have HNX : Hd (ShlR 4294967296 xs (k % 32) (k / 32) (k / 32 + n + 1) (j + 1) ((zs.set (k / 32 + j) (z + W % 4294967296)).set (k / 32 + j + 1) (W / 4294967296))) := ⟨HP.out.next (by decide) (by omega) (by omega) (by omega) o5 HO6.out o7 (by rw [HEz.out, HEx.out]; exact HW.out)⟩
        go_wp2
        go_roundw
        case rel => exact ⟨j + 1, _, by go_num, by omega, HNX, by first | exact HSET | (exact ⟨by simpa using HSET.out⟩) | (exact ⟨by have := HSET.out; simpa [Nat.add_assoc] using this⟩), ⟨(HB.out.setCell (Nat.le_refl _) _).setCell (Nat.le_refl _) _⟩⟩
        case measure => simp [intOf]; omega
      · obtain rfl : j = n := by omega
        have HZ : Hd (zs.length = k / 32 + j + 1 ∧ Rng 4294967296 zs ∧ val 4294967296 zs = v * 2 ^ k) := ⟨by
          have hp := HP.out
          rw [HX.out.len] at hp
          have := hp.done (p := 32) (k := k) rfl HK.out.1
          rw [HX.out.eq]
          have hl := HX.out.len
          exact ⟨by omega, this.2.1, this.2.2⟩⟩
        have HKK := Hd.mk (m_Trim (some ⟨w.heap.size, 0, none⟩) (k / 32 + j + 1) (k / 32 + j + 1) zs _ HZ.out.1.symm HL.out (Nat.le_refl _) HR.out.reads HZ.out.2.1)
        go_wp2_with (go_at_call 271; (with_reducible refine (HKK.out).mono ?_); rintro e w' ⟨⟨i, rfl, hj, hj1, hj2⟩, rfl⟩; have HJ : Hd (i ≤ k / 32 + j + 1 ∧ Canon 4294967296 (zs.take i) ∧ val 4294967296 (zs.take i) = val 4294967296 zs) := ⟨⟨hj, hj1, hj2⟩⟩; clear hj hj1 hj2)
        go_ret
        exact ⟨_, _, _, rfl, magD_row HZ.out.1 HJ.out.1 HR.out HJ.out.2.1 (HJ.out.2.2.trans HZ.out.2.2), HB.out⟩
end Go.Proofs.YtflgjecpjaiecaaGreat
/- Contracts: shifts to the right, lengths, copies and products of the program's digits. -/
set_option linter.unusedVariables false
set_option linter.unusedSimpArgs false
namespace Go.Proofs.YtflgjecpjaiecaaGreat
open Go.RowKit Num
theorem add_succ' (a : Addr) (i : Nat) : a.add (i + 1) = ⟨a.block, a.off + (i + 1), none⟩ := by simp [Addr.add]
theorem getD_drop (xs : List Int) (q j : Nat) : (xs.drop q).getD j 0 = xs.getD (q + j) 0 := by
  rw [List.getD_eq_getElem?_getD, List.getD_eq_getElem?_getD, List.getElem?_drop]
theorem shr_bounds {x : Int} {r : Nat} (h0 : 0 ≤ x) : 0 ≤ x / 2 ^ r ∧ x / 2 ^ r ≤ x := ⟨Int.ediv_nonneg h0 (Int.le_of_lt (pow_pos' (by decide) _)), Int.ediv_le_self _ h0⟩
set_option maxHeartbeats 4000000 in
theorem m_Right (A : Option Addr) (n c : Nat) (v : Int) (k : Nat) (w : World) (hX : MagP w A n c v) (hl : n ≤ 1000000) (hk : k ≤ 10000000) :
    Calls Tryz.prog 246 #[.slice A n c, .int .u64 k] w (RetM (v / 2 ^ k) w) := by
  obtain ⟨xs, hX⟩ := hX
  have hnI : (n : Int) ≤ 1000000 := by omega
  have hkI : (k : Int) ≤ 10000000 := by omega
  have hcI : n ≤ c := hX.cap
  have HX : Hd (MagD w A n c xs v) := ⟨hX⟩
  have HG : Hd (Rng 4294967296 xs) := ⟨hX.can.1⟩
  have HE : Hd ((2 : Int) ^ k = 4294967296 ^ (k / 32) * 2 ^ (k % 32)) := ⟨by rw [p32, ← Int.pow_add, Nat.div_add_mod]⟩
  have HV : Hd (v / 2 ^ k = val 4294967296 (xs.drop (k / 32)) / 2 ^ (k % 32)) := ⟨by
    have hp : (0 : Int) < 4294967296 ^ (k / 32) := pow_pos' (by decide) _
    rw [HE.out, hX.eq, ← Int.ediv_ediv_of_nonneg (Int.le_of_lt hp), val_div_pow (by decide) hX.can.1]⟩
  clear hX hl hk
  by_cases h0 : n ≤ k / 32
  · have HV2 : Hd (v / 2 ^ k = 0) := ⟨by rw [HV.out, List.drop_eq_nil_of_le (by have := HX.out.len; omega)]; simp [val]⟩
    have h1 : (n : Int) ≤ k / 32 := by omega
    go_enter Tryz.func246, Tryz.ntmps246
    go_wp2
    go_ret
    exact ⟨_, _, _, rfl, by rw [HV2.out]; exact ⟨[], MagD.nil w⟩, Below.refl _ _⟩
  · obtain ⟨m, hm⟩ : ∃ m, n = k / 32 + m := ⟨n - k / 32, by omega⟩
    have hm0 : 0 < m := by omega
    have h1 : ¬ (n : Int) ≤ k / 32 := by omega
    have hq : k / 32 ≤ n := by omega
    have hqc : ¬ c = k / 32 := by omega
    have hnm : n - k / 32 = m := by omega
    have HL : Hd (m ≤ LIM) := ⟨by unfold LIM; omega⟩
    have HXL : Hd (xs.length = k / 32 + m) := ⟨by have := HX.out.len; omega⟩
    have HYL : Hd ((xs.drop (k / 32)).length = m) := ⟨by rw [List.length_drop, HXL.out]; omega⟩
    have HGY : Hd (Rng 4294967296 (xs.drop (k / 32))) := ⟨HG.out.drop _⟩
    obtain ⟨ad, hA, _⟩ := HX.out.reads.at_ (k := k / 32) (by rw [HXL.out]; omega)
    subst hA
    have HM : Hd (n = k / 32 + m) := ⟨hm⟩
    clear hm
    go_enter Tryz.func246, Tryz.ntmps246
    go_wp2_with ((with_reducible refine wpList_make32 _ rfl (.tmp 20) (.tmp 20) rfl (m) _ rfl rfl (by first | omega | (push_cast; omega)) HL.out ?_); intro w1 hr1 hb1; have HR1 : Hd (Row32 w1 w.heap.size (List.replicate (m) 0)) := ⟨hr1⟩; have HB1 : Hd (Below w.heap.size w w1) := ⟨hb1⟩; clear hr1 hb1)
    go_loopw [24] (fun i wr => ∃ (j : Nat) (zs : List Int), i = .int .i64 j ∧ (j : Int) ≤ m ∧ Hd (ShrR 4294967296 (xs.drop (k / 32)) (k % 32) m j zs) ∧ Hd (Row32 wr w.heap.size zs) ∧ Hd (Below w.heap.size w wr))
      (fun i _ => m - (intOf i).toNat)
    case atStart => exact ⟨0, List.replicate m 0, rfl, by omega, ⟨ShrR.start _ _ _ _⟩, HR1, HB1⟩
    case round =>
      obtain ⟨j, zs, rfl, hj, HP, HR, HB⟩ := hrel
      by_cases h1 : j < m
      · obtain ⟨ad', hA, hcx⟩ := HX.out.reads.at_ (k := k / 32 + j) (by rw [HXL.out]; omega)
        cases hA
        have hgx := HG.out.getD (by decide) (k / 32 + j)
        replace hcx := (HB.out.cell (World.block_lt_of_cell? w _ hcx)).trans hcx
        rw [← add_of_add] at hcx
        have f0 : wr.frozen? ⟨w.heap.size, j, none⟩ = false := Blk.frozen HR.out _
        have d0 := Row32.cell HR.out (i := j) (by have := HP.out.1; omega)
        generalize hex : xs.getD (k / 32 + j) 0 = x at *
        have HEx : Hd ((xs.drop (k / 32)).getD j 0 = x) := ⟨by rw [getD_drop]; exact hex⟩
        clear hex
        by_cases h2 : j + 1 < m
        · obtain ⟨ad', hA, hcy⟩ := HX.out.reads.at_ (k := k / 32 + (j + 1)) (by rw [HXL.out]; omega)
          cases hA
          have hgy := HG.out.getD (by decide) (k / 32 + (j + 1))
          replace hcy := (HB.out.cell (World.block_lt_of_cell? w _ hcy)).trans hcy
          rw [← add_of_add, add_succ'] at hcy
          generalize hey : xs.getD (k / 32 + (j + 1)) 0 = y at *
          have HEy : Hd ((xs.drop (k / 32)).getD (j + 1) 0 = y) := ⟨by rw [getD_drop]; exact hey⟩
          clear hey
          have hor := or64 hgx.1 hgx.2 hgy.1 hgy.2
          have hb1 := shr_bounds (x := x + y * 4294967296) (r := k % 32) (by omega)
          have HN := Hd.mk (ShrR.next (B := 4294967296) (p := 32) rfl HGY.out (Nat.mod_lt _ (by decide)) HP.out h1 (d := (x + y * 4294967296) / 2 ^ (k % 32) % 4294967296) (by rw [HEx.out, HEy.out, Int.mul_comm 4294967296]))
          go_wp2
          go_roundw
          case rel => exact ⟨j + 1, _, by go_num, by omega, HN, by exact ⟨by have := HR.out.set j ((x + y * 4294967296) / 2 ^ (k % 32) % 4294967296); simpa using this⟩, ⟨HB.out.setCell (Nat.le_refl _) _⟩⟩
          case measure => simp [intOf]; omega
        · have HEy : Hd ((xs.drop (k / 32)).getD (j + 1) 0 = 0) := ⟨getD_far (by rw [HYL.out]; omega)⟩
          have hb1 := shr_bounds (x := x) (r := k % 32) (by omega)
          have HN := Hd.mk (ShrR.next (B := 4294967296) (p := 32) rfl HGY.out (Nat.mod_lt _ (by decide)) HP.out h1 (d := x / 2 ^ (k % 32)) (by rw [HEx.out, HEy.out, Int.mul_zero, Int.add_zero, Int.emod_eq_of_lt hb1.1 (by omega)]))
          go_wp2
          go_roundw
          case rel => exact ⟨j + 1, _, by go_num, by omega, HN, by exact ⟨by have := HR.out.set j (x / 2 ^ (k % 32)); simpa using this⟩, ⟨HB.out.setCell (Nat.le_refl _) _⟩⟩
          case measure => simp [intOf]; omega
      · obtain rfl : j = m := by omega
        have HZ : Hd (zs.length = j ∧ Rng 4294967296 zs ∧ val 4294967296 zs = v / 2 ^ k) := ⟨by
          rw [HV.out]; exact HP.out.done (by decide) HGY.out HYL.out⟩
        have HKK := Hd.mk (m_Trim (some ⟨w.heap.size, 0, none⟩) j j zs _ HZ.out.1.symm HL.out (Nat.le_refl _) HR.out.reads HZ.out.2.1)
        go_wp2_with (go_at_call 271; (with_reducible refine (HKK.out).mono ?_); rintro e w' ⟨⟨i, rfl, hj, hj1, hj2⟩, rfl⟩; have HJ : Hd (i ≤ j ∧ Canon 4294967296 (zs.take i) ∧ val 4294967296 (zs.take i) = val 4294967296 zs) := ⟨⟨hj, hj1, hj2⟩⟩; clear hj hj1 hj2)
        go_ret
        exact ⟨_, _, _, rfl, magD_row HZ.out.1 HJ.out.1 HR.out HJ.out.2.1 (HJ.out.2.2.trans HZ.out.2.2), HB.out⟩
set_option maxHeartbeats 4000000 in
theorem m_Bits (A : Option Addr) (n c : Nat) (v : Int) (w : World) (hX : MagP w A n c v) (hl : n ≤ 1000000) :
    Calls Tryz.prog 243 #[.slice A n c] w fun e w' => e = .returned (.int .i64 (bln v.natAbs)) ∧ w = w' := by
  obtain ⟨xs, hX⟩ := hX
  have hnI : (n : Int) ≤ 1000000 := by omega
  have HX : Hd (MagD w A n c xs v) := ⟨hX⟩
  by_cases h0 : n = 0
  · subst h0
    have HV : Hd (bln v.natAbs = 0) := ⟨by
      have h2 : xs = [] := List.eq_nil_of_length_eq_zero hX.len.symm
      rw [hX.eq, h2]; rfl⟩
    clear hX hl
    go_enter Tryz.func243, Tryz.ntmps243
    go_wp2
    go_ret
    exact ⟨by rw [HV.out]; rfl, rfl⟩
  · obtain ⟨m, rfl⟩ : ∃ m, n = m + 1 := ⟨n - 1, by omega⟩
    have hx : xs ≠ [] := fun e => by have := hX.len; rw [e] at this; simp at this
    have hb := Canon.bln (B := 4294967296) (p := 32) (by decide) rfl hX.can hx
    have hlen : xs.length - 1 = m := by have := hX.len; omega
    rw [hlen, ← hX.eq] at hb
    have hg := hX.can.1.getD (B := 4294967296) (by decide) m
    obtain ⟨ad, hA, hcx⟩ := hX.reads.at_ (k := m) (by have := hX.len; omega)
    subst hA
    generalize xs.getD m 0 = x at *
    obtain ⟨t, rfl⟩ : ∃ t : Nat, x = t := ⟨x.toNat, by omega⟩
    rw [Int.natAbs_natCast] at hb
    have HB : Hd (bln v.natAbs = 32 * m + bln t) := ⟨hb.1⟩
    have HT : Hd ((t : Int) < 4294967296) := ⟨hg.2⟩
    replace hnI : (m : Int) ≤ 999999 := by omega
    clear hX hl hb hx hlen hg h0
    go_enter Tryz.func243, Tryz.ntmps243
    go_wp2
    go_loop [3, 4] (fun i d => ∃ j : Nat, i = .int .i64 (32 * (m : Int) + j) ∧ d = .int .u32 ((t / 2 ^ j : Nat) : Int) ∧ Hd (j = 0 ∨ 2 ^ (j - 1) ≤ t) ∧ (j : Int) ≤ 32) (fun _ d => (intOf d).toNat)
    case atStart => exact ⟨0, by go_num, by simp, ⟨Or.inl rfl⟩, by omega⟩
    case round =>
      obtain ⟨j, rfl, rfl, HJ, hj⟩ := hrel
      by_cases h1 : t / 2 ^ j = 0
      · have HE : Hd (bln v.natAbs = 32 * m + j) := ⟨by rw [HB.out, bln_half HJ.out h1]⟩
        rw [h1]
        clear h1
        go_wp2
        go_ret
        exact ⟨by rw [HE.out]; go_num, rfl⟩
      · have h2 := half_step h1
        have HS : Hd (t / 2 ^ j / 2 = t / 2 ^ (j + 1) ∧ 2 ^ j ≤ t) := ⟨h2⟩
        have hj2 : j < 32 := by
          rcases Nat.lt_or_ge j 32 with h | h
          · exact h
          · have h3 : (2 : Nat) ^ 32 ≤ 2 ^ j := Nat.pow_le_pow_right (by decide) h
            have h4 : (2 : Nat) ^ 32 = 4294967296 := by decide
            have := h2.2; have := HT.out; omega
        generalize hu : t / 2 ^ j = u at *
        have hu0 : 0 < (u : Int) := by omega
        clear h1 h2
        go_wp2
        go_round
        case rel => exact ⟨j + 1, by go_num, by have := HS.out.1; rw [← this]; go_num, ⟨Or.inr (by simpa using HS.out.2)⟩, by omega⟩
        case measure => simp [intOf]; omega
/-- a slice of the call's own, from block B on -/
def O32 (w : World) (B : Nat) (v : Value) (xs : List Int) : Prop := w.ownsRow B 171 1 v xs.length (c32 xs)
theorem O32.mag {w : World} {B : Nat} {v : Value} {xs : List Int} (h : O32 w B v xs) (hc : Canon 4294967296 xs) : ∃ A n c, v = .slice A n c ∧ MagD w A n c xs (val 4294967296 xs) := by
  have h' := h
  rcases h'.2 with ⟨rfl, h0⟩ | ⟨g, cap, cur, rfl, hg, hh, h3, h4, h5, h6⟩
  · obtain rfl : xs = [] := List.eq_nil_of_length_eq_zero h0
    exact ⟨none, 0, 0, rfl, MagD.nil w⟩
  · exact ⟨some ⟨g, 0, none⟩, xs.length, cap, rfl, rfl, h3, hc, Reads.of_own h, fun ad e => by cases e; exact ⟨_, hh⟩, rfl⟩
theorem own_empty32 (w : World) (B : Nat) (hb : B ≤ w.heap.size) : O32 (w.alloc (.cells #[] 171)) B (.slice (some ⟨w.heap.size, 0, none⟩) 0 0) [] :=
  World.ownsRow_made (size := 1) w #[] 0 hb (by decide) rfl
@[go_sem] theorem run_eql_slice_nil32 (a : Option Addr) (l c : Nat) (w : World) : (Go.binOp .eql 166 (.slice a l c) (.slice none 0 0)).run Tryz.prog w = .ok (.bool a.isNone) w := by
  simp only [Go.binOp]
  simp [run_equal_slice_nil w 166 171 a l c Tryz.underlying166]
set_option maxHeartbeats 4000000 in
theorem m_Clone (A : Option Addr) (n c : Nat) (v : Int) (w : World) (hX : MagP w A n c v) (hl : n ≤ 1000000) :
    Calls Tryz.prog 244 #[.slice A n c] w (RetM v w) := by
  obtain ⟨xs, hX⟩ := hX
  cases A with
  | none =>
    have h0 : n = 0 := by
      rcases Nat.eq_zero_or_pos n with h | h
      · exact h
      · obtain ⟨ad, h, _⟩ := hX.reads.2 (by rw [← hX.len]; exact h)
        cases h
    subst h0
    have HV : Hd (v = 0) := ⟨by
      have h2 : xs = [] := List.eq_nil_of_length_eq_zero hX.len.symm
      rw [hX.eq, h2]; rfl⟩
    clear hX hl
    go_enter Tryz.func244, Tryz.ntmps244
    go_wp2
    go_ret
    exact ⟨_, _, _, rfl, by rw [HV.out]; exact ⟨[], MagD.nil w⟩, Below.refl _ _⟩
  | some ad =>
    obtain ⟨i0, hi0, hz0, hz1, hz2⟩ := info_parts info32
    have HX : Hd (MagD w (some ad) n c xs v) := ⟨hX⟩
    have HR : Hd (Reads w w.heap.size 1 (some ad) n (c32 xs)) := ⟨by have := hX.reads; unfold R32 at this; rw [← hX.len] at this; exact this⟩
    have HL : Hd (n ≤ 1000000) := ⟨hl⟩
    clear hX hl
    go_enter Tryz.func244, Tryz.ntmps244
    go_wp2_with (at_builtin; refine wpList_append_any _ rfl (.tmp 5) (.tmp 6) _ rfl w.heap.size 171 i0 _ 1 4 Tryz.underlying166 hi0 hz0 hz1 hz2 rfl (by omega) (.slice (some ⟨w.heap.size, 0, none⟩) 0 0) 0 [] rfl (own_empty32 w w.heap.size (Nat.le_refl _)) w.heap.size (some ad) n c (c32 xs) rfl (HR.out.alloc (Nat.le_refl _) _) (c32_one xs) (by have := HL.out; simp only [maxLen]; omega) (by have := HL.out; omega) (by simp) ?_; intro v1 w1 hown1 hg1 hat1; have hbw1 : Hd (Below w.heap.size w w1) := ⟨((Below.refl _ _).alloc (Nat.le_refl _) _).grown hg1 (by simp) (by simp [Value.ownBlock])⟩; have HO : Hd (w1.ownsRow w.heap.size 171 1 v1 (0 + n) ([] ++ c32 xs)) := ⟨hown1⟩; clear hown1 hg1 hat1)
    go_ret
    have HO2 : O32 w1 w.heap.size v1 xs := by have := HO.out; rw [Nat.zero_add, List.nil_append, HX.out.len] at this; exact this
    obtain ⟨A1, n1, c1, rfl, hM⟩ := HO2.mag HX.out.can
    exact ⟨A1, n1, c1, rfl, ⟨xs, by rw [HX.out.eq]; exact hM⟩, hbw1.out⟩
end Go.Proofs.YtflgjecpjaiecaaGreat
/- Contracts: products of the program's digits. -/
set_option linter.unusedVariables false
set_option linter.unusedSimpArgs false
namespace Go.Proofs.YtflgjecpjaiecaaGreat
open Go.RowKit Num
end Go.Proofs.YtflgjecpjaiecaaGreat
