/- Contracts: the program's integers in memory, their sign. -/
import Derived.Test.YtmiafbbndonpaaaP1
set_option linter.unusedVariables false
set_option linter.unusedSimpArgs false
namespace Go.Proofs.Ytmiafbbndonpaaa
open Go.RowKit Num
/-- the parts of an integer of the program -/
structure BigD (w : World) (neg : Bool) (A : Option Addr) (n c : Nat) (xs : List Int) (a : Int) : Prop where
  len : n = xs.length
  cap : n ≤ c
  lim : n ≤ 1000000
  can : Canon 4294967296 xs
  sgn : neg = true → xs ≠ []
  eq : a = if neg = true then -val 4294967296 xs else val 4294967296 xs
  reads : R32 w A xs
  typ : ∀ ad, A = some ad → ∃ cs, Blk w ad.block 172 cs
/-- an integer of the program in block g -/
def Big (w : World) (g : Nat) (a : Int) : Prop := ∃ neg A n c xs, Blk w g 134 #[.bool neg, .slice A n c] ∧ BigD w neg A n c xs a
theorem R32.grown {w w' : World} {A : Option Addr} {xs : List Int} {row : Option Nat} (h : R32 w A xs) (hg : w.grownBy w' row) (hr : ∀ ad, A = some ad → some ad.block ≠ row) : R32 w' A xs := by
  refine ⟨h.1, fun hn => ?_⟩
  obtain ⟨ad, e, hb, hc⟩ := h.2 hn
  refine ⟨ad, e, Nat.lt_of_lt_of_le hb hg.size, fun j u hu => ?_⟩
  rw [← hc j u hu]
  exact World.cell?_of_block (by rw [block_of_add]; exact hg.block ad.block hb (hr ad e))
theorem BigD.grown {w w' : World} {neg : Bool} {A : Option Addr} {n c : Nat} {xs : List Int} {a : Int} {row : Option Nat} (h : BigD w neg A n c xs a) (hg : w.grownBy w' row) (hr : ∀ ad, A = some ad → some ad.block ≠ row) : BigD w' neg A n c xs a :=
  ⟨h.len, h.cap, h.lim, h.can, h.sgn, h.eq, h.reads.grown hg hr, fun ad e => by obtain ⟨cs, hk⟩ := h.typ ad e; exact ⟨cs, hk.grown hg (hr ad e)⟩⟩
theorem Big.grown {w w' : World} {g g' : Nat} {a : Int} (h : Big w g a) {cs : Array Value} (hk : Blk w g' 134 cs) (hg : w.grownBy w' (some g')) (hne : g ≠ g') : Big w' g a := by
  obtain ⟨neg, A, n, c, xs, hb, hd⟩ := h
  refine ⟨neg, A, n, c, xs, hb.grown hg (by simpa using hne), hd.grown hg ?_⟩
  intro ad e
  obtain ⟨cs', hk'⟩ := hd.typ ad e
  have := Blk.ne_ hk' hk (by decide)
  simpa using this
theorem BigD.sign {w : World} {neg : Bool} {A : Option Addr} {n c : Nat} {xs : List Int} {a : Int} (h : BigD w neg A n c xs a) : a.sign = if neg = true then -1 else if 0 < n then 1 else 0 := by
  cases hn : neg
  · have e := h.eq; rw [hn] at e; simp at e
    by_cases h0 : 0 < n
    · have h1 := h.can.pos (by decide) (fun k => by have := h.len; rw [k] at this; simp at this; omega)
      rw [if_pos h0, e, Int.sign_eq_one_of_pos h1]; rfl
    · have h1 : xs = [] := List.eq_nil_of_length_eq_zero (by have := h.len; omega)
      rw [if_neg h0, e, h1]; rfl
  · have e := h.eq; rw [hn] at e; simp at e
    have h1 := h.can.pos (by decide) (h.sgn hn)
    rw [e, Int.sign_eq_neg_one_of_neg (by omega)]; rfl
set_option maxHeartbeats 4000000 in
theorem m_Sign (g : Nat) (a : Int) (w : World) (h : Big w g a) :
    Calls Try.prog 128 #[.pointer (some ⟨g, 0, none⟩)] w fun e w' => e = .returned (.int .i64 a.sign) ∧ ∃ d, w' = w.drewN d := by
  obtain ⟨neg, A, n, c, xs, hb, hd⟩ := h
  have hs := hd.sign
  have c0 : w.cell? ⟨g, 0, none⟩ = some (.bool neg) := hb.cell 0
  have c1 : w.cell? ⟨g, 1, none⟩ = some (.slice A n c) := hb.cell 1
  have hnI : (n : Int) ≤ 1000000 := by have := hd.lim; omega
  have HS : Hd (a.sign = if neg = true then -1 else if 0 < n then 1 else 0) := ⟨hs⟩
  rw [HS.out]
  clear hd hs hb
  cases neg
  · by_cases h0 : 0 < n
    · rw [if_pos h0]
      go_enter Try.func128, Try.ntmps128
      go_wp2
      go_ret
      exact ⟨rfl, 0, rfl⟩
    · rw [if_neg h0]
      go_enter Try.func128, Try.ntmps128
      go_wp2
      go_ret
      exact ⟨rfl, 0, rfl⟩
  · go_enter Try.func128, Try.ntmps128
    go_wp2
    go_ret
    exact ⟨rfl, 0, rfl⟩
theorem grown_set2 (w : World) (g : Nat) (u v : Value) : w.grownBy ((w.setCell ⟨g, 1, none⟩ u).setCell ⟨g, 0, none⟩ v) (some g) :=
  ⟨rfl, rfl, rfl, by simp [World.setCell], fun k hk hne => by
    have h : k ≠ g := fun e => hne (by rw [e])
    exact (Below.heap_setCell _ _ v k h).trans (Below.heap_setCell _ _ u k h)⟩
theorem big_put {w : World} {g : Nat} {v0 v1 : Value} {A : Option Addr} {n c : Nat} {xs : List Int} {a : Int} (hb : Blk w g 134 #[v0, v1]) (nb : Bool) (k : Nat)
    (hn : n = xs.length) (hl : k ≤ 1000000) (hcap : n ≤ c) (hR : R32 w A xs) (ht : ∀ ad, A = some ad → ∃ cs, Blk w ad.block 172 cs) (hk : k ≤ n) (hc : Canon 4294967296 (xs.take k)) (hs : nb = true → 0 < k)
    (ha : a = if nb = true then -val 4294967296 (xs.take k) else val 4294967296 (xs.take k)) : Big ((w.setCell ⟨g, 1, none⟩ (.slice A k c)).setCell ⟨g, 0, none⟩ (.bool nb)) g a := by
  have hg := grown_set2 w g (.slice A k c) (.bool nb)
  have hne : ∀ ad, A = some ad → some ad.block ≠ some g := fun ad e => by
    obtain ⟨cs', hk'⟩ := ht ad e
    have := Blk.ne_ hk' hb (by decide)
    simpa using this
  refine ⟨nb, A, k, c, xs.take k, ?_, ⟨by rw [List.length_take]; omega, by omega, by omega, hc, fun h e => ?_, ha, (hR.take k).grown hg hne, fun ad e => ?_⟩⟩
  · have := (hb.set_ 1 (.slice A k c)).set_ 0 (.bool nb)
    simpa using this
  · have h1 := hs h
    have h2 : (xs.take k).length = 0 := by rw [e]; rfl
    rw [List.length_take] at h2; omega
  · obtain ⟨cs', hk'⟩ := ht ad e
    exact ⟨cs', hk'.grown hg (hne ad e)⟩
theorem len32 {xs : List Int} (hc : Canon 4294967296 xs) (hb : Bd (val 4294967296 xs)) : xs.length ≤ 75001 := by
  by_cases hx : xs = []
  · subst hx; simp
  · have h1 := hc.lower (by decide) hx
    have e : TOP = 4294967296 ^ 75000 := by
      unfold TOP
      rw [p24, show (4294967296 : Int) = 2 ^ 32 from rfl, ← Int.pow_mul]
    have h2 : val 4294967296 xs < TOP := hb.2
    rw [e] at h2
    rcases Nat.lt_or_ge 75001 xs.length with h3 | h3
    · have h4 : (4294967296 : Int) ^ 75000 ≤ 4294967296 ^ (xs.length - 1) := pow_le (by decide) (by omega)
      exact absurd (Int.lt_of_le_of_lt (Int.le_trans h4 h1) h2) (Int.lt_irrefl _)
    · exact h3
theorem kLim {xs : List Int} {n k : Nat} (hn : n = xs.length) (hk : k ≤ n) (hc : Canon 4294967296 (xs.take k)) (hv : val 4294967296 (xs.take k) = val 4294967296 xs) (h : n ≤ 1000000 ∨ Bd (val 4294967296 xs)) : k ≤ 1000000 := by
  rcases h with h | h
  · omega
  · have h2 := len32 hc (by rw [hv]; exact h)
    rw [List.length_take] at h2; omega
set_option maxHeartbeats 4000000 in
theorem m_Put (g : Nat) (cs : Array Value) (b0 : Bool) (A0 : Option Addr) (n0 c0 : Nat) (neg : Bool) (A : Option Addr) (n c : Nat) (xs : List Int) (w : World) (hb : Blk w g 134 #[.bool b0, .slice A0 n0 c0])
    (hn : n = xs.length) (hl : n ≤ LIM) (hcap : n ≤ c) (hR : R32 w A xs) (hr : Rng 4294967296 xs) (ht : ∀ ad, A = some ad → ∃ cs, Blk w ad.block 172 cs) (hbd : n ≤ 1000000 ∨ Bd (val 4294967296 xs)) :
    Calls Try.prog 186 #[.pointer (some ⟨g, 0, none⟩), .bool neg, .slice A n c] w fun e w' => e = .returned (.pointer (some ⟨g, 0, none⟩)) ∧ Big w' g (if neg = true then -val 4294967296 xs else val 4294967296 xs) ∧ w.grownBy w' (some g) := by
  have HB : Hd (Blk w g 134 #[.bool b0, .slice A0 n0 c0]) := ⟨hb⟩
  have HR : Hd (n = xs.length ∧ n ≤ LIM ∧ n ≤ c ∧ R32 w A xs ∧ Rng 4294967296 xs ∧ (n ≤ 1000000 ∨ Bd (val 4294967296 xs)) ∧ ∀ ad, A = some ad → ∃ cs, Blk w ad.block 172 cs) := ⟨⟨hn, hl, hcap, hR, hr, hbd, ht⟩⟩
  have d0 : w.cell? ⟨g, 0, none⟩ = some (.bool b0) := hb.cell 0
  have d1 : w.cell? ⟨g, 1, none⟩ = some (.slice A0 n0 c0) := hb.cell 1
  have f0 : w.frozen? ⟨g, 0, none⟩ = false := hb.frozen 0
  have f1 : w.frozen? ⟨g, 1, none⟩ = false := hb.frozen 1
  clear hb hn hl hcap hR hr ht hbd
  go_enter Try.func186, Try.ntmps186
  go_wp2_with (go_at_call 218; (with_reducible refine (m_Trim A n c xs _ HR.out.1 HR.out.2.1 HR.out.2.2.1 HR.out.2.2.2.1 HR.out.2.2.2.2.1).mono ?_); rintro e w' ⟨⟨k, rfl, hk, hk1, hk2⟩, rfl⟩; have HK : Hd (k ≤ n ∧ Canon 4294967296 (xs.take k) ∧ val 4294967296 (xs.take k) = val 4294967296 xs) := ⟨⟨hk, hk1, hk2⟩⟩; have hkN : k ≤ 1000000 := kLim HR.out.1 hk hk1 hk2 HR.out.2.2.2.2.2.1; have hkI : (k : Int) ≤ 1000000 := (by omega); have HKL : Hd (k ≤ 1000000) := ⟨hkN⟩; clear hkN; clear hk hk1 hk2)
  · go_ret
    refine ⟨rfl, big_put HB.out (decide (0 < k)) k HR.out.1 HKL.out HR.out.2.2.1 HR.out.2.2.2.1 HR.out.2.2.2.2.2.2 HK.out.1 HK.out.2.1 (fun h => by have h1 : 0 < k := of_decide_eq_true h; omega) ?_, grown_set2 _ _ _ _⟩
    rw [← HK.out.2.2]
    by_cases h : 0 < k
    · simp [h]
    · obtain rfl : k = 0 := by omega
      simp [val]
  · go_ret
    exact ⟨rfl, big_put HB.out false k HR.out.1 HKL.out HR.out.2.2.1 HR.out.2.2.2.1 HR.out.2.2.2.2.2.2 HK.out.1 HK.out.2.1 (fun h => by simp at h) (by rw [← HK.out.2.2]; simp), grown_set2 _ _ _ _⟩
end Go.Proofs.Ytmiafbbndonpaaa
