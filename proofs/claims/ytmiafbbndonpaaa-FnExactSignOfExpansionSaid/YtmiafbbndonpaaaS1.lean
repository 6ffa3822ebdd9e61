/- Contracts: limbs of the reference. -/
import Derived.Test.YtmiafbbndonpaaaMem
import Derived.Test.YtmiafbbndonpaaaNum
set_option linter.unusedVariables false
set_option linter.unusedSimpArgs false
namespace Go.Proofs.Ytmiafbbndonpaaa
open Go.RowKit Num
/-- a bound on lengths, kept behind a name -/
def LIM : Nat := 1099511627776
/-- the cells of a list of int64, of uint32 -/
def c64 (xs : List Int) : List Value := xs.map fun x => .int .i64 x
def c32 (xs : List Int) : List Value := xs.map fun x => .int .u32 x
theorem c64_length (xs : List Int) : (c64 xs).length = xs.length := by simp [c64]
theorem c32_length (xs : List Int) : (c32 xs).length = xs.length := by simp [c32]
theorem c64_one (xs : List Int) : ∀ u ∈ c64 xs, u.oneCell' = true := fun u hu => by obtain ⟨x, _, rfl⟩ := List.mem_map.1 hu; rfl
theorem c32_one (xs : List Int) : ∀ u ∈ c32 xs, u.oneCell' = true := fun u hu => by obtain ⟨x, _, rfl⟩ := List.mem_map.1 hu; rfl
theorem c64_append (xs ys : List Int) : c64 (xs ++ ys) = c64 xs ++ c64 ys := by simp [c64]
theorem c64_at (xs : List Int) (k : Nat) (h : k < xs.length) : (c64 xs)[k]? = some (.int .i64 (xs.getD k 0)) := by simp [c64, List.getD_eq_getElem?_getD, List.getElem?_eq_getElem h]
theorem c32_at (xs : List Int) (k : Nat) (h : k < xs.length) : (c32 xs)[k]? = some (.int .u32 (xs.getD k 0)) := by simp [c32, List.getD_eq_getElem?_getD, List.getElem?_eq_getElem h]
/-- a slice that reads as int64s -/
def R64 (w : World) (A : Option Addr) (xs : List Int) : Prop := Reads w w.heap.size 1 A xs.length (c64 xs)
def R32 (w : World) (A : Option Addr) (xs : List Int) : Prop := Reads w w.heap.size 1 A xs.length (c32 xs)
theorem R64.at_ {w : World} {A : Option Addr} {xs : List Int} (h : R64 w A xs) {k : Nat} (hk : k < xs.length) : ∃ ad, A = some ad ∧ w.cell? (ad.add k) = some (.int .i64 (xs.getD k 0)) := by
  obtain ⟨ad, u, e, _, hx, hc⟩ := Reads.at_ h hk
  rw [c64_at xs k hk] at hx; cases hx
  exact ⟨ad, e, hc⟩
theorem R32.at_ {w : World} {A : Option Addr} {xs : List Int} (h : R32 w A xs) {k : Nat} (hk : k < xs.length) : ∃ ad, A = some ad ∧ w.cell? (ad.add k) = some (.int .u32 (xs.getD k 0)) := by
  obtain ⟨ad, u, e, _, hx, hc⟩ := Reads.at_ h hk
  rw [c32_at xs k hk] at hx; cases hx
  exact ⟨ad, e, hc⟩
theorem R64.below {w w' : World} {A : Option Addr} {xs : List Int} (h : R64 w A xs) (hb : Below w.heap.size w w') : R64 w' A xs := (Reads.below h hb).more hb.size
theorem R32.below {w w' : World} {A : Option Addr} {xs : List Int} (h : R32 w A xs) (hb : Below w.heap.size w w') : R32 w' A xs := (Reads.below h hb).more hb.size
theorem R64.nil (w : World) : R64 w none [] := Reads.none_
/-- a slice of the call's own, from block B on -/
def O64 (w : World) (B : Nat) (v : Value) (xs : List Int) : Prop := w.ownsRow B 2 1 v xs.length (c64 xs)
theorem O64.form {w : World} {B : Nat} {v : Value} {xs : List Int} (h : O64 w B v xs) : ∃ A c, v = .slice A xs.length c ∧ R64 w A xs := by
  have h' := h
  rcases h'.2 with ⟨rfl, h0⟩ | ⟨g, cap, cur, rfl, hg, hh, _⟩
  · refine ⟨none, 0, by rw [h0], ?_⟩
    obtain rfl : xs = [] := List.eq_nil_of_length_eq_zero h0
    exact R64.nil w
  · exact ⟨some ⟨g, 0, none⟩, cap, rfl, Reads.of_own h⟩
theorem O64.mono {w : World} {B B' : Nat} {v : Value} {xs : List Int} (h : O64 w B v xs) (hB : B' ≤ B) : O64 w B' v xs := by
  obtain ⟨h1, h2⟩ := h
  refine ⟨h1, ?_⟩
  rcases h2 with h2 | ⟨g, cap, cur, hv, hg, r⟩
  · exact .inl h2
  · exact .inr ⟨g, cap, cur, hv, by omega, r⟩
theorem O64.keep {w w' : World} {B : Nat} {v : Value} {xs : List Int} (h : O64 w B v xs) (hb : Below w.heap.size w w') : O64 w' B v xs :=
  World.ownsRow.kept (row := none) h ⟨hb.os, hb.tape, hb.output, hb.size, fun k hk _ => hb.block k hk⟩ (by cases v.ownBlock <;> simp)
/-- what a call that hands back a new slice of int64s leaves -/
def RetO (P : List Int → Prop) (w : World) (e : Ending) (w' : World) : Prop := ∃ A n c xs, e = .returned (.slice A n c) ∧ n = xs.length ∧ P xs ∧ O64 w' w.heap.size (.slice A n c) xs ∧ Below w.heap.size w w'
theorem info64 : (Try.prog.info? 2).map (fun i => (i.zero, i.size, i.bytes)) = some (some (.int .i64 0), 1, 8) := by kernel_rfl
theorem own_empty (w : World) (B : Nat) (hb : B ≤ w.heap.size) : O64 (w.alloc (.cells #[] 2)) B (.slice (some ⟨w.heap.size, 0, none⟩) 0 0) [] :=
  World.ownsRow_made (size := 1) w #[] 0 hb (by decide) rfl
set_option maxHeartbeats 1000000 in
theorem s_Own (A : Option Addr) (c : Nat) (xs : List Int) (w : World) (h : R64 w A xs) (hn : xs.length ≤ LIM) :
    Calls Try.prog 226 #[.slice A xs.length c] w (RetO (· = xs) w) := by
  obtain ⟨i0, hi0, hz0, hz1, hz2⟩ := info_parts info64
  have HR : Hd (R64 w A xs) := ⟨h⟩
  have HN : Hd (xs.length ≤ LIM) := ⟨hn⟩
  clear h hn
  generalize hN : xs.length = n at *
  have HL : Hd (xs.length = n) := ⟨hN⟩
  clear hN
  go_enter Try.func226, Try.ntmps226
  go_wp2_with (first
    | (at_builtin
       refine wpList_append_any _ rfl (.tmp 3) (.tmp 4) _ rfl w.heap.size 2 i0 _ 1 8 Try.underlying31 hi0 hz0 hz1 hz2 rfl (by omega) (.slice (some ⟨w.heap.size, 0, none⟩) 0 0) 0 [] rfl
         (own_empty w w.heap.size (Nat.le_refl _)) w.heap.size A n c (c64 xs) rfl ?c1 (c64_one xs) ?c2 ?c3 (by simp) ?_
       case c1 => exact (by have := HR.out; unfold R64 at this; rw [HL.out] at this; exact this.alloc (Nat.le_refl _) _)
       case c2 => exact (by have := HN.out; unfold LIM at this; simp only [maxLen]; omega)
       case c3 => exact (by have := HN.out; unfold LIM at this; omega)
       intro v1 w1 hown1 hg1 hat1
       have hbw1 : Hd (Below w.heap.size w w1) := ⟨((Below.refl _ _).alloc (Nat.le_refl _) _).grown hg1 (by simp) (by simp [Value.ownBlock])⟩
       have HO : Hd (w1.ownsRow w.heap.size 2 1 v1 (0 + n) ([] ++ c64 xs)) := ⟨hown1⟩
       clear hown1 hg1 hat1))
  go_ret
  have HO2 : O64 w1 w.heap.size v1 xs := by have := HO.out; rw [Nat.zero_add, List.nil_append, ← HL.out] at this; exact this
  obtain ⟨A1, c1, rfl, _⟩ := HO2.form
  exact ⟨A1, _, c1, xs, rfl, rfl, rfl, HO2, hbw1.out⟩

theorem s_Own' (A : Option Addr) (n c : Nat) (xs : List Int) (w : World) (hl : xs.length = n) (h : R64 w A xs) (hn : n ≤ LIM) :
    Calls Try.prog 226 #[.slice A n c] w (RetO (· = xs) w) := by
  subst hl; exact s_Own A c xs w h hn
/-! Whole numbers of the reference in memory -/
/-- the digits and the sign of a whole number -/
structure NumS (s : Int) (xs : List Int) (a : Int) : Prop where
  can : Canon 16777216 xs
  sgn : (s = 0 ∧ xs = []) ∨ ((s = 1 ∨ s = -1) ∧ xs ≠ [])
  eq : a = s * val 16777216 xs
/-- what a call that hands back a new whole number leaves -/
def RetW (a : Int) (w : World) (e : Ending) (w' : World) : Prop :=
  ∃ s A n c xs, e = .returned (.agg #[.int .i64 s, .slice A n c]) ∧ n = xs.length ∧ NumS s xs a ∧ O64 w' w.heap.size (.slice A n c) xs ∧ Below w.heap.size w w'
theorem cutAt (xs : List Int) (k : Nat) (hk : k ≤ xs.length) (hz : ∀ j, k ≤ j → j < xs.length → xs.getD j 0 = 0) (hl : k = 0 ∨ xs.getD (k - 1) 0 ≠ 0) (h : Rng 16777216 xs) :
    Canon 16777216 (xs.take k) ∧ val 16777216 (xs.take k) = val 16777216 xs :=
  ⟨⟨h.take k, Lst.take hk hl⟩, by rw [← val_take_zeros 16777216 xs k xs.length hk hz, List.take_of_length_le (Nat.le_refl _)]⟩
theorem R64.take {w : World} {A : Option Addr} {xs : List Int} (h : R64 w A xs) (k : Nat) : R64 w A (xs.take k) := by
  refine ⟨by simp [c64], fun hn => ?_⟩
  rw [List.length_take] at hn
  obtain ⟨ad, e, hb, hc⟩ := h.2 (by omega)
  refine ⟨ad, e, hb, fun j u hu => hc j u ?_⟩
  simp only [c64, List.getElem?_map, List.getElem?_take] at hu ⊢
  split at hu
  · exact hu
  · simp at hu
set_option maxHeartbeats 2000000 in
theorem s_MakeL (sg : Int) (A : Option Addr) (c : Nat) (xs : List Int) (w : World) (h : R64 w A xs) (hn : xs.length ≤ LIM) (hcap : xs.length ≤ c) (hr : Rng 16777216 xs) (hs : sg = 1 ∨ sg = -1 ∨ val 16777216 xs = 0) :
    Calls Try.prog 211 #[.int .i64 sg, .slice A xs.length c] w (RetW (sg * val 16777216 xs) w) := by
  have HR : Hd (R64 w A xs) := ⟨h⟩
  have HN : Hd (xs.length ≤ LIM) := ⟨hn⟩
  have HS : Hd (sg = 1 ∨ sg = -1 ∨ val 16777216 xs = 0) := ⟨hs⟩
  have HG : Hd (Rng 16777216 xs) := ⟨hr⟩
  have hm : xs.length ≤ 9223372036854775807 := by unfold LIM at hn; omega
  clear h hn hs hr
  generalize hN : xs.length = n at *
  have HL : Hd (xs.length = n) := ⟨hN⟩
  clear hN
  go_enter Try.func211, Try.ntmps211
  go_wp2
  go_loop [5] (fun i => ∃ k : Nat, k ≤ n ∧ i = .int .i64 k ∧ Hd (∀ j, k ≤ j → j < n → xs.getD j 0 = 0)) (fun i => (intOf i).toNat)
  case atStart => exact ⟨n, Nat.le_refl _, rfl, ⟨fun j h1 h2 => by omega⟩⟩
  case round =>
    obtain ⟨k, hk, rfl, HZ⟩ := hrel
    by_cases hp : 0 < k
    · obtain ⟨m, rfl⟩ : ∃ m, k = m + 1 := ⟨k - 1, by omega⟩
      obtain ⟨ad, rfl, hcell⟩ := HR.out.at_ (k := m) (by have := HL.out; omega)
      have hcell2 : (w.alloc (Obj.cells #[Value.int .i64 0, Value.slice none 0 0] 33)).cell? (ad.add m) = some (.int .i64 (xs.getD m 0)) := cb ((Below.refl _ _).alloc (Nat.le_refl _) _) hcell
      clear hcell
      generalize hy : xs.getD m 0 = y at *
      have HY : Hd (xs.getD m 0 = y) := ⟨hy⟩
      clear hy
      by_cases hz : y = 0
      · have hd : (y == 0) = true := by simpa using hz
        have HZ0 : Hd (y = 0) := ⟨hz⟩
        clear hz
        go_wp2
        refine ⟨⟨m, by omega, rfl, ⟨fun j h1 h2 => ?_⟩⟩, by simp [intOf]⟩
        by_cases e : j = m
        · subst e; rw [HY.out, HZ0.out]
        · exact HZ.out j (by omega) h2
      · have hd : (y == 0) = false := by simpa using hz
        have HZ0 : Hd (y ≠ 0) := ⟨hz⟩
        clear hz
        have hk2 : m + 1 ≤ c := by omega
        go_wp2_with (go_at_call 226; (with_reducible refine (s_Own' _ _ _ (xs.take (m + 1)) _ ?c1 ?c2 ?c3).mono ?_); (case c1 => (have := HL.out; simp; omega)); (case c2 => exact (HR.out.take (m + 1)).below ((Below.refl _ _).alloc (Nat.le_refl _) _)); (case c3 => (have := HN.out; omega)); rintro e w1 ⟨A1, n1, c1, xs1, rfl, hn1, rfl, ho, hb⟩; obtain rfl : n1 = m + 1 := hn1.trans (by have := HL.out; simp; omega); clear hn1; have HO : Hd (O64 w1 (w.heap.size + 1) (.slice A1 (m + 1) c1) (xs.take (m + 1))) := ⟨by simpa using ho⟩; clear ho; obtain ⟨hc, hf, hz, hy⟩ := bcell hb)
        have hlen : (xs.take (m + 1)).length = m + 1 := by have := HL.out; simp; omega
        have HS1 : Hd (NumS sg (xs.take (m + 1)) (sg * val 16777216 xs)) := ⟨by
          obtain ⟨h1, h2⟩ := cutAt xs (m + 1) (by have := HL.out; omega) (fun j h1 h2 => HZ.out j h1 (by have := HL.out; omega)) (.inr (by simp only [Nat.add_sub_cancel]; rw [HY.out]; exact HZ0.out)) HG.out
          have hne : xs.take (m + 1) ≠ [] := fun e => by rw [e] at hlen; simp at hlen
          refine ⟨h1, .inr ⟨?_, hne⟩, by rw [h2]⟩
          rcases HS.out with h | h | h
          · exact .inl h
          · exact .inr h
          · rw [← h2] at h; have := h1.pos (by decide) hne; omega⟩
        go_wp2_with fail
        refine bodyPost_ret (v := .agg #[.int .i64 sg, .slice A1 (m + 1) c1]) (by simp (maxDischargeDepth := 7) [results, Try.results211, go_sem, *]) rfl ⟨sg, A1, m + 1, c1, xs.take (m + 1), rfl, hlen.symm, HS1.out, ?_, ?_⟩
        · exact O64.mono (B := w.heap.size + 1) (ownsRow_setCell_below (ownsRow_setCell_below HO.out (by simp) _) (by simp) _) (by omega)
        · (repeat (first | exact Below.refl _ _ | refine Below.drew ?_ | refine ba _ ?_ | refine bs0 _ _ ?_ ?_ | refine bs1 _ _ _ ?_ ?_ | refine bs2 _ _ _ _ ?_ ?_ | refine bs3 _ _ _ _ _ ?_ ?_ | refine bt3 (by assumption) ?_))
    · obtain rfl : k = 0 := by omega
      have HV : Hd (NumS 0 [] (sg * val 16777216 xs)) := ⟨by
        obtain ⟨h1, h2⟩ := cutAt xs 0 (by omega) (fun j h1 h2 => HZ.out j h1 (by have := HL.out; omega)) (.inl rfl) HG.out
        refine ⟨Canon.nil _, .inl ⟨rfl, rfl⟩, ?_⟩
        rw [← h2]; show sg * val 16777216 [] = 0 * val 16777216 []; simp [val]⟩
      go_wp2_with fail
      refine bodyPost_ret (v := .agg #[.int .i64 0, .slice none 0 0]) (by simp (maxDischargeDepth := 7) [results, Try.results211, go_sem, *]) rfl ⟨0, none, 0, 0, [], rfl, rfl, HV.out, World.ownsRow_nil _ _ _ _, ?_⟩
      exact ba _ (Below.refl _ _)
end Go.Proofs.Ytmiafbbndonpaaa
