/- Ha: V9 V10 V11 V12, merged. -/
import Derived.Test.YtlaaielopcphiaaGz
import Derived.Test.YtlaaielopcphiaaGn
import Derived.Test.YtlaaielopcphiaaGj
import Derived.Test.YtlaaielopcphiaaGa
import Derived.Test.YtlaaielopcphiaaGy
import Derived.Test.YtlaaielopcphiaaGi
import Derived.Test.YtlaaielopcphiaaGg
import Derived.Test.YtlaaielopcphiaaGf
/- Contracts: which dyadic numbers an interval holds, the reference. -/
set_option linter.unusedVariables false
set_option linter.unusedSimpArgs false
namespace Go.Proofs.Ytlaaielopcphiaa
open Go.RowKit Num Flt
/-- the cells that the comparison reads -/
def HoC (w : World) (a b : Nat) (s x : Int) (A : Option Addr) (n c : Nat) (w' : World) : Prop := w'.cell? ⟨w.heap.size, 0, none⟩ = some (.float .f32 a) ∧ w'.cell? ⟨w.heap.size, 1, none⟩ = some (.float .f32 b) ∧ w'.cell? ⟨w.heap.size + 1, 0, none⟩ = some (.int .i64 s) ∧ w'.cell? ⟨w.heap.size + 1, 1, none⟩ = some (.slice A n c) ∧ w'.cell? ⟨w.heap.size + 1, 2, none⟩ = some (.int .i64 x)
end Go.Proofs.Ytlaaielopcphiaa

/- Contracts: HasDyadic of the reference. -/
set_option linter.unusedVariables false
set_option linter.unusedSimpArgs false
set_option exponentiation.threshold 40000
namespace Go.Proofs.Ytlaaielopcphiaa
open Go.RowKit Num Flt
theorem val_low {L : List Int} : val 16777216 L % 2 = L.getD 0 0 % 2 := by
  cases L with
  | nil => rfl
  | cons y t => simp [val]; omega
theorem isDB.dyf {s x : Int} {L : List Int} (h : isDB s L x) : ∃ m, NumS s L m ∧ DyF m x (dv m x) 3000 ∧ (dv m x).natAbs < 2 ^ 30000 := by
  obtain ⟨⟨h1, h2, h3, h4⟩, h5⟩ := h
  have hv0 := val_nonneg (B := 16777216) (by decide) h2
  have hv1 := val_lt (B := 16777216) (by decide) h2
  have hlow := val_low (L := L)
  have hp : (16777216 : Int) ^ L.length ≤ 16777216 ^ 100 := pow_le (by decide) h1
  have hq : (16777216 : Int) ^ 100 = ((2 ^ 2400 : Nat) : Int) := by
    rw [Int.natCast_pow]; exact p24 100
  have hnum : NumS s L (s * val 16777216 L) := ⟨⟨h2, h3⟩, h4, rfl⟩
  have hx : -3000 ≤ x ∧ x ≤ 3000 := by rcases h5 with ⟨_, k⟩ | ⟨_, _, k⟩; omega; exact k
  have hab : (s * val 16777216 L).natAbs ≤ 2 ^ 2400 := by
    rw [hq] at hp
    rcases h4 with ⟨rfl, _⟩ | ⟨rfl | rfl, _⟩
    · simp
    · generalize (2 : Nat) ^ 2400 = t at *; omega
    · generalize (2 : Nat) ^ 2400 = t at *; omega
  have hsm : (dv (s * val 16777216 L) x).natAbs < 2 ^ 30000 := by
    rw [dv_abs]
    have k1 : 2 ^ (x + 20000).toNat ≤ 2 ^ 23000 := Nat.pow_le_pow_right (by decide) (by omega)
    have k2 := Nat.mul_le_mul hab k1
    rw [← Nat.pow_add] at k2
    exact Nat.lt_of_le_of_lt k2 (Nat.pow_lt_pow_right (by decide) (by decide))
  have hbd : Bd (dv (s * val 16777216 L) x) := by
    have k1 : TOP = 2 ^ (24 * 100000) := p24 100000
    have k2 : (2 : Int) ^ 30000 ≤ 2 ^ (24 * 100000) := pow_le (by decide) (by decide)
    have k3 : ((2 ^ 30000 : Nat) : Int) = (2 : Int) ^ 30000 := by rw [Int.natCast_pow]; rfl
    unfold Bd
    rw [← k1] at k2
    generalize TOP = T at *
    generalize (2 : Int) ^ 30000 = u at *
    generalize (2 : Nat) ^ 30000 = v at *
    omega
  refine ⟨_, hnum, ⟨rfl, by omega, by unfold SC; omega, by omega, ?_, ?_, hbd⟩, hsm⟩
  · intro h0
    rcases h5 with ⟨_, k⟩ | ⟨k0, k1, _⟩
    · exact k
    · exfalso
      rcases h4 with ⟨k, _⟩ | ⟨rfl | rfl, _⟩
      · exact k0 k
      · omega
      · omega
  · intro h0
    rcases h5 with ⟨k, _⟩ | ⟨k0, k1, _⟩
    · exfalso; rw [k] at h0; simp at h0
    · rcases h4 with ⟨k, _⟩ | ⟨rfl | rfl, _⟩
      · exact absurd k k0
      · omega
      · omega
theorem bd_close {U V : Int} (h : U.natAbs < 2 ^ 20200) (h' : V.natAbs < 2 ^ 30000) : Bd (U - V) ∧ Bd (V - U) := by
  have k0 : (2 : Nat) ^ 20200 ≤ 2 ^ 30000 := Nat.pow_le_pow_right (by decide) (by decide)
  have k1 : TOP = 2 ^ (24 * 100000) := p24 100000
  have k2 : (2 : Int) ^ 30001 ≤ 2 ^ (24 * 100000) := pow_le (by decide) (by decide)
  have k3 : ((2 ^ 30000 : Nat) : Int) = (2 : Int) ^ 30000 := by rw [Int.natCast_pow]; rfl
  have k4 : (2 : Int) ^ 30001 = 2 ^ 30000 * 2 := Int.pow_succ _ _
  unfold Bd
  rw [← k1, k4] at k2
  generalize TOP = T at *
  generalize (2 : Int) ^ 30000 = u at *
  generalize (2 : Nat) ^ 30000 = v at *
  generalize (2 : Nat) ^ 20200 = t at *
  omega
theorem sgn_le (u : Int) : u.sign ≤ 0 ↔ u ≤ 0 := by
  rcases Int.lt_trichotomy u 0 with h | h | h
  · rw [Int.sign_eq_neg_one_of_neg h]; omega
  · subst h; simp
  · rw [Int.sign_eq_one_of_pos h]; omega
/-- the interval holds the number -/
def hdP (a b : Nat) (V : Int) : Prop := (fin a → fv a ≤ V) ∧ (fin b → V ≤ fv b)
/-- what HasDyadic answers -/
def HdA (a b : Nat) (s : Int) (L : List Int) (x : Int) (q : Bool) (z : Int) : Prop :=
  (¬(IsIv a b ∧ isDB s L x) ∧ q = false ∧ z = 1) ∨ (IsIv a b ∧ isDB s L x ∧ z = 0 ∧ ∃ m, NumS s L m ∧ (q = true ↔ hdP a b (dv m x)))
theorem HdA.uniq {a b : Nat} {s x z z' : Int} {L : List Int} {q q' : Bool} (h : HdA a b s L x q z) (h' : HdA a b s L x q' z') : q' = q ∧ z' = z := by
  rcases h with ⟨h0, rfl, rfl⟩ | ⟨h1, h2, rfl, m, hm, hq⟩
  · rcases h' with ⟨_, rfl, rfl⟩ | ⟨k1, k2, _⟩
    · exact ⟨rfl, rfl⟩
    · exact absurd ⟨k1, k2⟩ h0
  · rcases h' with ⟨k0, _⟩ | ⟨_, _, rfl, m', hm', hq'⟩
    · exact absurd ⟨h1, h2⟩ k0
    · have : m' = m := by rw [hm.eq, hm'.eq]
      subst this
      refine ⟨?_, rfl⟩
      have := hq'.trans hq.symm
      cases q <;> cases q' <;> simp_all
def RetHd (a b : Nat) (s : Int) (L : List Int) (x : Int) (w : World) (e : Ending) (w' : World) : Prop := ∃ q z, HdA a b s L x q z ∧ e = .returned (.tuple #[.bool q, .int .i64 z]) ∧ Below w.heap.size w w'
end Go.Proofs.Ytlaaielopcphiaa

/- Contracts: HasDyadic of the program. -/
set_option linter.unusedVariables false
set_option linter.unusedSimpArgs false
namespace Go.Proofs.Ytlaaielopcphiaa
open Go.RowKit Num Flt
theorem sgn_ge (u : Int) : u.sign ≥ 0 ↔ u ≥ 0 := by
  rcases Int.lt_trichotomy u 0 with h | h | h
  · rw [Int.sign_eq_neg_one_of_neg h]; omega
  · subst h; simp
  · rw [Int.sign_eq_one_of_pos h]; omega
end Go.Proofs.Ytlaaielopcphiaa

/- Contracts: sizes and copies of dyadic numbers as the statements make them; a dyadic argument opened. -/
set_option linter.unusedVariables false
set_option linter.unusedSimpArgs false
namespace Go.Proofs.Ytlaaielopcphiaa
open Go.ChangeShapes Go.WideShapes Go.ChangeAt Go.RowKit Go.Joins Go.Deep Num Flt
/-- the size that is left -/
def szZ (n : Nat) (z : Int) : Prop := ((n : Int) ≤ 1048576 ∧ z = 1048576 - n ∧ 0 ≤ z) ∨ (1048576 < (n : Int) ∧ z = -1)
set_option maxHeartbeats 4000000 in
theorem l_szI (A : Option Addr) (n c : Nat) (z : Int) (w : World) (hl : n ≤ maxLen) (hz : szZ n z) :
    Calls Try.prog 59 #[.slice A n c, .int .i64 1048576] w fun e w' => e = .returned (.int .i64 z) ∧ w = w' := by
  have hnI : (n : Int) ≤ 9223372036854775807 := by unfold maxLen at hl; omega
  have hw : IntKind.i64.wrap (1048576 - (n : Int)) = 1048576 - n := by rw [IntKind.wrap_i64]; omega
  rcases hz with ⟨h1, rfl, h2⟩ | ⟨h1, rfl⟩
  · have h3 : ¬ (1048576 - (n : Int) < 0) := by omega
    clear hl
    go_enter Try.func59, Try.ntmps59
    go_wp2_with fail
    go_ret
    exact ⟨by first | rfl | rw [hw], rfl⟩
  · have h3 : 1048576 - (n : Int) < 0 := by omega
    clear hl
    go_enter Try.func59, Try.ntmps59
    go_wp2_with fail
    go_ret
    exact ⟨rfl, rfl⟩
set_option maxHeartbeats 4000000 in
theorem l_szW (s : Int) (A : Option Addr) (n c : Nat) (z : Int) (w : World) (hl : n ≤ maxLen) (hz : szZ n z) :
    Calls Try.prog 19 #[.agg #[.int .i64 s, .slice A n c], .int .i64 1048576] w fun e w' => e = .returned (.int .i64 z) ∧ Below w.heap.size w w' := by
  have HC := Hd.mk (fun w => l_szI A n c z w hl hz)
  by_cases hn : z < 0
  · have hz1 : z = -1 := by rcases hz with ⟨_, _, _⟩ | ⟨_, h⟩; omega; exact h
    subst hz1
    clear hl hz hn
    go_enter Try.func19, Try.ntmps19
    go_wp2_with (go_at_call 59; (with_reducible refine (HC.out _).mono ?_); rintro e w' ⟨rfl, rfl⟩)
    go_ret
    exact ⟨rfl, by (repeat (first | exact Below.refl _ _ | assumption | refine Below.drew ?_ | refine bdn ?_ | refine ba _ ?_ | refine bs0 _ _ ?_ ?_ | refine bs1 _ _ _ ?_ ?_ | refine bs2 _ _ _ _ ?_ ?_ | refine bs3 _ _ _ _ _ ?_ ?_ | refine bt3 (by assumption) ?_))⟩
  · clear hl hz
    go_enter Try.func19, Try.ntmps19
    go_wp2_with (go_at_call 59; (with_reducible refine (HC.out _).mono ?_); rintro e w' ⟨rfl, rfl⟩)
    go_ret
    exact ⟨rfl, by (repeat (first | exact Below.refl _ _ | assumption | refine Below.drew ?_ | refine bdn ?_ | refine ba _ ?_ | refine bs0 _ _ ?_ ?_ | refine bs1 _ _ _ ?_ ?_ | refine bs2 _ _ _ _ ?_ ?_ | refine bs3 _ _ _ _ _ ?_ ?_ | refine bt3 (by assumption) ?_))⟩
set_option maxHeartbeats 4000000 in
theorem l_szD (s x : Int) (A : Option Addr) (n c : Nat) (z : Int) (w : World) (hl : n ≤ maxLen) (hz : szZ n z) :
    Calls Try.prog 6 #[.agg #[.int .i64 s, .slice A n c, .int .i64 x], .int .i64 1048576] w fun e w' => e = .returned (.int .i64 z) ∧ Below w.heap.size w w' := by
  have HC := Hd.mk (fun w => l_szW s A n c z w hl hz)
  by_cases hn : z < 0
  · have hz1 : z = -1 := by rcases hz with ⟨_, _, _⟩ | ⟨_, h⟩; omega; exact h
    subst hz1
    clear hl hz hn
    go_enter Try.func6, Try.ntmps6
    go_wp2_with (go_at_call 19; (with_reducible refine (HC.out _).mono ?_); rintro e w' ⟨rfl, hb⟩; (try replace hb := bt3 hb (by assumption)); obtain ⟨hc, hf, hz, hy⟩ := bcell hb; have hs := hb.size; (try simp at hs); (try have h0 : w.heap.size < w'.heap.size := by omega); (try have h1 : w.heap.size + 1 < w'.heap.size := by omega); (try have h2 : w.heap.size + 1 + 1 < w'.heap.size := by omega); (try have h3 : w.heap.size + 1 + 1 + 1 < w'.heap.size := by omega); clear hs)
    go_ret
    exact ⟨rfl, by (repeat (first | exact Below.refl _ _ | assumption | refine Below.drew ?_ | refine bdn ?_ | refine ba _ ?_ | refine bs0 _ _ ?_ ?_ | refine bs1 _ _ _ ?_ ?_ | refine bs2 _ _ _ _ ?_ ?_ | refine bs3 _ _ _ _ _ ?_ ?_ | refine bt3 (by assumption) ?_))⟩
  · clear hl hz
    go_enter Try.func6, Try.ntmps6
    go_wp2_with (go_at_call 19; (with_reducible refine (HC.out _).mono ?_); rintro e w' ⟨rfl, hb⟩; (try replace hb := bt3 hb (by assumption)); obtain ⟨hc, hf, hz, hy⟩ := bcell hb; have hs := hb.size; (try simp at hs); (try have h0 : w.heap.size < w'.heap.size := by omega); (try have h1 : w.heap.size + 1 < w'.heap.size := by omega); (try have h2 : w.heap.size + 1 + 1 < w'.heap.size := by omega); (try have h3 : w.heap.size + 1 + 1 + 1 < w'.heap.size := by omega); clear hs)
    go_ret
    exact ⟨rfl, by (repeat (first | exact Below.refl _ _ | assumption | refine Below.drew ?_ | refine bdn ?_ | refine ba _ ?_ | refine bs0 _ _ ?_ ?_ | refine bs1 _ _ _ ?_ ?_ | refine bs2 _ _ _ _ ?_ ?_ | refine bs3 _ _ _ _ _ ?_ ?_ | refine bt3 (by assumption) ?_))⟩
def CopI (xs : List Int) (k : Nat) (zs : List Int) : Prop := zs.length = xs.length ∧ zs.take k = xs.take k
theorem CopI.next {xs zs : List Int} {k : Nat} (h : CopI xs k zs) (hk : k < xs.length) : CopI xs (k + 1) (zs.set k (xs.getD k 0)) := by
  obtain ⟨h1, h2⟩ := h
  refine ⟨by simpa using h1, ?_⟩
  rw [List.take_succ_eq_append_getElem (by simp; omega), List.take_set_of_le (Nat.le_refl k), List.take_succ_eq_append_getElem hk, h2]
  simp [List.getD_eq_getElem?_getD, List.getElem?_eq_getElem hk]
/-- a copy of a list of integers -/
def RetI64 (xs : List Int) (w : World) (e : Ending) (w' : World) : Prop := ∃ g, e = .returned (.slice (some ⟨g, 0, none⟩) xs.length xs.length) ∧ w.heap.size ≤ g ∧ Row64 w' g xs ∧ Below w.heap.size w w'
set_option maxHeartbeats 4000000 in
theorem l_toI (A : Option Addr) (n c : Nat) (xs : List Int) (w : World) (hn : n = xs.length) (hl : n ≤ LIM) (hR : R64 w A xs) :
    Calls Try.prog 65 #[.slice A n c] w (RetI64 xs w) := by
  have HR : Hd (R64 w A xs) := ⟨hR⟩
  have HN : Hd (n = xs.length) := ⟨hn⟩
  have hnI : (n : Int) ≤ 1099511627776 := by unfold LIM at hl; omega
  have HL : Hd (n ≤ LIM) := ⟨hl⟩
  clear hn hl hR
  go_enter Try.func65, Try.ntmps65
  go_wp2_with ((with_reducible refine wpList_makeR64 _ rfl (.tmp 6) (.tmp 6) rfl n _ rfl rfl (by omega) HL.out ?_); intro w1 hr1 hb1; have HR1 : Hd (Row64 w1 w.heap.size (List.replicate n 0)) := ⟨hr1⟩; have HB1 : Hd (Below w.heap.size w w1) := ⟨hb1⟩; clear hr1 hb1)
  go_loopw [4] (fun i wr => ∃ (k : Nat) (zs : List Int), i = .int .i64 k ∧ (k : Int) ≤ n ∧ Hd (CopI xs k zs) ∧ Hd (Row64 wr w.heap.size zs) ∧ Hd (Below w.heap.size w wr))
    (fun i _ => n - (intOf i).toNat)
  case atStart => exact ⟨0, List.replicate n 0, rfl, by omega, ⟨by simp [HN.out], by simp⟩, HR1, HB1⟩
  case round =>
    obtain ⟨k, zs, rfl, hk, HP, HZ, HB⟩ := hrel
    by_cases h1 : k < n
    · obtain ⟨ad, hA, hcx⟩ := HR.out.at_ (k := k) (by have := HN.out; omega)
      subst hA
      replace hcx := (HB.out.cell (World.block_lt_of_cell? w _ hcx)).trans hcx
      have f0 : wr.frozen? ⟨w.heap.size, k, none⟩ = false := Blk.frozen HZ.out k
      have d0 := Row64.cell HZ.out (i := k) (by have := HP.out.1; have := HN.out; omega)
      have HX := Hd.mk (HP.out.next (by have := HN.out; omega : k < xs.length))
      generalize hex : xs.getD k 0 = x at *
      clear hex
      go_wp2
      go_roundw
      case rel => exact ⟨k + 1, _, by go_num, by omega, HX, ⟨by have := HZ.out.set k x; simpa using this⟩, ⟨HB.out.setCell (Nat.le_refl _) _⟩⟩
      case measure => simp [intOf]; omega
    · have HE : Hd (zs = xs) := ⟨by
        have h := HP.out.2
        rwa [List.take_of_length_le (by have := HP.out.1; have := HN.out; omega), List.take_of_length_le (by have := HN.out; omega)] at h⟩
      go_wp2
      go_ret
      exact ⟨w.heap.size, by rw [← HN.out]; rfl, Nat.le_refl _, by rw [← HE.out]; exact HZ.out, HB.out⟩
theorem Row64.far {w : World} {g : Nat} {xs : List Int} (h : Row64 w g xs) {p : Addr} (hp : g ≠ p.block) (u : Value) : Row64 (w.setCell p u) g xs := Blk.far h hp u
/-- copies -/
def RetCW (s : Int) (xs : List Int) (w : World) (e : Ending) (w' : World) : Prop := ∃ g, e = .returned (.agg #[.int .i64 s, .slice (some ⟨g, 0, none⟩) xs.length xs.length]) ∧ w.heap.size ≤ g ∧ Row64 w' g xs ∧ Below w.heap.size w w'
def RetCD (s : Int) (xs : List Int) (x : Int) (w : World) (e : Ending) (w' : World) : Prop := ∃ g, e = .returned (.agg #[.int .i64 s, .slice (some ⟨g, 0, none⟩) xs.length xs.length, .int .i64 x]) ∧ w.heap.size ≤ g ∧ Row64 w' g xs ∧ Below w.heap.size w w'
set_option maxHeartbeats 4000000 in
theorem l_toW (s : Int) (A : Option Addr) (n c : Nat) (xs : List Int) (w : World) (hn : n = xs.length) (hl : n ≤ LIM) (hR : R64 w A xs) :
    Calls Try.prog 25 #[.agg #[.int .i64 s, .slice A n c]] w (RetCW s xs w) := by
  have HC := Hd.mk (fun w hR => l_toI A n c xs w hn hl hR)
  have HR := Hd.mk hR
  clear hn hl hR
  go_enter Try.func25, Try.ntmps25
  go_wp2_with (go_at_call 65; (with_reducible refine (HC.out _ (HR.out.below (by (repeat (first | exact Below.refl _ _ | assumption | refine Below.drew ?_ | refine bdn ?_ | refine ba _ ?_ | refine bs0 _ _ ?_ ?_ | refine bs1 _ _ _ ?_ ?_ | refine bs2 _ _ _ _ ?_ ?_ | refine bs3 _ _ _ _ _ ?_ ?_ | refine bt3 (by assumption) ?_))))).mono ?_); rintro e w1 ⟨g, rfl, hgg, hR, hb⟩; have HR1 := Hd.mk hR; have HB1 : Hd (Below w.heap.size w w1) := ⟨bt3 hb (by (repeat (first | exact Below.refl _ _ | assumption | refine Below.drew ?_ | refine bdn ?_ | refine ba _ ?_ | refine bs0 _ _ ?_ ?_ | refine bs1 _ _ _ ?_ ?_ | refine bs2 _ _ _ _ ?_ ?_ | refine bs3 _ _ _ _ _ ?_ ?_ | refine bt3 (by assumption) ?_)))⟩; have HG : Hd (w.heap.size + 1 + 1 < g) := ⟨by simp at hgg; omega⟩; obtain ⟨hc, hf, hz, hy⟩ := bcell hb; have hs := hb.size; (try simp at hs); have h0 : w.heap.size < w1.heap.size := (by omega); have h1 : w.heap.size + 1 < w1.heap.size := (by omega); have h2 : w.heap.size + 1 + 1 < w1.heap.size := (by omega); clear hs hR hb hgg)
  have hb1 := HB1.out
  refine bodyPost_ret (v := .agg #[.int .i64 s, .slice (some ⟨g, 0, none⟩) xs.length xs.length]) (by simp (maxDischargeDepth := 7) [results, Try.results25, go_sem, *]) rfl ?_
  refine ⟨g, rfl, by have := HG.out; omega, ?_, ?_⟩; (repeat (first | with_reducible exact HR1.out | with_reducible refine Row64.far ?_ (show g ≠ _ by have := HG.out; dsimp only; omega) _)); (repeat (first | exact Below.refl _ _ | assumption | refine Below.drew ?_ | refine bdn ?_ | refine ba _ ?_ | refine bs0 _ _ ?_ ?_ | refine bs1 _ _ _ ?_ ?_ | refine bs2 _ _ _ _ ?_ ?_ | refine bs3 _ _ _ _ _ ?_ ?_ | refine bt3 (by assumption) ?_))
set_option maxHeartbeats 4000000 in
theorem l_toD (s x : Int) (A : Option Addr) (n c : Nat) (xs : List Int) (w : World) (hn : n = xs.length) (hl : n ≤ LIM) (hR : R64 w A xs) :
    Calls Try.prog 9 #[.agg #[.int .i64 s, .slice A n c, .int .i64 x]] w (RetCD s xs x w) := by
  have HC := Hd.mk (fun w hR => l_toW s A n c xs w hn hl hR)
  have HR := Hd.mk hR
  clear hn hl hR
  go_enter Try.func9, Try.ntmps9
  go_wp2_with (go_at_call 25; (with_reducible refine (HC.out _ (HR.out.below (by (repeat (first | exact Below.refl _ _ | assumption | refine Below.drew ?_ | refine bdn ?_ | refine ba _ ?_ | refine bs0 _ _ ?_ ?_ | refine bs1 _ _ _ ?_ ?_ | refine bs2 _ _ _ _ ?_ ?_ | refine bs3 _ _ _ _ _ ?_ ?_ | refine bt3 (by assumption) ?_))))).mono ?_); rintro e w1 ⟨g, rfl, hgg, hR, hb⟩; have HR1 := Hd.mk hR; have HB1 : Hd (Below w.heap.size w w1) := ⟨bt3 hb (by (repeat (first | exact Below.refl _ _ | assumption | refine Below.drew ?_ | refine bdn ?_ | refine ba _ ?_ | refine bs0 _ _ ?_ ?_ | refine bs1 _ _ _ ?_ ?_ | refine bs2 _ _ _ _ ?_ ?_ | refine bs3 _ _ _ _ _ ?_ ?_ | refine bt3 (by assumption) ?_)))⟩; have HG : Hd (w.heap.size + 1 + 1 < g) := ⟨by simp at hgg; omega⟩; obtain ⟨hc, hf, hz, hy⟩ := bcell hb; have hs := hb.size; (try simp at hs); have h0 : w.heap.size < w1.heap.size := (by omega); have h1 : w.heap.size + 1 < w1.heap.size := (by omega); have h2 : w.heap.size + 1 + 1 < w1.heap.size := (by omega); clear hs hR hb hgg)
  have hb1 := HB1.out
  refine bodyPost_ret (v := .agg #[.int .i64 s, .slice (some ⟨g, 0, none⟩) xs.length xs.length, .int .i64 x]) (by simp (maxDischargeDepth := 7) [results, Try.results9, go_sem, *]) rfl ?_
  refine ⟨g, rfl, by have := HG.out; omega, ?_, ?_⟩
  · (repeat (first | with_reducible exact HR1.out | with_reducible refine Row64.far ?_ (show g ≠ _ by have := HG.out; dsimp only; omega) _))
  · (repeat (first | with_reducible exact hb1 | with_reducible refine Below.setCell ?_ (show w.heap.size ≤ _ by dsimp only; omega) _))
section
variable {H : Type} {enc : TypeId × Value → H} {P : Program} {w : World} {base : Nat} {held : Bool}
/-- a dyadic argument, opened -/
theorem open_dy {r : Reach} {b0 : Nat} {t e : TypeId} {f0 f1 g0 g1 : Field} {v : Value} {d : DataW H} {p : List MemPlace} (hD : P.underlying t = some (.struct #[f0, f1])) (hW : P.underlying f0.type = some (.struct #[g0, g1]))
    (h1 : P.underlying f1.type = some (.int .i64)) (k0 : P.underlying g0.type = some (.int .i64)) (k1 : P.underlying g1.type = some (.slice e)) (he : P.underlying e = some (.int .i64))
    (hs : (P.cellsOf t == 3 && P.cellsOf f0.type == 2 && P.cellsOf f1.type == 1 && P.cellsOf g0.type == 1 && P.cellsOf g1.type == 1 && P.cellsOf e == 1 && f0.offset == 0 && f1.offset == 2 && g0.offset == 0 && g1.offset == 1) = true)
    (hv : Value.okWide P w r b0 t v) (h : DataW.Trod enc P w base (fun _ => true) held t v d p) :
    ∃ s A n c xs x, v = .agg #[.int .i64 s, .slice A n c, .int .i64 x] ∧ n = xs.length ∧ n ≤ c ∧ c ≤ maxLen ∧ R64 w A xs := by
  simp only [Bool.and_eq_true, beq_iff_eq] at hs
  obtain ⟨⟨⟨⟨⟨⟨⟨⟨⟨c0, c1⟩, c2⟩, c3⟩, c4⟩, c5⟩, o0⟩, o1⟩, o2⟩, o3⟩ := hs
  obtain ⟨cs, rfl, hsz⟩ := okWide_struct hD hv
  rw [c0] at hsz
  obtain ⟨u0, u1, u2, rfl⟩ : ∃ u0 u1 u2, cs = #[u0, u1, u2] := by
    rcases cs with ⟨l⟩
    match l, hsz with
    | [a, b, c], _ => exact ⟨a, b, c, rfl⟩
  obtain ⟨fuel, hf⟩ := h
  have hf' : DataW.trod enc P w base (fun _ => true) held fuel t [u0, u1, u2] = some (d, p) := by simpa [Value.cells] using hf
  obtain ⟨y0, y1, m, _, _, e0, e1⟩ := trod_struct2 hD hf'
  rw [c1, o0] at e0
  rw [c2, o1] at e1
  obtain ⟨z0, z1, m', _, _, e2, e3⟩ := trod_struct2 hW e0
  rw [c3, o2] at e2
  rw [c4, o3] at e3
  obtain ⟨s, hs0, _, _⟩ := DataW.trod_int k0 e2
  obtain ⟨x, hx0, _, _⟩ := DataW.trod_int h1 e1
  simp at hs0 hx0
  subst hs0 hx0
  rcases open_slice1 k1 c5 e3 with ⟨q1, _⟩ | ⟨a, len, cap, mm, k, V, D, Pl, q1, hb, hl, hm, hmm, _, hx⟩
  · simp at q1
    subst q1
    exact ⟨s, none, 0, 0, [], x, rfl, rfl, Nat.le_refl _, Nat.zero_le _, R64.nil _⟩
  · simp at q1
    subst q1
    simp at hmm
    subst hmm
    have key : ∀ i, i < mm → ∃ y : Int, V i = .int .i64 y := fun i hi => by
      obtain ⟨y, e2, _, _⟩ := DataW.trod_int he (hx i hi).2
      simp at e2
      exact ⟨y, e2⟩
    obtain ⟨Y, hY⟩ := choose_lt (α := Int) (p := fun i y => V i = .int .i64 y) key
    have hYn : ∀ i, i < len → V i = .int .i64 (Y i) := fun i hi => hY i (by omega)
    refine ⟨s, some a, len, mm, (List.range len).map Y, x, rfl, by simp, hl, hm, ⟨by simp [c64], fun hn => ⟨a, rfl, ?_, fun j u hu => ?_⟩⟩⟩
    · have := World.block_lt_of_cell? w _ (hx 0 (by simp at hn; omega)).1
      rwa [block_of_add] at this
    · have hj : j < len := by
        have := (List.getElem?_eq_some_iff.1 hu).1
        simpa [c64] using this
      rw [(hx j (by omega)).1, hYn j hj]
      simp [c64, hj] at hu
      rw [← hu]
end
end Go.Proofs.Ytlaaielopcphiaa
