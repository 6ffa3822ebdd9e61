/- Contracts: the source that the draws take their numbers from. -/
import Derived.Test.YtflgjecpjaiecaaGreatGgq4
import Derived.Test.YtflgjecpjaiecaaGreatGeq4
set_option linter.unusedVariables false
set_option linter.unusedSimpArgs false
namespace Go.Proofs.YtflgjecpjaiecaaGreat
open Go.RowKit Num Flt
/-- bytes in memory, in blocks below B -/
def cB (xs : List Nat) : List Value := xs.map fun x : Nat => Value.int .u8 (x : Int)
def RB (w : World) (B : Nat) (A : Option Addr) (xs : List Nat) : Prop := Reads w B 1 A xs.length (cB xs)
theorem cB_at (xs : List Nat) (k : Nat) (h : k < xs.length) : (cB xs)[k]? = some (.int .u8 ((xs.getD k 0 : Nat) : Int)) := by simp [cB, List.getD_eq_getElem?_getD, List.getElem?_eq_getElem h]
theorem RB.at_ {w : World} {B : Nat} {A : Option Addr} {xs : List Nat} (h : RB w B A xs) {k : Nat} (hk : k < xs.length) : ∃ ad, A = some ad ∧ ad.block < B ∧ w.cell? (ad.add k) = some (.int .u8 ((xs.getD k 0 : Nat) : Int)) := by
  obtain ⟨ad, u, h1, h2, h3, h4⟩ := Reads.at_ h hk
  rw [cB_at xs k hk] at h3
  injection h3 with h3
  subst h3
  exact ⟨ad, h1, h2, h4⟩
/-- the code of a law: its bytes -/
structure CodeP (w : World) (B : Nat) (A : Option Addr) (n : Nat) (xs : List Nat) : Prop where
  len : n = xs.length
  lim : (n : Int) ≤ 4096
  rd : RB w B A xs
  rng : ∀ x ∈ xs, x < 256
theorem CodeP.byte {w : World} {B : Nat} {A : Option Addr} {n : Nat} {xs : List Nat} (h : CodeP w B A n xs) (k : Nat) : xs.getD k 0 < 256 := by
  rw [List.getD_eq_getElem?_getD]
  cases hk : xs[k]? with
  | none => show 0 < 256; decide
  | some v => exact h.rng v (List.mem_of_getElem? hk)
theorem CodeP.keep {w w' : World} {B : Nat} {A : Option Addr} {n : Nat} {xs : List Nat} (h : CodeP w B A n xs) (hk : ∀ p : Addr, p.block < B → w'.cell? p = w.cell? p) : CodeP w' B A n xs :=
  ⟨h.len, h.lim, Reads.keep h.rd hk, h.rng⟩
theorem CodeP.below {w w' : World} {B : Nat} {A : Option Addr} {n : Nat} {xs : List Nat} (h : CodeP w B A n xs) (hb : Below B w w') : CodeP w' B A n xs :=
  h.keep fun _ hp => hb.cell hp
theorem CodeP.more {w : World} {B B' : Nat} {A : Option Addr} {n : Nat} {xs : List Nat} (h : CodeP w B A n xs) (hB : B ≤ B') : CodeP w B' A n xs :=
  ⟨h.len, h.lim, Reads.more h.rd hB, h.rng⟩
theorem CodeP.set {w : World} {B : Nat} {A : Option Addr} {n : Nat} {xs : List Nat} (h : CodeP w B A n xs) {p : Addr} (hB : B ≤ p.block) (u : Value) : CodeP (w.setCell p u) B A n xs :=
  ⟨h.len, h.lim, Reads.setCell h.rd hB u, h.rng⟩
/-- a source in block g -/
structure SrcD (w : World) (g : Nat) (A : Option Addr) (n c : Nat) (xs : List Nat) (at_ : Nat) (h : Int) : Prop where
  blk : Blk w g 162 #[.slice A n c, .int .i64 (at_ : Int), .int .u64 h]
  code : CodeP w g A n xs
  at1 : (at_ : Int) ≤ n
def Src (w : World) (g : Nat) : Prop := ∃ A n c xs a h, SrcD w g A n c xs a h
theorem Src.lt {w : World} {g : Nat} (h : Src w g) : g < w.heap.size := by
  obtain ⟨A, n, c, xs, a, hh, h⟩ := h; exact h.blk.lt
theorem Src.below {w w' : World} {g : Nat} (h : Src w g) (hb : Below w.heap.size w w') : Src w' g := by
  obtain ⟨A, n, c, xs, a, hh, h⟩ := h
  have hg := h.blk.lt
  exact ⟨A, n, c, xs, a, hh, h.blk.below hb hg, h.code.keep (fun p hp => hb.cell (Nat.lt_trans hp hg)), h.at1⟩
theorem Src.drewN {w : World} {g : Nat} (h : Src w g) (m : Nat) : Src (w.drewN m) g := h.below (bdn (Below.refl _ _))
theorem Src.drew {w : World} {g : Nat} (h : Src w g) : Src w.drew g := h.below (Below.drew (Below.refl _ _))
theorem gdr {w w1 : World} {row : Option Nat} (h : w.grownBy w1 row) : w.grownBy w1.drew row := ⟨h.os, h.tape, h.output, h.size, h.block⟩
theorem set_grown (w : World) (g o : Nat) (u : Value) : w.grownBy (w.setCell ⟨g, o, none⟩ u) (some g) :=
  ⟨rfl, rfl, rfl, by simp, fun i hi hne => Below.heap_setCell w _ _ i (fun e => hne (by rw [e]))⟩
theorem below_grown {B g : Nat} {w w1 w2 : World} (h : Below B w w1) (hg : B ≤ g) (hB : B ≤ w1.heap.size) (k : w1.grownBy w2 (some g)) : Below B w w2 :=
  h.grown k hB (by intro j hj; cases hj; exact hg)
/-- what a call with a source leaves -/
def RetNx (g : Nat) (m : Int) (w : World) (e : Ending) (w' : World) : Prop := ∃ k : Nat, e = .returned (.int .i64 (k : Int)) ∧ (k : Int) < m ∧ Src w' g ∧ w.grownBy w' (some g)
theorem u64_and24 (x : Int) (h0 : 0 ≤ x) (h1 : x < 18446744073709551616) : bits .and .u64 x 16777215 = x % 16777216 :=
  bits_mask .u64 64 (by decide) (fun n a b => by rw [IntKind.wrap_u64]; omega) 24 (by decide) x h0 h1
theorem wrapu (x : Int) : 0 ≤ IntKind.u64.wrap x ∧ IntKind.u64.wrap x < 18446744073709551616 := by rw [IntKind.wrap_u64]; omega
theorem SrcD.setH {w : World} {g : Nat} {A : Option Addr} {n c : Nat} {xs : List Nat} {a : Nat} {h : Int} (hD : SrcD w g A n c xs a h) (h' : Int) : SrcD (w.setCell ⟨g, 2, none⟩ (.int .u64 h')) g A n c xs a h' :=
  ⟨hD.blk.set_ 2 _, hD.code.set (p := ⟨g, 2, none⟩) (Nat.le_refl _) _, hD.at1⟩
theorem SrcD.setA {w : World} {g : Nat} {A : Option Addr} {n c : Nat} {xs : List Nat} {a : Nat} {h : Int} (hD : SrcD w g A n c xs a h) (hk : a < n) : SrcD (w.setCell ⟨g, 1, none⟩ (.int .i64 ((a : Int) + 1))) g A n c xs (a + 1) h := by
  have e : ((a + 1 : Nat) : Int) = (a : Int) + 1 := by omega
  rw [← e]
  exact ⟨hD.blk.set_ 1 _, hD.code.set (p := ⟨g, 1, none⟩) (Nat.le_refl _) _, by omega⟩
theorem tmod_nat {x m : Int} (h0 : 0 ≤ x) (h1 : 1 ≤ m) : ∃ k : Nat, x % m = k ∧ (k : Int) < m := by
  have h2 := Int.emod_nonneg x (show m ≠ 0 by omega)
  have h3 := Int.emod_lt_of_pos x (show 0 < m by omega)
  exact ⟨(x % m).toNat, by omega, by omega⟩
set_option maxHeartbeats 4000000 in
theorem s_Next (g : Nat) (m : Int) (w : World) (hS : Src w g) (h1 : 1 ≤ m) (h2 : m ≤ 1099511627776) :
    Calls Tryz.prog 119 #[.pointer (some ⟨g, 0, none⟩), .int .i64 m] w (RetNx g m w) := by
  obtain ⟨A, n, c, xs, a, h, hD⟩ := hS
  have HS := Hd.mk hD
  have c0 : w.cell? ⟨g, 0, none⟩ = some (.slice A n c) := hD.blk.cell 0
  have c1 : w.cell? ⟨g, 1, none⟩ = some (.int .i64 (a : Int)) := hD.blk.cell 1
  have c2 : w.cell? ⟨g, 2, none⟩ = some (.int .u64 h) := hD.blk.cell 2
  have f0 := hD.blk.frozen 2
  have hn := hD.code.lim
  have ha := hD.at1
  clear hD
  go_enter Tryz.func119, Tryz.ntmps119
  go_upto_region 4 with fail
  generalize hh : IntKind.u64.wrap (IntKind.u64.wrap (h * 6364136223846793005) + 1442695040888963407) = h' at *
  have hb := hh ▸ wrapu (IntKind.u64.wrap (h * 6364136223846793005) + 1442695040888963407)
  clear hh
  obtain ⟨y, hy⟩ : ∃ y : Nat, h' / 8589934592 % 16777216 = (y : Int) := Int.eq_ofNat_of_zero_le (by omega)
  have e1 : bits .and .u64 (h' / 8589934592) 16777215 = (y : Int) := by rw [u64_and24 _ (by omega) (by omega), hy]
  have hy1 : (y : Int) < 16777216 := by omega
  clear hy hb
  have HS1 := Hd.mk (HS.out.setH h')
  have HG1 : Hd (w.grownBy (w.setCell ⟨g, 2, none⟩ (.int .u64 h')) (some g)) := ⟨set_grown _ _ _ _⟩
  clear c0 c1 c2 f0 HS
  generalize w.setCell ⟨g, 2, none⟩ (.int .u64 h') = w1 at *
  have c0 : w1.cell? ⟨g, 0, none⟩ = some (.slice A n c) := HS1.out.blk.cell 0
  have c1 : w1.cell? ⟨g, 1, none⟩ = some (.int .i64 (a : Int)) := HS1.out.blk.cell 1
  have c2 : w1.cell? ⟨g, 2, none⟩ = some (.int .u64 h') := HS1.out.blk.cell 2
  have f0 := HS1.out.blk.frozen 1
  by_cases hk : a < n
  · obtain ⟨ad, hA, -, hcx⟩ := HS1.out.code.rd.at_ (k := a) (by have := HS1.out.code.len; omega)
    subst hA
    have hbt := HS1.out.code.byte a
    generalize xs.getD a 0 = b at *
    have hkI : (a : Int) < n := by omega
    have hbI : (b : Int) < 256 := by omega
    have HS2 := Hd.mk (HS1.out.setA hk)
    have HG2 : Hd (w.grownBy (w1.setCell ⟨g, 1, none⟩ (.int .i64 ((a : Int) + 1))) (some g)) := ⟨gtrans HG1.out (set_grown _ _ _ _)⟩
    have HR : Hd (∃ k : Nat, ((y : Int) + b) % m = k ∧ (k : Int) < m) := ⟨tmod_nat (by omega) (by omega)⟩
    clear hk hbt HS1 HG1
    go_wp2_with fail
    go_region
    go_wp2_with fail
    go_region
    go_wp2_with fail
    go_ret
    obtain ⟨k, hk1, hk2⟩ := HR.out
    simp only [hk1]
    exact ⟨k, rfl, hk2, Src.drew (Src.drew ⟨_, _, _, _, _, _, HS2.out⟩), gdr (gdr HG2.out)⟩
  · obtain rfl : a = n := by omega
    have HR : Hd (∃ k : Nat, (y : Int) % m = k ∧ (k : Int) < m) := ⟨tmod_nat (by omega) (by omega)⟩
    clear hk
    go_wp2_with fail
    go_region
    go_wp2_with fail
    go_ret
    obtain ⟨k, hk1, hk2⟩ := HR.out
    simp only [hk1]
    exact ⟨k, rfl, hk2, Src.drew ⟨_, _, _, _, _, _, HS1.out⟩, gdr HG1.out⟩
/-- a number of a list -/
def RetPk (g : Nat) (xs : List Int) (w : World) (e : Ending) (w' : World) : Prop := ∃ k : Nat, k < xs.length ∧ e = .returned (.int .i64 (xs.getD k 0)) ∧ Src w' g ∧ w.grownBy w' (some g)
theorem Row64.grown {w w' : World} {g : Nat} {row : Option Nat} {xs : List Int} (h : Row64 w g xs) (hg : w.grownBy w' row) (hne : some g ≠ row) : Row64 w' g xs := Blk.grown h hg hne
set_option maxHeartbeats 4000000 in
theorem s_Pick (g gl n c : Nat) (xs : List Int) (w : World) (hS : Src w g) (hL : Row64 w gl xs) (hn : n = xs.length) (h1 : 1 ≤ (n : Int)) (h2 : (n : Int) ≤ 100) (hne : gl ≠ g) :
    Calls Tryz.prog 110 #[.pointer (some ⟨g, 0, none⟩), .slice (some ⟨gl, 0, none⟩) n c] w (RetPk g xs w) := by
  have HX := Hd.mk (And.intro hS (And.intro hL (And.intro hn hne)))
  clear hS hL hn hne
  go_enter Tryz.func110, Tryz.ntmps110
  go_wp2_with (go_at_call 119; (with_reducible refine (s_Next g n w HX.out.1 (by omega) (by omega)).mono ?_); rintro e1 w1 ⟨k, rfl, hk, hs, hg⟩; have HR := Hd.mk (And.intro hs hg); have d0 : w1.cell? ⟨gl, k, none⟩ = some (.int .i64 (xs.getD k 0)) := Row64.cell (HX.out.2.1.grown hg (by intro j; injection j with j; exact HX.out.2.2.2 j)) (by have := HX.out.2.2.1; omega); have HK : Hd (k < xs.length) := ⟨by have := HX.out.2.2.1; omega⟩; clear hs hg)
  go_ret
  exact ⟨k, HK.out, rfl, HR.out.1, HR.out.2⟩
/-- a source of a code -/
def RetSrc (w : World) (e : Ending) (w' : World) : Prop := ∃ g, e = .returned (.pointer (some ⟨g, 0, none⟩)) ∧ w.heap.size ≤ g ∧ Src w' g ∧ Below w.heap.size w w'
theorem SrcD.dr {w : World} {g : Nat} {A : Option Addr} {n c : Nat} {xs : List Nat} {a : Nat} {h : Int} (hD : SrcD w g A n c xs a h) : SrcD w.drew g A n c xs a h := ⟨hD.blk, hD.code.keep (fun _ _ => rfl), hD.at1⟩
set_option maxHeartbeats 4000000 in
theorem s_From (A : Option Addr) (n c : Nat) (xs : List Nat) (w : World) (hC : CodeP w w.heap.size A n xs) :
    Calls Tryz.prog 108 #[.slice A n c] w (RetSrc w) := by
  have HC := Hd.mk hC
  have hn := hC.lim
  clear hC
  have HW : Hd (SrcD (w.alloc (Obj.cells #[Value.slice A n c, Value.int .i64 0, Value.int .u64 (8263 + (n : Int))] 162)) w.heap.size A n c xs 0 (8263 + (n : Int)) ∧ Below w.heap.size w (w.alloc (Obj.cells #[Value.slice A n c, Value.int .i64 0, Value.int .u64 (8263 + (n : Int))] 162))) := ⟨⟨Blk.new _ _ _, HC.out.keep (fun p hp => (ba _ (Below.refl _ _)).cell hp), by omega⟩, ba _ (Below.refl _ _)⟩
  go_enter Tryz.func108, Tryz.ntmps108
  go_wp2_with fail
  go_loopw [4] (fun i wr => ∃ (k : Nat) (h : Int), i = .int .i64 k ∧ (k : Int) ≤ n ∧ Hd (SrcD wr w.heap.size A n c xs 0 h ∧ Below w.heap.size w wr)) (fun i _ => n - (intOf i).toNat)
  case atStart => exact ⟨0, _, rfl, by omega, HW⟩
  case round =>
    obtain ⟨k, h, rfl, hk, HB⟩ := hrel
    by_cases h1 : k < n
    · obtain ⟨ad, hA, -, hcx⟩ := HB.out.1.code.rd.at_ (k := k) (by have := HC.out.len; omega)
      subst hA
      have hbt := HB.out.1.code.byte k
      generalize xs.getD k 0 = b at *
      have c2 : wr.cell? ⟨w.heap.size, 2, none⟩ = some (.int .u64 h) := HB.out.1.blk.cell 2
      have f0 := HB.out.1.blk.frozen 2
      have hkI : (k : Int) < n := by omega
      have hk2 : (k : Int) < 4096 := by omega
      have hbI : (b : Int) < 256 := by omega
      clear h1 hbt HW HC
      go_wp2_with fail
      go_region
      go_wp2_with fail
      go_roundw
      case rel => exact ⟨k + 1, _, by go_num, by omega, ⟨(HB.out.1.setH _).dr, Below.drew (HB.out.2.setCell (Nat.le_refl _) _)⟩⟩
      case measure => simp [intOf]; omega
    · obtain rfl : k = n := by omega
      clear h1 HW HC
      go_wp2_with fail
      go_ret
      exact ⟨w.heap.size, rfl, Nat.le_refl _, ⟨_, _, _, _, _, _, HB.out.1⟩, HB.out.2⟩
end Go.Proofs.YtflgjecpjaiecaaGreat
