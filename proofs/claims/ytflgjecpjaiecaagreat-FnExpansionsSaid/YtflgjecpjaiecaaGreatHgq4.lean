/- Hg: V13 V14 V15 V16, merged. -/
import Derived.Test.YtflgjecpjaiecaaGreatHaq4
import Derived.Test.YtflgjecpjaiecaaGreatGyq4
/- Contracts: dyadic results beyond the limits, both sides. -/
set_option linter.unusedVariables false
set_option linter.unusedSimpArgs false
set_option exponentiation.threshold 40000
namespace Go.Proofs.YtflgjecpjaiecaaGreat
open Go.RowKit Num Flt
/-- the parts fit -/
def fitD (m x : Int) : Prop := bln m.natAbs ≤ 2400 ∧ -3000 ≤ x ∧ x ≤ 3000
end Go.Proofs.YtflgjecpjaiecaaGreat
/- Contracts: ErrorOfPair, both sides. -/
set_option linter.unusedVariables false
set_option linter.unusedSimpArgs false
set_option exponentiation.threshold 40000
namespace Go.Proofs.YtflgjecpjaiecaaGreat
open Go.RowKit Num Flt
theorem isDB_fit {s x m V : Int} {L : List Int} {l : Nat} (hN : NumS s L m) (hF : DyF m x V l) : isDB s L x ↔ fitD m x := by
  have hab := hN.abs
  have hv1 := val_lt (B := 16777216) (by decide) hN.can.1
  have hlow := val_low (L := L)
  have hq : ∀ k : Nat, (16777216 : Int) ^ k = ((2 ^ (24 * k) : Nat) : Int) := fun k => by rw [Int.natCast_pow]; exact p24 k
  have hln : L.length ≤ 100 ↔ bln m.natAbs ≤ 2400 := by
    constructor
    · intro h
      have hp : (16777216 : Int) ^ L.length ≤ 16777216 ^ 100 := pow_le (by decide) h
      rw [hq 100] at hp
      exact bln_le (Int.ofNat_lt.1 (by rw [hab]; exact Int.lt_of_lt_of_le hv1 hp))
    · intro h
      by_cases hL : L = []
      · subst hL; simp
      · have h1 := hN.can.lower (by decide) hL
        rw [hq, ← hab] at h1
        have h2 := Int.ofNat_le.1 h1
        have h3 : m.natAbs < 2 ^ 2400 := Nat.lt_of_lt_of_le (bln_lt _) (Nat.pow_le_pow_right (by decide) h)
        have h4 := (Nat.pow_lt_pow_iff_right (by decide : 1 < 2)).1 (Nat.lt_of_le_of_lt h2 h3)
        omega
  have hz := hF.zer
  have ho := hF.odd
  have he := hN.eq
  unfold isDB isWB fitD
  rcases hN.sgn with ⟨rfl, rfl⟩ | ⟨hs, hne⟩
  · have hm : m = 0 := by rw [he]; simp
    have hx := hz hm
    subst hm hx
    exact ⟨fun _ => ⟨by decide, by decide, by decide⟩, fun _ => ⟨⟨by simp, Rng.nil _, hN.can.2, .inl ⟨rfl, rfl⟩⟩, .inl ⟨rfl, rfl⟩⟩⟩
  · have hpos := hN.can.pos (by decide) hne
    have hs0 : s ≠ 0 := by rcases hs with rfl | rfl <;> decide
    have hm : m ≠ 0 := by rw [he]; rcases hs with rfl | rfl <;> omega
    have hod := ho hm
    have h0 : L.getD 0 0 % 2 = 1 := by rcases hs with rfl | rfl <;> omega
    exact ⟨fun h => ⟨hln.1 h.1.1, by rcases h.2 with ⟨k, _⟩ | ⟨_, _, k⟩; exact absurd k hs0; exact k⟩, fun h => ⟨⟨hln.2 h.1, hN.can.1, hN.can.2, .inr ⟨hs, hne⟩⟩, .inr ⟨hs0, h0, h.2⟩⟩⟩
theorem bd_close2 {U V : Int} (h : U.natAbs < 2 ^ 22000) (h' : V.natAbs < 2 ^ 30000) : Bd (U - V) := by
  have k0 : (2 : Nat) ^ 22000 ≤ 2 ^ 30000 := Nat.pow_le_pow_right (by decide) (by decide)
  have k1 : TOP = 2 ^ (24 * 100000) := p24 100000
  have k2 : (2 : Int) ^ 30001 ≤ 2 ^ (24 * 100000) := pow_le (by decide) (by decide)
  have k3 : ((2 ^ 30000 : Nat) : Int) = (2 : Int) ^ 30000 := by rw [Int.natCast_pow]; rfl
  have k4 : (2 : Int) ^ 30001 = 2 ^ 30000 * 2 := Int.pow_succ _ _
  unfold Bd
  rw [← k1, k4] at k2
  generalize TOP = T at *
  generalize (2 : Int) ^ 30000 = u at *
  generalize (2 : Nat) ^ 30000 = v at *
  generalize (2 : Nat) ^ 22000 = t at *
  omega
/-- what ErrorOfPair holds -/
structure EpH (w wx : World) (a b : Nat) (s x : Int) (A : Option Addr) (n c : Nat) (L : List Int) : Prop where
  bel : Below w.heap.size w wx
  b0 : Blk wx w.heap.size 30 #[.float .f32 a, .float .f32 b]
  b1 : Blk wx (w.heap.size + 1) 66 #[.int .i64 s, .slice A n c, .int .i64 x]
  b2 : Blk wx (w.heap.size + 1 + 1) 66 #[.int .i64 0, .slice none 0 0, .int .i64 0]
  rd : R64 wx A L
theorem EpH.below {w wx w' : World} {a b : Nat} {s x : Int} {A : Option Addr} {n c : Nat} {L : List Int} (h : EpH w wx a b s x A n c L) (hb : Below wx.heap.size wx w') : EpH w w' a b s x A n c L :=
  ⟨bt3 hb h.bel, h.b0.below hb h.b0.lt, h.b1.below hb h.b1.lt, h.b2.below hb h.b2.lt, h.rd.below hb⟩
abbrev Wep (w : World) (a b : Nat) (s x : Int) (A : Option Addr) (n c : Nat) : World := ((w.alloc (Obj.cells #[.float .f32 a, .float .f32 b] 30)).alloc (Obj.cells #[.int .i64 s, .slice A n c, .int .i64 x] 66)).alloc (Obj.cells #[.int .i64 0, .slice none 0 0, .int .i64 0] 66)
theorem EpH.start {w : World} {A : Option Addr} {L : List Int} (hR : R64 w A L) (a b : Nat) (s x : Int) (n c : Nat) : EpH w (Wep w a b s x A n c) a b s x A n c L := by
  refine ⟨ba _ (ba _ (ba _ (Below.refl _ _))), ((Blk.new _ _ _).alloc _).alloc _, ?_, ?_, hR.below (ba _ (ba _ (ba _ (Below.refl _ _))))⟩
  · have := (Blk.new (w.alloc (Obj.cells #[.float .f32 a, .float .f32 b] 30)) 66 #[.int .i64 s, .slice A n c, .int .i64 x]).alloc (Obj.cells #[.int .i64 0, .slice none 0 0, .int .i64 0] 66)
    simpa [Wep] using this
  · have := Blk.new ((w.alloc (Obj.cells #[.float .f32 a, .float .f32 b] 30)).alloc (Obj.cells #[.int .i64 s, .slice A n c, .int .i64 x] 66)) 66 #[.int .i64 0, .slice none 0 0, .int .i64 0]
    simpa [Wep] using this
theorem EpH.cells {w wx : World} {a b : Nat} {s x : Int} {A : Option Addr} {n c : Nat} {L : List Int} (h : EpH w wx a b s x A n c L) : (fun w' => w'.cell? ⟨w.heap.size, 0, none⟩ = some (.float .f32 a) ∧ w'.cell? ⟨w.heap.size, 1, none⟩ = some (.float .f32 b) ∧ w'.cell? ⟨w.heap.size + 1, 0, none⟩ = some (.int .i64 s) ∧ w'.cell? ⟨w.heap.size + 1, 1, none⟩ = some (.slice A n c) ∧ w'.cell? ⟨w.heap.size + 1, 2, none⟩ = some (.int .i64 x)) wx := ⟨h.b0.cell 0, h.b0.cell 1, h.b1.cell 0, h.b1.cell 1, h.b1.cell 2⟩
theorem EpA.start {w wx wy : World} {a b : Nat} {s x : Int} {A : Option Addr} {n c : Nat} {L : List Int} (hc : (fun w' => w'.cell? ⟨w.heap.size, 0, none⟩ = some (.float .f32 a) ∧ w'.cell? ⟨w.heap.size, 1, none⟩ = some (.float .f32 b) ∧ w'.cell? ⟨w.heap.size + 1, 0, none⟩ = some (.int .i64 s) ∧ w'.cell? ⟨w.heap.size + 1, 1, none⟩ = some (.slice A n c) ∧ w'.cell? ⟨w.heap.size + 1, 2, none⟩ = some (.int .i64 x)) (wy.alloc (Obj.cells #[.int .i64 0, .slice none 0 0, .int .i64 0] 66))) (h : EpH w wx a b s x A n c L) (hb : Below wx.heap.size wx wy) :
    EpH w (wy.alloc (Obj.cells #[.int .i64 0, .slice none 0 0, .int .i64 0] 66)) a b s x A n c L ∧ Blk (wy.alloc (Obj.cells #[.int .i64 0, .slice none 0 0, .int .i64 0] 66)) wy.heap.size 66 #[.int .i64 0, .slice none 0 0, .int .i64 0] ∧ w.heap.size + 1 + 1 < wy.heap.size ∧ Below wx.heap.size wx (wy.alloc (Obj.cells #[.int .i64 0, .slice none 0 0, .int .i64 0] 66)) :=
  ⟨h.below (bt3 (ba _ (Below.refl _ _)) hb), Blk.new _ _ _, Nat.lt_of_lt_of_le h.b2.lt hb.size, bt3 (ba _ (Below.refl _ _)) hb⟩
/-- a store into a block of another type -/
theorem DyO.setT {w : World} {B G : Nat} {s : Int} {A : Option Addr} {n c : Nat} {e V : Int} {l : Nat} {t : TypeId} {cs : Array Value} (h : DyO w B s A n c e V l) (hk : Blk w G t cs) (ht : 2 ≠ t) (o : Nat) (u : Value) : DyO (w.setCell ⟨G, o, none⟩ u) B s A n c e V l := by
  obtain ⟨m, ⟨xs, h1, h2, h3, h4⟩, h5⟩ := h
  refine ⟨m, ⟨xs, h1, h2, h3, ?_⟩, h5⟩
  refine World.ownsRow.kept h4 (row := some G) ?_ ?_
  · exact ⟨rfl, rfl, rfl, by simp, fun i hi hne => Below.heap_setCell w _ _ i (fun e => hne (by rw [e]))⟩
  · cases hv : (Value.slice A n c).ownBlock with
    | none => exact Or.inl rfl
    | some k =>
      refine Or.inr (fun e => ?_)
      obtain ⟨⟨cs', hb⟩, _⟩ := O64.blk h4 hv
      cases e
      exact (hb.ne_ hk ht) rfl
end Go.Proofs.YtflgjecpjaiecaaGreat
/- Contracts: ErrorOfPair of the program, both together. -/
set_option linter.unusedVariables false
set_option linter.unusedSimpArgs false
set_option exponentiation.threshold 40000
namespace Go.Proofs.YtflgjecpjaiecaaGreat
open Go.RowKit Num Flt
end Go.Proofs.YtflgjecpjaiecaaGreat
/- What a statement with several dyadic answers holds: argument blocks, answers with their rows, a fresh block for an answer. -/
set_option linter.unusedVariables false
set_option linter.unusedSimpArgs false
namespace Go.Proofs.YtflgjecpjaiecaaGreat
open Go.RowKit Num Flt
/-- an answer in a block of its own -/
structure AnS (wx : World) (B g : Nat) (s x : Int) (A : Option Addr) (c : Nat) (L X : List Int) : Prop where
  b : Blk wx g 66 #[.int .i64 s, .slice A L.length c, .int .i64 x]
  o : O64 wx B (.slice A L.length c) X
theorem AnS.below {wx w' : World} {B g c : Nat} {s x : Int} {A : Option Addr} {L X : List Int} (h : AnS wx B g s x A c L X) (hb : Below wx.heap.size wx w') : AnS w' B g s x A c L X :=
  ⟨h.b.below hb h.b.lt, h.o.keep hb⟩
theorem O64.row {w : World} {g B : Nat} {xs : List Int} (h : Row64 w g xs) (hB : B ≤ g) (hl : xs.length ≤ LIM) : O64 w B (.slice (some ⟨g, 0, none⟩) xs.length xs.length) xs := by
  refine ⟨by simp [c64], Or.inr ⟨g, xs.length, (c64 xs).toArray, rfl, hB, h, Nat.le_refl _, by unfold LIM at hl; unfold maxLen; omega, by simp [c64], ?_⟩⟩
  rw [List.take_of_length_le (by simp [c64])]
theorem O64.setT {w : World} {B G : Nat} {v : Value} {xs : List Int} {t : TypeId} {cs : Array Value} (h : O64 w B v xs) (hk : Blk w G t cs) (ht : 2 ≠ t) (o : Nat) (u : Value) : O64 (w.setCell ⟨G, o, none⟩ u) B v xs := by
  refine World.ownsRow.kept h (row := some G) ?_ ?_
  · exact ⟨rfl, rfl, rfl, by simp, fun i hi hne => Below.heap_setCell w _ _ i (fun e => hne (by rw [e]))⟩
  · cases hv : v.ownBlock with
    | none => exact Or.inl rfl
    | some k =>
      refine Or.inr (fun e => ?_)
      obtain ⟨⟨cs', hb⟩, _⟩ := O64.blk h hv
      cases e
      exact (hb.ne_ hk ht) rfl
variable {w wx w' : World} {a b : Nat} {s x : Int} {A : Option Addr} {n c : Nat} {L : List Int} {g6 g8 g9 h8 B9 : Nat} {s6 x6 : Int} {A6 A9 : Option Addr} {c6 c9 : Nat} {L6 X8 X9 Y : List Int}
end Go.Proofs.YtflgjecpjaiecaaGreat
