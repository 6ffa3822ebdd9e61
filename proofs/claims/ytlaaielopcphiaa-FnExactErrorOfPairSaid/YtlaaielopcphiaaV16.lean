/- What a statement with several dyadic answers holds: argument blocks, answers with their rows, a fresh block for an answer. -/
import Derived.Test.YtlaaielopcphiaaV14
import Derived.Test.YtlaaielopcphiaaHa
import Derived.Test.YtlaaielopcphiaaGy
set_option linter.unusedVariables false
set_option linter.unusedSimpArgs false
namespace Go.Proofs.Ytlaaielopcphiaa
open Go.RowKit Num Flt
abbrev Zdy : Obj := Obj.cells #[.int .i64 0, .slice none 0 0, .int .i64 0] 33
/-- an answer in a block of its own -/
structure AnS (wx : World) (B g : Nat) (s x : Int) (A : Option Addr) (c : Nat) (L X : List Int) : Prop where
  b : Blk wx g 33 #[.int .i64 s, .slice A L.length c, .int .i64 x]
  o : O64 wx B (.slice A L.length c) X
theorem AnS.below {wx w' : World} {B g c : Nat} {s x : Int} {A : Option Addr} {L X : List Int} (h : AnS wx B g s x A c L X) (hb : Below wx.heap.size wx w') : AnS w' B g s x A c L X :=
  ⟨h.b.below hb h.b.lt, h.o.keep hb⟩
theorem O64.row {w : World} {g B : Nat} {xs : List Int} (h : Row64 w g xs) (hB : B ≤ g) (hl : xs.length ≤ LIM) : O64 w B (.slice (some ⟨g, 0, none⟩) xs.length xs.length) xs := by
  refine ⟨by simp [c64], Or.inr ⟨g, xs.length, (c64 xs).toArray, rfl, hB, h, Nat.le_refl _, by unfold LIM at hl; unfold maxLen; omega, by simp [c64], ?_⟩⟩
  rw [List.take_of_length_le (by simp [c64])]
theorem O64.setT {w : World} {B G : Nat} {v : Value} {xs : List Int} {t : TypeId} {cs : Array Value} (h : O64 w B v xs) (hk : Blk w G t cs) (ht : 2 ≠ t) (o : Nat) (u : Value) : O64 (w.setCell ⟨G, o, none⟩ u) B v xs := by
  refine World.ownsRow.kept h (row := some G) ?_ ?_
  · exact ⟨rfl, rfl, rfl, by simp, fun i hi hne => Below.heap_setCell w _ _ i (fun e => hne (by rw [e]))⟩
  · cases hv : v.ownBlock with
    | none => exact Or.inl rfl
    | some k =>
      refine Or.inr (fun e => ?_)
      obtain ⟨⟨cs', hb⟩, _⟩ := O64.blk h hv
      cases e
      exact (hb.ne_ hk ht) rfl
/-- what a region leaves that puts an answer into a fresh block -/
def AnR (w0 : World) (V C : Int) (u v : Value) (wx : World) : Prop := ∃ (G : Nat) (s : Int) (A : Option Addr) (c : Nat) (x : Int) (L : List Int),
  u = .pointer (some ⟨G, 0, none⟩) ∧ v = .int .i64 C ∧ Hd (DyN s L x V 3000 ∧ Below w0.heap.size w0 wx ∧ AnS wx w0.heap.size G s x A c L L ∧ w0.heap.size ≤ G)
theorem AnR.ofSet {w0 wk : World} {V C s x : Int} {A : Option Addr} {c G : Nat} {L : List Int} (hN : DyN s L x V 3000) (hf : Below w0.heap.size w0 wk) (hB : Blk wk G 33 #[.int .i64 0, .slice none 0 0, .int .i64 0]) (hG : w0.heap.size ≤ G) (hO : O64 wk w0.heap.size (.slice A L.length c) L) :
    AnR w0 V C (.pointer (some ⟨G, 0, none⟩)) (.int .i64 C) (((wk.setCell ⟨G, 0, none⟩ (.int .i64 s)).setCell ⟨G, 1, none⟩ (.slice A L.length c)).setCell ⟨G, 2, none⟩ (.int .i64 x)) := by
  refine ⟨G, s, A, c, x, L, rfl, rfl, ⟨hN, ?_, ⟨?_, ?_⟩, hG⟩⟩
  · exact Below.setCell (Below.setCell (Below.setCell hf hG _) hG _) hG _
  · have := ((hB.set_ 0 (.int .i64 s)).set_ 1 (.slice A L.length c)).set_ 2 (.int .i64 x)
    simpa using this
  · exact ((hO.setT hB (by decide) 0 _).setT (hB.set_ 0 _) (by decide) 1 _).setT ((hB.set_ 0 _).set_ 1 _) (by decide) 2 _
theorem AnR.ofNew {w0 wk : World} {V C s x : Int} {A : Option Addr} {c : Nat} {L : List Int} (hN : DyN s L x V 3000) (hf : Below w0.heap.size w0 wk) (hO : O64 wk w0.heap.size (.slice A L.length c) L) :
    AnR w0 V C (.pointer (some ⟨wk.heap.size, 0, none⟩)) (.int .i64 C) (wk.alloc (Obj.cells #[.int .i64 s, .slice A L.length c, .int .i64 x] 33)) :=
  ⟨wk.heap.size, s, A, c, x, L, rfl, rfl, ⟨hN, ba _ hf, ⟨Blk.new _ _ _, hO.keep (ba _ (Below.refl _ _))⟩, hf.size⟩⟩
theorem fr_al {w0 wk wy : World} {p : Addr} {u : Option Value} (hf : Below w0.heap.size w0 wk) (hc : (wy.alloc Zdy).cell? p = u) (hb : Below wk.heap.size wk wy) :
    Below w0.heap.size w0 (wy.alloc Zdy) ∧ Blk (wy.alloc Zdy) wy.heap.size 33 #[.int .i64 0, .slice none 0 0, .int .i64 0] ∧ w0.heap.size ≤ wy.heap.size ∧ Below wk.heap.size wk (wy.alloc Zdy) :=
  have h := bt3 hb hf
  ⟨ba _ h, Blk.new _ _ _, h.size, ba _ hb⟩
theorem kp5 {w0 w' : World} {p0 p1 p2 p3 p4 : Addr} {u0 u1 u2 u3 u4 : Value} (h : w0.cell? p0 = some u0 ∧ w0.cell? p1 = some u1 ∧ w0.cell? p2 = some u2 ∧ w0.cell? p3 = some u3 ∧ w0.cell? p4 = some u4) (hb : Below w0.heap.size w0 w') :
    w'.cell? p0 = some u0 ∧ w'.cell? p1 = some u1 ∧ w'.cell? p2 = some u2 ∧ w'.cell? p3 = some u3 ∧ w'.cell? p4 = some u4 :=
  ⟨cb hb h.1, cb hb h.2.1, cb hb h.2.2.1, cb hb h.2.2.2.1, cb hb h.2.2.2.2⟩
theorem kp6 {w0 w' : World} {p0 p1 p2 p3 p4 p5 : Addr} {u0 u1 u2 u3 u4 u5 : Value} (h : w0.cell? p0 = some u0 ∧ w0.cell? p1 = some u1 ∧ w0.cell? p2 = some u2 ∧ w0.cell? p3 = some u3 ∧ w0.cell? p4 = some u4 ∧ w0.cell? p5 = some u5) (hb : Below w0.heap.size w0 w') :
    w'.cell? p0 = some u0 ∧ w'.cell? p1 = some u1 ∧ w'.cell? p2 = some u2 ∧ w'.cell? p3 = some u3 ∧ w'.cell? p4 = some u4 ∧ w'.cell? p5 = some u5 :=
  ⟨cb hb h.1, cb hb h.2.1, cb hb h.2.2.1, cb hb h.2.2.2.1, cb hb h.2.2.2.2.1, cb hb h.2.2.2.2.2⟩
/-- the statement's arguments -/
structure EpS (w wx : World) (a b : Nat) (s x : Int) (A : Option Addr) (n c : Nat) : Prop where
  bel : Below w.heap.size w wx
  b0 : Blk wx w.heap.size 24 #[.float .f32 a, .float .f32 b]
  b1 : Blk wx (w.heap.size + 1) 29 #[.int .i64 s, .slice A n c, .int .i64 x]
theorem EpS.below {w wx w' : World} {a b : Nat} {s x : Int} {A : Option Addr} {n c : Nat} (h : EpS w wx a b s x A n c) (hb : Below wx.heap.size wx w') : EpS w w' a b s x A n c :=
  ⟨bt3 hb h.bel, h.b0.below hb h.b0.lt, h.b1.below hb h.b1.lt⟩
theorem EpS.start (w : World) (a b : Nat) (s x : Int) (A : Option Addr) (n c : Nat) : EpS w ((w.alloc (Obj.cells #[.float .f32 a, .float .f32 b] 24)).alloc (Obj.cells #[.int .i64 s, .slice A n c, .int .i64 x] 29)) a b s x A n c := by
  refine ⟨ba _ (ba _ (Below.refl _ _)), (Blk.new _ _ _).alloc _, ?_⟩
  have := Blk.new (w.alloc (Obj.cells #[.float .f32 a, .float .f32 b] 24)) 29 #[.int .i64 s, .slice A n c, .int .i64 x]
  simpa using this
theorem EpS.push {w wx w' : World} {a b : Nat} {s x : Int} {A : Option Addr} {n c B : Nat} {v : Value} {X : List Int} (h : EpS w wx a b s x A n c) (ho : O64 wx B v X) (hg : wx.grownBy w' v.ownBlock) (hlo : w.heap.size ≤ B) : EpS w w' a b s x A n c :=
  ⟨h.bel.grown hg h.bel.size (fun k hk => Nat.le_trans hlo (ho.blk hk).2), h.b0.push64 (by decide) ho hg, h.b1.push64 (by decide) ho hg⟩
structure Ep8 (w wx : World) (a b : Nat) (s x : Int) (A : Option Addr) (n c : Nat) (L : List Int) (g6 g8 h8 : Nat) (s6 x6 : Int) (A6 : Option Addr) (c6 : Nat) (L6 : List Int) : Prop where
  ep : EpS w wx a b s x A n c
  a6 : AnS wx 0 g6 s6 x6 A6 c6 L6 L6
  a8 : AnS wx w.heap.size g8 s x (some ⟨h8, 0, none⟩) L.length L L
  d6 : ∀ k, (Value.slice A6 L6.length c6).ownBlock = some k → k < h8
  lt : h8 < wx.heap.size
theorem Ep8.start {w w5 : World} {a b : Nat} {s x : Int} {A : Option Addr} {n c : Nat} {L : List Int} {B g6 h8 : Nat} {s6 x6 : Int} {A6 : Option Addr} {c6 : Nat} {L6 : List Int} (h1 : EpS w w5 a b s x A n c) (h2 : AnS w5 B g6 s6 x6 A6 c6 L6 L6)
    (hd : (∀ k, (Value.slice A6 L6.length c6).ownBlock = some k → k < h8) ∧ w.heap.size ≤ h8) (hR : Row64 w5 h8 L) (hl : L.length ≤ LIM) :
    Ep8 w (w5.alloc (Obj.cells #[.int .i64 s, .slice (some ⟨h8, 0, none⟩) L.length L.length, .int .i64 x] 33)) a b s x A n c L g6 w5.heap.size h8 s6 x6 A6 c6 L6 :=
  have hb := ba (Obj.cells #[.int .i64 s, .slice (some ⟨h8, 0, none⟩) L.length L.length, .int .i64 x] 33) (Below.refl w5.heap.size w5)
  ⟨h1.below hb, ⟨(h2.below hb).b, (h2.below hb).o.mono (Nat.zero_le _)⟩, ⟨Blk.new _ _ _, (O64.row hR hd.2 hl).keep hb⟩, hd.1, Nat.lt_of_lt_of_le hR.lt hb.size⟩
/-- all that ErrorOfPair's statement holds: the reference's answer, the argument's copy, the program's answer -/
structure EpT (w wx : World) (a b : Nat) (s x : Int) (A : Option Addr) (n c : Nat) (L : List Int) (g6 g8 g9 h8 B9 : Nat) (s6 x6 : Int) (A6 A9 : Option Addr) (c6 c9 : Nat) (L6 X8 X9 : List Int) : Prop where
  ep : EpS w wx a b s x A n c
  a6 : AnS wx 0 g6 s6 x6 A6 c6 L6 L6
  a8 : AnS wx w.heap.size g8 s x (some ⟨h8, 0, none⟩) L.length L X8
  a9 : AnS wx B9 g9 s6 x6 A9 c9 L6 X9
  d6 : ∀ k, (Value.slice A6 L6.length c6).ownBlock = some k → k < h8
  lt : h8 < B9
  lo : w.heap.size ≤ B9
variable {w wx w' : World} {a b : Nat} {s x : Int} {A : Option Addr} {n c : Nat} {L : List Int} {g6 g8 g9 h8 B9 : Nat} {s6 x6 : Int} {A6 A9 : Option Addr} {c6 c9 : Nat} {L6 X8 X9 Y : List Int}
theorem EpT.below (h : EpT w wx a b s x A n c L g6 g8 g9 h8 B9 s6 x6 A6 A9 c6 c9 L6 X8 X9) (hb : Below wx.heap.size wx w') : EpT w w' a b s x A n c L g6 g8 g9 h8 B9 s6 x6 A6 A9 c6 c9 L6 X8 X9 :=
  ⟨h.ep.below hb, h.a6.below hb, h.a8.below hb, h.a9.below hb, h.d6, h.lt, h.lo⟩
theorem EpT.start {w8 : World} (h : Ep8 w w8 a b s x A n c L g6 g8 h8 s6 x6 A6 c6 L6) (hb : Below w8.heap.size w8 wx) (h9 : AnS wx w8.heap.size g9 s6 x6 A9 c9 L6 L6) : EpT w wx a b s x A n c L g6 g8 g9 h8 w8.heap.size s6 x6 A6 A9 c6 c9 L6 L L6 :=
  ⟨h.ep.below hb, h.a6.below hb, h.a8.below hb, h9, h.d6, h.lt, h.ep.bel.size⟩
theorem own_or9 {v : Value} {r : Option Nat} (h : ∀ k j, v.ownBlock = some k → r = some j → k ≠ j) : v.ownBlock = none ∨ v.ownBlock ≠ r := by
  cases hv : v.ownBlock with
  | none => exact Or.inl rfl
  | some k => exact Or.inr (fun e => h k k hv e.symm rfl)
theorem EpT.mark8 (h : EpT w wx a b s x A n c L g6 g8 g9 h8 B9 s6 x6 A6 A9 c6 c9 L6 X8 X9) (hg : wx.grownBy w' (Value.slice (some ⟨h8, 0, none⟩) L.length L.length).ownBlock) (ho : O64 w' w.heap.size (.slice (some ⟨h8, 0, none⟩) L.length L.length) Y) :
    EpT w w' a b s x A n c L g6 g8 g9 h8 B9 s6 x6 A6 A9 c6 c9 L6 Y X9 := by
  have e8 : (Value.slice (some ⟨h8, 0, none⟩) L.length L.length).ownBlock = some h8 := rfl
  refine ⟨h.ep.push h.a8.o hg (Nat.le_refl _), ⟨h.a6.b.push64 (by decide) h.a8.o hg, World.ownsRow.kept h.a6.o hg (own_or9 fun k j hk hj => ?_)⟩, ⟨h.a8.b.push64 (by decide) h.a8.o hg, ho⟩, ⟨h.a9.b.push64 (by decide) h.a8.o hg, World.ownsRow.kept h.a9.o hg (own_or9 fun k j hk hj => ?_)⟩, h.d6, h.lt, h.lo⟩
  · rw [e8] at hj; cases hj
    have := h.d6 k hk; omega
  · rw [e8] at hj; cases hj
    have h1 := (h.a9.o.blk hk).2
    have := h.lt; omega
theorem EpT.mark9 (h : EpT w wx a b s x A n c L g6 g8 g9 h8 B9 s6 x6 A6 A9 c6 c9 L6 X8 X9) (hg : wx.grownBy w' (Value.slice A9 L6.length c9).ownBlock) (ho : O64 w' B9 (.slice A9 L6.length c9) Y) :
    EpT w w' a b s x A n c L g6 g8 g9 h8 B9 s6 x6 A6 A9 c6 c9 L6 X8 Y := by
  refine ⟨h.ep.push h.a9.o hg h.lo, ⟨h.a6.b.push64 (by decide) h.a9.o hg, World.ownsRow.kept h.a6.o hg (own_or9 fun k j hk hj => ?_)⟩, ⟨h.a8.b.push64 (by decide) h.a9.o hg, World.ownsRow.kept h.a8.o hg (own_or9 fun k j hk hj => ?_)⟩, ⟨h.a9.b.push64 (by decide) h.a9.o hg, ho⟩, h.d6, h.lt, h.lo⟩
  · have h1 := (h.a9.o.blk hj).2
    have := h.d6 k hk; have := h.lt; omega
  · have h1 := (h.a9.o.blk hj).2
    have h2 : h8 = k := by simpa [Value.ownBlock] using hk
    have := h.lt; omega
end Go.Proofs.Ytlaaielopcphiaa
