/- Ha: V9 V10 V11 V12, merged. -/
import Derived.Test.YtflgjecpjaiecaaGreatGzq4
import Derived.Test.YtflgjecpjaiecaaGreatGnq4
import Derived.Test.YtflgjecpjaiecaaGreatGjq4
import Derived.Test.YtflgjecpjaiecaaGreatGaq4
import Derived.Test.YtflgjecpjaiecaaGreatGyq4
import Derived.Test.YtflgjecpjaiecaaGreatGiq4
import Derived.Test.YtflgjecpjaiecaaGreatGgq4
import Derived.Test.YtflgjecpjaiecaaGreatGfq4
/- Contracts: which dyadic numbers an interval holds, the reference. -/
set_option linter.unusedVariables false
set_option linter.unusedSimpArgs false
namespace Go.Proofs.YtflgjecpjaiecaaGreat
open Go.RowKit Num Flt
/-- what the reference holds while it compares -/
structure HoS (w wx : World) (a b : Nat) (s x : Int) (A : Option Addr) (n c : Nat) (V : Int) : Prop where
  bel : Below w.heap.size w wx
  b0 : Blk wx w.heap.size 41 #[.float .f32 a, .float .f32 b]
  b1 : Blk wx (w.heap.size + 1) 66 #[.int .i64 s, .slice A n c, .int .i64 x]
  dy : DyP wx s A n c x V 3000
theorem HoS.below {w wx w' : World} {a b : Nat} {s x V : Int} {A : Option Addr} {n c : Nat} (h : HoS w wx a b s x A n c V) (hb : Below wx.heap.size wx w') : HoS w w' a b s x A n c V :=
  ⟨bt3 hb h.bel, h.b0.below hb h.b0.lt, h.b1.below hb h.b1.lt, h.dy.below hb⟩
abbrev Who (w : World) (a b : Nat) (s x : Int) (A : Option Addr) (n c : Nat) : World := (w.alloc (Obj.cells #[.float .f32 a, .float .f32 b] 41)).alloc (Obj.cells #[.int .i64 s, .slice A n c, .int .i64 x] 66)
theorem HoS.start {w : World} {a b : Nat} {s x V : Int} {A : Option Addr} {n c : Nat} (h : DyP w s A n c x V 3000) : HoS w (Who w a b s x A n c) a b s x A n c V := by
  refine ⟨ba _ (ba _ (Below.refl _ _)), (Blk.new _ _ _).alloc _, ?_, h.below (ba _ (ba _ (Below.refl _ _)))⟩
  have := Blk.new (w.alloc (Obj.cells #[.float .f32 a, .float .f32 b] 41)) 66 #[.int .i64 s, .slice A n c, .int .i64 x]
  simpa [Who] using this
theorem HoS.cells {w wx : World} {a b : Nat} {s x V : Int} {A : Option Addr} {n c : Nat} (h : HoS w wx a b s x A n c V) : (fun w' => w'.cell? ⟨w.heap.size, 0, none⟩ = some (.float .f32 a) ∧ w'.cell? ⟨w.heap.size, 1, none⟩ = some (.float .f32 b) ∧ w'.cell? ⟨w.heap.size + 1, 0, none⟩ = some (.int .i64 s) ∧ w'.cell? ⟨w.heap.size + 1, 1, none⟩ = some (.slice A n c) ∧ w'.cell? ⟨w.heap.size + 1, 2, none⟩ = some (.int .i64 x)) wx := ⟨h.b0.cell 0, h.b0.cell 1, h.b1.cell 0, h.b1.cell 1, h.b1.cell 2⟩
end Go.Proofs.YtflgjecpjaiecaaGreat
/- Contracts: HasDyadic of the reference. -/
set_option linter.unusedVariables false
set_option linter.unusedSimpArgs false
set_option exponentiation.threshold 40000
namespace Go.Proofs.YtflgjecpjaiecaaGreat
open Go.RowKit Num Flt
theorem val_low {L : List Int} : val 16777216 L % 2 = L.getD 0 0 % 2 := by
  cases L with
  | nil => rfl
  | cons y t => simp [val]; omega
/-- the interval holds the number -/
def hdP (a b : Nat) (V : Int) : Prop := (fin a → fv a ≤ V) ∧ (fin b → V ≤ fv b)
/-- what HasDyadic answers -/
def HdA (a b : Nat) (s : Int) (L : List Int) (x : Int) (q : Bool) (z : Int) : Prop :=
  (¬(IsIv a b ∧ isDB s L x) ∧ q = false ∧ z = 1) ∨ (IsIv a b ∧ isDB s L x ∧ z = 0 ∧ ∃ m, NumS s L m ∧ (q = true ↔ hdP a b (dv m x)))
theorem HdA.uniq {a b : Nat} {s x z z' : Int} {L : List Int} {q q' : Bool} (h : HdA a b s L x q z) (h' : HdA a b s L x q' z') : q' = q ∧ z' = z := by
  rcases h with ⟨h0, rfl, rfl⟩ | ⟨h1, h2, rfl, m, hm, hq⟩
  · rcases h' with ⟨_, rfl, rfl⟩ | ⟨k1, k2, _⟩
    · exact ⟨rfl, rfl⟩
    · exact absurd ⟨k1, k2⟩ h0
  · rcases h' with ⟨k0, _⟩ | ⟨_, _, rfl, m', hm', hq'⟩
    · exact absurd ⟨h1, h2⟩ k0
    · have : m' = m := by rw [hm.eq, hm'.eq]
      subst this
      refine ⟨?_, rfl⟩
      have := hq'.trans hq.symm
      cases q <;> cases q' <;> simp_all
/-- the places of the arguments -/
structure HoB (w wx : World) (a b : Nat) (s x : Int) (A : Option Addr) (n c : Nat) : Prop where
  bel : Below w.heap.size w wx
  b0 : Blk wx w.heap.size 41 #[.float .f32 a, .float .f32 b]
  b1 : Blk wx (w.heap.size + 1) 66 #[.int .i64 s, .slice A n c, .int .i64 x]
theorem HoB.below {w wx w' : World} {a b : Nat} {s x : Int} {A : Option Addr} {n c : Nat} (h : HoB w wx a b s x A n c) (hb : Below wx.heap.size wx w') : HoB w w' a b s x A n c :=
  ⟨bt3 hb h.bel, h.b0.below hb h.b0.lt, h.b1.below hb h.b1.lt⟩
theorem HoB.start (w : World) (a b : Nat) (s x : Int) (A : Option Addr) (n c : Nat) : HoB w (Who w a b s x A n c) a b s x A n c := by
  refine ⟨ba _ (ba _ (Below.refl _ _)), (Blk.new _ _ _).alloc _, ?_⟩
  have := Blk.new (w.alloc (Obj.cells #[.float .f32 a, .float .f32 b] 41)) 66 #[.int .i64 s, .slice A n c, .int .i64 x]
  simpa [Who] using this
end Go.Proofs.YtflgjecpjaiecaaGreat
/- Contracts: HasDyadic of the program. -/
set_option linter.unusedVariables false
set_option linter.unusedSimpArgs false
namespace Go.Proofs.YtflgjecpjaiecaaGreat
open Go.RowKit Num Flt
/-- what the program holds while it compares -/
structure HoN (w wx : World) (a b G g : Nat) (y V : Int) : Prop where
  bel : Below w.heap.size w wx
  b0 : Blk wx w.heap.size 41 #[.float .f32 a, .float .f32 b]
  b1 : Blk wx G 113 #[.pointer (some ⟨g, 0, none⟩), .int .i64 y]
  nu : NuP wx g y V 3000
theorem HoN.below {w wx w' : World} {a b G g : Nat} {y V : Int} (h : HoN w wx a b G g y V) (hb : Below wx.heap.size wx w') : HoN w w' a b G g y V :=
  ⟨bt3 hb h.bel, h.b0.below hb h.b0.lt, h.b1.below hb h.b1.lt, h.nu.below hb⟩
theorem HoN.start {w wx : World} {a b g n c : Nat} {s x y V : Int} {A : Option Addr} (h : HoB w wx a b s x A n c) (hN : NuP wx g y V 3000) : HoN w (wx.alloc (Obj.cells #[.pointer (some ⟨g, 0, none⟩), .int .i64 y] 113)) a b wx.heap.size g y V :=
  ⟨ba _ h.bel, h.b0.alloc _, Blk.new _ _ _, hN.below (ba _ (Below.refl _ _))⟩
theorem HoN.cells {w wx : World} {a b G g : Nat} {y V : Int} (h : HoN w wx a b G g y V) : (fun w' => w'.cell? ⟨w.heap.size, 0, none⟩ = some (.float .f32 a) ∧ w'.cell? ⟨w.heap.size, 1, none⟩ = some (.float .f32 b) ∧ w'.cell? ⟨G, 0, none⟩ = some (.pointer (some ⟨g, 0, none⟩)) ∧ w'.cell? ⟨G, 1, none⟩ = some (.int .i64 y)) wx := ⟨h.b0.cell 0, h.b0.cell 1, h.b1.cell 0, h.b1.cell 1⟩
end Go.Proofs.YtflgjecpjaiecaaGreat
/- Contracts: sizes and copies of dyadic numbers as the statements make them; a dyadic argument opened. -/
set_option linter.unusedVariables false
set_option linter.unusedSimpArgs false
namespace Go.Proofs.YtflgjecpjaiecaaGreat
open Go.ChangeShapes Go.WideShapes Go.ChangeAt Go.RowKit Go.Joins Go.Deep Num Flt
def CopI (xs : List Int) (k : Nat) (zs : List Int) : Prop := zs.length = xs.length ∧ zs.take k = xs.take k
theorem CopI.next {xs zs : List Int} {k : Nat} (h : CopI xs k zs) (hk : k < xs.length) : CopI xs (k + 1) (zs.set k (xs.getD k 0)) := by
  obtain ⟨h1, h2⟩ := h
  refine ⟨by simpa using h1, ?_⟩
  rw [List.take_succ_eq_append_getElem (by simp; omega), List.take_set_of_le (Nat.le_refl k), List.take_succ_eq_append_getElem hk, h2]
  simp [List.getD_eq_getElem?_getD, List.getElem?_eq_getElem hk]
theorem Row64.far {w : World} {g : Nat} {xs : List Int} (h : Row64 w g xs) {p : Addr} (hp : g ≠ p.block) (u : Value) : Row64 (w.setCell p u) g xs := Blk.far h hp u
section
variable {H : Type} {enc : TypeId × Value → H} {P : Program} {w : World} {base : Nat} {held : Bool}
end
end Go.Proofs.YtflgjecpjaiecaaGreat
