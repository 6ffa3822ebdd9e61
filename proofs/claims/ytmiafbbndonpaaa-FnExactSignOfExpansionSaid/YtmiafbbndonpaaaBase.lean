import Derived.Test.YtmiafbbndonpaaaRows
import Derived.WalkKit
import Derived.WalkSpells
import Derived.WalkLawsBesides
import Derived.Outline
import Derived.Deep.RegionHeld3
import Derived.Deep.DeepCutAuto
import Derived.Test.YtmiafbbndonpaaaFlt
set_option linter.unusedVariables false
set_option linter.unusedSimpArgs false
namespace Go.Proofs.Ytmiafbbndonpaaa
open Go.RowKit
section
variable {P : Program} {w : World}
@[go_sem] theorem run_store_float (a : Addr) (m : Mode) (k : FloatKind) (n : Nat) : (store a (.float k n) m).run P w = stored P w a (.float k n) m := run_store P w a _ m rfl
@[go_sem] theorem run_neg_float (k : FloatKind) (n : Nat) : (Op.unary .neg (.float k n)).run P w = .ok (.float k (Op.negFloat k n)) w := rfl
end
/-- A fact that the walk's simp does not look into. -/
structure Hd (p : Prop) : Prop where mk :: (out : p)
theorem bcell {W w1 : World} (hb : Below W.heap.size W w1) : (∀ b o, b < W.heap.size → w1.cell? ⟨b, o, none⟩ = W.cell? ⟨b, o, none⟩) ∧ (∀ b o, b < W.heap.size → w1.frozen? ⟨b, o, none⟩ = W.frozen? ⟨b, o, none⟩) ∧ (∀ k, k < W.heap.size → k < w1.heap.size) ∧ (∀ k, k < W.heap.size → k ≤ w1.heap.size) :=
  ⟨fun b o h => hb.cell (p := ⟨b, o, none⟩) h, fun b o h => hb.frozen (p := ⟨b, o, none⟩) h, fun _ h => Nat.lt_of_lt_of_le h hb.size, fun _ h => Nat.le_of_lt (Nat.lt_of_lt_of_le h hb.size)⟩
theorem cb {W w1 : World} (hb : Below W.heap.size W w1) {a : Addr} {v : Value} (hc : W.cell? a = some v) : w1.cell? a = some v := (hb.cell (World.block_lt_of_cell? W a hc)).trans hc
theorem bt2 {B : Nat} {w w1 w2 : World} (h : Below B w w1) (hB : B ≤ w.heap.size) (k : Below w1.heap.size w1 w2) : Below B w w2 :=
  h.trans ⟨k.os, k.tape, k.output, k.size, fun i hi => k.block i (Nat.lt_of_lt_of_le hi (Nat.le_trans hB h.size))⟩
theorem ba {W w : World} (o : Obj) (h : Below W.heap.size W w) : Below W.heap.size W (w.alloc o) := h.alloc h.size o
theorem bt3 {W w w1 : World} (k : Below w.heap.size w w1) (h : Below W.heap.size W w) : Below W.heap.size W w1 := bt2 h (Nat.le_refl _) k
theorem bs0 {W w w0 : World} (o : Nat) (u : Value) (h0 : Below W.heap.size W w0) (h : Below W.heap.size W w) : Below W.heap.size W (w.setCell ⟨w0.heap.size, o, none⟩ u) := h.setCell h0.size u
theorem bs1 {W w w0 : World} (k o : Nat) (u : Value) (h0 : Below W.heap.size W w0) (h : Below W.heap.size W w) : Below W.heap.size W (w.setCell ⟨w0.heap.size + k, o, none⟩ u) := h.setCell (Nat.le_trans h0.size (Nat.le_add_right _ _)) u
theorem bs2 {W w w0 : World} (j k o : Nat) (u : Value) (h0 : Below W.heap.size W w0) (h : Below W.heap.size W w) : Below W.heap.size W (w.setCell ⟨w0.heap.size + j + k, o, none⟩ u) := h.setCell (Nat.le_trans h0.size (Nat.le_trans (Nat.le_add_right _ _) (Nat.le_add_right _ _))) u
theorem bs3 {W w w0 : World} (i j k o : Nat) (u : Value) (h0 : Below W.heap.size W w0) (h : Below W.heap.size W w) : Below W.heap.size W (w.setCell ⟨w0.heap.size + i + j + k, o, none⟩ u) := h.setCell (Nat.le_trans h0.size (Nat.le_trans (Nat.le_add_right _ _) (Nat.le_trans (Nat.le_add_right _ _) (Nat.le_add_right _ _)))) u
theorem keep1 {W w1 : World} (hb : Below W.heap.size W w1) {a0 : Addr} {v0 : Value} (h : W.cell? a0 = some v0) : w1.cell? a0 = some v0 := cb hb h
theorem keep2 {W w1 : World} (hb : Below W.heap.size W w1) {a0 a1 : Addr} {v0 v1 : Value} (h : W.cell? a0 = some v0 ∧ W.cell? a1 = some v1) :
    w1.cell? a0 = some v0 ∧ w1.cell? a1 = some v1 := ⟨cb hb h.1, cb hb h.2⟩
theorem keep4 {W w1 : World} (hb : Below W.heap.size W w1) {a0 a1 a2 a3 : Addr} {v0 v1 v2 v3 : Value} (h : W.cell? a0 = some v0 ∧ W.cell? a1 = some v1 ∧ W.cell? a2 = some v2 ∧ W.cell? a3 = some v3) :
    w1.cell? a0 = some v0 ∧ w1.cell? a1 = some v1 ∧ w1.cell? a2 = some v2 ∧ w1.cell? a3 = some v3 := ⟨cb hb h.1, cb hb h.2.1, cb hb h.2.2.1, cb hb h.2.2.2⟩
theorem bdn {B : Nat} {a w : World} {n : Nat} (h : Below B a w) : Below B a (w.drewN n) := h.trans ⟨rfl, rfl, rfl, Nat.le_refl _, fun _ _ => rfl⟩
end Go.Proofs.Ytmiafbbndonpaaa
