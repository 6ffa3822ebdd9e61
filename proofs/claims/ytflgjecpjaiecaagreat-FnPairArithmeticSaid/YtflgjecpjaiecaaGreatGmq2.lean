/- Gm: S26 S27, merged. -/
import Derived.Test.YtflgjecpjaiecaaGreatGkq2
/- Contracts: sums of exact numbers with signs of zeros, fused products, both sides. -/
set_option linter.unusedVariables false
set_option linter.unusedSimpArgs false
namespace Go.Proofs.YtflgjecpjaiecaaGreat
open Go.RowKit Num Flt
/-- a zero with a sign -/
def szF (b : Bool) : Nat := if b = true then 2147483648 else 0
/-- a sum of two numbers with signs of zeros, rounded -/
def sum4 (V U : Int) (b1 b2 : Bool) (mode : Int) : Nat := if V + U = 0 then (if V = 0 ∧ b1 = b2 then szF b1 else szF (decide (mode = 1))) else rF mode (V + U)
end Go.Proofs.YtflgjecpjaiecaaGreat
/- Contracts: fused products, both sides. -/
set_option linter.unusedVariables false
set_option linter.unusedSimpArgs false
namespace Go.Proofs.YtflgjecpjaiecaaGreat
open Go.RowKit Num Flt
theorem DyP.more {w : World} {s : Int} {A : Option Addr} {n c l l' : Nat} {e V : Int} (h : DyP w s A n c e V l) (hl : l ≤ l') (hs : l' ≤ SC) : DyP w s A n c e V l' := by
  obtain ⟨m, h1, h2⟩ := h
  exact ⟨m, h1, ⟨h2.val, by have := h2.lo; omega, hs, h2.hi, h2.zer, h2.odd, h2.bd⟩⟩
theorem nan_fin {x : Nat} (h : fin x) : ¬ nan x := by unfold fin at h; unfold nan; omega
theorem sc298 : 149 + 149 ≤ SC := by unfold SC; omega
theorem sc149 : 149 ≤ 149 + 149 := by omega
/-! the code of two floats and a mode -/
/-! the answers of FusedIn -/
theorem i_areFinite3 (g c a b d : Nat) (w : World) (ha : W a) (hb : W b) (hd : W d) (c0 : w.cell? ⟨g, 0, none⟩ = some (.float .f32 a)) (c1 : w.cell? ⟨g, 1, none⟩ = some (.float .f32 b)) (c2 : w.cell? ⟨g, 2, none⟩ = some (.float .f32 d)) :
    Calls Tryz.prog 88 #[.slice (some ⟨g, 0, none⟩) 3 c] w fun e w' => e = .returned (.bool (decide (fin a ∧ fin b ∧ fin d))) ∧ w = w' := by
  have h := i_areFinite g 0 3 c [a, b, d] w rfl (by decide) (by intro x hx; simp at hx; rcases hx with rfl | rfl | rfl; exact ha; exact hb; exact hd) (by
    intro j hj
    obtain rfl | rfl | rfl : j = 0 ∨ j = 1 ∨ j = 2 := by omega
    · exact c0
    · exact c1
    · exact c2)
  simpa [allFin] using h
end Go.Proofs.YtflgjecpjaiecaaGreat
