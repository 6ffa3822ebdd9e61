/- Gm: S26 S27, merged. -/
import Derived.Test.YtflgjecpjaiecaaGreatGkq4
/- Contracts: sums of exact numbers with signs of zeros, fused products, both sides. -/
set_option linter.unusedVariables false
set_option linter.unusedSimpArgs false
namespace Go.Proofs.YtflgjecpjaiecaaGreat
open Go.RowKit Num Flt
end Go.Proofs.YtflgjecpjaiecaaGreat
/- Contracts: fused products, both sides. -/
set_option linter.unusedVariables false
set_option linter.unusedSimpArgs false
namespace Go.Proofs.YtflgjecpjaiecaaGreat
open Go.RowKit Num Flt
theorem DyP.more {w : World} {s : Int} {A : Option Addr} {n c l l' : Nat} {e V : Int} (h : DyP w s A n c e V l) (hl : l ≤ l') (hs : l' ≤ SC) : DyP w s A n c e V l' := by
  obtain ⟨m, h1, h2⟩ := h
  exact ⟨m, h1, ⟨h2.val, by have := h2.lo; omega, hs, h2.hi, h2.zer, h2.odd, h2.bd⟩⟩
/-! the code of two floats and a mode -/
/-! the answers of FusedIn -/
end Go.Proofs.YtflgjecpjaiecaaGreat
