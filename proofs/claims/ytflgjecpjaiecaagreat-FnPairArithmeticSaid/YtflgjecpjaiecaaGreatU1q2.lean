/- Plain facts: what is rounded down and up is the same or beside, and every mode gives one of both. -/
import Derived.Test.YtflgjecpjaiecaaGreatGiq2
import Derived.Test.YtflgjecpjaiecaaGreatGaq2
set_option linter.unusedVariables false
set_option linter.unusedSimpArgs false
namespace Go.Proofs.YtflgjecpjaiecaaGreat
open Go.RowKit Num Flt
/-- a rounded magnitude by its two choices: is it rounded up, does an overflow stop -/
def rgP (u st : Bool) (M : Nat) : Nat := if 20128 < bln (rtN M + u.toNat) + rqN M then (if st = true then 2139095039 else 2139095040) else (rqN M - 19851) * 8388608 + (rtN M + u.toNat)
theorem rg_P (mode : Int) (neg : Bool) (M : Nat) : rgN mode neg M = rgP (upB mode neg M) (stB mode neg) M := by
  unfold rgN rgP ovB rmN
  simp only [decide_eq_true_eq]
theorem st_dn (neg : Bool) : stB 0 neg = false ∧ stB 1 neg = !neg ∧ stB 2 neg = neg ∧ stB 3 neg = true ∧ stB 4 neg = false := by
  cases neg <;> decide
theorem pl_word (neg : Bool) {r : Nat} (hr : r ≤ 2139095040) : pl ((if neg = true then 2147483648 else 0) + r) = sv neg r := by
  unfold pl sv
  cases neg
  · simp only [Bool.false_eq_true, if_false]
    rw [if_neg (by omega)]; omega
  · simp only [if_true]
    rw [if_pos (by omega)]; omega
theorem pl_rF {mode V : Int} (h : V ≠ 0) : pl (rF mode V) = sv (decide (V < 0)) (rgN mode (decide (V < 0)) V.natAbs) := by
  rw [← pl_word _ (rgN_le _ _ _)]
  unfold rF
  rw [if_neg h]
  by_cases k : V < 0 <;> simp [k]
end Go.Proofs.YtflgjecpjaiecaaGreat
