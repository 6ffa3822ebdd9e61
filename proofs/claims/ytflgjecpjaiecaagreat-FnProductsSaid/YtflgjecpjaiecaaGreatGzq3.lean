/- Gz: V5 V6 V7 V8, merged. -/
import Derived.Test.YtflgjecpjaiecaaGreatGcq3
import Derived.Test.YtflgjecpjaiecaaGreatGxq3
import Derived.StillTailTactics
import Derived.Laws.CopyOwn
import Derived.Test.YtflgjecpjaiecaaGreatGeq3
/- Contracts: which whole and dyadic numbers are in their form, both sides. -/
set_option linter.unusedVariables false
set_option linter.unusedSimpArgs false
namespace Go.Proofs.YtflgjecpjaiecaaGreat
open Go.RowKit Num
set_option maxHeartbeats 4000000 in
theorem s_In (x lo hi : Int) (w : World) : Calls Tryz.prog 86 #[.int .i64 x, .int .i64 lo, .int .i64 hi] w fun e w' => e = .returned (.bool (decide (lo ≤ x) && decide (x ≤ hi))) ∧ w = w' := by
  by_cases h1 : lo ≤ x
  · by_cases h2 : x ≤ hi
    · have e : (decide (lo ≤ x) && decide (x ≤ hi)) = true := by simp [h1, h2]
      have g1 : x ≥ lo := h1
      rw [e]
      go_enter Tryz.func86, Tryz.ntmps86
      go_wp2_with fail
      go_ret
      exact ⟨rfl, rfl⟩
    · have e : (decide (lo ≤ x) && decide (x ≤ hi)) = false := by simp [h1, h2]
      have g1 : x ≥ lo := h1
      have g2 : hi < x := by omega
      rw [e]
      go_enter Tryz.func86, Tryz.ntmps86
      go_wp2_with fail
      go_ret
      exact ⟨rfl, rfl⟩
  · have e : (decide (lo ≤ x) && decide (x ≤ hi)) = false := by simp [h1]
    have g1 : ¬ (x ≥ lo) := h1
    have g2 : x < lo := by omega
    rw [e]
    go_enter Tryz.func86, Tryz.ntmps86
    go_wp2_with fail
    go_ret
    exact ⟨rfl, rfl⟩
/-- the first k limbs are in their range -/
def RngK (L : List Int) (k : Nat) : Prop := ∀ j, j < k → 0 ≤ L.getD j 0 ∧ L.getD j 0 < 16777216
theorem RngK.all {L : List Int} (h : RngK L L.length) : Rng 16777216 L := by
  intro y hy
  obtain ⟨j, hj, rfl⟩ := List.getElem_of_mem hy
  have := h j hj
  rwa [List.getD_eq_getElem?_getD, List.getElem?_eq_getElem hj] at this
theorem RngK.next {L : List Int} {k : Nat} (h : RngK L k) (h1 : 0 ≤ L.getD k 0 ∧ L.getD k 0 < 16777216) : RngK L (k + 1) := by
  intro j hj
  rcases Nat.lt_or_ge j k with h2 | h2
  · exact h j h2
  · obtain rfl : j = k := by omega
    exact h1
end Go.Proofs.YtflgjecpjaiecaaGreat
/- Contracts: which dyadic numbers are in their form, both sides. -/
set_option linter.unusedVariables false
set_option linter.unusedSimpArgs false
namespace Go.Proofs.YtflgjecpjaiecaaGreat
open Go.RowKit Num
end Go.Proofs.YtflgjecpjaiecaaGreat
/- Contracts: the program's integers of whole numbers. -/
set_option linter.unusedVariables false
set_option linter.unusedSimpArgs false
namespace Go.Proofs.YtflgjecpjaiecaaGreat
open Go.RowKit Num
end Go.Proofs.YtflgjecpjaiecaaGreat
/- Contracts: the program's numbers of dyadic numbers. -/
set_option linter.unusedVariables false
set_option linter.unusedSimpArgs false
namespace Go.Proofs.YtflgjecpjaiecaaGreat
open Go.RowKit Num
/-- the limbs from the j-th on -/
theorem val_drop {L : List Int} {j : Nat} (h : j < L.length) : val 16777216 (L.drop j) = L.getD j 0 + 16777216 * val 16777216 (L.drop (j + 1)) := by
  rw [List.drop_eq_getElem_cons h, List.getD_eq_getElem?_getD, List.getElem?_eq_getElem h]
  rfl
/-- what toBig holds in its loop -/
structure TbH (w wr : World) (s : Int) (A : Option Addr) (n c : Nat) (V : Int) : Prop where
  bel : Below w.heap.size w wr
  bt : Blk wr w.heap.size 64 #[.int .i64 s, .slice A n c]
  hb : Big wr (w.heap.size + 1) V
theorem TbH.below {w wr w' : World} {s V : Int} {A : Option Addr} {n c : Nat} (h : TbH w wr s A n c V) (hb : Below wr.heap.size wr w') : TbH w w' s A n c V := ⟨bt3 hb h.bel, h.bt.below hb h.bt.lt, h.hb.below hb⟩
theorem TbH.put {w wr w' : World} {s V V' : Int} {A : Option Addr} {n c : Nat} (h : TbH w wr s A n c V) (hg : wr.grownBy w' (some (w.heap.size + 1))) (hb : Big w' (w.heap.size + 1) V') : TbH w w' s A n c V' :=
  ⟨h.bel.grown hg h.bel.size (fun k hk => by cases hk; omega), h.bt.grown hg (by simp), hb⟩
theorem TbH.start (w : World) (s : Int) (A : Option Addr) (n c : Nat) : TbH w ((w.alloc (Obj.cells #[.int .i64 s, .slice A n c] 64)).alloc (Obj.cells #[.bool false, .slice none 0 0] 168)) s A n c 0 := by
  refine ⟨ba _ (ba _ (Below.refl _ _)), (Blk.new _ _ _).alloc _, Big.zero ?_⟩
  have := Blk.new (w.alloc (Obj.cells #[.int .i64 s, .slice A n c] 64)) 168 #[.bool false, .slice none 0 0]
  simpa using this
/-- what numberOf holds -/
structure NoH (w wx : World) (s x : Int) (A : Option Addr) (n c : Nat) : Prop where
  bel : Below w.heap.size w wx
  b0 : Blk wx w.heap.size 66 #[.int .i64 s, .slice A n c, .int .i64 x]
  b1 : Blk wx (w.heap.size + 1) 113 #[.pointer none, .int .i64 0]
abbrev Wno (w : World) (s x : Int) (A : Option Addr) (n c : Nat) : World := (w.alloc (Obj.cells #[.int .i64 s, .slice A n c, .int .i64 x] 66)).alloc (Obj.cells #[.pointer none, .int .i64 0] 113)
theorem NoH.start (w : World) (s x : Int) (A : Option Addr) (n c : Nat) : NoH w (Wno w s x A n c) s x A n c := by
  refine ⟨ba _ (ba _ (Below.refl _ _)), (Blk.new _ _ _).alloc _, ?_⟩
  have := Blk.new (w.alloc (Obj.cells #[.int .i64 s, .slice A n c, .int .i64 x] 66)) 113 #[.pointer none, .int .i64 0]
  simpa [Wno] using this
theorem NoH.below {w wx w' : World} {s x : Int} {A : Option Addr} {n c : Nat} (h : NoH w wx s x A n c) (hb : Below wx.heap.size wx w') : NoH w w' s x A n c := ⟨bt3 hb h.bel, h.b0.below hb h.b0.lt, h.b1.below hb h.b1.lt⟩
end Go.Proofs.YtflgjecpjaiecaaGreat
