/- Contracts: new integers of the program. -/
import Derived.Test.YtmiafbbndonpaaaP2
set_option linter.unusedVariables false
set_option linter.unusedSimpArgs false
namespace Go.Proofs.Ytmiafbbndonpaaa
open Go.RowKit Num
theorem R32_new2 (w : World) (a b : Int) : R32 (w.alloc (.cells #[.int .u32 a, .int .u32 b] 172)) (some ⟨w.heap.size, 0, none⟩) [a, b] := by
  refine ⟨rfl, fun _ => ⟨_, rfl, by simp, fun j u hu => ?_⟩⟩
  have hb := Blk.new w 172 #[.int .u32 a, .int .u32 b]
  match j, hu with
  | 0, hu => simp [c32] at hu; subst hu; exact hb.cell 0
  | 1, hu => simp [c32] at hu; subst hu; exact hb.cell 1
theorem grown_alloc {w w' : World} {g : Nat} (o : Obj) (h : (w.alloc o).grownBy w' (some g)) : w.grownBy w' (some g) :=
  ⟨h.os, h.tape, h.output, Nat.le_trans (by simp) h.size, fun k hk hne => (h.block k (by simp; omega) hne).trans (Below.heap_alloc w o k hk)⟩
theorem dig2 {m : Int} (h0 : 0 ≤ m) (h1 : m < 4294967296) : Rng 4294967296 [m, m / 4294967296] ∧ val 4294967296 [m, m / 4294967296] = m := by
  have e : m / 4294967296 = 0 := by omega
  rw [e]
  exact ⟨Rng.cons h0 h1 (Rng.cons (by omega) (by omega) (Rng.nil _)), by show m + 4294967296 * (0 + 4294967296 * 0) = m; omega⟩
set_option maxHeartbeats 4000000 in
theorem m_Set (g : Nat) (b0 : Bool) (A0 : Option Addr) (n0 c0 : Nat) (n : Int) (w : World) (hb : Blk w g 134 #[.bool b0, .slice A0 n0 c0]) (h1 : -4294967296 < n) (h2 : n < 4294967296) :
    Calls Try.prog 198 #[.pointer (some ⟨g, 0, none⟩), .int .i64 n] w fun e w' => e = .returned (.pointer (some ⟨g, 0, none⟩)) ∧ Big w' g n ∧ w.grownBy w' (some g) := by
  have HB : Hd (Blk w g 134 #[.bool b0, .slice A0 n0 c0]) := ⟨hb⟩
  have hu : IntKind.u64.wrap n = if n < 0 then 18446744073709551616 + n else n := by rw [IntKind.wrap_u64]; split <;> omega
  clear hb
  by_cases h0 : n < 0
  · rw [if_pos h0] at hu
    have hu2 : IntKind.u64.wrap (-(18446744073709551616 + n)) = -n := by rw [IntKind.wrap_u64]; omega
    go_enter Try.func198, Try.ntmps198
    have HK := Hd.mk (m_Put g #[] b0 A0 n0 c0 true (some ⟨w.heap.size, 0, none⟩) 2 2 [-n, -n / 4294967296] _ (HB.out.alloc _) rfl (by unfold LIM; omega) (by omega) (R32_new2 w _ _) (dig2 (by omega) (by omega)).1 (fun ad e => by cases e; exact ⟨_, Blk.new _ _ _⟩) (Or.inl (by omega)))
    rw [(dig2 (m := -n) (by omega) (by omega)).2] at HK
    go_wp2_with (go_at_call 186; (with_reducible refine HK.out.mono ?_); rintro e w' ⟨rfl, hB, hg⟩; have HR : Hd (Big w' g n ∧ w.grownBy w' (some g)) := ⟨⟨by simpa using hB, grown_alloc _ hg⟩⟩; clear hB hg)
    go_ret
    exact ⟨rfl, HR.out.1, HR.out.2⟩
  · rw [if_neg h0] at hu
    have HK := Hd.mk (m_Put g #[] b0 A0 n0 c0 false (some ⟨w.heap.size, 0, none⟩) 2 2 [n, n / 4294967296] _ (HB.out.alloc _) rfl (by unfold LIM; omega) (by omega) (R32_new2 w _ _) (dig2 (by omega) (by omega)).1 (fun ad e => by cases e; exact ⟨_, Blk.new _ _ _⟩) (Or.inl (by omega)))
    rw [(dig2 (m := n) (by omega) (by omega)).2] at HK
    go_enter Try.func198, Try.ntmps198
    go_wp2_with (go_at_call 186; (with_reducible refine HK.out.mono ?_); rintro e w' ⟨rfl, hB, hg⟩; have HR : Hd (Big w' g n ∧ w.grownBy w' (some g)) := ⟨⟨by simpa using hB, grown_alloc _ hg⟩⟩; clear hB hg)
    go_ret
    exact ⟨rfl, HR.out.1, HR.out.2⟩
/-- what a call that hands back a new integer leaves -/
def RetI (a : Int) (w : World) (e : Ending) (w' : World) : Prop := ∃ g, e = .returned (.pointer (some ⟨g, 0, none⟩)) ∧ w.heap.size ≤ g ∧ Big w' g a ∧ Below w.heap.size w w'
set_option maxHeartbeats 4000000 in
theorem m_New (n : Int) (w : World) (h1 : -4294967296 < n) (h2 : n < 4294967296) :
    Calls Try.prog 150 #[.int .i64 n] w (RetI n w) := by
  have HK := Hd.mk (m_Set w.heap.size false none 0 0 n (w.alloc (.cells #[.bool false, .slice none 0 0] 134)) (Blk.new _ _ _) h1 h2)
  go_enter Try.func150, Try.ntmps150
  go_wp2_with (go_at_call 198; (with_reducible refine HK.out.mono ?_); rintro e w' ⟨rfl, hB, hg⟩; have HR : Hd (Big w' w.heap.size n ∧ Below w.heap.size w w') := ⟨⟨hB, ((Below.refl _ _).alloc (Nat.le_refl _) _).grown hg (by simp) (fun k e => by cases e; exact Nat.le_refl _)⟩⟩; clear hB hg)
  go_ret
  exact ⟨w.heap.size, rfl, Nat.le_refl _, HR.out.1, HR.out.2⟩
end Go.Proofs.Ytmiafbbndonpaaa
