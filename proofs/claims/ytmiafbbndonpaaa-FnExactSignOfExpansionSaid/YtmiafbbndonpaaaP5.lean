/- Rows of digits that a function of the program lays itself and stores into. -/
import Derived.Test.YtmiafbbndonpaaaP4
set_option linter.unusedVariables false
set_option linter.unusedSimpArgs false
namespace Go.Proofs.Ytmiafbbndonpaaa
open Go.RowKit Num
theorem info32 : (Try.prog.info? 172).map (fun i => (i.zero, i.size, i.bytes)) = some (some (.int .u32 0), 1, 4) := by kernel_rfl
/-- a row of digits in block g, known whole -/
def Row32 (w : World) (g : Nat) (zs : List Int) : Prop := Blk w g 172 (c32 zs).toArray
theorem Row32.cell {w : World} {g : Nat} {zs : List Int} (h : Row32 w g zs) {i : Nat} (hi : i < zs.length) : w.cell? ⟨g, i, none⟩ = some (.int .u32 (zs.getD i 0)) := by
  rw [Blk.cell h]; simpa using c32_at zs i hi
theorem Row32.set {w : World} {g : Nat} {zs : List Int} (h : Row32 w g zs) (i : Nat) (x : Int) : Row32 (w.setCell ⟨g, i, none⟩ (.int .u32 x)) g (zs.set i x) := by
  have := Blk.set_ h i (.int .u32 x)
  unfold Row32
  have e : (c32 (zs.set i x)).toArray = (c32 zs).toArray.setIfInBounds i (.int .u32 x) := by simp [c32, List.map_set]
  rw [e]; exact this
theorem Row32.reads {w : World} {g : Nat} {zs : List Int} (h : Row32 w g zs) : R32 w (some ⟨g, 0, none⟩) zs := by
  refine ⟨by simp [c32], fun _ => ⟨_, rfl, Blk.lt h, fun j u hu => ?_⟩⟩
  have : (⟨g, 0, none⟩ : Addr).add j = ⟨g, j, none⟩ := by unfold Addr.add; split <;> simp_all
  rw [this, Blk.cell h]; simpa using hu
/-- a new row of zeros -/
theorem wpList_make32 {ops : Array Oper} {rest : List Oper} {o : Oper} {a : Act} {Q : Exit → Act → World → Prop} (w : World) (hgd : o.guard = none) (l c : Operand)
    (ho : o.op = Op.makeSlice 132 l c) (n : Nat) (L : Int) (hl : a.eval l = .int .i64 L) (hc : a.eval c = .int .i64 L) (hL : L = (n : Int)) (hn : n ≤ LIM)
    (h : ∀ w', Row32 w' w.heap.size (List.replicate n 0) → Below w.heap.size w w' → wpList Try.prog ops Q rest (a.put o.dst (.slice (some ⟨w.heap.size, 0, none⟩) n n)) w') : wpList Try.prog ops Q (o :: rest) a w := by
  obtain ⟨i0, hi0, hz0, hz1, hz2⟩ := info_parts info32
  refine wpList_make_full w hgd l c 132 ho w.heap.size 172 i0 _ 1 Try.underlying132 hi0 hz0 hz1 .i64 .i64 L L n hl hc hL hL ?_ ?_ (Nat.le_refl _) ?_
  · rw [hz2]; unfold LIM at hn; omega
  · unfold LIM at hn; unfold maxLen; omega
  · intro w' h1 h2
    refine h w' ?_ ((Below.refl _ _).grown h2 (Nat.le_refl _) (by simp))
    rcases h1.2 with ⟨hv, _⟩ | ⟨g, cap, cur, hv, _, hh, _, _, hsz, htk⟩
    · exact absurd hv (by intro e; injection e with e1; cases e1)
    · obtain ⟨e1, e2, e3⟩ := Value.slice.inj hv
      have e4 : w.heap.size = g := congrArg Addr.block (Option.some.inj e1)
      subst e4
      subst e3
      have e : (madeCells (Value.int .u32 0).cells (n * 1)).toList = c32 (List.replicate n 0) := by
        have : (Value.int .u32 0).cells = #[Value.int .u32 0] := rfl
        simp [madeCells, c32, this, Nat.mod_one]
        exact List.eq_replicate_iff.2 ⟨by simp, by simp⟩
      rw [e, List.take_of_length_le (by simp [hsz])] at htk
      unfold Row32 Blk
      rw [hh, ← htk]
end Go.Proofs.Ytmiafbbndonpaaa
