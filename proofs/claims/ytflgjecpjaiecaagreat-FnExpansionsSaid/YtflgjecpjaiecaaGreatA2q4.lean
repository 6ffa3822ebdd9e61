/- Contracts: what the laws on draws share: the code's bytes, equality of floats, neighbours. -/
import Derived.Test.YtflgjecpjaiecaaGreatY1q4
import Derived.Test.YtflgjecpjaiecaaGreatU1q4
import Derived.Test.YtflgjecpjaiecaaGreatA1q4
import Derived.Test.YtflgjecpjaiecaaGreatGsq4
import Derived.Test.YtflgjecpjaiecaaGreatGfq4
set_option linter.unusedVariables false
set_option linter.unusedSimpArgs false
namespace Go.Proofs.YtflgjecpjaiecaaGreat
open Go.ChangeShapes Go.WideShapes Go.ChangeAt Go.RowKit Go.Joins Go.Deep Num Flt
section
variable {H : Type} {enc : TypeId × Value → H} {P : Program} {w : World} {base : Nat} {spare : Nat → Bool} {held : Bool}
theorem open_by {r : Reach} {b0 : Nat} {t e : TypeId} {v : Value} {d : DataW H} {p : List MemPlace} (ht : P.underlying t = some (.slice e)) (he : P.underlying e = some (.int .u8)) (hc : P.cellsOf e = 1)
    (hv : Value.okWide P w r b0 t v) (h : DataW.Trod enc P w base (fun _ => true) held t v d p) :
    ∃ A n c xs, v = .slice A n c ∧ n = xs.length ∧ n ≤ c ∧ c ≤ maxLen ∧ RB w w.heap.size A xs ∧ ∀ x ∈ xs, x < 256 := by
  obtain ⟨A, n, c, rfl⟩ := okWide_slice ht hv
  obtain ⟨fuel, hf⟩ := h
  rcases Go.Deep.open_slice1 ht hc (by simpa [Value.cells] using hf) with ⟨e1, _⟩ | ⟨a, len, cap, m, k, V, D, Pl, e1, hb, hl, hm, hmm, _, hx⟩
  · simp at e1
    obtain ⟨rfl, rfl, rfl⟩ := e1
    exact ⟨none, 0, 0, [], rfl, rfl, Nat.le_refl _, Nat.zero_le _, Reads.none_, by simp⟩
  · simp at e1
    obtain ⟨rfl, rfl, rfl⟩ := e1
    simp at hmm
    subst hmm
    have key : ∀ i, i < m → ∃ y : Nat, V i = .int .u8 (y : Int) ∧ y < 256 := fun i hi => by
      obtain ⟨y, e2, _, wy⟩ := DataW.trod_int he (hx i hi).2
      simp at e2
      have hy : 0 ≤ y ∧ y < 256 := by
        have h : IntKind.u8.min ≤ y ∧ y ≤ IntKind.u8.max := by simpa [Lit.wf] using wy
        have e1 : IntKind.u8.min = 0 := by decide
        have e2 : IntKind.u8.max = 255 := by decide
        rw [e1, e2] at h
        omega
      obtain ⟨z, hz⟩ := Int.eq_ofNat_of_zero_le hy.1
      exact ⟨z, by rw [e2, hz], by omega⟩
    obtain ⟨Y, hY⟩ := choose_lt (α := Nat) (p := fun i y => V i = .int .u8 (y : Int) ∧ y < 256) key
    have hYn : ∀ i, i < n → V i = .int .u8 (Y i : Int) ∧ Y i < 256 := fun i hi => hY i (by omega)
    refine ⟨some a, n, m, (List.range n).map Y, rfl, by simp, hl, hm, ⟨by simp [cB], fun hn => ⟨a, rfl, ?_, fun j u hu => ?_⟩⟩, fun x hx' => ?_⟩
    · have := World.block_lt_of_cell? w _ (hx 0 (by simp at hn; omega)).1
      rwa [block_of_add] at this
    · have hj : j < n := by
        have := (List.getElem?_eq_some_iff.1 hu).1
        simpa [cB] using this
      rw [(hx j (by omega)).1, (hYn j hj).1]
      simp [cB, hj] at hu
      rw [← hu]
    · obtain ⟨i, hi, rfl⟩ := List.mem_map.1 hx'
      exact (hYn i (by simpa using hi)).2
end
theorem code_of {w : World} {A : Option Addr} {n : Nat} {xs : List Nat} (hn : n = xs.length) (hl : (n : Int) ≤ 4096) (hR : RB w w.heap.size A xs) (hx : ∀ x ∈ xs, x < 256) : CodeP w w.heap.size A n xs := ⟨hn, hl, hR, hx⟩
set_option maxHeartbeats 4000000 in
theorem l_big (A : Option Addr) (n c : Nat) (w : World) (hn : n ≤ maxLen) : Calls Tryz.prog 24 #[.slice A n c] w fun e w' => e = .returned (.bool (decide ((4096 : Int) < n))) ∧ w = w' := by
  clear hn
  go_enter Tryz.func24, Tryz.ntmps24
  go_wp2
  go_ret
  exact ⟨rfl, rfl⟩
/-! floats compared -/
theorem q_eqs {x y : Nat} (hx : ¬ nan x) (hy : ¬ nan y) : (FloatKind.f32.format.order x y == some .eq) = decide (pl x = pl y) := by
  rw [o_eq]; simp [hx, hy]
theorem quo_inf (s : Bool) : ∃ r, floatBits .quo .f32 1065353216 (if s = true then 2147483648 else 0) = some r ∧ (FloatKind.f32.format.order r r == some .eq) = true := by
  cases s
  · exact ⟨2139095040, by decide +kernel, by decide +kernel⟩
  · exact ⟨4286578688, by decide +kernel, by decide +kernel⟩
set_option maxHeartbeats 4000000 in
theorem l_f9 (a : Nat) (w : World) (ha : W a) (hn : ¬ nan a) : Calls Tryz.prog 28 #[.float .f32 a, .float .f32 a] w fun e w' => e = .returned (.bool true) ∧ w = w' := by
  have h1 : (FloatKind.f32.format.order a a != some .eq) = false := by rw [o_ne]; simp [hn]
  have h2 : (FloatKind.f32.format.order a a == some .eq) = true := by rw [q_eqs hn hn]; simp
  have h3 := o_eq0 a ha
  have h4 : (FloatKind.f32.format.order a 0 != some .eq) = !(FloatKind.f32.format.order a 0 == some .eq) := rfl
  rw [h3] at h4
  by_cases hz : a = 0 ∨ a = 2147483648
  · rw [decide_eq_true hz] at h4
    obtain ⟨s, rfl⟩ : ∃ s, a = if s = true then 2147483648 else 0 := by
      rcases hz with rfl | rfl
      · exact ⟨false, rfl⟩
      · exact ⟨true, rfl⟩
    obtain ⟨r, hr, h5⟩ := quo_inf s
    have k1 := fun w => run_float_arith (P := Tryz.prog) w .quo 22 .f32 1065353216 _ r hr
    clear ha hn h3 hz hr
    generalize (if s = true then 2147483648 else 0) = b at *
    go_enter Tryz.func28, Tryz.ntmps28
    go_wp2_with fail
    go_ret
    exact ⟨rfl, rfl⟩
  · rw [decide_eq_false hz] at h4
    clear ha hn h3 hz
    go_enter Tryz.func28, Tryz.ntmps28
    go_wp2_with fail
    go_ret
    exact ⟨rfl, rfl⟩
/-! sums -/
/-- a sum that is 0, of the language -/
theorem add_zero {x y : Nat} (hx : W x) (hy : W y) (fx : fin x) (fy : fin y) (h0 : fv x + fv y = 0) : addW x y = Ieee.single.word (sgf Ieee.single x && sgf Ieee.single y) 0 := by
  obtain ⟨b, hb⟩ : ∃ b, b = min (-149 + (pe x : Int)) (-149 + (pe y : Int)) := ⟨_, rfl⟩
  have hx1 := fv_base hx (b := b) (by omega) (by omega)
  have hy1 := fv_base hy (b := b) (by omega) (by omega)
  have hp := pow2_pos (b + 20000).toNat
  have hT : Ieee.signed (sgf Ieee.single x) (pm x) (-149 + (pe x : Int) - b).toNat + Ieee.signed (sgf Ieee.single y) (pm y) (-149 + (pe y : Int) - b).toNat = 0 := by
    have hV : fv x + fv y = (Ieee.signed (sgf Ieee.single x) (pm x) (-149 + (pe x : Int) - b).toNat + Ieee.signed (sgf Ieee.single y) (pm y) (-149 + (pe y : Int) - b).toNat) * 2 ^ (b + 20000).toNat := by rw [Int.add_mul, ← hx1, ← hy1]
    rw [h0] at hV
    rcases Int.mul_eq_zero.1 hV.symm with k | k
    · exact k
    · omega
  unfold addW
  have : floatBits .add .f32 x y = some (Ieee.single.nearest (sgf Ieee.single x && sgf Ieee.single y) 0 b) := by
    show Ieee.single.add x y = _
    unfold Ieee.Format.add
    rw [read_v fx, read_v fy]
    simp only [Ieee.Datum.sum, Option.map, Ieee.Format.write]
    rw [← hb, hT, if_pos rfl]; rfl
  rw [this]; rfl
end Go.Proofs.YtflgjecpjaiecaaGreat
