/- The rows' last step for statements whose call leaves the old memory as it was, whatever the arguments. -/
import Derived.Test.YtmiafbbndonpaaaRows
import Derived.Test.YtmiafbbndonpaaaLf
import Derived.Test.YtmiafbbndonpaaaRow
import Derived.Carry
import Derived.Deep.Slices
set_option linter.unusedVariables false
set_option linter.unusedSimpArgs false
namespace Go.Proofs.Ytmiafbbndonpaaa
open Go.ChangeShapes Go.WideShapes Go.ChangeAt Go.RowKit Go.Joins Go.Deep Flt
theorem laidOut : laidOutB Try.prog = true := by kernel_rfl
/-! the row's closed facts that hang on the program alone: each for itself (together they want too much memory) -/
theorem fact_maps : mapsRowed Try.prog = true := by kernel_rfl
theorem fact_stops : Try.prog.stopsHeard = true := by kernel_rfl
theorem fact_enter : Try.prog.mayEnter = true := by kernel_rfl
theorem fact_lifts : Try.prog.liftsFinal = false := by kernel_rfl
theorem lifts_eq {c : OpenClaim} (h : c.lifted = false) : (c.lifted == Try.prog.liftsFinal) = true := by rw [fact_lifts, h]; rfl
/-- one closed fact of a list of types: each can be read and is a row of the table -/
def typesRowed (P : Program) (ts : List TypeId) : Bool := ts.all fun t => P.readableRec t && decide (t < P.types.size)
section
variable {H : Type} {enc : TypeId × Value → H} {P : Program}
theorem trodAll_below (hl : laidOutB P = true) {W W' : World} (hb : Below W.heap.size W W') : ∀ {ts : List TypeId} {vs : List Value} {ds : List (DataW H)} {ps : List MemPlace}, typesRowed P ts = true → DataW.TrodAll enc P W 0 (fun _ => true) true ts vs ds ps → (∀ x ∈ ps, x.block < W.heap.size) → DataW.TrodAll enc P W' 0 (fun b => decide (b < W.heap.size)) true ts vs ds ps
  | [], [], [], _, _, h, _ => h
  | [], _ :: _, _, _, _, h, _ => h.elim
  | [], [], _ :: _, _, _, h, _ => h.elim
  | _ :: _, [], _, _, _, h, _ => h.elim
  | _ :: _, _ :: _, [], _, _, h, _ => h.elim
  | t :: ts, v :: vs, d :: ds, ps, hr, h, hlt => by
    obtain ⟨p, q, h1, h2, e⟩ := h
    simp only [typesRowed, List.all_cons, Bool.and_eq_true, decide_eq_true_eq] at hr
    exact ⟨p, q, Below.trod hl hr.1.1 hr.1.2 h1 hb (fun x hx => hlt x (by rw [e]; simp [hx])), trodAll_below hl hb (by simpa [typesRowed] using hr.2) h2 (fun x hx => hlt x (by rw [e]; simp [hx])), e⟩
theorem post_law {f : Func} {s : ChangeSpec} {W W' : World} {args : Array Value} {ds gs : List (DataW H)} {before : List MemPlace} {tb : TypeId}
    (hl : laidOutB P = true) (hts : typesRowed P f.params.toList = true) (hres : f.resultTypes = #[tb]) (htb : P.underlying tb = some .bool) (hv : s.vars = [])
    (hW : DataW.Whole enc P f.params.toList s.vars false W args.toList ds gs before) (hfn : s.fn H (ds ++ gs) = { results := [.lit (.bool true)], args := ds }) (hb : Below W.heap.size W W') :
    s.post enc P f false true false false W args (.bool true) W' := by
  have hlt : ∀ p ∈ before, p.block < W.heap.size := fun p hp => hW.lt p hp
  obtain ⟨p, q, h1, h2, e, hz, hn⟩ := id hW
  rw [hv] at h2
  have hq : q = [] := by
    cases gs with
    | nil => exact h2
    | cons g gs => exact h2.elim
  subst hq
  refine ⟨ds, gs, before, [], p, [], hW, ?_, ?_, ?_, World.keptBut_mono (fun x hx => ⟨hx, by rw [e] at hx; simp at hx; exact Or.inr (Or.inl hx)⟩) (hb.frame (· ∈ before)), fun h => by cases h⟩
  · rw [hfn, hres]
    exact trodAll_cons_mk (shut_bool htb _) trodAll_mk0
  · rw [hfn]
    exact trodAll_below hl hb hts h1 (fun x hx => hlt x (by rw [e]; simp [hx]))
  · rw [hv, hfn]; cases gs with
    | nil => rfl
    | cons g gs => exact h2.elim
variable {w : World} {base : Nat} {spare : Nat → Bool} {held : Bool}
theorem open_fl {r : Reach} {b0 : Nat} {t e : TypeId} {v : Value} {d : DataW H} {p : List MemPlace} (ht : P.underlying t = some (.slice e)) (he : P.underlying e = some (.float .f32)) (hc : P.cellsOf e = 1)
    (hv : Value.okWide P w r b0 t v) (h : DataW.Trod enc P w base (fun _ => true) held t v d p) :
    ∃ A n c xs, v = .slice A n c ∧ n = xs.length ∧ n ≤ c ∧ c ≤ maxLen ∧ RF w A xs ∧ ∀ x ∈ xs, W x := by
  obtain ⟨A, n, c, rfl⟩ := okWide_slice ht hv
  obtain ⟨fuel, hf⟩ := h
  rcases open_slice1 ht hc (by simpa [Value.cells] using hf) with ⟨e1, _⟩ | ⟨a, len, cap, m, k, V, D, Pl, e1, hb, hl, hm, hmm, _, hx⟩
  · simp at e1
    obtain ⟨rfl, rfl, rfl⟩ := e1
    exact ⟨none, 0, 0, [], rfl, rfl, Nat.le_refl _, Nat.zero_le _, Reads.none_, by simp⟩
  · simp at e1
    obtain ⟨rfl, rfl, rfl⟩ := e1
    simp at hmm
    subst hmm
    have key : ∀ i, i < m → ∃ y : Nat, V i = .float .f32 y ∧ W y := fun i hi => by
      obtain ⟨y, e2, _, wy⟩ := trod_float he (hx i hi).2
      simp at e2
      exact ⟨y, e2, Flt.W_of_wf wy⟩
    obtain ⟨Y, hY⟩ := choose_lt (α := Nat) (p := fun i y => V i = .float .f32 y ∧ W y) key
    have hYn : ∀ i, i < n → V i = .float .f32 (Y i) ∧ W (Y i) := fun i hi => hY i (by omega)
    refine ⟨some a, n, m, (List.range n).map Y, rfl, by simp, hl, hm, ⟨by simp [cF], fun hn => ⟨a, rfl, ?_, fun j u hu => ?_⟩⟩, fun x hx' => ?_⟩
    · have := World.block_lt_of_cell? w _ (hx 0 (by simp at hn; omega)).1
      rwa [block_of_add] at this
    · have hj : j < n := by
        have := (List.getElem?_eq_some_iff.1 hu).1
        simpa [cF] using this
      rw [(hx j (by omega)).1, (hYn j hj).1]
      simp [cF, hj] at hu
      rw [← hu]
    · obtain ⟨i, hi, rfl⟩ := List.mem_map.1 hx'
      exact (hYn i (by simpa using hi)).2
end
end Go.Proofs.Ytmiafbbndonpaaa
