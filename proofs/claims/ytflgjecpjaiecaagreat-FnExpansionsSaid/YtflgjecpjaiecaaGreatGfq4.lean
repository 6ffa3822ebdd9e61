/- Gf: Lf Rw, merged. -/
import Derived.Test.YtflgjecpjaiecaaGreatGcq4
import Derived.Test.YtflgjecpjaiecaaGreatGaq4
import Derived.Deep.QuietTactic
import Derived.BigQuiet
import Derived.Test.YtflgjecpjaiecaaGreatRows
import Derived.Carry
import Derived.Deep.Slices
/- Contracts: copies of lists of floats, their equality as the statements ask it. -/
set_option linter.unusedVariables false
set_option linter.unusedSimpArgs false
namespace Go.Proofs.YtflgjecpjaiecaaGreat
open Go.RowKit Num Flt
theorem infoF : (Tryz.prog.info? 22).map (fun i => (i.zero, i.size, i.bytes)) = some (some (.float .f32 0), 1, 4) := by kernel_rfl
/-- a row of floats in block g, known whole -/
def RowF (w : World) (g : Nat) (zs : List Nat) : Prop := Blk w g 22 (cF zs).toArray
theorem RowF.cell {w : World} {g : Nat} {zs : List Nat} (h : RowF w g zs) {i : Nat} (hi : i < zs.length) : w.cell? ⟨g, i, none⟩ = some (.float .f32 (zs.getD i 0)) := by
  rw [Blk.cell h]; simpa using cF_at zs i hi
theorem RowF.set {w : World} {g : Nat} {zs : List Nat} (h : RowF w g zs) (i : Nat) (x : Nat) : RowF (w.setCell ⟨g, i, none⟩ (.float .f32 x)) g (zs.set i x) := by
  have := Blk.set_ h i (.float .f32 x)
  unfold RowF
  have e : (cF (zs.set i x)).toArray = (cF zs).toArray.setIfInBounds i (.float .f32 x) := by simp [cF, List.map_set]
  rw [e]; exact this
theorem RowF.reads {w : World} {g : Nat} {zs : List Nat} (h : RowF w g zs) : RF w (some ⟨g, 0, none⟩) zs := by
  refine ⟨by simp [cF], fun _ => ⟨_, rfl, Blk.lt h, fun j u hu => ?_⟩⟩
  have : (⟨g, 0, none⟩ : Addr).add j = ⟨g, j, none⟩ := by unfold Addr.add; split <;> simp_all
  rw [this, Blk.cell h]; simpa using hu
def CopR (xs : List Nat) (k : Nat) (zs : List Nat) : Prop := zs.length = xs.length ∧ zs.take k = xs.take k
theorem CopR.next {xs zs : List Nat} {k : Nat} (h : CopR xs k zs) (hk : k < xs.length) : CopR xs (k + 1) (zs.set k (xs.getD k 0)) := by
  obtain ⟨h1, h2⟩ := h
  refine ⟨by simpa using h1, ?_⟩
  rw [List.take_succ_eq_append_getElem (by simp; omega), List.take_set_of_le (Nat.le_refl k), List.take_succ_eq_append_getElem hk, h2]
  simp [List.getD_eq_getElem?_getD, List.getElem?_eq_getElem hk]
/-! NaN in the wide format -/
end Go.Proofs.YtflgjecpjaiecaaGreat
/- The rows' last step for statements whose call leaves the old memory as it was, whatever the arguments. -/
set_option linter.unusedVariables false
set_option linter.unusedSimpArgs false
namespace Go.Proofs.YtflgjecpjaiecaaGreat
open Go.ChangeShapes Go.WideShapes Go.ChangeAt Go.RowKit Go.Joins Go.Deep Flt
theorem laidOut : laidOutB Tryz.prog = true := by kernel_rfl
/-! the row's closed facts that hang on the program alone: each for itself (together they want too much memory) -/
theorem fact_maps : mapsRowed Tryz.prog = true := by kernel_rfl
theorem fact_stops : Tryz.prog.stopsHeard = true := by kernel_rfl
theorem fact_enter : Tryz.prog.mayEnter = true := by kernel_rfl
theorem fact_lifts : Tryz.prog.liftsFinal = false := by kernel_rfl
theorem lifts_eq {c : OpenClaim} (h : c.lifted = false) : (c.lifted == Tryz.prog.liftsFinal) = true := by rw [fact_lifts, h]; rfl
/-- one closed fact of a list of types: each can be read and is a row of the table -/
def typesRowed (P : Program) (ts : List TypeId) : Bool := ts.all fun t => P.readableRec t && decide (t < P.types.size)
section
variable {H : Type} {enc : TypeId × Value → H} {P : Program}
theorem trodAll_below (hl : laidOutB P = true) {W W' : World} (hb : Below W.heap.size W W') : ∀ {ts : List TypeId} {vs : List Value} {ds : List (DataW H)} {ps : List MemPlace}, typesRowed P ts = true → DataW.TrodAll enc P W 0 (fun _ => true) true ts vs ds ps → (∀ x ∈ ps, x.block < W.heap.size) → DataW.TrodAll enc P W' 0 (fun b => decide (b < W.heap.size)) true ts vs ds ps
  | [], [], [], _, _, h, _ => h
  | [], _ :: _, _, _, _, h, _ => h.elim
  | [], [], _ :: _, _, _, h, _ => h.elim
  | _ :: _, [], _, _, _, h, _ => h.elim
  | _ :: _, _ :: _, [], _, _, h, _ => h.elim
  | t :: ts, v :: vs, d :: ds, ps, hr, h, hlt => by
    obtain ⟨p, q, h1, h2, e⟩ := h
    simp only [typesRowed, List.all_cons, Bool.and_eq_true, decide_eq_true_eq] at hr
    exact ⟨p, q, Below.trod hl hr.1.1 hr.1.2 h1 hb (fun x hx => hlt x (by rw [e]; simp [hx])), trodAll_below hl hb (by simpa [typesRowed] using hr.2) h2 (fun x hx => hlt x (by rw [e]; simp [hx])), e⟩
theorem post_law {f : Func} {s : ChangeSpec} {W W' : World} {args : Array Value} {ds gs : List (DataW H)} {before : List MemPlace} {tb : TypeId}
    (hl : laidOutB P = true) (hts : typesRowed P f.params.toList = true) (hres : f.resultTypes = #[tb]) (htb : P.underlying tb = some .bool) (hv : s.vars = [])
    (hW : DataW.Whole enc P f.params.toList s.vars false W args.toList ds gs before) (hfn : s.fn H (ds ++ gs) = { results := [.lit (.bool true)], args := ds }) (hb : Below W.heap.size W W') :
    s.post enc P f false true false false W args (.bool true) W' := by
  have hlt : ∀ p ∈ before, p.block < W.heap.size := fun p hp => hW.lt p hp
  obtain ⟨p, q, h1, h2, e, hz, hn⟩ := id hW
  rw [hv] at h2
  have hq : q = [] := by
    cases gs with
    | nil => exact h2
    | cons g gs => exact h2.elim
  subst hq
  refine ⟨ds, gs, before, [], p, [], hW, ?_, ?_, ?_, World.keptBut_mono (fun x hx => ⟨hx, by rw [e] at hx; simp at hx; exact Or.inr (Or.inl hx)⟩) (hb.frame (· ∈ before)), fun h => by cases h⟩
  · rw [hfn, hres]
    exact trodAll_cons_mk (shut_bool htb _) trodAll_mk0
  · rw [hfn]
    exact trodAll_below hl hb hts h1 (fun x hx => hlt x (by rw [e]; simp [hx]))
  · rw [hv, hfn]; cases gs with
    | nil => rfl
    | cons g gs => exact h2.elim
variable {w : World} {base : Nat} {spare : Nat → Bool} {held : Bool}
end
end Go.Proofs.YtflgjecpjaiecaaGreat
