/- Gf: Lf Rw, merged. -/
import Derived.Test.YtflgjecpjaiecaaGreatGc
import Derived.Test.YtflgjecpjaiecaaGreatGa
import Derived.Deep.QuietTactic
import Derived.BigQuiet
import Derived.Test.YtflgjecpjaiecaaGreatRows
import Derived.Carry
import Derived.Deep.Slices
/- Contracts: copies of lists of floats, their equality as the statements ask it. -/
set_option linter.unusedVariables false
set_option linter.unusedSimpArgs false
namespace Go.Proofs.YtflgjecpjaiecaaGreat
open Go.RowKit Num Flt
theorem infoF : (Tryz.prog.info? 22).map (fun i => (i.zero, i.size, i.bytes)) = some (some (.float .f32 0), 1, 4) := by kernel_rfl
/-- a row of floats in block g, known whole -/
def RowF (w : World) (g : Nat) (zs : List Nat) : Prop := Blk w g 22 (cF zs).toArray
theorem RowF.cell {w : World} {g : Nat} {zs : List Nat} (h : RowF w g zs) {i : Nat} (hi : i < zs.length) : w.cell? ⟨g, i, none⟩ = some (.float .f32 (zs.getD i 0)) := by
  rw [Blk.cell h]; simpa using cF_at zs i hi
theorem RowF.set {w : World} {g : Nat} {zs : List Nat} (h : RowF w g zs) (i : Nat) (x : Nat) : RowF (w.setCell ⟨g, i, none⟩ (.float .f32 x)) g (zs.set i x) := by
  have := Blk.set_ h i (.float .f32 x)
  unfold RowF
  have e : (cF (zs.set i x)).toArray = (cF zs).toArray.setIfInBounds i (.float .f32 x) := by simp [cF, List.map_set]
  rw [e]; exact this
theorem RowF.reads {w : World} {g : Nat} {zs : List Nat} (h : RowF w g zs) : RF w (some ⟨g, 0, none⟩) zs := by
  refine ⟨by simp [cF], fun _ => ⟨_, rfl, Blk.lt h, fun j u hu => ?_⟩⟩
  have : (⟨g, 0, none⟩ : Addr).add j = ⟨g, j, none⟩ := by unfold Addr.add; split <;> simp_all
  rw [this, Blk.cell h]; simpa using hu
theorem wpList_makeF {ops : Array Oper} {rest : List Oper} {o : Oper} {a : Act} {Q : Exit → Act → World → Prop} (w : World) (hgd : o.guard = none) (l c : Operand)
    (ho : o.op = Op.makeSlice 78 l c) (n : Nat) (L : Int) (hl : a.eval l = .int .i64 L) (hc : a.eval c = .int .i64 L) (hL : L = (n : Int)) (hn : n ≤ LIM)
    (h : ∀ w', RowF w' w.heap.size (List.replicate n 0) → Below w.heap.size w w' → wpList Tryz.prog ops Q rest (a.put o.dst (.slice (some ⟨w.heap.size, 0, none⟩) n n)) w') : wpList Tryz.prog ops Q (o :: rest) a w := by
  obtain ⟨i0, hi0, hz0, hz1, hz2⟩ := info_parts infoF
  refine wpList_make_full w hgd l c 78 ho w.heap.size 22 i0 _ 1 Tryz.underlying78 hi0 hz0 hz1 .i64 .i64 L L n hl hc hL hL ?_ ?_ (Nat.le_refl _) ?_
  · rw [hz2]; unfold LIM at hn; omega
  · unfold LIM at hn; unfold maxLen; omega
  · intro w' h1 h2
    refine h w' ?_ ((Below.refl _ _).grown h2 (Nat.le_refl _) (by simp))
    rcases h1.2 with ⟨hv, _⟩ | ⟨g, cap, cur, hv, _, hh, _, _, hsz, htk⟩
    · exact absurd hv (by intro e; injection e with e1; cases e1)
    · obtain ⟨e1, e2, e3⟩ := Value.slice.inj hv
      have e4 : w.heap.size = g := congrArg Addr.block (Option.some.inj e1)
      subst e4
      subst e3
      have e : (madeCells (Value.float .f32 0).cells (n * 1)).toList = cF (List.replicate n 0) := by
        have : (Value.float .f32 0).cells = #[Value.float .f32 0] := rfl
        simp [madeCells, cF, this, Nat.mod_one]
        exact List.eq_replicate_iff.2 ⟨by simp, by simp⟩
      rw [e, List.take_of_length_le (by simp [hsz])] at htk
      unfold RowF Blk
      rw [hh, ← htk]
/-- a copy of a list of floats -/
def RetF (xs : List Nat) (w : World) (e : Ending) (w' : World) : Prop := ∃ g, e = .returned (.slice (some ⟨g, 0, none⟩) xs.length xs.length) ∧ w.heap.size ≤ g ∧ RowF w' g xs ∧ Below w.heap.size w w'
def CopR (xs : List Nat) (k : Nat) (zs : List Nat) : Prop := zs.length = xs.length ∧ zs.take k = xs.take k
theorem CopR.next {xs zs : List Nat} {k : Nat} (h : CopR xs k zs) (hk : k < xs.length) : CopR xs (k + 1) (zs.set k (xs.getD k 0)) := by
  obtain ⟨h1, h2⟩ := h
  refine ⟨by simpa using h1, ?_⟩
  rw [List.take_succ_eq_append_getElem (by simp; omega), List.take_set_of_le (Nat.le_refl k), List.take_succ_eq_append_getElem hk, h2]
  simp [List.getD_eq_getElem?_getD, List.getElem?_eq_getElem hk]
/-! NaN in the wide format -/
def dnan (a : Nat) : Prop := Ieee.double.infRung < a % Ieee.double.signWeight
theorem dnan_cut (b t : Nat) : dnan ((Question.nanConv .f64 b).cut t) := by
  show 9218868437227405312 < (t % 2 * 2 ^ 63 + 0x7ff0000000000000 + 1 + t / 2 % (2 ^ 52 - 1)) % 9223372036854775808
  have h1 : (2 : Nat) ^ 63 = 9223372036854775808 := by decide
  have h2 : (2 : Nat) ^ 52 - 1 = 4503599627370495 := by decide
  rw [h1, h2]
  rcases Nat.mod_two_eq_zero_or_one t with h | h <;> rw [h] <;> omega
theorem run_conv_nan (b : Nat) (h : nan b) (w : World) : (Go.convert 22 26 (.float .f32 b)).run Tryz.prog w = .ok (.float .f64 ((Question.nanConv .f64 b).cut (w.tape w.drawn (.nanConv .f64 b)))) w.drew := by
  have hd : FloatKind.f32.decode b = .nan (sgf Ieee.single b) (b % Ieee.single.signWeight - Ieee.single.infRung) := read_nan Ieee.single (by decide) h
  simp [Go.convert, run_underlying Tryz.underlying22, run_underlying Tryz.underlying26, Conv.floatToFloat, hd, choose]
  rfl
set_option maxHeartbeats 4000000 in
theorem l_sameNaN (a b : Nat) (w : World) (ha : dnan a) (hb : dnan b) :
    Calls Tryz.prog 13 #[.float .f64 a, .float .f64 b] w fun e w' => e = .returned (.bool true) ∧ w = w' := by
  have q1 : (FloatKind.f64.format.order a a != some .eq) = true := by
    have : FloatKind.f64.format.order a a = none := order_nan_left Ieee.double a (by decide) ha
    rw [this]; rfl
  have q2 : (FloatKind.f64.format.order b b != some .eq) = true := by
    have : FloatKind.f64.format.order b b = none := order_nan_left Ieee.double b (by decide) hb
    rw [this]; rfl
  clear ha hb
  go_enter Tryz.func13, Tryz.ntmps13
  go_wp2_with fail
  go_ret
  exact ⟨rfl, rfl⟩
end Go.Proofs.YtflgjecpjaiecaaGreat

/- The rows' last step for statements whose call leaves the old memory as it was, whatever the arguments. -/
set_option linter.unusedVariables false
set_option linter.unusedSimpArgs false
namespace Go.Proofs.YtflgjecpjaiecaaGreat
open Go.ChangeShapes Go.WideShapes Go.ChangeAt Go.RowKit Go.Joins Go.Deep Flt
theorem laidOut : laidOutB Tryz.prog = true := by kernel_rfl
/-! the row's closed facts that hang on the program alone: each for itself (together they want too much memory) -/
theorem fact_maps : mapsRowed Tryz.prog = true := by kernel_rfl
theorem fact_stops : Tryz.prog.stopsHeard = true := by kernel_rfl
theorem fact_enter : Tryz.prog.mayEnter = true := by kernel_rfl
theorem fact_lifts : Tryz.prog.liftsFinal = false := by kernel_rfl
theorem lifts_eq {c : OpenClaim} (h : c.lifted = false) : (c.lifted == Tryz.prog.liftsFinal) = true := by rw [fact_lifts, h]; rfl
/-- one closed fact of a list of types: each can be read and is a row of the table -/
def typesRowed (P : Program) (ts : List TypeId) : Bool := ts.all fun t => P.readableRec t && decide (t < P.types.size)
section
variable {H : Type} {enc : TypeId × Value → H} {P : Program}
theorem trodAll_below (hl : laidOutB P = true) {W W' : World} (hb : Below W.heap.size W W') : ∀ {ts : List TypeId} {vs : List Value} {ds : List (DataW H)} {ps : List MemPlace}, typesRowed P ts = true → DataW.TrodAll enc P W 0 (fun _ => true) true ts vs ds ps → (∀ x ∈ ps, x.block < W.heap.size) → DataW.TrodAll enc P W' 0 (fun b => decide (b < W.heap.size)) true ts vs ds ps
  | [], [], [], _, _, h, _ => h
  | [], _ :: _, _, _, _, h, _ => h.elim
  | [], [], _ :: _, _, _, h, _ => h.elim
  | _ :: _, [], _, _, _, h, _ => h.elim
  | _ :: _, _ :: _, [], _, _, h, _ => h.elim
  | t :: ts, v :: vs, d :: ds, ps, hr, h, hlt => by
    obtain ⟨p, q, h1, h2, e⟩ := h
    simp only [typesRowed, List.all_cons, Bool.and_eq_true, decide_eq_true_eq] at hr
    exact ⟨p, q, Below.trod hl hr.1.1 hr.1.2 h1 hb (fun x hx => hlt x (by rw [e]; simp [hx])), trodAll_below hl hb (by simpa [typesRowed] using hr.2) h2 (fun x hx => hlt x (by rw [e]; simp [hx])), e⟩
theorem post_law {f : Func} {s : ChangeSpec} {W W' : World} {args : Array Value} {ds gs : List (DataW H)} {before : List MemPlace} {tb : TypeId}
    (hl : laidOutB P = true) (hts : typesRowed P f.params.toList = true) (hres : f.resultTypes = #[tb]) (htb : P.underlying tb = some .bool) (hv : s.vars = [])
    (hW : DataW.Whole enc P f.params.toList s.vars false W args.toList ds gs before) (hfn : s.fn H (ds ++ gs) = { results := [.lit (.bool true)], args := ds }) (hb : Below W.heap.size W W') :
    s.post enc P f false true false false W args (.bool true) W' := by
  have hlt : ∀ p ∈ before, p.block < W.heap.size := fun p hp => hW.lt p hp
  obtain ⟨p, q, h1, h2, e, hz, hn⟩ := id hW
  rw [hv] at h2
  have hq : q = [] := by
    cases gs with
    | nil => exact h2
    | cons g gs => exact h2.elim
  subst hq
  refine ⟨ds, gs, before, [], p, [], hW, ?_, ?_, ?_, World.keptBut_mono (fun x hx => ⟨hx, by rw [e] at hx; simp at hx; exact Or.inr (Or.inl hx)⟩) (hb.frame (· ∈ before)), fun h => by cases h⟩
  · rw [hfn, hres]
    exact trodAll_cons_mk (shut_bool htb _) trodAll_mk0
  · rw [hfn]
    exact trodAll_below hl hb hts h1 (fun x hx => hlt x (by rw [e]; simp [hx]))
  · rw [hv, hfn]; cases gs with
    | nil => rfl
    | cons g gs => exact h2.elim
variable {w : World} {base : Nat} {spare : Nat → Bool} {held : Bool}
theorem open_fl {r : Reach} {b0 : Nat} {t e : TypeId} {v : Value} {d : DataW H} {p : List MemPlace} (ht : P.underlying t = some (.slice e)) (he : P.underlying e = some (.float .f32)) (hc : P.cellsOf e = 1)
    (hv : Value.okWide P w r b0 t v) (h : DataW.Trod enc P w base (fun _ => true) held t v d p) :
    ∃ A n c xs, v = .slice A n c ∧ n = xs.length ∧ n ≤ c ∧ c ≤ maxLen ∧ RF w A xs ∧ ∀ x ∈ xs, W x := by
  obtain ⟨A, n, c, rfl⟩ := okWide_slice ht hv
  obtain ⟨fuel, hf⟩ := h
  rcases open_slice1 ht hc (by simpa [Value.cells] using hf) with ⟨e1, _⟩ | ⟨a, len, cap, m, k, V, D, Pl, e1, hb, hl, hm, hmm, _, hx⟩
  · simp at e1
    obtain ⟨rfl, rfl, rfl⟩ := e1
    exact ⟨none, 0, 0, [], rfl, rfl, Nat.le_refl _, Nat.zero_le _, Reads.none_, by simp⟩
  · simp at e1
    obtain ⟨rfl, rfl, rfl⟩ := e1
    simp at hmm
    subst hmm
    have key : ∀ i, i < m → ∃ y : Nat, V i = .float .f32 y ∧ W y := fun i hi => by
      obtain ⟨y, e2, _, wy⟩ := trod_float he (hx i hi).2
      simp at e2
      exact ⟨y, e2, Flt.W_of_wf wy⟩
    obtain ⟨Y, hY⟩ := choose_lt (α := Nat) (p := fun i y => V i = .float .f32 y ∧ W y) key
    have hYn : ∀ i, i < n → V i = .float .f32 (Y i) ∧ W (Y i) := fun i hi => hY i (by omega)
    refine ⟨some a, n, m, (List.range n).map Y, rfl, by simp, hl, hm, ⟨by simp [cF], fun hn => ⟨a, rfl, ?_, fun j u hu => ?_⟩⟩, fun x hx' => ?_⟩
    · have := World.block_lt_of_cell? w _ (hx 0 (by simp at hn; omega)).1
      rwa [block_of_add] at this
    · have hj : j < n := by
        have := (List.getElem?_eq_some_iff.1 hu).1
        simpa [cF] using this
      rw [(hx j (by omega)).1, (hYn j hj).1]
      simp [cF, hj] at hu
      rw [← hu]
    · obtain ⟨i, hi, rfl⟩ := List.mem_map.1 hx'
      exact (hYn i (by simpa using hi)).2
end
end Go.Proofs.YtflgjecpjaiecaaGreat
