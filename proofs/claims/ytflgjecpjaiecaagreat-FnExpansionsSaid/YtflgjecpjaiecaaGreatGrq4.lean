/- Gr: G3, merged. -/
import Derived.Test.YtflgjecpjaiecaaGreatGoq4
import Derived.Test.YtflgjecpjaiecaaGreatGnq4
import Derived.Test.YtflgjecpjaiecaaGreatGmq4
/- Contracts: compressed expansions, both sides. -/
set_option linter.unusedVariables false
set_option linter.unusedSimpArgs false
namespace Go.Proofs.YtflgjecpjaiecaaGreat
open Go.RowKit Num Flt
/-! what a growing row of floats leaves alone -/
theorem OF.blk {w : World} {B k : Nat} {v : Value} {xs : List Nat} (h : OF w B v xs) (hk : v.ownBlock = some k) : ∃ cs, Blk w k 22 cs := by
  rcases h.2 with ⟨rfl, _⟩ | ⟨g, cap, cur, rfl, hg, hh, _⟩
  · simp [Value.ownBlock] at hk
  · have e : g = k := by simpa [Value.ownBlock] using hk
    subst e; exact ⟨cur, hh⟩
theorem Blk.push {w w' : World} {B g : Nat} {t : TypeId} {cs : Array Value} {v : Value} {ys : List Nat} (h : Blk w g t cs) (ht : 22 ≠ t) (ho : OF w B v ys) (hg : w.grownBy w' v.ownBlock) : Blk w' g t cs := by
  refine h.grown hg (fun k => ?_)
  obtain ⟨cs', hk⟩ := ho.blk k.symm
  exact (hk.ne_ h ht) rfl
theorem DyO.push {w w' : World} {B B2 : Nat} {s : Int} {A : Option Addr} {n c l : Nat} {e V : Int} {v : Value} {ys : List Nat} (h : DyO w B s A n c e V l) (ho : OF w B2 v ys) (hg : w.grownBy w' v.ownBlock) : DyO w' B s A n c e V l := by
  obtain ⟨m, ⟨xs, h1, h2, h3, h4⟩, h5⟩ := h
  refine ⟨m, ⟨xs, h1, h2, h3, World.ownsRow.kept h4 hg ?_⟩, h5⟩
  cases hv : v.ownBlock with
  | none => cases (Value.slice A n c).ownBlock with
    | none => exact Or.inl rfl
    | some k => exact Or.inr (by simp)
  | some k =>
    obtain ⟨cs, hk⟩ := ho.blk hv
    exact Or.inr (own_blk_ne h4 hk (by decide))
theorem NuP.push {w w' : World} {B2 g : Nat} {e V : Int} {l : Nat} {v : Value} {ys : List Nat} (h : NuP w g e V l) (ho : OF w B2 v ys) (hg : w.grownBy w' v.ownBlock) : NuP w' g e V l := by
  obtain ⟨m, ⟨neg, A, n, c, xs, hb, hd⟩, hF⟩ := h
  refine ⟨m, ⟨neg, A, n, c, xs, hb.push (by decide) ho hg, hd.grown hg (fun ad e k => ?_)⟩, hF⟩
  obtain ⟨cs', hk'⟩ := hd.typ ad e
  obtain ⟨cs, hk⟩ := ho.blk k.symm
  exact (hk.ne_ hk' (by decide)) rfl
theorem OF.setB {w : World} {B g : Nat} {t : TypeId} {cs : Array Value} {v : Value} {xs : List Nat} (h : OF w B v xs) (hk : Blk w g t cs) (ht : 22 ≠ t) (o : Nat) (u : Value) : OF (w.setCell ⟨g, o, none⟩ u) B v xs := by
  refine h.kept (gset w g o u) ?_
  cases hv : v.ownBlock with
  | none => exact Or.inl rfl
  | some k =>
    obtain ⟨cs', hb⟩ := h.blk hv
    exact Or.inr (fun e => (hb.ne_ hk ht) (Option.some.inj e))
theorem wpList_pushG {ops : Array Oper} {rest : List Oper} {o : Oper} {a : Act} {Q : Exit → Act → World → Prop} (w : World) (hgd : o.guard = none) (s x : Operand)
    (ho : o.op = .call { callee := .builtin .append, args := #[s, x], argTypes := #[78, 78] })
    (B : Nat) (v : Value) (xs : List Nat) (hs : a.eval s = v) (hown : OF w B v xs) (g c : Nat) (y : Nat) (hx : a.eval x = .slice (some ⟨g, 0, none⟩) 1 c) (hc : w.cell? ⟨g, 0, none⟩ = some (.float .f32 y))
    (hl : xs.length < LIM) (hB : B ≤ w.heap.size)
    (h : ∀ v' w', OF w' B v' (xs ++ [y]) → Below B w w' → w.grownBy w' v.ownBlock → wpList Tryz.prog ops Q rest (a.put o.dst v') w') : wpList Tryz.prog ops Q (o :: rest) a w := by
  obtain ⟨i0, hi0, hz0, hz1, hz2⟩ := info_parts infoF
  refine wpList_append_own w hgd s x 78 ho B 22 i0 _ 1 4 Tryz.underlying78 hi0 hz0 hz1 hz2 rfl (by omega) v xs.length (cF xs) hs hown ⟨g, 0, none⟩ 1 c [.float .f32 y] hx rfl ?_ ?_ ?_ ?_ hB ?_
  · intro j u hj
    match j, hj with
    | 0, hj => simp at hj; subst hj; simpa [Addr.add] using hc
  · intro u hu; simp at hu; subst hu; rfl
  · unfold LIM at hl; unfold maxLen; omega
  · unfold LIM at hl; omega
  · intro v' w' h1 h2 _
    refine h v' w' ?_ ?_ h2
    · unfold OF; rw [cF_append, List.length_append]; exact h1
    · refine (Below.refl _ _).grown h2 hB ?_
      intro k hk
      rcases hown.2 with ⟨rfl, _⟩ | ⟨g', cap, cur, rfl, hg, _⟩
      · simp [Value.ownBlock] at hk
      · have : g' = k := by simpa [Value.ownBlock] using hk
        omega
/-! compressing, as plain lists -/
def cpr : Nat → Int → Option (List Nat)
  | 0, V => if V = 0 then some [] else none
  | k + 1, V => if V = 0 then some [] else if fin (nrF V) then (cpr k (V - fv (nrF V))).map (nrF V :: ·) else none
def CpR (V0 : Int) (k : Nat) (V : Int) (ys : List Nat) : Prop := ys.length + k = 8 ∧ cpr 8 V0 = (cpr k V).map (ys ++ ·) ∧ (∀ y ∈ ys, W y) ∧ -(FB * (10 + (ys.length : Int))) < V ∧ V < FB * (10 + (ys.length : Int))
theorem CpR.start {V : Int} (h0 : -(FB * 10) < V) (h1 : V < FB * 10) : CpR V 8 V [] := ⟨rfl, by simp, by simp, by simpa using h0, by simpa using h1⟩
theorem CpR.next {V0 V : Int} {k : Nat} {ys : List Nat} (h : CpR V0 (k + 1) V ys) (hV : V ≠ 0) (hf : fin (nrF V)) : CpR V0 k (V - fv (nrF V)) (ys ++ [nrF V]) := by
  obtain ⟨h1, h2, h3, h4, h5⟩ := h
  have h6 := fv_lt hf
  refine ⟨by simp; omega, ?_, ?_, ?_, ?_⟩
  · rw [h2]
    simp only [cpr]
    rw [if_neg hV, if_pos hf, Option.map_map]
    congr 1
    funext z; simp
  · intro y hy
    rcases List.mem_append.1 hy with hy | hy
    · exact h3 y hy
    · simp at hy; subst hy; exact (nrF_num _).1
  · have : FB * (10 + ((ys ++ [nrF V]).length : Int)) = FB * (10 + (ys.length : Int)) + FB := by
      rw [List.length_append]; simp; rw [← Int.add_assoc, Int.mul_add FB (10 + (ys.length : Int)) 1, Int.mul_one]
    rw [this]; omega
  · have : FB * (10 + ((ys ++ [nrF V]).length : Int)) = FB * (10 + (ys.length : Int)) + FB := by
      rw [List.length_append]; simp; rw [← Int.add_assoc, Int.mul_add FB (10 + (ys.length : Int)) 1, Int.mul_one]
    rw [this]; omega
theorem CpR.bd {V0 V : Int} {k : Nat} {ys : List Nat} (h : CpR V0 k V ys) (hf : fin (nrF V)) : Bd (V - fv (nrF V)) := by
  obtain ⟨h1, h2, h3, h4, h5⟩ := h
  have h6 := fv_lt hf
  have : FB * (11 + (ys.length : Int)) = FB * (10 + (ys.length : Int)) + FB := by
    rw [show (11 + (ys.length : Int)) = (10 + (ys.length : Int)) + 1 by omega, Int.mul_add, Int.mul_one]
  exact bd_fb (k := 11 + (ys.length : Int)) (by rw [this]; omega) (by rw [this]; omega) (by omega)
theorem CpR.fail {V0 V : Int} {k : Nat} {ys : List Nat} (h : CpR V0 k V ys) (hV : V ≠ 0) (hf : ¬ fin (nrF V) ∨ k = 0) : cpr 8 V0 = none := by
  rw [h.2.1]
  cases k with
  | zero => simp only [cpr]; rw [if_neg hV]; rfl
  | succ k =>
    simp only [cpr]
    rw [if_neg hV, if_neg (by rcases hf with hf | hf; exact hf; cases hf)]; rfl
theorem CpR.done {V0 V : Int} {k : Nat} {ys : List Nat} (h : CpR V0 k V ys) (hV : V = 0) : cpr 8 V0 = some ys := by
  rw [h.2.1]
  cases k <;> simp [cpr, hV]
def one0 : List Nat → List Nat
  | [] => [0]
  | ys => ys
def ceC (xs : List Nat) : Int := if lstC xs = 0 then (if (cpr 8 (sumv xs)).isSome = true then 0 else 3) else lstC xs
def ceL (xs : List Nat) : List Nat := if ceC xs = 0 then one0 ((cpr 8 (sumv xs)).getD []) else []
theorem ce_list {xs : List Nat} (h : lstC xs ≠ 0) : ceC xs = lstC xs ∧ ceL xs = [] := by
  have h1 : ceC xs = lstC xs := by unfold ceC; rw [if_neg h]
  exact ⟨h1, by unfold ceL; rw [h1, if_neg h]⟩
theorem ce_none {xs : List Nat} (h : lstC xs = 0) (hg : cpr 8 (sumv xs) = none) : ceC xs = 3 ∧ ceL xs = [] := by
  have h1 : ceC xs = 3 := by unfold ceC; rw [if_pos h, hg]; rfl
  exact ⟨h1, by unfold ceL; rw [h1]; rfl⟩
theorem ce_some {xs ys : List Nat} (h : lstC xs = 0) (hg : cpr 8 (sumv xs) = some ys) : ceC xs = 0 ∧ ceL xs = one0 ys := by
  have h1 : ceC xs = 0 := by unfold ceC; rw [if_pos h, hg]; rfl
  exact ⟨h1, by unfold ceL; rw [h1, hg]; rfl⟩
def lenV : Value → Nat
  | .slice _ n _ => n
  | _ => 0
theorem sum_small {xs : List Nat} (h : lstC xs = 0) : -(FB * 10) < sumv xs ∧ sumv xs < FB * 10 := by
  have h1 := lst_fin h
  have h2 := sumv_lt xs (fun x hx => h1.2 x hx)
  have h3 : FB * ((xs.length : Int) + 1) ≤ FB * 10 := Int.mul_le_mul_of_nonneg_left (by omega) (Int.le_of_lt FB_pos)
  omega
set_option maxRecDepth 4000 in
set_option maxHeartbeats 4000000 in
theorem s_CompL (A : Option Addr) (n c : Nat) (xs : List Nat) (w : World) (hn : n = xs.length) (hR : RF w A xs) (hx : ∀ x ∈ xs, W x) (h0 : lstC xs = 0) :
    Calls Tryz.prog 79 #[.slice A n c] w (RetGW (ceC xs) (ceL xs) w) := by
  have hF := lst_fin h0
  have HR : Hd (RF w A xs ∧ n = xs.length ∧ n ≤ LIM ∧ (∀ x ∈ xs, W x)) := ⟨⟨hR, hn, by have := hF.1; unfold LIM; omega, hx⟩⟩
  have HFF : Hd (n ≤ 1000 ∧ ∀ x ∈ xs, W x ∧ fin x) := ⟨⟨by have := hF.1; omega, fun x h => ⟨hx x h, hF.2 x h⟩⟩⟩
  have HLC := Hd.mk h0
  have HS := Hd.mk (CpR.start (sum_small h0).1 (sum_small h0).2)
  clear hn hR hx h0 hF
  go_enter Tryz.func79, Tryz.ntmps79
  go_wp2_with (first | (go_at_call 147; (with_reducible refine (s_List A n c xs _ HR.out.2.1 HR.out.2.2.1 HR.out.1 HR.out.2.2.2).mono ?_); rintro e w' ⟨rfl, ⟨nd, rfl⟩⟩; rw [HLC.out]) | (go_at_call 151; (with_reducible refine (s_All A n c xs _ HR.out.2.1 HFF.out.1 (HR.out.1.below (by (repeat (first | exact Below.refl _ _ | assumption | refine Below.drew ?_ | refine bdn ?_ | refine ba _ ?_ | refine bs0 _ _ ?_ ?_ | refine bs1 _ _ _ ?_ ?_ | refine bs2 _ _ _ _ ?_ ?_ | refine bs3 _ _ _ _ _ ?_ ?_ | refine bt3 (by assumption) ?_)))) HFF.out.2).mono ?_); rintro e' w2 ⟨s2, A2, n2, c2, x2, rfl, hD, hq⟩; have HD := Hd.mk hD; have HB : Hd (Below w.heap.size w w2) := ⟨bt3 hq (by (repeat (first | exact Below.refl _ _ | assumption | refine Below.drew ?_ | refine bdn ?_ | refine ba _ ?_ | refine bs0 _ _ ?_ ?_ | refine bs1 _ _ _ ?_ ?_ | refine bs2 _ _ _ _ ?_ ?_ | refine bs3 _ _ _ _ _ ?_ ?_ | refine bt3 (by assumption) ?_)))⟩; clear hD hq))
  go_loopw [6] (fun v wr => ∃ (k : Nat) (s : Int) (A1 : Option Addr) (n1 c1 : Nat) (e V : Int) (ys : List Nat), Hd (CpR (sumv xs) k V ys) ∧ Hd (OF wr w.heap.size v ys) ∧ Hd (Below w.heap.size w wr) ∧ Hd (Blk wr (w2.heap.size + 1) 66 #[.int .i64 s, .slice A1 n1 c1, .int .i64 e]) ∧ Hd (DyO wr 0 s A1 n1 c1 e V 149))
    (fun v _ => 9 - lenV v)
  case atStart =>
    refine ⟨8, s2, A2, n2, c2, x2, sumv xs, [], HS, ⟨(own_emptyF w2 _ HB.out.size).alloc _⟩, ⟨by have hbb := HB.out; (repeat (first | exact Below.refl _ _ | assumption | refine Below.drew ?_ | refine bdn ?_ | refine ba _ ?_ | refine bs0 _ _ ?_ ?_ | refine bs1 _ _ _ ?_ ?_ | refine bs2 _ _ _ _ ?_ ?_ | refine bs3 _ _ _ _ _ ?_ ?_ | refine bt3 (by assumption) ?_))⟩, ⟨?_⟩, ⟨(HD.out.keep (by (repeat (first | exact Below.refl _ _ | assumption | refine Below.drew ?_ | refine bdn ?_ | refine ba _ ?_ | refine bs0 _ _ ?_ ?_ | refine bs1 _ _ _ ?_ ?_ | refine bs2 _ _ _ _ ?_ ?_ | refine bs3 _ _ _ _ _ ?_ ?_ | refine bt3 (by assumption) ?_)))).mono (Nat.zero_le _)⟩⟩
    have := Blk.new (w2.alloc (.cells #[] 22)) 66 #[.int .i64 s2, .slice A2 n2 c2, .int .i64 x2]
    simpa using this
  case round =>
    obtain ⟨k, s, A1, n1, c1, e, V, ys, HP, HO, HB2, HK, HD2⟩ := hrel
    obtain ⟨Av, cv, rfl, _⟩ := HO.out.form
    have c0 : wr.cell? _ = some (.int .i64 s) := HK.out.cell 0
    have c1' : wr.cell? _ = some (.slice A1 n1 c1) := HK.out.cell 1
    have c2' : wr.cell? _ = some (.int .i64 e) := HK.out.cell 2
    have hsv := dy_sign HD2.out.dp
    have hgl : w.heap.size < w2.heap.size + 1 := by have := HB.out.size; omega
    by_cases hV : V = 0
    · have hs0 : s = 0 := by rw [hsv, hV]; rfl
      have HV := Hd.mk (ce_some HLC.out (HP.out.done hV))
      have HO5 := HO
      have HB5 := HB2
      have HLY : Hd (ys.length < LIM) := ⟨by have := HP.out.1; unfold LIM; omega⟩
      subst hs0
      clear hsv hV
      cases hys : ys with
      | nil =>
        subst hys
        go_wp2_with (first | (at_builtin; refine wpList_pushG _ rfl (.tmp 41) (.tmp 42) rfl w.heap.size _ [] rfl (HO5.out.keep (by (repeat (first | exact Below.refl _ _ | assumption | refine Below.drew ?_ | refine bdn ?_ | refine ba _ ?_ | refine bs0 _ _ ?_ ?_ | refine bs1 _ _ _ ?_ ?_ | refine bs2 _ _ _ _ ?_ ?_ | refine bs3 _ _ _ _ _ ?_ ?_ | refine bt3 (by assumption) ?_)))) _ 1 (0) rfl (by first | (go_simp; done) | exact (Blk.new _ _ _).cell 0) HLY.out (by have := HB5.out.size; simp; omega) ?_; intro v1 wq ho1 hb1 hg1; skip; have HOq : Hd (OF wq w.heap.size v1 _) := ⟨ho1⟩; have HBq : Hd (Below w.heap.size w wq) := ⟨bel_up (by have hbb := HB5.out; (repeat (first | exact Below.refl _ _ | assumption | refine Below.drew ?_ | refine bdn ?_ | refine ba _ ?_ | refine bs0 _ _ ?_ ?_ | refine bs1 _ _ _ ?_ ?_ | refine bs2 _ _ _ _ ?_ ?_ | refine bs3 _ _ _ _ _ ?_ ?_ | refine bt3 (by assumption) ?_))) hb1⟩; clear ho1 hb1 hg1))
        obtain ⟨A9, c9, rfl, _⟩ := HOq.out.form
        go_ret2
        exact ⟨A9, _, c9, by rw [HV.out.1] <;> rfl, by rw [HV.out.2]; exact HOq.out, HBq.out⟩
      | cons y0 yt =>
        subst hys
        have hl0 : (((yt.length + 1 : Nat) : Int) == 0) = false := by simp; omega
        have hl0' : (((yt.length : Int) + 1) == 0) = false := by simp; omega
        go_wp2
        go_ret2
        exact ⟨Av, _, cv, by rw [HV.out.1] <;> rfl, by rw [HV.out.2]; exact HO.out, HB2.out⟩
    · have hs1 : (s == 0) = false := by rw [hsv]; simpa [Int.sign_eq_zero_iff_zero] using hV
      have HLY : Hd (ys.length < LIM) := ⟨by have := HP.out.1; unfold LIM; omega⟩
      have HC := Hd.mk (fun w hX => s_Near s A1 n1 c1 e V 149 w hX)
      by_cases hf : fin (nrF V)
      · have p1 : decide (fin (nrF V)) = true := decide_eq_true hf
        cases k with
        | zero =>
          have HV := Hd.mk (ce_none HLC.out (HP.out.fail hV (Or.inr rfl)))
          have hl8 : ((ys.length : Int) == 8) = true := by have := HP.out.1; simp; omega
          generalize nrF V = x at *
          clear hsv hV hf
          go_wp2_with (first | (go_at_call 152; (with_reducible refine (HC.out _ (HD2.out.dp)).mono ?_); rintro e5 w5 ⟨rfl, hb⟩; have HB5 : Hd (Below w.heap.size w w5) := ⟨bt3 hb HB2.out⟩; clear hb) | (go_at_call 125; (with_reducible refine (s_Finite _ _).mono ?_); rintro e w' ⟨rfl, ⟨nd, rfl⟩⟩))
          go_ret2
          exact ⟨none, 0, 0, by rw [HV.out.1] <;> rfl, by rw [HV.out.2]; exact OF.nil _ _, by have hbb := HB5.out; (repeat (first | exact Below.refl _ _ | assumption | refine Below.drew ?_ | refine bdn ?_ | refine ba _ ?_ | refine bs0 _ _ ?_ ?_ | refine bs1 _ _ _ ?_ ?_ | refine bs2 _ _ _ _ ?_ ?_ | refine bs3 _ _ _ _ _ ?_ ?_ | refine bt3 (by assumption) ?_))⟩
        | succ k =>
          have HN := Hd.mk (HP.out.next hV hf)
          have HBD := Hd.mk (HP.out.bd hf)
          have hl8 : ((ys.length : Int) == 8) = false := by have := HP.out.1; simp; omega
          have HX : Hd (W (nrF V) ∧ fin (nrF V) ∧ ys.length < 8) := ⟨⟨(nrF_num _).1, hf, by have := HP.out.1; omega⟩⟩
          generalize nrF V = x at *
          clear hsv hV hf c0 c1' c2'
          have c0 : wr.cell? _ = some (.int .i64 s) := HK.out.cell 0
          have c1' : wr.cell? _ = some (.slice A1 n1 c1) := HK.out.cell 1
          have c2' : wr.cell? _ = some (.int .i64 e) := HK.out.cell 2
          go_wp2_with (first | (go_at_call 152; (with_reducible refine (HC.out _ (HD2.out.dp)).mono ?_); rintro e5 w5 ⟨rfl, hb⟩; have HB5 : Hd (Below w.heap.size w w5) := ⟨bt3 hb HB2.out⟩; have HO5 := Hd.mk (HO.out.keep hb); have HK5 := Hd.mk (HK.out.below hb HK.out.lt); have HD5 := Hd.mk (HD2.out.keep hb); clear hb) | (go_at_call 125; (with_reducible refine (s_Finite _ _).mono ?_); rintro e w' ⟨rfl, ⟨nd, rfl⟩⟩) | (at_builtin; refine wpList_pushG _ rfl (.tmp 30) (.tmp 32) rfl w.heap.size _ ys rfl (HO5.out.keep (by (repeat (first | exact Below.refl _ _ | assumption | refine Below.drew ?_ | refine bdn ?_ | refine ba _ ?_ | refine bs0 _ _ ?_ ?_ | refine bs1 _ _ _ ?_ ?_ | refine bs2 _ _ _ _ ?_ ?_ | refine bs3 _ _ _ _ _ ?_ ?_ | refine bt3 (by assumption) ?_)))) _ 1 (x) rfl (by first | (go_simp; done) | exact (Blk.new _ _ _).cell 0) HLY.out (by have := HB5.out.size; simp; omega) ?_; intro v1 wq ho1 hb1 hg1; have HDq := Hd.mk (DyO.push (HD5.out.keep (by (repeat (first | exact Below.refl _ _ | assumption | refine Below.drew ?_ | refine bdn ?_ | refine ba _ ?_ | refine bs0 _ _ ?_ ?_ | refine bs1 _ _ _ ?_ ?_ | refine bs2 _ _ _ _ ?_ ?_ | refine bs3 _ _ _ _ _ ?_ ?_ | refine bt3 (by assumption) ?_)))) (HO5.out.keep (by (repeat (first | exact Below.refl _ _ | assumption | refine Below.drew ?_ | refine bdn ?_ | refine ba _ ?_ | refine bs0 _ _ ?_ ?_ | refine bs1 _ _ _ ?_ ?_ | refine bs2 _ _ _ _ ?_ ?_ | refine bs3 _ _ _ _ _ ?_ ?_ | refine bt3 (by assumption) ?_)))) hg1); have HKq := Hd.mk (Blk.push (HK5.out.below (B := w5.heap.size) (by (repeat (first | exact Below.refl _ _ | assumption | refine Below.drew ?_ | refine bdn ?_ | refine ba _ ?_ | refine bs0 _ _ ?_ ?_ | refine bs1 _ _ _ ?_ ?_ | refine bs2 _ _ _ _ ?_ ?_ | refine bs3 _ _ _ _ _ ?_ ?_ | refine bt3 (by assumption) ?_))) HK5.out.lt) (by decide) (HO5.out.keep (by (repeat (first | exact Below.refl _ _ | assumption | refine Below.drew ?_ | refine bdn ?_ | refine ba _ ?_ | refine bs0 _ _ ?_ ?_ | refine bs1 _ _ _ ?_ ?_ | refine bs2 _ _ _ _ ?_ ?_ | refine bs3 _ _ _ _ _ ?_ ?_ | refine bt3 (by assumption) ?_)))) hg1); have HOq : Hd (OF wq w.heap.size v1 _) := ⟨ho1⟩; have HBq : Hd (Below w.heap.size w wq) := ⟨bel_up (by have hbb := HB5.out; (repeat (first | exact Below.refl _ _ | assumption | refine Below.drew ?_ | refine bdn ?_ | refine ba _ ?_ | refine bs0 _ _ ?_ ?_ | refine bs1 _ _ _ ?_ ?_ | refine bs2 _ _ _ _ ?_ ?_ | refine bs3 _ _ _ _ _ ?_ ?_ | refine bt3 (by assumption) ?_))) hb1⟩; clear ho1 hb1 hg1))
          have d0 : wq.cell? _ = some (.int .i64 s) := HKq.out.cell 0
          have d1 : wq.cell? _ = some (.slice A1 n1 c1) := HKq.out.cell 1
          have d2 : wq.cell? _ = some (.int .i64 e) := HKq.out.cell 2
          go_region_with (first | (go_at_call 153; (with_reducible refine (s_DOf x _ HX.out.1 HX.out.2.1).mono ?_); rintro e6 w6 ⟨s6, A6, n6, c6, x6, rfl, hW, hq⟩; have hq6 : Below wq.heap.size wq w6 := bt3 hq (by (repeat (first | exact Below.refl _ _ | assumption | refine Below.drew ?_ | refine bdn ?_ | refine ba _ ?_ | refine bs0 _ _ ?_ ?_ | refine bs1 _ _ _ ?_ ?_ | refine bs2 _ _ _ _ ?_ ?_ | refine bs3 _ _ _ _ _ ?_ ?_ | refine bt3 (by assumption) ?_))); have H6 := Hd.mk hW.dp; have HK6 := Hd.mk (HKq.out.below hq6 HKq.out.lt); have u0 : w6.cell? _ = some (.int .i64 s) := HK6.out.cell 0; have u1 : w6.cell? _ = some (.slice A1 n1 c1) := HK6.out.cell 1; have u2 : w6.cell? _ = some (.int .i64 e) := HK6.out.cell 2; clear hW hq) | (go_at_call 142; (with_reducible refine (s_DSub s s6 e x6 V (fv x) A1 A6 n1 n6 c1 c6 149 _ (HDq.out.dp.below (by (repeat (first | exact Below.refl _ _ | assumption | refine Below.drew ?_ | refine bdn ?_ | refine ba _ ?_ | refine bs0 _ _ ?_ ?_ | refine bs1 _ _ _ ?_ ?_ | refine bs2 _ _ _ _ ?_ ?_ | refine bs3 _ _ _ _ _ ?_ ?_ | refine bt3 (by assumption) ?_)))) (H6.out.below (by (repeat (first | exact Below.refl _ _ | assumption | refine Below.drew ?_ | refine bdn ?_ | refine ba _ ?_ | refine bs0 _ _ ?_ ?_ | refine bs1 _ _ _ ?_ ?_ | refine bs2 _ _ _ _ ?_ ?_ | refine bs3 _ _ _ _ _ ?_ ?_ | refine bt3 (by assumption) ?_)))) HBD.out).mono ?_); rintro e7 w7 ⟨s7, A7, n7, c7, x7, rfl, hD, hq⟩; have hq7 : Below wq.heap.size wq w7 := bt3 hq (by (repeat (first | exact Below.refl _ _ | assumption | refine Below.drew ?_ | refine bdn ?_ | refine ba _ ?_ | refine bs0 _ _ ?_ ?_ | refine bs1 _ _ _ ?_ ?_ | refine bs2 _ _ _ _ ?_ ?_ | refine bs3 _ _ _ _ _ ?_ ?_ | refine bt3 (by assumption) ?_))); have H7 := Hd.mk (hD.mono (show w2.heap.size + 1 + 1 ≤ _ from (by have h1 := HKq.out.lt; have h2 := hq6.size; (try simp); omega))); have HK7 := Hd.mk (HKq.out.below hq7 HKq.out.lt); have HO7 := Hd.mk (HOq.out.keep hq7); have y0 : w7.cell? _ = some (.int .i64 s) := HK7.out.cell 0; have y1 : w7.cell? _ = some (.slice A1 n1 c1) := HK7.out.cell 1; have y2 : w7.cell? _ = some (.int .i64 e) := HK7.out.cell 2; have z0 := HK7.out.frozen 0; have z1 := HK7.out.frozen 1; have z2 := HK7.out.frozen 2; clear hD hq))
          all_goals
            go_wp2_with fail
            go_roundw
            case rel =>
              refine ⟨k, s7, A7, n7, c7, x7, V - fv x, ys ++ [x], HN, ⟨?_⟩, ⟨?_⟩, ⟨?_⟩, ⟨?_⟩⟩
              · exact ((HO7.out.setB HK7.out (by decide) 0 _).setB (HK7.out.set_ 0 _) (by decide) 1 _).setB ((HK7.out.set_ 0 _).set_ 1 _) (by decide) 2 _
              · have hbb : Below w.heap.size w w7 := bt3 hq7 HBq.out
                exact ((hbb.setCell (by simp; omega) _).setCell (by simp; omega) _).setCell (by simp; omega) _
              · have := ((HK7.out.set_ 0 (.int .i64 s7)).set_ 1 (.slice A7 n7 c7)).set_ 2 (.int .i64 x7)
                simpa using this
              · exact ((((H7.out.set _ _ (Nat.lt_succ_self _) _).set _ _ (Nat.lt_succ_self _) _).set _ _ (Nat.lt_succ_self _) _)).mono (Nat.zero_le _)
            case measure =>
              obtain ⟨A9, c9, e9, _⟩ := HOq.out.form
              subst e9
              have := HX.out.2.2
              simp [lenV]; omega
      · have p1 : decide (fin (nrF V)) = false := decide_eq_false hf
        have HV := Hd.mk (ce_none HLC.out (HP.out.fail hV (Or.inl hf)))
        generalize nrF V = x at *
        clear hsv hV hf
        go_wp2_with (first | (go_at_call 152; (with_reducible refine (HC.out _ (HD2.out.dp)).mono ?_); rintro e5 w5 ⟨rfl, hb⟩; have HB5 : Hd (Below w.heap.size w w5) := ⟨bt3 hb HB2.out⟩; clear hb) | (go_at_call 125; (with_reducible refine (s_Finite _ _).mono ?_); rintro e w' ⟨rfl, ⟨nd, rfl⟩⟩))
        go_ret2
        exact ⟨none, 0, 0, by rw [HV.out.1] <;> rfl, by rw [HV.out.2]; exact OF.nil _ _, by have hbb := HB5.out; (repeat (first | exact Below.refl _ _ | assumption | refine Below.drew ?_ | refine bdn ?_ | refine ba _ ?_ | refine bs0 _ _ ?_ ?_ | refine bs1 _ _ _ ?_ ?_ | refine bs2 _ _ _ _ ?_ ?_ | refine bs3 _ _ _ _ _ ?_ ?_ | refine bt3 (by assumption) ?_))⟩
/-- what is rounded here is never -0 -/
theorem near_plain {m e V : Int} (h : NuF m e V 149) (hV : V ≠ 0) : nrF V = rF 0 V := by
  unfold nrF
  apply zp_plain
  refine ⟨(rF_num 0 V).2, ?_⟩
  have hsc : (SC : Nat) = 20000 := rfl
  have hlo := h.lo
  obtain ⟨q, hq⟩ : ∃ q, q = 19851 := ⟨_, rfl⟩
  have hM : 2 ^ q ≤ V.natAbs := by
    have hm : m ≠ 0 := fun k => hV (by rw [h.val, k, dv_zero])
    have e1 : V.natAbs = m.natAbs * 2 ^ (e + 20000).toNat := by rw [h.val, dv_abs]
    rw [e1]
    have h2 : 2 ^ q ≤ 2 ^ (e + 20000).toNat := Nat.pow_le_pow_right (by decide) (by omega)
    have h3 : 1 * 2 ^ (e + 20000).toNat ≤ m.natAbs * 2 ^ (e + 20000).toNat := Nat.mul_le_mul_right _ (by omega)
    rw [Nat.one_mul] at h3
    exact Nat.le_trans h2 h3
  have h19 : q ≤ rqN V.natAbs := by unfold rqN; omega
  have hr : 1 ≤ rgN 0 (decide (V < 0)) V.natAbs := by
    unfold rgN
    split
    · split <;> decide
    · have h1 : 1 ≤ rtN V.natAbs ∨ q < rqN V.natAbs := by
        rcases Nat.lt_or_ge q (rqN V.natAbs) with k | k
        · exact Or.inr k
        · left
          have e : rqN V.natAbs = q := Nat.le_antisymm k h19
          unfold rtN; rw [e]
          exact (Nat.le_div_iff_mul_le (Nat.two_pow_pos _)).2 (by rw [Nat.one_mul]; exact hM)
      clear hM
      unfold rmN
      rcases h1 with k | k <;> omega
  clear hM
  have hle := rgN_le 0 (decide (V < 0)) V.natAbs
  unfold rF
  rw [if_neg hV]
  generalize rgN 0 (decide (V < 0)) V.natAbs = r at *
  split <;> omega
theorem near_nu {w : World} {g : Nat} {e V : Int} (h : NuP w g e V 149) (hV : V ≠ 0) : rF 0 V = nrF V := by
  obtain ⟨m, _, h2⟩ := h; exact (near_plain h2 hV).symm
set_option maxRecDepth 4000 in
set_option maxHeartbeats 4000000 in
theorem i_CompL (A : Option Addr) (n c : Nat) (xs : List Nat) (w : World) (hn : n = xs.length) (hR : RF w A xs) (hx : ∀ x ∈ xs, W x) (h0 : lstC xs = 0) :
    Calls Tryz.prog 78 #[.slice A n c] w (RetGW (ceC xs) (ceL xs) w) := by
  have hF := lst_fin h0
  have HR : Hd (RF w A xs ∧ n = xs.length ∧ n ≤ LIM ∧ (∀ x ∈ xs, W x)) := ⟨⟨hR, hn, by have := hF.1; unfold LIM; omega, hx⟩⟩
  have HFF : Hd (n ≤ 1000 ∧ ∀ x ∈ xs, W x ∧ fin x) := ⟨⟨by have := hF.1; omega, fun x h => ⟨hx x h, hF.2 x h⟩⟩⟩
  have HLC := Hd.mk h0
  have HS := Hd.mk (CpR.start (sum_small h0).1 (sum_small h0).2)
  clear hn hR hx h0 hF
  by_cases hz : sumv xs = 0
  · have HV := Hd.mk (ce_some HLC.out (HS.out.done hz))
    have HSG : Hd ((sumv xs).sign = 0) := ⟨by rw [hz]; rfl⟩
    clear hz
    go_enter Tryz.func78, Tryz.ntmps78
    go_wp2_with (first | (go_at_call 148; (with_reducible refine (m_Exp A n c xs _ HR.out.2.1 HR.out.2.2.1 HR.out.1 HR.out.2.2.2).mono ?_); rintro e w' ⟨rfl, rfl⟩; rw [HLC.out]) | (go_at_call 149; (with_reducible refine (n_Parts A n c xs _ HR.out.2.1 HFF.out.1 HR.out.1 HFF.out.2).mono ?_); rintro e1 w1 ⟨g, x, rfl, hN, hb⟩; have HN := Hd.mk hN; have HB : Hd (Below w.heap.size w w1) := ⟨hb⟩; clear hN hb) | (go_at_call 114; (with_reducible refine (n_SignR g x (sumv xs) 0 149 _ HSG.out (HN.out.below (by (repeat (first | exact Below.refl _ _ | assumption | refine Below.drew ?_ | refine bdn ?_ | refine ba _ ?_ | refine bs0 _ _ ?_ ?_ | refine bs1 _ _ _ ?_ ?_ | refine bs2 _ _ _ _ ?_ ?_ | refine bs3 _ _ _ _ _ ?_ ?_ | refine bt3 (by assumption) ?_))))).mono ?_); rintro e2 w2 ⟨rfl, hb⟩; have HB2 : Hd (Below w.heap.size w w2) := ⟨bt3 hb (by have hbb := HB.out; (repeat (first | exact Below.refl _ _ | assumption | refine Below.drew ?_ | refine bdn ?_ | refine ba _ ?_ | refine bs0 _ _ ?_ ?_ | refine bs1 _ _ _ ?_ ?_ | refine bs2 _ _ _ _ ?_ ?_ | refine bs3 _ _ _ _ _ ?_ ?_ | refine bt3 (by assumption) ?_)))⟩; clear hb))
    go_ret2
    refine ⟨some ⟨w2.heap.size, 0, none⟩, 1, 1, by rw [HV.out.1] <;> rfl, ?_, by have hbb := HB2.out; (repeat (first | exact Below.refl _ _ | assumption | refine Below.drew ?_ | refine bdn ?_ | refine ba _ ?_ | refine bs0 _ _ ?_ ?_ | refine bs1 _ _ _ ?_ ?_ | refine bs2 _ _ _ _ ?_ ?_ | refine bs3 _ _ _ _ _ ?_ ?_ | refine bt3 (by assumption) ?_))⟩
    rw [HV.out.2]
    exact OF.of_row (xs := [0]) (Blk.new _ _ _) HB2.out.size (by unfold LIM; decide)
  · obtain ⟨sg0, hsg0⟩ : ∃ sg0, (sumv xs).sign = sg0 := ⟨_, rfl⟩
    have hs0 : (sg0 == 0) = false := by rw [← hsg0]; simpa [Int.sign_eq_zero_iff_zero] using hz
    have HSG := Hd.mk hsg0
    clear hz hsg0
    go_enter Tryz.func78, Tryz.ntmps78
    go_wp2_with (first | (go_at_call 148; (with_reducible refine (m_Exp A n c xs _ HR.out.2.1 HR.out.2.2.1 HR.out.1 HR.out.2.2.2).mono ?_); rintro e w' ⟨rfl, rfl⟩; rw [HLC.out]) | (go_at_call 149; (with_reducible refine (n_Parts A n c xs _ HR.out.2.1 HFF.out.1 HR.out.1 HFF.out.2).mono ?_); rintro e1 w1 ⟨g, x, rfl, hN, hb⟩; have HN := Hd.mk hN; have HB : Hd (Below w.heap.size w w1) := ⟨hb⟩; clear hN hb) | (go_at_call 114; (with_reducible refine (n_SignR g x (sumv xs) sg0 149 _ HSG.out (HN.out.below (by (repeat (first | exact Below.refl _ _ | assumption | refine Below.drew ?_ | refine bdn ?_ | refine ba _ ?_ | refine bs0 _ _ ?_ ?_ | refine bs1 _ _ _ ?_ ?_ | refine bs2 _ _ _ _ ?_ ?_ | refine bs3 _ _ _ _ _ ?_ ?_ | refine bt3 (by assumption) ?_))))).mono ?_); rintro e2 w2 ⟨rfl, hb⟩; have HB2 : Hd (Below w.heap.size w w2) := ⟨bt3 hb (by have hbb := HB.out; (repeat (first | exact Below.refl _ _ | assumption | refine Below.drew ?_ | refine bdn ?_ | refine ba _ ?_ | refine bs0 _ _ ?_ ?_ | refine bs1 _ _ _ ?_ ?_ | refine bs2 _ _ _ _ ?_ ?_ | refine bs3 _ _ _ _ _ ?_ ?_ | refine bt3 (by assumption) ?_)))⟩; have HN2 := Hd.mk (HN.out.below (bt3 hb (by (repeat (first | exact Below.refl _ _ | assumption | refine Below.drew ?_ | refine bdn ?_ | refine ba _ ?_ | refine bs0 _ _ ?_ ?_ | refine bs1 _ _ _ ?_ ?_ | refine bs2 _ _ _ _ ?_ ?_ | refine bs3 _ _ _ _ _ ?_ ?_ | refine bt3 (by assumption) ?_))))); have HK2 := Hd.mk ((Blk.new w1 113 #[.pointer (some ⟨g, 0, none⟩), .int .i64 x]).below hb (by simp)); have HLT := Hd.mk HB.out.size; clear hb))
    go_loopw [6] (fun v wr => ∃ (k gg : Nat) (e V : Int) (ys : List Nat), Hd (CpR (sumv xs) k V ys) ∧ Hd (V = 0 → ys ≠ []) ∧ Hd (OF wr w.heap.size v ys) ∧ Hd (Below w.heap.size w wr) ∧ Hd (Blk wr w1.heap.size 113 #[.pointer (some ⟨gg, 0, none⟩), .int .i64 e]) ∧ Hd (NuP wr gg e V 149))
      (fun v _ => 9 - lenV v)
    case atStart =>
      refine ⟨8, g, x, sumv xs, [], HS, ⟨fun hV => absurd hs0 (by rw [← HSG.out, hV]; decide)⟩, ⟨own_emptyF w2 _ HB2.out.size⟩, ⟨by have hbb := HB2.out; (repeat (first | exact Below.refl _ _ | assumption | refine Below.drew ?_ | refine bdn ?_ | refine ba _ ?_ | refine bs0 _ _ ?_ ?_ | refine bs1 _ _ _ ?_ ?_ | refine bs2 _ _ _ _ ?_ ?_ | refine bs3 _ _ _ _ _ ?_ ?_ | refine bt3 (by assumption) ?_))⟩, ⟨HK2.out.alloc _⟩, ⟨HN2.out.below (by (repeat (first | exact Below.refl _ _ | assumption | refine Below.drew ?_ | refine bdn ?_ | refine ba _ ?_ | refine bs0 _ _ ?_ ?_ | refine bs1 _ _ _ ?_ ?_ | refine bs2 _ _ _ _ ?_ ?_ | refine bs3 _ _ _ _ _ ?_ ?_ | refine bt3 (by assumption) ?_)))⟩⟩
    case round =>
      obtain ⟨k, gg, e, V, ys, HP, HNE, HO, HBW, HK, HNU⟩ := hrel
      obtain ⟨Av, cv, rfl, _⟩ := HO.out.form
      have c0 : wr.cell? _ = some (.pointer (some ⟨gg, 0, none⟩)) := HK.out.cell 0
      have c1' : wr.cell? _ = some (.int .i64 e) := HK.out.cell 1
      have hgl : w.heap.size ≤ w1.heap.size := HLT.out
      by_cases hV : V = 0
      · have HSV : Hd (V.sign = 0) := ⟨by rw [hV]; rfl⟩
        have HV := Hd.mk (ce_some HLC.out (HP.out.done hV))
        have hne := HNE.out hV
        clear hV
        cases hys : ys with
        | nil => exact absurd hys hne
        | cons y0 yt =>
          subst hys
          go_wp2_with (first | (go_at_call 114; (with_reducible refine (n_SignR gg e V 0 149 _ HSV.out (HNU.out.below (by (repeat (first | exact Below.refl _ _ | assumption | refine Below.drew ?_ | refine bdn ?_ | refine ba _ ?_ | refine bs0 _ _ ?_ ?_ | refine bs1 _ _ _ ?_ ?_ | refine bs2 _ _ _ _ ?_ ?_ | refine bs3 _ _ _ _ _ ?_ ?_ | refine bt3 (by assumption) ?_))))).mono ?_); rintro e3 w3 ⟨rfl, hb⟩; have HB3 : Hd (Below w.heap.size w w3) := ⟨bt3 hb (by have hbb := HBW.out; (repeat (first | exact Below.refl _ _ | assumption | refine Below.drew ?_ | refine bdn ?_ | refine ba _ ?_ | refine bs0 _ _ ?_ ?_ | refine bs1 _ _ _ ?_ ?_ | refine bs2 _ _ _ _ ?_ ?_ | refine bs3 _ _ _ _ _ ?_ ?_ | refine bt3 (by assumption) ?_)))⟩; have HO3 := Hd.mk (HO.out.keep (bt3 hb (by (repeat (first | exact Below.refl _ _ | assumption | refine Below.drew ?_ | refine bdn ?_ | refine ba _ ?_ | refine bs0 _ _ ?_ ?_ | refine bs1 _ _ _ ?_ ?_ | refine bs2 _ _ _ _ ?_ ?_ | refine bs3 _ _ _ _ _ ?_ ?_ | refine bt3 (by assumption) ?_))))); clear hb))
          go_ret2
          exact ⟨Av, _, cv, by rw [HV.out.1] <;> rfl, by rw [HV.out.2]; exact HO3.out, HB3.out⟩
      · obtain ⟨sg, hsg⟩ : ∃ sg, V.sign = sg := ⟨_, rfl⟩
        have hs1 : (sg == 0) = false := by rw [← hsg]; simpa [Int.sign_eq_zero_iff_zero] using hV
        have HSV := Hd.mk hsg
        have HRX := Hd.mk (near_nu HNU.out hV)
        have HLY : Hd (ys.length < LIM) := ⟨by have := HP.out.1; unfold LIM; omega⟩
        have HWX : Hd (W (nrF V)) := ⟨(nrF_num _).1⟩
        by_cases hf : fin (nrF V)
        · have p1 : decide (fin (nrF V)) = true := decide_eq_true hf
          cases k with
          | zero =>
            have HV := Hd.mk (ce_none HLC.out (HP.out.fail hV (Or.inr rfl)))
            have hl8 : ((ys.length : Int) == 8) = true := by have := HP.out.1; simp; omega
            generalize nrF V = x9 at *
            clear hsg hV hf
            go_wp2_with (first | (go_at_call 114; (with_reducible refine (n_SignR gg e V sg 149 _ HSV.out (HNU.out.below (by (repeat (first | exact Below.refl _ _ | assumption | refine Below.drew ?_ | refine bdn ?_ | refine ba _ ?_ | refine bs0 _ _ ?_ ?_ | refine bs1 _ _ _ ?_ ?_ | refine bs2 _ _ _ _ ?_ ?_ | refine bs3 _ _ _ _ _ ?_ ?_ | refine bt3 (by assumption) ?_))))).mono ?_); rintro e3 w3 ⟨rfl, hb⟩; have hb3 : Below wr.heap.size wr w3 := bt3 hb (by (repeat (first | exact Below.refl _ _ | assumption | refine Below.drew ?_ | refine bdn ?_ | refine ba _ ?_ | refine bs0 _ _ ?_ ?_ | refine bs1 _ _ _ ?_ ?_ | refine bs2 _ _ _ _ ?_ ?_ | refine bs3 _ _ _ _ _ ?_ ?_ | refine bt3 (by assumption) ?_))); have HN3 := Hd.mk (HNU.out.below hb3); have HO3 := Hd.mk (HO.out.keep hb3); have HK3 := Hd.mk (HK.out.below hb3 HK.out.lt); have HB3 : Hd (Below w.heap.size w w3) := ⟨bt3 hb3 HBW.out⟩; have v0 : w3.cell? _ = some (.pointer (some ⟨gg, 0, none⟩)) := HK3.out.cell 0; have v1' : w3.cell? _ = some (.int .i64 e) := HK3.out.cell 1; clear hb hb3) | (go_at_call 117; (with_reducible refine (n_RoundR gg e V 0 149 _ x9 _ (HN3.out.below (by (repeat (first | exact Below.refl _ _ | assumption | refine Below.drew ?_ | refine bdn ?_ | refine ba _ ?_ | refine bs0 _ _ ?_ ?_ | refine bs1 _ _ _ ?_ ?_ | refine bs2 _ _ _ _ ?_ ?_ | refine bs3 _ _ _ _ _ ?_ ?_ | refine bt3 (by assumption) ?_)))) (by decide) HRX.out rfl).mono ?_); rintro e5 w5 ⟨rfl, hb⟩; have hb5 : Below w3.heap.size w3 w5 := bt3 hb (by (repeat (first | exact Below.refl _ _ | assumption | refine Below.drew ?_ | refine bdn ?_ | refine ba _ ?_ | refine bs0 _ _ ?_ ?_ | refine bs1 _ _ _ ?_ ?_ | refine bs2 _ _ _ _ ?_ ?_ | refine bs3 _ _ _ _ _ ?_ ?_ | refine bt3 (by assumption) ?_))); have HD5 := Hd.mk (HN3.out.below hb5); have HO5 := Hd.mk (HO3.out.keep hb5); have HK5 := Hd.mk (HK3.out.below hb5 HK3.out.lt); have HB5 : Hd (Below w.heap.size w w5) := ⟨bt3 hb5 HB3.out⟩; clear hb hb5) | (go_at_call 129; (with_reducible refine (i_isFinite x9 _ HWX.out).mono ?_); rintro e w' ⟨rfl, rfl⟩))
            go_ret2
            exact ⟨none, 0, 0, by rw [HV.out.1] <;> rfl, by rw [HV.out.2]; exact OF.nil _ _, by have hbb := HB5.out; (repeat (first | exact Below.refl _ _ | assumption | refine Below.drew ?_ | refine bdn ?_ | refine ba _ ?_ | refine bs0 _ _ ?_ ?_ | refine bs1 _ _ _ ?_ ?_ | refine bs2 _ _ _ _ ?_ ?_ | refine bs3 _ _ _ _ _ ?_ ?_ | refine bt3 (by assumption) ?_))⟩
          | succ k =>
            have HN9 := Hd.mk (HP.out.next hV hf)
            have HBD := Hd.mk (HP.out.bd hf)
            have hl8 : ((ys.length : Int) == 8) = false := by have := HP.out.1; simp; omega
            have HX : Hd (W (nrF V) ∧ fin (nrF V) ∧ ys.length < 8) := ⟨⟨(nrF_num _).1, hf, by have := HP.out.1; omega⟩⟩
            generalize nrF V = x9 at *
            clear hsg hV hf
            go_wp2_with (first | (go_at_call 114; (with_reducible refine (n_SignR gg e V sg 149 _ HSV.out (HNU.out.below (by (repeat (first | exact Below.refl _ _ | assumption | refine Below.drew ?_ | refine bdn ?_ | refine ba _ ?_ | refine bs0 _ _ ?_ ?_ | refine bs1 _ _ _ ?_ ?_ | refine bs2 _ _ _ _ ?_ ?_ | refine bs3 _ _ _ _ _ ?_ ?_ | refine bt3 (by assumption) ?_))))).mono ?_); rintro e3 w3 ⟨rfl, hb⟩; have hb3 : Below wr.heap.size wr w3 := bt3 hb (by (repeat (first | exact Below.refl _ _ | assumption | refine Below.drew ?_ | refine bdn ?_ | refine ba _ ?_ | refine bs0 _ _ ?_ ?_ | refine bs1 _ _ _ ?_ ?_ | refine bs2 _ _ _ _ ?_ ?_ | refine bs3 _ _ _ _ _ ?_ ?_ | refine bt3 (by assumption) ?_))); have HN3 := Hd.mk (HNU.out.below hb3); have HO3 := Hd.mk (HO.out.keep hb3); have HK3 := Hd.mk (HK.out.below hb3 HK.out.lt); have HB3 : Hd (Below w.heap.size w w3) := ⟨bt3 hb3 HBW.out⟩; have v0 : w3.cell? _ = some (.pointer (some ⟨gg, 0, none⟩)) := HK3.out.cell 0; have v1' : w3.cell? _ = some (.int .i64 e) := HK3.out.cell 1; clear hb hb3) | (go_at_call 117; (with_reducible refine (n_RoundR gg e V 0 149 _ x9 _ (HN3.out.below (by (repeat (first | exact Below.refl _ _ | assumption | refine Below.drew ?_ | refine bdn ?_ | refine ba _ ?_ | refine bs0 _ _ ?_ ?_ | refine bs1 _ _ _ ?_ ?_ | refine bs2 _ _ _ _ ?_ ?_ | refine bs3 _ _ _ _ _ ?_ ?_ | refine bt3 (by assumption) ?_)))) (by decide) HRX.out rfl).mono ?_); rintro e5 w5 ⟨rfl, hb⟩; have hb5 : Below w3.heap.size w3 w5 := bt3 hb (by (repeat (first | exact Below.refl _ _ | assumption | refine Below.drew ?_ | refine bdn ?_ | refine ba _ ?_ | refine bs0 _ _ ?_ ?_ | refine bs1 _ _ _ ?_ ?_ | refine bs2 _ _ _ _ ?_ ?_ | refine bs3 _ _ _ _ _ ?_ ?_ | refine bt3 (by assumption) ?_))); have HD5 := Hd.mk (HN3.out.below hb5); have HO5 := Hd.mk (HO3.out.keep hb5); have HK5 := Hd.mk (HK3.out.below hb5 HK3.out.lt); have HB5 : Hd (Below w.heap.size w w5) := ⟨bt3 hb5 HB3.out⟩; clear hb hb5) | (go_at_call 129; (with_reducible refine (i_isFinite x9 _ HWX.out).mono ?_); rintro e w' ⟨rfl, rfl⟩) | (at_builtin; refine wpList_pushG _ rfl (.tmp 37) (.tmp 39) rfl w.heap.size _ ys rfl (HO5.out.keep (by (repeat (first | exact Below.refl _ _ | assumption | refine Below.drew ?_ | refine bdn ?_ | refine ba _ ?_ | refine bs0 _ _ ?_ ?_ | refine bs1 _ _ _ ?_ ?_ | refine bs2 _ _ _ _ ?_ ?_ | refine bs3 _ _ _ _ _ ?_ ?_ | refine bt3 (by assumption) ?_)))) _ 1 (x9) rfl (by first | (go_simp; done) | exact (Blk.new _ _ _).cell 0) HLY.out (by have := HB5.out.size; simp; omega) ?_; intro v1 wq ho1 hb1 hg1; have HDq := Hd.mk (NuP.push (HD5.out.below (by (repeat (first | exact Below.refl _ _ | assumption | refine Below.drew ?_ | refine bdn ?_ | refine ba _ ?_ | refine bs0 _ _ ?_ ?_ | refine bs1 _ _ _ ?_ ?_ | refine bs2 _ _ _ _ ?_ ?_ | refine bs3 _ _ _ _ _ ?_ ?_ | refine bt3 (by assumption) ?_)))) (HO5.out.keep (by (repeat (first | exact Below.refl _ _ | assumption | refine Below.drew ?_ | refine bdn ?_ | refine ba _ ?_ | refine bs0 _ _ ?_ ?_ | refine bs1 _ _ _ ?_ ?_ | refine bs2 _ _ _ _ ?_ ?_ | refine bs3 _ _ _ _ _ ?_ ?_ | refine bt3 (by assumption) ?_)))) hg1); have HKq := Hd.mk (Blk.push (HK5.out.below (B := w5.heap.size) (by (repeat (first | exact Below.refl _ _ | assumption | refine Below.drew ?_ | refine bdn ?_ | refine ba _ ?_ | refine bs0 _ _ ?_ ?_ | refine bs1 _ _ _ ?_ ?_ | refine bs2 _ _ _ _ ?_ ?_ | refine bs3 _ _ _ _ _ ?_ ?_ | refine bt3 (by assumption) ?_))) HK5.out.lt) (by decide) (HO5.out.keep (by (repeat (first | exact Below.refl _ _ | assumption | refine Below.drew ?_ | refine bdn ?_ | refine ba _ ?_ | refine bs0 _ _ ?_ ?_ | refine bs1 _ _ _ ?_ ?_ | refine bs2 _ _ _ _ ?_ ?_ | refine bs3 _ _ _ _ _ ?_ ?_ | refine bt3 (by assumption) ?_)))) hg1); have HOq : Hd (OF wq w.heap.size v1 _) := ⟨ho1⟩; have HBq : Hd (Below w.heap.size w wq) := ⟨bel_up (by have hbb := HB5.out; (repeat (first | exact Below.refl _ _ | assumption | refine Below.drew ?_ | refine bdn ?_ | refine ba _ ?_ | refine bs0 _ _ ?_ ?_ | refine bs1 _ _ _ ?_ ?_ | refine bs2 _ _ _ _ ?_ ?_ | refine bs3 _ _ _ _ _ ?_ ?_ | refine bt3 (by assumption) ?_))) hb1⟩; clear ho1 hb1 hg1))
            have d0 : wq.cell? _ = some (.pointer (some ⟨gg, 0, none⟩)) := HKq.out.cell 0
            have d1 : wq.cell? _ = some (.int .i64 e) := HKq.out.cell 1
            go_region_with (first | (go_at_call 111; (with_reducible refine (n_Of x9 _ HX.out.1 HX.out.2.1).mono ?_); rintro e6 w6 ⟨g6, x6, rfl, hN, hq⟩; have hq6 : Below wq.heap.size wq w6 := bt3 hq (by (repeat (first | exact Below.refl _ _ | assumption | refine Below.drew ?_ | refine bdn ?_ | refine ba _ ?_ | refine bs0 _ _ ?_ ?_ | refine bs1 _ _ _ ?_ ?_ | refine bs2 _ _ _ _ ?_ ?_ | refine bs3 _ _ _ _ _ ?_ ?_ | refine bt3 (by assumption) ?_))); have H6 := Hd.mk hN; have HK6 := Hd.mk (HKq.out.below hq6 HKq.out.lt); have u0 : w6.cell? _ = some (.pointer (some ⟨gg, 0, none⟩)) := HK6.out.cell 0; have u1 : w6.cell? _ = some (.int .i64 e) := HK6.out.cell 1; clear hN hq) | (go_at_call 136; (with_reducible refine (n_Sub gg g6 e x6 V (fv x9) 149 _ (HDq.out.below (by (repeat (first | exact Below.refl _ _ | assumption | refine Below.drew ?_ | refine bdn ?_ | refine ba _ ?_ | refine bs0 _ _ ?_ ?_ | refine bs1 _ _ _ ?_ ?_ | refine bs2 _ _ _ _ ?_ ?_ | refine bs3 _ _ _ _ _ ?_ ?_ | refine bt3 (by assumption) ?_)))) (H6.out.below (by (repeat (first | exact Below.refl _ _ | assumption | refine Below.drew ?_ | refine bdn ?_ | refine ba _ ?_ | refine bs0 _ _ ?_ ?_ | refine bs1 _ _ _ ?_ ?_ | refine bs2 _ _ _ _ ?_ ?_ | refine bs3 _ _ _ _ _ ?_ ?_ | refine bt3 (by assumption) ?_)))) HBD.out).mono ?_); rintro e7 w7 ⟨g7, x7, rfl, hN, hq⟩; have hq7 : Below wq.heap.size wq w7 := bt3 hq (by (repeat (first | exact Below.refl _ _ | assumption | refine Below.drew ?_ | refine bdn ?_ | refine ba _ ?_ | refine bs0 _ _ ?_ ?_ | refine bs1 _ _ _ ?_ ?_ | refine bs2 _ _ _ _ ?_ ?_ | refine bs3 _ _ _ _ _ ?_ ?_ | refine bt3 (by assumption) ?_))); have H7 := Hd.mk hN; have HK7 := Hd.mk (HKq.out.below hq7 HKq.out.lt); have HO7 := Hd.mk (HOq.out.keep hq7); have y0 : w7.cell? _ = some (.pointer (some ⟨gg, 0, none⟩)) := HK7.out.cell 0; have y1 : w7.cell? _ = some (.int .i64 e) := HK7.out.cell 1; have z0 := HK7.out.frozen 0; have z1 := HK7.out.frozen 1; clear hN hq))
            all_goals
              go_wp2_with fail
              go_roundw
              case rel =>
                refine ⟨k, g7, x7, V - fv x9, ys ++ [x9], HN9, ⟨fun _ h => by simp at h⟩, ⟨?_⟩, ⟨?_⟩, ⟨?_⟩, ⟨?_⟩⟩
                · exact (HO7.out.setB HK7.out (by decide) 0 _).setB (HK7.out.set_ 0 _) (by decide) 1 _
                · have hbb : Below w.heap.size w w7 := bt3 hq7 HBq.out
                  exact (hbb.setCell (by simp; omega) _).setCell (by simp; omega) _
                · have := (HK7.out.set_ 0 (.pointer (some ⟨g7, 0, none⟩))).set_ 1 (.int .i64 x7)
                  simpa using this
                · exact H7.out.set2 HK7.out (by decide) (by decide) _ _
              case measure =>
                obtain ⟨A9, c9, e9, _⟩ := HOq.out.form
                subst e9
                have := HX.out.2.2
                simp [lenV]; omega
        · have p1 : decide (fin (nrF V)) = false := decide_eq_false hf
          have HV := Hd.mk (ce_none HLC.out (HP.out.fail hV (Or.inl hf)))
          generalize nrF V = x9 at *
          clear hsg hV hf
          go_wp2_with (first | (go_at_call 114; (with_reducible refine (n_SignR gg e V sg 149 _ HSV.out (HNU.out.below (by (repeat (first | exact Below.refl _ _ | assumption | refine Below.drew ?_ | refine bdn ?_ | refine ba _ ?_ | refine bs0 _ _ ?_ ?_ | refine bs1 _ _ _ ?_ ?_ | refine bs2 _ _ _ _ ?_ ?_ | refine bs3 _ _ _ _ _ ?_ ?_ | refine bt3 (by assumption) ?_))))).mono ?_); rintro e3 w3 ⟨rfl, hb⟩; have hb3 : Below wr.heap.size wr w3 := bt3 hb (by (repeat (first | exact Below.refl _ _ | assumption | refine Below.drew ?_ | refine bdn ?_ | refine ba _ ?_ | refine bs0 _ _ ?_ ?_ | refine bs1 _ _ _ ?_ ?_ | refine bs2 _ _ _ _ ?_ ?_ | refine bs3 _ _ _ _ _ ?_ ?_ | refine bt3 (by assumption) ?_))); have HN3 := Hd.mk (HNU.out.below hb3); have HO3 := Hd.mk (HO.out.keep hb3); have HK3 := Hd.mk (HK.out.below hb3 HK.out.lt); have HB3 : Hd (Below w.heap.size w w3) := ⟨bt3 hb3 HBW.out⟩; have v0 : w3.cell? _ = some (.pointer (some ⟨gg, 0, none⟩)) := HK3.out.cell 0; have v1' : w3.cell? _ = some (.int .i64 e) := HK3.out.cell 1; clear hb hb3) | (go_at_call 117; (with_reducible refine (n_RoundR gg e V 0 149 _ x9 _ (HN3.out.below (by (repeat (first | exact Below.refl _ _ | assumption | refine Below.drew ?_ | refine bdn ?_ | refine ba _ ?_ | refine bs0 _ _ ?_ ?_ | refine bs1 _ _ _ ?_ ?_ | refine bs2 _ _ _ _ ?_ ?_ | refine bs3 _ _ _ _ _ ?_ ?_ | refine bt3 (by assumption) ?_)))) (by decide) HRX.out rfl).mono ?_); rintro e5 w5 ⟨rfl, hb⟩; have hb5 : Below w3.heap.size w3 w5 := bt3 hb (by (repeat (first | exact Below.refl _ _ | assumption | refine Below.drew ?_ | refine bdn ?_ | refine ba _ ?_ | refine bs0 _ _ ?_ ?_ | refine bs1 _ _ _ ?_ ?_ | refine bs2 _ _ _ _ ?_ ?_ | refine bs3 _ _ _ _ _ ?_ ?_ | refine bt3 (by assumption) ?_))); have HD5 := Hd.mk (HN3.out.below hb5); have HO5 := Hd.mk (HO3.out.keep hb5); have HK5 := Hd.mk (HK3.out.below hb5 HK3.out.lt); have HB5 : Hd (Below w.heap.size w w5) := ⟨bt3 hb5 HB3.out⟩; clear hb hb5) | (go_at_call 129; (with_reducible refine (i_isFinite x9 _ HWX.out).mono ?_); rintro e w' ⟨rfl, rfl⟩))
          go_ret2
          exact ⟨none, 0, 0, by rw [HV.out.1] <;> rfl, by rw [HV.out.2]; exact OF.nil _ _, by have hbb := HB5.out; (repeat (first | exact Below.refl _ _ | assumption | refine Below.drew ?_ | refine bdn ?_ | refine ba _ ?_ | refine bs0 _ _ ?_ ?_ | refine bs1 _ _ _ ?_ ?_ | refine bs2 _ _ _ _ ?_ ?_ | refine bs3 _ _ _ _ _ ?_ ?_ | refine bt3 (by assumption) ?_))⟩
set_option maxHeartbeats 4000000 in
theorem s_Comp (A : Option Addr) (n c : Nat) (xs : List Nat) (w : World) (hn : n = xs.length) (hl : n ≤ LIM) (hR : RF w A xs) (hx : ∀ x ∈ xs, W x) :
    Calls Tryz.prog 79 #[.slice A n c] w (RetGW (ceC xs) (ceL xs) w) := by
  by_cases h0 : lstC xs = 0
  · exact s_CompL A n c xs w hn hR hx h0
  · have HR : Hd (RF w A xs ∧ n = xs.length ∧ n ≤ LIM ∧ (∀ x ∈ xs, W x)) := ⟨⟨hR, hn, hl, hx⟩⟩
    have HV := Hd.mk (ce_list h0)
    have h1 : (lstC xs == 0) = false := by simpa using h0
    generalize hq : lstC xs = lc at *
    have HLC := Hd.mk hq
    clear hn hl hR hx h0 hq
    go_enter Tryz.func79, Tryz.ntmps79
    go_wp2_with (go_at_call 147; (with_reducible refine (s_List A n c xs _ HR.out.2.1 HR.out.2.2.1 HR.out.1 HR.out.2.2.2).mono ?_); rintro e w' ⟨rfl, ⟨nd, rfl⟩⟩; rw [HLC.out])
    go_ret2
    exact ⟨none, 0, 0, by rw [HV.out.1] <;> rfl, by rw [HV.out.2]; exact OF.nil _ _, by (repeat (first | exact Below.refl _ _ | assumption | refine Below.drew ?_ | refine bdn ?_ | refine ba _ ?_ | refine bs0 _ _ ?_ ?_ | refine bs1 _ _ _ ?_ ?_ | refine bs2 _ _ _ _ ?_ ?_ | refine bs3 _ _ _ _ _ ?_ ?_ | refine bt3 (by assumption) ?_))⟩
set_option maxHeartbeats 4000000 in
theorem i_Comp (A : Option Addr) (n c : Nat) (xs : List Nat) (w : World) (hn : n = xs.length) (hl : n ≤ LIM) (hR : RF w A xs) (hx : ∀ x ∈ xs, W x) :
    Calls Tryz.prog 78 #[.slice A n c] w (RetGW (ceC xs) (ceL xs) w) := by
  by_cases h0 : lstC xs = 0
  · exact i_CompL A n c xs w hn hR hx h0
  · have HR : Hd (RF w A xs ∧ n = xs.length ∧ n ≤ LIM ∧ (∀ x ∈ xs, W x)) := ⟨⟨hR, hn, hl, hx⟩⟩
    have HV := Hd.mk (ce_list h0)
    have h1 : (lstC xs == 0) = false := by simpa using h0
    generalize hq : lstC xs = lc at *
    have HLC := Hd.mk hq
    clear hn hl hR hx h0 hq
    go_enter Tryz.func78, Tryz.ntmps78
    go_wp2_with (go_at_call 148; (with_reducible refine (m_Exp A n c xs _ HR.out.2.1 HR.out.2.2.1 HR.out.1 HR.out.2.2.2).mono ?_); rintro e w' ⟨rfl, rfl⟩; rw [HLC.out])
    go_ret2
    exact ⟨none, 0, 0, by rw [HV.out.1] <;> rfl, by rw [HV.out.2]; exact OF.nil _ _, by (repeat (first | exact Below.refl _ _ | assumption | refine Below.drew ?_ | refine bdn ?_ | refine ba _ ?_ | refine bs0 _ _ ?_ ?_ | refine bs1 _ _ _ ?_ ?_ | refine bs2 _ _ _ _ ?_ ?_ | refine bs3 _ _ _ _ _ ?_ ?_ | refine bt3 (by assumption) ?_))⟩
theorem cpr_len : ∀ (k : Nat) (V : Int) (ys : List Nat), cpr k V = some ys → ys.length ≤ k ∧ ∀ y ∈ ys, W y
  | 0, V, ys, h => by
    simp only [cpr] at h
    split at h
    · injection h with h; subst h; simp
    · cases h
  | k + 1, V, ys, h => by
    simp only [cpr] at h
    split at h
    · injection h with h; subst h; simp
    · split at h
      · cases hg : cpr k (V - fv (nrF V)) with
        | none => rw [hg] at h; cases h
        | some zs =>
          rw [hg] at h; simp at h; subst h
          have := cpr_len k _ zs hg
          refine ⟨by simp; omega, ?_⟩
          intro y hy
          rcases List.mem_cons.1 hy with rfl | hy
          · exact (nrF_num _).1
          · exact this.2 y hy
      · cases h
end Go.Proofs.YtflgjecpjaiecaaGreat
