/- Go: G1 G2, merged. -/
import Derived.Test.YtflgjecpjaiecaaGreatGiq4
import Derived.Test.YtflgjecpjaiecaaGreatGfq4
/- Contracts: expansions, grown by a float, both sides. -/
set_option linter.unusedVariables false
set_option linter.unusedSimpArgs false
namespace Go.Proofs.YtflgjecpjaiecaaGreat
open Go.RowKit Num Flt
/-- a row of floats of the call's own -/
def OF (w : World) (B : Nat) (v : Value) (xs : List Nat) : Prop := w.ownsRow B 22 1 v xs.length (cF xs)
theorem OF.mono {w : World} {B B' : Nat} {v : Value} {xs : List Nat} (h : OF w B v xs) (hB : B' ≤ B) : OF w B' v xs := by
  obtain ⟨h1, h2⟩ := h
  refine ⟨h1, ?_⟩
  rcases h2 with h2 | ⟨g, cap, cur, hv, hg, r⟩
  · exact .inl h2
  · exact .inr ⟨g, cap, cur, hv, by omega, r⟩
theorem OF.keep {w w' : World} {B : Nat} {v : Value} {xs : List Nat} (h : OF w B v xs) (hb : Below w.heap.size w w') : OF w' B v xs :=
  World.ownsRow.kept (row := none) h ⟨hb.os, hb.tape, hb.output, hb.size, fun k hk _ => hb.block k hk⟩ (by cases v.ownBlock <;> simp)
theorem OF.form {w : World} {B : Nat} {v : Value} {xs : List Nat} (h : OF w B v xs) : ∃ A c, v = .slice A xs.length c ∧ RF w A xs := by
  have h' := h
  rcases h'.2 with ⟨rfl, h0⟩ | ⟨g, cap, cur, rfl, hg, hh, _⟩
  · refine ⟨none, 0, by rw [h0], ?_⟩
    obtain rfl : xs = [] := List.eq_nil_of_length_eq_zero h0
    exact Reads.none_
  · exact ⟨some ⟨g, 0, none⟩, cap, rfl, Reads.of_own h⟩
theorem OF.reads {w : World} {B n c : Nat} {A : Option Addr} {xs : List Nat} (h : OF w B (.slice A n c) xs) : n = xs.length ∧ RF w A xs := by
  obtain ⟨A', c', e, hr⟩ := h.form
  obtain ⟨e1, e2, e3⟩ := Value.slice.inj e
  subst e1 e2
  exact ⟨rfl, hr⟩
theorem OF.nil (w : World) (B : Nat) : OF w B (.slice none 0 0) [] := World.ownsRow_nil _ _ _ _
theorem own_emptyF (w : World) (B : Nat) (hb : B ≤ w.heap.size) : OF (w.alloc (.cells #[] 22)) B (.slice (some ⟨w.heap.size, 0, none⟩) 0 0) [] :=
  World.ownsRow_made (size := 1) w #[] 0 hb (by decide) rfl
theorem cF_append (xs ys : List Nat) : cF (xs ++ ys) = cF xs ++ cF ys := by simp [cF]
/-- one float put behind a row of the call's own -/
theorem wpList_pushF {ops : Array Oper} {rest : List Oper} {o : Oper} {a : Act} {Q : Exit → Act → World → Prop} (w : World) (hgd : o.guard = none) (s x : Operand)
    (ho : o.op = .call { callee := .builtin .append, args := #[s, x], argTypes := #[78, 78] })
    (B : Nat) (v : Value) (xs : List Nat) (hs : a.eval s = v) (hown : OF w B v xs) (g c : Nat) (y : Nat) (hx : a.eval x = .slice (some ⟨g, 0, none⟩) 1 c) (hc : w.cell? ⟨g, 0, none⟩ = some (.float .f32 y))
    (hl : xs.length < LIM) (hB : B ≤ w.heap.size)
    (h : ∀ v' w', OF w' B v' (xs ++ [y]) → Below B w w' → (∀ g t cs, Blk w g t cs → v.ownBlock ≠ some g → Blk w' g t cs) → wpList Tryz.prog ops Q rest (a.put o.dst v') w') : wpList Tryz.prog ops Q (o :: rest) a w := by
  obtain ⟨i0, hi0, hz0, hz1, hz2⟩ := info_parts infoF
  refine wpList_append_own w hgd s x 78 ho B 22 i0 _ 1 4 Tryz.underlying78 hi0 hz0 hz1 hz2 rfl (by omega) v xs.length (cF xs) hs hown ⟨g, 0, none⟩ 1 c [.float .f32 y] hx rfl ?_ ?_ ?_ ?_ hB ?_
  · intro j u hj
    match j, hj with
    | 0, hj => simp at hj; subst hj; simpa [Addr.add] using hc
  · intro u hu; simp at hu; subst hu; rfl
  · unfold LIM at hl; unfold maxLen; omega
  · unfold LIM at hl; omega
  · intro v' w' h1 h2 _
    refine h v' w' ?_ ?_ (fun g t cs hk hne => hk.grown h2 (fun k => hne k.symm))
    · unfold OF; rw [cF_append, List.length_append]; exact h1
    · refine (Below.refl _ _).grown h2 hB ?_
      intro k hk
      rcases hown.2 with ⟨rfl, _⟩ | ⟨g', cap, cur, rfl, hg, _⟩
      · simp [Value.ownBlock] at hk
      · have : g' = k := by simpa [Value.ownBlock] using hk
        omega
theorem OF.own_lt {w : World} {B : Nat} {v : Value} {xs : List Nat} (h : OF w B v xs) {k : Nat} (hk : v.ownBlock = some k) : k < w.heap.size := by
  rcases h.2 with ⟨rfl, _⟩ | ⟨g, cap, cur, rfl, hg, hh, _⟩
  · simp [Value.ownBlock] at hk
  · have e : g = k := by simpa [Value.ownBlock] using hk
    subst e
    rcases Nat.lt_or_ge g w.heap.size with h | h
    · exact h
    · rw [Array.getElem?_eq_none h] at hh; cases hh
/-! growing, as plain lists -/
def grow : Nat → List Nat → Option (List Nat)
  | q, [] => some [q]
  | q, x :: xs => if fin (addW q x) then (grow (addW q x) xs).map (smF q x :: ·) else none
def GrR (x : Nat) (xs : List Nat) (k q : Nat) (ys : List Nat) : Prop := W q ∧ fin q ∧ ys.length = k ∧ (∀ y ∈ ys, W y) ∧ grow x xs = (grow q (xs.drop k)).map (ys ++ ·)
theorem GrR.start {x : Nat} {xs : List Nat} (h : W x) (hf : fin x) : GrR x xs 0 x [] := ⟨h, hf, rfl, by simp, by simp⟩
theorem drop_getD {xs : List Nat} {k : Nat} (h : k < xs.length) : xs.drop k = xs.getD k 0 :: xs.drop (k + 1) := by
  rw [List.drop_eq_getElem_cons h, List.getD_eq_getElem?_getD, List.getElem?_eq_getElem h]; rfl
theorem GrR.next {x : Nat} {xs : List Nat} {k q : Nat} {ys : List Nat} (h : GrR x xs k q ys) (hk : k < xs.length) (hf : fin (addW q (xs.getD k 0))) : GrR x xs (k + 1) (addW q (xs.getD k 0)) (ys ++ [smF q (xs.getD k 0)]) := by
  obtain ⟨h1, h2, h3, h4, h5⟩ := h
  refine ⟨addW_W _ _, hf, by simp [h3], ?_, ?_⟩
  · intro y hy
    rcases List.mem_append.1 hy with hy | hy
    · exact h4 y hy
    · simp at hy; subst hy; exact (nrF_num _).1
  · rw [h5, drop_getD hk]
    simp only [grow]
    rw [if_pos hf, Option.map_map]
    congr 1
    funext z; simp
theorem GrR.fail {x : Nat} {xs : List Nat} {k q : Nat} {ys : List Nat} (h : GrR x xs k q ys) (hk : k < xs.length) (hf : ¬ fin (addW q (xs.getD k 0))) : grow x xs = none := by
  rw [h.2.2.2.2, drop_getD hk]
  simp only [grow]
  rw [if_neg hf]; rfl
theorem GrR.done {x : Nat} {xs : List Nat} {q : Nat} {ys : List Nat} (h : GrR x xs xs.length q ys) : grow x xs = some (ys ++ [q]) := by
  rw [h.2.2.2.2, List.drop_length]; rfl
def gwC (xs : List Nat) (x : Nat) : Int := if xs.length < 1 ∨ 8 ≤ xs.length then 2 else if AllFin xs ∧ fin x then (if (grow x xs).isSome = true then 0 else 3) else 1
def gwL (xs : List Nat) (x : Nat) : List Nat := if gwC xs x = 0 then (grow x xs).getD [] else []
theorem gw_not {xs : List Nat} {x : Nat} {c : Int} (h : gwC xs x = c) (hc : c ≠ 0) : gwC xs x = c ∧ gwL xs x = [] := ⟨h, by unfold gwL; rw [h, if_neg hc]⟩
theorem gw_len {xs : List Nat} {x : Nat} (h : xs.length < 1 ∨ 8 ≤ xs.length) : gwC xs x = 2 ∧ gwL xs x = [] := gw_not (by unfold gwC; rw [if_pos h]) (by omega)
theorem gw_fin {xs : List Nat} {x : Nat} (h : ¬ (xs.length < 1 ∨ 8 ≤ xs.length)) (hf : ¬ (AllFin xs ∧ fin x)) : gwC xs x = 1 ∧ gwL xs x = [] := gw_not (by unfold gwC; rw [if_neg h, if_neg hf]) (by omega)
theorem gw_none {xs : List Nat} {x : Nat} (h : ¬ (xs.length < 1 ∨ 8 ≤ xs.length)) (hf : AllFin xs ∧ fin x) (hg : grow x xs = none) : gwC xs x = 3 ∧ gwL xs x = [] := gw_not (by unfold gwC; rw [if_neg h, if_pos hf, hg]; rfl) (by omega)
theorem gw_some {xs ys : List Nat} {x : Nat} (h : ¬ (xs.length < 1 ∨ 8 ≤ xs.length)) (hf : AllFin xs ∧ fin x) (hg : grow x xs = some ys) : gwC xs x = 0 ∧ gwL xs x = ys := by
  have h1 : gwC xs x = 0 := by unfold gwC; rw [if_neg h, if_pos hf, hg]; rfl
  exact ⟨h1, by unfold gwL; rw [h1, hg]; rfl⟩
def RetGW (C : Int) (L : List Nat) (w : World) (e : Ending) (w' : World) : Prop := ∃ A n c, e = .returned (.tuple #[.slice A n c, .int .i64 C]) ∧ OF w' w.heap.size (.slice A n c) L ∧ Below w.heap.size w w'
theorem OF.alloc {w : World} {B : Nat} {v : Value} {xs : List Nat} (h : OF w B v xs) (o : Obj) : OF (w.alloc o) B v xs := h.keep ((Below.refl _ _).alloc (Nat.le_refl _) o)
set_option maxRecDepth 4000 in
set_option maxHeartbeats 4000000 in
theorem s_GrowL (A : Option Addr) (n c x : Nat) (xs : List Nat) (w : World) (hn : n = xs.length) (hR : RF w A xs) (hx : ∀ x ∈ xs, W x) (h8 : ¬ (xs.length < 1 ∨ 8 ≤ xs.length)) (hf : AllFin xs ∧ fin x) (hxx : W x) :
    Calls Tryz.prog 74 #[.slice A n c, .float .f32 x] w (RetGW (gwC xs x) (gwL xs x) w) := by
  have HR : Hd (RF w A xs ∧ n = xs.length ∧ n ≤ LIM ∧ (∀ x ∈ xs, W x)) := ⟨⟨hR, hn, by unfold LIM; omega, hx⟩⟩
  have HLC : Hd (lstC xs = 0) := ⟨by unfold lstC; rw [if_neg (by omega), if_pos hf.1]⟩
  have HG : Hd (¬ (xs.length < 1 ∨ 8 ≤ xs.length) ∧ AllFin xs ∧ fin x) := ⟨⟨h8, hf⟩⟩
  have hnI : (n : Int) < 8 := by omega
  have p1 : decide (fin x) = true := decide_eq_true hf.2
  have HS := Hd.mk (GrR.start (xs := xs) hxx hf.2)
  have hn8 : ((n : Int) == 8) = false := by simp; omega
  clear hn hR hx h8 hf hxx
  go_enter Tryz.func74, Tryz.ntmps74
  go_wp2_with (first | (go_at_call 147; (with_reducible refine (s_List A n c xs _ HR.out.2.1 HR.out.2.2.1 HR.out.1 HR.out.2.2.2).mono ?_); rintro e w' ⟨rfl, ⟨nd, rfl⟩⟩; rw [HLC.out]) | (go_at_call 125; (with_reducible refine (s_Finite x _).mono ?_); rintro e w' ⟨rfl, ⟨nd, rfl⟩⟩))
  go_loopw [7, 8, 9] (fun v qq i wr => ∃ (k q : Nat) (ys : List Nat), i = .int .i64 k ∧ qq = .float .f32 q ∧ (k : Int) ≤ n ∧ Hd (GrR x xs k q ys) ∧ Hd (OF wr w.heap.size v ys) ∧ Hd (Below w.heap.size w wr))
    (fun _ _ i _ => n - (intOf i).toNat)
  case atStart => exact ⟨0, x, [], rfl, rfl, by omega, HS, ⟨(own_emptyF _ _ (by simp))⟩, ⟨by (repeat (first | exact Below.refl _ _ | assumption | refine Below.drew ?_ | refine bdn ?_ | refine ba _ ?_ | refine bs0 _ _ ?_ ?_ | refine bs1 _ _ _ ?_ ?_ | refine bs2 _ _ _ _ ?_ ?_ | refine bs3 _ _ _ _ _ ?_ ?_ | refine bt3 (by assumption) ?_))⟩⟩
  case round =>
    obtain ⟨k, q, ys, rfl, rfl, hk, HP, HO, HB⟩ := hrel
    have HLY : Hd (ys.length < LIM) := ⟨by rw [HP.out.2.2.1]; unfold LIM; omega⟩
    by_cases h1 : k < n
    · have hkl : k < xs.length := by have := HR.out.2.1; omega
      obtain ⟨ad, hA, hcx⟩ := HR.out.1.at_ hkl
      subst hA
      replace hcx := (HB.out.cell (World.block_lt_of_cell? w _ hcx)).trans hcx
      have HE : Hd (W (xs.getD k 0) ∧ fin (xs.getD k 0)) := ⟨by
        have hm : xs.getD k 0 ∈ xs := by rw [List.getD_eq_getElem?_getD, List.getElem?_eq_getElem hkl]; exact List.getElem_mem _
        exact ⟨HR.out.2.2.2 _ hm, HG.out.2.1 _ hm⟩⟩
      by_cases hfin : fin (addW q (xs.getD k 0))
      · have HN := Hd.mk (HP.out.next hkl hfin)
        have HC := Hd.mk (fun w => s_SumY q (xs.getD k 0) w HP.out.1 HE.out.1 HP.out.2.1 HE.out.2 hfin)
        generalize xs.getD k 0 = el at *
        generalize addW q el = sh at *
        generalize smF q el = sl at *
        clear hfin hkl
        go_wp2_with (first | (go_at_call 126; (with_reducible refine (HC.out _).mono ?_); rintro e' w5 ⟨rfl, hb⟩; have HBF : Hd (Below w.heap.size w w5) := ⟨bt3 hb HB.out⟩; have HO5 := Hd.mk (HO.out.keep hb); have HWR := Hd.mk hb.size; clear hb) | (at_builtin; refine wpList_pushF _ rfl (.tmp 46) (.tmp 49) rfl w.heap.size _ ys rfl ((HO5.out.alloc _).alloc _) _ 1 (sl) rfl (by go_simp) HLY.out (by have := HBF.out.size; simp; omega) ?_; intro v1 w1 ho1 hb1 hk1; (try have HP1 := Hd.mk (hk1 w5.heap.size _ _ ((Blk.new w5 30 #[.float .f32 sh, .float .f32 sl]).alloc _) (fun k => absurd (HO.out.own_lt k) (by have := HWR.out; omega)))); (try have t0 : w1.cell? _ = some (.float .f32 sh) := HP1.out.cell 0); clear hk1; have HO1 : Hd (OF w1 w.heap.size v1 _) := ⟨ho1⟩; have HB1 : Hd (Below w.heap.size w w1) := ⟨bel_up (by have hbb := HBF.out; (repeat (first | exact Below.refl _ _ | assumption | refine Below.drew ?_ | refine bdn ?_ | refine ba _ ?_ | refine bs0 _ _ ?_ ?_ | refine bs1 _ _ _ ?_ ?_ | refine bs2 _ _ _ _ ?_ ?_ | refine bs3 _ _ _ _ _ ?_ ?_ | refine bt3 (by assumption) ?_))) hb1⟩; clear ho1 hb1))
        go_roundw
        case rel => exact ⟨k + 1, sh, _, by go_num, rfl, by omega, HN, HO1, HB1⟩
        case measure => simp [intOf]; omega
      · have HV := Hd.mk (gw_none HG.out.1 HG.out.2 (HP.out.fail hkl hfin))
        have HC := Hd.mk (fun w => s_SumN q (xs.getD k 0) w HP.out.2.1 HE.out.2 hfin)
        generalize xs.getD k 0 = el at *
        clear hfin hkl
        go_wp2_with (first | (go_at_call 126; (with_reducible refine (HC.out _).mono ?_); rintro e' w5 ⟨rfl, hb⟩; have HBF : Hd (Below w.heap.size w w5) := ⟨bt3 hb HB.out⟩; clear hb))
        go_ret2
        exact ⟨none, 0, 0, by rw [HV.out.1] <;> rfl, by rw [HV.out.2]; exact OF.nil _ _, by have hbb := HBF.out; (repeat (first | exact Below.refl _ _ | assumption | refine Below.drew ?_ | refine bdn ?_ | refine ba _ ?_ | refine bs0 _ _ ?_ ?_ | refine bs1 _ _ _ ?_ ?_ | refine bs2 _ _ _ _ ?_ ?_ | refine bs3 _ _ _ _ _ ?_ ?_ | refine bt3 (by assumption) ?_))⟩
    · have hkn : k = xs.length := by have := HR.out.2.1; omega
      have HV : Hd (gwC xs x = 0 ∧ gwL xs x = ys ++ [q]) := ⟨gw_some HG.out.1 HG.out.2 (by have h := HP.out; rw [hkn] at h; exact h.done)⟩
      have HBF := HB
      clear hkn
      go_wp2_with (at_builtin; refine wpList_pushF _ rfl (.tmp 53) (.tmp 55) rfl w.heap.size _ ys rfl (HO.out.alloc _) _ 1 (q) rfl (by go_simp) HLY.out (by have := HBF.out.size; simp; omega) ?_; intro v1 w1 ho1 hb1 hk1; (try have HP1 := Hd.mk (hk1 w5.heap.size _ _ ((Blk.new w5 30 #[.float .f32 sh, .float .f32 sl]).alloc _) (fun k => absurd (HO.out.own_lt k) (by have := HWR.out; omega)))); (try have t0 : w1.cell? _ = some (.float .f32 sh) := HP1.out.cell 0); clear hk1; have HO1 : Hd (OF w1 w.heap.size v1 _) := ⟨ho1⟩; have HB1 : Hd (Below w.heap.size w w1) := ⟨bel_up (by have hbb := HBF.out; (repeat (first | exact Below.refl _ _ | assumption | refine Below.drew ?_ | refine bdn ?_ | refine ba _ ?_ | refine bs0 _ _ ?_ ?_ | refine bs1 _ _ _ ?_ ?_ | refine bs2 _ _ _ _ ?_ ?_ | refine bs3 _ _ _ _ _ ?_ ?_ | refine bt3 (by assumption) ?_))) hb1⟩; clear ho1 hb1)
      obtain ⟨A1, c1, rfl, _⟩ := HO1.out.form
      go_ret2
      exact ⟨A1, _, c1, by rw [HV.out.1] <;> rfl, by rw [HV.out.2]; exact HO1.out, HB1.out⟩
set_option maxRecDepth 4000 in
set_option maxHeartbeats 4000000 in
theorem i_GrowL (A : Option Addr) (n c x : Nat) (xs : List Nat) (w : World) (hn : n = xs.length) (hR : RF w A xs) (hx : ∀ x ∈ xs, W x) (h8 : ¬ (xs.length < 1 ∨ 8 ≤ xs.length)) (hf : AllFin xs ∧ fin x) (hxx : W x) :
    Calls Tryz.prog 73 #[.slice A n c, .float .f32 x] w (RetGW (gwC xs x) (gwL xs x) w) := by
  have HR : Hd (RF w A xs ∧ n = xs.length ∧ n ≤ LIM ∧ (∀ x ∈ xs, W x)) := ⟨⟨hR, hn, by unfold LIM; omega, hx⟩⟩
  have HA := Hd.mk (fun w hR => m_AreFin A n c xs w hn (by unfold LIM; omega) hR hx)
  rw [decide_eq_true hf.1] at HA
  have HG : Hd (¬ (xs.length < 1 ∨ 8 ≤ xs.length) ∧ AllFin xs ∧ fin x) := ⟨⟨h8, hf⟩⟩
  have hnI : (n : Int) < 8 := by omega
  have hn1 : (1 : Int) ≤ n := by omega
  have p1 : decide (fin x) = true := decide_eq_true hf.2
  have HW := Hd.mk hxx
  have HS := Hd.mk (GrR.start (xs := xs) hxx hf.2)
  clear hn hR hx h8 hf hxx
  go_enter Tryz.func73, Tryz.ntmps73
  go_wp2_with (first | (go_at_call 88; (with_reducible refine (HA.out _ HR.out.1).mono ?_); rintro e w' ⟨rfl, rfl⟩) | (go_at_call 129; (with_reducible refine (i_isFinite x _ HW.out).mono ?_); rintro e w' ⟨rfl, rfl⟩))
  go_loopw [1, 6, 30] (fun qq v i wr => ∃ (k q : Nat) (ys : List Nat), i = .int .i64 k ∧ qq = .float .f32 q ∧ (k : Int) ≤ n ∧ Hd (GrR x xs k q ys) ∧ Hd (OF wr w.heap.size v ys) ∧ Hd (Below w.heap.size w wr))
    (fun _ _ i _ => n - (intOf i).toNat)
  case atStart => exact ⟨0, x, [], rfl, rfl, by omega, HS, ⟨(own_emptyF _ _ (by simp))⟩, ⟨by (repeat (first | exact Below.refl _ _ | assumption | refine Below.drew ?_ | refine bdn ?_ | refine ba _ ?_ | refine bs0 _ _ ?_ ?_ | refine bs1 _ _ _ ?_ ?_ | refine bs2 _ _ _ _ ?_ ?_ | refine bs3 _ _ _ _ _ ?_ ?_ | refine bt3 (by assumption) ?_))⟩⟩
  case round =>
    obtain ⟨k, q, ys, rfl, rfl, hk, HP, HO, HB⟩ := hrel
    have HLY : Hd (ys.length < LIM) := ⟨by rw [HP.out.2.2.1]; unfold LIM; omega⟩
    by_cases h1 : k < n
    · have hkl : k < xs.length := by have := HR.out.2.1; omega
      obtain ⟨ad, hA, hcx⟩ := HR.out.1.at_ hkl
      subst hA
      replace hcx := (HB.out.cell (World.block_lt_of_cell? w _ hcx)).trans hcx
      have HE : Hd (W (xs.getD k 0) ∧ fin (xs.getD k 0)) := ⟨by
        have hm : xs.getD k 0 ∈ xs := by rw [List.getD_eq_getElem?_getD, List.getElem?_eq_getElem hkl]; exact List.getElem_mem _
        exact ⟨HR.out.2.2.2 _ hm, HG.out.2.1 _ hm⟩⟩
      by_cases hfin : fin (addW q (xs.getD k 0))
      · have HN := Hd.mk (HP.out.next hkl hfin)
        have HC := Hd.mk (fun w => i_SumY q (xs.getD k 0) w HP.out.1 HE.out.1 HP.out.2.1 HE.out.2 hfin)
        generalize xs.getD k 0 = el at *
        generalize addW q el = sh at *
        generalize smF q el = sl at *
        clear hfin hkl
        go_wp2_with (first | (go_at_call 124; (with_reducible refine (HC.out _).mono ?_); rintro e' w5 ⟨rfl, hb⟩; have HBF : Hd (Below w.heap.size w w5) := ⟨bt3 hb HB.out⟩; have HO5 := Hd.mk (HO.out.keep hb); have HWR := Hd.mk hb.size; clear hb) | (at_builtin; refine wpList_pushF _ rfl (.tmp 42) (.tmp 45) rfl w.heap.size _ ys rfl ((HO5.out.alloc _).alloc _) _ 1 (sl) rfl (by go_simp) HLY.out (by have := HBF.out.size; simp; omega) ?_; intro v1 w1 ho1 hb1 hk1; (try have HP1 := Hd.mk (hk1 w5.heap.size _ _ ((Blk.new w5 30 #[.float .f32 sh, .float .f32 sl]).alloc _) (fun k => absurd (HO.out.own_lt k) (by have := HWR.out; omega)))); (try have t0 : w1.cell? _ = some (.float .f32 sh) := HP1.out.cell 0); clear hk1; have HO1 : Hd (OF w1 w.heap.size v1 _) := ⟨ho1⟩; have HB1 : Hd (Below w.heap.size w w1) := ⟨bel_up (by have hbb := HBF.out; (repeat (first | exact Below.refl _ _ | assumption | refine Below.drew ?_ | refine bdn ?_ | refine ba _ ?_ | refine bs0 _ _ ?_ ?_ | refine bs1 _ _ _ ?_ ?_ | refine bs2 _ _ _ _ ?_ ?_ | refine bs3 _ _ _ _ _ ?_ ?_ | refine bt3 (by assumption) ?_))) hb1⟩; clear ho1 hb1))
        go_roundw
        case rel => exact ⟨k + 1, sh, _, by go_num, rfl, by omega, HN, HO1, HB1⟩
        case measure => simp [intOf]; omega
      · have HV := Hd.mk (gw_none HG.out.1 HG.out.2 (HP.out.fail hkl hfin))
        have HC := Hd.mk (fun w => i_SumN q (xs.getD k 0) w HP.out.2.1 HE.out.2 hfin)
        generalize xs.getD k 0 = el at *
        clear hfin hkl
        go_wp2_with (first | (go_at_call 124; (with_reducible refine (HC.out _).mono ?_); rintro e' w5 ⟨rfl, hb⟩; have HBF : Hd (Below w.heap.size w w5) := ⟨bt3 hb HB.out⟩; clear hb))
        go_ret2
        exact ⟨none, 0, 0, by rw [HV.out.1] <;> rfl, by rw [HV.out.2]; exact OF.nil _ _, by have hbb := HBF.out; (repeat (first | exact Below.refl _ _ | assumption | refine Below.drew ?_ | refine bdn ?_ | refine ba _ ?_ | refine bs0 _ _ ?_ ?_ | refine bs1 _ _ _ ?_ ?_ | refine bs2 _ _ _ _ ?_ ?_ | refine bs3 _ _ _ _ _ ?_ ?_ | refine bt3 (by assumption) ?_))⟩
    · have hkn : k = xs.length := by have := HR.out.2.1; omega
      have HV : Hd (gwC xs x = 0 ∧ gwL xs x = ys ++ [q]) := ⟨gw_some HG.out.1 HG.out.2 (by have h := HP.out; rw [hkn] at h; exact h.done)⟩
      have HBF := HB
      clear hkn
      go_wp2_with (at_builtin; refine wpList_pushF _ rfl (.tmp 50) (.tmp 52) rfl w.heap.size _ ys rfl (HO.out.alloc _) _ 1 (q) rfl (by go_simp) HLY.out (by have := HBF.out.size; simp; omega) ?_; intro v1 w1 ho1 hb1 hk1; (try have HP1 := Hd.mk (hk1 w5.heap.size _ _ ((Blk.new w5 30 #[.float .f32 sh, .float .f32 sl]).alloc _) (fun k => absurd (HO.out.own_lt k) (by have := HWR.out; omega)))); (try have t0 : w1.cell? _ = some (.float .f32 sh) := HP1.out.cell 0); clear hk1; have HO1 : Hd (OF w1 w.heap.size v1 _) := ⟨ho1⟩; have HB1 : Hd (Below w.heap.size w w1) := ⟨bel_up (by have hbb := HBF.out; (repeat (first | exact Below.refl _ _ | assumption | refine Below.drew ?_ | refine bdn ?_ | refine ba _ ?_ | refine bs0 _ _ ?_ ?_ | refine bs1 _ _ _ ?_ ?_ | refine bs2 _ _ _ _ ?_ ?_ | refine bs3 _ _ _ _ _ ?_ ?_ | refine bt3 (by assumption) ?_))) hb1⟩; clear ho1 hb1)
      obtain ⟨A1, c1, rfl, _⟩ := HO1.out.form
      go_ret2
      exact ⟨A1, _, c1, by rw [HV.out.1] <;> rfl, by rw [HV.out.2]; exact HO1.out, HB1.out⟩
set_option maxHeartbeats 4000000 in
theorem s_Grow (A : Option Addr) (n c x : Nat) (xs : List Nat) (w : World) (hn : n = xs.length) (hl : n ≤ LIM) (hR : RF w A xs) (hx : ∀ x ∈ xs, W x) (hxx : W x) :
    Calls Tryz.prog 74 #[.slice A n c, .float .f32 x] w (RetGW (gwC xs x) (gwL xs x) w) := by
  have HR : Hd (RF w A xs ∧ n = xs.length ∧ n ≤ LIM ∧ (∀ x ∈ xs, W x)) := ⟨⟨hR, hn, hl, hx⟩⟩
  by_cases h8 : n = 8
  · have HV := Hd.mk (gw_len (xs := xs) (x := x) (by omega))
    have hn8 : ((n : Int) == 8) = true := by simp; omega
    obtain ⟨lc, hlc⟩ : ∃ lc, lstC xs = lc := ⟨_, rfl⟩
    have HLC := Hd.mk hlc
    clear hn hl hR hx hxx h8 hlc
    go_enter Tryz.func74, Tryz.ntmps74
    go_wp2_with (first | (go_at_call 147; (with_reducible refine (s_List A n c xs _ HR.out.2.1 HR.out.2.2.1 HR.out.1 HR.out.2.2.2).mono ?_); rintro e w' ⟨rfl, ⟨nd, rfl⟩⟩; rw [HLC.out]) | (go_at_call 125; (with_reducible refine (s_Finite x _).mono ?_); rintro e w' ⟨rfl, ⟨nd, rfl⟩⟩))
    go_ret2
    exact ⟨none, 0, 0, by rw [HV.out.1] <;> rfl, by rw [HV.out.2]; exact OF.nil _ _, by (repeat (first | exact Below.refl _ _ | assumption | refine Below.drew ?_ | refine bdn ?_ | refine ba _ ?_ | refine bs0 _ _ ?_ ?_ | refine bs1 _ _ _ ?_ ?_ | refine bs2 _ _ _ _ ?_ ?_ | refine bs3 _ _ _ _ _ ?_ ?_ | refine bt3 (by assumption) ?_))⟩
  · have hn8 : ((n : Int) == 8) = false := by simp; omega
    by_cases hlc : lstC xs = 0
    · have hF := lst_fin hlc
      have hlen : ¬ (xs.length < 1 ∨ 8 ≤ xs.length) := by
        have : ¬ (xs.length < 1 ∨ 8 < xs.length) := by
          intro k; unfold lstC at hlc; rw [if_pos k] at hlc; cases hlc
        omega
      by_cases hfx : fin x
      · exact s_GrowL A n c x xs w hn hR hx hlen ⟨hF.2, hfx⟩ hxx
      · have p1 : decide (fin x) = false := decide_eq_false hfx
        have HV := Hd.mk (gw_fin hlen (fun k => hfx k.2))
        have HLC := Hd.mk hlc
        clear hn hl hR hx hxx h8 hlc hF hlen hfx
        go_enter Tryz.func74, Tryz.ntmps74
        go_wp2_with (first | (go_at_call 147; (with_reducible refine (s_List A n c xs _ HR.out.2.1 HR.out.2.2.1 HR.out.1 HR.out.2.2.2).mono ?_); rintro e w' ⟨rfl, ⟨nd, rfl⟩⟩; rw [HLC.out]) | (go_at_call 125; (with_reducible refine (s_Finite x _).mono ?_); rintro e w' ⟨rfl, ⟨nd, rfl⟩⟩))
        go_ret2
        exact ⟨none, 0, 0, by rw [HV.out.1] <;> rfl, by rw [HV.out.2]; exact OF.nil _ _, by (repeat (first | exact Below.refl _ _ | assumption | refine Below.drew ?_ | refine bdn ?_ | refine ba _ ?_ | refine bs0 _ _ ?_ ?_ | refine bs1 _ _ _ ?_ ?_ | refine bs2 _ _ _ _ ?_ ?_ | refine bs3 _ _ _ _ _ ?_ ?_ | refine bt3 (by assumption) ?_))⟩
    · have HV : Hd (gwC xs x = lstC xs ∧ gwL xs x = []) := ⟨by
        by_cases hb : xs.length < 1 ∨ 8 < xs.length
        · have := gw_len (xs := xs) (x := x) (by omega)
          unfold lstC; rw [if_pos hb]; exact this
        · have hna : ¬ AllFin xs := fun k => hlc (by unfold lstC; rw [if_neg hb, if_pos k])
          have := gw_fin (xs := xs) (x := x) (by omega) (fun k => hna k.1)
          unfold lstC; rw [if_neg hb, if_neg hna]; exact this⟩
      have h1 : (lstC xs == 0) = false := by simpa using hlc
      generalize hq : lstC xs = lc at *
      have HLC := Hd.mk hq
      clear hn hl hR hx hxx h8 hlc hq
      go_enter Tryz.func74, Tryz.ntmps74
      go_wp2_with (first | (go_at_call 147; (with_reducible refine (s_List A n c xs _ HR.out.2.1 HR.out.2.2.1 HR.out.1 HR.out.2.2.2).mono ?_); rintro e w' ⟨rfl, ⟨nd, rfl⟩⟩; rw [HLC.out]) | (go_at_call 125; (with_reducible refine (s_Finite x _).mono ?_); rintro e w' ⟨rfl, ⟨nd, rfl⟩⟩))
      go_ret2
      exact ⟨none, 0, 0, by rw [HV.out.1] <;> rfl, by rw [HV.out.2]; exact OF.nil _ _, by (repeat (first | exact Below.refl _ _ | assumption | refine Below.drew ?_ | refine bdn ?_ | refine ba _ ?_ | refine bs0 _ _ ?_ ?_ | refine bs1 _ _ _ ?_ ?_ | refine bs2 _ _ _ _ ?_ ?_ | refine bs3 _ _ _ _ _ ?_ ?_ | refine bt3 (by assumption) ?_))⟩
set_option maxHeartbeats 4000000 in
theorem i_Grow (A : Option Addr) (n c x : Nat) (xs : List Nat) (w : World) (hn : n = xs.length) (hl : n ≤ LIM) (hR : RF w A xs) (hx : ∀ x ∈ xs, W x) (hxx : W x) :
    Calls Tryz.prog 73 #[.slice A n c, .float .f32 x] w (RetGW (gwC xs x) (gwL xs x) w) := by
  have HR : Hd (RF w A xs) := ⟨hR⟩
  have HA := Hd.mk (fun w hR => m_AreFin A n c xs w hn hl hR hx)
  have HW := Hd.mk hxx
  by_cases h0 : xs.length < 1
  · have HV := Hd.mk (gw_len (xs := xs) (x := x) (by omega))
    have hn1 : (n : Int) < 1 := by omega
    clear hn hl hR hx hxx h0
    go_enter Tryz.func73, Tryz.ntmps73
    go_wp2_with fail
    go_ret2
    exact ⟨none, 0, 0, by rw [HV.out.1] <;> rfl, by rw [HV.out.2]; exact OF.nil _ _, by (repeat (first | exact Below.refl _ _ | assumption | refine Below.drew ?_ | refine bdn ?_ | refine ba _ ?_ | refine bs0 _ _ ?_ ?_ | refine bs1 _ _ _ ?_ ?_ | refine bs2 _ _ _ _ ?_ ?_ | refine bs3 _ _ _ _ _ ?_ ?_ | refine bt3 (by assumption) ?_))⟩
  · by_cases h8 : 8 ≤ xs.length
    · have HV := Hd.mk (gw_len (xs := xs) (x := x) (by omega))
      have hn1 : (1 : Int) ≤ n := by omega
      have hn8 : (8 : Int) ≤ n := by omega
      clear hn hl hR hx hxx h0 h8
      go_enter Tryz.func73, Tryz.ntmps73
      go_wp2_with fail
      go_ret2
      exact ⟨none, 0, 0, by rw [HV.out.1] <;> rfl, by rw [HV.out.2]; exact OF.nil _ _, by (repeat (first | exact Below.refl _ _ | assumption | refine Below.drew ?_ | refine bdn ?_ | refine ba _ ?_ | refine bs0 _ _ ?_ ?_ | refine bs1 _ _ _ ?_ ?_ | refine bs2 _ _ _ _ ?_ ?_ | refine bs3 _ _ _ _ _ ?_ ?_ | refine bt3 (by assumption) ?_))⟩
    · have hlen : ¬ (xs.length < 1 ∨ 8 ≤ xs.length) := by omega
      have hn1 : (1 : Int) ≤ n := by omega
      have hn8 : (n : Int) < 8 := by omega
      by_cases hF : AllFin xs
      · by_cases hfx : fin x
        · exact i_GrowL A n c x xs w hn hR hx hlen ⟨hF, hfx⟩ hxx
        · have p1 : decide (fin x) = false := decide_eq_false hfx
          have HV := Hd.mk (gw_fin hlen (fun k => hfx k.2))
          rw [decide_eq_true hF] at HA
          clear hn hl hR hx hxx h0 h8 hlen hF hfx
          go_enter Tryz.func73, Tryz.ntmps73
          go_wp2_with (first | (go_at_call 88; (with_reducible refine (HA.out _ HR.out).mono ?_); rintro e w' ⟨rfl, rfl⟩) | (go_at_call 129; (with_reducible refine (i_isFinite x _ HW.out).mono ?_); rintro e w' ⟨rfl, rfl⟩))
          go_ret2
          exact ⟨none, 0, 0, by rw [HV.out.1] <;> rfl, by rw [HV.out.2]; exact OF.nil _ _, by (repeat (first | exact Below.refl _ _ | assumption | refine Below.drew ?_ | refine bdn ?_ | refine ba _ ?_ | refine bs0 _ _ ?_ ?_ | refine bs1 _ _ _ ?_ ?_ | refine bs2 _ _ _ _ ?_ ?_ | refine bs3 _ _ _ _ _ ?_ ?_ | refine bt3 (by assumption) ?_))⟩
      · have HV := Hd.mk (gw_fin (x := x) hlen (fun k => hF k.1))
        rw [decide_eq_false hF] at HA
        clear hn hl hR hx hxx h0 h8 hlen hF
        go_enter Tryz.func73, Tryz.ntmps73
        go_wp2_with (first | (go_at_call 88; (with_reducible refine (HA.out _ HR.out).mono ?_); rintro e w' ⟨rfl, rfl⟩) | (go_at_call 129; (with_reducible refine (i_isFinite x _ HW.out).mono ?_); rintro e w' ⟨rfl, rfl⟩))
        go_ret2
        exact ⟨none, 0, 0, by rw [HV.out.1] <;> rfl, by rw [HV.out.2]; exact OF.nil _ _, by (repeat (first | exact Below.refl _ _ | assumption | refine Below.drew ?_ | refine bdn ?_ | refine ba _ ?_ | refine bs0 _ _ ?_ ?_ | refine bs1 _ _ _ ?_ ?_ | refine bs2 _ _ _ _ ?_ ?_ | refine bs3 _ _ _ _ _ ?_ ?_ | refine bt3 (by assumption) ?_))⟩
end Go.Proofs.YtflgjecpjaiecaaGreat
/- Contracts: marks in rows of floats. -/
set_option linter.unusedVariables false
set_option linter.unusedSimpArgs false
namespace Go.Proofs.YtflgjecpjaiecaaGreat
open Go.RowKit Num Flt
theorem OF.of_row {w : World} {g B : Nat} {xs : List Nat} (h : RowF w g xs) (hB : B ≤ g) (hl : xs.length ≤ LIM) : OF w B (.slice (some ⟨g, 0, none⟩) xs.length xs.length) xs := by
  refine ⟨by simp [cF], Or.inr ⟨g, xs.length, (cF xs).toArray, rfl, hB, h, Nat.le_refl _, by unfold LIM at hl; unfold maxLen; omega, by simp [cF], ?_⟩⟩
  rw [List.take_of_length_le (by simp [cF])]
theorem OF.kept {w w' : World} {B : Nat} {v : Value} {xs : List Nat} {row : Option Nat} (h : OF w B v xs) (hg : w.grownBy w' row) (hne : v.ownBlock = none ∨ v.ownBlock ≠ row) : OF w' B v xs := World.ownsRow.kept h hg hne
end Go.Proofs.YtflgjecpjaiecaaGreat
