/- Gy: V1 V2 V3 V4, merged. -/
import Derived.Test.YtflgjecpjaiecaaGreatGxq4
import Derived.Test.YtflgjecpjaiecaaGreatGcq4
import Derived.Test.YtflgjecpjaiecaaGreatGaq4
import Derived.Test.YtflgjecpjaiecaaGreatGeq4
/- Contracts: values of pairs, both sides. -/
set_option linter.unusedVariables false
set_option linter.unusedSimpArgs false
set_option exponentiation.threshold 30000
namespace Go.Proofs.YtflgjecpjaiecaaGreat
open Go.RowKit Num Flt
theorem fv_lt2 {x : Nat} (h : fin x) : (fv x).natAbs < 2 ^ 20200 := by
  have he := pe_le h
  have hm := mv_lt x
  have hsc : (SC : Nat) = 20000 := rfl
  unfold fv dv
  rw [Int.natAbs_mul, Int.natAbs_pow]
  have h1 : (Int.natAbs 2) ^ ((-149 + (pe x : Int)) + SC).toNat ≤ 2 ^ 20104 := Nat.pow_le_pow_right (by decide) (by omega)
  have h2 : (mv x).natAbs ≤ 2 ^ 24 := by omega
  have h3 := Nat.mul_le_mul h2 h1
  rw [← Nat.pow_add] at h3
  exact Nat.lt_of_le_of_lt h3 (Nat.pow_lt_pow_right (by decide) (by decide))
/-- what a function of one pair holds: the pair, the place of a number -/
abbrev Wn2 (w : World) (a b : Nat) : World := (w.alloc (Obj.cells #[.float .f32 a, .float .f32 b] 30)).alloc (Obj.cells #[.pointer none, .int .i64 0] 113)
structure PnH (w wx : World) (a b : Nat) : Prop where
  bel : Below w.heap.size w wx
  b0 : Blk wx w.heap.size 30 #[.float .f32 a, .float .f32 b]
  b1 : Blk wx (w.heap.size + 1) 113 #[.pointer none, .int .i64 0]
theorem PnH.start (w : World) (a b : Nat) : PnH w (Wn2 w a b) a b := by
  refine ⟨ba _ (ba _ (Below.refl _ _)), (Blk.new _ _ _).alloc _, ?_⟩
  have := Blk.new (w.alloc (Obj.cells #[.float .f32 a, .float .f32 b] 30)) 113 #[.pointer none, .int .i64 0]
  simpa [Wn2] using this
theorem PnH.below {w wx w' : World} {a b : Nat} (h : PnH w wx a b) (hb : Below wx.heap.size wx w') : PnH w w' a b :=
  ⟨bt3 hb h.bel, h.b0.below hb h.b0.lt, h.b1.below hb h.b1.lt⟩
/-- what a function of one pair holds: the pair, the place of a dyadic number -/
abbrev Wd2 (w : World) (a b : Nat) : World := (w.alloc (Obj.cells #[.float .f32 a, .float .f32 b] 30)).alloc (Obj.cells #[.int .i64 0, .slice none 0 0, .int .i64 0] 66)
structure PdH (w wx : World) (a b : Nat) : Prop where
  bel : Below w.heap.size w wx
  b0 : Blk wx w.heap.size 30 #[.float .f32 a, .float .f32 b]
  b1 : Blk wx (w.heap.size + 1) 66 #[.int .i64 0, .slice none 0 0, .int .i64 0]
theorem PdH.start (w : World) (a b : Nat) : PdH w (Wd2 w a b) a b := by
  refine ⟨ba _ (ba _ (Below.refl _ _)), (Blk.new _ _ _).alloc _, ?_⟩
  have := Blk.new (w.alloc (Obj.cells #[.float .f32 a, .float .f32 b] 30)) 66 #[.int .i64 0, .slice none 0 0, .int .i64 0]
  simpa [Wd2] using this
theorem PdH.below {w wx w' : World} {a b : Nat} (h : PdH w wx a b) (hb : Below wx.heap.size wx w') : PdH w w' a b :=
  ⟨bt3 hb h.bel, h.b0.below hb h.b0.lt, h.b1.below hb h.b1.lt⟩
end Go.Proofs.YtflgjecpjaiecaaGreat
/- Contracts of the statements: rows of integers, whole and dyadic numbers: alike, marked, held. -/
set_option linter.unusedVariables false
set_option linter.unusedSimpArgs false
namespace Go.Proofs.YtflgjecpjaiecaaGreat
open Go.RowKit Num
theorem O64.nil (w : World) (B : Nat) : O64 w B (.slice none 0 0) [] := World.ownsRow_nil _ _ _ _
/-! whole and dyadic numbers -/
end Go.Proofs.YtflgjecpjaiecaaGreat
/- What a statement on dyadic answers holds: the reference's answer, the program's answer, their rows. -/
set_option linter.unusedVariables false
set_option linter.unusedSimpArgs false
namespace Go.Proofs.YtflgjecpjaiecaaGreat
open Go.RowKit Num
/-- the parts of a dyadic number -/
def DyN (s : Int) (L : List Int) (x V : Int) (l : Nat) : Prop := ∃ m, NumS s L m ∧ DyF m x V l ∧ L.length ≤ 100000
theorem DyO.dyn {w : World} {B : Nat} {s : Int} {A : Option Addr} {n c : Nat} {x V : Int} {l : Nat} (h : DyO w B s A n c x V l) : ∃ L, n = L.length ∧ O64 w B (.slice A n c) L ∧ DyN s L x V l := by
  obtain ⟨m, ⟨xs, h1, h2, h3, h4⟩, h5⟩ := h
  exact ⟨xs, h1, h4, m, h3, h5, by omega⟩
theorem dyF_le {m m' x x' V : Int} {l l' : Nat} (h : DyF m x V l) (h' : DyF m' x' V l') (hm : m ≠ 0) (hm' : m' ≠ 0) (hx : x ≤ x') : m = m' ∧ x = x' := by
  have hsc : (SC : Nat) = 20000 := rfl
  have h0 := h.lo; have h1 := h.lsc
  obtain ⟨k, hk⟩ : ∃ k : Nat, x' = x + k := ⟨(x' - x).toNat, by omega⟩
  have e := h.val.symm.trans h'.val
  unfold dv at e
  have e2 : (x' + SC).toNat = (x + SC).toNat + k := by omega
  rw [e2, Int.pow_add, Int.mul_comm ((2 : Int) ^ (x + SC).toNat), ← Int.mul_assoc] at e
  have e3 : m = m' * 2 ^ k := Int.eq_of_mul_eq_mul_right (Int.ne_of_gt (pow2_pos _)) e
  rcases Nat.eq_zero_or_pos k with hk0 | hk0
  · subst hk0
    exact ⟨by rw [e3]; simp, by omega⟩
  · exfalso
    have ho := h.odd hm
    obtain ⟨j, rfl⟩ : ∃ j, k = j + 1 := ⟨k - 1, by omega⟩
    rw [Int.pow_succ, ← Int.mul_assoc] at e3
    generalize m' * 2 ^ j = q at e3
    omega
theorem dyF_uniq {m m' x x' V : Int} {l l' : Nat} (h : DyF m x V l) (h' : DyF m' x' V l') : m = m' ∧ x = x' := by
  by_cases hm : m = 0
  · have hV : V = 0 := by rw [h.val, hm]; unfold dv; simp
    have hm' : m' = 0 := dv_nz (e := x') (by rw [← h'.val]; exact hV)
    exact ⟨by omega, by rw [h.zer hm, h'.zer hm']⟩
  · have hm' : m' ≠ 0 := fun k => hm (dv_nz (e := x) (by rw [← h.val, h'.val, k]; unfold dv; simp))
    rcases Int.le_total x x' with k | k
    · exact dyF_le h h' hm hm' k
    · have := dyF_le h' h hm' hm k
      exact ⟨this.1.symm, this.2.symm⟩
theorem NumS.sameV {s s' : Int} {L L' : List Int} {m : Int} (h : NumS s L m) (h' : NumS s' L' m) : s = s' ∧ L = L' := by
  have e : val 16777216 L = val 16777216 L' := by rw [← h.abs, ← h'.abs]
  have eL := h.can.inj (by decide) h'.can e
  subst eL
  refine ⟨?_, rfl⟩
  rcases h.sgn with ⟨h1, h2⟩ | ⟨h1, h2⟩
  · rcases h'.sgn with ⟨k1, k2⟩ | ⟨k1, k2⟩
    · rw [h1, k1]
    · exact absurd h2 k2
  · rcases h'.sgn with ⟨k1, k2⟩ | ⟨k1, k2⟩
    · exact absurd k2 h2
    · have hp := h.can.pos (by decide) h2
      have e1 := h.eq.symm.trans h'.eq
      exact Int.eq_of_mul_eq_mul_right (Int.ne_of_gt hp) e1
theorem DyN.uniq {s s' : Int} {L L' : List Int} {x x' V : Int} {l l' : Nat} (h : DyN s L x V l) (h' : DyN s' L' x' V l') : s = s' ∧ L = L' ∧ x = x' := by
  obtain ⟨m, h1, h2, _⟩ := h
  obtain ⟨m', k1, k2, _⟩ := h'
  obtain ⟨rfl, rfl⟩ := dyF_uniq h2 k2
  obtain ⟨rfl, rfl⟩ := h1.sameV k1
  exact ⟨rfl, rfl, rfl⟩
theorem DyN.lim {s : Int} {L : List Int} {x V : Int} {l : Nat} (h : DyN s L x V l) : L.length ≤ 100000 := by
  obtain ⟨m, _, _, h⟩ := h; exact h
theorem O64.reads0 {w : World} {B n c : Nat} {A : Option Addr} {xs : List Int} (h : O64 w B (.slice A n c) xs) : R64 w A xs := h.reads
/-- what a statement holds behind the program's call: its argument's block, both answers, their rows -/
structure VdS (w wk : World) (g3 g5 B4 : Nat) (s x : Int) (A2 A4 : Option Addr) (c2 c4 : Nat) (L X4 : List Int) : Prop where
  bel : Below w.heap.size w wk
  b3 : Blk wk g3 66 #[.int .i64 s, .slice A2 L.length c2, .int .i64 x]
  b5 : Blk wk g5 66 #[.int .i64 s, .slice A4 L.length c4, .int .i64 x]
  o2 : O64 wk 0 (.slice A2 L.length c2) L
  o4 : O64 wk 0 (.slice A4 L.length c4) X4
  d2 : ∀ k, (Value.slice A2 L.length c2).ownBlock = some k → k < B4
  d4 : ∀ k, (Value.slice A4 L.length c4).ownBlock = some k → B4 ≤ k
  lo : w.heap.size ≤ B4
variable {w wk w' : World} {g3 g5 B4 : Nat} {s x : Int} {A2 A4 : Option Addr} {c2 c4 : Nat} {L X4 Y : List Int}
theorem VdS.below (h : VdS w wk g3 g5 B4 s x A2 A4 c2 c4 L X4) (hb : Below wk.heap.size wk w') : VdS w w' g3 g5 B4 s x A2 A4 c2 c4 L X4 :=
  ⟨bt3 hb h.bel, h.b3.below hb h.b3.lt, h.b5.below hb h.b5.lt, h.o2.keep hb, h.o4.keep hb, h.d2, h.d4, h.lo⟩
theorem O64.own_lt {w : World} {B : Nat} {v : Value} {xs : List Int} (h : O64 w B v xs) {k : Nat} (hk : v.ownBlock = some k) : k < w.heap.size := by
  obtain ⟨⟨cs, hb⟩, _⟩ := h.blk hk
  exact hb.lt
theorem VdS.start {w w2 w3 w4 : World} {B2 : Nat} (hB : Below w.heap.size w w2) (h2 : O64 w2 B2 (.slice A2 L.length c2) L)
    (hb3 : Below (w2.alloc (Obj.cells #[.int .i64 s, .slice A2 L.length c2, .int .i64 x] 66)).heap.size (w2.alloc (Obj.cells #[.int .i64 s, .slice A2 L.length c2, .int .i64 x] 66)) w3)
    (hb4 : Below w3.heap.size w3 w4) (h4 : O64 w4 w3.heap.size (.slice A4 L.length c4) L) :
    VdS w (w4.alloc (Obj.cells #[.int .i64 s, .slice A4 L.length c4, .int .i64 x] 66)) w2.heap.size w4.heap.size w3.heap.size s x A2 A4 c2 c4 L L := by
  have hq : Below w2.heap.size w2 w3 := bt3 hb3 (ba _ (Below.refl _ _))
  have ha := ba (w := w4) (Obj.cells #[.int .i64 s, .slice A4 L.length c4, .int .i64 x] 66) (Below.refl w4.heap.size w4)
  have h3 := (Blk.new w2 66 #[.int .i64 s, .slice A2 L.length c2, .int .i64 x]).below hb3 (Blk.new _ _ _).lt
  exact ⟨bt3 ha (bt3 hb4 (bt3 hq hB)), (h3.below hb4 h3.lt).alloc _, Blk.new _ _ _, (((h2.keep hq).keep hb4).keep ha).mono (Nat.zero_le _), (h4.keep ha).mono (Nat.zero_le _), fun k hk => (h2.keep hq).own_lt hk, fun k hk => (h4.blk hk).2, Nat.le_trans hB.size hq.size⟩
end Go.Proofs.YtflgjecpjaiecaaGreat
/- Contracts: values of expansions, both sides. -/
set_option linter.unusedVariables false
set_option linter.unusedSimpArgs false
set_option exponentiation.threshold 30000
namespace Go.Proofs.YtflgjecpjaiecaaGreat
open Go.RowKit Num Flt
theorem sumv_lt2 : ∀ (xs : List Nat), (∀ x ∈ xs, fin x) → (sumv xs).natAbs ≤ xs.length * 2 ^ 20200
  | [], _ => by simp [sumv]
  | x :: xs, h => by
    have h1 := sumv_lt2 xs (fun y hy => h y (List.mem_cons_of_mem _ hy))
    have h2 := fv_lt2 (h x (List.mem_cons_self ..))
    have h3 : (fv x + sumv xs).natAbs ≤ (fv x).natAbs + (sumv xs).natAbs := Int.natAbs_add_le _ _
    show (fv x + sumv xs).natAbs ≤ (xs.length + 1) * 2 ^ 20200
    rw [Nat.add_mul, Nat.one_mul]
    generalize 2 ^ 20200 = u at *
    generalize xs.length * u = q at *
    omega
theorem sumv_small {xs : List Nat} (h : ∀ x ∈ xs, fin x) (hl : xs.length ≤ 8) : (sumv xs).natAbs < 2 ^ 22000 := by
  have h1 := sumv_lt2 xs h
  have h2 : xs.length * 2 ^ 20200 ≤ 2 ^ 3 * 2 ^ 20200 := Nat.mul_le_mul_right _ hl
  rw [← Nat.pow_add] at h2
  have h3 : 2 ^ (3 + 20200) < 2 ^ 22000 := Nat.pow_lt_pow_right (by decide) (by decide)
  omega
def veV (xs : List Nat) : Int := if lstC xs = 0 then sumv xs else 0
abbrev Wd1 (w : World) : World := w.alloc (Obj.cells #[.int .i64 0, .slice none 0 0, .int .i64 0] 66)
structure PeH (w wx : World) : Prop where
  bel : Below w.heap.size w wx
  b1 : Blk wx w.heap.size 66 #[.int .i64 0, .slice none 0 0, .int .i64 0]
theorem PeH.start (w : World) : PeH w (Wd1 w) := ⟨ba _ (Below.refl _ _), Blk.new _ _ _⟩
theorem PeH.below {w wx w' : World} (h : PeH w wx) (hb : Below wx.heap.size wx w') : PeH w w' := ⟨bt3 hb h.bel, h.b1.below hb h.b1.lt⟩
set_option maxHeartbeats 4000000 in
theorem i_ValueOfExp (A : Option Addr) (n c : Nat) (xs : List Nat) (w : World) (hn : n = xs.length) (hl : n ≤ LIM) (hR : RF w A xs) (hx : ∀ x ∈ xs, W x) : Calls Tryz.prog 76 #[.slice A n c] w (RetDC (veV xs) 149 (lstC xs) w) := by
  have HR : Hd (RF w A xs ∧ n = xs.length ∧ n ≤ LIM ∧ ∀ x ∈ xs, W x) := ⟨⟨hR, hn, hl, hx⟩⟩
  have HL := Hd.mk (fun w hR => m_Exp A n c xs w hn hl hR hx)
  unfold veV
  by_cases h0 : lstC xs = 0
  · have HF : Hd (n ≤ 1000 ∧ ∀ x ∈ xs, W x ∧ fin x) := ⟨⟨by have := (lst_fin h0).1; omega, fun x h => ⟨hx x h, (lst_fin h0).2 x h⟩⟩⟩
    have HD := Hd.mk (fun g x w (hX : NuP w g x (sumv xs) 149) => n_Dyadic g x (sumv xs) 149 w hX (sumv_small (lst_fin h0).2 (lst_fin h0).1) (by decide))
    rw [if_pos h0]
    rw [h0] at HL ⊢
    clear hn hl hR hx h0
    generalize hV : sumv xs = V at HD
    have HV := Hd.mk hV
    clear hV
    go_enter Tryz.func76, Tryz.ntmps76
    go_wp2_with (first | (go_at_call 148; (with_reducible refine (HL.out _ (HR.out.1.below (by (repeat (first | exact Below.refl _ _ | assumption | refine Below.drew ?_ | refine bdn ?_ | refine ba _ ?_ | refine bs0 _ _ ?_ ?_ | refine bs1 _ _ _ ?_ ?_ | refine bs2 _ _ _ _ ?_ ?_ | refine bs3 _ _ _ _ _ ?_ ?_ | refine bt3 (by assumption) ?_))))).mono ?_); rintro e w1 ⟨rfl, rfl⟩; have HK := Hd.mk (PeH.start w)) | (go_at_call 149; (with_reducible refine (n_Parts A n c xs _ HR.out.2.1 HF.out.1 (HR.out.1.below (HK.out.bel)) HF.out.2).mono ?_); rw [HV.out]; rintro e2 w2 ⟨g2, x2, rfl, hN, hb⟩; replace HK := Hd.mk (HK.out.below hb); have HNU := Hd.mk hN; have r0 : w2.cell? _ = some (.int .i64 0) := HK.out.b1.cell 0; have r1 : w2.cell? _ = some (.slice none 0 0) := HK.out.b1.cell 1; have r2 : w2.cell? _ = some (.int .i64 0) := HK.out.b1.cell 2; have f0 := HK.out.b1.frozen 0; have f1 := HK.out.b1.frozen 1; have f2 := HK.out.b1.frozen 2; clear hN hb) | (go_at_call 128; (with_reducible refine (HD.out g2 x2 _ HNU.out).mono ?_); rintro e7 w7 ⟨s7, A7, n7, c7, x7, rfl, hD, hb⟩; have hz1 := HK.out.b1.lt; have H7 := Hd.mk hD; replace HK := Hd.mk (HK.out.below hb); have r0 : w7.cell? _ = some (.int .i64 0) := HK.out.b1.cell 0; have r1 : w7.cell? _ = some (.slice none 0 0) := HK.out.b1.cell 1; have r2 : w7.cell? _ = some (.int .i64 0) := HK.out.b1.cell 2; have f0 := HK.out.b1.frozen 0; have f1 := HK.out.b1.frozen 1; have f2 := HK.out.b1.frozen 2; clear hD hb))
    refine bodyPost_ret (v := .tuple #[.agg #[.int .i64 s7, .slice A7 n7 c7, .int .i64 x7], .int .i64 0]) (by simp (maxDischargeDepth := 7) [results, Tryz.results76, go_sem, *]) rfl ⟨s7, A7, n7, c7, x7, rfl, (((H7.out.set _ _ (by omega) _).set _ _ (by omega) _).set _ _ (by omega) _).mono (by omega), (by have hbb := HK.out.bel; (repeat (first | exact Below.refl _ _ | assumption | refine Below.drew ?_ | refine bdn ?_ | refine ba _ ?_ | refine bs0 _ _ ?_ ?_ | refine bs1 _ _ _ ?_ ?_ | refine bs2 _ _ _ _ ?_ ?_ | refine bs3 _ _ _ _ _ ?_ ?_ | refine bt3 (by assumption) ?_)))⟩
  · have h1 : (lstC xs == 0) = false := by simpa using h0
    rw [if_neg h0]
    clear hn hl hR hx h0
    generalize lstC xs = C at *
    go_enter Tryz.func76, Tryz.ntmps76
    go_wp2_with (first | (go_at_call 148; (with_reducible refine (HL.out _ (HR.out.1.below (by (repeat (first | exact Below.refl _ _ | assumption | refine Below.drew ?_ | refine bdn ?_ | refine ba _ ?_ | refine bs0 _ _ ?_ ?_ | refine bs1 _ _ _ ?_ ?_ | refine bs2 _ _ _ _ ?_ ?_ | refine bs3 _ _ _ _ _ ?_ ?_ | refine bt3 (by assumption) ?_))))).mono ?_); rintro e w1 ⟨rfl, rfl⟩; have HK := Hd.mk (PeH.start w)))
    refine bodyPost_ret (v := .tuple #[.agg #[.int .i64 0, .slice none 0 0, .int .i64 0], .int .i64 C]) (by simp (maxDischargeDepth := 7) [results, Tryz.results76, go_sem, *]) rfl ⟨0, none, 0, 0, 0, rfl, dyO_zero _ _ _ (by decide), (by have hbb := HK.out.bel; (repeat (first | exact Below.refl _ _ | assumption | refine Below.drew ?_ | refine bdn ?_ | refine ba _ ?_ | refine bs0 _ _ ?_ ?_ | refine bs1 _ _ _ ?_ ?_ | refine bs2 _ _ _ _ ?_ ?_ | refine bs3 _ _ _ _ _ ?_ ?_ | refine bt3 (by assumption) ?_)))⟩
end Go.Proofs.YtflgjecpjaiecaaGreat
