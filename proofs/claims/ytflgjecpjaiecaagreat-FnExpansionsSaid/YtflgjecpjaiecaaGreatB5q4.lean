/- What the law on expansions holds: facts of grown and compressed lists, blocks of dyadic numbers. -/
import Derived.Test.YtflgjecpjaiecaaGreatB1q4
import Derived.Test.YtflgjecpjaiecaaGreatB2q4
import Derived.Test.YtflgjecpjaiecaaGreatB3q4
set_option linter.unusedVariables false
set_option linter.unusedSimpArgs false
set_option exponentiation.threshold 30000
namespace Go.Proofs.YtflgjecpjaiecaaGreat
open Go.RowKit Num Flt
theorem fin_nan {y : Nat} (h : fin y) : ¬ nan y := fun k => by unfold fin at h; unfold nan at k; omega
theorem lst_ok {xs : List Nat} (h1 : 1 ≤ xs.length) (h2 : xs.length ≤ 8) (h3 : ∀ x ∈ xs, fin x) : lstC xs = 0 := by
  unfold lstC; rw [if_neg (by omega), if_pos (show AllFin xs from h3)]
structure GwF (xs : List Nat) (x : Nat) (gl : List Nat) : Prop where
  fx : fin x
  ls : lstC xs = 0
  lg : lstC gl = 0
  sum : sumv gl = sumv xs + fv x
  len : gl.length = xs.length + 1
  len8 : gl.length ≤ 8
  fg : ∀ y ∈ gl, fin y
theorem gw_facts {xs : List Nat} {x : Nat} (hW : ∀ x ∈ xs, W x) (hx : W x) : (∀ y ∈ gwL xs x, W y ∧ ¬ nan y) ∧ (gwL xs x).length ≤ 9 ∧ (gwC xs x = 0 → GwF xs x (gwL xs x)) := by
  by_cases h0 : gwC xs x = 0
  · have h0' := h0
    unfold gwC at h0
    split at h0
    · omega
    · rename_i h8
      split at h0
      · rename_i hf
        split at h0
        · rename_i hs
          obtain ⟨ys, hy⟩ := Option.isSome_iff_exists.1 hs
          have hg := gw_some h8 hf hy
          obtain ⟨i1, i2, i3⟩ := grow_facts xs x ys hy hx hf.2 (fun z hz => ⟨hW z hz, hf.1 z hz⟩)
          rw [hg.2]
          refine ⟨fun y hy => ⟨(i2 y hy).1, fin_nan (i2 y hy).2⟩, by omega, fun _ => ⟨hf.2, lst_ok (by omega) (by omega) hf.1, lst_ok (by omega) (by omega) (fun y hy => (i2 y hy).2), i1, i3, by omega, fun y hy => (i2 y hy).2⟩⟩
        · omega
      · omega
  · have : gwL xs x = [] := by unfold gwL; rw [if_neg h0]
    rw [this]
    exact ⟨by simp, by simp, fun k => absurd k h0⟩
structure CeF (xs zs : List Nat) : Prop where
  ls : lstC xs = 0
  lz : lstC zs = 0
  sum : sumv zs = sumv xs
  len : 1 ≤ zs.length
  len8 : zs.length ≤ 8
  fz : ∀ y ∈ zs, fin y
  fall : ∀ j, j + 1 < zs.length → (pl (zs.getD (j + 1) 0)).natAbs < (pl (zs.getD j 0)).natAbs ∧ pl (zs.getD (j + 1) 0) ≠ 0
theorem ce_facts {xs : List Nat} (hW : ∀ x ∈ xs, W x) : (∀ y ∈ ceL xs, W y ∧ ¬ nan y) ∧ (ceL xs).length ≤ 9 ∧ (ceC xs ≠ 0 → ceL xs = []) ∧ (ceC xs = 0 → CeF xs (ceL xs)) := by
  by_cases h0 : ceC xs = 0
  · have hl : lstC xs = 0 := by
      unfold ceC at h0
      split at h0
      · rename_i h; exact h
      · exact h0
    have hs : (cpr 8 (sumv xs)).isSome = true := by
      unfold ceC at h0
      rw [if_pos hl] at h0
      split at h0
      · rename_i h; exact h
      · omega
    obtain ⟨ys, hy⟩ := Option.isSome_iff_exists.1 hs
    obtain ⟨i1, i2, i3, -⟩ := cpr_facts 8 (sumv xs) ys hy (MU.sum xs hW)
    have hlen := (cpr_len 8 _ ys hy).1
    rw [(ce_some hl hy).2]
    have key : CeF xs (one0 ys) ∧ ∀ y ∈ one0 ys, W y := by
      cases ys with
      | nil =>
        refine ⟨⟨hl, by decide, ?_, by decide, by decide, by intro y hy; simp [one0] at hy; subst hy; decide, by intro j hj; simp [one0] at hj⟩, by intro y hy; simp [one0] at hy; subst hy; unfold W; decide⟩
        rw [← i1]; simp [one0, sumv, fv_0]
      | cons a t =>
        refine ⟨⟨hl, lst_ok (by simp [one0]) hlen (fun y hy => (i2 y hy).2.1), i1, by simp [one0], hlen, fun y hy => (i2 y hy).2.1, fun j hj => ⟨pl_of_fv (i3 j hj), ?_⟩⟩, fun y hy => (i2 y hy).1⟩
        refine pl_nz (i2 _ ?_).2.2
        show (a :: t).getD (j + 1) 0 ∈ a :: t
        have hj' : j + 1 < (a :: t).length := hj
        rw [List.getD_eq_getElem?_getD, List.getElem?_eq_getElem hj']; exact List.getElem_mem _
    exact ⟨fun y hy => ⟨key.2 y hy, fin_nan (key.1.fz y hy)⟩, by have := key.1.len8; omega, fun k => absurd h0 k, fun _ => key.1⟩
  · have : ceL xs = [] := by unfold ceL; rw [if_neg h0]
    rw [this]
    exact ⟨by simp, by simp, fun _ => rfl, fun k => absurd k h0⟩
/-- the sign told -/
def sgE (xs : List Nat) : Int := if lstC xs = 0 then (sumv xs).sign else 0
theorem sg_ret (xs : List Nat) : (if lstC xs = 0 then Value.tuple #[.int .i64 (sumv xs).sign, .int .i64 0] else .tuple #[.int .i64 0, .int .i64 (lstC xs)]) = .tuple #[.int .i64 (sgE xs), .int .i64 (lstC xs)] := by
  unfold sgE
  split
  · rename_i h; rw [h]
  · rfl
theorem s_SgE (A : Option Addr) (n c : Nat) (xs : List Nat) (w : World) (hn : n = xs.length) (hl : n ≤ LIM) (hR : RF w A xs) (hx : ∀ x ∈ xs, W x) : Calls Tryz.prog 81 #[.slice A n c] w fun e w' => e = .returned (.tuple #[.int .i64 (sgE xs), .int .i64 (lstC xs)]) ∧ Below w.heap.size w w' :=
  (s_SignOfE A n c xs w hn hl hR hx).mono fun e w' h => ⟨by rw [h.1, sg_ret], h.2⟩
theorem i_SgE (A : Option Addr) (n c : Nat) (xs : List Nat) (w : World) (hn : n = xs.length) (hl : n ≤ LIM) (hR : RF w A xs) (hx : ∀ x ∈ xs, W x) : Calls Tryz.prog 80 #[.slice A n c] w fun e w' => e = .returned (.tuple #[.int .i64 (sgE xs), .int .i64 (lstC xs)]) ∧ Below w.heap.size w w' :=
  (m_SignOfE A n c xs w hn hl hR hx).mono fun e w' h => ⟨by rw [h.1, sg_ret], h.2⟩
theorem re_num (xs : List Nat) (mode : Int) : W (reF xs mode) ∧ ¬ nan (reF xs mode) := by
  unfold reF
  split
  · exact rF_num _ _
  · exact ⟨by unfold W; decide, by decide⟩
theorem DyN.sgn {s x V : Int} {L : List Int} {l : Nat} (h : DyN s L x V l) : s = V.sign := by
  obtain ⟨m, hN, hF, _⟩ := h
  have hp := pow2_pos (x + SC).toNat
  have he := hN.eq
  rcases hN.sgn with ⟨rfl, rfl⟩ | ⟨hs, hne⟩
  · have hm : m = 0 := by rw [he]; simp
    rw [hF.val, hm]; unfold dv; simp
  · have hpos := hN.can.pos (by decide) hne
    rw [hF.val]; unfold dv
    rw [Int.sign_mul, Int.sign_eq_one_of_pos hp, Int.mul_one, he, Int.sign_mul, Int.sign_eq_one_of_pos hpos, Int.mul_one]
    rcases hs with rfl | rfl <;> rfl
/-- three lists of floats -/
structure XH (w wk : World) (A0 : Option Addr) (l0 : List Nat) (A1 : Option Addr) (l1 : List Nat) (A2 : Option Addr) (l2 : List Nat) : Prop where
  bel : Below w.heap.size w wk
  r0 : RF wk A0 l0
  r1 : RF wk A1 l1
  r2 : RF wk A2 l2
theorem XH.below {w wk w' : World} {A0 A1 A2 : Option Addr} {l0 l1 l2 : List Nat} (h : XH w wk A0 l0 A1 l1 A2 l2) (hb : Below wk.heap.size wk w') : XH w w' A0 l0 A1 l1 A2 l2 := ⟨bt3 hb h.bel, h.r0.below hb, h.r1.below hb, h.r2.below hb⟩
theorem XH.set1 {w wk : World} {A0 A1 A2 : Option Addr} {l0 l1 l2 : List Nat} {A : Option Addr} {l : List Nat} (h : XH w wk A0 l0 A1 l1 A2 l2) (hr : RF wk A l) : XH w wk A0 l0 A l A2 l2 := ⟨h.bel, h.r0, hr, h.r2⟩
theorem XH.set2 {w wk : World} {A0 A1 A2 : Option Addr} {l0 l1 l2 : List Nat} {A : Option Addr} {l : List Nat} (h : XH w wk A0 l0 A1 l1 A2 l2) (hr : RF wk A l) : XH w wk A0 l0 A1 l1 A l := ⟨h.bel, h.r0, h.r1, hr⟩
theorem XH.start {w wk : World} {A : Option Addr} {l : List Nat} (hb : Below w.heap.size w wk) (hr : RF wk A l) : XH w wk A l none [] none [] := ⟨hb, hr, Reads.none_, Reads.none_⟩
/-- a dyadic number in a block -/
structure DyB (wk : World) (g : Nat) (s x : Int) (A : Option Addr) (c : Nat) (L : List Int) : Prop where
  blk : Blk wk g 66 #[.int .i64 s, .slice A L.length c, .int .i64 x]
  rd : R64 wk A L
  lim : L.length ≤ LIM
theorem DyB.below {wk w' : World} {g : Nat} {s x : Int} {A : Option Addr} {c : Nat} {L : List Int} (h : DyB wk g s x A c L) (hb : Below wk.heap.size wk w') : DyB w' g s x A c L := ⟨h.blk.below hb h.blk.lt, h.rd.below hb, h.lim⟩
theorem DyB.new {wk : World} {B : Nat} {s x V : Int} {A : Option Addr} {c : Nat} {L : List Int} (h : O64 wk B (.slice A L.length c) L) (hN : DyN s L x V 149) : DyB (wk.alloc (Obj.cells #[.int .i64 s, .slice A L.length c, .int .i64 x] 66)) wk.heap.size s x A c L :=
  ⟨Blk.new _ _ _, h.reads0.below (ba _ (Below.refl _ _)), by have := hN.lim; unfold LIM; omega⟩
end Go.Proofs.YtflgjecpjaiecaaGreat
