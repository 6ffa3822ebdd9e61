/- Gs: N5 S33, merged. -/
import Derived.Test.YtflgjecpjaiecaaGreatGnq2
import Derived.Test.YtflgjecpjaiecaaGreatGaq2
/- Plain facts: the language's float sums and differences. -/
set_option linter.unusedVariables false
set_option linter.unusedSimpArgs false
set_option exponentiation.threshold 30000
namespace Go.Proofs.YtflgjecpjaiecaaGreat
open Go.RowKit Num Flt
theorem fv_base {x : Nat} (hx : W x) {b : Int} (h0 : -20000 ≤ b) (h1 : b ≤ -149 + (pe x : Int)) : fv x = Ieee.signed (sgf Ieee.single x) (pm x) (-149 + (pe x : Int) - b).toNat * 2 ^ (b + 20000).toNat := by
  rw [signed_eq]
  unfold fv dv
  rw [mv_sv hx]
  have hsc : (SC : Nat) = 20000 := rfl
  have e : (-149 + (pe x : Int) + SC).toNat = (-149 + (pe x : Int) - b).toNat + (b + 20000).toNat := by omega
  rw [e, sv_mul, Int.pow_add, ← Int.mul_assoc]
  push_cast
  rfl
/-- the language's sum is the sum rounded to the nearest -/
theorem add_rF {x y : Nat} (hx : W x) (hy : W y) (fx : fin x) (fy : fin y) (h0 : fv x + fv y ≠ 0) : addW x y = rF 0 (fv x + fv y) := by
  obtain ⟨b, hb⟩ : ∃ b, b = min (-149 + (pe x : Int)) (-149 + (pe y : Int)) := ⟨_, rfl⟩
  have hx1 := fv_base hx (b := b) (by omega) (by omega)
  have hy1 := fv_base hy (b := b) (by omega) (by omega)
  obtain ⟨T, hT⟩ : ∃ T, T = Ieee.signed (sgf Ieee.single x) (pm x) (-149 + (pe x : Int) - b).toNat + Ieee.signed (sgf Ieee.single y) (pm y) (-149 + (pe y : Int) - b).toNat := ⟨_, rfl⟩
  have hV : fv x + fv y = T * 2 ^ (b + 20000).toNat := by rw [hx1, hy1, ← Int.add_mul, ← hT]
  have hp := pow2_pos (b + 20000).toNat
  have hT0 : T ≠ 0 := fun k => h0 (by rw [hV, k, Int.zero_mul])
  have hneg : decide (fv x + fv y < 0) = decide (T < 0) := decide_eq_decide.2 (by
    rw [hV]
    constructor
    · intro h
      by_cases hc : T < 0
      · exact hc
      · have := Int.mul_nonneg (show 0 ≤ T by omega) (Int.le_of_lt hp); omega
    · intro h; exact Int.mul_neg_of_neg_of_pos h hp)
  have hN : (fv x + fv y).natAbs = T.natAbs * 2 ^ (b + 20000).toNat := by rw [hV, Int.natAbs_mul, Int.natAbs_pow]; rfl
  rw [← word_rF h0 hneg, hN, ← nearest_rg _ (by omega) (by omega)]
  unfold addW
  have : floatBits .add .f32 x y = some (Ieee.single.nearest (decide (T < 0)) T.natAbs b) := by
    show Ieee.single.add x y = _
    unfold Ieee.Format.add
    rw [read_v fx, read_v fy]
    simp only [Ieee.Datum.sum, Option.map, Ieee.Format.write]
    rw [← hb, ← hT, if_neg hT0]
  rw [this]; rfl
/-- the rest of a sum of floats -/
theorem sum_rest {x y : Nat} (hx : W x) (hy : W y) (fx : fin x) (fy : fin y) (fh : fin (addW x y)) : W (smF x y) ∧ fin (smF x y) := by
  refine ⟨(nrF_num _).1, ?_⟩
  unfold smF
  by_cases h0 : fv x + fv y = 0
  · have hz : fv (addW x y) = 0 := by
      obtain ⟨b, hb⟩ : ∃ b, b = min (-149 + (pe x : Int)) (-149 + (pe y : Int)) := ⟨_, rfl⟩
      have hx1 := fv_base hx (b := b) (by omega) (by omega)
      have hy1 := fv_base hy (b := b) (by omega) (by omega)
      have hp := pow2_pos (b + 20000).toNat
      have hT : Ieee.signed (sgf Ieee.single x) (pm x) (-149 + (pe x : Int) - b).toNat + Ieee.signed (sgf Ieee.single y) (pm y) (-149 + (pe y : Int) - b).toNat = 0 := by
        have hV : fv x + fv y = (Ieee.signed (sgf Ieee.single x) (pm x) (-149 + (pe x : Int) - b).toNat + Ieee.signed (sgf Ieee.single y) (pm y) (-149 + (pe y : Int) - b).toNat) * 2 ^ (b + 20000).toNat := by rw [Int.add_mul, ← hx1, ← hy1]
        rw [h0] at hV
        rcases Int.mul_eq_zero.1 hV.symm with k | k
        · exact k
        · omega
      have : ∃ s, addW x y = Ieee.single.word s 0 := by
        unfold addW
        refine ⟨sgf Ieee.single x && sgf Ieee.single y, ?_⟩
        have : floatBits .add .f32 x y = some (Ieee.single.nearest (sgf Ieee.single x && sgf Ieee.single y) 0 b) := by
          show Ieee.single.add x y = _
          unfold Ieee.Format.add
          rw [read_v fx, read_v fy]
          simp only [Ieee.Datum.sum, Option.map, Ieee.Format.write]
          rw [← hb, hT, if_pos rfl]; rfl
        rw [this]; rfl
      obtain ⟨s, hs⟩ := this
      rw [hs]
      cases s
      · exact fv_0
      · have h2 : fv 2147483648 = fv 0 := by rw [← fv_zp (x := 2147483648)]; rfl
        exact h2.trans fv_0
    rw [h0, hz]; decide
  · rw [add_rF hx hy fx fy h0] at fh ⊢
    refine (near_exact (rest_small h0 ?_)).1
    cases ho : ovB 0 (decide (fv x + fv y < 0)) (fv x + fv y).natAbs
    · rfl
    · exfalso
      have hst : ∀ b, stB 0 b = false := fun b => by unfold stB; simp
      have hg : rgN 0 (decide (fv x + fv y < 0)) (fv x + fv y).natAbs = 2139095040 := by unfold rgN; rw [ho, if_pos rfl, hst, if_neg (by decide)]
      unfold rF at fh
      rw [if_neg h0, hg] at fh
      unfold fin at fh; split at fh <;> omega
/-! differences -/
def subW (x y : Nat) : Nat := (floatBits .sub .f32 x y).getD 0
/-- a float that is not NaN is finite or infinite -/
theorem read_or {x : Nat} (h : ¬ nan x) : (fin x ∧ ∃ s m p, Ieee.single.read x = .number s m p) ∨ (¬ fin x ∧ ∃ s, Ieee.single.read x = .infinity s) := by
  by_cases hf : fin x
  · exact Or.inl ⟨hf, _, _, _, read_v hf⟩
  · refine Or.inr ⟨hf, _, read_inf Ieee.single (by decide) ?_⟩
    show x % 2147483648 = 2139095040
    unfold fin at hf; unfold nan at h; omega
theorem word_inf (s : Bool) : W (Ieee.single.word s Ieee.single.infRung) ∧ ¬ nan (Ieee.single.word s Ieee.single.infRung) ∧ ¬ fin (Ieee.single.word s Ieee.single.infRung) := by
  refine ⟨(word_W s (by decide)).1, (word_W s (by decide)).2, ?_⟩
  cases s <;> decide
theorem sub_ff {x y : Nat} (hx : fin x) (hy : fin y) : floatBits .sub .f32 x y = some (subW x y) ∧ W (subW x y) ∧ ¬ nan (subW x y) := by
  obtain ⟨s, m, p, h1⟩ := read_f hx
  obtain ⟨t, n, q, h2⟩ := read_f hy
  have : ∃ a b c, floatBits .sub .f32 x y = some (Ieee.single.nearest a b c) := by
    show ∃ a b c, Ieee.single.sub x y = _
    unfold Ieee.Format.sub
    rw [h1, h2]
    exact ⟨_, _, _, rfl⟩
  obtain ⟨a, b, c, h⟩ := this
  unfold subW; rw [h]
  exact ⟨rfl, nearest_W a b c⟩
theorem sub_if {x y : Nat} (nx : ¬ nan x) (hx : ¬ fin x) (hy : fin y) : floatBits .sub .f32 x y = some (subW x y) ∧ W (subW x y) ∧ ¬ nan (subW x y) ∧ ¬ fin (subW x y) := by
  rcases read_or nx with ⟨k, _⟩ | ⟨_, s, h1⟩
  · exact absurd k hx
  obtain ⟨t, n, q, h2⟩ := read_f hy
  have : floatBits .sub .f32 x y = some (Ieee.single.word s Ieee.single.infRung) := by
    show Ieee.single.sub x y = _
    unfold Ieee.Format.sub
    rw [h1, h2]
    rfl
  unfold subW; rw [this]
  exact ⟨rfl, word_inf s⟩
theorem sub_fi {x y : Nat} (hx : fin x) (ny : ¬ nan y) (hy : ¬ fin y) : floatBits .sub .f32 x y = some (subW x y) ∧ W (subW x y) ∧ ¬ nan (subW x y) ∧ ¬ fin (subW x y) := by
  rcases read_or ny with ⟨k, _⟩ | ⟨_, t, h2⟩
  · exact absurd k hy
  obtain ⟨s, m, p, h1⟩ := read_f hx
  have : floatBits .sub .f32 x y = some (Ieee.single.word (!t) Ieee.single.infRung) := by
    show Ieee.single.sub x y = _
    unfold Ieee.Format.sub
    rw [h1, h2]
    rfl
  unfold subW; rw [this]
  exact ⟨rfl, word_inf (!t)⟩
/-- the parts of a quick sum -/
def qkB (a b : Nat) : Nat := subW (addW a b) a
def qkL (a b : Nat) : Nat := subW b (qkB a b)
/-- a quick sum of finite floats: what the three operations give -/
theorem quick_ff {a b : Nat} (ha : fin a) (hb : fin b) : (floatBits .add .f32 a b = some (addW a b) ∧ floatBits .sub .f32 (addW a b) a = some (qkB a b) ∧ floatBits .sub .f32 b (qkB a b) = some (qkL a b)) ∧ (W (addW a b) ∧ W (qkB a b) ∧ W (qkL a b)) ∧ (fin (qkL a b) → fin (qkB a b)) := by
  have h1 := add_some ha hb
  unfold qkL qkB
  have h2 : floatBits .sub .f32 (addW a b) a = some (subW (addW a b) a) ∧ W (subW (addW a b) a) ∧ ¬ nan (subW (addW a b) a) := by
    by_cases hf : fin (addW a b)
    · exact sub_ff hf ha
    · have := sub_if h1.2.2 hf ha; exact ⟨this.1, this.2.1, this.2.2.1⟩
  generalize subW (addW a b) a = k at *
  by_cases hk : fin k
  · have h3 := sub_ff hb hk
    exact ⟨⟨h1.1, h2.1, h3.1⟩, ⟨h1.2.1, h2.2.1, h3.2.1⟩, fun _ => hk⟩
  · have h3 := sub_fi hb h2.2.2 hk
    exact ⟨⟨h1.1, h2.1, h3.1⟩, ⟨h1.2.1, h2.2.1, h3.2.1⟩, fun h => absurd h h3.2.2.2⟩
/-! NaN, drawn -/
theorem cut_W (x y t : Nat) : W ((Question.nanBits .f32 x y).cut t) := by
  show (t % 2 * 2147483648 + 2139095040 + 1 + t / 2 % 8388607) < 4294967296
  rcases Nat.mod_two_eq_zero_or_one t with h | h <;> rw [h] <;> omega
theorem read_nanD {x : Nat} (h : nan x) : ∃ s f, Ieee.single.read x = .nan s f := ⟨_, _, read_nan Ieee.single (by decide) h⟩
end Go.Proofs.YtflgjecpjaiecaaGreat
/- Contracts: quick sums of two floats, both sides. -/
set_option linter.unusedVariables false
set_option linter.unusedSimpArgs false
namespace Go.Proofs.YtflgjecpjaiecaaGreat
open Go.RowKit Num Flt
/-- a float operation in any case: the value may be drawn -/
theorem fop_any (op : BinOp) (hop : op = .add ∨ op = .sub ∨ op = .mul ∨ op = .quo) (T : TypeId) (x y : Nat) : ∃ (r : World → Nat) (n : Nat), (∀ w, (binOp op T (.float .f32 x) (.float .f32 y)).run Tryz.prog w = .ok (.float .f32 (r w)) (w.drewN n)) ∧ (∀ w, W (r w)) ∧ (∀ s, floatBits op .f32 x y = some s → ∀ w, r w = s) := by
  cases h : floatBits op .f32 x y with
  | none => exact ⟨fun w => (Question.nanBits .f32 x y).cut (w.tape w.drawn (.nanBits .f32 x y)), 1, fun w => run_float_nan w op hop T .f32 x y h, fun w => cut_W _ _ _, fun s hs => by cases hs⟩
  | some s => exact ⟨fun _ => s, 0, fun w => run_float_arith w op T .f32 x y s h, fun w => W_of_wf (floatBits_wf h), fun t ht w => by injection ht⟩
/-- the answers of a quick sum -/
def RetQ (a b : Nat) (w : World) (e : Ending) (w' : World) : Prop := ∃ h l, e = .returned (.agg #[.float .f32 h, .float .f32 l]) ∧ W h ∧ W l ∧ (fin a → fin b → h = addW a b ∧ l = qkL a b) ∧ Below w.heap.size w w'
def RetQ2 (a b : Nat) (w : World) (e : Ending) (w' : World) : Prop := ∃ h l k, e = .returned (.tuple #[.agg #[.float .f32 h, .float .f32 l], .bool k]) ∧ W h ∧ W l ∧ (fin a → fin b → h = addW a b ∧ l = qkL a b ∧ k = (decide (fin h) && decide (fin l))) ∧ (k = true → fin h ∧ fin l) ∧ Below w.heap.size w w'
theorem quick_ok {a b : Nat} (ha : fin a) (hb : fin b) : decide (fin (addW a b) ∧ fin (qkB a b) ∧ fin (qkL a b)) = (decide (fin (addW a b)) && decide (fin (qkL a b))) := by
  have h := (quick_ff ha hb).2.2
  rw [Bool.eq_iff_iff]
  simp only [decide_eq_true_eq, Bool.and_eq_true]
  exact ⟨fun k => ⟨k.1, k.2.2⟩, fun k => ⟨k.1, h k.2, k.2⟩⟩
set_option maxHeartbeats 4000000 in
theorem s_Quick (a b : Nat) (w : World) : Calls Tryz.prog 158 #[.float .f32 a, .float .f32 b] w (RetQ a b w) := by
  by_cases hf : fin a ∧ fin b
  · have hq := quick_ff hf.1 hf.2
    have k1 := fun w => run_float_arith (P := Tryz.prog) w .add 22 .f32 a b (addW a b) hq.1.1
    have k2 := fun w => run_float_arith (P := Tryz.prog) w .sub 22 .f32 (addW a b) a (qkB a b) hq.1.2.1
    have k3 := fun w => run_float_arith (P := Tryz.prog) w .sub 22 .f32 b (qkB a b) (qkL a b) hq.1.2.2
    have HV := Hd.mk (And.intro hq.2.1.1 hq.2.1.2.2)
    clear hq hf
    unfold RetQ
    generalize addW a b = h at *
    generalize qkB a b = g at *
    generalize qkL a b = l at *
    go_enter Tryz.func158, Tryz.ntmps158
    go_wp2_with fail
    refine bodyPost_ret (v := .agg #[.float .f32 h, .float .f32 l]) (by simp (maxDischargeDepth := 7) [results, Tryz.results158, go_sem, *]) rfl ⟨h, l, rfl, HV.out.1, HV.out.2, fun _ _ => ⟨rfl, rfl⟩, ?_⟩
    (repeat (first | exact Below.refl _ _ | assumption | refine Below.drew ?_ | refine bdn ?_ | refine ba _ ?_ | refine bs0 _ _ ?_ ?_ | refine bs1 _ _ _ ?_ ?_ | refine bs2 _ _ _ _ ?_ ?_ | refine bs3 _ _ _ _ _ ?_ ?_ | refine bt3 (by assumption) ?_))
  · obtain ⟨r1, n1, k1, HW1, -⟩ := fop_any .add (by simp) 22 a b
    have K2 := Hd.mk (fun x => fop_any .sub (by simp) 22 x a)
    have K3 := Hd.mk (fun x => fop_any .sub (by simp) 22 b x)
    have HN := Hd.mk hf
    have HW1 := Hd.mk HW1
    clear hf
    go_enter Tryz.func158, Tryz.ntmps158
    go_upto_region 2 with fail
    generalize hh : r1 _ = h
    have HH : Hd (W h) := ⟨hh ▸ HW1.out _⟩
    clear hh
    obtain ⟨r2, n2, k2, HW2, -⟩ := K2.out h
    have HW2 := Hd.mk HW2
    go_upto_region 3 with fail
    generalize hg : r2 _ = g
    clear hg
    obtain ⟨r3, n3, k3, HW3, -⟩ := K3.out g
    have HW3 := Hd.mk HW3
    go_wp2_with fail
    generalize hl : r3 _ = l
    have HL : Hd (W l) := ⟨hl ▸ HW3.out _⟩
    clear hl
    refine bodyPost_ret (v := .agg #[.float .f32 h, .float .f32 l]) (by simp (maxDischargeDepth := 7) [results, Tryz.results158, go_sem, *]) rfl ⟨h, l, rfl, HH.out, HL.out, fun k1 k2 => absurd ⟨k1, k2⟩ HN.out, ?_⟩
    (repeat (first | exact Below.refl _ _ | assumption | refine Below.drew ?_ | refine bdn ?_ | refine ba _ ?_ | refine bs0 _ _ ?_ ?_ | refine bs1 _ _ _ ?_ ?_ | refine bs2 _ _ _ _ ?_ ?_ | refine bs3 _ _ _ _ _ ?_ ?_ | refine bt3 (by assumption) ?_))
set_option maxHeartbeats 4000000 in
theorem i_quick (a b : Nat) (w : World) : Calls Tryz.prog 160 #[.float .f32 a, .float .f32 b] w (RetQ2 a b w) := by
  by_cases hf : fin a ∧ fin b
  · have hq := quick_ff hf.1 hf.2
    have k1 := fun w => run_float_arith (P := Tryz.prog) w .add 22 .f32 a b (addW a b) hq.1.1
    have k2 := fun w => run_float_arith (P := Tryz.prog) w .sub 22 .f32 (addW a b) a (qkB a b) hq.1.2.1
    have k3 := fun w => run_float_arith (P := Tryz.prog) w .sub 22 .f32 b (qkB a b) (qkL a b) hq.1.2.2
    have HV := Hd.mk hq.2.1
    have HQ := Hd.mk (quick_ok hf.1 hf.2)
    clear hq hf
    unfold RetQ2
    generalize addW a b = h at *
    generalize qkB a b = g at *
    generalize qkL a b = l at *
    go_enter Tryz.func160, Tryz.ntmps160
    go_wp2_with (go_at_call 88; (with_reducible refine (i_areFinite3 _ _ _ _ _ _ HV.out.1 HV.out.2.1 HV.out.2.2 (by go_simp) (by go_simp) (by go_simp)).mono ?_); rintro e w' ⟨rfl, rfl⟩)
    refine bodyPost_ret (v := .tuple #[.agg #[.float .f32 h, .float .f32 l], .bool (decide (fin h ∧ fin g ∧ fin l))]) (by simp (maxDischargeDepth := 7) [results, Tryz.results160, go_sem, *]) rfl ⟨h, l, _, rfl, HV.out.1, HV.out.2.2, fun _ _ => ⟨rfl, rfl, HQ.out⟩, fun k => ⟨(of_decide_eq_true k).1, (of_decide_eq_true k).2.2⟩, ?_⟩
    (repeat (first | exact Below.refl _ _ | assumption | refine Below.drew ?_ | refine bdn ?_ | refine ba _ ?_ | refine bs0 _ _ ?_ ?_ | refine bs1 _ _ _ ?_ ?_ | refine bs2 _ _ _ _ ?_ ?_ | refine bs3 _ _ _ _ _ ?_ ?_ | refine bt3 (by assumption) ?_))
  · obtain ⟨r1, n1, k1, HW1, -⟩ := fop_any .add (by simp) 22 a b
    have K2 := Hd.mk (fun x => fop_any .sub (by simp) 22 x a)
    have K3 := Hd.mk (fun x => fop_any .sub (by simp) 22 b x)
    have HN := Hd.mk hf
    have HW1 := Hd.mk HW1
    clear hf
    go_enter Tryz.func160, Tryz.ntmps160
    go_upto_region 2 with fail
    generalize hh : r1 _ = h
    have HH : Hd (W h) := ⟨hh ▸ HW1.out _⟩
    clear hh
    obtain ⟨r2, n2, k2, HW2, -⟩ := K2.out h
    have HW2 := Hd.mk HW2
    go_upto_region 3 with fail
    generalize hg : r2 _ = g
    have HG : Hd (W g) := ⟨hg ▸ HW2.out _⟩
    clear hg
    obtain ⟨r3, n3, k3, HW3, -⟩ := K3.out g
    have HW3 := Hd.mk HW3
    go_upto_region 4 with fail
    generalize hl : r3 _ = l
    have HL : Hd (W l) := ⟨hl ▸ HW3.out _⟩
    clear hl
    go_wp2_with (go_at_call 88; (with_reducible refine (i_areFinite3 _ _ _ _ _ _ HH.out HG.out HL.out (by go_simp) (by go_simp) (by go_simp)).mono ?_); rintro e w' ⟨rfl, rfl⟩)
    refine bodyPost_ret (v := .tuple #[.agg #[.float .f32 h, .float .f32 l], .bool (decide (fin h ∧ fin g ∧ fin l))]) (by simp (maxDischargeDepth := 7) [results, Tryz.results160, go_sem, *]) rfl ⟨h, l, _, rfl, HH.out, HL.out, fun k1 k2 => absurd ⟨k1, k2⟩ HN.out, fun k => ⟨(of_decide_eq_true k).1, (of_decide_eq_true k).2.2⟩, ?_⟩
    (repeat (first | exact Below.refl _ _ | assumption | refine Below.drew ?_ | refine bdn ?_ | refine ba _ ?_ | refine bs0 _ _ ?_ ?_ | refine bs1 _ _ _ ?_ ?_ | refine bs2 _ _ _ _ ?_ ?_ | refine bs3 _ _ _ _ _ ?_ ?_ | refine bt3 (by assumption) ?_))
end Go.Proofs.YtflgjecpjaiecaaGreat
