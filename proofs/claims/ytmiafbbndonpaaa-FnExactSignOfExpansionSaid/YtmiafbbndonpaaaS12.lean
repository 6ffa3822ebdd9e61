/- Contracts: sums of lists of floats, of the reference. -/
import Derived.Test.YtmiafbbndonpaaaS11
import Derived.Deep.RegionLaw
set_option linter.unusedVariables false
set_option linter.unusedSimpArgs false
namespace Go.Proofs.Ytmiafbbndonpaaa
open Go.RowKit Num Flt
/-- the cells of a list of floats; a slice that reads so -/
def cF (xs : List Nat) : List Value := xs.map fun x => .float .f32 x
def RF (w : World) (A : Option Addr) (xs : List Nat) : Prop := Reads w w.heap.size 1 A xs.length (cF xs)
theorem cF_at (xs : List Nat) (k : Nat) (h : k < xs.length) : (cF xs)[k]? = some (.float .f32 (xs.getD k 0)) := by simp [cF, List.getD_eq_getElem?_getD, List.getElem?_eq_getElem h]
theorem RF.at_ {w : World} {A : Option Addr} {xs : List Nat} (h : RF w A xs) {k : Nat} (hk : k < xs.length) : ∃ ad, A = some ad ∧ w.cell? (ad.add k) = some (.float .f32 (xs.getD k 0)) := by
  obtain ⟨ad, u, e, _, hx, hc⟩ := Reads.at_ h hk
  rw [cF_at xs k hk] at hx; cases hx
  exact ⟨ad, e, hc⟩
theorem RF.below {w w' : World} {A : Option Addr} {xs : List Nat} (h : RF w A xs) (hb : Below w.heap.size w w') : RF w' A xs := (Reads.below h hb).more hb.size
/-- the sum of floats in the scale -/
def sumv : List Nat → Int
  | [] => 0
  | x :: xs => fv x + sumv xs
theorem sumv_snoc (xs : List Nat) (x : Nat) : sumv (xs ++ [x]) = sumv xs + fv x := by
  induction xs with
  | nil => simp [sumv]
  | cons y ys ih => simp [sumv, ih]; omega
theorem sumv_take (xs : List Nat) (k : Nat) (h : k < xs.length) : sumv (xs.take (k + 1)) = sumv (xs.take k) + fv (xs.getD k 0) := by
  rw [List.take_succ_eq_append_getElem h, sumv_snoc, List.getD_eq_getElem?_getD, List.getElem?_eq_getElem h]; rfl
/-- a bound on the value of a float -/
def FB : Int := 16777216 * 2 ^ 2000000
theorem fv_lt {x : Nat} (h : fin x) : -FB < fv x ∧ fv x < FB := by
  have he := pe_le h
  have hm := mv_lt x
  have h1 : (2 : Int) ^ ((-149 + (pe x : Int)) + SC).toNat ≤ 2 ^ 2000000 := pow_le (by decide) (by have : (SC : Int) = 20000 := rfl; omega)
  have hp := pow2_pos ((-149 + (pe x : Int)) + SC).toNat
  unfold FB fv dv
  generalize (2 : Int) ^ 2000000 = T2 at *
  generalize (2 : Int) ^ ((-149 + (pe x : Int)) + SC).toNat = p at *
  have h4 : mv x * p ≤ 16777215 * p := Int.mul_le_mul_of_nonneg_right (by omega) (by omega)
  have h5 : -16777215 * p ≤ mv x * p := Int.mul_le_mul_of_nonneg_right (by omega) (by omega)
  omega
theorem FB_pos : 0 < FB := by have := fv_lt (x := 0) (by decide); omega
theorem sumv_lt (xs : List Nat) (h : ∀ x ∈ xs, fin x) : -(FB * (xs.length + 1)) < sumv xs ∧ sumv xs < FB * (xs.length + 1) := by
  have hf := FB_pos
  induction xs with
  | nil => simp [sumv]; omega
  | cons x xs ih =>
    have h1 := ih (fun y hy => h y (List.mem_cons_of_mem _ hy))
    have h2 := fv_lt (h x (List.mem_cons_self ..))
    have e : FB * (((x :: xs).length : Int) + 1) = FB * ((xs.length : Int) + 1) + FB := by simp [Int.mul_add]
    rw [e]
    show _ < fv x + sumv xs ∧ fv x + sumv xs < _
    omega
theorem FB_top : FB * 1024 ≤ TOP := by
  have h2 : TOP = 16777216 * 2 ^ (24 * 99999) := by unfold TOP; rw [← p24]; exact (Int.pow_succ _ _).trans (Int.mul_comm _ _)
  have h3 : (2 : Int) ^ (2000000 + 10) ≤ 2 ^ (24 * 99999) := pow_le (by decide) (by decide)
  rw [Int.pow_add] at h3
  rw [h2]; unfold FB
  have h4 : (2 : Int) ^ 10 = 1024 := rfl
  rw [h4] at h3
  generalize (2 : Int) ^ (24 * 99999) = T at *
  generalize (2 : Int) ^ 2000000 = T2 at *
  omega
theorem sumv_bd (xs : List Nat) (h : ∀ x ∈ xs, fin x) (hl : xs.length ≤ 1000) : Bd (sumv xs) := by
  have h1 := sumv_lt xs h
  have h2 := FB_top
  have h3 : FB * (xs.length + 1) ≤ FB * 1024 := Int.mul_le_mul_of_nonneg_left (by omega) (Int.le_of_lt FB_pos)
  unfold Bd
  generalize FB * (xs.length + 1) = p at *
  generalize FB * 1024 = q at *
  generalize TOP = T at *
  omega

def Wd (w : World) : World := w.alloc (Obj.cells #[Value.int .i64 0, Value.slice none 0 0, Value.int .i64 0] 35)
set_option maxHeartbeats 4000000 in
theorem s_All (A : Option Addr) (n c : Nat) (xs : List Nat) (w : World) (hn : n = xs.length) (hl : n ≤ 1000) (hR : RF w A xs) (hx : ∀ x ∈ xs, W x ∧ fin x) :
    Calls Try.prog 63 #[.slice A n c] w (RetD (sumv xs) 149 w) := by
  have HR : Hd (RF w A xs) := ⟨hR⟩
  have HN : Hd (n = xs.length ∧ n ≤ 1000 ∧ ∀ x ∈ xs, W x ∧ fin x) := ⟨⟨hn, hl, hx⟩⟩
  have hnI : (n : Int) ≤ 1000 := by omega
  have HS : Hd (∀ k, Bd (sumv (xs.take k))) := ⟨fun k => sumv_bd _ (fun x hx' => (hx x (List.mem_of_mem_take hx')).2) (by simp; omega)⟩
  clear hn hl hR hx
  go_enter Try.func63, Try.ntmps63
  go_wp2
  go_loopw [4] (fun i wr => ∃ (k : Nat) (s : Int) (A1 : Option Addr) (n1 c1 : Nat) (e : Int), i = .int .i64 k ∧ (k : Int) ≤ n ∧ Hd (DyO wr (w.heap.size + 1 + 1) s A1 n1 c1 e (sumv (xs.take k)) 149) ∧ Hd (Blk wr (w.heap.size + 1) 35 #[.int .i64 s, .slice A1 n1 c1, .int .i64 e]) ∧ Hd (Below (Wd w).heap.size (Wd w) wr))
    (fun i _ => n - (intOf i).toNat)
  case atStart =>
    refine ⟨0, 0, none, 0, 0, 0, rfl, by omega, ⟨⟨0, ⟨[], rfl, by omega, ⟨Canon.nil _, .inl ⟨rfl, rfl⟩, rfl⟩, World.ownsRow_nil _ _ _ _⟩, ⟨by simp [sumv, dv], by omega, by unfold SC; omega, by omega, fun _ => rfl, fun h => absurd rfl h, by have := HS.out 0; simpa using this⟩⟩⟩, ⟨?_⟩, ⟨ba _ (Below.refl _ _)⟩⟩
    have := Blk.new (Wd w) 35 #[.int .i64 0, .slice none 0 0, .int .i64 0]
    simpa [Wd] using this
  case round =>
    obtain ⟨k, s, A1, n1, c1, e, rfl, hk, HD0, HK, HB⟩ := hrel
    have c0 : wr.cell? ⟨w.heap.size + 1, 0, none⟩ = some (.int .i64 s) := HK.out.cell 0
    have c1' : wr.cell? ⟨w.heap.size + 1, 1, none⟩ = some (.slice A1 n1 c1) := HK.out.cell 1
    have c2 : wr.cell? ⟨w.heap.size + 1, 2, none⟩ = some (.int .i64 e) := HK.out.cell 2
    have HB2 : Hd (Below w.heap.size w wr) := ⟨bt3 HB.out (ba _ (Below.refl _ _))⟩
    by_cases h1 : k < n
    · obtain ⟨ad, hA, hcx⟩ := HR.out.at_ (k := k) (by have := HN.out; omega)
      subst hA
      have HX : Hd (W (xs.getD k 0) ∧ fin (xs.getD k 0)) := ⟨HN.out.2.2 _ (by have h := HN.out.1; rw [List.getD_eq_getElem?_getD, List.getElem?_eq_getElem (by omega)]; exact List.getElem_mem _)⟩
      have HSU : Hd (sumv (xs.take (k + 1)) = sumv (xs.take k) + fv (xs.getD k 0)) := ⟨sumv_take xs k (by have := HN.out; omega)⟩
      have HBD : Hd (Bd (sumv (xs.take k) + fv (xs.getD k 0))) := ⟨by rw [← HSU.out]; exact HS.out (k + 1)⟩
      replace hcx := (HB2.out.cell (World.block_lt_of_cell? w _ hcx)).trans hcx
      generalize hex : xs.getD k 0 = x at *
      clear hex
      go_wp2_with fail
      go_region_with (first | (go_at_call 106; (with_reducible refine (s_DOf x _ HX.out.1 HX.out.2).mono ?_); rintro e' w3 ⟨s3, A3, n3, c3, x3, rfl, hW, hq⟩; have hq' : Below wr.heap.size wr w3 := Below.trans (Below.drew (Below.refl _ _)) hq; have HW3 : Hd (DyO w3 wr.heap.size s3 A3 n3 c3 x3 (fv x) 149) := ⟨hW⟩; have HD1 : Hd (DyO w3 (w.heap.size + 1 + 1) s A1 n1 c1 e (sumv (xs.take k)) 149) := ⟨HD0.out.keep hq'⟩; have HK1 : Hd (Blk w3 (w.heap.size + 1) 35 #[.int .i64 s, .slice A1 n1 c1, .int .i64 e]) := ⟨HK.out.below hq' HK.out.lt⟩; have HB3 : Hd (Below (Wd w).heap.size (Wd w) w3) := ⟨bt3 hq' HB.out⟩; have d0 := HK1.out.cell 0; have d1 := HK1.out.cell 1; have d2 := HK1.out.cell 2; clear hW hq hq') | (go_at_call 130; (with_reducible refine (s_DAdd s s3 e x3 (sumv (xs.take k)) (fv x) A1 A3 n1 n3 c1 c3 149 _ HD1.out.dp HW3.out.dp HBD.out).mono ?_); rintro e' w4 ⟨s4, A4, n4, c4, x4, rfl, hD, hq2⟩; have HD4 : Hd (DyO w4 (w.heap.size + 1 + 1) s4 A4 n4 c4 x4 (sumv (xs.take k) + fv x) 149) := ⟨hD.mono HK1.out.lt⟩; have HK4 : Hd (Blk w4 (w.heap.size + 1) 35 #[.int .i64 s, .slice A1 n1 c1, .int .i64 e]) := ⟨HK1.out.below hq2 HK1.out.lt⟩; have HB4 : Hd (Below (Wd w).heap.size (Wd w) w4) := ⟨bt3 hq2 HB3.out⟩; have e0 := HK4.out.cell 0; have e1 := HK4.out.cell 1; have e2 := HK4.out.cell 2; have f0 := HK4.out.frozen 0; have f1 := HK4.out.frozen 1; have f2 := HK4.out.frozen 2; clear hD hq2))
      all_goals
        go_wp2_with fail
        go_roundw
        case rel =>
          refine ⟨k + 1, s4, A4, n4, c4, x4, by go_num, by omega, ⟨?_⟩, ⟨?_⟩, ⟨?_⟩⟩
          · rw [HSU.out]
            exact (((HD4.out.set _ _ (Nat.lt_succ_self _) _).set _ _ (Nat.lt_succ_self _) _).set _ _ (Nat.lt_succ_self _) _)
          · have := ((HK4.out.set_ 0 (.int .i64 s4)).set_ 1 (.slice A4 n4 c4)).set_ 2 (.int .i64 x4)
            simpa using this
          · exact ((HB4.out.setCell (by simp [Wd]) _).setCell (by simp [Wd]) _).setCell (by simp [Wd]) _
        case measure => simp [intOf]; omega
    · have HE : Hd (sumv (xs.take k) = sumv xs) := ⟨by rw [List.take_of_length_le (by have := HN.out; omega)]⟩
      have hb := HB.out
      unfold Wd at hb
      obtain ⟨hc, hf, hz, hy⟩ := bcell hb
      have hs := hb.size
      simp at hs
      have h0' : w.heap.size < wr.heap.size := (by omega)
      clear hs
      go_wp2_with fail
      refine bodyPost_ret (v := .agg #[.int .i64 s, .slice A1 n1 c1, .int .i64 e]) (by simp (maxDischargeDepth := 7) [results, Try.results63, go_sem, *]) rfl ⟨s, A1, n1, c1, e, rfl, ?_, ?_⟩
      · rw [← HE.out]
        exact (((HD0.out.set _ _ (by omega) _).set _ _ (by omega) _).set _ _ (by omega) _).mono (by omega)
      · (repeat (first | exact Below.refl _ _ | assumption | refine Below.drew ?_ | refine below_drewN ?_ _ | refine ba _ ?_ | refine bs0 _ _ ?_ ?_ | refine bs1 _ _ _ ?_ ?_ | refine bs2 _ _ _ _ ?_ ?_ | refine bt3 (by assumption) ?_))
end Go.Proofs.Ytmiafbbndonpaaa
