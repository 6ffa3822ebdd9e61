/- Contracts: sums of numbers of the program. -/
import Derived.Test.YtmiafbbndonpaaaP14
set_option linter.unusedVariables false
set_option linter.unusedSimpArgs false
namespace Go.Proofs.Ytmiafbbndonpaaa
open Go.RowKit Num Flt
theorem NuP.of {w : World} {g : Nat} {m e V : Int} {l : Nat} (h1 : Big w g m) (h2 : NuF m e V l) : NuP w g e V l := ⟨m, h1, h2⟩
theorem IntB.drew {w : World} {g : Nat} (h : IntB w g) : IntB w.drew g := h
/-- the world of a function of two numbers with a result of its own -/
abbrev N3 (w : World) (g : Nat) (e : Int) (g' : Nat) (e' : Int) : World := ((w.alloc (Obj.cells #[.pointer (some ⟨g, 0, none⟩), .int .i64 e] 87)).alloc (Obj.cells #[.pointer (some ⟨g', 0, none⟩), .int .i64 e'] 87)).alloc (Obj.cells #[.pointer none, .int .i64 0] 87)
theorem N3.bel (w : World) (g : Nat) (e : Int) (g' : Nat) (e' : Int) : Below w.heap.size w (N3 w g e g' e') := ba _ (ba _ (ba _ (Below.refl _ _)))
theorem N3.size (w : World) (g : Nat) (e : Int) (g' : Nat) (e' : Int) : (N3 w g e g' e').heap.size = w.heap.size + 1 + 1 + 1 := by simp [N3]
theorem N3.b0 (w : World) (g : Nat) (e : Int) (g' : Nat) (e' : Int) : Blk (N3 w g e g' e') w.heap.size 87 #[.pointer (some ⟨g, 0, none⟩), .int .i64 e] := ((Blk.new _ _ _).alloc _).alloc _
theorem N3.b1 (w : World) (g : Nat) (e : Int) (g' : Nat) (e' : Int) : Blk (N3 w g e g' e') (w.heap.size + 1) 87 #[.pointer (some ⟨g', 0, none⟩), .int .i64 e'] := by
  have := (Blk.new (w.alloc (Obj.cells #[.pointer (some ⟨g, 0, none⟩), .int .i64 e] 87)) 87 #[.pointer (some ⟨g', 0, none⟩), .int .i64 e']).alloc (Obj.cells #[.pointer none, .int .i64 0] 87)
  simpa [N3] using this
theorem N3.b2 (w : World) (g : Nat) (e : Int) (g' : Nat) (e' : Int) : Blk (N3 w g e g' e') (w.heap.size + 1 + 1) 87 #[.pointer none, .int .i64 0] := by
  have := Blk.new ((w.alloc (Obj.cells #[.pointer (some ⟨g, 0, none⟩), .int .i64 e] 87)).alloc (Obj.cells #[.pointer (some ⟨g', 0, none⟩), .int .i64 e'] 87)) 87 #[.pointer none, .int .i64 0]
  simpa [N3] using this
/-- what the middle of a function of two numbers holds -/
structure N3H (w wb : World) (g : Nat) (e : Int) (g' : Nat) (e' : Int) : Prop where
  bel : Below w.heap.size w wb
  siz : w.heap.size + 1 + 1 + 1 ≤ wb.heap.size
  b0 : Blk wb w.heap.size 87 #[.pointer (some ⟨g, 0, none⟩), .int .i64 e]
  b1 : Blk wb (w.heap.size + 1) 87 #[.pointer (some ⟨g', 0, none⟩), .int .i64 e']
  b2 : Blk wb (w.heap.size + 1 + 1) 87 #[.pointer none, .int .i64 0]
theorem N3H.start (w : World) (g : Nat) (e : Int) (g' : Nat) (e' : Int) : N3H w (N3 w g e g' e') g e g' e' := ⟨N3.bel .., by rw [N3.size]; exact Nat.le_refl _, N3.b0 .., N3.b1 .., N3.b2 ..⟩
theorem N3H.below {w wb w' : World} {g : Nat} {e : Int} {g' : Nat} {e' : Int} (h : N3H w wb g e g' e') (hb : Below wb.heap.size wb w') : N3H w w' g e g' e' :=
  ⟨bt3 hb h.bel, Nat.le_trans h.siz hb.size, h.b0.below hb h.b0.lt, h.b1.below hb h.b1.lt, h.b2.below hb h.b2.lt⟩
set_option maxHeartbeats 4000000 in
theorem n_Add0 (g g' : Nat) (e e' V U : Int) (l : Nat) (w : World) (hA : NuP w g e V l) (hB : NuP w g' e' U l) (hv : V = 0) :
    Calls Try.prog 109 #[.agg #[.pointer (some ⟨g, 0, none⟩), .int .i64 e], .agg #[.pointer (some ⟨g', 0, none⟩), .int .i64 e']] w (RetN (V + U) l w) := by
  subst hv
  have HH : Hd (N3H w (N3 w g e g' e') g e g' e') := ⟨N3H.start ..⟩
  have HA : Hd (NuP (N3 w g e g' e') g e 0 l) := ⟨hA.below (N3.bel ..)⟩
  have HB : Hd (NuP (N3 w g e g' e') g' e' U l) := ⟨hB.below (N3.bel ..)⟩
  have HV : Hd (0 + U = U) := ⟨by omega⟩
  clear hA hB
  rw [HV.out]
  go_enter Try.func109, Try.ntmps109
  go_wp2_with (go_at_call 66; (with_reducible refine (n_Sign g e 0 l _ HA.out).mono ?_); rintro e1 w1 ⟨rfl, hb⟩; replace HH : Hd (N3H w w1 g e g' e') := ⟨HH.out.below hb⟩; replace HB : Hd (NuP w1 g' e' U l) := ⟨HB.out.below hb⟩; have c0 := HH.out.b0.cell 0; have c1 := HH.out.b0.cell 1; have d0 := HH.out.b1.cell 0; have d1 := HH.out.b1.cell 1; have r0 := HH.out.b2.cell 0; have r1 := HH.out.b2.cell 1; have f0 := HH.out.b2.frozen 0; have f1 := HH.out.b2.frozen 1; clear hb)
  have hs1 := HH.out.siz
  have n1 : ¬ (w.heap.size + 1 + 1 = w.heap.size + 1) := by omega
  refine bodyPost_ret (v := .agg #[.pointer (some ⟨g', 0, none⟩), .int .i64 e']) (by simp (maxDischargeDepth := 7) [results, Try.results109, go_sem, *]) rfl ⟨g', e', rfl, ?_, ?_⟩
  · exact HB.out.set2 HH.out.b2 (by decide) (by decide) _ _
  · exact (HH.out.bel.setCell (by simp; omega) _).setCell (by simp; omega) _
set_option maxHeartbeats 4000000 in
theorem n_Add1 (g g' : Nat) (e e' V U : Int) (l : Nat) (w : World) (hA : NuP w g e V l) (hB : NuP w g' e' U l) (hv : V ≠ 0) (hu : U = 0) :
    Calls Try.prog 109 #[.agg #[.pointer (some ⟨g, 0, none⟩), .int .i64 e], .agg #[.pointer (some ⟨g', 0, none⟩), .int .i64 e']] w (RetN (V + U) l w) := by
  subst hu
  have HH : Hd (N3H w (N3 w g e g' e') g e g' e') := ⟨N3H.start ..⟩
  have HA : Hd (NuP (N3 w g e g' e') g e V l) := ⟨hA.below (N3.bel ..)⟩
  have HB : Hd (NuP (N3 w g e g' e') g' e' 0 l) := ⟨hB.below (N3.bel ..)⟩
  have HV : Hd (V + 0 = V) := ⟨by omega⟩
  have hs : (V.sign == 0) = false := by simpa [Int.sign_eq_zero_iff_zero] using hv
  clear hA hB hv
  rw [HV.out]
  go_enter Try.func109, Try.ntmps109
  go_wp2_with (first | (go_at_call 66; (with_reducible refine (n_Sign g e V l _ HA.out).mono ?_); rintro e1 w1 ⟨rfl, hb⟩; replace HH : Hd (N3H w w1 g e g' e') := ⟨HH.out.below hb⟩; replace HB : Hd (NuP w1 g' e' 0 l) := ⟨HB.out.below hb⟩; replace HA : Hd (NuP w1 g e V l) := ⟨HA.out.below hb⟩; have c0 := HH.out.b0.cell 0; have c1 := HH.out.b0.cell 1; have d0 := HH.out.b1.cell 0; have d1 := HH.out.b1.cell 1; clear hb) | (go_at_call 66; (with_reducible refine (n_Sign g' e' 0 l _ HB.out).mono ?_); rintro e2 w2 ⟨rfl, hb⟩; replace HH : Hd (N3H w w2 g e g' e') := ⟨HH.out.below hb⟩; replace HA : Hd (NuP w2 g e V l) := ⟨HA.out.below hb⟩; have c0 := HH.out.b0.cell 0; have c1 := HH.out.b0.cell 1; have r0 := HH.out.b2.cell 0; have r1 := HH.out.b2.cell 1; have f0 := HH.out.b2.frozen 0; have f1 := HH.out.b2.frozen 1; clear hb))
  have hs1 := HH.out.siz
  have n1 : ¬ (w.heap.size + 1 + 1 = w.heap.size) := by omega
  refine bodyPost_ret (v := .agg #[.pointer (some ⟨g, 0, none⟩), .int .i64 e]) (by simp (maxDischargeDepth := 7) [results, Try.results109, go_sem, *]) rfl ⟨g, e, rfl, ?_, ?_⟩
  · exact HA.out.set2 HH.out.b2 (by decide) (by decide) _ _
  · exact (HH.out.bel.setCell (by simp; omega) _).setCell (by simp; omega) _
set_option maxHeartbeats 4000000 in
theorem n_AddA (g g' : Nat) (m m' e e' V U : Int) (l : Nat) (w : World) (hA : Big w g m) (fA : NuF m e V l) (hB : Big w g' m') (fB : NuF m' e' U l) (hv : V ≠ 0) (hu : U ≠ 0) (ka kb : Nat) (he : e = e + ka) (he' : e' = e + kb) (hle : e ≤ e') (hbd : Bd (V + U)) :
    Calls Try.prog 109 #[.agg #[.pointer (some ⟨g, 0, none⟩), .int .i64 e], .agg #[.pointer (some ⟨g', 0, none⟩), .int .i64 e']] w (RetN (V + U) l w) := by
  have hsc : (SC : Int) = 20000 := rfl
  have h0 : -20000 ≤ e := by have := fA.lo; have := fA.lsc; have := fB.lo; have := fB.lsc; omega
  have he1 : e ≤ 2400000 := fA.hi
  have he2 : e' ≤ 2400000 := fB.hi
  have hka : (ka : Int) ≤ 2420000 := by omega
  have hkb : (kb : Int) ≤ 2420000 := by omega
  have eV : V = dv (m * 2 ^ ka) e := by rw [fA.val, dv_shift _ _ _ (by omega), ← he]
  have eU : U = dv (m' * 2 ^ kb) e := by rw [fB.val, dv_shift _ _ _ (by omega), ← he']
  have eS : V + U = dv (m * 2 ^ ka + m' * 2 ^ kb) e := by rw [dv_add, ← eV, ← eU]
  have HBD : Hd (Bd (m * 2 ^ ka) ∧ Bd (m' * 2 ^ kb) ∧ Bd (m * 2 ^ ka + m' * 2 ^ kb) ∧ -20000 ≤ e ∧ e ≤ 2400000 ∧ e' ≤ 2400000 ∧ e = e + ka ∧ e' = e + kb) := ⟨⟨dv_bd (e := e) (by rw [← eV]; exact fA.bd), dv_bd (e := e) (by rw [← eU]; exact fB.bd), dv_bd (e := e) (by rw [← eS]; exact hbd), h0, he1, he2, he, he'⟩⟩
  have HNF : Hd (NuF (m * 2 ^ ka + m' * 2 ^ kb) e (V + U) l) := ⟨⟨eS, by have := fA.lo; have := fB.lo; omega, fA.lsc, by omega, hbd⟩⟩
  have HH : Hd (N3H w (N3 w g e g' e') g e g' e') := ⟨N3H.start ..⟩
  have HA : Hd (Big (N3 w g e g' e') g m) := ⟨hA.below (N3.bel ..)⟩
  have HB : Hd (Big (N3 w g e g' e') g' m') := ⟨hB.below (N3.bel ..)⟩
  have FA : Hd (NuF m e V l) := ⟨fA⟩
  have FB : Hd (NuF m' e' U l) := ⟨fB⟩
  have hs : (V.sign == 0) = false := by simpa [Int.sign_eq_zero_iff_zero] using hv
  have hs' : (U.sign == 0) = false := by simpa [Int.sign_eq_zero_iff_zero] using hu
  clear hA hB hv hu fA fB eV eU eS h0 hbd he he'
  go_enter Try.func109, Try.ntmps109
  go_wp2_with (first | (go_at_call 66; (with_reducible refine (n_Sign g e V l _ (NuP.of HA.out FA.out)).mono ?_); rintro e1 w1 ⟨rfl, hb⟩; replace HH : Hd (N3H w w1 g e g' e') := ⟨HH.out.below hb⟩; replace HB : Hd (Big w1 g' m') := ⟨HB.out.below hb⟩; replace HA : Hd (Big w1 g m) := ⟨HA.out.below hb⟩; have c0 := HH.out.b0.cell 0; have c1 := HH.out.b0.cell 1; have d0 := HH.out.b1.cell 0; have d1 := HH.out.b1.cell 1; clear hb) | (go_at_call 66; (with_reducible refine (n_Sign g' e' U l _ (NuP.of HB.out FB.out)).mono ?_); rintro e2 wb ⟨rfl, hb⟩; replace HH : Hd (N3H w wb g e g' e') := ⟨HH.out.below hb⟩; replace HA : Hd (Big wb g m) := ⟨HA.out.below hb⟩; replace HB : Hd (Big wb g' m') := ⟨HB.out.below hb⟩; clear c0 c1 d0 d1; have c0 := HH.out.b0.cell 0; have c1 := HH.out.b0.cell 1; have d0 := HH.out.b1.cell 0; have d1 := HH.out.b1.cell 1; clear hb))
  have hs1 := HH.out.siz
  have n1 : ¬ (w.heap.size + 1 + 1 = w.heap.size) := by omega
  have n2 : ¬ (w.heap.size + 1 + 1 = w.heap.size + 1) := by omega
  have ne0 := World.new_ne wb ⟨w.heap.size, 0, none⟩ c0
  have ne1 := World.new_ne wb ⟨w.heap.size + 1, 0, none⟩ d0
  go_region_held3 (fun w' => w'.cell? ⟨w.heap.size, 0, none⟩ = some (.pointer (some ⟨g, 0, none⟩)) ∧ w'.cell? ⟨w.heap.size, 1, none⟩ = some (.int .i64 e) ∧ w'.cell? ⟨w.heap.size + 1, 0, none⟩ = some (.pointer (some ⟨g', 0, none⟩)) ∧ w'.cell? ⟨w.heap.size + 1, 1, none⟩ = some (.int .i64 e')) ((first | assumption | (exact keep4 hq ⟨c0, c1, d0, d1⟩) | go_keep | (refine ⟨?_, ?_, ?_, ?_⟩ <;> go_simp) | (constructor <;> go_simp)))
    (first | (go_at_call 122; (with_reducible refine (n_At g m e e ka _ (HA.out.below (by (repeat (first | exact Below.refl _ _ | assumption | refine Below.drew ?_ | refine bdn ?_ | refine ba _ ?_ | refine bs0 _ _ ?_ ?_ | refine bs1 _ _ _ ?_ ?_ | refine bs2 _ _ _ _ ?_ ?_ | refine bs3 _ _ _ _ _ ?_ ?_ | refine bt3 (by assumption) ?_)))) HBD.out.2.2.2.2.2.2.1 HBD.out.2.2.2.1 HBD.out.2.2.2.2.1 HBD.out.1).mono ?_); rintro e3 w3 ⟨ga, rfl, hga, hB3, hba⟩; replace hq : Below wb.heap.size wb w3 := bt3 hba (by (repeat (first | exact Below.refl _ _ | assumption | refine Below.drew ?_ | refine bdn ?_ | refine ba _ ?_ | refine bs0 _ _ ?_ ?_ | refine bs1 _ _ _ ?_ ?_ | refine bs2 _ _ _ _ ?_ ?_ | refine bs3 _ _ _ _ _ ?_ ?_ | refine bt3 (by assumption) ?_))); (try replace HBb : Hd (Big w3 gb (m' * 2 ^ kb)) := ⟨HBb.out.below (bt3 hba (by (repeat (first | exact Below.refl _ _ | assumption | refine Below.drew ?_ | refine bdn ?_ | refine ba _ ?_ | refine bs0 _ _ ?_ ?_ | refine bs1 _ _ _ ?_ ?_ | refine bs2 _ _ _ _ ?_ ?_ | refine bs3 _ _ _ _ _ ?_ ?_ | refine bt3 (by assumption) ?_))))⟩); have HBa : Hd (Big w3 ga (m * 2 ^ ka)) := ⟨hB3⟩; have lta := hB3.lt; clear hB3) | (go_at_call 122; (with_reducible refine (n_At g' m' e' e kb _ (HB.out.below (by (repeat (first | exact Below.refl _ _ | assumption | refine Below.drew ?_ | refine bdn ?_ | refine ba _ ?_ | refine bs0 _ _ ?_ ?_ | refine bs1 _ _ _ ?_ ?_ | refine bs2 _ _ _ _ ?_ ?_ | refine bs3 _ _ _ _ _ ?_ ?_ | refine bt3 (by assumption) ?_)))) HBD.out.2.2.2.2.2.2.2 HBD.out.2.2.2.1 HBD.out.2.2.2.2.2.1 HBD.out.2.1).mono ?_); rintro e4 w4 ⟨gb, rfl, hgb, hB4, hbb⟩; replace hq : Below wb.heap.size wb w4 := bt3 hbb (by (repeat (first | exact Below.refl _ _ | assumption | refine Below.drew ?_ | refine bdn ?_ | refine ba _ ?_ | refine bs0 _ _ ?_ ?_ | refine bs1 _ _ _ ?_ ?_ | refine bs2 _ _ _ _ ?_ ?_ | refine bs3 _ _ _ _ _ ?_ ?_ | refine bt3 (by assumption) ?_))); (try replace HBa : Hd (Big w4 ga (m * 2 ^ ka)) := ⟨HBa.out.below (bt3 hbb (by (repeat (first | exact Below.refl _ _ | assumption | refine Below.drew ?_ | refine bdn ?_ | refine ba _ ?_ | refine bs0 _ _ ?_ ?_ | refine bs1 _ _ _ ?_ ?_ | refine bs2 _ _ _ _ ?_ ?_ | refine bs3 _ _ _ _ _ ?_ ?_ | refine bt3 (by assumption) ?_))))⟩); have HBb : Hd (Big w4 gb (m' * 2 ^ kb)) := ⟨hB4⟩; have ltb := hB4.lt; clear hB4) | (go_at_call 167; (with_reducible refine (m_AddZ _ ga gb (m * 2 ^ ka) (m' * 2 ^ kb) _ (by first | exact IntB.new _ | exact (IntB.new _).drew | exact (IntB.new _).below hbb | exact (IntB.new _).below hba | exact (IntB.new _).drew.below hbb | exact (IntB.new _).drew.below hba | exact ((IntB.new _).below hba).below hbb | exact ((IntB.new _).below hbb).below hba | exact ((IntB.new _).drew.below hba).below hbb | exact ((IntB.new _).drew.below hbb).below hba) (HBa.out.below (by (repeat (first | exact Below.refl _ _ | assumption | refine Below.drew ?_ | refine bdn ?_ | refine ba _ ?_ | refine bs0 _ _ ?_ ?_ | refine bs1 _ _ _ ?_ ?_ | refine bs2 _ _ _ _ ?_ ?_ | refine bs3 _ _ _ _ _ ?_ ?_ | refine bt3 (by assumption) ?_)))) (HBb.out.below (by (repeat (first | exact Below.refl _ _ | assumption | refine Below.drew ?_ | refine bdn ?_ | refine ba _ ?_ | refine bs0 _ _ ?_ ?_ | refine bs1 _ _ _ ?_ ?_ | refine bs2 _ _ _ _ ?_ ?_ | refine bs3 _ _ _ _ _ ?_ ?_ | refine bt3 (by assumption) ?_)))) (by have h1 := hga; have h2 := hgb; have h3 := hba.size; have h4 := hbb.size; (try simp at h1); (try simp at h2); (try simp at h3); (try simp at h4); omega) HBD.out.2.2.1).mono ?_); rintro e5 w5 ⟨rfl, hB5, hg5⟩; have hq0 : Below wb.heap.size wb w5 := Below.grown (by (repeat (first | exact Below.refl _ _ | assumption | refine Below.drew ?_ | refine bdn ?_ | refine ba _ ?_ | refine bs0 _ _ ?_ ?_ | refine bs1 _ _ _ ?_ ?_ | refine bs2 _ _ _ _ ?_ ?_ | refine bs3 _ _ _ _ _ ?_ ?_ | refine bt3 (by assumption) ?_))) hg5 (by first | exact hq.size | exact le_alloc _ hq.size) (fun i hi => by cases hi; first | exact Nat.le_refl _ | exact hq.size | (have h3 := hba.size; have h4 := hbb.size; (try simp at h3); (try simp at h4); have := hq.size; omega)); replace hq := hq0; have HR : Hd (Big w5 _ (m * 2 ^ ka + m' * 2 ^ kb)) := ⟨hB5⟩; have HK := Hd.mk (HH.out.below hq0); have r0 := HK.out.b2.cell 0; have r1 := HK.out.b2.cell 1; have f0 := HK.out.b2.frozen 0; have f1 := HK.out.b2.frozen 1; clear hB5 hg5 hq0))
  all_goals
    go_wp2_with fail
    first
    | (refine bodyPost_ret (v := .agg #[.pointer (some ⟨wb.heap.size, 0, none⟩), .int .i64 e]) (by simp (maxDischargeDepth := 7) [results, Try.results109, go_sem, *]) rfl ⟨_, e, rfl, (NuP.of HR.out HNF.out).set2 HK.out.b2 (by decide) (by decide) _ _, ?_⟩
       exact ((bt3 hq HH.out.bel).setCell (by simp; omega) _).setCell (by simp; omega) _)
    | (refine bodyPost_ret (v := .agg #[.pointer (some ⟨w3.heap.size, 0, none⟩), .int .i64 e]) (by simp (maxDischargeDepth := 7) [results, Try.results109, go_sem, *]) rfl ⟨_, e, rfl, (NuP.of HR.out HNF.out).set2 HK.out.b2 (by decide) (by decide) _ _, ?_⟩
       exact ((bt3 hq HH.out.bel).setCell (by simp; omega) _).setCell (by simp; omega) _)
    | (refine bodyPost_ret (v := .agg #[.pointer (some ⟨w4.heap.size, 0, none⟩), .int .i64 e]) (by simp (maxDischargeDepth := 7) [results, Try.results109, go_sem, *]) rfl ⟨_, e, rfl, (NuP.of HR.out HNF.out).set2 HK.out.b2 (by decide) (by decide) _ _, ?_⟩
       exact ((bt3 hq HH.out.bel).setCell (by simp; omega) _).setCell (by simp; omega) _)
set_option maxHeartbeats 4000000 in
theorem n_AddB (g g' : Nat) (m m' e e' V U : Int) (l : Nat) (w : World) (hA : Big w g m) (fA : NuF m e V l) (hB : Big w g' m') (fB : NuF m' e' U l) (hv : V ≠ 0) (hu : U ≠ 0) (ka kb : Nat) (he : e = e' + ka) (he' : e' = e' + kb) (hle : e' < e) (hbd : Bd (V + U)) :
    Calls Try.prog 109 #[.agg #[.pointer (some ⟨g, 0, none⟩), .int .i64 e], .agg #[.pointer (some ⟨g', 0, none⟩), .int .i64 e']] w (RetN (V + U) l w) := by
  have hsc : (SC : Int) = 20000 := rfl
  have h0 : -20000 ≤ e' := by have := fA.lo; have := fA.lsc; have := fB.lo; have := fB.lsc; omega
  have he1 : e ≤ 2400000 := fA.hi
  have he2 : e' ≤ 2400000 := fB.hi
  have hka : (ka : Int) ≤ 2420000 := by omega
  have hkb : (kb : Int) ≤ 2420000 := by omega
  have eV : V = dv (m * 2 ^ ka) e' := by rw [fA.val, dv_shift _ _ _ (by omega), ← he]
  have eU : U = dv (m' * 2 ^ kb) e' := by rw [fB.val, dv_shift _ _ _ (by omega), ← he']
  have eS : V + U = dv (m * 2 ^ ka + m' * 2 ^ kb) e' := by rw [dv_add, ← eV, ← eU]
  have HBD : Hd (Bd (m * 2 ^ ka) ∧ Bd (m' * 2 ^ kb) ∧ Bd (m * 2 ^ ka + m' * 2 ^ kb) ∧ -20000 ≤ e' ∧ e ≤ 2400000 ∧ e' ≤ 2400000 ∧ e = e' + ka ∧ e' = e' + kb) := ⟨⟨dv_bd (e := e') (by rw [← eV]; exact fA.bd), dv_bd (e := e') (by rw [← eU]; exact fB.bd), dv_bd (e := e') (by rw [← eS]; exact hbd), h0, he1, he2, he, he'⟩⟩
  have HNF : Hd (NuF (m * 2 ^ ka + m' * 2 ^ kb) e' (V + U) l) := ⟨⟨eS, by have := fA.lo; have := fB.lo; omega, fA.lsc, by omega, hbd⟩⟩
  have HH : Hd (N3H w (N3 w g e g' e') g e g' e') := ⟨N3H.start ..⟩
  have HA : Hd (Big (N3 w g e g' e') g m) := ⟨hA.below (N3.bel ..)⟩
  have HB : Hd (Big (N3 w g e g' e') g' m') := ⟨hB.below (N3.bel ..)⟩
  have FA : Hd (NuF m e V l) := ⟨fA⟩
  have FB : Hd (NuF m' e' U l) := ⟨fB⟩
  have hs : (V.sign == 0) = false := by simpa [Int.sign_eq_zero_iff_zero] using hv
  have hs' : (U.sign == 0) = false := by simpa [Int.sign_eq_zero_iff_zero] using hu
  clear hA hB hv hu fA fB eV eU eS h0 hbd he he'
  go_enter Try.func109, Try.ntmps109
  go_wp2_with (first | (go_at_call 66; (with_reducible refine (n_Sign g e V l _ (NuP.of HA.out FA.out)).mono ?_); rintro e1 w1 ⟨rfl, hb⟩; replace HH : Hd (N3H w w1 g e g' e') := ⟨HH.out.below hb⟩; replace HB : Hd (Big w1 g' m') := ⟨HB.out.below hb⟩; replace HA : Hd (Big w1 g m) := ⟨HA.out.below hb⟩; have c0 := HH.out.b0.cell 0; have c1 := HH.out.b0.cell 1; have d0 := HH.out.b1.cell 0; have d1 := HH.out.b1.cell 1; clear hb) | (go_at_call 66; (with_reducible refine (n_Sign g' e' U l _ (NuP.of HB.out FB.out)).mono ?_); rintro e2 wb ⟨rfl, hb⟩; replace HH : Hd (N3H w wb g e g' e') := ⟨HH.out.below hb⟩; replace HA : Hd (Big wb g m) := ⟨HA.out.below hb⟩; replace HB : Hd (Big wb g' m') := ⟨HB.out.below hb⟩; clear c0 c1 d0 d1; have c0 := HH.out.b0.cell 0; have c1 := HH.out.b0.cell 1; have d0 := HH.out.b1.cell 0; have d1 := HH.out.b1.cell 1; clear hb))
  have hs1 := HH.out.siz
  have n1 : ¬ (w.heap.size + 1 + 1 = w.heap.size) := by omega
  have n2 : ¬ (w.heap.size + 1 + 1 = w.heap.size + 1) := by omega
  have ne0 := World.new_ne wb ⟨w.heap.size, 0, none⟩ c0
  have ne1 := World.new_ne wb ⟨w.heap.size + 1, 0, none⟩ d0
  go_region_held3 (fun w' => w'.cell? ⟨w.heap.size, 0, none⟩ = some (.pointer (some ⟨g, 0, none⟩)) ∧ w'.cell? ⟨w.heap.size, 1, none⟩ = some (.int .i64 e) ∧ w'.cell? ⟨w.heap.size + 1, 0, none⟩ = some (.pointer (some ⟨g', 0, none⟩)) ∧ w'.cell? ⟨w.heap.size + 1, 1, none⟩ = some (.int .i64 e')) ((first | assumption | (exact keep4 hq ⟨c0, c1, d0, d1⟩) | go_keep | (refine ⟨?_, ?_, ?_, ?_⟩ <;> go_simp) | (constructor <;> go_simp)))
    (first | (go_at_call 122; (with_reducible refine (n_At g m e e' ka _ (HA.out.below (by (repeat (first | exact Below.refl _ _ | assumption | refine Below.drew ?_ | refine bdn ?_ | refine ba _ ?_ | refine bs0 _ _ ?_ ?_ | refine bs1 _ _ _ ?_ ?_ | refine bs2 _ _ _ _ ?_ ?_ | refine bs3 _ _ _ _ _ ?_ ?_ | refine bt3 (by assumption) ?_)))) HBD.out.2.2.2.2.2.2.1 HBD.out.2.2.2.1 HBD.out.2.2.2.2.1 HBD.out.1).mono ?_); rintro e3 w3 ⟨ga, rfl, hga, hB3, hba⟩; replace hq : Below wb.heap.size wb w3 := bt3 hba (by (repeat (first | exact Below.refl _ _ | assumption | refine Below.drew ?_ | refine bdn ?_ | refine ba _ ?_ | refine bs0 _ _ ?_ ?_ | refine bs1 _ _ _ ?_ ?_ | refine bs2 _ _ _ _ ?_ ?_ | refine bs3 _ _ _ _ _ ?_ ?_ | refine bt3 (by assumption) ?_))); (try replace HBb : Hd (Big w3 gb (m' * 2 ^ kb)) := ⟨HBb.out.below (bt3 hba (by (repeat (first | exact Below.refl _ _ | assumption | refine Below.drew ?_ | refine bdn ?_ | refine ba _ ?_ | refine bs0 _ _ ?_ ?_ | refine bs1 _ _ _ ?_ ?_ | refine bs2 _ _ _ _ ?_ ?_ | refine bs3 _ _ _ _ _ ?_ ?_ | refine bt3 (by assumption) ?_))))⟩); have HBa : Hd (Big w3 ga (m * 2 ^ ka)) := ⟨hB3⟩; have lta := hB3.lt; clear hB3) | (go_at_call 122; (with_reducible refine (n_At g' m' e' e' kb _ (HB.out.below (by (repeat (first | exact Below.refl _ _ | assumption | refine Below.drew ?_ | refine bdn ?_ | refine ba _ ?_ | refine bs0 _ _ ?_ ?_ | refine bs1 _ _ _ ?_ ?_ | refine bs2 _ _ _ _ ?_ ?_ | refine bs3 _ _ _ _ _ ?_ ?_ | refine bt3 (by assumption) ?_)))) HBD.out.2.2.2.2.2.2.2 HBD.out.2.2.2.1 HBD.out.2.2.2.2.2.1 HBD.out.2.1).mono ?_); rintro e4 w4 ⟨gb, rfl, hgb, hB4, hbb⟩; replace hq : Below wb.heap.size wb w4 := bt3 hbb (by (repeat (first | exact Below.refl _ _ | assumption | refine Below.drew ?_ | refine bdn ?_ | refine ba _ ?_ | refine bs0 _ _ ?_ ?_ | refine bs1 _ _ _ ?_ ?_ | refine bs2 _ _ _ _ ?_ ?_ | refine bs3 _ _ _ _ _ ?_ ?_ | refine bt3 (by assumption) ?_))); (try replace HBa : Hd (Big w4 ga (m * 2 ^ ka)) := ⟨HBa.out.below (bt3 hbb (by (repeat (first | exact Below.refl _ _ | assumption | refine Below.drew ?_ | refine bdn ?_ | refine ba _ ?_ | refine bs0 _ _ ?_ ?_ | refine bs1 _ _ _ ?_ ?_ | refine bs2 _ _ _ _ ?_ ?_ | refine bs3 _ _ _ _ _ ?_ ?_ | refine bt3 (by assumption) ?_))))⟩); have HBb : Hd (Big w4 gb (m' * 2 ^ kb)) := ⟨hB4⟩; have ltb := hB4.lt; clear hB4) | (go_at_call 167; (with_reducible refine (m_AddZ _ ga gb (m * 2 ^ ka) (m' * 2 ^ kb) _ (by first | exact IntB.new _ | exact (IntB.new _).drew | exact (IntB.new _).below hbb | exact (IntB.new _).below hba | exact (IntB.new _).drew.below hbb | exact (IntB.new _).drew.below hba | exact ((IntB.new _).below hba).below hbb | exact ((IntB.new _).below hbb).below hba | exact ((IntB.new _).drew.below hba).below hbb | exact ((IntB.new _).drew.below hbb).below hba) (HBa.out.below (by (repeat (first | exact Below.refl _ _ | assumption | refine Below.drew ?_ | refine bdn ?_ | refine ba _ ?_ | refine bs0 _ _ ?_ ?_ | refine bs1 _ _ _ ?_ ?_ | refine bs2 _ _ _ _ ?_ ?_ | refine bs3 _ _ _ _ _ ?_ ?_ | refine bt3 (by assumption) ?_)))) (HBb.out.below (by (repeat (first | exact Below.refl _ _ | assumption | refine Below.drew ?_ | refine bdn ?_ | refine ba _ ?_ | refine bs0 _ _ ?_ ?_ | refine bs1 _ _ _ ?_ ?_ | refine bs2 _ _ _ _ ?_ ?_ | refine bs3 _ _ _ _ _ ?_ ?_ | refine bt3 (by assumption) ?_)))) (by have h1 := hga; have h2 := hgb; have h3 := hba.size; have h4 := hbb.size; (try simp at h1); (try simp at h2); (try simp at h3); (try simp at h4); omega) HBD.out.2.2.1).mono ?_); rintro e5 w5 ⟨rfl, hB5, hg5⟩; have hq0 : Below wb.heap.size wb w5 := Below.grown (by (repeat (first | exact Below.refl _ _ | assumption | refine Below.drew ?_ | refine bdn ?_ | refine ba _ ?_ | refine bs0 _ _ ?_ ?_ | refine bs1 _ _ _ ?_ ?_ | refine bs2 _ _ _ _ ?_ ?_ | refine bs3 _ _ _ _ _ ?_ ?_ | refine bt3 (by assumption) ?_))) hg5 (by first | exact hq.size | exact le_alloc _ hq.size) (fun i hi => by cases hi; first | exact Nat.le_refl _ | exact hq.size | (have h3 := hba.size; have h4 := hbb.size; (try simp at h3); (try simp at h4); have := hq.size; omega)); replace hq := hq0; have HR : Hd (Big w5 _ (m * 2 ^ ka + m' * 2 ^ kb)) := ⟨hB5⟩; have HK := Hd.mk (HH.out.below hq0); have r0 := HK.out.b2.cell 0; have r1 := HK.out.b2.cell 1; have f0 := HK.out.b2.frozen 0; have f1 := HK.out.b2.frozen 1; clear hB5 hg5 hq0))
  all_goals
    go_wp2_with fail
    first
    | (refine bodyPost_ret (v := .agg #[.pointer (some ⟨wb.heap.size, 0, none⟩), .int .i64 e']) (by simp (maxDischargeDepth := 7) [results, Try.results109, go_sem, *]) rfl ⟨_, e', rfl, (NuP.of HR.out HNF.out).set2 HK.out.b2 (by decide) (by decide) _ _, ?_⟩
       exact ((bt3 hq HH.out.bel).setCell (by simp; omega) _).setCell (by simp; omega) _)
    | (refine bodyPost_ret (v := .agg #[.pointer (some ⟨w3.heap.size, 0, none⟩), .int .i64 e']) (by simp (maxDischargeDepth := 7) [results, Try.results109, go_sem, *]) rfl ⟨_, e', rfl, (NuP.of HR.out HNF.out).set2 HK.out.b2 (by decide) (by decide) _ _, ?_⟩
       exact ((bt3 hq HH.out.bel).setCell (by simp; omega) _).setCell (by simp; omega) _)
    | (refine bodyPost_ret (v := .agg #[.pointer (some ⟨w4.heap.size, 0, none⟩), .int .i64 e']) (by simp (maxDischargeDepth := 7) [results, Try.results109, go_sem, *]) rfl ⟨_, e', rfl, (NuP.of HR.out HNF.out).set2 HK.out.b2 (by decide) (by decide) _ _, ?_⟩
       exact ((bt3 hq HH.out.bel).setCell (by simp; omega) _).setCell (by simp; omega) _)
theorem n_Add (g g' : Nat) (e e' V U : Int) (l : Nat) (w : World) (hA : NuP w g e V l) (hB : NuP w g' e' U l) (hbd : Bd (V + U)) :
    Calls Try.prog 109 #[.agg #[.pointer (some ⟨g, 0, none⟩), .int .i64 e], .agg #[.pointer (some ⟨g', 0, none⟩), .int .i64 e']] w (RetN (V + U) l w) := by
  by_cases hv : V = 0
  · exact n_Add0 g g' e e' V U l w hA hB hv
  · by_cases hu : U = 0
    · exact n_Add1 g g' e e' V U l w hA hB hv hu
    · obtain ⟨m, h1, h2⟩ := hA
      obtain ⟨m', h3, h4⟩ := hB
      rcases Int.lt_or_le e' e with h | h
      · exact n_AddB g g' m m' e e' V U l w h1 h2 h3 h4 hv hu (e - e').toNat 0 (by omega) (by simp) h hbd
      · exact n_AddA g g' m m' e e' V U l w h1 h2 h3 h4 hv hu 0 (e' - e).toNat (by simp) (by omega) h hbd
end Go.Proofs.Ytmiafbbndonpaaa
