/- Gk: S24, merged. -/
import Derived.Test.YtflgjecpjaiecaaGreatGiq3
/- Contracts: products of whole numbers and of dyadic numbers, both sides. -/
set_option linter.unusedVariables false
set_option linter.unusedSimpArgs false
namespace Go.Proofs.YtflgjecpjaiecaaGreat
open Go.RowKit Num Flt
abbrev Wml (w : World) (s : Int) (A : Option Addr) (n c : Nat) (t : Int) (A' : Option Addr) (m c' : Nat) : World := ((w.alloc (Obj.cells #[.int .i64 s, .slice A n c] 64)).alloc (Obj.cells #[.int .i64 t, .slice A' m c'] 64)).alloc (Obj.cells #[.int .i64 0, .slice none 0 0] 64)
/-- what a product of whole numbers holds -/
structure MlH (w wr : World) (s : Int) (A : Option Addr) (n c : Nat) (t : Int) (A' : Option Addr) (m c' : Nat) : Prop where
  bel : Below w.heap.size w wr
  b0 : Blk wr w.heap.size 64 #[.int .i64 s, .slice A n c]
  b1 : Blk wr (w.heap.size + 1) 64 #[.int .i64 t, .slice A' m c']
  b2 : Blk wr (w.heap.size + 1 + 1) 64 #[.int .i64 0, .slice none 0 0]
theorem MlH.start (w : World) (s : Int) (A : Option Addr) (n c : Nat) (t : Int) (A' : Option Addr) (m c' : Nat) : MlH w (Wml w s A n c t A' m c') s A n c t A' m c' := by
  refine ⟨ba _ (ba _ (ba _ (Below.refl _ _))), ((Blk.new _ _ _).alloc _).alloc _, ?_, ?_⟩
  · have := (Blk.new (w.alloc (Obj.cells #[.int .i64 s, .slice A n c] 64)) 64 #[.int .i64 t, .slice A' m c']).alloc (Obj.cells #[.int .i64 0, .slice none 0 0] 64)
    simpa [Wml] using this
  · have := Blk.new ((w.alloc (Obj.cells #[.int .i64 s, .slice A n c] 64)).alloc (Obj.cells #[.int .i64 t, .slice A' m c'] 64)) 64 #[.int .i64 0, .slice none 0 0]
    simpa [Wml] using this
theorem MlH.below {w wb w' : World} {s : Int} {A : Option Addr} {n c : Nat} {t : Int} {A' : Option Addr} {m c' : Nat} (h : MlH w wb s A n c t A' m c') (hb : Below wb.heap.size wb w') : MlH w w' s A n c t A' m c' :=
  ⟨bt3 hb h.bel, h.b0.below hb h.b0.lt, h.b1.below hb h.b1.lt, h.b2.below hb h.b2.lt⟩
theorem MlH.set {w wb : World} {s : Int} {A : Option Addr} {n c : Nat} {t : Int} {A' : Option Addr} {m c' g : Nat} (h : MlH w wb s A n c t A' m c') (hg : w.heap.size + 1 + 1 < g) (o : Nat) (u : Value) : MlH w (wb.setCell ⟨g, o, none⟩ u) s A n c t A' m c' :=
  ⟨h.bel.setCell (by simp; omega) _, h.b0.far (by simp; omega) _, h.b1.far (by simp; omega) _, h.b2.far (by simp; omega) _⟩
theorem rng_at24 {zs : List Int} (h : Rng 16777216 zs) (k : Nat) : 0 ≤ zs.getD k 0 ∧ zs.getD k 0 < 16777216 := h.getD (by decide) k
theorem sg_small {s : Int} {xs : List Int} {a : Int} (h : NumS s xs a) : s = 0 ∨ s = 1 ∨ s = -1 := by
  rcases h.sgn with ⟨h1, _⟩ | ⟨h1, _⟩
  · exact Or.inl h1
  · exact Or.inr h1
theorem MlH.size {w wb : World} {s : Int} {A : Option Addr} {n c : Nat} {t : Int} {A' : Option Addr} {m c' : Nat} (h : MlH w wb s A n c t A' m c') : w.heap.size + 1 + 1 + 1 ≤ wb.heap.size := h.b2.lt
set_option maxHeartbeats 4000000 in
theorem s_MulW (s t : Int) (A A' : Option Addr) (n m c c' : Nat) (a b : Int) (w : World) (hX : WhP w s A n c a) (hY : WhP w t A' m c' b) (hb0 : Bd (a * b)) :
    Calls Tryz.prog 234 #[.agg #[.int .i64 s, .slice A n c], .agg #[.int .i64 t, .slice A' m c']] w (RetWh (a * b) w) := by
  obtain ⟨xs, hX⟩ := hX.opened
  obtain ⟨ys, hY⟩ := hY.opened
  have HX := Hd.mk hX
  have HY := Hd.mk hY
  have hnI : (n : Int) ≤ 100000 := by have := hX.lim5; omega
  have hmI : (m : Int) ≤ 100000 := by have := hY.lim5; omega
  have HL : Hd (n + m + 1 ≤ LIM) := ⟨by unfold LIM; omega⟩
  have HB0 := Hd.mk hb0
  have HN : Hd (n = xs.length ∧ m = ys.length) := ⟨⟨hX.len, hY.len⟩⟩
  have HSG : Hd ((s = 0 ∨ s = 1 ∨ s = -1) ∧ (t = 0 ∨ t = 1 ∨ t = -1)) := ⟨⟨sg_small hX.num, sg_small hY.num⟩⟩
  have HM0 : Hd (MlH w (Wml w s A n c t A' m c') s A n c t A' m c') := ⟨MlH.start ..⟩
  have HW0 : Hd ((Wml w s A n c t A' m c').heap.size = w.heap.size + 1 + 1 + 1) := ⟨by simp [Wml]⟩
  clear hX hY hb0
  go_enter Tryz.func234, Tryz.ntmps234
  go_wp2_with ((with_reducible refine wpList_makeR64 _ rfl (.tmp 16) (.tmp 16) rfl (n + m + 1) _ rfl rfl (by first | omega | (push_cast; omega)) HL.out ?_); intro w1 hr1 hb1; have HR1 : Hd (Row64 w1 (w.heap.size + 1 + 1 + 1) (List.replicate (n + m + 1) 0)) := ⟨by rw [← HW0.out]; exact hr1⟩; have HB1 := Hd.mk (HM0.out.below hb1); clear hr1 hb1)
  go_loopw [6] (fun i wr => ∃ (j : Nat) (zs : List Int), i = .int .i64 j ∧ (j : Int) ≤ n ∧ Hd (MulO 16777216 xs ys (n + m + 1) j zs) ∧ Hd (Row64 wr (w.heap.size + 1 + 1 + 1) zs) ∧ Hd (MlH w wr s A n c t A' m c'))
    (fun i _ => n - (intOf i).toNat)
  case atStart => exact ⟨0, List.replicate (n + m + 1) 0, rfl, by omega, ⟨MulO.start (by decide) _ _ _⟩, HR1, HB1⟩
  case round =>
    obtain ⟨j, zs, rfl, hj, HP, HR, HB⟩ := hrel
    obtain ⟨w0, hw0⟩ : ∃ w0, w0 = wr := ⟨_, rfl⟩
    subst hw0
    by_cases h1 : j < n
    · obtain ⟨ad, hA, hcx⟩ := HX.out.reads.at_ (k := j) (by have := HN.out; omega)
      subst hA
      have hgx := rng_at24 HX.out.rng j
      have HCX := Hd.mk hcx
      clear hcx
      generalize hex : xs.getD j 0 = x at *
      have HEx : Hd (xs.getD j 0 = x) := ⟨hex⟩
      clear hex
      have c0 := HB.out.b0.cell 1
      have c1 := HB.out.b1.cell 1
      go_wp2
      go_loopw [7, 8] (fun cr i wi => ∃ (k : Nat) (q : Int) (ws : List Int), i = .int .i64 k ∧ cr = .int .i64 q ∧ (k : Int) ≤ m ∧ 0 ≤ q ∧ q < 16777216 ∧ Hd (MulR 16777216 xs ys (n + m + 1) j k q ws) ∧ Hd (Row64 wi (w.heap.size + 1 + 1 + 1) ws) ∧ Hd (MlH w wi s (some ad) n c t A' m c'))
        (fun _ i _ => m - (intOf i).toNat)
      case atStart => exact ⟨0, 0, zs, rfl, rfl, by omega, by omega, by omega, ⟨HP.out.inner⟩, HR, HB⟩
      case round =>
        obtain ⟨k, q, ws, rfl, rfl, hk, hq0, hq1, HQ, HR2, HB2⟩ := hrel
        have c0 := HB2.out.b0.cell 1
        have c1 := HB2.out.b1.cell 1
        by_cases h2 : k < m
        · obtain ⟨ad2, hA, hcy⟩ := HY.out.reads.at_ (k := k) (by have := HN.out; omega)
          subst hA
          have hgy := rng_at24 HY.out.rng k
          replace hcy := (HB2.out.bel.cell (World.block_lt_of_cell? w _ hcy)).trans hcy
          have hcx := (HB2.out.bel.cell (World.block_lt_of_cell? w _ HCX.out)).trans HCX.out
          have f0 : wr.frozen? ⟨w.heap.size + 1 + 1 + 1, j + k, none⟩ = false := Blk.frozen HR2.out _
          have d0 := Row64.cell HR2.out (i := j + k) (by have := HQ.out.1; omega)
          have hgz := rng_at24 HQ.out.2.1 (j + k)
          generalize hey : ys.getD k 0 = y at *
          have HEy : Hd (ys.getD k 0 = y) := ⟨hey⟩
          generalize hez : ws.getD (j + k) 0 = z at *
          have HEz : Hd (ws.getD (j + k) 0 = z) := ⟨hez⟩
          clear hey hez
          obtain ⟨m1, m2, m3, m4⟩ := mul_carry (B := 16777216) (by decide) hq0 hq1 hgx.1 hgx.2 hgy.1 hgy.2 hgz.1 hgz.2
          have hcom : q + x * y + z = q + z + x * y := by omega
          have HNX := Hd.mk (MulR.next (t := (q + z + x * y) % 16777216) (c' := (q + z + x * y) / 16777216) (by decide) HQ.out (by have := HN.out; omega) (by omega) (by rw [HEx.out, HEy.out, HEz.out, hcom]) (by rw [HEx.out, HEy.out, HEz.out, hcom]))
          have HMM : Hd (0 ≤ (q + z + x * y) / 16777216 ∧ (q + z + x * y) / 16777216 < 16777216) := ⟨by rw [← hcom]; exact ⟨m3, m4⟩⟩
          have hw1 : wrap64 (x * y) = x * y := by unfold wrap64; omega
          have hw2 : wrap64 (q + z) = q + z := by unfold wrap64; omega
          have hw3 : wrap64 (q + z + x * y) = q + z + x * y := by unfold wrap64; omega
          have hp0 : 0 ≤ q + z + x * y := by omega
          have HT : Hd ((q + z + x * y).tmod 16777216 = (q + z + x * y) % 16777216 ∧ (q + z + x * y).tdiv 16777216 = (q + z + x * y) / 16777216) := ⟨⟨Int.tmod_eq_emod_of_nonneg hp0, Int.tdiv_eq_ediv_of_nonneg hp0⟩⟩
          clear m3 m4 hcom
          go_wp2_with fail
          go_region
          go_wp2
          go_roundw
          case rel => exact ⟨k + 1, (q + z + x * y) / 16777216, _, by go_num, rfl, by omega, HMM.out.1, HMM.out.2, HNX, ⟨by have := HR2.out.set (j + k) ((q + z + x * y) % 16777216); exact this⟩, ⟨(HB2.out.set (g := w.heap.size + 1 + 1 + 1) (Nat.lt_succ_self _) _ _).below (Below.drew (Below.refl _ _))⟩⟩
          case measure => simp [intOf]; omega
        · obtain rfl : k = m := by omega
          have f0 : wr.frozen? ⟨w.heap.size + 1 + 1 + 1, j + k, none⟩ = false := Blk.frozen HR2.out _
          have d0 := Row64.cell HR2.out (i := j + k) (by have := HQ.out.1; omega)
          have HNX : Hd (MulO 16777216 xs ys (n + k + 1) (j + 1) (ws.set (j + k) q)) := ⟨by
            have hq := HQ.out
            have hn := HN.out.2
            rw [hn] at hq ⊢
            exact hq.done (by decide) (by omega) hq0 hq1⟩
          go_wp2
          go_roundw
          case rel => exact ⟨j + 1, _, by go_num, by omega, HNX, ⟨by have := HR2.out.set (j + k) q; simpa using this⟩, ⟨HB2.out.set (g := w.heap.size + 1 + 1 + 1) (Nat.lt_succ_self _) _ _⟩⟩
          case measure => simp [intOf]; omega
    · obtain rfl : j = n := by omega
      have HZ : Hd (zs.length = j + m + 1 ∧ Rng 16777216 zs ∧ val 16777216 zs = val 16777216 xs * val 16777216 ys) := ⟨by
        have hp := HP.out
        have hn := HN.out.1
        have h2 : MulO 16777216 xs ys (j + m + 1) xs.length zs := by rw [← hn]; exact hp
        exact h2.all⟩
      have hst : wrap64 (s * t) = s * t := by rcases HSG.out with ⟨h | h | h, k | k | k⟩ <;> rw [h, k] <;> first | rfl | (unfold wrap64; omega)
      have HSV : Hd ((s * t = 1 ∨ s * t = -1 ∨ val 16777216 zs = 0) ∧ a * b = s * t * val 16777216 zs) := ⟨by
        have e1 := HX.out.num.eq
        have e2 := HY.out.num.eq
        rw [HZ.out.2.2]
        constructor
        · rcases HX.out.sg with h | h | h <;> rcases HY.out.sg with k | k | k <;> simp [h, k]
        · rw [e1, e2, Int.mul_assoc, Int.mul_assoc, Int.mul_left_comm (val 16777216 xs)]⟩
      have HLN : Hd (j + m + 1 = zs.length) := ⟨HZ.out.1.symm⟩
      have c0 := HB.out.b0.cell 0
      have c1 := HB.out.b1.cell 0
      have c2 := HB.out.b0.cell 1
      go_wp2_with (go_at_call 258; (with_reducible refine (s_MakeW (s * t) (some ⟨w.heap.size + 1 + 1 + 1, 0, none⟩) (j + m + 1) (j + m + 1) zs (a * b) _ HLN.out HR.out.reads HL.out (Nat.le_refl _) HZ.out.2.1 HSV.out.1 HSV.out.2 HB0.out).mono ?_); rintro e w9 ⟨s9, A9, n9, c9, rfl, hW, hb⟩; have HW9 : Hd (WhO w9 (w.heap.size + 1 + 1 + 1) s9 A9 n9 c9 (a * b)) := ⟨hW.mono HB.out.size⟩; have HB9 := Hd.mk (HB.out.below hb); have r0 := HB9.out.b2.cell 0; have r1 := HB9.out.b2.cell 1; have q0 := HB9.out.b2.frozen 0; have q1 := HB9.out.b2.frozen 1; clear hW hb)
      refine bodyPost_ret (v := .agg #[.int .i64 s9, .slice A9 n9 c9]) (by simp (maxDischargeDepth := 7) [results, Tryz.results234, go_sem, *]) rfl ⟨s9, A9, n9, c9, rfl, ((HW9.out.set _ _ (by omega) _).set _ _ (by omega) _).mono (by omega), ?_⟩
      exact (HB9.out.bel.setCell (by simp; omega) _).setCell (by simp; omega) _
/-- the product of two values in the scale -/
def mulV (V U : Int) : Int := V * U / 2 ^ SC
theorem dv_mul {a b e d : Int} (he : -20000 ≤ e) (hd : -20000 ≤ d) (h : -20000 ≤ e + d) : mulV (dv a e) (dv b d) = dv (a * b) (e + d) := by
  unfold mulV dv
  have hsc : (SC : Int) = 20000 := rfl
  have e1 : (e + SC).toNat + (d + SC).toNat = (e + d + SC).toNat + SC := by omega
  have e2 : a * 2 ^ (e + SC).toNat * (b * 2 ^ (d + SC).toNat) = a * b * 2 ^ (e + d + SC).toNat * 2 ^ SC := by
    rw [Int.mul_assoc, Int.mul_left_comm (2 ^ (e + SC).toNat) b, ← Int.pow_add, e1, Int.pow_add, Int.mul_assoc (a * b), Int.mul_assoc a b]
  rw [e2, Int.mul_ediv_cancel _ (Int.ne_of_gt (pow2_pos SC))]
abbrev Wd3 (w : World) (s : Int) (A : Option Addr) (n c : Nat) (e t : Int) (A' : Option Addr) (m c' : Nat) (d : Int) : World := ((w.alloc (Obj.cells #[.int .i64 s, .slice A n c, .int .i64 e] 66)).alloc (Obj.cells #[.int .i64 t, .slice A' m c', .int .i64 d] 66)).alloc (Obj.cells #[.int .i64 0, .slice none 0 0, .int .i64 0] 66)
structure D3H (w wr : World) (s : Int) (A : Option Addr) (n c : Nat) (e t : Int) (A' : Option Addr) (m c' : Nat) (d : Int) : Prop where
  bel : Below w.heap.size w wr
  b0 : Blk wr w.heap.size 66 #[.int .i64 s, .slice A n c, .int .i64 e]
  b1 : Blk wr (w.heap.size + 1) 66 #[.int .i64 t, .slice A' m c', .int .i64 d]
  b2 : Blk wr (w.heap.size + 1 + 1) 66 #[.int .i64 0, .slice none 0 0, .int .i64 0]
theorem D3H.start (w : World) (s : Int) (A : Option Addr) (n c : Nat) (e t : Int) (A' : Option Addr) (m c' : Nat) (d : Int) : D3H w (Wd3 w s A n c e t A' m c' d) s A n c e t A' m c' d := by
  refine ⟨ba _ (ba _ (ba _ (Below.refl _ _))), ((Blk.new _ _ _).alloc _).alloc _, ?_, ?_⟩
  · have := (Blk.new (w.alloc (Obj.cells #[.int .i64 s, .slice A n c, .int .i64 e] 66)) 66 #[.int .i64 t, .slice A' m c', .int .i64 d]).alloc (Obj.cells #[.int .i64 0, .slice none 0 0, .int .i64 0] 66)
    simpa [Wd3] using this
  · have := Blk.new ((w.alloc (Obj.cells #[.int .i64 s, .slice A n c, .int .i64 e] 66)).alloc (Obj.cells #[.int .i64 t, .slice A' m c', .int .i64 d] 66)) 66 #[.int .i64 0, .slice none 0 0, .int .i64 0]
    simpa [Wd3] using this
theorem D3H.below {w wb w' : World} {s : Int} {A : Option Addr} {n c : Nat} {e t : Int} {A' : Option Addr} {m c' : Nat} {d : Int} (h : D3H w wb s A n c e t A' m c' d) (hb : Below wb.heap.size wb w') : D3H w w' s A n c e t A' m c' d :=
  ⟨bt3 hb h.bel, h.b0.below hb h.b0.lt, h.b1.below hb h.b1.lt, h.b2.below hb h.b2.lt⟩
theorem DyF.bounds {m e V : Int} {l : Nat} (h : DyF m e V l) : -20000 ≤ e ∧ e ≤ 2400000 ∧ -(l : Int) ≤ e ∧ (l : Int) ≤ 20000 := by
  have hsc : (SC : Nat) = 20000 := rfl
  have := h.lo; have := h.lsc; have := h.hi; omega
set_option maxHeartbeats 4000000 in
theorem s_DMul (s t e d V U : Int) (A A' : Option Addr) (n m c c' l l' : Nat) (w : World) (hC : DyP w s A n c e V l) (hD : DyP w t A' m c' d U l') (hl : l + l' ≤ SC) (hb0 : Bd (mulV V U)) :
    Calls Tryz.prog 178 #[.agg #[.int .i64 s, .slice A n c, .int .i64 e], .agg #[.int .i64 t, .slice A' m c', .int .i64 d]] w (RetD (mulV V U) (l + l') w) := by
  obtain ⟨a, hA, fA⟩ := hC
  obtain ⟨b, hB, fB⟩ := hD
  have hsc : (SC : Nat) = 20000 := rfl
  have bA := fA.bounds
  have bB := fB.bounds
  have eP : mulV V U = dv (a * b) (e + d) := by rw [fA.val, fB.val]; exact dv_mul bA.1 bB.1 (by omega)
  have hhi : e + d ≤ 2400000 := by
    by_cases hz : a * b = 0
    · rcases Int.mul_eq_zero.1 hz with h | h
      · have := fA.zer h; omega
      · have := fB.zer h; omega
    · exact dv_hi (by rw [← eP]; exact hb0) hz
  have HA := Hd.mk hA
  have HB := Hd.mk hB
  have HF : Hd (-((l + l' : Nat) : Int) ≤ e + d ∧ l + l' ≤ SC ∧ e + d ≤ 2400000 ∧ Bd (dv (a * b) (e + d)) ∧ Bd (a * b)) := ⟨⟨by omega, hl, hhi, by rw [← eP]; exact hb0, dv_bd (e := e + d) (by rw [← eP]; exact hb0)⟩⟩
  have hw : IntKind.i64.wrap (e + d) = e + d := by rw [IntKind.wrap_i64]; omega
  have HH : Hd (D3H w (Wd3 w s A n c e t A' m c' d) s A n c e t A' m c' d) := ⟨D3H.start ..⟩
  rw [eP]
  clear hA hB fA fB hsc bA bB eP hhi hl hb0
  go_enter Tryz.func178, Tryz.ntmps178
  go_wp2_with fail
  unfold Wd3 at HH
  generalize hwb : ((w.alloc (Obj.cells #[.int .i64 s, .slice A n c, .int .i64 e] 66)).alloc (Obj.cells #[.int .i64 t, .slice A' m c', .int .i64 d] 66)).alloc (Obj.cells #[.int .i64 0, .slice none 0 0, .int .i64 0] 66) = wb at *
  clear hwb
  have c0 : wb.cell? _ = some (.int .i64 s) := HH.out.b0.cell 0
  have c1 : wb.cell? _ = some (.slice A n c) := HH.out.b0.cell 1
  have c2 : wb.cell? _ = some (.int .i64 e) := HH.out.b0.cell 2
  have d0 : wb.cell? _ = some (.int .i64 t) := HH.out.b1.cell 0
  have d1 : wb.cell? _ = some (.slice A' m c') := HH.out.b1.cell 1
  have d2 : wb.cell? _ = some (.int .i64 d) := HH.out.b1.cell 2
  have hs1 := HH.out.b2.lt
  have n1 : ¬ (w.heap.size + 1 + 1 = w.heap.size) := by omega
  have n2 : ¬ (w.heap.size + 1 + 1 = w.heap.size + 1) := by omega
  go_region_held3 (fun w' => w'.cell? ⟨w.heap.size, 0, none⟩ = some (.int .i64 s) ∧ w'.cell? ⟨w.heap.size, 1, none⟩ = some (.slice A n c) ∧ w'.cell? ⟨w.heap.size, 2, none⟩ = some (.int .i64 e) ∧ w'.cell? ⟨w.heap.size + 1, 0, none⟩ = some (.int .i64 t) ∧ w'.cell? ⟨w.heap.size + 1, 1, none⟩ = some (.slice A' m c') ∧ w'.cell? ⟨w.heap.size + 1, 2, none⟩ = some (.int .i64 d)) ((first | assumption | (exact keep6 hq ⟨c0, c1, c2, d0, d1, d2⟩) | go_keep | (refine ⟨?_, ?_, ?_, ?_, ?_, ?_⟩ <;> go_simp) | (constructor <;> go_simp)))
    (first | (go_at_call 234; (with_reducible refine (s_MulW s t A A' n m c c' a b _ (HA.out.below (bt3 (by (repeat (first | exact Below.refl _ _ | assumption | refine Below.drew ?_ | refine bdn ?_ | refine ba _ ?_ | refine bs0 _ _ ?_ ?_ | refine bs1 _ _ _ ?_ ?_ | refine bs2 _ _ _ _ ?_ ?_ | refine bs3 _ _ _ _ _ ?_ ?_ | refine bt3 (by assumption) ?_))) HH.out.bel)) (HB.out.below (bt3 (by (repeat (first | exact Below.refl _ _ | assumption | refine Below.drew ?_ | refine bdn ?_ | refine ba _ ?_ | refine bs0 _ _ ?_ ?_ | refine bs1 _ _ _ ?_ ?_ | refine bs2 _ _ _ _ ?_ ?_ | refine bs3 _ _ _ _ _ ?_ ?_ | refine bt3 (by assumption) ?_))) HH.out.bel)) HF.out.2.2.2.2).mono ?_); rintro e3 w3 ⟨s3, A3, n3, c3, rfl, hW, hb⟩; have hq : Below wb.heap.size wb w3 := bt3 hb (by (repeat (first | exact Below.refl _ _ | assumption | refine Below.drew ?_ | refine bdn ?_ | refine ba _ ?_ | refine bs0 _ _ ?_ ?_ | refine bs1 _ _ _ ?_ ?_ | refine bs2 _ _ _ _ ?_ ?_ | refine bs3 _ _ _ _ _ ?_ ?_ | refine bt3 (by assumption) ?_))); have hs3 := hq.size; have H3 : Hd (WhP w3 s3 A3 n3 c3 (a * b)) := ⟨hW.wh⟩; clear hW hb) | (go_at_call 211; (with_reducible refine (s_DMake s3 A3 n3 c3 (a * b) (e + d) (l + l') _ (H3.out.below (by (repeat (first | exact Below.refl _ _ | assumption | refine Below.drew ?_ | refine bdn ?_ | refine ba _ ?_ | refine bs0 _ _ ?_ ?_ | refine bs1 _ _ _ ?_ ?_ | refine bs2 _ _ _ _ ?_ ?_ | refine bs3 _ _ _ _ _ ?_ ?_ | refine bt3 (by assumption) ?_)))) HF.out.1 HF.out.2.1 HF.out.2.2.1 HF.out.2.2.2.1).mono ?_); rintro e4 w4 ⟨s4, A4, n4, c4, x4, rfl, hD, hb⟩; replace hq : Below wb.heap.size wb w4 := bt3 hb (by (repeat (first | exact Below.refl _ _ | assumption | refine Below.drew ?_ | refine bdn ?_ | refine ba _ ?_ | refine bs0 _ _ ?_ ?_ | refine bs1 _ _ _ ?_ ?_ | refine bs2 _ _ _ _ ?_ ?_ | refine bs3 _ _ _ _ _ ?_ ?_ | refine bt3 (by assumption) ?_))); have hlw : w.heap.size + 1 + 1 < w4.heap.size := (Nat.lt_of_lt_of_le hs1 hq.size); have H4 : Hd (DyO w4 wb.heap.size s4 A4 n4 c4 x4 (dv (a * b) (e + d)) (l + l')) := ⟨hD.mono (by first | exact hs3 | (simp; omega))⟩; have HK := Hd.mk (HH.out.below hq); have r0 := HK.out.b2.cell 0; have r1 := HK.out.b2.cell 1; have r2 := HK.out.b2.cell 2; have q0 := HK.out.b2.frozen 0; have q1 := HK.out.b2.frozen 1; have q2 := HK.out.b2.frozen 2; clear hD hb))
  go_wp2_with fail
  refine bodyPost_ret (v := .agg #[.int .i64 s4, .slice A4 n4 c4, .int .i64 x4]) (by simp (maxDischargeDepth := 7) [results, Tryz.results178, go_sem, *]) rfl ⟨s4, A4, n4, c4, x4, rfl, (((H4.out.set _ _ (by omega) _).set _ _ (by omega) _).set _ _ (by omega) _).mono (by have := HH.out.bel.size; omega), ?_⟩
  exact (((bt3 hq HH.out.bel).setCell (by simp; omega) _).setCell (by simp; omega) _).setCell (by simp; omega) _
theorem nu_mul {a b e d V U : Int} {l l' : Nat} (fA : NuF a e V l) (fB : NuF b d U l') (hl : l + l' ≤ SC) (hhi : e + d ≤ 2400000) (hb : Bd (mulV V U)) : NuF (a * b) (e + d) (mulV V U) (l + l') ∧ Bd (a * b) := by
  have hsc : (SC : Nat) = 20000 := rfl
  have h1 := fA.lo; have h2 := fB.lo; have h3 := fA.lsc; have h4 := fB.lsc
  have eP : mulV V U = dv (a * b) (e + d) := by rw [fA.val, fB.val]; exact dv_mul (by omega) (by omega) (by omega)
  exact ⟨⟨eP, by omega, hl, hhi, hb⟩, dv_bd (e := e + d) (by rw [← eP]; exact hb)⟩
set_option maxHeartbeats 4000000 in
theorem n_Mul (g g' : Nat) (e e' V U : Int) (l l' : Nat) (w : World) (hA : NuP w g e V l) (hB : NuP w g' e' U l') (hl : l + l' ≤ SC) (hhi : e + e' ≤ 2400000) (hbd : Bd (mulV V U)) :
    Calls Tryz.prog 112 #[.agg #[.pointer (some ⟨g, 0, none⟩), .int .i64 e], .agg #[.pointer (some ⟨g', 0, none⟩), .int .i64 e']] w (RetN (mulV V U) (l + l') w) := by
  obtain ⟨m, hA, fA⟩ := hA
  obtain ⟨m', hB, fB⟩ := hB
  have HNF := Hd.mk (nu_mul fA fB hl hhi hbd)
  have HH : Hd (N3H w (N3 w g e g' e') g e g' e') := ⟨N3H.start ..⟩
  have HA : Hd (Big (N3 w g e g' e') g m) := ⟨hA.below (N3.bel ..)⟩
  have HB : Hd (Big (N3 w g e g' e') g' m') := ⟨hB.below (N3.bel ..)⟩
  have hw : IntKind.i64.wrap (e + e') = e + e' := by
    have hsc : (SC : Nat) = 20000 := rfl
    have h1 := fA.lo; have h2 := fB.lo; have h3 := fA.lsc; have h4 := fB.lsc
    rw [IntKind.wrap_i64]; omega
  clear hA hB hbd fA fB hl hhi
  go_enter Tryz.func112, Tryz.ntmps112
  go_wp2_with fail
  unfold N3 at HH HA HB
  generalize hwb : ((w.alloc (Obj.cells #[.pointer (some ⟨g, 0, none⟩), .int .i64 e] 113)).alloc (Obj.cells #[.pointer (some ⟨g', 0, none⟩), .int .i64 e'] 113)).alloc (Obj.cells #[.pointer none, .int .i64 0] 113) = wb at *
  clear hwb
  have hs1 := HH.out.siz
  have c0 : wb.cell? _ = some (.pointer (some ⟨g, 0, none⟩)) := HH.out.b0.cell 0
  have c1 : wb.cell? _ = some (.int .i64 e) := HH.out.b0.cell 1
  have d0 : wb.cell? _ = some (.pointer (some ⟨g', 0, none⟩)) := HH.out.b1.cell 0
  have d1 : wb.cell? _ = some (.int .i64 e') := HH.out.b1.cell 1
  have n1 : ¬ (w.heap.size + 1 + 1 = w.heap.size) := by omega
  have n2 : ¬ (w.heap.size + 1 + 1 = w.heap.size + 1) := by omega
  have ne0 := World.new_ne wb ⟨w.heap.size, 0, none⟩ c0
  have ne1 := World.new_ne wb ⟨w.heap.size + 1, 0, none⟩ d0
  go_region_held3 (fun w' => w'.cell? ⟨w.heap.size, 0, none⟩ = some (.pointer (some ⟨g, 0, none⟩)) ∧ w'.cell? ⟨w.heap.size, 1, none⟩ = some (.int .i64 e) ∧ w'.cell? ⟨w.heap.size + 1, 0, none⟩ = some (.pointer (some ⟨g', 0, none⟩)) ∧ w'.cell? ⟨w.heap.size + 1, 1, none⟩ = some (.int .i64 e')) ((first | assumption | (exact keep4 hq ⟨c0, c1, d0, d1⟩) | go_keep | (refine ⟨?_, ?_, ?_, ?_⟩ <;> go_simp) | (constructor <;> go_simp)))
    (first | (go_at_call 185; (with_reducible refine (m_MulZ _ g g' m m' _ (by first | exact IntB.new _ | exact (IntB.new _).drew) (HA.out.below (by (repeat (first | exact Below.refl _ _ | assumption | refine Below.drew ?_ | refine bdn ?_ | refine ba _ ?_ | refine bs0 _ _ ?_ ?_ | refine bs1 _ _ _ ?_ ?_ | refine bs2 _ _ _ _ ?_ ?_ | refine bs3 _ _ _ _ _ ?_ ?_ | refine bt3 (by assumption) ?_)))) (HB.out.below (by (repeat (first | exact Below.refl _ _ | assumption | refine Below.drew ?_ | refine bdn ?_ | refine ba _ ?_ | refine bs0 _ _ ?_ ?_ | refine bs1 _ _ _ ?_ ?_ | refine bs2 _ _ _ _ ?_ ?_ | refine bs3 _ _ _ _ _ ?_ ?_ | refine bt3 (by assumption) ?_)))) (by have := HA.out.lt; (try simp); omega) (by have := HB.out.lt; (try simp); omega) HNF.out.2).mono ?_); rintro e5 w5 ⟨rfl, hB5, hg5⟩; have hq : Below wb.heap.size wb w5 := Below.grown (by (repeat (first | exact Below.refl _ _ | assumption | refine Below.drew ?_ | refine bdn ?_ | refine ba _ ?_ | refine bs0 _ _ ?_ ?_ | refine bs1 _ _ _ ?_ ?_ | refine bs2 _ _ _ _ ?_ ?_ | refine bs3 _ _ _ _ _ ?_ ?_ | refine bt3 (by assumption) ?_))) hg5 (le_alloc _ (Nat.le_refl _)) (fun i hi => by cases hi; exact Nat.le_refl _); have HR : Hd (Big w5 _ (m * m')) := ⟨hB5⟩; have HK := Hd.mk (HH.out.below hq); have r0 := HK.out.b2.cell 0; have r1 := HK.out.b2.cell 1; have f0 := HK.out.b2.frozen 0; have f1 := HK.out.b2.frozen 1; clear hB5 hg5))
  go_wp2_with fail
  refine bodyPost_ret (v := .agg #[.pointer (some ⟨wb.heap.size, 0, none⟩), .int .i64 (e + e')]) (by simp (maxDischargeDepth := 7) [results, Tryz.results112, go_sem, *]) rfl ⟨_, e + e', rfl, (NuP.of HR.out HNF.out.1).set2 HK.out.b2 (by decide) (by decide) _ _, ?_⟩
  exact ((bt3 hq HH.out.bel).setCell (by simp; omega) _).setCell (by simp; omega) _
set_option maxHeartbeats 4000000 in
theorem n_OfB (x : Nat) (w : World) (hx : W x) (hf : fin x) :
    Calls Tryz.prog 111 #[.float .f32 x] w fun e' w' => ∃ g e, e' = .returned (.agg #[.pointer (some ⟨g, 0, none⟩), .int .i64 e]) ∧ e ≤ 200 ∧ NuP w' g e (fv x) 149 ∧ Below w.heap.size w w' := by
  have HX : Hd (W x ∧ fin x ∧ -4294967296 < mv x ∧ mv x < 4294967296 ∧ pe x ≤ 300) := ⟨⟨hx, hf, by have := mv_lt x; omega, by have := mv_lt x; omega, by have := pe_le hf; omega⟩⟩
  clear hx hf
  go_enter Tryz.func111, Tryz.ntmps111
  go_wp2_with (first | (go_at_call 183; (with_reducible refine (m_Parts x _ HX.out.1 HX.out.2.1).mono ?_); rintro e w' ⟨rfl, rfl⟩) | (go_at_call 184; (with_reducible refine (m_New (mv x) _ HX.out.2.2.1 HX.out.2.2.2.1).mono ?_); rintro e w2 ⟨g, rfl, hge, hB, hb⟩; have HB : Hd (Big w2 g (mv x)) := ⟨hB⟩; have HK := Hd.mk (Blk.below (Blk.new w _ _) hb (by simp)); clear hge hB; obtain ⟨hc, hf, hz, hy⟩ := bcell hb; have hs := hb.size; (try simp at hs); have h0' : w.heap.size < w2.heap.size := (by omega); clear hs))
  refine bodyPost_ret (v := .agg #[.pointer (some ⟨g, 0, none⟩), .int .i64 (-149 + (pe x : Nat))]) (by simp (maxDischargeDepth := 7) [results, Tryz.results111, go_sem, *]) rfl ⟨g, _, rfl, ?_, ?_, ?_⟩
  · have := HX.out.2.2.2.2; omega
  · have h := nuF_float HX.out.2.1
    refine ⟨mv x, ?_, h⟩
    exact ((HB.out.setT HK.out (by decide) (by decide) 0 _).setT (HK.out.set_ 0 _) (by decide) (by decide) 1 _)
  · (repeat (first | exact Below.refl _ _ | assumption | refine Below.drew ?_ | refine bdn ?_ | refine ba _ ?_ | refine bs0 _ _ ?_ ?_ | refine bs1 _ _ _ ?_ ?_ | refine bs2 _ _ _ _ ?_ ?_ | refine bs3 _ _ _ _ _ ?_ ?_ | refine bt3 (by assumption) ?_))
theorem bd_fb {a : Int} {k : Int} (h0 : -(FB * k) < a) (h1 : a < FB * k) (hk : k ≤ 1024) : Bd a := by
  have h3 := FB_top
  have h4 : FB * k ≤ FB * 1024 := Int.mul_le_mul_of_nonneg_left hk (Int.le_of_lt FB_pos)
  unfold Bd; generalize TOP = T at *; generalize FB * k = F at *; generalize FB * 1024 = F2 at *; omega
/-- products of floats are small -/
theorem mulV_lt {x y : Nat} (hx : fin x) (hy : fin y) : -FB < mulV (fv x) (fv y) ∧ mulV (fv x) (fv y) < FB := by
  have h1 := mv_lt x
  have h2 := mv_lt y
  have e1 := pe_le hx
  have e2 := pe_le hy
  have hsc : (SC : Nat) = 20000 := rfl
  have eP : mulV (fv x) (fv y) = dv (mv x * mv y) (-149 + (pe x : Int) + (-149 + (pe y : Int))) := dv_mul (by omega) (by omega) (by omega)
  rw [eP]
  unfold dv
  have hab : (mv x * mv y).natAbs < 2 ^ 48 := by
    rw [Int.natAbs_mul]
    have a1 : (mv x).natAbs ≤ 16777215 := by omega
    have a2 : (mv y).natAbs ≤ 16777215 := by omega
    have := Nat.mul_le_mul a1 a2
    have h48 : (2 : Nat) ^ 48 = 281474976710656 := by decide
    omega
  have hk : (-149 + (pe x : Int) + (-149 + (pe y : Int)) + SC).toNat + 24 ≤ 2000000 := by omega
  generalize (-149 + (pe x : Int) + (-149 + (pe y : Int)) + SC).toNat = k at *
  have h3 : (2 : Int) ^ k * 2 ^ 24 ≤ 2 ^ 2000000 := by rw [← Int.pow_add]; exact pow_le (by decide) hk
  have hp := pow2_pos k
  have h48' : (2 : Nat) ^ 48 = 281474976710656 := by decide
  have h24' : (2 : Int) ^ 24 = 16777216 := by decide
  rw [h48'] at hab
  rw [h24'] at h3
  have hFB : FB = 16777216 * 2 ^ 2000000 := rfl
  rw [hFB]
  generalize (2 : Int) ^ 2000000 = P at *
  generalize (2 : Int) ^ k = p at *
  generalize mv x * mv y = ab at *
  have u1 : ab * p ≤ 281474976710655 * p := Int.mul_le_mul_of_nonneg_right (by omega) (by omega)
  have u2 : -281474976710655 * p ≤ ab * p := Int.mul_le_mul_of_nonneg_right (by omega) (by omega)
  omega
theorem mul_bd {x y : Nat} (hx : fin x) (hy : fin y) : Bd (mulV (fv x) (fv y)) := by
  have := mulV_lt hx hy; exact bd_fb (k := 1) (by omega) (by omega) (by omega)
theorem mul_bd1 {x y z : Nat} (hx : fin x) (hy : fin y) (hz : fin z) : Bd (mulV (fv x) (fv y) + fv z) := by
  have h1 := mulV_lt hx hy
  have h2 := fv_lt hz
  exact bd_fb (k := 2) (by omega) (by omega) (by omega)
end Go.Proofs.YtflgjecpjaiecaaGreat
