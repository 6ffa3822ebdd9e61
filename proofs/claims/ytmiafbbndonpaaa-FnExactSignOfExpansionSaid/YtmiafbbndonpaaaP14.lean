/- Contracts: numbers of the program: of floats, their signs, common exponents. -/
import Derived.Test.YtmiafbbndonpaaaP13
import Derived.Test.YtmiafbbndonpaaaS12
set_option linter.unusedVariables false
set_option linter.unusedSimpArgs false
namespace Go.Proofs.Ytmiafbbndonpaaa
open Go.RowKit Num Flt
/-- a number of the program: its integer lies in block g -/
structure NuF (m e V : Int) (l : Nat) : Prop where
  val : V = dv m e
  lo : -(l : Int) ≤ e
  lsc : l ≤ SC
  hi : e ≤ 2400000
  bd : Bd V
def NuP (w : World) (g : Nat) (e V : Int) (l : Nat) : Prop := ∃ m, Big w g m ∧ NuF m e V l
def RetN (V : Int) (l : Nat) (w : World) (e : Ending) (w' : World) : Prop := ∃ g x, e = .returned (.agg #[.pointer (some ⟨g, 0, none⟩), .int .i64 x]) ∧ NuP w' g x V l ∧ Below w.heap.size w w'
theorem NuP.below {w w' : World} {g : Nat} {e V : Int} {l : Nat} (h : NuP w g e V l) (hb : Below w.heap.size w w') : NuP w' g e V l := by
  obtain ⟨m, h1, h2⟩ := h; exact ⟨m, h1.below hb, h2⟩
theorem NuP.lt {w : World} {g : Nat} {e V : Int} {l : Nat} (h : NuP w g e V l) : g < w.heap.size := by
  obtain ⟨m, h1, h2⟩ := h; exact h1.lt
theorem NuP.grown {w w' : World} {g z : Nat} {e V : Int} {l : Nat} (h : NuP w g e V l) (hz : IntB w z) (hg : w.grownBy w' (some z)) (hne : g ≠ z) : NuP w' g e V l := by
  obtain ⟨m, h1, h2⟩ := h; exact ⟨m, h1.grown' hz hg hne, h2⟩
theorem gset (w : World) (b o : Nat) (u : Value) : w.grownBy (w.setCell ⟨b, o, none⟩ u) (some b) :=
  ⟨rfl, rfl, rfl, by simp [World.setCell], fun k hk hne => Below.heap_setCell _ _ u k (fun e => hne (by rw [e]))⟩
theorem Big.setT {w : World} {g b : Nat} {a : Int} {t : TypeId} {cs : Array Value} (h : Big w g a) (hk : Blk w b t cs) (h1 : t ≠ 134) (h2 : t ≠ 172) (o : Nat) (u : Value) : Big (w.setCell ⟨b, o, none⟩ u) g a := by
  obtain ⟨neg, A, n, c, xs, hb, hd⟩ := h
  have h3 := hb.ne_ hk (Ne.symm h1)
  refine ⟨neg, A, n, c, xs, hb.grown (gset w b o u) (by simpa using h3), hd.grown (gset w b o u) ?_⟩
  intro ad e
  obtain ⟨cs', hk'⟩ := hd.typ ad e
  have := hk'.ne_ hk (Ne.symm h2)
  simpa using this
theorem NuP.setT {w : World} {g b : Nat} {e V : Int} {l : Nat} {t : TypeId} {cs : Array Value} (h : NuP w g e V l) (hk : Blk w b t cs) (h1 : t ≠ 134) (h2 : t ≠ 172) (o : Nat) (u : Value) : NuP (w.setCell ⟨b, o, none⟩ u) g e V l := by
  obtain ⟨m, h3, h4⟩ := h; exact ⟨m, h3.setT hk h1 h2 o u, h4⟩
theorem NuP.set2 {w : World} {g b : Nat} {e V : Int} {l : Nat} {t : TypeId} {cs : Array Value} (h : NuP w g e V l) (hk : Blk w b t cs) (h1 : t ≠ 134) (h2 : t ≠ 172) (u v : Value) : NuP ((w.setCell ⟨b, 0, none⟩ u).setCell ⟨b, 1, none⟩ v) g e V l :=
  (h.setT hk h1 h2 0 u).setT (hk.set_ 0 u) h1 h2 1 v
theorem IntB.new (w : World) : IntB (w.alloc (.cells #[.bool false, .slice none 0 0] 134)) w.heap.size := ⟨_, _, _, _, Blk.new _ _ _⟩
theorem NuF.more {m e V : Int} {l l' : Nat} (h : NuF m e V l) (hl : l ≤ l') (hs : l' ≤ SC) : NuF m e V l' := ⟨h.val, by have := h.lo; omega, hs, h.hi, h.bd⟩
theorem dv_sign (m e : Int) : (dv m e).sign = m.sign := by
  unfold dv; rw [Int.sign_mul, Int.sign_eq_one_of_pos (pow2_pos _), Int.mul_one]
set_option maxHeartbeats 4000000 in
theorem n_Sign (g : Nat) (e V : Int) (l : Nat) (w : World) (hX : NuP w g e V l) :
    Calls Try.prog 66 #[.agg #[.pointer (some ⟨g, 0, none⟩), .int .i64 e]] w fun e' w' => e' = .returned (.int .i64 V.sign) ∧ Below w.heap.size w w' := by
  obtain ⟨m, hB, hF⟩ := hX
  have HB : Hd (Big w g m) := ⟨hB⟩
  have HV : Hd (V.sign = m.sign) := ⟨by rw [hF.val, dv_sign]⟩
  rw [HV.out]
  clear hB hF
  go_enter Try.func66, Try.ntmps66
  go_wp2_with (go_at_call 128; (with_reducible refine (m_Sign g m _ (HB.out.below (by (repeat (first | exact Below.refl _ _ | assumption | refine Below.drew ?_ | refine bdn ?_ | refine ba _ ?_ | refine bs0 _ _ ?_ ?_ | refine bs1 _ _ _ ?_ ?_ | refine bs2 _ _ _ _ ?_ ?_ | refine bs3 _ _ _ _ _ ?_ ?_ | refine bt3 (by assumption) ?_))))).mono ?_); rintro e w' ⟨rfl, ⟨nd, rfl⟩⟩)
  go_ret
  refine ⟨rfl, ?_⟩
  (repeat (first | exact Below.refl _ _ | assumption | refine Below.drew ?_ | refine bdn ?_ | refine ba _ ?_ | refine bs0 _ _ ?_ ?_ | refine bs1 _ _ _ ?_ ?_ | refine bs2 _ _ _ _ ?_ ?_ | refine bs3 _ _ _ _ _ ?_ ?_ | refine bt3 (by assumption) ?_))
set_option maxHeartbeats 4000000 in
theorem n_At (g : Nat) (m e e' : Int) (k : Nat) (w : World) (hX : Big w g m) (he : e = e' + k) (h0 : -20000 ≤ e') (h1 : e ≤ 2400000) (hbd : Bd (m * 2 ^ k)) :
    Calls Try.prog 122 #[.agg #[.pointer (some ⟨g, 0, none⟩), .int .i64 e], .int .i64 e'] w (RetI (m * 2 ^ k) w) := by
  have HX : Hd (Big w g m ∧ Bd (m * 2 ^ k) ∧ k ≤ 10000000) := ⟨⟨hX, hbd, by omega⟩⟩
  subst he
  have hk : e' + (k : Int) - e' = k := by omega
  have hkI : (k : Int) ≤ 2420000 := by omega
  clear hX hbd
  go_enter Try.func122, Try.ntmps122
  go_wp2_with (go_at_call 124; go_loud ((with_reducible refine (m_LshZ (w.heap.size + 1) g m k _ (by have := IntB.new (w.alloc (.cells #[.pointer (some ⟨g, 0, none⟩), .int .i64 (e' + (k : Int))] 87)); simpa using this) (HX.out.1.below (by (repeat (first | exact Below.refl _ _ | assumption | refine Below.drew ?_ | refine bdn ?_ | refine ba _ ?_ | refine bs0 _ _ ?_ ?_ | refine bs1 _ _ _ ?_ ?_ | refine bs2 _ _ _ _ ?_ ?_ | refine bs3 _ _ _ _ _ ?_ ?_ | refine bt3 (by assumption) ?_)))) HX.out.2.2 HX.out.2.1).mono ?_); rintro e w2 ⟨rfl, hB, hg⟩; have HR : Hd (Big w2 (w.heap.size + 1) (m * 2 ^ k) ∧ Below w.heap.size w w2) := ⟨⟨hB, (ba _ (ba _ (Below.refl _ _))).grown hg (le_alloc _ (le_alloc _ (Nat.le_refl _))) (fun i hi => by cases hi; omega)⟩⟩; clear hB hg))
  go_ret
  exact ⟨w.heap.size + 1, rfl, by omega, HR.out.1, HR.out.2⟩
set_option maxHeartbeats 4000000 in
theorem m_Parts (x : Nat) (w : World) (hx : W x) (hf : fin x) :
    Calls Try.prog 149 #[.float .f32 x] w fun e w' => e = .returned (.tuple #[.int .i64 (mv x), .int .i64 (-149 + (pe x : Nat))]) ∧ w = w' := by
  have hW : (x : Int) < 4294967296 := by unfold W at hx; omega
  have h0 : (0 : Int) ≤ x := by omega
  have b1 := u32_and255 ((x : Int) / 8388608) (by omega) (by omega)
  have b2 : bits .and .u32 (x : Int) 8388607 = (x : Int) % 8388608 := bits_mask .u32 32 (by decide) wraps_u32 23 (by decide) x h0 (by omega)
  have HE : Hd ((x : Int) / 8388608 % 256 < 255) := ⟨by unfold fin at hf; omega⟩
  have HV : Hd (mv x = (if 2147483648 ≤ x then -((x : Int) % 8388608 + if 0 < (x : Int) / 8388608 % 256 then 8388608 else 0) else ((x : Int) % 8388608 + if 0 < (x : Int) / 8388608 % 256 then 8388608 else 0)) ∧ (pe x : Int) = (if 0 < (x : Int) / 8388608 % 256 then (x : Int) / 8388608 % 256 else 1) - 1) := ⟨by
    unfold fin at hf; unfold W at hx
    unfold mv pm pe mg ex
    constructor
    · repeat' split
      all_goals omega
    · repeat' split
      all_goals omega⟩
  have hf0 : 0 ≤ (x : Int) % 8388608 := by omega
  have hf1 : (x : Int) % 8388608 < 8388608 := by omega
  have HP : Hd ((-149 : Int) + (pe x : Int) = (if 0 < (x : Int) / 8388608 % 256 then (x : Int) / 8388608 % 256 else 1) - 150) := ⟨by rw [HV.out.2]; omega⟩
  by_cases he : 0 < (x : Int) / 8388608 % 256
  · by_cases hs : 2147483648 ≤ x
    · have hd : ((x : Int) / 2147483648 != 0) = true := by rw [cast_div]; exact decide_eq_true hs
      have H1 : Hd (mv x = -((x : Int) % 8388608 + 8388608) ∧ (-149 : Int) + (pe x : Int) = (x : Int) / 8388608 % 256 - 150) := ⟨by
        refine ⟨?_, ?_⟩
        · rw [HV.out.1, if_pos hs, if_pos he]
        · rw [HP.out, if_pos he]⟩
      rw [H1.out.1, H1.out.2]
      have hE1 := HE.out
      generalize (x : Int) / 8388608 % 256 = E at *
      generalize (x : Int) % 8388608 = F at *
      have k := run_f32bits
      clear hs hx hf HV HP H1 HE hW h0
      go_enter Try.func149, Try.ntmps149
      go_wp2
      go_ret2
      exact ⟨rfl, rfl⟩
    · have hd : ((x : Int) / 2147483648 != 0) = false := by rw [cast_div]; exact decide_eq_false hs
      have H1 : Hd (mv x = ((x : Int) % 8388608 + 8388608) ∧ (-149 : Int) + (pe x : Int) = (x : Int) / 8388608 % 256 - 150) := ⟨by
        refine ⟨?_, ?_⟩
        · rw [HV.out.1, if_neg hs, if_pos he]
        · rw [HP.out, if_pos he]⟩
      rw [H1.out.1, H1.out.2]
      have hE1 := HE.out
      generalize (x : Int) / 8388608 % 256 = E at *
      generalize (x : Int) % 8388608 = F at *
      have k := run_f32bits
      clear hs hx hf HV HP H1 HE hW h0
      go_enter Try.func149, Try.ntmps149
      go_wp2
      go_ret2
      exact ⟨rfl, rfl⟩
  · by_cases hs : 2147483648 ≤ x
    · have hd : ((x : Int) / 2147483648 != 0) = true := by rw [cast_div]; exact decide_eq_true hs
      have H1 : Hd (mv x = -((x : Int) % 8388608) ∧ (-149 : Int) + (pe x : Int) = -149) := ⟨by
        refine ⟨?_, ?_⟩
        · rw [HV.out.1, if_pos hs, if_neg he]; omega
        · rw [HP.out, if_neg he]; rfl⟩
      rw [H1.out.1, H1.out.2]
      have hE0 : (x : Int) / 8388608 % 256 = 0 := by omega
      rw [hE0] at b1
      clear hE0 he
      generalize (x : Int) % 8388608 = F at *
      have k := run_f32bits
      clear hs hx hf HV HP H1 HE hW h0
      go_enter Try.func149, Try.ntmps149
      go_wp2
      go_ret2
      exact ⟨rfl, rfl⟩
    · have hd : ((x : Int) / 2147483648 != 0) = false := by rw [cast_div]; exact decide_eq_false hs
      have H1 : Hd (mv x = ((x : Int) % 8388608) ∧ (-149 : Int) + (pe x : Int) = -149) := ⟨by
        refine ⟨?_, ?_⟩
        · rw [HV.out.1, if_neg hs, if_neg he]; omega
        · rw [HP.out, if_neg he]; rfl⟩
      rw [H1.out.1, H1.out.2]
      have hE0 : (x : Int) / 8388608 % 256 = 0 := by omega
      rw [hE0] at b1
      clear hE0 he
      generalize (x : Int) % 8388608 = F at *
      have k := run_f32bits
      clear hs hx hf HV HP H1 HE hW h0
      go_enter Try.func149, Try.ntmps149
      go_wp2
      go_ret2
      exact ⟨rfl, rfl⟩
theorem nuF_float {x : Nat} (hf : fin x) : NuF (mv x) (-149 + (pe x : Nat)) (fv x) 149 :=
  ⟨rfl, by omega, by unfold SC; omega, by have := pe_le hf; omega, fv_bd hf⟩
set_option maxHeartbeats 4000000 in
theorem n_Of (x : Nat) (w : World) (hx : W x) (hf : fin x) :
    Calls Try.prog 84 #[.float .f32 x] w (RetN (fv x) 149 w) := by
  have HX : Hd (W x ∧ fin x ∧ -4294967296 < mv x ∧ mv x < 4294967296) := ⟨⟨hx, hf, by have := mv_lt x; omega, by have := mv_lt x; omega⟩⟩
  clear hx hf
  go_enter Try.func84, Try.ntmps84
  go_wp2_with (first | (go_at_call 149; (with_reducible refine (m_Parts x _ HX.out.1 HX.out.2.1).mono ?_); rintro e w' ⟨rfl, rfl⟩) | (go_at_call 150; (with_reducible refine (m_New (mv x) _ HX.out.2.2.1 HX.out.2.2.2).mono ?_); rintro e w2 ⟨g, rfl, hge, hB, hb⟩; have HB : Hd (Big w2 g (mv x)) := ⟨hB⟩; have HK := Hd.mk (Blk.below (Blk.new w _ _) hb (by simp)); clear hge hB; obtain ⟨hc, hf, hz, hy⟩ := bcell hb; have hs := hb.size; (try simp at hs); have h0' : w.heap.size < w2.heap.size := (by omega); clear hs))
  refine bodyPost_ret (v := .agg #[.pointer (some ⟨g, 0, none⟩), .int .i64 (-149 + (pe x : Nat))]) (by simp (maxDischargeDepth := 7) [results, Try.results84, go_sem, *]) rfl ⟨g, _, rfl, ?_, ?_⟩
  · have h := nuF_float HX.out.2.1
    refine ⟨mv x, ?_, h⟩
    exact ((HB.out.setT HK.out (by decide) (by decide) 0 _).setT (HK.out.set_ 0 _) (by decide) (by decide) 1 _)
  · (repeat (first | exact Below.refl _ _ | assumption | refine Below.drew ?_ | refine bdn ?_ | refine ba _ ?_ | refine bs0 _ _ ?_ ?_ | refine bs1 _ _ _ ?_ ?_ | refine bs2 _ _ _ _ ?_ ?_ | refine bs3 _ _ _ _ _ ?_ ?_ | refine bt3 (by assumption) ?_))
end Go.Proofs.Ytmiafbbndonpaaa
