/- Contracts: quotient and rest of the program's integers, for a divisor of one digit. -/
import Derived.Test.YtlaaielopcphiaaP22
set_option linter.unusedVariables false
set_option linter.unusedSimpArgs false
namespace Go.Proofs.Ytlaaielopcphiaa
open Go.RowKit Num
theorem keep3Q {w w1 : World} {x y : Nat} {v0 v1 u0 u1 : Value} (hb : Below w.heap.size w w1) (h0 : w.cell? ⟨x, 0, none⟩ = some v0) (h1 : w.cell? ⟨x, 1, none⟩ = some v1) (k0 : w.cell? ⟨y, 0, none⟩ = some u0) (k1 : w.cell? ⟨y, 1, none⟩ = some u1) :
    w1.cell? ⟨x, 0, none⟩ = some v0 ∧ w1.cell? ⟨x, 1, none⟩ = some v1 ∧ w1.cell? ⟨y, 0, none⟩ = some u0 ∧ w1.cell? ⟨y, 1, none⟩ = some u1 := ⟨cb hb h0, cb hb h1, cb hb k0, cb hb k1⟩
theorem MagP.grown' {w w' : World} {A : Option Addr} {n c z : Nat} {v : Int} (h : MagP w A n c v) (hz : IntB w z) (hg : w.grownBy w' (some z)) : MagP w' A n c v := by
  obtain ⟨xs, h⟩ := h
  obtain ⟨b0, A0, n0, c0, hk⟩ := hz
  have hne : ∀ ad, A = some ad → some ad.block ≠ some z := fun ad e k => by
    obtain ⟨cs, hb⟩ := h.typ ad e
    have : ad.block = z := by simpa using k
    subst this
    exact (hb.ne_ hk (by decide)) rfl
  exact ⟨xs, h.len, h.cap, h.can, h.reads.grown hg hne, fun ad e => by obtain ⟨cs, hb⟩ := h.typ ad e; exact ⟨cs, hb.grown hg (hne ad e)⟩, h.eq⟩
def RetQR (g r : Nat) (u v : Int) (w : World) (e : Ending) (w' : World) : Prop := e = .returned (.tuple #[.pointer (some ⟨g, 0, none⟩), .pointer (some ⟨r, 0, none⟩)]) ∧ Big w' g u ∧ Big w' r v ∧ ∃ w1, w.grownBy w1 (some r) ∧ w1.grownBy w' (some g)
set_option maxRecDepth 20000 in
set_option maxHeartbeats 4000000 in
theorem m_QuoRem (g r x y : Nat) (a b : Int) (w : World) (hz : IntB w g) (hzr : IntB w r) (hX : Big w x a) (hY : Big w y b) (hgr : g ≠ r) (hb0 : 0 < b) (hb1 : b < 4294967296) (hab : b ≤ a) (hbq : Bd (a / b)) (hbr : Bd (a % b)) :
    Calls Try.prog 50 #[.pointer (some ⟨g, 0, none⟩), .pointer (some ⟨x, 0, none⟩), .pointer (some ⟨y, 0, none⟩), .pointer (some ⟨r, 0, none⟩)] w (RetQR g r (a / b) (a % b) w) := by
  obtain ⟨neg, A, n, c, c0, c1, hM, hn, ha, hneg, h0⟩ := hX.parts
  obtain ⟨neg', A', n', c', d0, d1, hM', hn', ha', hneg', h0'⟩ := hY.parts
  have e1 : neg = false := by rw [hneg]; exact decide_eq_false (by omega)
  have e2 : neg' = false := by rw [hneg']; exact decide_eq_false (by omega)
  have e3 : ((a.natAbs : Nat) : Int) = a := by omega
  have e4 : ((b.natAbs : Nat) : Int) = b := by omega
  subst e1 e2
  rw [e3] at hM
  rw [e4] at hM'
  have e5 : n' = 1 := by
    obtain ⟨ys, hy⟩ := hM'
    have hl := hy.len
    have hv := hy.eq
    rcases Nat.lt_or_ge 1 n' with k | k
    · exfalso
      have h1 := hy.can.lower (by decide) (show ys ≠ [] by intro h; rw [h] at hl; simp at hl; omega)
      rw [← hv] at h1
      have h2 : (4294967296 : Int) ^ 1 ≤ 4294967296 ^ (ys.length - 1) := pow_le (by decide) (by omega)
      rw [Int.pow_succ, Int.pow_zero] at h2
      omega
    · have : n' ≠ 0 := by intro h; have := h0'.2 (by omega); omega
      omega
  subst e5
  have HD := Hd.mk (fun (w' : World) (hb : Below w.heap.size w w') => m_Div1 A A' n c c' a b w' (hM.below hb) (hM'.below hb) (by omega) hab)
  have HZ := Hd.mk (And.intro hz (And.intro hzr hgr))
  have HB := Hd.mk (And.intro hbq hbr)
  clear hz hzr hX hY hbq hbr hM hM' hn hn' ha ha' hneg hneg' h0 h0' e3 e4 hab hgr
  generalize a / b = u at *
  generalize a % b = v at *
  go_enter Try.func50, Try.ntmps50
  go_wp2_with fail
  go_region_held3 (fun w' => w'.cell? ⟨x, 0, none⟩ = some (.bool false) ∧ w'.cell? ⟨x, 1, none⟩ = some (.slice A n c) ∧ w'.cell? ⟨y, 0, none⟩ = some (.bool false) ∧ w'.cell? ⟨y, 1, none⟩ = some (.slice A' 1 c')) ((first | (exact keep3Q HB1.out c0 c1 d0 d1) | assumption | exact ⟨by assumption, by assumption, by assumption, by assumption⟩ | (refine ⟨?_, ?_, ?_, ?_⟩ <;> go_simp)))
    (first | (go_at_call 97; (with_reducible refine (HD.out _ (by (repeat (first | exact Below.refl _ _ | assumption | refine Below.drew ?_ | refine bdn ?_ | refine ba _ ?_ | refine bs0 _ _ ?_ ?_ | refine bs1 _ _ _ ?_ ?_ | refine bs2 _ _ _ _ ?_ ?_ | refine bs3 _ _ _ _ _ ?_ ?_ | refine bt3 (by assumption) ?_)))).mono ?_); rintro e w1 ⟨A1, n1, k1, A2, n2, k2, rfl, hM1, hM2, hb⟩; have HM := Hd.mk (And.intro hM1 hM2); have HB1 : Hd (Below w.heap.size w w1) := ⟨bt3 hb (by (repeat (first | exact Below.refl _ _ | assumption | refine Below.drew ?_ | refine bdn ?_ | refine ba _ ?_ | refine bs0 _ _ ?_ ?_ | refine bs1 _ _ _ ?_ ?_ | refine bs2 _ _ _ _ ?_ ?_ | refine bs3 _ _ _ _ _ ?_ ?_ | refine bt3 (by assumption) ?_)))⟩; clear hM1 hM2 hb))
  have b0 := cb HB1.out c0
  have b1 := cb HB1.out d0
  clear c0 c1 d0 d1
  have HR1 := Hd.mk (fun (w' : World) (hb : Below w1.heap.size w1 w') => m_PutM r false A2 n2 k2 v w' ((HZ.out.2.1.below HB1.out).below hb) (HM.out.2.below hb) HB.out.2)
  go_wp2_with fail
  go_quiet (fail)
  go_wp2_with (first | (go_at_call 98; (with_reducible refine (HR1.out _ (by (repeat (first | exact Below.refl _ _ | assumption | refine Below.drew ?_ | refine bdn ?_ | refine ba _ ?_ | refine bs0 _ _ ?_ ?_ | refine bs1 _ _ _ ?_ ?_ | refine bs2 _ _ _ _ ?_ ?_ | refine bs3 _ _ _ _ _ ?_ ?_ | refine bt3 (by assumption) ?_)))).mono ?_); rintro e w2 ⟨rfl, hB, hg⟩; have hg := bgrown (w := w1) (by (repeat (first | exact Below.refl _ _ | assumption | refine Below.drew ?_ | refine bdn ?_ | refine ba _ ?_ | refine bs0 _ _ ?_ ?_ | refine bs1 _ _ _ ?_ ?_ | refine bs2 _ _ _ _ ?_ ?_ | refine bs3 _ _ _ _ _ ?_ ?_ | refine bt3 (by assumption) ?_))) hg; have HR2 := Hd.mk (And.intro hB (And.intro hg (bgrown HB1.out hg))); have HG := Hd.mk (m_PutM g false A1 n1 k1 u w2 ((HZ.out.1.below HB1.out).grown hg HZ.out.2.2) (HM.out.1.grown' (HZ.out.2.1.below HB1.out) hg) HB.out.1); clear hB hg HR1) | (go_at_call 98; (with_reducible refine (HG.out).mono ?_); rintro e w3 ⟨rfl, hB, hg⟩; have HG3 := Hd.mk (And.intro hB hg); clear hB hg))
  refine bodyPost_ret (v := .tuple #[.pointer (some ⟨g, 0, none⟩), .pointer (some ⟨r, 0, none⟩)]) (by simp (maxDischargeDepth := 7) [results, Try.results50, go_sem]) rfl ?_
  exact ⟨rfl, HG3.out.1, HR2.out.1.grown' ((HZ.out.1.below HB1.out).grown HR2.out.2.1 HZ.out.2.2) HG3.out.2 (Ne.symm HZ.out.2.2), w2, HR2.out.2.2, HG3.out.2⟩
end Go.Proofs.Ytlaaielopcphiaa
