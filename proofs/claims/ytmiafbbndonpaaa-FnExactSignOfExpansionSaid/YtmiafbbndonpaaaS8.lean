/- Contracts: dyadic numbers of the reference. -/
import Derived.Test.YtmiafbbndonpaaaS7
set_option linter.unusedVariables false
set_option linter.unusedSimpArgs false
namespace Go.Proofs.Ytmiafbbndonpaaa
open Go.RowKit Num
/-- the scale in which values of dyadic numbers are told -/
def SC : Nat := 20000
/-- the value of m times 2^e, in the scale -/
def dv (m e : Int) : Int := m * 2 ^ (e + SC).toNat
/-- a dyadic number in its form -/
structure DyF (m e V : Int) (l : Nat) : Prop where
  val : V = dv m e
  lo : -(l : Int) ≤ e
  lsc : l ≤ SC
  hi : e ≤ 2400000
  zer : m = 0 → e = 0
  odd : m ≠ 0 → m % 2 = 1
  bd : Bd V
def DyP (w : World) (s : Int) (A : Option Addr) (n c : Nat) (e V : Int) (l : Nat) : Prop := ∃ m, WhP w s A n c m ∧ DyF m e V l
def DyO (w : World) (B : Nat) (s : Int) (A : Option Addr) (n c : Nat) (e V : Int) (l : Nat) : Prop := ∃ m, WhO w B s A n c m ∧ DyF m e V l
def RetD (V : Int) (l : Nat) (w : World) (e : Ending) (w' : World) : Prop := ∃ s A n c x, e = .returned (.agg #[.int .i64 s, .slice A n c, .int .i64 x]) ∧ DyO w' w.heap.size s A n c x V l ∧ Below w.heap.size w w'
theorem DyO.dp {w : World} {B : Nat} {s : Int} {A : Option Addr} {n c : Nat} {e V : Int} {l : Nat} (h : DyO w B s A n c e V l) : DyP w s A n c e V l := by
  obtain ⟨m, h1, h2⟩ := h; exact ⟨m, h1.wh, h2⟩
theorem DyO.mono {w : World} {B B' : Nat} {s : Int} {A : Option Addr} {n c : Nat} {e V : Int} {l : Nat} (h : DyO w B s A n c e V l) (hB : B' ≤ B) : DyO w B' s A n c e V l := by
  obtain ⟨m, h1, h2⟩ := h; exact ⟨m, h1.mono hB, h2⟩
theorem DyO.keep {w w' : World} {B : Nat} {s : Int} {A : Option Addr} {n c : Nat} {e V : Int} {l : Nat} (h : DyO w B s A n c e V l) (hb : Below w.heap.size w w') : DyO w' B s A n c e V l := by
  obtain ⟨m, h1, h2⟩ := h; exact ⟨m, h1.keep hb, h2⟩
theorem DyO.set {w : World} {B : Nat} {s : Int} {A : Option Addr} {n c : Nat} {e V : Int} {l : Nat} (h : DyO w B s A n c e V l) (g o : Nat) (hg : g < B) (u : Value) : DyO (w.setCell ⟨g, o, none⟩ u) B s A n c e V l := by
  obtain ⟨m, h1, h2⟩ := h; exact ⟨m, h1.set g o hg u, h2⟩
theorem DyP.below {w w' : World} {s : Int} {A : Option Addr} {n c : Nat} {e V : Int} {l : Nat} (h : DyP w s A n c e V l) (hb : Below w.heap.size w w') : DyP w' s A n c e V l := by
  obtain ⟨m, h1, h2⟩ := h; exact ⟨m, h1.below hb, h2⟩
theorem pow2_pos (k : Nat) : (0 : Int) < 2 ^ k := pow_pos' (by decide) k
theorem dv_bd {m e : Int} (h : Bd (dv m e)) : Bd m := by
  have hp := pow2_pos (e + SC).toNat
  unfold dv at h
  generalize (2 : Int) ^ (e + SC).toNat = p at *
  have h1 : m.natAbs * 1 ≤ m.natAbs * p.natAbs := Nat.mul_le_mul_left _ (by omega)
  rw [← Int.natAbs_mul] at h1
  unfold Bd at *
  generalize TOP = T at *
  omega
theorem dv_hi {m e : Int} (h : Bd (dv m e)) (hm : m ≠ 0) : e ≤ 2400000 := by
  have h1 : (2 : Int) ^ (e + SC).toNat ≤ (dv m e).natAbs := by
    unfold dv; rw [Int.natAbs_mul, Int.natAbs_pow]
    have h2 : 1 * 2 ^ (e + SC).toNat ≤ m.natAbs * 2 ^ (e + SC).toNat := Nat.mul_le_mul_right _ (by omega)
    have h3 : ((2 : Nat) ^ (e + SC).toNat : Nat) ≤ m.natAbs * (Int.natAbs 2) ^ (e + SC).toNat := by simpa using h2
    exact_mod_cast h3
  have h4 : ((dv m e).natAbs : Int) < TOP := by unfold Bd at h; generalize TOP = T at *; omega
  have h5 : TOP = 2 ^ (24 * 100000) := by unfold TOP; exact p24 100000
  rw [h5] at h4
  rcases Int.lt_or_le 2400000 e with h6 | h6
  · have h7 : (2 : Int) ^ (24 * 100000) ≤ 2 ^ (e + SC).toNat := pow_le (by decide) (by omega)
    exact absurd (Int.lt_of_lt_of_le h4 (Int.le_trans h7 h1)) (Int.lt_irrefl _)
  · exact h6

theorem bd_le {m a : Int} (h : m.natAbs ≤ a.natAbs) (hb : Bd a) : Bd m := by unfold Bd at *; generalize TOP = T at *; omega
theorem cut_le {s a v : Int} (k : Nat) (h : a = s * v) (hv : 0 ≤ v) : (s * (v / 2 ^ k)).natAbs ≤ a.natAbs := by
  rw [h, Int.natAbs_mul, Int.natAbs_mul]
  have h1 : v / 2 ^ k ≤ v := Int.ediv_le_self _ hv
  have h2 : 0 ≤ v / 2 ^ k := Int.ediv_nonneg hv (Int.le_of_lt (pow2_pos k))
  exact Nat.mul_le_mul_left _ (by omega)
theorem dy_cut {s a v e V : Int} {k l : Nat} (ha : a = s * v) (hs : s = 1 ∨ s = -1) (hv : 0 < v) (hm : v % 2 ^ k = 0) (ho : v / 2 ^ k % 2 = 1) (hV : V = dv a e) (hl : -(l : Int) ≤ e) (hls : l ≤ SC) (hb : Bd V) : DyF (s * (v / 2 ^ k)) (e + k) V l := by
  have e1 : v = 2 ^ k * (v / 2 ^ k) := by have := Int.mul_ediv_add_emod v (2 ^ k); omega
  have hV2 : V = dv (s * (v / 2 ^ k)) (e + k) := by
    have h5 : (e + k + SC).toNat = (e + SC).toNat + k := by omega
    rw [hV, ha]
    unfold dv
    rw [h5, Int.pow_add]
    conv => lhs; rw [e1]
    rw [Int.mul_comm (2 ^ k) (v / 2 ^ k), Int.mul_assoc, Int.mul_assoc, Int.mul_assoc, Int.mul_comm (2 ^ k)]
  have hu : v / 2 ^ k ≠ 0 := by intro h; rw [h] at ho; simp at ho
  have hm0 : s * (v / 2 ^ k) ≠ 0 := by rcases hs with rfl | rfl <;> omega
  refine ⟨hV2, by omega, hls, dv_hi (by rw [← hV2]; exact hb) hm0, fun h => absurd h hm0, fun _ => ?_, hb⟩
  rcases hs with rfl | rfl <;> omega
set_option maxHeartbeats 4000000 in
theorem s_DMake (s : Int) (A : Option Addr) (n c : Nat) (a x : Int) (l : Nat) (w : World) (hX : WhP w s A n c a) (hl : -(l : Int) ≤ x) (hls : l ≤ SC) (hx : x ≤ 2400000) (hb : Bd (dv a x)) :
    Calls Try.prog 118 #[.agg #[.int .i64 s, .slice A n c], .int .i64 x] w (RetD (dv a x) l w) := by
  obtain ⟨xs, hX⟩ := hX.opened
  have HX : Hd (WhD w s A n c xs a) := ⟨hX⟩
  have HL : Hd (-(l : Int) ≤ x ∧ l ≤ SC) := ⟨⟨hl, hls⟩⟩
  have HB0 : Hd (Bd (dv a x)) := ⟨hb⟩
  have hx0 : -20000 ≤ x := by have h2 : (SC : Int) = 20000 := rfl; omega
  have hnI : (n : Int) ≤ 100000 := by have := hX.lim5; omega
  by_cases h0 : s = 0
  · have ha : a = 0 := hX.num.zero.1 h0
    have HV : Hd (DyF 0 0 (dv a x) l) := ⟨⟨by rw [ha]; unfold dv; simp, by omega, hls, by omega, fun _ => rfl, fun h => absurd rfl h, hb⟩⟩
    clear hX hl hls hb ha
    subst h0
    go_enter Try.func118, Try.ntmps118
    go_wp2_with fail
    refine bodyPost_ret (v := .agg #[.int .i64 0, .slice none 0 0, .int .i64 0]) (by simp (maxDischargeDepth := 7) [results, Try.results118, go_sem, *]) rfl ⟨0, none, 0, 0, 0, rfl, ⟨0, ⟨[], rfl, by omega, ⟨Canon.nil _, .inl ⟨rfl, rfl⟩, rfl⟩, World.ownsRow_nil _ _ _ _⟩, HV.out⟩, ?_⟩
    (repeat (first | exact Below.refl _ _ | assumption | refine Below.drew ?_ | refine below_drewN ?_ _ | refine ba _ ?_ | refine bs0 _ _ ?_ ?_ | refine bs1 _ _ _ ?_ ?_ | refine bs2 _ _ _ _ ?_ ?_ | refine bt3 (by assumption) ?_))
  · have HS0 : Hd (s ≠ 0) := ⟨h0⟩
    have HS1 : Hd (s = 1 ∨ s = -1) := ⟨(hX.num.one h0).1⟩
    have HV0 : Hd (0 < val 16777216 xs) := ⟨(hX.num.one h0).2.1⟩
    have hd : (s == 0) = false := by simpa using h0
    clear hX hl hls hb h0
    go_enter Try.func118, Try.ntmps118
    go_wp2_with (first
      | (go_at_call 178; (with_reducible refine (s_Twos s A n c xs a _ (HX.out.below (by (repeat (first | exact Below.refl _ _ | assumption | refine Below.drew ?_ | refine below_drewN ?_ _ | refine ba _ ?_ | refine bs0 _ _ ?_ ?_ | refine bs1 _ _ _ ?_ ?_ | refine bs2 _ _ _ _ ?_ ?_ | refine bt3 (by assumption) ?_)))) HS0.out).mono ?_); rintro e' w1 ⟨⟨k, rfl, hk, hk1, hk2⟩, hq⟩; have hkI : (k : Int) ≤ 2400000 := (by omega); have HK : Hd (k ≤ 10000000 ∧ val 16777216 xs % 2 ^ k = 0 ∧ val 16777216 xs / 2 ^ k % 2 = 1) := ⟨⟨(by omega), hk1, hk2⟩⟩; have HBC : Hd (Bd (s * (val 16777216 xs / 2 ^ k))) := ⟨bd_le (cut_le k HX.out.num.eq (Int.le_of_lt HV0.out)) (dv_bd HB0.out)⟩; clear hk hk1 hk2; obtain ⟨hc, hf, hz, hy⟩ := bcell hq; have hs := hq.size; (try simp at hs); have HZ : Hd (w.heap.size + 1 + 1 ≤ w1.heap.size) := ⟨(by omega)⟩; clear hs)
      | (go_at_call 179; (with_reducible refine (s_Cut s A n c xs a k _ (HX.out.below (by (repeat (first | exact Below.refl _ _ | assumption | refine Below.drew ?_ | refine below_drewN ?_ _ | refine ba _ ?_ | refine bs0 _ _ ?_ ?_ | refine bs1 _ _ _ ?_ ?_ | refine bs2 _ _ _ _ ?_ ?_ | refine bt3 (by assumption) ?_)))) HK.out.1 HBC.out).mono ?_); rintro e' w2 ⟨s2, A2, n2, c2, rfl, hW, hq2⟩; clear hc hf hz hy; replace hq := bt3 hq2 hq; have HW2 : Hd (WhO w2 (w.heap.size + 1 + 1) s2 A2 n2 c2 (s * (val 16777216 xs / 2 ^ k))) := ⟨hW.mono HZ.out⟩; clear hW hq2; obtain ⟨hc, hf, hz, hy⟩ := bcell hq; have hs := hq.size; (try simp at hs); have h0' : w.heap.size < w2.heap.size := (by omega); have h1' : w.heap.size + 1 < w2.heap.size := (by omega); clear hs))
    refine bodyPost_ret (v := .agg #[.int .i64 s2, .slice A2 n2 c2, .int .i64 (x + k)]) (by simp (maxDischargeDepth := 7) [results, Try.results118, go_sem, *]) rfl ⟨s2, A2, n2, c2, x + k, rfl, ⟨_, (((HW2.out.set _ _ (by omega) _).set _ _ (by omega) _).set _ _ (by omega) _).mono (by omega), dy_cut HX.out.num.eq HS1.out HV0.out HK.out.2.1 HK.out.2.2 rfl HL.out.1 HL.out.2 HB0.out⟩, ?_⟩
    (repeat (first | exact Below.refl _ _ | assumption | refine Below.drew ?_ | refine below_drewN ?_ _ | refine ba _ ?_ | refine bs0 _ _ ?_ ?_ | refine bs1 _ _ _ ?_ ?_ | refine bs2 _ _ _ _ ?_ ?_ | refine bt3 (by assumption) ?_))

end Go.Proofs.Ytmiafbbndonpaaa
