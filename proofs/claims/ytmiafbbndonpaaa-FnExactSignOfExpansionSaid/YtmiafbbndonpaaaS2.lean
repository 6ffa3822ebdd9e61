/- Contracts: sums and differences of limbs, whole numbers of integers, of the reference. -/
import Derived.Test.YtmiafbbndonpaaaS1
set_option linter.unusedVariables false
set_option linter.unusedSimpArgs false
namespace Go.Proofs.Ytmiafbbndonpaaa
open Go.RowKit Num
/-- one number put behind a row of the call's own -/
theorem wpList_push64 {ops : Array Oper} {rest : List Oper} {o : Oper} {a : Act} {Q : Exit → Act → World → Prop} (w : World) (hgd : o.guard = none) (s x : Operand)
    (ho : o.op = .call { callee := .builtin .append, args := #[s, x], argTypes := #[31, 31] })
    (B : Nat) (v : Value) (xs : List Int) (hs : a.eval s = v) (hown : O64 w B v xs) (g c : Nat) (y : Int) (hx : a.eval x = .slice (some ⟨g, 0, none⟩) 1 c) (hc : w.cell? ⟨g, 0, none⟩ = some (.int .i64 y))
    (hl : xs.length < LIM) (hB : B ≤ w.heap.size)
    (h : ∀ v' w', O64 w' B v' (xs ++ [y]) → Below B w w' → wpList Try.prog ops Q rest (a.put o.dst v') w') : wpList Try.prog ops Q (o :: rest) a w := by
  obtain ⟨i0, hi0, hz0, hz1, hz2⟩ := info_parts info64
  refine wpList_append_own w hgd s x 31 ho B 2 i0 _ 1 8 Try.underlying31 hi0 hz0 hz1 hz2 rfl (by omega) v xs.length (c64 xs) hs hown ⟨g, 0, none⟩ 1 c [.int .i64 y] hx rfl ?_ ?_ ?_ ?_ hB ?_
  · intro j u hj
    match j, hj with
    | 0, hj => simp at hj; subst hj; simpa [Addr.add] using hc
  · intro u hu; simp at hu; subst hu; rfl
  · unfold LIM at hl; unfold maxLen; omega
  · unfold LIM at hl; omega
  · intro v' w' h1 h2 _
    refine h v' w' ?_ ?_
    · unfold O64; rw [c64_append, List.length_append]; exact h1
    · refine (Below.refl _ _).grown h2 hB ?_
      intro k hk
      rcases hown.2 with ⟨rfl, _⟩ | ⟨g', cap, cur, rfl, hg, _⟩
      · simp [Value.ownBlock] at hk
      · have : g' = k := by simpa [Value.ownBlock] using hk
        omega
theorem O64.alloc {w : World} {B : Nat} {v : Value} {xs : List Int} (h : O64 w B v xs) (o : Obj) : O64 (w.alloc o) B v xs := h.keep ((Below.refl _ _).alloc (Nat.le_refl _) o)
theorem O64.drewN {w : World} {B : Nat} {v : Value} {xs : List Int} (h : O64 w B v xs) (n : Nat) : O64 (w.drewN n) B v xs := h.keep (by first | exact below_drewN _ (Below.refl _ _) | exact below_drewN (Below.refl _ _) _)
theorem bel_up {B : Nat} {w w1 w2 : World} (h : Below B w w1) (k : Below B w1 w2) : Below B w w2 := h.trans k
/-- a bound on whole numbers, kept behind a name -/
def TOP : Int := 16777216 ^ 100000
def Bd (a : Int) : Prop := -TOP < a ∧ a < TOP
/-- a whole number of the reference as it lies in memory -/
def WhP (w : World) (s : Int) (A : Option Addr) (n c : Nat) (a : Int) : Prop := ∃ xs, n = xs.length ∧ n ≤ c ∧ n ≤ 100000 ∧ NumS s xs a ∧ R64 w A xs
/-- a whole number in a row of the call's own, from block B on -/
def WhO (w : World) (B : Nat) (s : Int) (A : Option Addr) (n c : Nat) (a : Int) : Prop := ∃ xs, n = xs.length ∧ n ≤ 100000 ∧ NumS s xs a ∧ O64 w B (.slice A n c) xs
def RetWh (a : Int) (w : World) (e : Ending) (w' : World) : Prop := ∃ s A n c, e = .returned (.agg #[.int .i64 s, .slice A n c]) ∧ WhO w' w.heap.size s A n c a ∧ Below w.heap.size w w'
theorem WhP.below {w w' : World} {s : Int} {A : Option Addr} {n c : Nat} {a : Int} (h : WhP w s A n c a) (hb : Below w.heap.size w w') : WhP w' s A n c a := by
  obtain ⟨xs, h1, h2, h3, h4, h5⟩ := h
  exact ⟨xs, h1, h2, h3, h4, h5.below hb⟩
theorem O64.cap {w : World} {B n c : Nat} {A : Option Addr} {xs : List Int} (h : O64 w B (.slice A n c) xs) : n = xs.length ∧ n ≤ c := by
  rcases h.2 with ⟨h1, h2⟩ | ⟨g, cap, cur, h1, h2⟩
  · injection h1 with h3 h4 h5; omega
  · injection h1 with h3 h4 h5; subst h4 h5; exact ⟨rfl, h2.2.2.1⟩
theorem NumS.len {s : Int} {xs : List Int} {a : Int} (h : NumS s xs a) (hb : Bd a) : xs.length ≤ 100000 := by
  rcases h.sgn with ⟨_, e⟩ | ⟨hs, e⟩
  · subst e; simp
  · have h1 := h.can.lower (by decide) e
    have h2 : val 16777216 xs < TOP := by
      have := h.eq; unfold Bd at hb
      rcases hs with rfl | rfl <;> omega
    rcases Nat.lt_or_ge 100000 xs.length with h3 | h3
    · have h4 : (16777216 : Int) ^ 100000 ≤ 16777216 ^ (xs.length - 1) := pow_le (by decide) (by omega)
      unfold TOP at h2
      exact absurd (Int.lt_of_le_of_lt (Int.le_trans h4 h1) h2) (Int.lt_irrefl _)
    · exact h3
theorem RetW.wh {a : Int} {w : World} {e : Ending} {w' : World} (h : RetW a w e w') (hb : Bd a) : RetWh a w e w' := by
  obtain ⟨s, A, n, c, xs, he, hn, hs, ho, hf⟩ := h
  exact ⟨s, A, n, c, he, ⟨xs, hn, by rw [hn]; exact hs.len hb, hs, ho⟩, hf⟩
theorem O64.reads {w : World} {B n c : Nat} {A : Option Addr} {xs : List Int} (h : O64 w B (.slice A n c) xs) : R64 w A xs := by
  obtain ⟨A', c', e', hr⟩ := h.form
  injection e' with e1 e2 e3; subst e1; exact hr
theorem WhO.wh {w : World} {B : Nat} {s : Int} {A : Option Addr} {n c : Nat} {a : Int} (h : WhO w B s A n c a) : WhP w s A n c a := by
  obtain ⟨xs, h1, h2, h3, h4⟩ := h
  exact ⟨xs, h1, h4.cap.2, h2, h3, h4.reads⟩
theorem WhO.mono {w : World} {B B' : Nat} {s : Int} {A : Option Addr} {n c : Nat} {a : Int} (h : WhO w B s A n c a) (hB : B' ≤ B) : WhO w B' s A n c a := by
  obtain ⟨xs, h1, h2, h3, h4⟩ := h
  exact ⟨xs, h1, h2, h3, h4.mono hB⟩
theorem WhO.keep {w w' : World} {B : Nat} {s : Int} {A : Option Addr} {n c : Nat} {a : Int} (h : WhO w B s A n c a) (hb : Below w.heap.size w w') : WhO w' B s A n c a := by
  obtain ⟨xs, h1, h2, h3, h4⟩ := h
  exact ⟨xs, h1, h2, h3, h4.keep hb⟩
theorem WhO.set {w : World} {B : Nat} {s : Int} {A : Option Addr} {n c : Nat} {a : Int} (h : WhO w B s A n c a) (g o : Nat) (hg : g < B) (u : Value) : WhO (w.setCell ⟨g, o, none⟩ u) B s A n c a := by
  obtain ⟨xs, h1, h2, h3, h4⟩ := h
  exact ⟨xs, h1, h2, h3, ownsRow_setCell_below h4 (by simpa using hg) _⟩
theorem s_MakeW (sg : Int) (A : Option Addr) (n c : Nat) (xs : List Int) (a : Int) (w : World) (hl : n = xs.length) (h : R64 w A xs) (hn : n ≤ LIM) (hcap : n ≤ c) (hr : Rng 16777216 xs) (hs : sg = 1 ∨ sg = -1 ∨ val 16777216 xs = 0) (ha : a = sg * val 16777216 xs) (hb : Bd a) :
    Calls Try.prog 211 #[.int .i64 sg, .slice A n c] w (RetWh a w) := by
  subst ha hl
  exact (s_MakeL sg A c xs w h hn hcap hr hs).mono fun e w' hw => hw.wh hb
/-- carries: one step of a sum -/
theorem plus_step {z x y c : Int} {n : Nat} {X Y : Int} (h : z + 16777216 ^ n * c = X + Y) : (z + 16777216 ^ n * ((c + x + y) % 16777216)) + 16777216 ^ (n + 1) * ((c + x + y) / 16777216) = (X + 16777216 ^ n * x) + (Y + 16777216 ^ n * y) := by
  have e := Int.mul_ediv_add_emod (c + x + y) 16777216
  generalize (c + x + y) / 16777216 = q at *
  generalize (c + x + y) % 16777216 = r at *
  rw [Int.pow_succ]
  generalize (16777216 : Int) ^ n = p at *
  have e2 := congrArg (p * ·) e
  simp only [Int.mul_add] at e2
  have e3 : p * 16777216 * q = p * (16777216 * q) := by rw [Int.mul_assoc]
  rw [e3]; omega
/-- borrows: one step of a difference -/
theorem minus_step {z x y b t : Int} {n : Nat} {X Y b' : Int} (h : z - 16777216 ^ n * b = X - Y) (ht : t - 16777216 * b' = x - b - y) : (z + 16777216 ^ n * t) - 16777216 ^ (n + 1) * b' = (X + 16777216 ^ n * x) - (Y + 16777216 ^ n * y) := by
  rw [Int.pow_succ, Int.mul_assoc]
  generalize (16777216 : Int) ^ n = p at *
  have e2 := congrArg (p * ·) ht
  simp only [Int.mul_sub] at e2
  omega
/-- what a round of a sum leaves -/
def PlusR (xs ys : List Int) (k : Nat) (c : Int) (zs : List Int) : Prop :=
  zs.length = k ∧ Rng 16777216 zs ∧ val 16777216 zs + 16777216 ^ k * c = val 16777216 (xs.take k) + val 16777216 (ys.take k)
theorem PlusR.next {xs ys zs : List Int} {k : Nat} {c t c' : Int} (h : PlusR xs ys k c zs) (ht : t = (c + xs.getD k 0 + ys.getD k 0) % 16777216) (hc : c' = (c + xs.getD k 0 + ys.getD k 0) / 16777216) : PlusR xs ys (k + 1) c' (zs ++ [t]) := by
  obtain ⟨h1, h2, h3⟩ := h
  subst ht hc
  refine ⟨by simp [h1], h2.snoc (by omega) (by omega), ?_⟩
  rw [val_snoc, val_take_succ, val_take_succ, h1]
  exact plus_step h3
theorem getD_far {xs : List Int} {k : Nat} (h : xs.length ≤ k) : xs.getD k 0 = 0 := by rw [List.getD_eq_getElem?_getD, List.getElem?_eq_none h]; rfl
set_option maxHeartbeats 4000000 in
theorem s_PlusL (A A' : Option Addr) (n m c c' : Nat) (xs ys : List Int) (w : World) (hn : n = xs.length) (hm : m = ys.length) (h : R64 w A xs) (h' : R64 w A' ys) (hr : Rng 16777216 xs) (hr' : Rng 16777216 ys) (hl : n ≤ 100000) (hl' : m ≤ 100000) :
    Calls Try.prog 216 #[.slice A n c, .slice A' m c'] w (RetO (fun zs => Rng 16777216 zs ∧ zs.length ≤ 100001 ∧ val 16777216 zs = val 16777216 xs + val 16777216 ys) w) := by
  have HX : Hd (R64 w A xs) := ⟨h⟩
  have HY : Hd (R64 w A' ys) := ⟨h'⟩
  have HG : Hd (Rng 16777216 xs ∧ Rng 16777216 ys) := ⟨⟨hr, hr'⟩⟩
  have HN : Hd (n = xs.length ∧ m = ys.length) := ⟨⟨hn, hm⟩⟩
  have HM : Hd (n ≤ 100000 ∧ m ≤ 100000) := ⟨⟨hl, hl'⟩⟩
  clear h h' hr hr' hn hm hl hl'
  go_enter Try.func216, Try.ntmps216
  go_wp2
  go_loopw [5, 6, 7] (fun v c i wr => ∃ (k : Nat) (q : Int) (zs : List Int), (k : Int) ≤ 100001 ∧ i = .int .i64 k ∧ c = .int .i64 q ∧ 0 ≤ q ∧ q ≤ 1 ∧ (q = 1 → k ≤ n ∨ k ≤ m) ∧ Hd (PlusR xs ys k q zs) ∧ Hd (O64 wr w.heap.size v zs) ∧ Hd (Below w.heap.size w wr))
    (fun _ _ i _ => 100001 - (intOf i).toNat)
  case atStart =>
    refine ⟨0, 0, [], by omega, rfl, rfl, by omega, by omega, by omega, ⟨rfl, Rng.nil _, rfl⟩, ⟨own_empty w w.heap.size (Nat.le_refl _)⟩, ⟨(Below.refl _ _).alloc (Nat.le_refl _) _⟩⟩
  case round =>
    obtain ⟨k, q, zs, hk, rfl, rfl, hq0, hq1, hqk, HP, HO, HB⟩ := hrel
    have HL : Hd (zs.length < LIM) := ⟨by rw [HP.out.1]; unfold LIM; omega⟩
    by_cases h1 : k < n
    · by_cases h2 : k < m
      · obtain ⟨ad, rfl, hcx⟩ := HX.out.at_ (k := k) (by have := HN.out; omega)
        have hgx := HG.out.1.getD (by decide) k
        replace hcx := (HB.out.cell (World.block_lt_of_cell? w _ hcx)).trans hcx
        generalize hex : xs.getD k 0 = x at *
        have HEx : Hd (xs.getD k 0 = x) := ⟨hex⟩
        clear hex
        obtain ⟨ad', rfl, hcy⟩ := HY.out.at_ (k := k) (by have := HN.out; omega)
        have hgy := HG.out.2.getD (by decide) k
        replace hcy := (HB.out.cell (World.block_lt_of_cell? w _ hcy)).trans hcy
        generalize hey : ys.getD k 0 = y at *
        have HEy : Hd (ys.getD k 0 = y) := ⟨hey⟩
        clear hey
        go_wp2_with (at_builtin; refine wpList_push64 _ rfl (.tmp 45) (.tmp 48) rfl w.heap.size _ zs rfl (HO.out.alloc _) wr.heap.size 1 _ rfl ((Blk.new _ _ _).cell 0) HL.out (by simp; exact Nat.le_succ_of_le HB.out.size) ?_; intro v1 w1 ho1 hb1; have HO1 : Hd (O64 w1 w.heap.size v1 _) := ⟨ho1⟩; have HB1 : Hd (Below w.heap.size w w1) := ⟨((HB.out.alloc HB.out.size _)).trans hb1⟩; clear ho1 hb1)
        go_roundw
        case rel =>
          have hM := HM.out
          refine ⟨k + 1, (q + x + y) / 16777216, zs ++ [(q + x + y) % 16777216], by omega, by go_num, by go_num, by omega, by omega, by omega, ⟨HP.out.next (by rw [HEx.out, HEy.out]) (by rw [HEx.out, HEy.out])⟩, ?_, HB1⟩
          go_num
        case measure => have hM := HM.out; simp [intOf]; omega
      · obtain ⟨ad, rfl, hcx⟩ := HX.out.at_ (k := k) (by have := HN.out; omega)
        have hgx := HG.out.1.getD (by decide) k
        replace hcx := (HB.out.cell (World.block_lt_of_cell? w _ hcx)).trans hcx
        generalize hex : xs.getD k 0 = x at *
        have HEx : Hd (xs.getD k 0 = x) := ⟨hex⟩
        clear hex
        have HEy : Hd (ys.getD k 0 = 0) := ⟨getD_far (by have := HN.out; omega)⟩
        go_wp2_with (at_builtin; refine wpList_push64 _ rfl (.tmp 45) (.tmp 48) rfl w.heap.size _ zs rfl (HO.out.alloc _) wr.heap.size 1 _ rfl ((Blk.new _ _ _).cell 0) HL.out (by simp; exact Nat.le_succ_of_le HB.out.size) ?_; intro v1 w1 ho1 hb1; have HO1 : Hd (O64 w1 w.heap.size v1 _) := ⟨ho1⟩; have HB1 : Hd (Below w.heap.size w w1) := ⟨((HB.out.alloc HB.out.size _)).trans hb1⟩; clear ho1 hb1)
        go_roundw
        case rel =>
          have hM := HM.out
          refine ⟨k + 1, (q + x + 0) / 16777216, zs ++ [(q + x + 0) % 16777216], by omega, by go_num, by go_num, by omega, by omega, by omega, ⟨HP.out.next (by rw [HEx.out, HEy.out]) (by rw [HEx.out, HEy.out])⟩, ?_, HB1⟩
          go_num
        case measure => have hM := HM.out; simp [intOf]; omega
    · by_cases h2 : k < m
      · have HEx : Hd (xs.getD k 0 = 0) := ⟨getD_far (by have := HN.out; omega)⟩
        obtain ⟨ad', rfl, hcy⟩ := HY.out.at_ (k := k) (by have := HN.out; omega)
        have hgy := HG.out.2.getD (by decide) k
        replace hcy := (HB.out.cell (World.block_lt_of_cell? w _ hcy)).trans hcy
        generalize hey : ys.getD k 0 = y at *
        have HEy : Hd (ys.getD k 0 = y) := ⟨hey⟩
        clear hey
        go_wp2_with (at_builtin; refine wpList_push64 _ rfl (.tmp 45) (.tmp 48) rfl w.heap.size _ zs rfl (HO.out.alloc _) wr.heap.size 1 _ rfl ((Blk.new _ _ _).cell 0) HL.out (by simp; exact Nat.le_succ_of_le HB.out.size) ?_; intro v1 w1 ho1 hb1; have HO1 : Hd (O64 w1 w.heap.size v1 _) := ⟨ho1⟩; have HB1 : Hd (Below w.heap.size w w1) := ⟨((HB.out.alloc HB.out.size _)).trans hb1⟩; clear ho1 hb1)
        go_roundw
        case rel =>
          have hM := HM.out
          refine ⟨k + 1, (q + 0 + y) / 16777216, zs ++ [(q + 0 + y) % 16777216], by omega, by go_num, by go_num, by omega, by omega, by omega, ⟨HP.out.next (by rw [HEx.out, HEy.out]) (by rw [HEx.out, HEy.out])⟩, ?_, HB1⟩
          go_num
        case measure => have hM := HM.out; simp [intOf]; omega
      · by_cases h3 : 0 < q
        · have HEx : Hd (xs.getD k 0 = 0) := ⟨getD_far (by have := HN.out; omega)⟩
          have HEy : Hd (ys.getD k 0 = 0) := ⟨getD_far (by have := HN.out; omega)⟩
          go_wp2_with (at_builtin; refine wpList_push64 _ rfl (.tmp 45) (.tmp 48) rfl w.heap.size _ zs rfl (HO.out.alloc _) wr.heap.size 1 _ rfl ((Blk.new _ _ _).cell 0) HL.out (by simp; exact Nat.le_succ_of_le HB.out.size) ?_; intro v1 w1 ho1 hb1; have HO1 : Hd (O64 w1 w.heap.size v1 _) := ⟨ho1⟩; have HB1 : Hd (Below w.heap.size w w1) := ⟨((HB.out.alloc HB.out.size _)).trans hb1⟩; clear ho1 hb1)
          go_roundw
          case rel =>
            have hM := HM.out
            refine ⟨k + 1, (q + 0 + 0) / 16777216, zs ++ [(q + 0 + 0) % 16777216], by omega, by go_num, by go_num, by omega, by omega, by omega, ⟨HP.out.next (by rw [HEx.out, HEy.out]) (by rw [HEx.out, HEy.out])⟩, ?_, HB1⟩
            go_num
          case measure => have hM := HM.out; simp [intOf]; omega
        · obtain rfl : q = 0 := by omega
          obtain ⟨A1, c1, hv, _⟩ := HO.out.form
          have HV : Hd (val 16777216 zs = val 16777216 xs + val 16777216 ys) := ⟨by
            have h := HP.out.2.2
            have hN := HN.out
            rw [List.take_of_length_le (by omega), List.take_of_length_le (by omega)] at h
            omega⟩
          subst hv
          go_wp2
          go_ret
          refine ⟨A1, _, c1, zs, rfl, rfl, ⟨HP.out.2.1, ?_, HV.out⟩, HO.out, HB.out⟩
          rw [HP.out.1]; omega
end Go.Proofs.Ytmiafbbndonpaaa
