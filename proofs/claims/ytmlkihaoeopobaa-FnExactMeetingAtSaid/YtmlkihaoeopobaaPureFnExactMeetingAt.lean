/- Proved here: the pure statement of FnExactMeetingAt: program and reference count the same matches that meet at a corner. Conditions: the numbers are 64 bit integers, the lists are no longer than a slice can be. -/
import Derived.Test.YtmlkihaoeopobaaQFnExactMeetingAtx10
set_option linter.unusedVariables false
set_option linter.unusedSimpArgs false
namespace Go.Proofs.Ytmlkihaoeopobaa.Pure
open Go.RowKit Go.Proofs.Ytmlkihaoeopobaa.Q Go.Proofs.YtmlkihaoeopobaaW.PrintWords Go.Proofs.YtmlkihaoeopobaaW.PrintLast

/-! ### base: wrapping, 'from some number of rounds on', loops -/
theorem w64 {n : Int} (h0 : -9223372036854775808 ≤ n) (h1 : n ≤ 9223372036854775807) : wrap64 n = n := by unfold wrap64; omega
theorem wf64 {x : Int} (h : (Lit.int .i64 x).wf = true) : -9223372036854775808 ≤ x ∧ x ≤ 9223372036854775807 := by
  simp [Lit.wf, IntKind.min, IntKind.max, IntKind.signed, IntKind.bits] at h
  omega
theorem maxLen_le {n : Nat} (h : n ≤ maxLen) : n ≤ 9223372036854775807 := by unfold maxLen at h; omega
theorem Ev.both {α β : Type} {g : Nat → Option α} {f : Nat → Option β} {a : α} {b : β} (h : Ev g a) (k : Ev f b) : ∃ K, ∀ n, K ≤ n → g n = some a ∧ f n = some b := by
  obtain ⟨K, h⟩ := h
  obtain ⟨K', k⟩ := k
  exact ⟨max K K', fun n hn => ⟨h n (by omega), k n (by omega)⟩⟩
theorem Ev.const {α : Type} {x : Option α} {r : α} (h : x = some r) : Ev (fun _ => x) r := ⟨0, fun _ _ => h⟩
/-- A loop from lo on that ends early with 'bad', or runs through. -/
theorem all_ev {β : Type} (g : Nat → Int → Option β) (p : Nat → Bool) (good bad : β) (lo n : Nat)
    (hgood : ∀ i r, lo ≤ i → i < n → p i = true → Ev (fun k => g k ((i + 1 : Nat) : Int)) r → Ev (fun k => g k (i : Int)) r)
    (hbad : ∀ i, lo ≤ i → i < n → p i = false → Ev (fun k => g k (i : Int)) bad)
    (fin : ∀ i, n ≤ i → i ≤ n + lo → Ev (fun k => g k (i : Int)) good) : ∀ d a, n - a = d → lo ≤ a → a ≤ n + lo → Ev (fun k => g k (a : Int)) (if (List.range' a (n - a)).all p = true then good else bad) := by
  intro d
  induction d with
  | zero =>
    intro a ha hlo hle
    rw [ha]
    simpa using fin a (by omega) hle
  | succ d ih =>
    intro a ha hlo hle
    rw [ha, List.range'_succ, List.all_cons]
    cases hp : p a with
    | true =>
      have := ih (a + 1) (by omega) (by omega) (by omega)
      rw [show n - (a + 1) = d by omega] at this
      simp only [Bool.true_and]
      exact hgood a _ hlo (by omega) hp this
    | false =>
      simp only [Bool.false_and]
      exact hbad a hlo (by omega) hp
/-- The same where it answers whether all held. -/
theorem all_evB (g : Nat → Int → Option Bool) (p : Nat → Bool) (lo n : Nat)
    (hgood : ∀ i r, lo ≤ i → i < n → p i = true → Ev (fun k => g k ((i + 1 : Nat) : Int)) r → Ev (fun k => g k (i : Int)) r)
    (hbad : ∀ i, lo ≤ i → i < n → p i = false → Ev (fun k => g k (i : Int)) false)
    (fin : ∀ i, n ≤ i → i ≤ n + lo → Ev (fun k => g k (i : Int)) true) : Ev (fun k => g k (lo : Int)) ((List.range' lo (n - lo)).all p) := by
  have h := all_ev g p true false lo n hgood hbad fin (n - lo) lo rfl (Nat.le_refl _) (by omega)
  cases hb : (List.range' lo (n - lo)).all p <;> simpa [hb] using h
/-- A loop that carries a state s; P: what is known of it. -/
theorem fold_ev {σ β : Type} (g : Nat → σ → Int → Option β) (f : σ → Nat → σ) (h : σ → β) (P : Nat → σ → Prop) (n : Nat)
    (step : ∀ s i r, i < n → P i s → (P (i + 1) (f s i) ∧ (Ev (fun k => g k (f s i) ((i + 1 : Nat) : Int)) r → Ev (fun k => g k s (i : Int)) r)))
    (fin : ∀ s, P n s → Ev (fun k => g k s (n : Int)) (h s)) : ∀ d a s, n - a = d → a ≤ n → P a s → Ev (fun k => g k s (a : Int)) (h ((List.range' a (n - a)).foldl f s)) := by
  intro d
  induction d with
  | zero =>
    intro a s ha hle hP
    obtain rfl : a = n := by omega
    simpa using fin s hP
  | succ d ih =>
    intro a s ha hle hP
    rw [ha, List.range'_succ, List.foldl_cons]
    have := step s a (h ((List.range' (a + 1) d).foldl f (f s a))) (by omega) hP
    refine this.2 ?_
    have h2 := ih (a + 1) (f s a) (by omega) (by omega) this.1
    rw [show n - (a + 1) = d by omega] at h2
    exact h2
theorem rd_nat (l : List Int) (i : Nat) (h : i < l.length) : rd l (i : Int) = l[i] := by unfold rd; rw [Int.toNat_natCast]; simp [List.getD_eq_getElem?_getD, h]
theorem all_range (l : List Int) (q : Int → Bool) : (List.range' 0 l.length).all (fun i => q (rd l (i : Int))) = l.all q := by
  rw [Bool.eq_iff_iff, List.all_eq_true, List.all_eq_true]
  constructor
  · intro h x hx
    obtain ⟨i, hi, rfl⟩ := List.getElem_of_mem hx
    have := h i (by simp; omega)
    rwa [rd_nat l i hi] at this
  · intro h i hi
    have hi : i < l.length := by simp at hi; omega
    rw [rd_nat l i hi]
    exact h _ (List.getElem_mem hi)
/-- Strictly increasing. -/
def incr (l : List Int) : Bool := (List.range' 1 (l.length - 1)).all fun i => decide (rd l (i : Int) > rd l ((i : Int) - 1))
theorem incr_iff (l : List Int) : incr l = true ↔ ∀ i, ∀ h : i + 1 < l.length, l[i] < l[i + 1] := by
  unfold incr
  rw [List.all_eq_true]
  constructor
  · intro h i hi
    have := h (i + 1) (by simp; omega)
    rw [rd_nat l (i + 1) hi, show (((i + 1 : Nat) : Int) - 1) = ((i : Nat) : Int) by omega, rd_nat l i (by omega)] at this
    simpa using this
  · intro h i hi
    obtain ⟨j, rfl⟩ : ∃ j, i = j + 1 := ⟨i - 1, by simp at hi; omega⟩
    have hj : j + 1 < l.length := by simp at hi; omega
    rw [rd_nat l (j + 1) hj, show (((j + 1 : Nat) : Int) - 1) = ((j : Nat) : Int) by omega, rd_nat l j (by omega)]
    simpa using h j hj
theorem incr_ge (l : List Int) (h : incr l = true) (h0 : ∀ x ∈ l, 0 ≤ x) : ∀ i (hi : i < l.length), (i : Int) ≤ l[i] := by
  intro i
  induction i with
  | zero => intro hi; exact h0 _ (List.getElem_mem hi)
  | succ i ih =>
    intro hi
    have := ih (by omega)
    have := (incr_iff l).1 h i hi
    omega
theorem incr_len (l : List Int) (h : incr l = true) (m : Int) (hm : l.all (fun x => decide (0 ≤ x) && decide (x ≤ m)) = true) : (l.length : Int) ≤ m + 1 ∨ l = [] := by
  rw [List.all_eq_true] at hm
  by_cases h0 : l = []
  · exact .inr h0
  · left
    have hp := List.length_pos_iff.2 h0
    have h1 := incr_ge l h (fun x hx => by have := hm x hx; simp at this; omega) (l.length - 1) (by omega)
    have h2 := hm _ (List.getElem_mem (show l.length - 1 < l.length by omega))
    simp at h2
    omega

/-! ### figures: what is one -/
def inB (lo hi : Int) (x : Int) : Bool := decide (lo ≤ x) && decide (x ≤ hi)
theorem inB_iff {lo hi x : Int} : inB lo hi x = true ↔ lo ≤ x ∧ x ≤ hi := by simp [inB]
theorem l1In_is (a lo hi : Int) : spec_l1In.f a lo hi = some (inB lo hi a) := by
  unfold spec_l1In.f inB
  by_cases h : a ≥ lo
  · rw [if_pos h, decide_eq_true (show lo ≤ a from h), Bool.true_and]
  · rw [if_neg h, decide_eq_false (show ¬ lo ≤ a from h), Bool.false_and]
theorem within_is (a lo hi : Int) : impl_within.f a lo hi = some (inB lo hi a) := by
  unfold impl_within.f inB
  by_cases h : lo ≤ a
  · rw [if_pos h, decide_eq_true h, Bool.true_and]
  · rw [if_neg h, decide_eq_false h, Bool.false_and]
theorem fiGrid_is (w h : Int) : spec_fiGrid.f w h = some (inB 1 4 w && inB 1 4 h) := by
  unfold spec_fiGrid.f
  simp only [l1In_is, Option.bind_some]
  cases inB 1 4 w <;> simp
theorem isGrid_is (w h : Int) : impl_isGrid.f w h = some (inB 1 4 w && inB 1 4 h) := by
  unfold impl_isGrid.f
  simp only [within_is, Option.bind_some]
  cases inB 1 4 w <;> simp
theorem l1All_ev (l : List Int) (hl : l.length ≤ 9223372036854775807) (lo hi : Int) : Ev (fun k => spec_l1All.f k l lo hi) (l.all (inB lo hi)) := by
  have h := all_evB (fun k i => spec_l1All.l0 k lo hi l (l.length : Int) i) (fun i => inB lo hi (rd l (i : Int))) 0 l.length
    (fun i r _ hi hp hr => Ev.step (fun k => by simp only [spec_l1All.l0]; rw [if_pos (by omega), if_pos (by omega), if_pos (by omega), l1In_is, hp, Option.bind_some, if_pos rfl, w64 (by omega) (by omega)]; rfl) hr)
    (fun i _ hi hp => Ev.step (fun k => by simp only [spec_l1All.l0]; rw [if_pos (by omega), if_pos (by omega), if_pos (by omega), l1In_is, hp, Option.bind_some, if_neg (by simp)]) (Ev.now false))
    (fun i hi _ => Ev.step (fun k => by simp only [spec_l1All.l0]; rw [if_neg (by omega)]) (Ev.now true))
  rw [Nat.sub_zero, all_range l (inB lo hi)] at h
  exact h
theorem isRising_ev (l : List Int) (hl : l.length ≤ 9223372036854775807) : Ev (fun k => impl_isRising.f k l) (incr l) :=
  all_evB (fun k i => impl_isRising.l0 k l i) (fun i => decide (rd l (i : Int) > rd l ((i : Int) - 1))) 1 l.length
    (fun i r h0 hi hp hr => Ev.step (fun k => by simp only [impl_isRising.l0]; rw [if_pos (by omega), if_pos (by omega), w64 (by omega) (by omega), if_pos (by omega), if_pos (by omega), if_neg (by simp at hp; omega), w64 (by omega) (by omega)]; rfl) hr)
    (fun i h0 hi hp => Ev.step (fun k => by simp only [impl_isRising.l0]; rw [if_pos (by omega), if_pos (by omega), w64 (by omega) (by omega), if_pos (by omega), if_pos (by omega), if_pos (by simp at hp; omega)]) (Ev.now false))
    (fun i hi _ => Ev.step (fun k => by simp only [impl_isRising.l0]; rw [if_neg (by omega)]) (Ev.now true))
def rises (l : List Int) (m : Int) : Bool := l.all (inB 0 m) && incr l
theorem fiRises_ev (l : List Int) (hl : l.length ≤ 9223372036854775807) (m : Int) (h0 : 0 ≤ m) (h1 : m ≤ 1000) : Ev (fun k => spec_fiRises.f k l m) (rises l m) := by
  unfold rises spec_fiRises.f
  rw [w64 (by omega) (by omega)]
  by_cases hlen : (l.length : Int) > m + 1
  · simp only [if_pos hlen]
    have hf : (l.all (inB 0 m) && incr l) = false := by
      cases hi : incr l
      · simp
      · cases ha : l.all (inB 0 m)
        · rfl
        · rcases incr_len l hi m ha with h | h
          · omega
          · subst h
            simp at hlen
            omega
    rw [hf]
    exact Ev.step (f := fun _ => some false) (fun k => by simp [spec_fiRises.j0]) (Ev.now false)
  · simp only [if_neg hlen]
    refine Ev.bind (l1All_ev l hl 0 m) ?_
    cases ha : l.all (inB 0 m) with
    | false => exact Ev.step (f := fun _ => some false) (fun k => by simp [spec_fiRises.j0]) (Ev.now false)
    | true =>
      refine Ev.step (f := fun k => spec_fiRises.l0 k l 1) (fun k => by simp only [spec_fiRises.j0]; rw [if_neg (by simp)]) ?_
      rw [Bool.true_and]
      exact all_evB (fun k i => spec_fiRises.l0 k l i) (fun i => decide (rd l (i : Int) > rd l ((i : Int) - 1))) 1 l.length
        (fun i r h0 hi hp hr => Ev.step (fun k => by simp only [spec_fiRises.l0]; rw [if_pos (by omega), w64 (by omega) (by omega), if_pos (by omega), if_pos (by omega), if_pos (by omega), if_neg (by simp at hp; omega), w64 (by omega) (by omega)]; rfl) hr)
        (fun i h0 hi hp => Ev.step (fun k => by simp only [spec_fiRises.l0]; rw [if_pos (by omega), w64 (by omega) (by omega), if_pos (by omega), if_pos (by omega), if_pos (by omega), if_pos (by simp at hp; omega)]) (Ev.now false))
        (fun i hi _ => Ev.step (fun k => by simp only [spec_fiRises.l0]; rw [if_neg (by omega)]) (Ev.now true))
theorem grid_bounds {w h : Int} (hw : 1 ≤ w ∧ w ≤ 4) (hh : 1 ≤ h ∧ h ≤ 4) : 2 ≤ w * (h + 1) ∧ w * (h + 1) ≤ 20 ∧ 2 ≤ (w + 1) * h ∧ (w + 1) * h ≤ 20 ∧ 2 ≤ h * (w + 1) ∧ h * (w + 1) ≤ 20 ∧ 1 ≤ w * h ∧ w * h ≤ 16 ∧ h * (w + 1) = (w + 1) * h := by
  have hc : w = 1 ∨ w = 2 ∨ w = 3 ∨ w = 4 := by omega
  rcases hc with rfl | rfl | rfl | rfl <;> omega
def figGood (w h : Int) (a b : List Int) : Bool := (inB 1 4 w && inB 1 4 h) && (rises a (w * (h + 1) - 1) && rises b ((w + 1) * h - 1))
theorem fiGood_ev (w h : Int) (a b : List Int) (ha : a.length ≤ 9223372036854775807) (hb : b.length ≤ 9223372036854775807) : Ev (fun k => spec_fiGood.f k w h a b) (figGood w h a b) := by
  unfold spec_fiGood.f figGood
  rw [fiGrid_is]
  simp only [Option.bind_some]
  cases hg : (inB 1 4 w && inB 1 4 h) with
  | false => exact Ev.const (by simp)
  | true =>
    simp only [Bool.and_eq_true, inB_iff] at hg
    have B := grid_bounds hg.1 hg.2
    simp only [if_true]
    have e1 : wrap64 (wrap64 (w * wrap64 (h + 1)) - 1) = w * (h + 1) - 1 := by
      rw [w64 (n := h + 1) (by omega) (by omega), w64 (n := w * (h + 1)) (by omega) (by omega), w64 (by omega) (by omega)]
    have e2 : wrap64 (wrap64 (wrap64 (w + 1) * h) - 1) = (w + 1) * h - 1 := by
      rw [w64 (n := w + 1) (by omega) (by omega), w64 (n := (w + 1) * h) (by omega) (by omega), w64 (by omega) (by omega)]
    rw [e1, e2]
    refine Ev.bind (fiRises_ev a ha _ (by omega) (by omega)) ?_
    cases rises a (w * (h + 1) - 1) with
    | false => exact Ev.const (by simp)
    | true =>
      simp only [if_true, Bool.true_and]
      refine Ev.congr (g := fun k => (spec_fiRises.f k b ((w + 1) * h - 1)).bind fun t114 => some t114) (fun k => rfl) ?_
      exact Ev.bind (fiRises_ev b hb _ (by omega) (by omega)) (Ev.now _)
theorem levels_is {w h : Int} (hw : 1 ≤ w ∧ w ≤ 4) (hh : 1 ≤ h ∧ h ≤ 4) : impl_grid_levels.f w h = some (w * (h + 1)) := by
  have B := grid_bounds hw hh
  unfold impl_grid_levels.f
  rw [w64 (n := h + 1) (by omega) (by omega), w64 (n := w * (h + 1)) (by omega) (by omega)]
theorem uprights_is {w h : Int} (hw : 1 ≤ w ∧ w ≤ 4) (hh : 1 ≤ h ∧ h ≤ 4) : impl_grid_uprights.f w h = some ((w + 1) * h) := by
  have B := grid_bounds hw hh
  unfold impl_grid_uprights.f
  rw [w64 (n := w + 1) (by omega) (by omega), w64 (n := h * (w + 1)) (by omega) (by omega)]
  rw [Int.mul_comm]
theorem IsFigure_ev (w h : Int) (a b : List Int) (ha : a.length ≤ 9223372036854775807) (hb : b.length ≤ 9223372036854775807) : Ev (fun k => impl_IsFigure.f k w h a b) (figGood w h a b) := by
  unfold impl_IsFigure.f figGood rises
  rw [isGrid_is]
  simp only [Option.bind_some, impl_Figure_grid.f]
  cases hg : (inB 1 4 w && inB 1 4 h) with
  | false => exact Ev.const (by simp)
  | true =>
    simp only [Bool.and_eq_true, inB_iff] at hg
    have B := grid_bounds hg.1 hg.2
    simp only [if_true, levels_is hg.1 hg.2, uprights_is hg.1 hg.2, Option.bind_some, impl_areWithin.f]
    rw [w64 (n := w * (h + 1) - 1) (by omega) (by omega), w64 (n := (w + 1) * h - 1) (by omega) (by omega)]
    refine Ev.bind (isRising_ev a ha) ?_
    cases incr a with
    | false => exact Ev.const (by simp)
    | true =>
      refine Ev.bind (isRising_ev b hb) ?_
      cases incr b with
      | false => exact Ev.const (by simp)
      | true =>
        simp only [if_true, Bool.true_and, Bool.and_true]
        have q : ∀ (l : List Int) (m : Int), (l.all fun x => decide (0 ≤ x) && decide (x ≤ m)) = l.all (inB 0 m) := fun _ _ => rfl
        rw [q, q]
        cases a.all (inB 0 (w * (h + 1) - 1)) with
        | false => exact Ev.const (by simp)
        | true => exact Ev.const (by simp)
theorem good_parts {w h : Int} {a b : List Int} (g : figGood w h a b = true) : (1 ≤ w ∧ w ≤ 4) ∧ (1 ≤ h ∧ h ≤ 4) ∧ (∀ x ∈ a, 0 ≤ x ∧ x < w * (h + 1)) ∧ incr a = true ∧ (∀ x ∈ b, 0 ≤ x ∧ x < (w + 1) * h) ∧ incr b = true := by
  unfold figGood rises at g
  simp only [Bool.and_eq_true, inB_iff, List.all_eq_true] at g
  obtain ⟨⟨g1, g2⟩, ⟨g3, g4⟩, g5, g6⟩ := g
  exact ⟨g1, g2, fun x hx => by have := g3 x hx; omega, g4, fun x hx => by have := g5 x hx; omega, g6⟩

/-! ### bits: sets of numbers below 63 as natural numbers -/
theorem wu64 (n : Int) (h0 : 0 ≤ n) (h1 : n < 2 ^ 63) : IntKind.u64.wrap n = n := by
  simp only [IntKind.wrap, IntKind.bits, IntKind.signed]
  simp
  omega
theorem wi64 (n : Int) (h0 : 0 ≤ n) (h1 : n < 2 ^ 63) : IntKind.i64.wrap n = n := by
  rw [IntKind.wrap_i64]
  omega
/-- a without what b has. -/
def andN (a b : Nat) : Nat := a ^^^ (a &&& b)
theorem testBit_andN (a b i : Nat) : (andN a b).testBit i = (a.testBit i && !b.testBit i) := by
  unfold andN
  rw [Nat.testBit_xor, Nat.testBit_and]
  cases a.testBit i <;> cases b.testBit i <;> rfl
theorem andN_le (a b : Nat) : andN a b ≤ a := by
  apply Nat.le_of_testBit
  intro i h
  rw [testBit_andN] at h
  simp at h
  exact h.1
theorem castlt {n : Nat} (h : n < 2 ^ 63) : ((n : Nat) : Int) < 2 ^ 63 := by exact_mod_cast h
section
variable (k : IntKind) (hk : ∀ n : Int, 0 ≤ n → n < 2 ^ 63 → k.wrap n = n) (hb : k.bits = 64) (a b : Nat) (ha : a < 2 ^ 63) (hbb : b < 2 ^ 63)
include hk hb ha hbb
theorem bits_or : Go.bits .or k a b = ((a ||| b : Nat) : Int) := (bits_nat k 63 (by omega) hk a b ha hbb).2
theorem bits_and : Go.bits .and k a b = ((a &&& b : Nat) : Int) := (bits_nat k 63 (by omega) hk a b ha hbb).1
theorem bits_xor : Go.bits .xor k a b = ((a ^^^ b : Nat) : Int) := by
  have h1 : a % 2 ^ k.bits = a := Nat.mod_eq_of_lt (by rw [hb]; omega)
  have h2 : b % 2 ^ k.bits = b := Nat.mod_eq_of_lt (by rw [hb]; omega)
  simp only [Go.bits, BitVec.ofInt_natCast, BitVec.toNat_xor, BitVec.toNat_ofNat, h1, h2]
  exact hk _ (Int.natCast_nonneg _) (castlt (Nat.xor_lt_two_pow ha hbb))
theorem bits_andNot : Go.bits .andNot k a b = ((andN a b : Nat) : Int) := by
  have h1 : a % 2 ^ k.bits = a := Nat.mod_eq_of_lt (by rw [hb]; omega)
  have h2 : b % 2 ^ k.bits = b := Nat.mod_eq_of_lt (by rw [hb]; omega)
  have e : a &&& (2 ^ k.bits - 1 - b) = andN a b := by
    apply Nat.eq_of_testBit_eq
    intro i
    rw [Nat.testBit_and, testBit_andN, show 2 ^ k.bits - 1 - b = 2 ^ k.bits - (b + 1) by omega, Nat.testBit_two_pow_sub_succ (by rw [hb]; omega)]
    by_cases hi : i < k.bits
    · simp [hi]
    · have : a.testBit i = false := Nat.testBit_lt_two_pow (Nat.lt_of_lt_of_le ha (Nat.pow_le_pow_right (by decide) (by omega)))
      simp [this]
  simp only [Go.bits, BitVec.ofInt_natCast, BitVec.toNat_and, BitVec.toNat_not, BitVec.toNat_ofNat, h1, h2, e]
  exact hk _ (Int.natCast_nonneg _) (castlt (Nat.lt_of_le_of_lt (andN_le a b) ha))
end
theorem oru (a b : Nat) (ha : a < 2 ^ 63) (hb : b < 2 ^ 63) : Go.bits .or .u64 a b = ((a ||| b : Nat) : Int) := bits_or .u64 wu64 rfl a b ha hb
theorem ori (a b : Nat) (ha : a < 2 ^ 63) (hb : b < 2 ^ 63) : Go.bits .or .i64 a b = ((a ||| b : Nat) : Int) := bits_or .i64 wi64 rfl a b ha hb
theorem andu (a b : Nat) (ha : a < 2 ^ 63) (hb : b < 2 ^ 63) : Go.bits .and .u64 a b = ((a &&& b : Nat) : Int) := bits_and .u64 wu64 rfl a b ha hb
theorem andi (a b : Nat) (ha : a < 2 ^ 63) (hb : b < 2 ^ 63) : Go.bits .and .i64 a b = ((a &&& b : Nat) : Int) := bits_and .i64 wi64 rfl a b ha hb
theorem xoru (a b : Nat) (ha : a < 2 ^ 63) (hb : b < 2 ^ 63) : Go.bits .xor .u64 a b = ((a ^^^ b : Nat) : Int) := bits_xor .u64 wu64 rfl a b ha hb
theorem xori (a b : Nat) (ha : a < 2 ^ 63) (hb : b < 2 ^ 63) : Go.bits .xor .i64 a b = ((a ^^^ b : Nat) : Int) := bits_xor .i64 wi64 rfl a b ha hb
theorem andNu (a b : Nat) (ha : a < 2 ^ 63) (hb : b < 2 ^ 63) : Go.bits .andNot .u64 a b = ((andN a b : Nat) : Int) := bits_andNot .u64 wu64 rfl a b ha hb
theorem shl_one (k : IntKind) (hk : ∀ n : Int, 0 ≤ n → n < 2 ^ 63 → k.wrap n = n) (hb : k.bits = 64) (e : Int) (h0 : 0 ≤ e) (h1 : e < 63) : Go.Proofs.YtmlkihaoeopobaaW.PrintWords.shl k 1 e = ((2 ^ e.toNat : Nat) : Int) := by
  obtain ⟨n, rfl⟩ := Int.eq_ofNat_of_zero_le h0
  unfold Go.Proofs.YtmlkihaoeopobaaW.PrintWords.shl
  rw [Int.toNat_natCast, Nat.min_eq_left (by rw [hb]; omega), Int.one_mul]
  have hp : 2 ^ n < 2 ^ 63 := Nat.pow_lt_pow_right (by decide) (by omega)
  have hc : ((2 : Int) ^ n) = ((2 ^ n : Nat) : Int) := by simp
  rw [hc]
  exact hk _ (Int.natCast_nonneg _) (castlt hp)
theorem shlu (e : Int) (h0 : 0 ≤ e) (h1 : e < 63) : Go.Proofs.YtmlkihaoeopobaaW.PrintWords.shl .u64 1 e = ((2 ^ e.toNat : Nat) : Int) := shl_one .u64 wu64 rfl e h0 h1
theorem shli (e : Int) (h0 : 0 ≤ e) (h1 : e < 63) : Go.Proofs.YtmlkihaoeopobaaW.PrintWords.shl .i64 1 e = ((2 ^ e.toNat : Nat) : Int) := shl_one .i64 wi64 rfl e h0 h1
/-- The set of a list's numbers. -/
def maskL (l : List Int) : Nat := l.foldl (fun m x => m ||| 2 ^ x.toNat) 0
theorem testBit_pow (e j : Nat) : (2 ^ e).testBit j = decide (e = j) := Nat.testBit_two_pow
theorem foldl_mask_bit (j : Nat) : ∀ (l : List Int) (m : Nat), (l.foldl (fun m x => m ||| 2 ^ x.toNat) m).testBit j = (m.testBit j || l.any (fun x => decide (x.toNat = j)))
  | [], m => by simp
  | x :: l, m => by
    rw [List.foldl_cons, foldl_mask_bit j l, Nat.testBit_or, testBit_pow, List.any_cons, Bool.or_assoc]
theorem maskL_bit (l : List Int) (j : Nat) : (maskL l).testBit j = l.any (fun x => decide (x.toNat = j)) := by
  unfold maskL
  rw [foldl_mask_bit]
  simp
theorem maskL_mem (l : List Int) (h : ∀ x ∈ l, 0 ≤ x) (j : Nat) : (maskL l).testBit j = true ↔ (j : Int) ∈ l := by
  rw [maskL_bit, List.any_eq_true]
  constructor
  · rintro ⟨x, hx, he⟩
    have := h x hx
    simp at he
    have : x = (j : Int) := by omega
    rwa [← this]
  · intro hj
    exact ⟨_, hj, by simp⟩
theorem foldl_mask_lt (N : Nat) : ∀ (l : List Int) (m : Nat), (∀ x ∈ l, x.toNat < N) → m < 2 ^ N → (l.foldl (fun m x => m ||| 2 ^ x.toNat) m) < 2 ^ N
  | [], m, _, hm => hm
  | x :: l, m, h, hm => foldl_mask_lt N l _ (fun y hy => h y (List.mem_cons_of_mem _ hy)) (Nat.or_lt_two_pow hm (Nat.pow_lt_pow_right (by decide) (h x List.mem_cons_self)))
theorem maskL_lt (l : List Int) (N : Nat) (h : ∀ x ∈ l, x.toNat < N) : maskL l < 2 ^ N := foldl_mask_lt N l 0 h (Nat.two_pow_pos N)
theorem range_foldl {σ : Type} (l : List Int) (f : σ → Int → σ) : ∀ s, (List.range' 0 l.length).foldl (fun s (i : Nat) => f s (rd l (i : Int))) s = l.foldl f s := by
  have key : ∀ (d a : Nat) (s : σ), a + d = l.length → (List.range' a d).foldl (fun s (i : Nat) => f s (rd l (i : Int))) s = (l.drop a).foldl f s := by
    intro d
    induction d with
    | zero => intro a s h; rw [List.drop_of_length_le (by omega)]; rfl
    | succ d ih =>
      intro a s h
      have ha : a < l.length := by omega
      rw [List.range'_succ, List.foldl_cons, ih (a + 1) _ (by omega), List.drop_eq_getElem_cons ha, List.foldl_cons, rd_nat l a ha]
  intro s
  have := key l.length 0 s (by omega)
  simpa using this
theorem pow_lt63 {e : Nat} (h : e < 63) : 2 ^ e < 2 ^ 63 := Nat.pow_lt_pow_right (by decide) h
theorem lt63 {n N : Nat} (h : n < 2 ^ N) (hN : N ≤ 63) : n < 2 ^ 63 := Nat.lt_of_lt_of_le h (Nat.pow_le_pow_right (by decide) hN)
theorem and_pow_ne (m e : Nat) : (m &&& 2 ^ e ≠ 0) ↔ m.testBit e = true := by
  constructor
  · intro h
    cases hb : m.testBit e with
    | true => rfl
    | false =>
      exfalso
      apply h
      apply Nat.eq_of_testBit_eq
      intro i
      rw [Nat.testBit_and, testBit_pow, Nat.zero_testBit]
      by_cases hi : e = i
      · subst hi; simp [hb]
      · simp [hi]
  · intro h h0
    have := congrArg (fun n => n.testBit e) h0
    simp [Nat.testBit_and, testBit_pow, h] at this

/-! ### the set of a figure: level edges first -/
def edges (w h : Int) (a b : List Int) : List Int := a ++ b.map (fun x => w * (h + 1) + x)
theorem edges_lt {w h : Int} {a b : List Int} (g : figGood w h a b = true) : ∀ x ∈ edges w h a b, 0 ≤ x ∧ x < 40 := by
  obtain ⟨hw, hh, ga, _, gb, _⟩ := good_parts g
  have B := grid_bounds hw hh
  intro x hx
  rcases List.mem_append.1 hx with h1 | h1
  · have := ga x h1
    omega
  · obtain ⟨y, hy, rfl⟩ := List.mem_map.1 h1
    have := gb y hy
    have h16 : w * (h + 1) + (w + 1) * h ≤ 40 := by omega
    omega
def figM (w h : Int) (a b : List Int) : Nat := maskL (edges w h a b)
theorem figM_lt {w h : Int} {a b : List Int} (g : figGood w h a b = true) : figM w h a b < 2 ^ 40 := maskL_lt _ 40 (fun x hx => by have := edges_lt g x hx; omega)
theorem figM_fold (w h : Int) (a b : List Int) : figM w h a b = b.foldl (fun m x => m ||| 2 ^ (w * (h + 1) + x).toNat) (a.foldl (fun m x => m ||| 2 ^ x.toNat) 0) := by
  unfold figM edges maskL
  rw [List.foldl_append, List.foldl_map]

/-! ### the program's set -/
theorem figSet_ev {w h : Int} {a b : List Int} (g : figGood w h a b = true) (ha : a.length ≤ 9223372036854775807) (hb : b.length ≤ 9223372036854775807) : Ev (fun k => impl_Figure_set.f k w h a b) ((figM w h a b : Nat) : Int) := by
  obtain ⟨hw, hh, ga, _, gb, _⟩ := good_parts g
  have B := grid_bounds hw hh
  have h16 : w * (h + 1) + (w + 1) * h ≤ 40 := by omega
  have h1 : ∀ s : Nat, s < 2 ^ 40 → Ev (fun k => impl_Figure_set.l1 k (s : Int) b (b.length : Int) 0 w h a b) ((b.foldl (fun m x => m ||| 2 ^ (w * (h + 1) + x).toNat) s : Nat) : Int) := by
    intro s hs
    have h0 := fold_ev (fun k (s : Nat) i => impl_Figure_set.l1 k (s : Int) b (b.length : Int) i w h a b) (fun s i => s ||| 2 ^ (w * (h + 1) + rd b (i : Int)).toNat) (fun s => ((s : Nat) : Int)) (fun _ s => s < 2 ^ 40) b.length
      (fun s i r hi hs => by
        have hx := gb (rd b (i : Int)) (by rw [rd_nat b i hi]; exact List.getElem_mem hi)
        refine ⟨Nat.or_lt_two_pow hs (Nat.pow_lt_pow_right (by decide) (by omega)), fun hr => Ev.step (fun k => ?_) hr⟩
        simp only [impl_Figure_set.l1, impl_Figure_grid.f, Option.bind_some, levels_is hw hh]
        rw [if_pos (by omega), if_pos (by omega), if_pos (by omega), w64 (n := w * (h + 1) + rd b (i : Int)) (by omega) (by omega), if_pos (by omega), shlu _ (by omega) (by omega), oru _ _ (lt63 hs (by decide)) (pow_lt63 (by omega)), w64 (by omega) (by omega)]
        rfl)
      (fun s hs => Ev.step (fun k => by simp only [impl_Figure_set.l1]; rw [if_neg (by omega)]) (Ev.now _)) b.length 0 s (by omega) (by omega) hs
    rw [Nat.sub_zero, range_foldl b (fun m x => m ||| 2 ^ (w * (h + 1) + x).toNat)] at h0
    exact h0
  have h0 := fold_ev (fun k (s : Nat) i => impl_Figure_set.l0 k (s : Int) a (a.length : Int) i w h a b) (fun s i => s ||| 2 ^ (rd a (i : Int)).toNat) (fun s => ((b.foldl (fun m x => m ||| 2 ^ (w * (h + 1) + x).toNat) s : Nat) : Int)) (fun _ s => s < 2 ^ 40) a.length
    (fun s i r hi hs => by
      have hx := ga (rd a (i : Int)) (by rw [rd_nat a i hi]; exact List.getElem_mem hi)
      refine ⟨Nat.or_lt_two_pow hs (Nat.pow_lt_pow_right (by decide) (by omega)), fun hr => Ev.step (fun k => ?_) hr⟩
      simp only [impl_Figure_set.l0]
      rw [if_pos (by omega), if_pos (by omega), if_pos (by omega), if_pos hx.1, shlu _ hx.1 (by omega), oru _ _ (lt63 hs (by decide)) (pow_lt63 (by omega)), w64 (by omega) (by omega)]
      rfl)
    (fun s hs => Ev.step (fun k => by simp only [impl_Figure_set.l0]; rw [if_neg (by omega)]) (h1 s hs)) a.length 0 0 (by omega) (by omega) (by decide)
  rw [Nat.sub_zero, range_foldl a (fun m x => m ||| 2 ^ x.toNat)] at h0
  rw [figM_fold]
  exact h0

/-! ### the reference's search in a list -/
theorem l1Has_ev (l : List Int) (hl : l.length ≤ 9223372036854775807) (n : Int) : Ev (fun k => spec_l1Has.f k l n) (l.any (fun x => decide (x = n))) := by
  have h := all_ev (fun k i => spec_l1Has.l0 k n l (l.length : Int) i) (fun i => !decide (rd l (i : Int) = n)) false true 0 l.length
    (fun i r _ hi hp hr => Ev.step (fun k => by simp only [spec_l1Has.l0]; rw [if_pos (by omega), if_pos (by omega), if_pos (by omega), if_neg (by simpa using hp), w64 (by omega) (by omega)]; rfl) hr)
    (fun i _ hi hp => Ev.step (fun k => by simp only [spec_l1Has.l0]; rw [if_pos (by omega), if_pos (by omega), if_pos (by omega), if_pos (by simpa using hp)]) (Ev.now true))
    (fun i hi _ => Ev.step (fun k => by simp only [spec_l1Has.l0]; rw [if_neg (by omega)]) (Ev.now false)) l.length 0 (by omega) (by omega) (by omega)
  rw [Nat.sub_zero, all_range l (fun x => !decide (x = n))] at h
  have e : (l.all fun x => !decide (x = n)) = !(l.any fun x => decide (x = n)) := by rw [List.any_eq_not_all_not]; simp
  rw [e] at h
  cases ha : (l.any fun x => decide (x = n)) <;> (rw [ha] at h; exact h)

/-! ### edges: the reference looks for their numbers in the lists -/
def edgeIn (w h : Int) (u : Bool) (x y : Int) : Bool := if u = true then inB 0 w x && inB 0 (h - 1) y else inB 0 (w - 1) x && inB 0 h y
def edgeNo (w : Int) (u : Bool) (x y : Int) : Int := if u = true then y * (w + 1) + x else y * w + x
def edgeOff (w h : Int) (u : Bool) : Int := if u = true then w * (h + 1) else 0
theorem edge_bounds {w h : Int} (hw : 1 ≤ w ∧ w ≤ 4) (hh : 1 ≤ h ∧ h ≤ 4) {u : Bool} {x y : Int} (hi : edgeIn w h u x y = true) : 0 ≤ edgeNo w u x y ∧ edgeNo w u x y < (if u = true then (w + 1) * h else w * (h + 1)) ∧ 0 ≤ x ∧ x ≤ 4 ∧ 0 ≤ y ∧ y ≤ 4 ∧ y * (w + 1) ≤ 20 ∧ 0 ≤ y * (w + 1) ∧ y * w ≤ 20 ∧ 0 ≤ y * w := by
  have hc : w = 1 ∨ w = 2 ∨ w = 3 ∨ w = 4 := by omega
  unfold edgeIn at hi
  unfold edgeNo
  cases u with
  | true =>
    simp only [if_true, Bool.and_eq_true, inB_iff] at hi ⊢
    rcases hc with rfl | rfl | rfl | rfl <;> omega
  | false =>
    simp only [Bool.false_eq_true, if_false, Bool.and_eq_true, inB_iff] at hi ⊢
    rcases hc with rfl | rfl | rfl | rfl <;> omega
theorem fiEdge_is {w h : Int} (hw : 1 ≤ w ∧ w ≤ 4) (hh : 1 ≤ h ∧ h ≤ 4) (a b : List Int) {u : Bool} {x y : Int} (hi : edgeIn w h u x y = true) : spec_fiEdge.f w h a b u x y = some (edgeNo w u x y, true) := by
  have B := edge_bounds hw hh hi
  unfold edgeIn at hi
  unfold spec_fiEdge.f edgeNo
  cases u with
  | true =>
    simp only [if_true, Bool.and_eq_true] at hi ⊢
    rw [l1In_is, hi.1, Option.bind_some, if_pos rfl, w64 (n := h - 1) (by omega) (by omega), l1In_is, hi.2, Option.bind_some, w64 (n := w + 1) (by omega) (by omega), w64 (n := y * (w + 1)) (by omega) (by omega), w64 (by omega) (by omega)]
  | false =>
    simp only [Bool.false_eq_true, if_false, Bool.and_eq_true] at hi ⊢
    rw [w64 (n := w - 1) (by omega) (by omega), l1In_is, hi.1, Option.bind_some, if_pos rfl, l1In_is, hi.2, Option.bind_some, w64 (n := y * w) (by omega) (by omega), w64 (by omega) (by omega)]
theorem fiEdge_no {w h : Int} (hw : 1 ≤ w ∧ w ≤ 4) (hh : 1 ≤ h ∧ h ≤ 4) (a b : List Int) {u : Bool} {x y : Int} (hi : edgeIn w h u x y = false) : ∃ n, spec_fiEdge.f w h a b u x y = some (n, false) := by
  unfold edgeIn at hi
  unfold spec_fiEdge.f
  cases u with
  | true =>
    simp only [if_true] at hi ⊢
    rw [l1In_is, Option.bind_some]
    cases hx : inB 0 w x with
    | false => exact ⟨_, by rw [if_neg (by simp)]⟩
    | true =>
      rw [hx, Bool.true_and] at hi
      rw [if_pos rfl, w64 (n := h - 1) (by omega) (by omega), l1In_is, hi, Option.bind_some]
      exact ⟨_, rfl⟩
  | false =>
    simp only [Bool.false_eq_true, if_false] at hi ⊢
    rw [w64 (n := w - 1) (by omega) (by omega), l1In_is, Option.bind_some]
    cases hx : inB 0 (w - 1) x with
    | false => exact ⟨_, by rw [if_neg (by simp)]⟩
    | true =>
      rw [hx, Bool.true_and] at hi
      rw [if_pos rfl, l1In_is, hi, Option.bind_some]
      exact ⟨_, rfl⟩
def hasE (w : Int) (a b : List Int) (u : Bool) (x y : Int) : Bool := (if u = true then b else a).any (fun z => decide (z = edgeNo w u x y))
theorem fiHas_ev {w h : Int} (hw : 1 ≤ w ∧ w ≤ 4) (hh : 1 ≤ h ∧ h ≤ 4) (a b : List Int) (ha : a.length ≤ 9223372036854775807) (hb : b.length ≤ 9223372036854775807) {u : Bool} {x y : Int} (hi : edgeIn w h u x y = true) : Ev (fun k => spec_fiHas.f k w h a b u x y) (hasE w a b u x y) := by
  unfold spec_fiHas.f hasE
  rw [fiEdge_is hw hh a b hi]
  simp only [Option.bind_some]
  cases u with
  | true =>
    simp only [if_true]
    exact Ev.bind (l1Has_ev b hb _) (Ev.now _)
  | false =>
    simp only [Bool.false_eq_true, if_false]
    exact Ev.bind (l1Has_ev a ha _) (Ev.now _)
theorem has_bit {w h : Int} {a b : List Int} (g : figGood w h a b = true) {u : Bool} {x y : Int} (hi : edgeIn w h u x y = true) : (figM w h a b).testBit (edgeOff w h u + edgeNo w u x y).toNat = hasE w a b u x y := by
  obtain ⟨hw, hh, ga, _, gb, _⟩ := good_parts g
  have B := edge_bounds hw hh hi
  have G := grid_bounds hw hh
  have hoff : 0 ≤ edgeOff w h u := by unfold edgeOff; split <;> omega
  rw [Bool.eq_iff_iff]
  unfold figM
  rw [maskL_mem _ (fun x hx => (edges_lt g x hx).1), show (((edgeOff w h u + edgeNo w u x y).toNat : Nat) : Int) = edgeOff w h u + edgeNo w u x y by omega]
  unfold hasE edges edgeOff
  rw [List.any_eq_true, List.mem_append, List.mem_map]
  obtain ⟨n, hn⟩ : ∃ n, edgeNo w u x y = n := ⟨_, rfl⟩
  rw [hn] at B ⊢
  cases u with
  | true =>
    simp only [if_true, decide_eq_true_eq] at B ⊢
    constructor
    · rintro (h1 | ⟨z, hz, he⟩)
      · have := ga _ h1
        omega
      · exact ⟨z, hz, by omega⟩
    · rintro ⟨z, hz, rfl⟩
      exact .inr ⟨z, hz, rfl⟩
  | false =>
    simp only [Bool.false_eq_true, if_false, decide_eq_true_eq] at B ⊢
    constructor
    · rintro (h1 | ⟨z, hz, he⟩)
      · exact ⟨_, h1, by omega⟩
      · have := gb _ hz
        omega
    · rintro ⟨z, hz, rfl⟩
      exact .inl (by rw [Int.zero_add]; exact hz)

/-! ### the program's edges -/
theorem upright_is {w h : Int} (hw : 1 ≤ w ∧ w ≤ 4) (hh : 1 ≤ h ∧ h ≤ 4) {x y : Int} (hi : edgeIn w h true x y = true) : impl_grid_upright.f w h x y = some ((2 ^ (edgeOff w h true + edgeNo w true x y).toNat : Nat) : Int) := by
  have B := edge_bounds hw hh hi
  have G := grid_bounds hw hh
  unfold impl_grid_upright.f
  unfold edgeNo edgeOff at *
  simp only [if_true] at B ⊢
  rw [levels_is hw hh, Option.bind_some, w64 (n := w + 1) (by omega) (by omega), w64 (n := y * (w + 1)) (by omega) (by omega), w64 (n := w * (h + 1) + y * (w + 1)) (by omega) (by omega), w64 (n := w * (h + 1) + y * (w + 1) + x) (by omega) (by omega), if_pos (by omega), shlu _ (by omega) (by omega), Int.add_assoc]
theorem level_is {w h : Int} (hw : 1 ≤ w ∧ w ≤ 4) (hh : 1 ≤ h ∧ h ≤ 4) {x y : Int} (hi : edgeIn w h false x y = true) : impl_grid_level.f w h x y = some ((2 ^ (edgeOff w h false + edgeNo w false x y).toNat : Nat) : Int) := by
  have B := edge_bounds hw hh hi
  unfold impl_grid_level.f
  unfold edgeNo edgeOff at *
  simp only [Bool.false_eq_true, if_false] at B ⊢
  rw [w64 (n := y * w) (by omega) (by omega), w64 (by omega) (by omega), if_pos (by omega), shlu _ (by omega) (by omega), Int.zero_add]
theorem edge_lt60 {w h : Int} (hw : 1 ≤ w ∧ w ≤ 4) (hh : 1 ≤ h ∧ h ≤ 4) {u : Bool} {x y : Int} (hi : edgeIn w h u x y = true) : (edgeOff w h u + edgeNo w u x y).toNat < 60 := by
  have B := edge_bounds hw hh hi
  have G := grid_bounds hw hh
  unfold edgeOff
  cases u <;> simp only [Bool.false_eq_true, if_false, if_true] at B ⊢ <;> omega

/-! ### what the laws do about their arguments -/
theorem szIntS_is (l : List Int) (left : Int) (hl : l.length ≤ 9223372036854775807) (h0 : 0 ≤ left) (h1 : left ≤ 1000000) : laws_szIntS.f l left = some (if (l.length : Int) ≤ left then left - (l.length : Int) else -1) := by
  unfold laws_szIntS.f
  rw [w64 (by omega) (by omega)]
  by_cases h : (l.length : Int) ≤ left
  · rw [if_neg (by omega), if_pos h]
  · rw [if_pos (by omega), if_neg h]
theorem szFigure_is (w h : Int) (a b : List Int) (ha : a.length ≤ 9223372036854775807) (hb : b.length ≤ 9223372036854775807) (left : Int) (h0 : 0 ≤ left) (h1 : left ≤ 1000000) : laws_szFigure.f w h a b left = some (if (a.length : Int) + (b.length : Int) ≤ left then left - (a.length : Int) - (b.length : Int) else -1) := by
  unfold laws_szFigure.f
  rw [szIntS_is a left ha h0 h1, Option.bind_some]
  by_cases h : (a.length : Int) ≤ left
  · rw [if_pos h, if_neg (by omega), szIntS_is b _ hb (by omega) (by omega), Option.bind_some]
    by_cases h2 : (a.length : Int) + (b.length : Int) ≤ left
    · have h3 : (b.length : Int) ≤ left - (a.length : Int) := by omega
      rw [if_pos h3, if_neg (by omega), if_pos h2]
    · have h3 : ¬ (b.length : Int) ≤ left - (a.length : Int) := by omega
      rw [if_neg h3, if_pos (by omega), if_neg h2]
  · rw [if_neg h, if_pos (by omega), if_neg (by omega)]
theorem toFigure_is (w h : Int) (a b : List Int) (x : Bool) (hab : (a.length : Int) + (b.length : Int) ≤ 1000000) : laws_toFigure.f w h a b x = some (w, h, a, b) := by
  unfold laws_toFigure.f laws_toIntS.f
  rw [if_pos (by omega), if_pos (by omega)]
  rfl
theorem intactFigure_is (w h : Int) (a b : List Int) (hab : (a.length : Int) + (b.length : Int) ≤ 1000000) : laws_intactFigure.f w h a b w h a b = some true := by
  unfold laws_intactFigure.f laws_intactIntS.f
  rw [if_pos rfl, if_pos rfl, if_pos (by omega), if_pos (by omega)]
  simp

/-! ### the four ways from a corner: north, east, south, west -/
def dU (d : Nat) : Bool := d == 0 || d == 2
def dX (d : Nat) (x : Int) : Int := if d = 3 then x - 1 else x
def dY (d : Nat) (y : Int) : Int := if d = 0 then y - 1 else y
def meetB (w h : Int) (a b : List Int) (x y : Int) (d : Nat) : Bool := edgeIn w h (dU d) (dX d x) (dY d y) && hasE w a b (dU d) (dX d x) (dY d y)
def cornIn (w h x y : Int) : Bool := inB 0 w x && inB 0 h y
theorem dcases {d : Nat} (hd : d < 4) : d = 0 ∨ d = 1 ∨ d = 2 ∨ d = 3 := by omega
theorem liNext_ev {w h : Int} (hw : 1 ≤ w ∧ w ≤ 4) (hh : 1 ≤ h ∧ h ≤ 4) (a b : List Int) (ha : a.length ≤ 9223372036854775807) (hb : b.length ≤ 9223372036854775807) {x y : Int} (hc : cornIn w h x y = true) (d : Nat) (hd : d < 4) :
    ∃ p q, Ev (fun k => spec_liNext.f k w h a b x y (d : Int)) (p, q, meetB w h a b x y d) := by
  unfold cornIn at hc
  simp only [Bool.and_eq_true, inB_iff] at hc
  obtain ⟨⟨x0, x1⟩, y0, y1⟩ := hc
  unfold spec_liNext.f meetB
  rcases dcases hd with rfl | rfl | rfl | rfl
  · simp only [show (((0 : Nat) : Int) = 0) = True by simp, if_true, show dU 0 = true from rfl, show dX 0 x = x from rfl, show dY 0 y = y - 1 from rfl, w64 (n := y - 1) (by omega) (by omega)]
    by_cases c : y > 0
    · have hi : edgeIn w h true x (y - 1) = true := by simp only [edgeIn, if_true, Bool.and_eq_true, inB_iff]; omega
      simp only [if_pos c, hi, Bool.true_and]
      exact ⟨_, _, Ev.bind (fiHas_ev hw hh a b ha hb hi) (Ev.now _)⟩
    · have hi : edgeIn w h true x (y - 1) = false := by rw [Bool.eq_false_iff]; intro hh'; simp only [edgeIn, if_true, Bool.and_eq_true, inB_iff] at hh'; omega
      simp only [if_neg c, hi, Bool.false_and]
      exact ⟨_, _, Ev.now _⟩
  · simp only [show (((1 : Nat) : Int) = 0) = False by simp, show (((1 : Nat) : Int) = 1) = True by simp, if_true, if_false, show dU 1 = false from rfl, show dX 1 x = x from rfl, show dY 1 y = y from rfl]
    by_cases c : x < w
    · have hi : edgeIn w h false x y = true := by simp only [edgeIn, Bool.false_eq_true, if_false, Bool.and_eq_true, inB_iff]; omega
      simp only [if_pos c, hi, Bool.true_and]
      exact ⟨_, _, Ev.bind (fiHas_ev hw hh a b ha hb hi) (Ev.now _)⟩
    · have hi : edgeIn w h false x y = false := by rw [Bool.eq_false_iff]; intro hh'; simp only [edgeIn, Bool.false_eq_true, if_false, Bool.and_eq_true, inB_iff] at hh'; omega
      simp only [if_neg c, hi, Bool.false_and]
      exact ⟨_, _, Ev.now _⟩
  · simp only [show (((2 : Nat) : Int) = 0) = False by simp, show (((2 : Nat) : Int) = 1) = False by simp, show (((2 : Nat) : Int) = 2) = True by simp, if_true, if_false, show dU 2 = true from rfl, show dX 2 x = x from rfl, show dY 2 y = y from rfl]
    by_cases c : y < h
    · have hi : edgeIn w h true x y = true := by simp only [edgeIn, if_true, Bool.and_eq_true, inB_iff]; omega
      simp only [if_pos c, hi, Bool.true_and]
      exact ⟨_, _, Ev.bind (fiHas_ev hw hh a b ha hb hi) (Ev.now _)⟩
    · have hi : edgeIn w h true x y = false := by rw [Bool.eq_false_iff]; intro hh'; simp only [edgeIn, if_true, Bool.and_eq_true, inB_iff] at hh'; omega
      simp only [if_neg c, hi, Bool.false_and]
      exact ⟨_, _, Ev.now _⟩
  · simp only [show (((3 : Nat) : Int) = 0) = False by simp, show (((3 : Nat) : Int) = 1) = False by simp, show (((3 : Nat) : Int) = 2) = False by simp, if_false, show dU 3 = false from rfl, show dX 3 x = x - 1 from rfl, show dY 3 y = y from rfl, w64 (n := x - 1) (by omega) (by omega)]
    by_cases c : x > 0
    · have hi : edgeIn w h false (x - 1) y = true := by simp only [edgeIn, Bool.false_eq_true, if_false, Bool.and_eq_true, inB_iff]; omega
      simp only [if_pos c, hi, Bool.true_and]
      exact ⟨_, _, Ev.bind (fiHas_ev hw hh a b ha hb hi) (Ev.now _)⟩
    · have hi : edgeIn w h false (x - 1) y = false := by rw [Bool.eq_false_iff]; intro hh'; simp only [edgeIn, Bool.false_eq_true, if_false, Bool.and_eq_true, inB_iff] at hh'; omega
      simp only [if_neg c, hi, Bool.false_and]
      exact ⟨_, _, Ev.now _⟩
/-- The letter of a way. -/
def dL (d : Nat) : Int := rd [110, 101, 115, 119] (d : Int)
theorem next_is (x y : Int) (x0 : 0 ≤ x ∧ x ≤ 4) (y0 : 0 ≤ y ∧ y ≤ 4) (d : Nat) (hd : d < 4) : impl_Corner_next.f x y (dL d) = some (if d = 1 then x + 1 else dX d x, if d = 2 then y + 1 else dY d y) := by
  unfold impl_Corner_next.f
  rcases dcases hd with rfl | rfl | rfl | rfl
  · simp only [show dL 0 = 110 from rfl, if_true, show dX 0 x = x from rfl, show dY 0 y = y - 1 from rfl, w64 (n := y - 1) (by omega) (by omega)]; simp
  · simp only [show dL 1 = 101 from rfl, show dX 1 x = x from rfl, show dY 1 y = y from rfl, w64 (n := x + 1) (by omega) (by omega)]; simp
  · simp only [show dL 2 = 115 from rfl, show dX 2 x = x from rfl, show dY 2 y = y from rfl, w64 (n := y + 1) (by omega) (by omega)]; simp
  · simp only [show dL 3 = 119 from rfl, show dX 3 x = x - 1 from rfl, show dY 3 y = y from rfl, w64 (n := x - 1) (by omega) (by omega)]; simp
def edgeBit (w h : Int) (x y : Int) (d : Nat) : Nat := if edgeIn w h (dU d) (dX d x) (dY d y) = true then 2 ^ (edgeOff w h (dU d) + edgeNo w (dU d) (dX d x) (dY d y)).toNat else 0
theorem isCorner_is (w h x y : Int) : impl_grid_isCorner.f w h x y = some (cornIn w h x y) := by
  unfold impl_grid_isCorner.f cornIn
  rw [within_is, Option.bind_some]
  cases inB 0 w x with
  | false => simp
  | true => simp [within_is]
theorem between_ev {w h : Int} (hw : 1 ≤ w ∧ w ≤ 4) (hh : 1 ≤ h ∧ h ≤ 4) {x y : Int} (hc : cornIn w h x y = true) (d : Nat) (hd : d < 4) :
    Ev (fun k => impl_grid_between.f k w h x y (dL d)) ((edgeBit w h x y d : Nat) : Int) := by
  have hc' := hc
  unfold cornIn at hc
  simp only [Bool.and_eq_true, inB_iff] at hc
  obtain ⟨⟨x0, x1⟩, y0, y1⟩ := hc
  unfold impl_grid_between.f edgeBit
  simp only [next_is x y ⟨by omega, by omega⟩ ⟨by omega, by omega⟩ d hd, isCorner_is, hc', Option.bind_some, if_true]
  have hce : cornIn w h (if d = 1 then x + 1 else dX d x) (if d = 2 then y + 1 else dY d y) = edgeIn w h (dU d) (dX d x) (dY d y) := by
    rw [Bool.eq_iff_iff]
    rcases dcases hd with rfl | rfl | rfl | rfl
    · simp only [cornIn, edgeIn, show dU 0 = true from rfl, show dX 0 x = x from rfl, show dY 0 y = y - 1 from rfl, Bool.and_eq_true, inB_iff, if_true, show ((0 : Nat) = 1) = False by simp, show ((0 : Nat) = 2) = False by simp, if_false]; omega
    · simp only [cornIn, edgeIn, show dU 1 = false from rfl, show dX 1 x = x from rfl, show dY 1 y = y from rfl, Bool.and_eq_true, inB_iff, if_true, show ((1 : Nat) = 2) = False by simp, Bool.false_eq_true, if_false]; omega
    · simp only [cornIn, edgeIn, show dU 2 = true from rfl, show dX 2 x = x from rfl, show dY 2 y = y from rfl, Bool.and_eq_true, inB_iff, if_true, show ((2 : Nat) = 1) = False by simp, if_false]; omega
    · simp only [cornIn, edgeIn, show dU 3 = false from rfl, show dX 3 x = x - 1 from rfl, show dY 3 y = y from rfl, Bool.and_eq_true, inB_iff, Bool.false_eq_true, show ((3 : Nat) = 1) = False by simp, show ((3 : Nat) = 2) = False by simp, if_false]; omega
  rw [hce]
  cases he : edgeIn w h (dU d) (dX d x) (dY d y) with
  | false => exact Ev.step (f := fun _ => some (0 : Int)) (fun k => by simp [impl_grid_between.j0]) (Ev.now _)
  | true =>
    simp only [if_true]
    refine Ev.step (f := fun _ => some (((2 ^ (edgeOff w h (dU d) + edgeNo w (dU d) (dX d x) (dY d y)).toNat : Nat) : Int))) (fun k => ?_) (Ev.now _)
    simp only [impl_grid_between.j0]
    rw [if_neg (by simp)]
    rcases dcases hd with rfl | rfl | rfl | rfl
    · have he : edgeIn w h true x (y - 1) = true := he
      simp only [show dU 0 = true from rfl, show dX 0 x = x from rfl, show dY 0 y = y - 1 from rfl, show ((0 : Nat) = 1) = False by simp, show ((0 : Nat) = 2) = False by simp, if_false]
      rw [if_neg (by omega), show mn y (y - 1) = y - 1 by unfold mn; rw [if_pos (by omega)], upright_is hw hh he]
      rfl
    · have he : edgeIn w h false x y = true := he
      simp only [show dU 1 = false from rfl, show dX 1 x = x from rfl, show dY 1 y = y from rfl, show ((1 : Nat) = 2) = False by simp, if_true, if_false]
      rw [show mn x (x + 1) = x by unfold mn; rw [if_neg (by omega)], level_is hw hh he]
      rfl
    · have he : edgeIn w h true x y = true := he
      simp only [show dU 2 = true from rfl, show dX 2 x = x from rfl, show dY 2 y = y from rfl, show ((2 : Nat) = 1) = False by simp, if_true, if_false]
      rw [if_neg (by omega), show mn y (y + 1) = y by unfold mn; rw [if_neg (by omega)], upright_is hw hh he]
      rfl
    · have he : edgeIn w h false (x - 1) y = true := he
      simp only [show dU 3 = false from rfl, show dX 3 x = x - 1 from rfl, show dY 3 y = y from rfl, show ((3 : Nat) = 1) = False by simp, show ((3 : Nat) = 2) = False by simp, if_true, if_false]
      rw [show mn x (x - 1) = x - 1 by unfold mn; rw [if_pos (by omega)], level_is hw hh he]
      rfl
theorem edgeBit_meets {w h : Int} {a b : List Int} (g : figGood w h a b = true) (x y : Int) (d : Nat) : ((Go.bits .and .u64 ((edgeBit w h x y d : Nat) : Int) ((figM w h a b : Nat) : Int)) != 0) = meetB w h a b x y d := by
  obtain ⟨hw, hh, _⟩ := good_parts g
  unfold edgeBit meetB
  cases he : edgeIn w h (dU d) (dX d x) (dY d y) with
  | false =>
    simp only [Bool.false_eq_true, if_false, Bool.false_and]
    rw [andu _ _ (by decide) (lt63 (figM_lt g) (by decide)), Nat.zero_and]
    rfl
  | true =>
    simp only [if_true, Bool.true_and]
    rw [andu _ _ (pow_lt63 (by have := edge_lt60 hw hh he; omega)) (lt63 (figM_lt g) (by decide)), ← has_bit g he, Nat.and_comm]
    have := and_pow_ne (figM w h a b) (edgeOff w h (dU d) + edgeNo w (dU d) (dX d x) (dY d y)).toNat
    cases hb : (figM w h a b).testBit (edgeOff w h (dU d) + edgeNo w (dU d) (dX d x) (dY d y)).toNat with
    | true => rw [bne_iff_ne.2 (by have := this.2 hb; omega)]
    | false =>
      have h0 : figM w h a b &&& 2 ^ (edgeOff w h (dU d) + edgeNo w (dU d) (dX d x) (dY d y)).toNat = 0 := by
        apply Classical.byContradiction
        intro hne
        rw [this.1 hne] at hb
        exact absurd hb (by simp)
      rw [h0]
      rfl
/-- How many matches meet. -/
def meetN (w h : Int) (a b : List Int) (x y : Int) : Int := (List.range' 0 4).foldl (fun (s : Int) d => if meetB w h a b x y d = true then s + 1 else s) 0
theorem liMeet_ev {w h : Int} (hw : 1 ≤ w ∧ w ≤ 4) (hh : 1 ≤ h ∧ h ≤ 4) (a b : List Int) (ha : a.length ≤ 9223372036854775807) (hb : b.length ≤ 9223372036854775807) {x y : Int} (hc : cornIn w h x y = true) :
    Ev (fun k => spec_liMeet.f k w h a b x y) (meetN w h a b x y) := by
  have h0 := fold_ev (fun k (s : Int) i => spec_liMeet.l0 k s i w h a b x y) (fun s d => if meetB w h a b x y d = true then s + 1 else s) id (fun i s => 0 ≤ s ∧ s ≤ (i : Int)) 4
    (fun s i r hi hs => by
      refine ⟨by split <;> omega, fun hr => ?_⟩
      obtain ⟨p, q, hn⟩ := liNext_ev hw hh a b ha hb hc i hi
      refine Ev.step (f := fun k => (spec_liNext.f k w h a b x y (i : Int)).bind fun bt139 => if bt139.2.2 = true then spec_liMeet.l0 k (wrap64 (s + 1)) (wrap64 ((i : Int) + 1)) w h a b x y else spec_liMeet.l0 k s (wrap64 ((i : Int) + 1)) w h a b x y) (fun k => by simp only [spec_liMeet.l0]; rw [if_pos (by omega)]) (Ev.bind hn ?_)
      simp only [w64 (n := s + 1) (by omega) (by omega), w64 (n := (i : Int) + 1) (by omega) (by omega)]
      cases hm : meetB w h a b x y i with
      | true => rw [hm] at hr; simpa using hr
      | false => rw [hm] at hr; simpa using hr)
    (fun s hs => Ev.step (f := fun _ => some s) (fun k => by simp only [spec_liMeet.l0]; rw [if_neg (by omega)]) (Ev.now _)) 4 0 0 (by omega) (by omega) (by simp)
  exact h0
theorem meeting_ev {w h : Int} {a b : List Int} (g : figGood w h a b = true) {x y : Int} (hc : cornIn w h x y = true) :
    Ev (fun k => impl_grid_meeting.f k w h ((figM w h a b : Nat) : Int) x y) (meetN w h a b x y) := by
  obtain ⟨hw, hh, _⟩ := good_parts g
  have h0 := fold_ev (fun k (s : Int) i => impl_grid_meeting.l0 k ((figM w h a b : Nat) : Int) s [110, 101, 115, 119] 4 i w h x y) (fun s d => if meetB w h a b x y d = true then s + 1 else s) id (fun i s => 0 ≤ s ∧ s ≤ (i : Int)) 4
    (fun s i r hi hs => by
      refine ⟨by split <;> omega, fun hr => ?_⟩
      refine Ev.step (f := fun k => (impl_grid_between.f k w h x y (dL i)).bind fun t214 => (impl_bit.f ((Go.bits .and .u64 t214 ((figM w h a b : Nat) : Int)) != 0)).bind fun t215 => impl_grid_meeting.l0 k ((figM w h a b : Nat) : Int) (wrap64 (s + t215)) [110, 101, 115, 119] 4 (wrap64 ((i : Int) + 1)) w h x y) (fun k => by simp only [impl_grid_meeting.l0]; rw [if_pos (by omega), if_pos (by omega), if_pos (by simp only [List.length_cons, List.length_nil]; omega)]; rfl) (Ev.bind (between_ev hw hh hc i hi) ?_)
      rw [edgeBit_meets g]
      unfold impl_bit.f
      cases hm : meetB w h a b x y i with
      | true =>
        rw [hm] at hr
        simp only [if_true, Option.bind_some] at hr ⊢
        rw [w64 (n := s + 1) (by omega) (by omega), w64 (n := (i : Int) + 1) (by omega) (by omega)]
        exact hr
      | false =>
        rw [hm] at hr
        simp only [Bool.false_eq_true, if_false, Option.bind_some] at hr ⊢
        rw [Int.add_zero, w64 (n := s) (by omega) (by omega), w64 (n := (i : Int) + 1) (by omega) (by omega)]
        exact hr)
    (fun s hs => Ev.step (f := fun _ => some s) (fun k => by simp only [impl_grid_meeting.l0]; rw [if_neg (by omega)]) (Ev.now _)) 4 0 0 (by omega) (by omega) (by simp)
  exact h0
theorem isCornerOf_ev (w h : Int) (a b : List Int) (ha : a.length ≤ 9223372036854775807) (hb : b.length ≤ 9223372036854775807) (x y : Int) : Ev (fun k => impl_isCornerOf.f k w h a b [⟨x, y⟩]) (figGood w h a b && cornIn w h x y) := by
  unfold impl_isCornerOf.f
  refine Ev.bind (IsFigure_ev w h a b ha hb) ?_
  cases figGood w h a b with
  | false => exact Ev.const (by simp)
  | true => exact Ev.const (by rw [if_pos rfl]; simp [cornIn, cornerB, inB])
theorem both_MeetingAt (w h : Int) (a b : List Int) (ha : a.length ≤ 9223372036854775807) (hb : b.length ≤ 9223372036854775807) (x y : Int) : ∃ v, Ev (fun k => spec_MeetingAt.f k w h a b x y) v ∧ Ev (fun k => impl_MeetingAt.f k w h a b x y) v := by
  unfold spec_MeetingAt.f impl_MeetingAt.f
  have hcor : spec_liCorner.f w h a b x y = some (cornIn w h x y) := by
    unfold spec_liCorner.f cornIn
    rw [l1In_is, Option.bind_some]
    cases inB 0 w x with
    | false => simp
    | true => simp [l1In_is]
  cases g : figGood w h a b with
  | false => exact ⟨(0, false), Ev.bind (fiGood_ev w h a b ha hb) (by rw [g]; exact Ev.const (by simp)), Ev.bind (isCornerOf_ev w h a b ha hb x y) (by rw [g]; exact Ev.const (by simp))⟩
  | true =>
    obtain ⟨hw, hh, _⟩ := good_parts g
    cases hc : cornIn w h x y with
    | false =>
      refine ⟨(0, false), Ev.bind (fiGood_ev w h a b ha hb) ?_, Ev.bind (isCornerOf_ev w h a b ha hb x y) ?_⟩
      · rw [g, hcor, hc]
        exact Ev.const (by simp)
      · rw [g, hc]
        exact Ev.const (by simp)
    | true =>
      refine ⟨(meetN w h a b x y, true), Ev.bind (fiGood_ev w h a b ha hb) ?_, Ev.bind (isCornerOf_ev w h a b ha hb x y) ?_⟩
      · rw [g, hcor, hc]
        simp only [if_true, Option.bind_some]
        exact Ev.bind (liMeet_ev hw hh a b ha hb hc) (Ev.now _)
      · rw [g, hc]
        simp only [Bool.and_true, if_true, impl_Figure_grid.f, Option.bind_some]
        exact Ev.bind (figSet_ev g ha hb) (Ev.bind (meeting_ev g hc) (Ev.now _))
theorem FnExactMeetingAt : laws_FnExactMeetingAt.Pure := by
  intro w h a b x y _ _ ha _ hb _ _ _
  have ha := maxLen_le ha
  have hb := maxLen_le hb
  obtain ⟨v, hs, hi⟩ := both_MeetingAt w h a b ha hb x y
  obtain ⟨K, hK⟩ := Ev.both hs hi
  obtain ⟨hs1, hi1⟩ := hK (K + 1) (by omega)
  obtain ⟨_, hi0⟩ := hK K (by omega)
  refine ⟨K + 1, ?_⟩
  unfold laws_FnExactMeetingAt.f
  rw [szFigure_is w h a b ha hb _ (by omega) (by omega), Option.bind_some]
  by_cases hab : (a.length : Int) + (b.length : Int) ≤ 1000000
  · rw [if_pos hab, if_neg (by omega)]
    simp only [toFigure_is w h a b _ hab, laws_toCorner.f, Option.bind_some, hs1, hi1, bne_self_eq_false, laws_FnExactMeetingAt.j0, hi0, intactFigure_is w h a b hab]
    simp
  · rw [if_neg hab, if_pos (by omega)]

end Go.Proofs.Ytmlkihaoeopobaa.Pure
