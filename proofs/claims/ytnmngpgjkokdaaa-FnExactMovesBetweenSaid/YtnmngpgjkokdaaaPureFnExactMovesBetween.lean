/- Proved here: the pure statement of FnExactMovesBetween: program and reference count the same moves. Conditions: the numbers are 64 bit integers, the lists are no longer than a slice can be. -/
import Derived.Test.YtnmngpgjkokdaaaQFnExactMovesBetweenx10
set_option linter.unusedVariables false
set_option linter.unusedSimpArgs false
namespace Go.Proofs.Ytnmngpgjkokdaaa.Pure
open Go.RowKit Go.Proofs.Ytnmngpgjkokdaaa.Q Go.Proofs.YtnmngpgjkokdaaaW.PrintWords Go.Proofs.YtnmngpgjkokdaaaW.PrintLast

/-! ### base: wrapping, 'from some number of rounds on', loops -/
theorem w64 {n : Int} (h0 : -9223372036854775808 ≤ n) (h1 : n ≤ 9223372036854775807) : wrap64 n = n := by unfold wrap64; omega
theorem wf64 {x : Int} (h : (Lit.int .i64 x).wf = true) : -9223372036854775808 ≤ x ∧ x ≤ 9223372036854775807 := by
  simp [Lit.wf, IntKind.min, IntKind.max, IntKind.signed, IntKind.bits] at h
  omega
theorem maxLen_le {n : Nat} (h : n ≤ maxLen) : n ≤ 9223372036854775807 := by unfold maxLen at h; omega
theorem Ev.both {α β : Type} {g : Nat → Option α} {f : Nat → Option β} {a : α} {b : β} (h : Ev g a) (k : Ev f b) : ∃ K, ∀ n, K ≤ n → g n = some a ∧ f n = some b := by
  obtain ⟨K, h⟩ := h
  obtain ⟨K', k⟩ := k
  exact ⟨max K K', fun n hn => ⟨h n (by omega), k n (by omega)⟩⟩
theorem Ev.const {α : Type} {x : Option α} {r : α} (h : x = some r) : Ev (fun _ => x) r := ⟨0, fun _ _ => h⟩
/-- A loop from lo on that ends early with 'bad', or runs through. -/
theorem all_ev {β : Type} (g : Nat → Int → Option β) (p : Nat → Bool) (good bad : β) (lo n : Nat)
    (hgood : ∀ i r, lo ≤ i → i < n → p i = true → Ev (fun k => g k ((i + 1 : Nat) : Int)) r → Ev (fun k => g k (i : Int)) r)
    (hbad : ∀ i, lo ≤ i → i < n → p i = false → Ev (fun k => g k (i : Int)) bad)
    (fin : ∀ i, n ≤ i → i ≤ n + lo → Ev (fun k => g k (i : Int)) good) : ∀ d a, n - a = d → lo ≤ a → a ≤ n + lo → Ev (fun k => g k (a : Int)) (if (List.range' a (n - a)).all p = true then good else bad) := by
  intro d
  induction d with
  | zero =>
    intro a ha hlo hle
    rw [ha]
    simpa using fin a (by omega) hle
  | succ d ih =>
    intro a ha hlo hle
    rw [ha, List.range'_succ, List.all_cons]
    cases hp : p a with
    | true =>
      have := ih (a + 1) (by omega) (by omega) (by omega)
      rw [show n - (a + 1) = d by omega] at this
      simp only [Bool.true_and]
      exact hgood a _ hlo (by omega) hp this
    | false =>
      simp only [Bool.false_and]
      exact hbad a hlo (by omega) hp
/-- The same where it answers whether all held. -/
theorem all_evB (g : Nat → Int → Option Bool) (p : Nat → Bool) (lo n : Nat)
    (hgood : ∀ i r, lo ≤ i → i < n → p i = true → Ev (fun k => g k ((i + 1 : Nat) : Int)) r → Ev (fun k => g k (i : Int)) r)
    (hbad : ∀ i, lo ≤ i → i < n → p i = false → Ev (fun k => g k (i : Int)) false)
    (fin : ∀ i, n ≤ i → i ≤ n + lo → Ev (fun k => g k (i : Int)) true) : Ev (fun k => g k (lo : Int)) ((List.range' lo (n - lo)).all p) := by
  have h := all_ev g p true false lo n hgood hbad fin (n - lo) lo rfl (Nat.le_refl _) (by omega)
  cases hb : (List.range' lo (n - lo)).all p <;> simpa [hb] using h
/-- A loop that carries a state s; P: what is known of it. -/
theorem fold_ev {σ β : Type} (g : Nat → σ → Int → Option β) (f : σ → Nat → σ) (h : σ → β) (P : Nat → σ → Prop) (n : Nat)
    (step : ∀ s i r, i < n → P i s → (P (i + 1) (f s i) ∧ (Ev (fun k => g k (f s i) ((i + 1 : Nat) : Int)) r → Ev (fun k => g k s (i : Int)) r)))
    (fin : ∀ s, P n s → Ev (fun k => g k s (n : Int)) (h s)) : ∀ d a s, n - a = d → a ≤ n → P a s → Ev (fun k => g k s (a : Int)) (h ((List.range' a (n - a)).foldl f s)) := by
  intro d
  induction d with
  | zero =>
    intro a s ha hle hP
    obtain rfl : a = n := by omega
    simpa using fin s hP
  | succ d ih =>
    intro a s ha hle hP
    rw [ha, List.range'_succ, List.foldl_cons]
    have := step s a (h ((List.range' (a + 1) d).foldl f (f s a))) (by omega) hP
    refine this.2 ?_
    have h2 := ih (a + 1) (f s a) (by omega) (by omega) this.1
    rw [show n - (a + 1) = d by omega] at h2
    exact h2
theorem rd_nat (l : List Int) (i : Nat) (h : i < l.length) : rd l (i : Int) = l[i] := by unfold rd; rw [Int.toNat_natCast]; simp [List.getD_eq_getElem?_getD, h]
theorem all_range (l : List Int) (q : Int → Bool) : (List.range' 0 l.length).all (fun i => q (rd l (i : Int))) = l.all q := by
  rw [Bool.eq_iff_iff, List.all_eq_true, List.all_eq_true]
  constructor
  · intro h x hx
    obtain ⟨i, hi, rfl⟩ := List.getElem_of_mem hx
    have := h i (by simp; omega)
    rwa [rd_nat l i hi] at this
  · intro h i hi
    have hi : i < l.length := by simp at hi; omega
    rw [rd_nat l i hi]
    exact h _ (List.getElem_mem hi)
/-- Strictly increasing. -/
def incr (l : List Int) : Bool := (List.range' 1 (l.length - 1)).all fun i => decide (rd l (i : Int) > rd l ((i : Int) - 1))
theorem incr_iff (l : List Int) : incr l = true ↔ ∀ i, ∀ h : i + 1 < l.length, l[i] < l[i + 1] := by
  unfold incr
  rw [List.all_eq_true]
  constructor
  · intro h i hi
    have := h (i + 1) (by simp; omega)
    rw [rd_nat l (i + 1) hi, show (((i + 1 : Nat) : Int) - 1) = ((i : Nat) : Int) by omega, rd_nat l i (by omega)] at this
    simpa using this
  · intro h i hi
    obtain ⟨j, rfl⟩ : ∃ j, i = j + 1 := ⟨i - 1, by simp at hi; omega⟩
    have hj : j + 1 < l.length := by simp at hi; omega
    rw [rd_nat l (j + 1) hj, show (((j + 1 : Nat) : Int) - 1) = ((j : Nat) : Int) by omega, rd_nat l j (by omega)]
    simpa using h j hj
theorem incr_ge (l : List Int) (h : incr l = true) (h0 : ∀ x ∈ l, 0 ≤ x) : ∀ i (hi : i < l.length), (i : Int) ≤ l[i] := by
  intro i
  induction i with
  | zero => intro hi; exact h0 _ (List.getElem_mem hi)
  | succ i ih =>
    intro hi
    have := ih (by omega)
    have := (incr_iff l).1 h i hi
    omega
theorem incr_len (l : List Int) (h : incr l = true) (m : Int) (hm : l.all (fun x => decide (0 ≤ x) && decide (x ≤ m)) = true) : (l.length : Int) ≤ m + 1 ∨ l = [] := by
  rw [List.all_eq_true] at hm
  by_cases h0 : l = []
  · exact .inr h0
  · left
    have hp := List.length_pos_iff.2 h0
    have h1 := incr_ge l h (fun x hx => by have := hm x hx; simp at this; omega) (l.length - 1) (by omega)
    have h2 := hm _ (List.getElem_mem (show l.length - 1 < l.length by omega))
    simp at h2
    omega

/-! ### figures: what is one -/
def inB (lo hi : Int) (x : Int) : Bool := decide (lo ≤ x) && decide (x ≤ hi)
theorem inB_iff {lo hi x : Int} : inB lo hi x = true ↔ lo ≤ x ∧ x ≤ hi := by simp [inB]
theorem l1In_is (a lo hi : Int) : spec_l1In.f a lo hi = some (inB lo hi a) := by
  unfold spec_l1In.f inB
  by_cases h : a ≥ lo
  · rw [if_pos h, decide_eq_true (show lo ≤ a from h), Bool.true_and]
  · rw [if_neg h, decide_eq_false (show ¬ lo ≤ a from h), Bool.false_and]
theorem within_is (a lo hi : Int) : impl_within.f a lo hi = some (inB lo hi a) := by
  unfold impl_within.f inB
  by_cases h : lo ≤ a
  · rw [if_pos h, decide_eq_true h, Bool.true_and]
  · rw [if_neg h, decide_eq_false h, Bool.false_and]
theorem fiGrid_is (w h : Int) : spec_fiGrid.f w h = some (inB 1 4 w && inB 1 4 h) := by
  unfold spec_fiGrid.f
  simp only [l1In_is, Option.bind_some]
  cases inB 1 4 w <;> simp
theorem isGrid_is (w h : Int) : impl_isGrid.f w h = some (inB 1 4 w && inB 1 4 h) := by
  unfold impl_isGrid.f
  simp only [within_is, Option.bind_some]
  cases inB 1 4 w <;> simp
theorem l1All_ev (l : List Int) (hl : l.length ≤ 9223372036854775807) (lo hi : Int) : Ev (fun k => spec_l1All.f k l lo hi) (l.all (inB lo hi)) := by
  have h := all_evB (fun k i => spec_l1All.l0 k lo hi l (l.length : Int) i) (fun i => inB lo hi (rd l (i : Int))) 0 l.length
    (fun i r _ hi hp hr => Ev.step (fun k => by simp only [spec_l1All.l0]; rw [if_pos (by omega), if_pos (by omega), if_pos (by omega), l1In_is, hp, Option.bind_some, if_pos rfl, w64 (by omega) (by omega)]; rfl) hr)
    (fun i _ hi hp => Ev.step (fun k => by simp only [spec_l1All.l0]; rw [if_pos (by omega), if_pos (by omega), if_pos (by omega), l1In_is, hp, Option.bind_some, if_neg (by simp)]) (Ev.now false))
    (fun i hi _ => Ev.step (fun k => by simp only [spec_l1All.l0]; rw [if_neg (by omega)]) (Ev.now true))
  rw [Nat.sub_zero, all_range l (inB lo hi)] at h
  exact h
theorem isRising_ev (l : List Int) (hl : l.length ≤ 9223372036854775807) : Ev (fun k => impl_isRising.f k l) (incr l) :=
  all_evB (fun k i => impl_isRising.l0 k l i) (fun i => decide (rd l (i : Int) > rd l ((i : Int) - 1))) 1 l.length
    (fun i r h0 hi hp hr => Ev.step (fun k => by simp only [impl_isRising.l0]; rw [if_pos (by omega), if_pos (by omega), w64 (by omega) (by omega), if_pos (by omega), if_pos (by omega), if_neg (by simp at hp; omega), w64 (by omega) (by omega)]; rfl) hr)
    (fun i h0 hi hp => Ev.step (fun k => by simp only [impl_isRising.l0]; rw [if_pos (by omega), if_pos (by omega), w64 (by omega) (by omega), if_pos (by omega), if_pos (by omega), if_pos (by simp at hp; omega)]) (Ev.now false))
    (fun i hi _ => Ev.step (fun k => by simp only [impl_isRising.l0]; rw [if_neg (by omega)]) (Ev.now true))
def rises (l : List Int) (m : Int) : Bool := l.all (inB 0 m) && incr l
theorem fiRises_ev (l : List Int) (hl : l.length ≤ 9223372036854775807) (m : Int) (h0 : 0 ≤ m) (h1 : m ≤ 1000) : Ev (fun k => spec_fiRises.f k l m) (rises l m) := by
  unfold rises spec_fiRises.f
  rw [w64 (by omega) (by omega)]
  by_cases hlen : (l.length : Int) > m + 1
  · simp only [if_pos hlen]
    have hf : (l.all (inB 0 m) && incr l) = false := by
      cases hi : incr l
      · simp
      · cases ha : l.all (inB 0 m)
        · rfl
        · rcases incr_len l hi m ha with h | h
          · omega
          · subst h
            simp at hlen
            omega
    rw [hf]
    exact Ev.step (f := fun _ => some false) (fun k => by simp [spec_fiRises.j0]) (Ev.now false)
  · simp only [if_neg hlen]
    refine Ev.bind (l1All_ev l hl 0 m) ?_
    cases ha : l.all (inB 0 m) with
    | false => exact Ev.step (f := fun _ => some false) (fun k => by simp [spec_fiRises.j0]) (Ev.now false)
    | true =>
      refine Ev.step (f := fun k => spec_fiRises.l0 k l 1) (fun k => by simp only [spec_fiRises.j0]; rw [if_neg (by simp)]) ?_
      rw [Bool.true_and]
      exact all_evB (fun k i => spec_fiRises.l0 k l i) (fun i => decide (rd l (i : Int) > rd l ((i : Int) - 1))) 1 l.length
        (fun i r h0 hi hp hr => Ev.step (fun k => by simp only [spec_fiRises.l0]; rw [if_pos (by omega), w64 (by omega) (by omega), if_pos (by omega), if_pos (by omega), if_pos (by omega), if_neg (by simp at hp; omega), w64 (by omega) (by omega)]; rfl) hr)
        (fun i h0 hi hp => Ev.step (fun k => by simp only [spec_fiRises.l0]; rw [if_pos (by omega), w64 (by omega) (by omega), if_pos (by omega), if_pos (by omega), if_pos (by omega), if_pos (by simp at hp; omega)]) (Ev.now false))
        (fun i hi _ => Ev.step (fun k => by simp only [spec_fiRises.l0]; rw [if_neg (by omega)]) (Ev.now true))
theorem grid_bounds {w h : Int} (hw : 1 ≤ w ∧ w ≤ 4) (hh : 1 ≤ h ∧ h ≤ 4) : 2 ≤ w * (h + 1) ∧ w * (h + 1) ≤ 20 ∧ 2 ≤ (w + 1) * h ∧ (w + 1) * h ≤ 20 ∧ 2 ≤ h * (w + 1) ∧ h * (w + 1) ≤ 20 ∧ 1 ≤ w * h ∧ w * h ≤ 16 ∧ h * (w + 1) = (w + 1) * h := by
  have hc : w = 1 ∨ w = 2 ∨ w = 3 ∨ w = 4 := by omega
  rcases hc with rfl | rfl | rfl | rfl <;> omega
def figGood (w h : Int) (a b : List Int) : Bool := (inB 1 4 w && inB 1 4 h) && (rises a (w * (h + 1) - 1) && rises b ((w + 1) * h - 1))
theorem fiGood_ev (w h : Int) (a b : List Int) (ha : a.length ≤ 9223372036854775807) (hb : b.length ≤ 9223372036854775807) : Ev (fun k => spec_fiGood.f k w h a b) (figGood w h a b) := by
  unfold spec_fiGood.f figGood
  rw [fiGrid_is]
  simp only [Option.bind_some]
  cases hg : (inB 1 4 w && inB 1 4 h) with
  | false => exact Ev.const (by simp)
  | true =>
    simp only [Bool.and_eq_true, inB_iff] at hg
    have B := grid_bounds hg.1 hg.2
    simp only [if_true]
    have e1 : wrap64 (wrap64 (w * wrap64 (h + 1)) - 1) = w * (h + 1) - 1 := by
      rw [w64 (n := h + 1) (by omega) (by omega), w64 (n := w * (h + 1)) (by omega) (by omega), w64 (by omega) (by omega)]
    have e2 : wrap64 (wrap64 (wrap64 (w + 1) * h) - 1) = (w + 1) * h - 1 := by
      rw [w64 (n := w + 1) (by omega) (by omega), w64 (n := (w + 1) * h) (by omega) (by omega), w64 (by omega) (by omega)]
    rw [e1, e2]
    refine Ev.bind (fiRises_ev a ha _ (by omega) (by omega)) ?_
    cases rises a (w * (h + 1) - 1) with
    | false => exact Ev.const (by simp)
    | true =>
      simp only [if_true, Bool.true_and]
      refine Ev.congr (g := fun k => (spec_fiRises.f k b ((w + 1) * h - 1)).bind fun t114 => some t114) (fun k => rfl) ?_
      exact Ev.bind (fiRises_ev b hb _ (by omega) (by omega)) (Ev.now _)
theorem levels_is {w h : Int} (hw : 1 ≤ w ∧ w ≤ 4) (hh : 1 ≤ h ∧ h ≤ 4) : impl_grid_levels.f w h = some (w * (h + 1)) := by
  have B := grid_bounds hw hh
  unfold impl_grid_levels.f
  rw [w64 (n := h + 1) (by omega) (by omega), w64 (n := w * (h + 1)) (by omega) (by omega)]
theorem uprights_is {w h : Int} (hw : 1 ≤ w ∧ w ≤ 4) (hh : 1 ≤ h ∧ h ≤ 4) : impl_grid_uprights.f w h = some ((w + 1) * h) := by
  have B := grid_bounds hw hh
  unfold impl_grid_uprights.f
  rw [w64 (n := w + 1) (by omega) (by omega), w64 (n := h * (w + 1)) (by omega) (by omega)]
  rw [Int.mul_comm]
theorem IsFigure_ev (w h : Int) (a b : List Int) (ha : a.length ≤ 9223372036854775807) (hb : b.length ≤ 9223372036854775807) : Ev (fun k => impl_IsFigure.f k w h a b) (figGood w h a b) := by
  unfold impl_IsFigure.f figGood rises
  rw [isGrid_is]
  simp only [Option.bind_some, impl_Figure_grid.f]
  cases hg : (inB 1 4 w && inB 1 4 h) with
  | false => exact Ev.const (by simp)
  | true =>
    simp only [Bool.and_eq_true, inB_iff] at hg
    have B := grid_bounds hg.1 hg.2
    simp only [if_true, levels_is hg.1 hg.2, uprights_is hg.1 hg.2, Option.bind_some, impl_areWithin.f]
    rw [w64 (n := w * (h + 1) - 1) (by omega) (by omega), w64 (n := (w + 1) * h - 1) (by omega) (by omega)]
    refine Ev.bind (isRising_ev a ha) ?_
    cases incr a with
    | false => exact Ev.const (by simp)
    | true =>
      refine Ev.bind (isRising_ev b hb) ?_
      cases incr b with
      | false => exact Ev.const (by simp)
      | true =>
        simp only [if_true, Bool.true_and, Bool.and_true]
        have q : ∀ (l : List Int) (m : Int), (l.all fun x => decide (0 ≤ x) && decide (x ≤ m)) = l.all (inB 0 m) := fun _ _ => rfl
        rw [q, q]
        cases a.all (inB 0 (w * (h + 1) - 1)) with
        | false => exact Ev.const (by simp)
        | true => exact Ev.const (by simp)
theorem good_parts {w h : Int} {a b : List Int} (g : figGood w h a b = true) : (1 ≤ w ∧ w ≤ 4) ∧ (1 ≤ h ∧ h ≤ 4) ∧ (∀ x ∈ a, 0 ≤ x ∧ x < w * (h + 1)) ∧ incr a = true ∧ (∀ x ∈ b, 0 ≤ x ∧ x < (w + 1) * h) ∧ incr b = true := by
  unfold figGood rises at g
  simp only [Bool.and_eq_true, inB_iff, List.all_eq_true] at g
  obtain ⟨⟨g1, g2⟩, ⟨g3, g4⟩, g5, g6⟩ := g
  exact ⟨g1, g2, fun x hx => by have := g3 x hx; omega, g4, fun x hx => by have := g5 x hx; omega, g6⟩

/-! ### bits: sets of numbers below 63 as natural numbers -/
theorem wu64 (n : Int) (h0 : 0 ≤ n) (h1 : n < 2 ^ 63) : IntKind.u64.wrap n = n := by
  simp only [IntKind.wrap, IntKind.bits, IntKind.signed]
  simp
  omega
theorem wi64 (n : Int) (h0 : 0 ≤ n) (h1 : n < 2 ^ 63) : IntKind.i64.wrap n = n := by
  rw [IntKind.wrap_i64]
  omega
/-- a without what b has. -/
def andN (a b : Nat) : Nat := a ^^^ (a &&& b)
theorem testBit_andN (a b i : Nat) : (andN a b).testBit i = (a.testBit i && !b.testBit i) := by
  unfold andN
  rw [Nat.testBit_xor, Nat.testBit_and]
  cases a.testBit i <;> cases b.testBit i <;> rfl
theorem andN_le (a b : Nat) : andN a b ≤ a := by
  apply Nat.le_of_testBit
  intro i h
  rw [testBit_andN] at h
  simp at h
  exact h.1
theorem castlt {n : Nat} (h : n < 2 ^ 63) : ((n : Nat) : Int) < 2 ^ 63 := by exact_mod_cast h
section
variable (k : IntKind) (hk : ∀ n : Int, 0 ≤ n → n < 2 ^ 63 → k.wrap n = n) (hb : k.bits = 64) (a b : Nat) (ha : a < 2 ^ 63) (hbb : b < 2 ^ 63)
include hk hb ha hbb
theorem bits_or : Go.bits .or k a b = ((a ||| b : Nat) : Int) := (bits_nat k 63 (by omega) hk a b ha hbb).2
theorem bits_and : Go.bits .and k a b = ((a &&& b : Nat) : Int) := (bits_nat k 63 (by omega) hk a b ha hbb).1
theorem bits_xor : Go.bits .xor k a b = ((a ^^^ b : Nat) : Int) := by
  have h1 : a % 2 ^ k.bits = a := Nat.mod_eq_of_lt (by rw [hb]; omega)
  have h2 : b % 2 ^ k.bits = b := Nat.mod_eq_of_lt (by rw [hb]; omega)
  simp only [Go.bits, BitVec.ofInt_natCast, BitVec.toNat_xor, BitVec.toNat_ofNat, h1, h2]
  exact hk _ (Int.natCast_nonneg _) (castlt (Nat.xor_lt_two_pow ha hbb))
theorem bits_andNot : Go.bits .andNot k a b = ((andN a b : Nat) : Int) := by
  have h1 : a % 2 ^ k.bits = a := Nat.mod_eq_of_lt (by rw [hb]; omega)
  have h2 : b % 2 ^ k.bits = b := Nat.mod_eq_of_lt (by rw [hb]; omega)
  have e : a &&& (2 ^ k.bits - 1 - b) = andN a b := by
    apply Nat.eq_of_testBit_eq
    intro i
    rw [Nat.testBit_and, testBit_andN, show 2 ^ k.bits - 1 - b = 2 ^ k.bits - (b + 1) by omega, Nat.testBit_two_pow_sub_succ (by rw [hb]; omega)]
    by_cases hi : i < k.bits
    · simp [hi]
    · have : a.testBit i = false := Nat.testBit_lt_two_pow (Nat.lt_of_lt_of_le ha (Nat.pow_le_pow_right (by decide) (by omega)))
      simp [this]
  simp only [Go.bits, BitVec.ofInt_natCast, BitVec.toNat_and, BitVec.toNat_not, BitVec.toNat_ofNat, h1, h2, e]
  exact hk _ (Int.natCast_nonneg _) (castlt (Nat.lt_of_le_of_lt (andN_le a b) ha))
end
theorem oru (a b : Nat) (ha : a < 2 ^ 63) (hb : b < 2 ^ 63) : Go.bits .or .u64 a b = ((a ||| b : Nat) : Int) := bits_or .u64 wu64 rfl a b ha hb
theorem ori (a b : Nat) (ha : a < 2 ^ 63) (hb : b < 2 ^ 63) : Go.bits .or .i64 a b = ((a ||| b : Nat) : Int) := bits_or .i64 wi64 rfl a b ha hb
theorem andu (a b : Nat) (ha : a < 2 ^ 63) (hb : b < 2 ^ 63) : Go.bits .and .u64 a b = ((a &&& b : Nat) : Int) := bits_and .u64 wu64 rfl a b ha hb
theorem andi (a b : Nat) (ha : a < 2 ^ 63) (hb : b < 2 ^ 63) : Go.bits .and .i64 a b = ((a &&& b : Nat) : Int) := bits_and .i64 wi64 rfl a b ha hb
theorem xoru (a b : Nat) (ha : a < 2 ^ 63) (hb : b < 2 ^ 63) : Go.bits .xor .u64 a b = ((a ^^^ b : Nat) : Int) := bits_xor .u64 wu64 rfl a b ha hb
theorem xori (a b : Nat) (ha : a < 2 ^ 63) (hb : b < 2 ^ 63) : Go.bits .xor .i64 a b = ((a ^^^ b : Nat) : Int) := bits_xor .i64 wi64 rfl a b ha hb
theorem andNu (a b : Nat) (ha : a < 2 ^ 63) (hb : b < 2 ^ 63) : Go.bits .andNot .u64 a b = ((andN a b : Nat) : Int) := bits_andNot .u64 wu64 rfl a b ha hb
theorem shl_one (k : IntKind) (hk : ∀ n : Int, 0 ≤ n → n < 2 ^ 63 → k.wrap n = n) (hb : k.bits = 64) (e : Int) (h0 : 0 ≤ e) (h1 : e < 63) : Go.Proofs.YtnmngpgjkokdaaaW.PrintWords.shl k 1 e = ((2 ^ e.toNat : Nat) : Int) := by
  obtain ⟨n, rfl⟩ := Int.eq_ofNat_of_zero_le h0
  unfold Go.Proofs.YtnmngpgjkokdaaaW.PrintWords.shl
  rw [Int.toNat_natCast, Nat.min_eq_left (by rw [hb]; omega), Int.one_mul]
  have hp : 2 ^ n < 2 ^ 63 := Nat.pow_lt_pow_right (by decide) (by omega)
  have hc : ((2 : Int) ^ n) = ((2 ^ n : Nat) : Int) := by simp
  rw [hc]
  exact hk _ (Int.natCast_nonneg _) (castlt hp)
theorem shlu (e : Int) (h0 : 0 ≤ e) (h1 : e < 63) : Go.Proofs.YtnmngpgjkokdaaaW.PrintWords.shl .u64 1 e = ((2 ^ e.toNat : Nat) : Int) := shl_one .u64 wu64 rfl e h0 h1
theorem shli (e : Int) (h0 : 0 ≤ e) (h1 : e < 63) : Go.Proofs.YtnmngpgjkokdaaaW.PrintWords.shl .i64 1 e = ((2 ^ e.toNat : Nat) : Int) := shl_one .i64 wi64 rfl e h0 h1
/-- The set of a list's numbers. -/
def maskL (l : List Int) : Nat := l.foldl (fun m x => m ||| 2 ^ x.toNat) 0
theorem testBit_pow (e j : Nat) : (2 ^ e).testBit j = decide (e = j) := Nat.testBit_two_pow
theorem foldl_mask_bit (j : Nat) : ∀ (l : List Int) (m : Nat), (l.foldl (fun m x => m ||| 2 ^ x.toNat) m).testBit j = (m.testBit j || l.any (fun x => decide (x.toNat = j)))
  | [], m => by simp
  | x :: l, m => by
    rw [List.foldl_cons, foldl_mask_bit j l, Nat.testBit_or, testBit_pow, List.any_cons, Bool.or_assoc]
theorem maskL_bit (l : List Int) (j : Nat) : (maskL l).testBit j = l.any (fun x => decide (x.toNat = j)) := by
  unfold maskL
  rw [foldl_mask_bit]
  simp
theorem maskL_mem (l : List Int) (h : ∀ x ∈ l, 0 ≤ x) (j : Nat) : (maskL l).testBit j = true ↔ (j : Int) ∈ l := by
  rw [maskL_bit, List.any_eq_true]
  constructor
  · rintro ⟨x, hx, he⟩
    have := h x hx
    simp at he
    have : x = (j : Int) := by omega
    rwa [← this]
  · intro hj
    exact ⟨_, hj, by simp⟩
theorem foldl_mask_lt (N : Nat) : ∀ (l : List Int) (m : Nat), (∀ x ∈ l, x.toNat < N) → m < 2 ^ N → (l.foldl (fun m x => m ||| 2 ^ x.toNat) m) < 2 ^ N
  | [], m, _, hm => hm
  | x :: l, m, h, hm => foldl_mask_lt N l _ (fun y hy => h y (List.mem_cons_of_mem _ hy)) (Nat.or_lt_two_pow hm (Nat.pow_lt_pow_right (by decide) (h x List.mem_cons_self)))
theorem maskL_lt (l : List Int) (N : Nat) (h : ∀ x ∈ l, x.toNat < N) : maskL l < 2 ^ N := foldl_mask_lt N l 0 h (Nat.two_pow_pos N)
theorem range_foldl {σ : Type} (l : List Int) (f : σ → Int → σ) : ∀ s, (List.range' 0 l.length).foldl (fun s (i : Nat) => f s (rd l (i : Int))) s = l.foldl f s := by
  have key : ∀ (d a : Nat) (s : σ), a + d = l.length → (List.range' a d).foldl (fun s (i : Nat) => f s (rd l (i : Int))) s = (l.drop a).foldl f s := by
    intro d
    induction d with
    | zero => intro a s h; rw [List.drop_of_length_le (by omega)]; rfl
    | succ d ih =>
      intro a s h
      have ha : a < l.length := by omega
      rw [List.range'_succ, List.foldl_cons, ih (a + 1) _ (by omega), List.drop_eq_getElem_cons ha, List.foldl_cons, rd_nat l a ha]
  intro s
  have := key l.length 0 s (by omega)
  simpa using this
theorem pow_lt63 {e : Nat} (h : e < 63) : 2 ^ e < 2 ^ 63 := Nat.pow_lt_pow_right (by decide) h
theorem lt63 {n N : Nat} (h : n < 2 ^ N) (hN : N ≤ 63) : n < 2 ^ 63 := Nat.lt_of_lt_of_le h (Nat.pow_le_pow_right (by decide) hN)
theorem and_pow_ne (m e : Nat) : (m &&& 2 ^ e ≠ 0) ↔ m.testBit e = true := by
  constructor
  · intro h
    cases hb : m.testBit e with
    | true => rfl
    | false =>
      exfalso
      apply h
      apply Nat.eq_of_testBit_eq
      intro i
      rw [Nat.testBit_and, testBit_pow, Nat.zero_testBit]
      by_cases hi : e = i
      · subst hi; simp [hb]
      · simp [hi]
  · intro h h0
    have := congrArg (fun n => n.testBit e) h0
    simp [Nat.testBit_and, testBit_pow, h] at this

/-! ### the set of a figure: level edges first -/
def edges (w h : Int) (a b : List Int) : List Int := a ++ b.map (fun x => w * (h + 1) + x)
theorem edges_lt {w h : Int} {a b : List Int} (g : figGood w h a b = true) : ∀ x ∈ edges w h a b, 0 ≤ x ∧ x < 40 := by
  obtain ⟨hw, hh, ga, _, gb, _⟩ := good_parts g
  have B := grid_bounds hw hh
  intro x hx
  rcases List.mem_append.1 hx with h1 | h1
  · have := ga x h1
    omega
  · obtain ⟨y, hy, rfl⟩ := List.mem_map.1 h1
    have := gb y hy
    have h16 : w * (h + 1) + (w + 1) * h ≤ 40 := by omega
    omega
def figM (w h : Int) (a b : List Int) : Nat := maskL (edges w h a b)
theorem figM_lt {w h : Int} {a b : List Int} (g : figGood w h a b = true) : figM w h a b < 2 ^ 40 := maskL_lt _ 40 (fun x hx => by have := edges_lt g x hx; omega)
theorem figM_fold (w h : Int) (a b : List Int) : figM w h a b = b.foldl (fun m x => m ||| 2 ^ (w * (h + 1) + x).toNat) (a.foldl (fun m x => m ||| 2 ^ x.toNat) 0) := by
  unfold figM edges maskL
  rw [List.foldl_append, List.foldl_map]

/-! ### the program's set -/
theorem figSet_ev {w h : Int} {a b : List Int} (g : figGood w h a b = true) (ha : a.length ≤ 9223372036854775807) (hb : b.length ≤ 9223372036854775807) : Ev (fun k => impl_Figure_set.f k w h a b) ((figM w h a b : Nat) : Int) := by
  obtain ⟨hw, hh, ga, _, gb, _⟩ := good_parts g
  have B := grid_bounds hw hh
  have h16 : w * (h + 1) + (w + 1) * h ≤ 40 := by omega
  have h1 : ∀ s : Nat, s < 2 ^ 40 → Ev (fun k => impl_Figure_set.l1 k (s : Int) b (b.length : Int) 0 w h a b) ((b.foldl (fun m x => m ||| 2 ^ (w * (h + 1) + x).toNat) s : Nat) : Int) := by
    intro s hs
    have h0 := fold_ev (fun k (s : Nat) i => impl_Figure_set.l1 k (s : Int) b (b.length : Int) i w h a b) (fun s i => s ||| 2 ^ (w * (h + 1) + rd b (i : Int)).toNat) (fun s => ((s : Nat) : Int)) (fun _ s => s < 2 ^ 40) b.length
      (fun s i r hi hs => by
        have hx := gb (rd b (i : Int)) (by rw [rd_nat b i hi]; exact List.getElem_mem hi)
        refine ⟨Nat.or_lt_two_pow hs (Nat.pow_lt_pow_right (by decide) (by omega)), fun hr => Ev.step (fun k => ?_) hr⟩
        simp only [impl_Figure_set.l1, impl_Figure_grid.f, Option.bind_some, levels_is hw hh]
        rw [if_pos (by omega), if_pos (by omega), if_pos (by omega), w64 (n := w * (h + 1) + rd b (i : Int)) (by omega) (by omega), if_pos (by omega), shlu _ (by omega) (by omega), oru _ _ (lt63 hs (by decide)) (pow_lt63 (by omega)), w64 (by omega) (by omega)]
        rfl)
      (fun s hs => Ev.step (fun k => by simp only [impl_Figure_set.l1]; rw [if_neg (by omega)]) (Ev.now _)) b.length 0 s (by omega) (by omega) hs
    rw [Nat.sub_zero, range_foldl b (fun m x => m ||| 2 ^ (w * (h + 1) + x).toNat)] at h0
    exact h0
  have h0 := fold_ev (fun k (s : Nat) i => impl_Figure_set.l0 k (s : Int) a (a.length : Int) i w h a b) (fun s i => s ||| 2 ^ (rd a (i : Int)).toNat) (fun s => ((b.foldl (fun m x => m ||| 2 ^ (w * (h + 1) + x).toNat) s : Nat) : Int)) (fun _ s => s < 2 ^ 40) a.length
    (fun s i r hi hs => by
      have hx := ga (rd a (i : Int)) (by rw [rd_nat a i hi]; exact List.getElem_mem hi)
      refine ⟨Nat.or_lt_two_pow hs (Nat.pow_lt_pow_right (by decide) (by omega)), fun hr => Ev.step (fun k => ?_) hr⟩
      simp only [impl_Figure_set.l0]
      rw [if_pos (by omega), if_pos (by omega), if_pos (by omega), if_pos hx.1, shlu _ hx.1 (by omega), oru _ _ (lt63 hs (by decide)) (pow_lt63 (by omega)), w64 (by omega) (by omega)]
      rfl)
    (fun s hs => Ev.step (fun k => by simp only [impl_Figure_set.l0]; rw [if_neg (by omega)]) (h1 s hs)) a.length 0 0 (by omega) (by omega) (by decide)
  rw [Nat.sub_zero, range_foldl a (fun m x => m ||| 2 ^ x.toNat)] at h0
  rw [figM_fold]
  exact h0

/-! ### loops that carry a state, to a state that is known -/
theorem run_ev {σ β : Type} (g : Nat → σ → Int → Option β) (f : σ → Nat → σ) (Q : Nat → σ → Prop) (hi : Nat) (r : β)
    (step : ∀ s i, i < hi → Q i s → (Q (i + 1) (f s i) ∧ ∀ r, Ev (fun k => g k (f s i) ((i + 1 : Nat) : Int)) r → Ev (fun k => g k s (i : Int)) r)) :
    ∀ d lo s0, hi - lo = d → Q lo s0 → (Q (lo + (hi - lo)) ((List.range' lo (hi - lo)).foldl f s0) → Ev (fun k => g k ((List.range' lo (hi - lo)).foldl f s0) ((lo + (hi - lo) : Nat) : Int)) r) → Ev (fun k => g k s0 (lo : Int)) r := by
  intro d
  induction d with
  | zero =>
    intro lo s0 h hQ fin
    rw [h] at fin
    exact fin hQ
  | succ d ih =>
    intro lo s0 h hQ fin
    have st := step s0 lo (by omega) hQ
    refine st.2 r (ih (lo + 1) (f s0 lo) (by omega) st.1 ?_)
    rw [h, List.range'_succ, List.foldl_cons] at fin
    rw [show hi - (lo + 1) = d by omega, show lo + 1 + d = lo + (d + 1) by omega]
    exact fin
theorem andN_lt {a b N : Nat} (h : a < N) : andN a b < N := Nat.lt_of_le_of_lt (andN_le a b) h
/-- covered: all of e's edges are in m -/
def cov (e m : Nat) : Bool := decide (andN e m = 0)
theorem covers_iff (m e : Nat) : (andN e m = 0) ↔ (m &&& e = e) := by
  constructor
  · intro h
    apply Nat.eq_of_testBit_eq
    intro i
    have := congrArg (fun n => n.testBit i) h
    simp only [testBit_andN, Nat.zero_testBit] at this
    rw [Nat.testBit_and]
    cases he : e.testBit i <;> cases hm : m.testBit i <;> simp_all
  · intro h
    apply Nat.eq_of_testBit_eq
    intro i
    have := congrArg (fun n => n.testBit i) h
    simp only [Nat.testBit_and] at this
    rw [testBit_andN, Nat.zero_testBit]
    cases he : e.testBit i <;> cases hm : m.testBit i <;> simp_all
theorem cov_iff (e m : Nat) : cov e m = decide (m &&& e = e) := by
  unfold cov
  rw [decide_eq_decide]
  exact covers_iff m e

/-! ### loops over a list of any kind -/
theorem range_foldlG {α σ : Type} (l : List α) (rdx : Int → α) (hrd : ∀ i, ∀ h : i < l.length, rdx ((i : Nat) : Int) = l[i]) (f : σ → α → σ) : ∀ s, (List.range' 0 l.length).foldl (fun s (i : Nat) => f s (rdx (i : Int))) s = l.foldl f s := by
  have key : ∀ (d a : Nat) (s : σ), a + d = l.length → (List.range' a d).foldl (fun s (i : Nat) => f s (rdx (i : Int))) s = (l.drop a).foldl f s := by
    intro d
    induction d with
    | zero => intro a s h; rw [List.drop_of_length_le (by omega)]; rfl
    | succ d ih =>
      intro a s h
      have ha : a < l.length := by omega
      rw [List.range'_succ, List.foldl_cons, ih (a + 1) _ (by omega), List.drop_eq_getElem_cons ha, List.foldl_cons, hrd a ha]
  intro s
  have := key l.length 0 s (by omega)
  simpa using this
theorem foldl_filter {α β : Type} (p : α → Bool) (g : α → β) : ∀ (l : List α) (s : List β), l.foldl (fun s x => if p x = true then s ++ [g x] else s) s = s ++ (l.filter p).map g
  | [], s => by simp
  | x :: l, s => by
    rw [List.foldl_cons, foldl_filter p g l, List.filter_cons]
    by_cases h : p x = true
    · rw [if_pos h, if_pos h, List.map_cons, List.append_assoc]
      rfl
    · rw [if_neg h, if_neg h]
theorem foldl_filter_le {α β : Type} (p : α → Bool) (g : α → β) (l : List α) (s : List β) (i : Nat) (h : s.length ≤ i) (x : α) : (if p x = true then s ++ [g x] else s).length ≤ i + 1 := by
  split
  · simp
    omega
  · omega

/-! ### how many bits are set -/
def pop : Nat → Nat → Nat
  | 0, _ => 0
  | f + 1, x => x % 2 + pop f (x / 2)
theorem pop_zero : ∀ f, pop f 0 = 0
  | 0 => rfl
  | f + 1 => by simp [pop, pop_zero f]
theorem and_div2 (a b : Nat) : (a &&& b) / 2 = a / 2 &&& b / 2 := by
  apply Nat.eq_of_testBit_eq
  intro i
  simp [Nat.testBit_div_two, Nat.testBit_and]
theorem and_odd (a b : Nat) : ((a &&& b) % 2 = 1) ↔ (a % 2 = 1 ∧ b % 2 = 1) := by
  have h := Nat.testBit_and a b 0
  rw [Nat.testBit_zero, Nat.testBit_zero, Nat.testBit_zero, ← Bool.decide_and, decide_eq_decide] at h
  exact h
theorem andN_odd (a b : Nat) : ((andN a b) % 2 = 1) ↔ (a % 2 = 1 ∧ ¬ b % 2 = 1) := by
  have h := testBit_andN a b 0
  rw [Nat.testBit_zero, Nat.testBit_zero, Nat.testBit_zero, ← decide_not, ← Bool.decide_and, decide_eq_decide] at h
  exact h
theorem and_mod2 (a b : Nat) : (a &&& b) % 2 = if a % 2 = 1 ∧ b % 2 = 1 then 1 else 0 := by
  have h := and_odd a b
  by_cases hc : a % 2 = 1 ∧ b % 2 = 1
  · rw [if_pos hc]
    exact h.2 hc
  · rw [if_neg hc]
    have := fun q => hc (h.1 q)
    omega
theorem pop_clear : ∀ f x, x < 2 ^ f → x ≠ 0 → pop f (x &&& (x - 1)) + 1 = pop f x := by
  intro f
  induction f with
  | zero => intro x h h0; simp at h; omega
  | succ f ih =>
    intro x h h0
    unfold pop
    rw [and_div2, and_mod2]
    rw [Nat.pow_succ] at h
    by_cases hx : x % 2 = 1
    · rw [if_neg (by omega), show (x - 1) / 2 = x / 2 by omega, Nat.and_self]
      omega
    · rw [if_neg (by omega), show (x - 1) / 2 = x / 2 - 1 by omega]
      have := ih (x / 2) (by omega) (by omega)
      omega
theorem pop_and_diff : ∀ f a b, pop f (andN a b) + pop f (a &&& b) = pop f a := by
  intro f
  induction f with
  | zero => intro a b; rfl
  | succ f ih =>
    intro a b
    have h1 : (andN a b) / 2 = andN (a / 2) (b / 2) := by
      apply Nat.eq_of_testBit_eq
      intro i
      rw [Nat.testBit_div_two, testBit_andN, testBit_andN, Nat.testBit_div_two, Nat.testBit_div_two]
    have h2 : (andN a b) % 2 + (a &&& b) % 2 = a % 2 := by
      have e1 := andN_odd a b
      have e2 := and_odd a b
      by_cases ha : a % 2 = 1 <;> by_cases hb : b % 2 = 1
      · have := e2.2 ⟨ha, hb⟩
        have := fun q => (e1.1 q).2 hb
        omega
      · have := e1.2 ⟨ha, hb⟩
        have := fun q => hb (e2.1 q).2
        omega
      · have := fun q => ha (e1.1 q).1
        have := fun q => ha (e2.1 q).1
        omega
      · have := fun q => ha (e1.1 q).1
        have := fun q => ha (e2.1 q).1
        omega
    have := ih (a / 2) (b / 2)
    unfold pop
    rw [h1, and_div2]
    omega
theorem and_comm' (a b : Nat) : a &&& b = b &&& a := Nat.and_comm a b
theorem or_odd (a b : Nat) : ((a ||| b) % 2 = 1) ↔ (a % 2 = 1 ∨ b % 2 = 1) := by
  have h := Nat.testBit_or a b 0
  rw [Nat.testBit_zero, Nat.testBit_zero, Nat.testBit_zero, ← Bool.decide_or, decide_eq_decide] at h
  exact h
theorem or_div2 (a b : Nat) : (a ||| b) / 2 = a / 2 ||| b / 2 := by
  apply Nat.eq_of_testBit_eq
  intro i
  simp [Nat.testBit_div_two, Nat.testBit_or]
theorem pop_put : ∀ f m x, x < f → m.testBit x = false → pop f (m ||| 2 ^ x) = pop f m + 1 := by
  intro f
  induction f with
  | zero => intro m x h; omega
  | succ f ih =>
    intro m x h hb
    have h2 := or_odd m (2 ^ x)
    show (m ||| 2 ^ x) % 2 + pop f ((m ||| 2 ^ x) / 2) = m % 2 + pop f (m / 2) + 1
    rw [or_div2]
    cases x with
    | zero =>
      rw [Nat.testBit_zero, decide_eq_false_iff_not] at hb
      have h3 := h2.2 (.inr rfl)
      rw [show 2 ^ 0 / 2 = 0 from rfl, Nat.or_zero]
      omega
    | succ x =>
      have hp : 2 ^ (x + 1) / 2 = 2 ^ x := by rw [Nat.pow_succ]; omega
      have hp2 : 2 ^ (x + 1) % 2 = 0 := by rw [Nat.pow_succ]; omega
      rw [hp, ih (m / 2) x (by omega) (by rw [Nat.testBit_div_two]; exact hb)]
      by_cases hm : m % 2 = 1
      · have := h2.2 (.inl hm)
        omega
      · have : ¬ (m ||| 2 ^ (x + 1)) % 2 = 1 := fun h => by
          rcases h2.1 h with h | h
          · exact hm h
          · omega
        omega
theorem pop_fold (f : Nat) : ∀ (l : List Int) (m : Nat), (∀ x ∈ l, 0 ≤ x ∧ x.toNat < f ∧ m.testBit x.toNat = false) → l.Nodup → pop f (l.foldl (fun m x => m ||| 2 ^ x.toNat) m) = pop f m + l.length
  | [], m, _, _ => by simp
  | x :: l, m, h, hn => by
    rw [List.nodup_cons] at hn
    have hx := h x List.mem_cons_self
    rw [List.foldl_cons, pop_fold f l _ (fun y hy => ?_) hn.2, pop_put f m _ hx.2.1 hx.2.2, List.length_cons]
    · omega
    · have hy2 := h y (List.mem_cons_of_mem _ hy)
      refine ⟨hy2.1, hy2.2.1, ?_⟩
      rw [Nat.testBit_or, hy2.2.2, testBit_pow, Bool.false_or]
      have : x ≠ y := fun he => hn.1 (he ▸ hy)
      have := hx.1
      have := hy2.1
      simp
      omega
theorem pop_mask (l : List Int) (h : ∀ x ∈ l, 0 ≤ x ∧ x < 60) (hn : l.Nodup) : pop 64 (maskL l) = l.length := by
  unfold maskL
  rw [pop_fold 64 l 0 (fun x hx => by have := h x hx; simp; omega) hn, pop_zero]
  omega
theorem incr_lt (l : List Int) (h : incr l = true) : ∀ i j (hj : j < l.length) (hij : i < j), l[i] < l[j] := by
  intro i j
  induction j with
  | zero => intro _ h; omega
  | succ j ih =>
    intro hj hij
    have h1 := (incr_iff l).1 h j hj
    by_cases hi : i = j
    · subst hi
      exact h1
    · have := ih (by omega) (by omega)
      omega
theorem incr_nodup (l : List Int) (h : incr l = true) : l.Nodup := by
  unfold List.Nodup
  rw [List.pairwise_iff_getElem]
  intro i j hi hj hij
  have := incr_lt l h i j hj hij
  omega

theorem edges_nodup {w h : Int} {a b : List Int} (g : figGood w h a b = true) : (edges w h a b).Nodup := by
  obtain ⟨hw, hh, ga, ia, gb, ib⟩ := good_parts g
  unfold edges
  rw [List.nodup_append]
  refine ⟨incr_nodup a ia, ?_, ?_⟩
  · have hb := incr_nodup b ib
    unfold List.Nodup at *
    rw [List.pairwise_map]
    exact hb.imp (fun h => by omega)
  · intro x hx y hy he
    obtain ⟨z, hz, rfl⟩ := List.mem_map.1 hy
    have := ga x hx
    have := gb z hz
    omega
theorem figM_pop {w h : Int} {a b : List Int} (g : figGood w h a b = true) : pop 64 (figM w h a b) = a.length + b.length := by
  unfold figM
  rw [pop_mask _ (fun x hx => by have := edges_lt g x hx; omega) (edges_nodup g)]
  unfold edges
  simp

/-! ### the library's count of bits -/
theorem and_split (Q C t c : Nat) (ht : t < 256) (hc : c < 256) : (t + 256 * Q) &&& (c + 256 * C) = (t &&& c) + 256 * (Q &&& C) := by
  have h1 : ((t + 256 * Q) &&& (c + 256 * C)) % 2 ^ 8 = (t &&& c) := by
    rw [Nat.and_mod_two_pow, show (t + 256 * Q) % 2 ^ 8 = t by omega, show (c + 256 * C) % 2 ^ 8 = c by omega]
  have h2 : ((t + 256 * Q) &&& (c + 256 * C)) / 2 ^ 8 = Q &&& C := by
    rw [Nat.and_div_two_pow, show (t + 256 * Q) / 2 ^ 8 = Q by omega, show (c + 256 * C) / 2 ^ 8 = C by omega]
  omega
def V (a b c d e : Nat) : Nat := a + 256 * (b + 256 * (c + 256 * (d + 256 * (e + 256 * 0))))
theorem and5 (a b c d e m K : Nat) (ha : a < 256) (hb : b < 256) (hc : c < 256) (hd : d < 256) (he : e < 256) (hm : m < 256) : V a b c d e &&& (m + 256 * (m + 256 * (m + 256 * (m + 256 * (m + 256 * K))))) = V (a &&& m) (b &&& m) (c &&& m) (d &&& m) (e &&& m) := by
  unfold V
  rw [and_split _ _ _ _ ha hm, and_split _ _ _ _ hb hm, and_split _ _ _ _ hc hm, and_split _ _ _ _ hd hm, and_split _ _ _ _ he hm, Nat.zero_and]
theorem V2 (a b c d e : Nat) (ha : a < 256) (hb : b < 256) (hc : c < 256) (hd : d < 256) (he : e < 256) : V a b c d e / 2 = V (a / 2 + 128 * (b % 2)) (b / 2 + 128 * (c % 2)) (c / 2 + 128 * (d % 2)) (d / 2 + 128 * (e % 2)) (e / 2 + 128 * (0 % 2)) := by unfold V; omega
theorem V4 (a b c d e : Nat) (ha : a < 256) (hb : b < 256) (hc : c < 256) (hd : d < 256) (he : e < 256) : V a b c d e / 4 = V (a / 4 + 64 * (b % 4)) (b / 4 + 64 * (c % 4)) (c / 4 + 64 * (d % 4)) (d / 4 + 64 * (e % 4)) (e / 4 + 64 * (0 % 4)) := by unfold V; omega
theorem V16 (a b c d e : Nat) (ha : a < 256) (hb : b < 256) (hc : c < 256) (hd : d < 256) (he : e < 256) : V a b c d e / 16 = V (a / 16 + 16 * (b % 16)) (b / 16 + 16 * (c % 16)) (c / 16 + 16 * (d % 16)) (d / 16 + 16 * (e % 16)) (e / 16 + 16 * (0 % 16)) := by unfold V; omega
def m1 (r : Nat) : Nat := (r / 2 &&& 85) + (r &&& 85)
def m2 (s : Nat) : Nat := (s / 4 &&& 51) + (s &&& 51)
def m3 (u : Nat) : Nat := (u / 16 + u) % 16
theorem m1_all : ((List.range 256).all fun r => (List.range 2).all fun p => decide ((r / 2 + 128 * p) &&& 85 = r / 2 &&& 85) && decide (m1 r < 256) && decide (m2 (m1 r) < 256) && decide (m2 (m1 r) % 16 ≤ 4) && decide (m2 (m1 r) / 16 ≤ 4) && decide (m3 (m2 (m1 r)) = pop 8 r) && decide (m3 (m2 (m1 r)) ≤ 8)) = true := by decide +kernel
theorem m2_all : ((List.range 256).all fun r => (List.range 4).all fun p => decide ((r / 4 + 64 * p) &&& 51 = r / 4 &&& 51)) = true := by decide +kernel
theorem m3_all : ((List.range 256).all fun r => decide (r &&& 15 = r % 16)) = true := by decide +kernel
theorem m1_is (r p : Nat) (h : r < 256) : (r / 2 + 128 * (p % 2)) &&& 85 = r / 2 &&& 85 := by
  have H := m1_all
  simp only [List.all_eq_true, List.mem_range, Bool.and_eq_true, decide_eq_true_eq] at H
  exact (H r h (p % 2) (by omega)).1.1.1.1.1.1
theorem m1_facts (r : Nat) (h : r < 256) : m1 r < 256 ∧ m2 (m1 r) < 256 ∧ m2 (m1 r) % 16 ≤ 4 ∧ m2 (m1 r) / 16 ≤ 4 ∧ m3 (m2 (m1 r)) = pop 8 r ∧ m3 (m2 (m1 r)) ≤ 8 := by
  have H := m1_all
  simp only [List.all_eq_true, List.mem_range, Bool.and_eq_true, decide_eq_true_eq] at H
  have := H r h 0 (by omega)
  exact ⟨this.1.1.1.1.1.2, this.1.1.1.1.2, this.1.1.1.2, this.1.1.2, this.1.2, this.2⟩
theorem m2_is (r p : Nat) (h : r < 256) : (r / 4 + 64 * (p % 4)) &&& 51 = r / 4 &&& 51 := by
  have H := m2_all
  simp only [List.all_eq_true, List.mem_range, decide_eq_true_eq] at H
  exact H r h (p % 4) (by omega)
theorem m3_is (r : Nat) (h : r < 256) : r &&& 15 = r % 16 := by
  have H := m3_all
  simp only [List.all_eq_true, List.mem_range, decide_eq_true_eq] at H
  exact H r h
def s1 (x : Nat) : Nat := (x / 2 &&& 6148914691236517205) + (x &&& 6148914691236517205)
def s2 (x : Nat) : Nat := (x / 4 &&& 3689348814741910323) + (x &&& 3689348814741910323)
def s3 (x : Nat) : Nat := (x / 16 + x) &&& 1085102592571150095
theorem Vadd (a b c d e a' b' c' d' e' : Nat) : V a b c d e + V a' b' c' d' e' = V (a + a') (b + b') (c + c') (d + d') (e + e') := by unfold V; omega
theorem s1_V (a b c d e : Nat) (ha : a < 256) (hb : b < 256) (hc : c < 256) (hd : d < 256) (he : e < 256) : s1 (V a b c d e) = V (m1 a) (m1 b) (m1 c) (m1 d) (m1 e) := by
  unfold s1
  rw [V2 a b c d e ha hb hc hd he, show (6148914691236517205 : Nat) = 85 + 256 * (85 + 256 * (85 + 256 * (85 + 256 * (85 + 256 * 5592405)))) from rfl, and5 _ _ _ _ _ _ _ (by omega) (by omega) (by omega) (by omega) (by omega) (by omega), and5 _ _ _ _ _ _ _ ha hb hc hd he (by omega), m1_is a b ha, m1_is b c hb, m1_is c d hc, m1_is d e hd, m1_is e 0 he, Vadd]
  rfl
theorem s2_V (a b c d e : Nat) (ha : a < 256) (hb : b < 256) (hc : c < 256) (hd : d < 256) (he : e < 256) : s2 (V a b c d e) = V (m2 a) (m2 b) (m2 c) (m2 d) (m2 e) := by
  unfold s2
  rw [V4 a b c d e ha hb hc hd he, show (3689348814741910323 : Nat) = 51 + 256 * (51 + 256 * (51 + 256 * (51 + 256 * (51 + 256 * 3355443)))) from rfl, and5 _ _ _ _ _ _ _ (by omega) (by omega) (by omega) (by omega) (by omega) (by omega), and5 _ _ _ _ _ _ _ ha hb hc hd he (by omega), m2_is a b ha, m2_is b c hb, m2_is c d hc, m2_is d e hd, m2_is e 0 he, Vadd]
  rfl
theorem s3_V (a b c d e : Nat) (ha : a % 16 ≤ 4 ∧ a / 16 ≤ 4) (hb : b % 16 ≤ 4 ∧ b / 16 ≤ 4) (hc : c % 16 ≤ 4 ∧ c / 16 ≤ 4) (hd : d % 16 ≤ 4 ∧ d / 16 ≤ 4) (he : e % 16 ≤ 4 ∧ e / 16 ≤ 4) : s3 (V a b c d e) = V (m3 a) (m3 b) (m3 c) (m3 d) (m3 e) := by
  unfold s3
  rw [V16 a b c d e (by omega) (by omega) (by omega) (by omega) (by omega), Vadd, show (1085102592571150095 : Nat) = 15 + 256 * (15 + 256 * (15 + 256 * (15 + 256 * (15 + 256 * 986895)))) from rfl, and5 _ _ _ _ _ _ _ (by omega) (by omega) (by omega) (by omega) (by omega) (by omega), m3_is _ (by omega), m3_is _ (by omega), m3_is _ (by omega), m3_is _ (by omega), m3_is _ (by omega)]
  unfold m3
  rw [show (a / 16 + 16 * (b % 16) + a) % 16 = (a / 16 + a) % 16 by omega, show (b / 16 + 16 * (c % 16) + b) % 16 = (b / 16 + b) % 16 by omega, show (c / 16 + 16 * (d % 16) + c) % 16 = (c / 16 + c) % 16 by omega, show (d / 16 + 16 * (e % 16) + d) % 16 = (d / 16 + d) % 16 by omega, show (e / 16 + 16 * (0 % 16) + e) % 16 = (e / 16 + e) % 16 by omega]
theorem pop_add : ∀ m f x, pop (m + f) x = pop m x + pop f (x / 2 ^ m) := by
  intro m
  induction m with
  | zero => intro f x; simp [pop]
  | succ m ih =>
    intro f x
    rw [Nat.succ_add]
    show x % 2 + pop (m + f) (x / 2) = x % 2 + pop m (x / 2) + pop f (x / 2 ^ (m + 1))
    rw [ih f (x / 2), Nat.div_div_eq_div_mul, Nat.pow_succ, Nat.mul_comm 2]
    omega
theorem pop_low : ∀ m r q, pop m (r + 2 ^ m * q) = pop m r := by
  intro m
  induction m with
  | zero => intro r q; rfl
  | succ m ih =>
    intro r q
    unfold pop
    rw [show r + 2 ^ (m + 1) * q = r + 2 * (2 ^ m * q) by rw [Nat.pow_succ, Nat.mul_comm (2 ^ m) 2, Nat.mul_assoc], show (r + 2 * (2 ^ m * q)) / 2 = r / 2 + 2 ^ m * q by omega, ih (r / 2) q]
    omega
theorem pop_byte (f r q : Nat) (h : r < 256) : pop (8 + f) (r + 256 * q) = pop 8 r + pop f q := by
  rw [pop_add 8 f, pop_low 8 r q, show (r + 256 * q) / 2 ^ 8 = q by omega]
theorem pop_V (a b c d e : Nat) (ha : a < 256) (hb : b < 256) (hc : c < 256) (hd : d < 256) (he : e < 256) : pop 64 (V a b c d e) = pop 8 a + (pop 8 b + (pop 8 c + (pop 8 d + pop 8 e))) := by
  unfold V
  rw [pop_byte 56 a _ ha, pop_byte 48 b _ hb, pop_byte 40 c _ hc, pop_byte 32 d _ hd, pop_byte 24 e _ he, pop_zero]
  omega
def sN (x : Nat) : Nat := let y := s3 (s2 (s1 x)); let y := y + y / 256; let y := y + y / 65536; let y := y + y / 4294967296; y % 128
theorem tail_V (a b c d e : Nat) (ha : a ≤ 8) (hb : b ≤ 8) (hc : c ≤ 8) (hd : d ≤ 8) (he : e ≤ 8) : (let y := V a b c d e; let y := y + y / 256; let y := y + y / 65536; let y := y + y / 4294967296; y % 128) = a + (b + (c + (d + e))) := by
  have e1 : V a b c d e / 256 = V b c d e 0 := by unfold V; omega
  have e2 : V (a + b) (b + c) (c + d) (d + e) (e + 0) / 65536 = V (c + d) (d + e) (e + 0) 0 0 := by unfold V; omega
  have e3 : V (a + b + (c + d)) (b + c + (d + e)) (c + d + (e + 0)) (d + e + 0) (e + 0 + 0) / 4294967296 = V (e + 0 + 0) 0 0 0 0 := by unfold V; omega
  show (V a b c d e + V a b c d e / 256 + (V a b c d e + V a b c d e / 256) / 65536 + (V a b c d e + V a b c d e / 256 + (V a b c d e + V a b c d e / 256) / 65536) / 4294967296) % 128 = _
  rw [e1, Vadd, e2, Vadd, e3, Vadd]
  unfold V
  omega
theorem sN_pop (x : Nat) (h : x < 2 ^ 40) : sN x = pop 64 x := by
  have e : x = V (x % 256) (x / 256 % 256) (x / 65536 % 256) (x / 16777216 % 256) (x / 4294967296) := by unfold V; omega
  obtain ⟨a, ha⟩ : ∃ a, a = x % 256 := ⟨_, rfl⟩
  obtain ⟨b, hb⟩ : ∃ a, a = x / 256 % 256 := ⟨_, rfl⟩
  obtain ⟨c, hc⟩ : ∃ a, a = x / 65536 % 256 := ⟨_, rfl⟩
  obtain ⟨d, hd⟩ : ∃ a, a = x / 16777216 % 256 := ⟨_, rfl⟩
  obtain ⟨f, hf⟩ : ∃ a, a = x / 4294967296 := ⟨_, rfl⟩
  have la : a < 256 := by omega
  have lb : b < 256 := by omega
  have lc : c < 256 := by omega
  have ld : d < 256 := by omega
  have lf : f < 256 := by omega
  rw [← ha, ← hb, ← hc, ← hd, ← hf] at e
  clear ha hb hc hd hf
  subst e
  have fa := m1_facts a la
  have fb := m1_facts b lb
  have fc := m1_facts c lc
  have fd := m1_facts d ld
  have ff := m1_facts f lf
  rw [pop_V a b c d f la lb lc ld lf]
  unfold sN
  rw [s1_V a b c d f la lb lc ld lf, s2_V _ _ _ _ _ fa.1 fb.1 fc.1 fd.1 ff.1, s3_V _ _ _ _ _ ⟨fa.2.2.1, fa.2.2.2.1⟩ ⟨fb.2.2.1, fb.2.2.2.1⟩ ⟨fc.2.2.1, fc.2.2.2.1⟩ ⟨fd.2.2.1, fd.2.2.2.1⟩ ⟨ff.2.2.1, ff.2.2.2.1⟩]
  rw [fa.2.2.2.2.1, fb.2.2.2.2.1, fc.2.2.2.2.1, fd.2.2.2.2.1, ff.2.2.2.2.1]
  have ga := fa.2.2.2.2.2
  have gb := fb.2.2.2.2.2
  have gc := fc.2.2.2.2.2
  have gd := fd.2.2.2.2.2
  have gf := ff.2.2.2.2.2
  rw [fa.2.2.2.2.1] at ga
  rw [fb.2.2.2.2.1] at gb
  rw [fc.2.2.2.2.1] at gc
  rw [fd.2.2.2.2.1] at gd
  rw [ff.2.2.2.2.1] at gf
  exact tail_V _ _ _ _ _ ga gb gc gd gf

theorem wrapu {n : Nat} (h : n < 2 ^ 63) : IntKind.u64.wrap ((n : Nat) : Int) = ((n : Nat) : Int) := wu64 _ (Int.natCast_nonneg _) (castlt h)
theorem go1 (x : Nat) (h : x < 2 ^ 50) : IntKind.u64.wrap ((Go.bits .and .u64 ((x : Int) / 2) 6148914691236517205) + (Go.bits .and .u64 (x : Int) 6148914691236517205)) = ((s1 x : Nat) : Int) ∧ s1 x < 2 * 2 ^ 50 := by
  have h1 : Go.bits .and .u64 ((x : Int) / 2) 6148914691236517205 = ((x / 2 &&& 6148914691236517205 : Nat) : Int) := by
    rw [show ((x : Int) / 2) = ((x / 2 : Nat) : Int) by omega]
    exact andu (x / 2) 6148914691236517205 (by omega) (by decide)
  have h2 : Go.bits .and .u64 (x : Int) 6148914691236517205 = ((x &&& 6148914691236517205 : Nat) : Int) := andu x 6148914691236517205 (by omega) (by decide)
  have l1 := Nat.and_le_left (n := x / 2) (m := 6148914691236517205)
  have l2 := Nat.and_le_left (n := x) (m := 6148914691236517205)
  have hb : s1 x < 2 * 2 ^ 50 := by unfold s1; omega
  refine ⟨?_, hb⟩
  rw [h1, h2, ← Int.natCast_add]
  exact wrapu (n := s1 x) (by omega)
theorem go2 (x : Nat) (h : x < 2 ^ 51) : IntKind.u64.wrap ((Go.bits .and .u64 ((x : Int) / 4) 3689348814741910323) + (Go.bits .and .u64 (x : Int) 3689348814741910323)) = ((s2 x : Nat) : Int) ∧ s2 x < 2 * 2 ^ 51 := by
  have h1 : Go.bits .and .u64 ((x : Int) / 4) 3689348814741910323 = ((x / 4 &&& 3689348814741910323 : Nat) : Int) := by
    rw [show ((x : Int) / 4) = ((x / 4 : Nat) : Int) by omega]
    exact andu (x / 4) 3689348814741910323 (by omega) (by decide)
  have h2 : Go.bits .and .u64 (x : Int) 3689348814741910323 = ((x &&& 3689348814741910323 : Nat) : Int) := andu x 3689348814741910323 (by omega) (by decide)
  have l1 := Nat.and_le_left (n := x / 4) (m := 3689348814741910323)
  have l2 := Nat.and_le_left (n := x) (m := 3689348814741910323)
  have hb : s2 x < 2 * 2 ^ 51 := by unfold s2; omega
  refine ⟨?_, hb⟩
  rw [h1, h2, ← Int.natCast_add]
  exact wrapu (n := s2 x) (by omega)
theorem go3 (x : Nat) (h : x < 2 ^ 52) : Go.bits .and .u64 (IntKind.u64.wrap ((x : Int) / 16 + (x : Int))) 1085102592571150095 = ((s3 x : Nat) : Int) ∧ s3 x < 2 * 2 ^ 52 := by
  have l1 := Nat.and_le_left (n := x / 16 + x) (m := 1085102592571150095)
  have hb : s3 x < 2 * 2 ^ 52 := by unfold s3; omega
  refine ⟨?_, hb⟩
  rw [show ((x : Int) / 16 + (x : Int)) = ((x / 16 + x : Nat) : Int) by omega, wrapu (by omega)]
  exact andu (x / 16 + x) 1085102592571150095 (by omega) (by decide)
theorem go4 (x : Nat) (h : x < 2 ^ 53) : IntKind.u64.wrap ((x : Int) + (x : Int) / 256) = ((x + x / 256 : Nat) : Int) := by
  rw [show ((x : Int) + (x : Int) / 256) = ((x + x / 256 : Nat) : Int) by omega, wrapu (by omega)]
theorem go5 (x : Nat) (h : x < 2 ^ 54) : IntKind.u64.wrap ((x : Int) + (x : Int) / 65536) = ((x + x / 65536 : Nat) : Int) := by
  rw [show ((x : Int) + (x : Int) / 65536) = ((x + x / 65536 : Nat) : Int) by omega, wrapu (by omega)]
theorem go6 (x : Nat) (h : x < 2 ^ 55) : IntKind.u64.wrap ((x : Int) + (x : Int) / 4294967296) = ((x + x / 4294967296 : Nat) : Int) := by
  rw [show ((x : Int) + (x : Int) / 4294967296) = ((x + x / 4294967296 : Nat) : Int) by omega, wrapu (by omega)]
theorem go7 (x : Nat) (h : x < 2 ^ 56) : Go.bits .and .i64 (wrap64 (x : Int)) 127 = ((x % 128 : Nat) : Int) := by
  rw [w64 (by omega) (by omega)]
  have := andi x 127 (by omega) (by decide)
  rw [show (127 : Nat) = 2 ^ 7 - 1 from rfl, Nat.and_two_pow_sub_one_eq_mod] at this
  exact this
theorem ones_is (x : Nat) (h : x < 2 ^ 40) : bits_OnesCount64.f (x : Int) = some ((pop 64 x : Nat) : Int) := by
  rw [← sN_pop x h]
  obtain ⟨e1, b1⟩ := go1 x (by omega)
  obtain ⟨e2, b2⟩ := go2 (s1 x) (by omega)
  obtain ⟨e3, b3⟩ := go3 (s2 (s1 x)) (by omega)
  unfold bits_OnesCount64.f sN
  rw [e1, e2, e3]
  obtain ⟨y, hy⟩ : ∃ y, s3 (s2 (s1 x)) = y := ⟨_, rfl⟩
  rw [hy] at b3 ⊢
  rw [go4 y (by omega), go5 _ (by omega), go6 _ (by omega), go7 _ (by omega)]
theorem count_is (x : Nat) (h : x < 2 ^ 40) : impl_set_count.f (x : Int) = some ((pop 64 x : Nat) : Int) := by
  unfold impl_set_count.f
  rw [ones_is x h, Option.bind_some]

/-! ### two figures of one grid -/
def twoGood (w h : Int) (a b : List Int) (w2 h2 : Int) (c d : List Int) : Bool := figGood w h a b && (figGood w2 h2 c d && (decide (w = w2) && decide (h = h2)))
theorem fiTwo_ev (w h : Int) (a b : List Int) (w2 h2 : Int) (c d : List Int) (ha : a.length ≤ 9223372036854775807) (hb : b.length ≤ 9223372036854775807) (hc : c.length ≤ 9223372036854775807) (hd : d.length ≤ 9223372036854775807) : Ev (fun k => spec_fiTwo.f k w h a b w2 h2 c d) (twoGood w h a b w2 h2 c d) := by
  unfold spec_fiTwo.f twoGood
  refine Ev.bind (fiGood_ev w h a b ha hb) ?_
  cases figGood w h a b with
  | false => exact Ev.const (by simp)
  | true =>
    simp only [if_true, Bool.true_and]
    refine Ev.bind (fiGood_ev w2 h2 c d hc hd) ?_
    cases figGood w2 h2 c d with
    | false => exact Ev.const (by simp)
    | true =>
      simp only [if_true, Bool.true_and]
      refine Ev.const ?_
      by_cases h1 : w = w2
      · rw [if_pos h1, decide_eq_true h1, Bool.true_and]
        rfl
      · rw [if_neg h1, decide_eq_false h1, Bool.false_and]
theorem areAlike_ev (w h : Int) (a b : List Int) (w2 h2 : Int) (c d : List Int) (ha : a.length ≤ 9223372036854775807) (hb : b.length ≤ 9223372036854775807) (hc : c.length ≤ 9223372036854775807) (hd : d.length ≤ 9223372036854775807) : Ev (fun k => impl_areAlike.f k w h a b w2 h2 c d) (twoGood w h a b w2 h2 c d) := by
  unfold impl_areAlike.f twoGood
  refine Ev.bind (IsFigure_ev w h a b ha hb) ?_
  cases figGood w h a b with
  | false => exact Ev.const (by simp)
  | true =>
    simp only [if_true, Bool.true_and]
    refine Ev.bind (IsFigure_ev w2 h2 c d hc hd) ?_
    cases figGood w2 h2 c d with
    | false => exact Ev.const (by simp)
    | true =>
      simp only [if_true, Bool.true_and, impl_Figure_grid.f, Option.bind_some]
      exact Ev.const rfl
theorem two_parts {w h : Int} {a b : List Int} {w2 h2 : Int} {c d : List Int} (g : twoGood w h a b w2 h2 c d = true) : figGood w h a b = true ∧ figGood w h c d = true ∧ w = w2 ∧ h = h2 := by
  unfold twoGood at g
  simp only [Bool.and_eq_true, decide_eq_true_eq] at g
  obtain ⟨g1, g2, rfl, rfl⟩ := g
  exact ⟨g1, g2, rfl, rfl⟩

/-! ### the reference's search in a list -/
theorem l1Has_ev (l : List Int) (hl : l.length ≤ 9223372036854775807) (n : Int) : Ev (fun k => spec_l1Has.f k l n) (l.any (fun x => decide (x = n))) := by
  have h := all_ev (fun k i => spec_l1Has.l0 k n l (l.length : Int) i) (fun i => !decide (rd l (i : Int) = n)) false true 0 l.length
    (fun i r _ hi hp hr => Ev.step (fun k => by simp only [spec_l1Has.l0]; rw [if_pos (by omega), if_pos (by omega), if_pos (by omega), if_neg (by simpa using hp), w64 (by omega) (by omega)]; rfl) hr)
    (fun i _ hi hp => Ev.step (fun k => by simp only [spec_l1Has.l0]; rw [if_pos (by omega), if_pos (by omega), if_pos (by omega), if_pos (by simpa using hp)]) (Ev.now true))
    (fun i hi _ => Ev.step (fun k => by simp only [spec_l1Has.l0]; rw [if_neg (by omega)]) (Ev.now false)) l.length 0 (by omega) (by omega) (by omega)
  rw [Nat.sub_zero, all_range l (fun x => !decide (x = n))] at h
  have e : (l.all fun x => !decide (x = n)) = !(l.any fun x => decide (x = n)) := by rw [List.any_eq_not_all_not]; simp
  rw [e] at h
  cases ha : (l.any fun x => decide (x = n)) <;> (rw [ha] at h; exact h)

/-! ### the reference's matches that another figure lacks -/
theorem fiThose_ev (a c : List Int) (ha : a.length ≤ 1000000) (hc : c.length ≤ 9223372036854775807) (b : Bool) : Ev (fun k => spec_fiThose.f k a c b) (a.filter (fun x => (c.any (fun z => decide (z = x))) == b)) := by
  have h0 := fold_ev (fun k (s : List Int) i => spec_fiThose.l0 k c b s a (a.length : Int) i) (fun s i => if ((c.any (fun z => decide (z = rd a (i : Int)))) == b) = true then s ++ [rd a (i : Int)] else s) (fun s => s) (fun i s => s.length ≤ i) a.length
    (fun s i r hi hs => by
      refine ⟨foldl_filter_le (fun x : Int => (c.any (fun z => decide (z = x))) == b) (fun x => x) a s i hs (rd a (i : Int)), fun hr => ?_⟩
      refine Ev.step (f := fun k => (spec_l1Has.f k c (rd a (i : Int))).bind fun t147 => (if (t147 == b) = true then (if s.length < 17592186044416 then (spec_fiThose.l0 k c b (s ++ [rd a (i : Int)]) a (a.length : Int) (wrap64 ((i : Int) + 1))) else (none)) else (spec_fiThose.l0 k c b s a (a.length : Int) (wrap64 ((i : Int) + 1))))) (fun k => by simp only [spec_fiThose.l0]; rw [if_pos (by omega), if_pos (by omega), if_pos (by omega)]) ?_
      refine Ev.bind (l1Has_ev c hc _) ?_
      rw [w64 (by omega) (by omega)]
      cases hq : ((c.any (fun z => decide (z = rd a (i : Int)))) == b) with
      | true =>
        rw [hq, if_pos rfl] at hr
        refine Ev.congr (fun k => ?_) hr
        rw [if_pos rfl, if_pos (by omega)]
        rfl
      | false =>
        rw [hq, if_neg (by simp)] at hr
        refine Ev.congr (fun k => ?_) hr
        rw [if_neg (by simp)]
        rfl)
    (fun s hs => Ev.step (fun k => by simp only [spec_fiThose.l0]; rw [if_neg (by omega)]) (Ev.now _)) a.length 0 [] (by omega) (by omega) (by simp)
  rw [Nat.sub_zero, range_foldlG a (fun i => rd a i) (fun i hi => rd_nat a i hi) (fun s x => if ((c.any (fun z => decide (z = x))) == b) = true then s ++ [x] else s), foldl_filter (fun x : Int => (c.any (fun z => decide (z = x))) == b) (fun x => x), List.nil_append, List.map_id'] at h0
  exact h0
theorem maskL_less (l : List Int) (h : ∀ x ∈ l, 0 ≤ x) (m : Nat) : andN (maskL l) m = maskL (l.filter (fun x => !m.testBit x.toNat)) := by
  apply Nat.eq_of_testBit_eq
  intro i
  rw [testBit_andN, maskL_bit, maskL_bit, List.any_filter]
  rw [Bool.eq_iff_iff]
  simp only [Bool.and_eq_true, List.any_eq_true, decide_eq_true_eq]
  constructor
  · rintro ⟨⟨x, hx, rfl⟩, h2⟩
    exact ⟨x, hx, h2, rfl⟩
  · rintro ⟨x, hx, h2, rfl⟩
    exact ⟨⟨x, hx, rfl⟩, h2⟩
/-- A level edge's bit, and an upright one's. -/
theorem bit_level {w h : Int} {a b : List Int} (g : figGood w h a b = true) {x : Int} (h0 : 0 ≤ x) (h1 : x < w * (h + 1)) : (figM w h a b).testBit x.toNat = a.any (fun z => decide (z = x)) := by
  obtain ⟨hw, hh, ga, _, gb, _⟩ := good_parts g
  rw [Bool.eq_iff_iff]
  unfold figM
  rw [maskL_mem _ (fun x hx => (edges_lt g x hx).1), show ((x.toNat : Nat) : Int) = x by omega]
  unfold edges
  rw [List.any_eq_true, List.mem_append, List.mem_map]
  simp only [decide_eq_true_eq]
  constructor
  · rintro (h1 | ⟨z, hz, he⟩)
    · exact ⟨_, h1, rfl⟩
    · have := gb _ hz
      omega
  · rintro ⟨z, hz, rfl⟩
    exact .inl hz
theorem bit_upright {w h : Int} {a b : List Int} (g : figGood w h a b = true) {x : Int} (h0 : 0 ≤ x) : (figM w h a b).testBit (w * (h + 1) + x).toNat = b.any (fun z => decide (z = x)) := by
  obtain ⟨hw, hh, ga, _, gb, _⟩ := good_parts g
  have G := grid_bounds hw hh
  rw [Bool.eq_iff_iff]
  unfold figM
  rw [maskL_mem _ (fun x hx => (edges_lt g x hx).1), show (((w * (h + 1) + x).toNat : Nat) : Int) = w * (h + 1) + x by omega]
  unfold edges
  rw [List.any_eq_true, List.mem_append, List.mem_map]
  simp only [decide_eq_true_eq]
  constructor
  · rintro (h1 | ⟨z, hz, he⟩)
    · have := ga _ h1
      omega
    · exact ⟨z, hz, by omega⟩
  · rintro ⟨z, hz, rfl⟩
    exact .inr ⟨z, hz, rfl⟩
theorem edges_filter {w h : Int} {a b c d : List Int} (g : figGood w h a b = true) (g' : figGood w h c d = true) (q : Bool) : (edges w h a b).filter (fun x => (figM w h c d).testBit x.toNat == q) = edges w h (a.filter (fun x => (c.any (fun z => decide (z = x))) == q)) (b.filter (fun x => (d.any (fun z => decide (z = x))) == q)) := by
  obtain ⟨hw, hh, ga, _, gb, _⟩ := good_parts g
  unfold edges
  rw [List.filter_append, List.filter_map]
  congr 1
  · exact List.filter_congr (fun x hx => by rw [bit_level g' (ga x hx).1 (ga x hx).2])
  · congr 1
    exact List.filter_congr (fun x hx => by simp only [Function.comp]; rw [bit_upright g' (gb x hx).1])

/-! ### what the laws do about their arguments -/
theorem szIntS_is (l : List Int) (left : Int) (hl : l.length ≤ 9223372036854775807) (h0 : 0 ≤ left) (h1 : left ≤ 1000000) : laws_szIntS.f l left = some (if (l.length : Int) ≤ left then left - (l.length : Int) else -1) := by
  unfold laws_szIntS.f
  rw [w64 (by omega) (by omega)]
  by_cases h : (l.length : Int) ≤ left
  · rw [if_neg (by omega), if_pos h]
  · rw [if_pos (by omega), if_neg h]
theorem szFigure_is (w h : Int) (a b : List Int) (ha : a.length ≤ 9223372036854775807) (hb : b.length ≤ 9223372036854775807) (left : Int) (h0 : 0 ≤ left) (h1 : left ≤ 1000000) : laws_szFigure.f w h a b left = some (if (a.length : Int) + (b.length : Int) ≤ left then left - (a.length : Int) - (b.length : Int) else -1) := by
  unfold laws_szFigure.f
  rw [szIntS_is a left ha h0 h1, Option.bind_some]
  by_cases h : (a.length : Int) ≤ left
  · rw [if_pos h, if_neg (by omega), szIntS_is b _ hb (by omega) (by omega), Option.bind_some]
    by_cases h2 : (a.length : Int) + (b.length : Int) ≤ left
    · have h3 : (b.length : Int) ≤ left - (a.length : Int) := by omega
      rw [if_pos h3, if_neg (by omega), if_pos h2]
    · have h3 : ¬ (b.length : Int) ≤ left - (a.length : Int) := by omega
      rw [if_neg h3, if_pos (by omega), if_neg h2]
  · rw [if_neg h, if_pos (by omega), if_neg (by omega)]
theorem toFigure_is (w h : Int) (a b : List Int) (x : Bool) (hab : (a.length : Int) + (b.length : Int) ≤ 1000000) : laws_toFigure.f w h a b x = some (w, h, a, b) := by
  unfold laws_toFigure.f laws_toIntS.f
  rw [if_pos (by omega), if_pos (by omega)]
  rfl
theorem intactFigure_is (w h : Int) (a b : List Int) (hab : (a.length : Int) + (b.length : Int) ≤ 1000000) : laws_intactFigure.f w h a b w h a b = some true := by
  unfold laws_intactFigure.f laws_intactIntS.f
  rw [if_pos rfl, if_pos rfl, if_pos (by omega), if_pos (by omega)]
  simp

/-! ### the law's own ado: two figures -/
theorem law_end (w h : Int) (a b : List Int) (w2 h2 : Int) (c d : List Int) (ha : a.length ≤ 9223372036854775807) (hb : b.length ≤ 9223372036854775807) (hc : c.length ≤ 9223372036854775807) (hd : d.length ≤ 9223372036854775807) (hv : (a.length : Int) + (b.length : Int) ≤ 1000000 → (c.length : Int) + (d.length : Int) ≤ 1000000 → ∃ v, Ev (fun k => spec_MovesBetween.f k w h a b w2 h2 c d) v ∧ Ev (fun k => impl_MovesBetween.f k w h a b w2 h2 c d) v) : ∃ k, laws_FnExactMovesBetween.f k w h a b w2 h2 c d = some true := by
  by_cases hab : (a.length : Int) + (b.length : Int) ≤ 1000000
  · by_cases hcd : (c.length : Int) + (d.length : Int) ≤ 1000000 - (a.length : Int) - (b.length : Int)
    · obtain ⟨v, hs, hi⟩ := hv hab (by omega)
      obtain ⟨K, hK⟩ := Ev.both hs hi
      obtain ⟨hs1, hi1⟩ := hK (K + 1) (by omega)
      obtain ⟨_, hi0⟩ := hK K (by omega)
      refine ⟨K + 1, ?_⟩
      unfold laws_FnExactMovesBetween.f
      rw [szFigure_is w h a b ha hb _ (by omega) (by omega), Option.bind_some, if_pos hab, if_neg (by omega), szFigure_is w2 h2 c d hc hd _ (by omega) (by omega), Option.bind_some, if_pos hcd, if_neg (by omega)]
      simp only [toFigure_is w h a b _ hab, toFigure_is w2 h2 c d _ (by omega : (c.length : Int) + (d.length : Int) ≤ 1000000), Option.bind_some, hs1, hi1, bne_self_eq_false, laws_FnExactMovesBetween.j0, hi0, intactFigure_is w h a b hab, intactFigure_is w2 h2 c d (by omega : (c.length : Int) + (d.length : Int) ≤ 1000000)]
      simp
    · refine ⟨0, ?_⟩
      unfold laws_FnExactMovesBetween.f
      rw [szFigure_is w h a b ha hb _ (by omega) (by omega), Option.bind_some, if_pos hab, if_neg (by omega), szFigure_is w2 h2 c d hc hd _ (by omega) (by omega), Option.bind_some, if_neg hcd, if_pos (by omega)]
  · refine ⟨0, ?_⟩
    unfold laws_FnExactMovesBetween.f
    rw [szFigure_is w h a b ha hb _ (by omega) (by omega), Option.bind_some, if_neg hab, if_pos (by omega)]

theorem less_count {w h : Int} {a b c d : List Int} (g : figGood w h a b = true) (g' : figGood w h c d = true) : pop 64 (andN (figM w h a b) (figM w h c d)) = (a.filter (fun x => (c.any (fun z => decide (z = x))) == false)).length + (b.filter (fun x => (d.any (fun z => decide (z = x))) == false)).length := by
  have hl := fun x hx => edges_lt g x hx
  have hf := edges_filter g g' false
  have e1 : (edges w h a b).filter (fun x => !(figM w h c d).testBit x.toNat) = (edges w h a b).filter (fun x => (figM w h c d).testBit x.toNat == false) := List.filter_congr (fun x _ => by cases (figM w h c d).testBit x.toNat <;> rfl)
  have e2 : andN (figM w h a b) (figM w h c d) = maskL ((edges w h a b).filter (fun x => !(figM w h c d).testBit x.toNat)) := maskL_less _ (fun x hx => (hl x hx).1) _
  rw [e2, pop_mask _ (fun x hx => by have := hl x (List.mem_filter.1 hx).1; omega) ((edges_nodup g).filter _), e1, hf]
  unfold edges
  simp
theorem both_MovesBetween (w h : Int) (a b : List Int) (w2 h2 : Int) (c d : List Int) (ha : a.length ≤ 9223372036854775807) (hb : b.length ≤ 9223372036854775807) (hc : c.length ≤ 9223372036854775807) (hd : d.length ≤ 9223372036854775807) (hab : (a.length : Int) + (b.length : Int) ≤ 1000000) (hcd : (c.length : Int) + (d.length : Int) ≤ 1000000) : ∃ v, Ev (fun k => spec_MovesBetween.f k w h a b w2 h2 c d) v ∧ Ev (fun k => impl_MovesBetween.f k w h a b w2 h2 c d) v := by
  unfold spec_MovesBetween.f impl_MovesBetween.f
  have sno : ∀ (w h : Int) (a b : List Int) (w2 h2 : Int) (c d : List Int), Ev (fun k => spec_MovesBetween.j0 k true w h a b w2 h2 c d) (0, false) := fun w h a b w2 h2 c d => Ev.step (f := fun _ => some (0, false)) (fun k => by simp [spec_MovesBetween.j0]) (Ev.now _)
  have ino : ∀ (w h : Int) (a b : List Int) (w2 h2 : Int) (c d : List Int), Ev (fun k => impl_MovesBetween.j0 k true w h a b w2 h2 c d) (0, false) := fun w h a b w2 h2 c d => Ev.step (f := fun _ => some (0, false)) (fun k => by simp [impl_MovesBetween.j0]) (Ev.now _)
  cases g2 : twoGood w h a b w2 h2 c d with
  | false =>
    refine ⟨(0, false), Ev.bind (fiTwo_ev w h a b w2 h2 c d ha hb hc hd) ?_, Ev.bind (areAlike_ev w h a b w2 h2 c d ha hb hc hd) ?_⟩
    · rw [g2]
      exact sno w h a b w2 h2 c d
    · rw [g2]
      exact ino w h a b w2 h2 c d
  | true =>
    obtain ⟨g, g', rfl, rfl⟩ := two_parts g2
    have l1 := figM_lt g
    have l2 := figM_lt g'
    have c1 : spec_fiCount.f w h a b = some ((pop 64 (figM w h a b) : Nat) : Int) := by
      unfold spec_fiCount.f
      rw [w64 (by omega) (by omega), figM_pop g]
      simp
    have c2 : spec_fiCount.f w h c d = some ((pop 64 (figM w h c d) : Nat) : Int) := by
      unfold spec_fiCount.f
      rw [w64 (by omega) (by omega), figM_pop g']
      simp
    by_cases he : pop 64 (figM w h a b) = pop 64 (figM w h c d)
    · have l4 : andN (figM w h c d) (figM w h a b) < 2 ^ 40 := andN_lt l2
      have p1 := pop_and_diff 64 (figM w h a b) (figM w h c d)
      have p2 := pop_and_diff 64 (figM w h c d) (figM w h a b)
      rw [Nat.and_comm] at p2
      have e : pop 64 (andN (figM w h c d) (figM w h a b)) = pop 64 (andN (figM w h a b) (figM w h c d)) := by omega
      refine ⟨(((pop 64 (andN (figM w h a b) (figM w h c d)) : Nat) : Int), true), Ev.bind (fiTwo_ev _ _ a b _ _ c d ha hb hc hd) ?_, Ev.bind (areAlike_ev _ _ a b _ _ c d ha hb hc hd) ?_⟩
      · rw [g2, c1, c2]
        simp only [if_true, Option.bind_some, he, bne_self_eq_false]
        refine Ev.step (f := fun k => (spec_fiLess.f k w h a b w h c d).bind fun bt165 => ((spec_fiCount.f bt165.1 bt165.2.1 bt165.2.2.1 bt165.2.2.2).bind fun t173 => (some (t173, true)))) (fun k => by simp only [spec_MovesBetween.j0]; rw [if_neg (by simp)]) ?_
        unfold spec_fiLess.f
        refine Ev.bind (Ev.bind (fiThose_ev a c (by omega) hc false) (Ev.bind (fiThose_ev b d (by omega) hd false) (Ev.now _))) (Ev.const ?_)
        have q1 := List.length_filter_le (fun x => (c.any (fun z => decide (z = x))) == false) a
        have q2 := List.length_filter_le (fun x => (d.any (fun z => decide (z = x))) == false) b
        unfold spec_fiCount.f
        rw [less_count g g', Option.bind_some, w64 (by simp only; omega) (by simp only; omega)]
        simp
      · rw [g2]
        simp only [if_true]
        refine Ev.bind (figSet_ev g ha hb) ?_
        refine Ev.bind (Ev.const (count_is _ l1)) ?_
        refine Ev.bind (figSet_ev g' hc hd) ?_
        refine Ev.bind (Ev.const (count_is _ l2)) ?_
        rw [he, bne_self_eq_false]
        refine Ev.step (f := fun k => (impl_Figure_set.f k w h c d).bind fun t216 => ((impl_Figure_set.f k w h a b).bind fun t217 => ((impl_set_count.f (Go.bits .andNot .u64 t216 t217)).bind fun t218 => (some (t218, true))))) (fun k => by simp only [impl_MovesBetween.j0]; rw [if_neg (by simp)]) ?_
        refine Ev.bind (figSet_ev g' hc hd) (Ev.bind (figSet_ev g ha hb) (Ev.const ?_))
        rw [andNu _ _ (by omega) (by omega), count_is _ l4, Option.bind_some, e]
    · have hne : (((pop 64 (figM w h a b) : Nat) : Int) != ((pop 64 (figM w h c d) : Nat) : Int)) = true := bne_iff_ne.2 (by omega)
      refine ⟨(0, false), Ev.bind (fiTwo_ev _ _ a b _ _ c d ha hb hc hd) ?_, Ev.bind (areAlike_ev _ _ a b _ _ c d ha hb hc hd) ?_⟩
      · rw [g2, c1, c2]
        simp only [if_true, Option.bind_some, hne]
        exact sno w h a b w h c d
      · rw [g2]
        simp only [if_true]
        refine Ev.bind (figSet_ev g ha hb) ?_
        refine Ev.bind (Ev.const (count_is _ l1)) ?_
        refine Ev.bind (figSet_ev g' hc hd) ?_
        refine Ev.bind (Ev.const (count_is _ l2)) ?_
        rw [hne]
        exact ino w h a b w h c d
theorem FnExactMovesBetween : laws_FnExactMovesBetween.Pure := by
  intro w h a b w2 h2 c d _ _ ha _ hb _ _ _ hc _ hd _
  exact law_end w h a b w2 h2 c d (maxLen_le ha) (maxLen_le hb) (maxLen_le hc) (maxLen_le hd) (fun hab hcd => both_MovesBetween w h a b w2 h2 c d (maxLen_le ha) (maxLen_le hb) (maxLen_le hc) (maxLen_le hd) hab hcd)

end Go.Proofs.Ytnmngpgjkokdaaa.Pure
