/- Proved here: the pure statement of FnExactIsSquareAt: program and reference answer the same whether there is a square of a size at a cell. Conditions: the numbers are 64 bit integers, the lists are no longer than a slice can be. -/
import Derived.Test.YtjkkgnpgjgfidaaQFnExactIsSquareAtx9
set_option linter.unusedVariables false
set_option linter.unusedSimpArgs false
namespace Go.Proofs.Ytjkkgnpgjgfidaa.Pure
open Go.RowKit Go.Proofs.Ytjkkgnpgjgfidaa.Q Go.Proofs.YtjkkgnpgjgfidaaW.PrintWords Go.Proofs.YtjkkgnpgjgfidaaW.PrintLast

/-! ### base: wrapping, 'from some number of rounds on', loops -/
theorem w64 {n : Int} (h0 : -9223372036854775808 ≤ n) (h1 : n ≤ 9223372036854775807) : wrap64 n = n := by unfold wrap64; omega
theorem wf64 {x : Int} (h : (Lit.int .i64 x).wf = true) : -9223372036854775808 ≤ x ∧ x ≤ 9223372036854775807 := by
  simp [Lit.wf, IntKind.min, IntKind.max, IntKind.signed, IntKind.bits] at h
  omega
theorem maxLen_le {n : Nat} (h : n ≤ maxLen) : n ≤ 9223372036854775807 := by unfold maxLen at h; omega
theorem Ev.both {α β : Type} {g : Nat → Option α} {f : Nat → Option β} {a : α} {b : β} (h : Ev g a) (k : Ev f b) : ∃ K, ∀ n, K ≤ n → g n = some a ∧ f n = some b := by
  obtain ⟨K, h⟩ := h
  obtain ⟨K', k⟩ := k
  exact ⟨max K K', fun n hn => ⟨h n (by omega), k n (by omega)⟩⟩
theorem Ev.const {α : Type} {x : Option α} {r : α} (h : x = some r) : Ev (fun _ => x) r := ⟨0, fun _ _ => h⟩
/-- A loop from lo on that ends early with 'bad', or runs through. -/
theorem all_ev {β : Type} (g : Nat → Int → Option β) (p : Nat → Bool) (good bad : β) (lo n : Nat)
    (hgood : ∀ i r, lo ≤ i → i < n → p i = true → Ev (fun k => g k ((i + 1 : Nat) : Int)) r → Ev (fun k => g k (i : Int)) r)
    (hbad : ∀ i, lo ≤ i → i < n → p i = false → Ev (fun k => g k (i : Int)) bad)
    (fin : ∀ i, n ≤ i → i ≤ n + lo → Ev (fun k => g k (i : Int)) good) : ∀ d a, n - a = d → lo ≤ a → a ≤ n + lo → Ev (fun k => g k (a : Int)) (if (List.range' a (n - a)).all p = true then good else bad) := by
  intro d
  induction d with
  | zero =>
    intro a ha hlo hle
    rw [ha]
    simpa using fin a (by omega) hle
  | succ d ih =>
    intro a ha hlo hle
    rw [ha, List.range'_succ, List.all_cons]
    cases hp : p a with
    | true =>
      have := ih (a + 1) (by omega) (by omega) (by omega)
      rw [show n - (a + 1) = d by omega] at this
      simp only [Bool.true_and]
      exact hgood a _ hlo (by omega) hp this
    | false =>
      simp only [Bool.false_and]
      exact hbad a hlo (by omega) hp
/-- The same where it answers whether all held. -/
theorem all_evB (g : Nat → Int → Option Bool) (p : Nat → Bool) (lo n : Nat)
    (hgood : ∀ i r, lo ≤ i → i < n → p i = true → Ev (fun k => g k ((i + 1 : Nat) : Int)) r → Ev (fun k => g k (i : Int)) r)
    (hbad : ∀ i, lo ≤ i → i < n → p i = false → Ev (fun k => g k (i : Int)) false)
    (fin : ∀ i, n ≤ i → i ≤ n + lo → Ev (fun k => g k (i : Int)) true) : Ev (fun k => g k (lo : Int)) ((List.range' lo (n - lo)).all p) := by
  have h := all_ev g p true false lo n hgood hbad fin (n - lo) lo rfl (Nat.le_refl _) (by omega)
  cases hb : (List.range' lo (n - lo)).all p <;> simpa [hb] using h
/-- A loop that carries a state s; P: what is known of it. -/
theorem fold_ev {σ β : Type} (g : Nat → σ → Int → Option β) (f : σ → Nat → σ) (h : σ → β) (P : Nat → σ → Prop) (n : Nat)
    (step : ∀ s i r, i < n → P i s → (P (i + 1) (f s i) ∧ (Ev (fun k => g k (f s i) ((i + 1 : Nat) : Int)) r → Ev (fun k => g k s (i : Int)) r)))
    (fin : ∀ s, P n s → Ev (fun k => g k s (n : Int)) (h s)) : ∀ d a s, n - a = d → a ≤ n → P a s → Ev (fun k => g k s (a : Int)) (h ((List.range' a (n - a)).foldl f s)) := by
  intro d
  induction d with
  | zero =>
    intro a s ha hle hP
    obtain rfl : a = n := by omega
    simpa using fin s hP
  | succ d ih =>
    intro a s ha hle hP
    rw [ha, List.range'_succ, List.foldl_cons]
    have := step s a (h ((List.range' (a + 1) d).foldl f (f s a))) (by omega) hP
    refine this.2 ?_
    have h2 := ih (a + 1) (f s a) (by omega) (by omega) this.1
    rw [show n - (a + 1) = d by omega] at h2
    exact h2
theorem rd_nat (l : List Int) (i : Nat) (h : i < l.length) : rd l (i : Int) = l[i] := by unfold rd; rw [Int.toNat_natCast]; simp [List.getD_eq_getElem?_getD, h]
theorem all_range (l : List Int) (q : Int → Bool) : (List.range' 0 l.length).all (fun i => q (rd l (i : Int))) = l.all q := by
  rw [Bool.eq_iff_iff, List.all_eq_true, List.all_eq_true]
  constructor
  · intro h x hx
    obtain ⟨i, hi, rfl⟩ := List.getElem_of_mem hx
    have := h i (by simp; omega)
    rwa [rd_nat l i hi] at this
  · intro h i hi
    have hi : i < l.length := by simp at hi; omega
    rw [rd_nat l i hi]
    exact h _ (List.getElem_mem hi)
/-- Strictly increasing. -/
def incr (l : List Int) : Bool := (List.range' 1 (l.length - 1)).all fun i => decide (rd l (i : Int) > rd l ((i : Int) - 1))
theorem incr_iff (l : List Int) : incr l = true ↔ ∀ i, ∀ h : i + 1 < l.length, l[i] < l[i + 1] := by
  unfold incr
  rw [List.all_eq_true]
  constructor
  · intro h i hi
    have := h (i + 1) (by simp; omega)
    rw [rd_nat l (i + 1) hi, show (((i + 1 : Nat) : Int) - 1) = ((i : Nat) : Int) by omega, rd_nat l i (by omega)] at this
    simpa using this
  · intro h i hi
    obtain ⟨j, rfl⟩ : ∃ j, i = j + 1 := ⟨i - 1, by simp at hi; omega⟩
    have hj : j + 1 < l.length := by simp at hi; omega
    rw [rd_nat l (j + 1) hj, show (((j + 1 : Nat) : Int) - 1) = ((j : Nat) : Int) by omega, rd_nat l j (by omega)]
    simpa using h j hj
theorem incr_ge (l : List Int) (h : incr l = true) (h0 : ∀ x ∈ l, 0 ≤ x) : ∀ i (hi : i < l.length), (i : Int) ≤ l[i] := by
  intro i
  induction i with
  | zero => intro hi; exact h0 _ (List.getElem_mem hi)
  | succ i ih =>
    intro hi
    have := ih (by omega)
    have := (incr_iff l).1 h i hi
    omega
theorem incr_len (l : List Int) (h : incr l = true) (m : Int) (hm : l.all (fun x => decide (0 ≤ x) && decide (x ≤ m)) = true) : (l.length : Int) ≤ m + 1 ∨ l = [] := by
  rw [List.all_eq_true] at hm
  by_cases h0 : l = []
  · exact .inr h0
  · left
    have hp := List.length_pos_iff.2 h0
    have h1 := incr_ge l h (fun x hx => by have := hm x hx; simp at this; omega) (l.length - 1) (by omega)
    have h2 := hm _ (List.getElem_mem (show l.length - 1 < l.length by omega))
    simp at h2
    omega

/-! ### figures: what is one -/
def inB (lo hi : Int) (x : Int) : Bool := decide (lo ≤ x) && decide (x ≤ hi)
theorem inB_iff {lo hi x : Int} : inB lo hi x = true ↔ lo ≤ x ∧ x ≤ hi := by simp [inB]
theorem l1In_is (a lo hi : Int) : spec_l1In.f a lo hi = some (inB lo hi a) := by
  unfold spec_l1In.f inB
  by_cases h : a ≥ lo
  · rw [if_pos h, decide_eq_true (show lo ≤ a from h), Bool.true_and]
  · rw [if_neg h, decide_eq_false (show ¬ lo ≤ a from h), Bool.false_and]
theorem within_is (a lo hi : Int) : impl_within.f a lo hi = some (inB lo hi a) := by
  unfold impl_within.f inB
  by_cases h : lo ≤ a
  · rw [if_pos h, decide_eq_true h, Bool.true_and]
  · rw [if_neg h, decide_eq_false h, Bool.false_and]
theorem fiGrid_is (w h : Int) : spec_fiGrid.f w h = some (inB 1 4 w && inB 1 4 h) := by
  unfold spec_fiGrid.f
  simp only [l1In_is, Option.bind_some]
  cases inB 1 4 w <;> simp
theorem isGrid_is (w h : Int) : impl_isGrid.f w h = some (inB 1 4 w && inB 1 4 h) := by
  unfold impl_isGrid.f
  simp only [within_is, Option.bind_some]
  cases inB 1 4 w <;> simp
theorem l1All_ev (l : List Int) (hl : l.length ≤ 9223372036854775807) (lo hi : Int) : Ev (fun k => spec_l1All.f k l lo hi) (l.all (inB lo hi)) := by
  have h := all_evB (fun k i => spec_l1All.l0 k lo hi l (l.length : Int) i) (fun i => inB lo hi (rd l (i : Int))) 0 l.length
    (fun i r _ hi hp hr => Ev.step (fun k => by simp only [spec_l1All.l0]; rw [if_pos (by omega), if_pos (by omega), if_pos (by omega), l1In_is, hp, Option.bind_some, if_pos rfl, w64 (by omega) (by omega)]; rfl) hr)
    (fun i _ hi hp => Ev.step (fun k => by simp only [spec_l1All.l0]; rw [if_pos (by omega), if_pos (by omega), if_pos (by omega), l1In_is, hp, Option.bind_some, if_neg (by simp)]) (Ev.now false))
    (fun i hi _ => Ev.step (fun k => by simp only [spec_l1All.l0]; rw [if_neg (by omega)]) (Ev.now true))
  rw [Nat.sub_zero, all_range l (inB lo hi)] at h
  exact h
theorem isRising_ev (l : List Int) (hl : l.length ≤ 9223372036854775807) : Ev (fun k => impl_isRising.f k l) (incr l) :=
  all_evB (fun k i => impl_isRising.l0 k l i) (fun i => decide (rd l (i : Int) > rd l ((i : Int) - 1))) 1 l.length
    (fun i r h0 hi hp hr => Ev.step (fun k => by simp only [impl_isRising.l0]; rw [if_pos (by omega), if_pos (by omega), w64 (by omega) (by omega), if_pos (by omega), if_pos (by omega), if_neg (by simp at hp; omega), w64 (by omega) (by omega)]; rfl) hr)
    (fun i h0 hi hp => Ev.step (fun k => by simp only [impl_isRising.l0]; rw [if_pos (by omega), if_pos (by omega), w64 (by omega) (by omega), if_pos (by omega), if_pos (by omega), if_pos (by simp at hp; omega)]) (Ev.now false))
    (fun i hi _ => Ev.step (fun k => by simp only [impl_isRising.l0]; rw [if_neg (by omega)]) (Ev.now true))
def rises (l : List Int) (m : Int) : Bool := l.all (inB 0 m) && incr l
theorem fiRises_ev (l : List Int) (hl : l.length ≤ 9223372036854775807) (m : Int) (h0 : 0 ≤ m) (h1 : m ≤ 1000) : Ev (fun k => spec_fiRises.f k l m) (rises l m) := by
  unfold rises spec_fiRises.f
  rw [w64 (by omega) (by omega)]
  by_cases hlen : (l.length : Int) > m + 1
  · simp only [if_pos hlen]
    have hf : (l.all (inB 0 m) && incr l) = false := by
      cases hi : incr l
      · simp
      · cases ha : l.all (inB 0 m)
        · rfl
        · rcases incr_len l hi m ha with h | h
          · omega
          · subst h
            simp at hlen
            omega
    rw [hf]
    exact Ev.step (f := fun _ => some false) (fun k => by simp [spec_fiRises.j0]) (Ev.now false)
  · simp only [if_neg hlen]
    refine Ev.bind (l1All_ev l hl 0 m) ?_
    cases ha : l.all (inB 0 m) with
    | false => exact Ev.step (f := fun _ => some false) (fun k => by simp [spec_fiRises.j0]) (Ev.now false)
    | true =>
      refine Ev.step (f := fun k => spec_fiRises.l0 k l 1) (fun k => by simp only [spec_fiRises.j0]; rw [if_neg (by simp)]) ?_
      rw [Bool.true_and]
      exact all_evB (fun k i => spec_fiRises.l0 k l i) (fun i => decide (rd l (i : Int) > rd l ((i : Int) - 1))) 1 l.length
        (fun i r h0 hi hp hr => Ev.step (fun k => by simp only [spec_fiRises.l0]; rw [if_pos (by omega), w64 (by omega) (by omega), if_pos (by omega), if_pos (by omega), if_pos (by omega), if_neg (by simp at hp; omega), w64 (by omega) (by omega)]; rfl) hr)
        (fun i h0 hi hp => Ev.step (fun k => by simp only [spec_fiRises.l0]; rw [if_pos (by omega), w64 (by omega) (by omega), if_pos (by omega), if_pos (by omega), if_pos (by omega), if_pos (by simp at hp; omega)]) (Ev.now false))
        (fun i hi _ => Ev.step (fun k => by simp only [spec_fiRises.l0]; rw [if_neg (by omega)]) (Ev.now true))
theorem grid_bounds {w h : Int} (hw : 1 ≤ w ∧ w ≤ 4) (hh : 1 ≤ h ∧ h ≤ 4) : 2 ≤ w * (h + 1) ∧ w * (h + 1) ≤ 20 ∧ 2 ≤ (w + 1) * h ∧ (w + 1) * h ≤ 20 ∧ 2 ≤ h * (w + 1) ∧ h * (w + 1) ≤ 20 ∧ 1 ≤ w * h ∧ w * h ≤ 16 ∧ h * (w + 1) = (w + 1) * h := by
  have hc : w = 1 ∨ w = 2 ∨ w = 3 ∨ w = 4 := by omega
  rcases hc with rfl | rfl | rfl | rfl <;> omega
def figGood (w h : Int) (a b : List Int) : Bool := (inB 1 4 w && inB 1 4 h) && (rises a (w * (h + 1) - 1) && rises b ((w + 1) * h - 1))
theorem fiGood_ev (w h : Int) (a b : List Int) (ha : a.length ≤ 9223372036854775807) (hb : b.length ≤ 9223372036854775807) : Ev (fun k => spec_fiGood.f k w h a b) (figGood w h a b) := by
  unfold spec_fiGood.f figGood
  rw [fiGrid_is]
  simp only [Option.bind_some]
  cases hg : (inB 1 4 w && inB 1 4 h) with
  | false => exact Ev.const (by simp)
  | true =>
    simp only [Bool.and_eq_true, inB_iff] at hg
    have B := grid_bounds hg.1 hg.2
    simp only [if_true]
    have e1 : wrap64 (wrap64 (w * wrap64 (h + 1)) - 1) = w * (h + 1) - 1 := by
      rw [w64 (n := h + 1) (by omega) (by omega), w64 (n := w * (h + 1)) (by omega) (by omega), w64 (by omega) (by omega)]
    have e2 : wrap64 (wrap64 (wrap64 (w + 1) * h) - 1) = (w + 1) * h - 1 := by
      rw [w64 (n := w + 1) (by omega) (by omega), w64 (n := (w + 1) * h) (by omega) (by omega), w64 (by omega) (by omega)]
    rw [e1, e2]
    refine Ev.bind (fiRises_ev a ha _ (by omega) (by omega)) ?_
    cases rises a (w * (h + 1) - 1) with
    | false => exact Ev.const (by simp)
    | true =>
      simp only [if_true, Bool.true_and]
      refine Ev.congr (g := fun k => (spec_fiRises.f k b ((w + 1) * h - 1)).bind fun t114 => some t114) (fun k => rfl) ?_
      exact Ev.bind (fiRises_ev b hb _ (by omega) (by omega)) (Ev.now _)
theorem levels_is {w h : Int} (hw : 1 ≤ w ∧ w ≤ 4) (hh : 1 ≤ h ∧ h ≤ 4) : impl_grid_levels.f w h = some (w * (h + 1)) := by
  have B := grid_bounds hw hh
  unfold impl_grid_levels.f
  rw [w64 (n := h + 1) (by omega) (by omega), w64 (n := w * (h + 1)) (by omega) (by omega)]
theorem uprights_is {w h : Int} (hw : 1 ≤ w ∧ w ≤ 4) (hh : 1 ≤ h ∧ h ≤ 4) : impl_grid_uprights.f w h = some ((w + 1) * h) := by
  have B := grid_bounds hw hh
  unfold impl_grid_uprights.f
  rw [w64 (n := w + 1) (by omega) (by omega), w64 (n := h * (w + 1)) (by omega) (by omega)]
  rw [Int.mul_comm]
theorem IsFigure_ev (w h : Int) (a b : List Int) (ha : a.length ≤ 9223372036854775807) (hb : b.length ≤ 9223372036854775807) : Ev (fun k => impl_IsFigure.f k w h a b) (figGood w h a b) := by
  unfold impl_IsFigure.f figGood rises
  rw [isGrid_is]
  simp only [Option.bind_some, impl_Figure_grid.f]
  cases hg : (inB 1 4 w && inB 1 4 h) with
  | false => exact Ev.const (by simp)
  | true =>
    simp only [Bool.and_eq_true, inB_iff] at hg
    have B := grid_bounds hg.1 hg.2
    simp only [if_true, levels_is hg.1 hg.2, uprights_is hg.1 hg.2, Option.bind_some, impl_areWithin.f]
    rw [w64 (n := w * (h + 1) - 1) (by omega) (by omega), w64 (n := (w + 1) * h - 1) (by omega) (by omega)]
    refine Ev.bind (isRising_ev a ha) ?_
    cases incr a with
    | false => exact Ev.const (by simp)
    | true =>
      refine Ev.bind (isRising_ev b hb) ?_
      cases incr b with
      | false => exact Ev.const (by simp)
      | true =>
        simp only [if_true, Bool.true_and, Bool.and_true]
        have q : ∀ (l : List Int) (m : Int), (l.all fun x => decide (0 ≤ x) && decide (x ≤ m)) = l.all (inB 0 m) := fun _ _ => rfl
        rw [q, q]
        cases a.all (inB 0 (w * (h + 1) - 1)) with
        | false => exact Ev.const (by simp)
        | true => exact Ev.const (by simp)
theorem good_parts {w h : Int} {a b : List Int} (g : figGood w h a b = true) : (1 ≤ w ∧ w ≤ 4) ∧ (1 ≤ h ∧ h ≤ 4) ∧ (∀ x ∈ a, 0 ≤ x ∧ x < w * (h + 1)) ∧ incr a = true ∧ (∀ x ∈ b, 0 ≤ x ∧ x < (w + 1) * h) ∧ incr b = true := by
  unfold figGood rises at g
  simp only [Bool.and_eq_true, inB_iff, List.all_eq_true] at g
  obtain ⟨⟨g1, g2⟩, ⟨g3, g4⟩, g5, g6⟩ := g
  exact ⟨g1, g2, fun x hx => by have := g3 x hx; omega, g4, fun x hx => by have := g5 x hx; omega, g6⟩

/-! ### bits: sets of numbers below 63 as natural numbers -/
theorem wu64 (n : Int) (h0 : 0 ≤ n) (h1 : n < 2 ^ 63) : IntKind.u64.wrap n = n := by
  simp only [IntKind.wrap, IntKind.bits, IntKind.signed]
  simp
  omega
theorem wi64 (n : Int) (h0 : 0 ≤ n) (h1 : n < 2 ^ 63) : IntKind.i64.wrap n = n := by
  rw [IntKind.wrap_i64]
  omega
/-- a without what b has. -/
def andN (a b : Nat) : Nat := a ^^^ (a &&& b)
theorem testBit_andN (a b i : Nat) : (andN a b).testBit i = (a.testBit i && !b.testBit i) := by
  unfold andN
  rw [Nat.testBit_xor, Nat.testBit_and]
  cases a.testBit i <;> cases b.testBit i <;> rfl
theorem andN_le (a b : Nat) : andN a b ≤ a := by
  apply Nat.le_of_testBit
  intro i h
  rw [testBit_andN] at h
  simp at h
  exact h.1
theorem castlt {n : Nat} (h : n < 2 ^ 63) : ((n : Nat) : Int) < 2 ^ 63 := by exact_mod_cast h
section
variable (k : IntKind) (hk : ∀ n : Int, 0 ≤ n → n < 2 ^ 63 → k.wrap n = n) (hb : k.bits = 64) (a b : Nat) (ha : a < 2 ^ 63) (hbb : b < 2 ^ 63)
include hk hb ha hbb
theorem bits_or : Go.bits .or k a b = ((a ||| b : Nat) : Int) := (bits_nat k 63 (by omega) hk a b ha hbb).2
theorem bits_and : Go.bits .and k a b = ((a &&& b : Nat) : Int) := (bits_nat k 63 (by omega) hk a b ha hbb).1
theorem bits_xor : Go.bits .xor k a b = ((a ^^^ b : Nat) : Int) := by
  have h1 : a % 2 ^ k.bits = a := Nat.mod_eq_of_lt (by rw [hb]; omega)
  have h2 : b % 2 ^ k.bits = b := Nat.mod_eq_of_lt (by rw [hb]; omega)
  simp only [Go.bits, BitVec.ofInt_natCast, BitVec.toNat_xor, BitVec.toNat_ofNat, h1, h2]
  exact hk _ (Int.natCast_nonneg _) (castlt (Nat.xor_lt_two_pow ha hbb))
theorem bits_andNot : Go.bits .andNot k a b = ((andN a b : Nat) : Int) := by
  have h1 : a % 2 ^ k.bits = a := Nat.mod_eq_of_lt (by rw [hb]; omega)
  have h2 : b % 2 ^ k.bits = b := Nat.mod_eq_of_lt (by rw [hb]; omega)
  have e : a &&& (2 ^ k.bits - 1 - b) = andN a b := by
    apply Nat.eq_of_testBit_eq
    intro i
    rw [Nat.testBit_and, testBit_andN, show 2 ^ k.bits - 1 - b = 2 ^ k.bits - (b + 1) by omega, Nat.testBit_two_pow_sub_succ (by rw [hb]; omega)]
    by_cases hi : i < k.bits
    · simp [hi]
    · have : a.testBit i = false := Nat.testBit_lt_two_pow (Nat.lt_of_lt_of_le ha (Nat.pow_le_pow_right (by decide) (by omega)))
      simp [this]
  simp only [Go.bits, BitVec.ofInt_natCast, BitVec.toNat_and, BitVec.toNat_not, BitVec.toNat_ofNat, h1, h2, e]
  exact hk _ (Int.natCast_nonneg _) (castlt (Nat.lt_of_le_of_lt (andN_le a b) ha))
end
theorem oru (a b : Nat) (ha : a < 2 ^ 63) (hb : b < 2 ^ 63) : Go.bits .or .u64 a b = ((a ||| b : Nat) : Int) := bits_or .u64 wu64 rfl a b ha hb
theorem ori (a b : Nat) (ha : a < 2 ^ 63) (hb : b < 2 ^ 63) : Go.bits .or .i64 a b = ((a ||| b : Nat) : Int) := bits_or .i64 wi64 rfl a b ha hb
theorem andu (a b : Nat) (ha : a < 2 ^ 63) (hb : b < 2 ^ 63) : Go.bits .and .u64 a b = ((a &&& b : Nat) : Int) := bits_and .u64 wu64 rfl a b ha hb
theorem andi (a b : Nat) (ha : a < 2 ^ 63) (hb : b < 2 ^ 63) : Go.bits .and .i64 a b = ((a &&& b : Nat) : Int) := bits_and .i64 wi64 rfl a b ha hb
theorem xoru (a b : Nat) (ha : a < 2 ^ 63) (hb : b < 2 ^ 63) : Go.bits .xor .u64 a b = ((a ^^^ b : Nat) : Int) := bits_xor .u64 wu64 rfl a b ha hb
theorem xori (a b : Nat) (ha : a < 2 ^ 63) (hb : b < 2 ^ 63) : Go.bits .xor .i64 a b = ((a ^^^ b : Nat) : Int) := bits_xor .i64 wi64 rfl a b ha hb
theorem andNu (a b : Nat) (ha : a < 2 ^ 63) (hb : b < 2 ^ 63) : Go.bits .andNot .u64 a b = ((andN a b : Nat) : Int) := bits_andNot .u64 wu64 rfl a b ha hb
theorem shl_one (k : IntKind) (hk : ∀ n : Int, 0 ≤ n → n < 2 ^ 63 → k.wrap n = n) (hb : k.bits = 64) (e : Int) (h0 : 0 ≤ e) (h1 : e < 63) : Go.Proofs.YtjkkgnpgjgfidaaW.PrintWords.shl k 1 e = ((2 ^ e.toNat : Nat) : Int) := by
  obtain ⟨n, rfl⟩ := Int.eq_ofNat_of_zero_le h0
  unfold Go.Proofs.YtjkkgnpgjgfidaaW.PrintWords.shl
  rw [Int.toNat_natCast, Nat.min_eq_left (by rw [hb]; omega), Int.one_mul]
  have hp : 2 ^ n < 2 ^ 63 := Nat.pow_lt_pow_right (by decide) (by omega)
  have hc : ((2 : Int) ^ n) = ((2 ^ n : Nat) : Int) := by simp
  rw [hc]
  exact hk _ (Int.natCast_nonneg _) (castlt hp)
theorem shlu (e : Int) (h0 : 0 ≤ e) (h1 : e < 63) : Go.Proofs.YtjkkgnpgjgfidaaW.PrintWords.shl .u64 1 e = ((2 ^ e.toNat : Nat) : Int) := shl_one .u64 wu64 rfl e h0 h1
theorem shli (e : Int) (h0 : 0 ≤ e) (h1 : e < 63) : Go.Proofs.YtjkkgnpgjgfidaaW.PrintWords.shl .i64 1 e = ((2 ^ e.toNat : Nat) : Int) := shl_one .i64 wi64 rfl e h0 h1
/-- The set of a list's numbers. -/
def maskL (l : List Int) : Nat := l.foldl (fun m x => m ||| 2 ^ x.toNat) 0
theorem testBit_pow (e j : Nat) : (2 ^ e).testBit j = decide (e = j) := Nat.testBit_two_pow
theorem foldl_mask_bit (j : Nat) : ∀ (l : List Int) (m : Nat), (l.foldl (fun m x => m ||| 2 ^ x.toNat) m).testBit j = (m.testBit j || l.any (fun x => decide (x.toNat = j)))
  | [], m => by simp
  | x :: l, m => by
    rw [List.foldl_cons, foldl_mask_bit j l, Nat.testBit_or, testBit_pow, List.any_cons, Bool.or_assoc]
theorem maskL_bit (l : List Int) (j : Nat) : (maskL l).testBit j = l.any (fun x => decide (x.toNat = j)) := by
  unfold maskL
  rw [foldl_mask_bit]
  simp
theorem maskL_mem (l : List Int) (h : ∀ x ∈ l, 0 ≤ x) (j : Nat) : (maskL l).testBit j = true ↔ (j : Int) ∈ l := by
  rw [maskL_bit, List.any_eq_true]
  constructor
  · rintro ⟨x, hx, he⟩
    have := h x hx
    simp at he
    have : x = (j : Int) := by omega
    rwa [← this]
  · intro hj
    exact ⟨_, hj, by simp⟩
theorem foldl_mask_lt (N : Nat) : ∀ (l : List Int) (m : Nat), (∀ x ∈ l, x.toNat < N) → m < 2 ^ N → (l.foldl (fun m x => m ||| 2 ^ x.toNat) m) < 2 ^ N
  | [], m, _, hm => hm
  | x :: l, m, h, hm => foldl_mask_lt N l _ (fun y hy => h y (List.mem_cons_of_mem _ hy)) (Nat.or_lt_two_pow hm (Nat.pow_lt_pow_right (by decide) (h x List.mem_cons_self)))
theorem maskL_lt (l : List Int) (N : Nat) (h : ∀ x ∈ l, x.toNat < N) : maskL l < 2 ^ N := foldl_mask_lt N l 0 h (Nat.two_pow_pos N)
theorem range_foldl {σ : Type} (l : List Int) (f : σ → Int → σ) : ∀ s, (List.range' 0 l.length).foldl (fun s (i : Nat) => f s (rd l (i : Int))) s = l.foldl f s := by
  have key : ∀ (d a : Nat) (s : σ), a + d = l.length → (List.range' a d).foldl (fun s (i : Nat) => f s (rd l (i : Int))) s = (l.drop a).foldl f s := by
    intro d
    induction d with
    | zero => intro a s h; rw [List.drop_of_length_le (by omega)]; rfl
    | succ d ih =>
      intro a s h
      have ha : a < l.length := by omega
      rw [List.range'_succ, List.foldl_cons, ih (a + 1) _ (by omega), List.drop_eq_getElem_cons ha, List.foldl_cons, rd_nat l a ha]
  intro s
  have := key l.length 0 s (by omega)
  simpa using this
theorem pow_lt63 {e : Nat} (h : e < 63) : 2 ^ e < 2 ^ 63 := Nat.pow_lt_pow_right (by decide) h
theorem lt63 {n N : Nat} (h : n < 2 ^ N) (hN : N ≤ 63) : n < 2 ^ 63 := Nat.lt_of_lt_of_le h (Nat.pow_le_pow_right (by decide) hN)
theorem and_pow_ne (m e : Nat) : (m &&& 2 ^ e ≠ 0) ↔ m.testBit e = true := by
  constructor
  · intro h
    cases hb : m.testBit e with
    | true => rfl
    | false =>
      exfalso
      apply h
      apply Nat.eq_of_testBit_eq
      intro i
      rw [Nat.testBit_and, testBit_pow, Nat.zero_testBit]
      by_cases hi : e = i
      · subst hi; simp [hb]
      · simp [hi]
  · intro h h0
    have := congrArg (fun n => n.testBit e) h0
    simp [Nat.testBit_and, testBit_pow, h] at this

/-! ### the set of a figure: level edges first -/
def edges (w h : Int) (a b : List Int) : List Int := a ++ b.map (fun x => w * (h + 1) + x)
theorem edges_lt {w h : Int} {a b : List Int} (g : figGood w h a b = true) : ∀ x ∈ edges w h a b, 0 ≤ x ∧ x < 40 := by
  obtain ⟨hw, hh, ga, _, gb, _⟩ := good_parts g
  have B := grid_bounds hw hh
  intro x hx
  rcases List.mem_append.1 hx with h1 | h1
  · have := ga x h1
    omega
  · obtain ⟨y, hy, rfl⟩ := List.mem_map.1 h1
    have := gb y hy
    have h16 : w * (h + 1) + (w + 1) * h ≤ 40 := by omega
    omega
def figM (w h : Int) (a b : List Int) : Nat := maskL (edges w h a b)
theorem figM_lt {w h : Int} {a b : List Int} (g : figGood w h a b = true) : figM w h a b < 2 ^ 40 := maskL_lt _ 40 (fun x hx => by have := edges_lt g x hx; omega)
theorem figM_fold (w h : Int) (a b : List Int) : figM w h a b = b.foldl (fun m x => m ||| 2 ^ (w * (h + 1) + x).toNat) (a.foldl (fun m x => m ||| 2 ^ x.toNat) 0) := by
  unfold figM edges maskL
  rw [List.foldl_append, List.foldl_map]

/-! ### the program's set -/
theorem figSet_ev {w h : Int} {a b : List Int} (g : figGood w h a b = true) (ha : a.length ≤ 9223372036854775807) (hb : b.length ≤ 9223372036854775807) : Ev (fun k => impl_Figure_set.f k w h a b) ((figM w h a b : Nat) : Int) := by
  obtain ⟨hw, hh, ga, _, gb, _⟩ := good_parts g
  have B := grid_bounds hw hh
  have h16 : w * (h + 1) + (w + 1) * h ≤ 40 := by omega
  have h1 : ∀ s : Nat, s < 2 ^ 40 → Ev (fun k => impl_Figure_set.l1 k (s : Int) b (b.length : Int) 0 w h a b) ((b.foldl (fun m x => m ||| 2 ^ (w * (h + 1) + x).toNat) s : Nat) : Int) := by
    intro s hs
    have h0 := fold_ev (fun k (s : Nat) i => impl_Figure_set.l1 k (s : Int) b (b.length : Int) i w h a b) (fun s i => s ||| 2 ^ (w * (h + 1) + rd b (i : Int)).toNat) (fun s => ((s : Nat) : Int)) (fun _ s => s < 2 ^ 40) b.length
      (fun s i r hi hs => by
        have hx := gb (rd b (i : Int)) (by rw [rd_nat b i hi]; exact List.getElem_mem hi)
        refine ⟨Nat.or_lt_two_pow hs (Nat.pow_lt_pow_right (by decide) (by omega)), fun hr => Ev.step (fun k => ?_) hr⟩
        simp only [impl_Figure_set.l1, impl_Figure_grid.f, Option.bind_some, levels_is hw hh]
        rw [if_pos (by omega), if_pos (by omega), if_pos (by omega), w64 (n := w * (h + 1) + rd b (i : Int)) (by omega) (by omega), if_pos (by omega), shlu _ (by omega) (by omega), oru _ _ (lt63 hs (by decide)) (pow_lt63 (by omega)), w64 (by omega) (by omega)]
        rfl)
      (fun s hs => Ev.step (fun k => by simp only [impl_Figure_set.l1]; rw [if_neg (by omega)]) (Ev.now _)) b.length 0 s (by omega) (by omega) hs
    rw [Nat.sub_zero, range_foldl b (fun m x => m ||| 2 ^ (w * (h + 1) + x).toNat)] at h0
    exact h0
  have h0 := fold_ev (fun k (s : Nat) i => impl_Figure_set.l0 k (s : Int) a (a.length : Int) i w h a b) (fun s i => s ||| 2 ^ (rd a (i : Int)).toNat) (fun s => ((b.foldl (fun m x => m ||| 2 ^ (w * (h + 1) + x).toNat) s : Nat) : Int)) (fun _ s => s < 2 ^ 40) a.length
    (fun s i r hi hs => by
      have hx := ga (rd a (i : Int)) (by rw [rd_nat a i hi]; exact List.getElem_mem hi)
      refine ⟨Nat.or_lt_two_pow hs (Nat.pow_lt_pow_right (by decide) (by omega)), fun hr => Ev.step (fun k => ?_) hr⟩
      simp only [impl_Figure_set.l0]
      rw [if_pos (by omega), if_pos (by omega), if_pos (by omega), if_pos hx.1, shlu _ hx.1 (by omega), oru _ _ (lt63 hs (by decide)) (pow_lt63 (by omega)), w64 (by omega) (by omega)]
      rfl)
    (fun s hs => Ev.step (fun k => by simp only [impl_Figure_set.l0]; rw [if_neg (by omega)]) (h1 s hs)) a.length 0 0 (by omega) (by omega) (by decide)
  rw [Nat.sub_zero, range_foldl a (fun m x => m ||| 2 ^ x.toNat)] at h0
  rw [figM_fold]
  exact h0

/-! ### loops that carry a state, to a state that is known -/
theorem run_ev {σ β : Type} (g : Nat → σ → Int → Option β) (f : σ → Nat → σ) (Q : Nat → σ → Prop) (hi : Nat) (r : β)
    (step : ∀ s i, i < hi → Q i s → (Q (i + 1) (f s i) ∧ ∀ r, Ev (fun k => g k (f s i) ((i + 1 : Nat) : Int)) r → Ev (fun k => g k s (i : Int)) r)) :
    ∀ d lo s0, hi - lo = d → Q lo s0 → (Q (lo + (hi - lo)) ((List.range' lo (hi - lo)).foldl f s0) → Ev (fun k => g k ((List.range' lo (hi - lo)).foldl f s0) ((lo + (hi - lo) : Nat) : Int)) r) → Ev (fun k => g k s0 (lo : Int)) r := by
  intro d
  induction d with
  | zero =>
    intro lo s0 h hQ fin
    rw [h] at fin
    exact fin hQ
  | succ d ih =>
    intro lo s0 h hQ fin
    have st := step s0 lo (by omega) hQ
    refine st.2 r (ih (lo + 1) (f s0 lo) (by omega) st.1 ?_)
    rw [h, List.range'_succ, List.foldl_cons] at fin
    rw [show hi - (lo + 1) = d by omega, show lo + 1 + d = lo + (d + 1) by omega]
    exact fin
theorem andN_lt {a b N : Nat} (h : a < N) : andN a b < N := Nat.lt_of_le_of_lt (andN_le a b) h
/-- covered: all of e's edges are in m -/
def cov (e m : Nat) : Bool := decide (andN e m = 0)
theorem covers_iff (m e : Nat) : (andN e m = 0) ↔ (m &&& e = e) := by
  constructor
  · intro h
    apply Nat.eq_of_testBit_eq
    intro i
    have := congrArg (fun n => n.testBit i) h
    simp only [testBit_andN, Nat.zero_testBit] at this
    rw [Nat.testBit_and]
    cases he : e.testBit i <;> cases hm : m.testBit i <;> simp_all
  · intro h
    apply Nat.eq_of_testBit_eq
    intro i
    have := congrArg (fun n => n.testBit i) h
    simp only [Nat.testBit_and] at this
    rw [testBit_andN, Nat.zero_testBit]
    cases he : e.testBit i <;> cases hm : m.testBit i <;> simp_all
theorem cov_iff (e m : Nat) : cov e m = decide (m &&& e = e) := by
  unfold cov
  rw [decide_eq_decide]
  exact covers_iff m e

/-! ### the reference's set -/
theorem sqBit_up {w h n : Int} (hw : 1 ≤ w ∧ w ≤ 4) (hh : 1 ≤ h ∧ h ≤ 4) (h0 : 0 ≤ n) (h1 : n < 40) : spec_sqBit.f w h true n = some ((2 ^ (w * (h + 1) + n).toNat : Nat) : Int) := by
  have B := grid_bounds hw hh
  unfold spec_sqBit.f
  rw [if_pos rfl, w64 (n := h + 1) (by omega) (by omega), w64 (n := w * (h + 1)) (by omega) (by omega), w64 (by omega) (by omega), if_pos (by omega), shli _ (by omega) (by omega)]
theorem sqBit_level (w h : Int) {n : Int} (h0 : 0 ≤ n) (h1 : n < 60) : spec_sqBit.f w h false n = some ((2 ^ n.toNat : Nat) : Int) := by
  unfold spec_sqBit.f
  rw [if_neg (by decide), if_pos (by omega), shli _ (by omega) (by omega)]
theorem sqMask_ev {w h : Int} {a b : List Int} (g : figGood w h a b = true) (ha : a.length ≤ 9223372036854775807) (hb : b.length ≤ 9223372036854775807) : Ev (fun k => spec_sqMask.f k w h a b) ((figM w h a b : Nat) : Int) := by
  obtain ⟨hw, hh, ga, _, gb, _⟩ := good_parts g
  have B := grid_bounds hw hh
  have h16 : w * (h + 1) + (w + 1) * h ≤ 40 := by omega
  have h1 : ∀ s : Nat, s < 2 ^ 40 → Ev (fun k => spec_sqMask.l1 k (s : Int) b (b.length : Int) 0 w h a b) ((b.foldl (fun m x => m ||| 2 ^ (w * (h + 1) + x).toNat) s : Nat) : Int) := by
    intro s hs
    have h0 := fold_ev (fun k (s : Nat) i => spec_sqMask.l1 k (s : Int) b (b.length : Int) i w h a b) (fun s i => s ||| 2 ^ (w * (h + 1) + rd b (i : Int)).toNat) (fun s => ((s : Nat) : Int)) (fun _ s => s < 2 ^ 40) b.length
      (fun s i r hi hs => by
        have hx := gb (rd b (i : Int)) (by rw [rd_nat b i hi]; exact List.getElem_mem hi)
        refine ⟨Nat.or_lt_two_pow hs (Nat.pow_lt_pow_right (by decide) (by omega)), fun hr => Ev.step (fun k => ?_) hr⟩
        simp only [spec_sqMask.l1]
        rw [if_pos (by omega), if_pos (by omega), if_pos (by omega), sqBit_up hw hh hx.1 (by omega), Option.bind_some, ori _ _ (lt63 hs (by decide)) (pow_lt63 (by omega)), w64 (by omega) (by omega)]
        rfl)
      (fun s hs => Ev.step (fun k => by simp only [spec_sqMask.l1]; rw [if_neg (by omega)]) (Ev.now _)) b.length 0 s (by omega) (by omega) hs
    rw [Nat.sub_zero, range_foldl b (fun m x => m ||| 2 ^ (w * (h + 1) + x).toNat)] at h0
    exact h0
  have h0 := fold_ev (fun k (s : Nat) i => spec_sqMask.l0 k (s : Int) a (a.length : Int) i w h a b) (fun s i => s ||| 2 ^ (rd a (i : Int)).toNat) (fun s => ((b.foldl (fun m x => m ||| 2 ^ (w * (h + 1) + x).toNat) s : Nat) : Int)) (fun _ s => s < 2 ^ 40) a.length
    (fun s i r hi hs => by
      have hx := ga (rd a (i : Int)) (by rw [rd_nat a i hi]; exact List.getElem_mem hi)
      refine ⟨Nat.or_lt_two_pow hs (Nat.pow_lt_pow_right (by decide) (by omega)), fun hr => Ev.step (fun k => ?_) hr⟩
      simp only [spec_sqMask.l0]
      rw [if_pos (by omega), if_pos (by omega), if_pos (by omega), sqBit_level w h hx.1 (by omega), Option.bind_some, ori _ _ (lt63 hs (by decide)) (pow_lt63 (by omega)), w64 (by omega) (by omega)]
      rfl)
    (fun s hs => Ev.step (fun k => by simp only [spec_sqMask.l0]; rw [if_neg (by omega)]) (h1 s hs)) a.length 0 0 (by omega) (by omega) (by decide)
  rw [Nat.sub_zero, range_foldl a (fun m x => m ||| 2 ^ x.toNat)] at h0
  rw [figM_fold]
  exact h0

/-! ### the edges around a rectangle: closed -/
def fits (w h x y a b : Nat) : Bool := decide (1 ≤ w ∧ w ≤ 4 ∧ 1 ≤ h ∧ h ≤ 4 ∧ 1 ≤ a ∧ 1 ≤ b ∧ x + a ≤ w ∧ y + b ≤ h)
def arnd (w h x y a b : Nat) : Nat := ((impl_grid_around.f 20 w h x y a b).getD 0).toNat
def arndOk (w h x y a b : Nat) : Bool := !fits w h x y a b || (decide (impl_grid_around.f 20 w h x y a b = some ((arnd w h x y a b : Nat) : Int)) && decide (arnd w h x y a b < 2 ^ 40))
theorem arnd_all : ((List.range 5).all fun w => (List.range 5).all fun h => (List.range 5).all fun x => (List.range 5).all fun y => (List.range 5).all fun a => (List.range 5).all fun b => arndOk w h x y a b) = true := by decide +kernel
theorem arnd_ok {w h x y a b : Nat} (hf : fits w h x y a b = true) : arndOk w h x y a b = true := by
  have hb := of_decide_eq_true hf
  have H := arnd_all
  simp only [List.all_eq_true, List.mem_range] at H
  exact H w (by omega) h (by omega) x (by omega) y (by omega) a (by omega) b (by omega)
theorem around_ev {w h x y a b : Nat} (hf : fits w h x y a b = true) : arnd w h x y a b < 2 ^ 40 ∧ Ev (fun k => impl_grid_around.f k w h x y a b) ((arnd w h x y a b : Nat) : Int) := by
  have h := arnd_ok hf
  unfold arndOk at h
  rw [hf] at h
  simp only [Bool.not_true, Bool.false_or, Bool.and_eq_true, decide_eq_true_eq] at h
  exact ⟨h.2, Ev.of (fun k => impl_grid_around.mono _ _ _ _ _ _ k) h.1⟩

/-! ### the same for the reference -/
def arnd2Ok (w h x y a b : Nat) : Bool := !fits w h x y a b || decide (spec_sqAround.f 20 w h x y a b = some ((arnd w h x y a b : Nat) : Int))
theorem arnd2_all : ((List.range 5).all fun w => (List.range 5).all fun h => (List.range 5).all fun x => (List.range 5).all fun y => (List.range 5).all fun a => (List.range 5).all fun b => arnd2Ok w h x y a b) = true := by decide +kernel
theorem arnd2_ok {w h x y a b : Nat} (hf : fits w h x y a b = true) : arnd2Ok w h x y a b = true := by
  have hb := of_decide_eq_true hf
  have H := arnd2_all
  simp only [List.all_eq_true, List.mem_range] at H
  exact H w (by omega) h (by omega) x (by omega) y (by omega) a (by omega) b (by omega)
theorem sqAround_ev {w h x y a b : Nat} (hf : fits w h x y a b = true) : Ev (fun k => spec_sqAround.f k w h x y a b) ((arnd w h x y a b : Nat) : Int) := by
  have h := arnd2_ok hf
  unfold arnd2Ok at h
  rw [hf] at h
  simp only [Bool.not_true, Bool.false_or, decide_eq_true_eq] at h
  exact Ev.of (fun k => spec_sqAround.mono _ _ _ _ _ _ k) h

/-! ### what the laws do about their arguments -/
theorem szIntS_is (l : List Int) (left : Int) (hl : l.length ≤ 9223372036854775807) (h0 : 0 ≤ left) (h1 : left ≤ 1000000) : laws_szIntS.f l left = some (if (l.length : Int) ≤ left then left - (l.length : Int) else -1) := by
  unfold laws_szIntS.f
  rw [w64 (by omega) (by omega)]
  by_cases h : (l.length : Int) ≤ left
  · rw [if_neg (by omega), if_pos h]
  · rw [if_pos (by omega), if_neg h]
theorem szFigure_is (w h : Int) (a b : List Int) (ha : a.length ≤ 9223372036854775807) (hb : b.length ≤ 9223372036854775807) (left : Int) (h0 : 0 ≤ left) (h1 : left ≤ 1000000) : laws_szFigure.f w h a b left = some (if (a.length : Int) + (b.length : Int) ≤ left then left - (a.length : Int) - (b.length : Int) else -1) := by
  unfold laws_szFigure.f
  rw [szIntS_is a left ha h0 h1, Option.bind_some]
  by_cases h : (a.length : Int) ≤ left
  · rw [if_pos h, if_neg (by omega), szIntS_is b _ hb (by omega) (by omega), Option.bind_some]
    by_cases h2 : (a.length : Int) + (b.length : Int) ≤ left
    · have h3 : (b.length : Int) ≤ left - (a.length : Int) := by omega
      rw [if_pos h3, if_neg (by omega), if_pos h2]
    · have h3 : ¬ (b.length : Int) ≤ left - (a.length : Int) := by omega
      rw [if_neg h3, if_pos (by omega), if_neg h2]
  · rw [if_neg h, if_pos (by omega), if_neg (by omega)]
theorem toFigure_is (w h : Int) (a b : List Int) (x : Bool) (hab : (a.length : Int) + (b.length : Int) ≤ 1000000) : laws_toFigure.f w h a b x = some (w, h, a, b) := by
  unfold laws_toFigure.f laws_toIntS.f
  rw [if_pos (by omega), if_pos (by omega)]
  rfl
theorem intactFigure_is (w h : Int) (a b : List Int) (hab : (a.length : Int) + (b.length : Int) ≤ 1000000) : laws_intactFigure.f w h a b w h a b = some true := by
  unfold laws_intactFigure.f laws_intactIntS.f
  rw [if_pos rfl, if_pos rfl, if_pos (by omega), if_pos (by omega)]
  simp

/-! ### the law's own ado -/
theorem law_end (w h : Int) (a b : List Int) (x y s : Int) (ha : a.length ≤ 9223372036854775807) (hb : b.length ≤ 9223372036854775807) (hv : ∃ v, Ev (fun k => spec_IsSquareAt.f k w h a b x y s) v ∧ Ev (fun k => impl_IsSquareAt.f k w h a b x y s) v) : ∃ k, laws_FnExactIsSquareAt.f k w h a b x y s = some true := by
  obtain ⟨v, hs, hi⟩ := hv
  obtain ⟨K, hK⟩ := Ev.both hs hi
  obtain ⟨hs1, hi1⟩ := hK (K + 1) (by omega)
  obtain ⟨_, hi0⟩ := hK K (by omega)
  refine ⟨K + 1, ?_⟩
  unfold laws_FnExactIsSquareAt.f
  rw [szFigure_is w h a b ha hb _ (by omega) (by omega), Option.bind_some]
  by_cases hab : (a.length : Int) + (b.length : Int) ≤ 1000000
  · rw [if_pos hab, if_neg (by omega)]
    simp only [toFigure_is w h a b _ hab, Option.bind_some, hs1, hi1, bne_self_eq_false, laws_FnExactIsSquareAt.j0, hi0, intactFigure_is w h a b hab]
    simp
  · rw [if_neg hab, if_pos (by omega)]

/-! ### the squares of a grid that stand at a cell -/
def tupI (t : S79) : Int × Int × Int × Int := (t.f0, t.f1, t.f2, t.f3)
def atOk (W H : Nat) (L : List S79) (x y s : Nat) : Bool := decide ((L.filter (sqEq x y (s + 1 : Nat))).map tupI = if x + (s + 1) ≤ W ∧ y + (s + 1) ≤ H then [((x : Int), (y : Int), ((s + 1 : Nat) : Int), ((arnd W H x y (s + 1) (s + 1) : Nat) : Int))] else [])
def listOk (W H : Nat) : Bool := match impl_grid_squares.f 200 W H with
  | some L => decide (L.length ≤ 100) && (L.all (fun t => decide (0 ≤ t.f3) && decide (t.f3 < 2 ^ 40)) && ((List.range 4).all fun x => (List.range 4).all fun y => (List.range 4).all fun s => atOk W H L x y s))
  | none => false
theorem list_all : ((List.range 5).all fun W => (List.range 5).all fun H => decide (W = 0) || (decide (H = 0) || listOk W H)) = true := by decide +kernel
theorem at_lists {W H : Nat} (hW : 1 ≤ W ∧ W ≤ 4) (hH : 1 ≤ H ∧ H ≤ 4) : ∃ L : List S79, Ev (fun k => impl_grid_squares.f k W H) L ∧ L.length ≤ 100 ∧ (∀ t ∈ L, 0 ≤ t.f3 ∧ t.f3 < 2 ^ 40) ∧ ∀ x y s : Nat, x < 4 → y < 4 → s < 4 → (L.filter (sqEq x y (s + 1 : Nat))).map tupI = if x + (s + 1) ≤ W ∧ y + (s + 1) ≤ H then [((x : Int), (y : Int), ((s + 1 : Nat) : Int), ((arnd W H x y (s + 1) (s + 1) : Nat) : Int))] else [] := by
  have h := list_all
  simp only [List.all_eq_true, List.mem_range] at h
  have h := h W (by omega) H (by omega)
  rw [decide_eq_false (by omega), decide_eq_false (by omega)] at h
  simp only [Bool.false_or] at h
  unfold listOk at h
  obtain ⟨o, ho⟩ : ∃ o, impl_grid_squares.f 200 W H = o := ⟨_, rfl⟩
  rw [ho] at h
  cases o with
  | none => simp at h
  | some L =>
    simp only [Bool.and_eq_true, List.all_eq_true, List.mem_range, decide_eq_true_eq] at h
    obtain ⟨h1, h2, h3⟩ := h
    refine ⟨L, Ev.of (impl_grid_squares.mono _ _) ho, h1, h2, fun x y s hx hy hs => ?_⟩
    have := h3 x hx y hy s hs
    unfold atOk at this
    exact of_decide_eq_true this
theorem keepQ_is (m : Nat) (hm : m < 2 ^ 63) (t : S79) (h : 0 ≤ t.f3 ∧ t.f3 < 2 ^ 40) : keepQ (m : Int) t = cov t.f3.toNat m := by
  obtain ⟨e, he⟩ := Int.eq_ofNat_of_zero_le h.1
  unfold keepQ cov
  rw [he, andNu _ _ (by omega) hm, Int.toNat_natCast]
  by_cases hq : andN e m = 0
  · rw [hq, decide_eq_true rfl]
    rfl
  · rw [decide_eq_false hq, show (((andN e m : Nat) : Int) != 0) = true from bne_iff_ne.2 (by omega)]
    rfl
theorem of_is (L : List S79) (m : Nat) (hm : m < 2 ^ 63) (hl : L.length ≤ 1000) (hL : ∀ t ∈ L, 0 ≤ t.f3 ∧ t.f3 < 2 ^ 40) : impl_of.f L (m : Int) = some (L.filter (fun t => cov t.f3.toNat m)) := by
  unfold impl_of.f
  rw [if_pos (by omega)]
  congr 1
  exact List.filter_congr (fun t ht => keepQ_is m hm t (hL t ht))
theorem figSquares_ev {W H : Nat} {a b : List Int} (g : figGood W H a b = true) (ha : a.length ≤ 9223372036854775807) (hb : b.length ≤ 9223372036854775807) {L : List S79} (eL : Ev (fun k => impl_grid_squares.f k W H) L) (hl : L.length ≤ 100) (hL : ∀ t ∈ L, 0 ≤ t.f3 ∧ t.f3 < 2 ^ 40) : Ev (fun k => impl_Figure_squares.f k W H a b) (L.filter (fun t => cov t.f3.toNat (figM W H a b))) := by
  unfold impl_Figure_squares.f impl_Figure_grid.f
  simp only [Option.bind_some]
  have l1 := figM_lt g
  exact Ev.bind eL (Ev.bind (figSet_ev g ha hb) (Ev.bind (Ev.const (of_is L _ (by omega) (by omega) hL)) (Ev.now _)))
theorem any_swap (L : List S79) (p q : S79 → Bool) : (L.filter p).any q = (L.filter q).any p := by
  rw [List.any_filter, List.any_filter]
  congr 1
  funext t
  exact Bool.and_comm _ _
theorem any_tup (L : List S79) (p : Int × Int × Int × Int → Bool) : L.any (fun t => p (tupI t)) = (L.map tupI).any p := by
  rw [List.any_map]
  rfl
theorem isCell_is {w h : Int} (hw : 1 ≤ w ∧ w ≤ 4) (hh : 1 ≤ h ∧ h ≤ 4) (x y : Int) : impl_grid_isCell.f w h x y = some (inB 0 (w - 1) x && inB 0 (h - 1) y) := by
  unfold impl_grid_isCell.f
  rw [w64 (n := w - 1) (by omega) (by omega), w64 (n := h - 1) (by omega) (by omega), within_is, Option.bind_some]
  cases inB 0 (w - 1) x with
  | false => simp
  | true => simp [within_is]
theorem both_IsSquareAt (w h : Int) (a b : List Int) (x y s : Int) (ha : a.length ≤ 9223372036854775807) (hb : b.length ≤ 9223372036854775807) : ∃ v, Ev (fun k => spec_IsSquareAt.f k w h a b x y s) v ∧ Ev (fun k => impl_IsSquareAt.f k w h a b x y s) v := by
  unfold spec_IsSquareAt.f impl_IsSquareAt.f
  have js : Ev (fun k => spec_IsSquareAt.j0 k x y s true w h a b) (false, false) := Ev.step (f := fun _ => some (false, false)) (fun k => by simp only [spec_IsSquareAt.j0]; rw [if_pos trivial]) (Ev.now _)
  cases g : figGood w h a b with
  | false => exact ⟨(false, false), Ev.bind (fiGood_ev w h a b ha hb) (by rw [g]; exact Ev.congr (fun k => if_neg (by decide)) js), Ev.bind (IsFigure_ev w h a b ha hb) (by rw [g]; exact Ev.congr (fun k => if_neg (by decide)) (Ev.now _))⟩
  | true =>
    obtain ⟨hw, hh, _⟩ := good_parts g
    have hsz : spec_sqSize.f s = some (inB 1 4 s) := by unfold spec_sqSize.f; rw [l1In_is]; rfl
    cases hc : inB 1 4 s && (inB 0 (w - 1) x && inB 0 (h - 1) y) with
    | false =>
      refine ⟨(false, false), Ev.bind (fiGood_ev w h a b ha hb) ?_, Ev.bind (IsFigure_ev w h a b ha hb) ?_⟩
      · rw [g]
        refine Ev.congr (fun k => if_pos rfl) (Ev.bind (Ev.const hsz) ?_)
        cases hs : inB 1 4 s with
        | false => exact Ev.congr (fun k => if_neg (by decide)) js
        | true =>
          refine Ev.congr (fun k => if_pos rfl) (Ev.bind (Ev.const (by rw [w64 (n := w - 1) (by omega) (by omega)]; exact l1In_is _ _ _)) ?_)
          cases hx : inB 0 (w - 1) x with
          | false => exact Ev.congr (fun k => if_neg (by decide)) js
          | true =>
            refine Ev.congr (fun k => if_pos rfl) (Ev.bind (Ev.const (by rw [w64 (n := h - 1) (by omega) (by omega)]; exact l1In_is _ _ _)) ?_)
            rw [hs, hx, Bool.true_and, Bool.true_and] at hc
            rw [hc]
            exact js
      · rw [g]
        refine Ev.congr (fun k => if_pos rfl) (Ev.bind (Ev.const (isCell_is hw hh x y)) ?_)
        cases hxy : inB 0 (w - 1) x && inB 0 (h - 1) y with
        | false => exact Ev.congr (fun k => if_neg (by decide)) (Ev.now _)
        | true =>
          refine Ev.congr (fun k => if_pos rfl) (Ev.bind (Ev.const (within_is _ _ _)) ?_)
          rw [hxy, Bool.and_true] at hc
          rw [hc]
          exact Ev.congr (fun k => if_neg (by decide)) (Ev.now _)
    | true =>
      simp only [Bool.and_eq_true] at hc
      obtain ⟨hs, hx, hy⟩ := hc
      have bs := inB_iff.1 hs
      have bx := inB_iff.1 hx
      have by' := inB_iff.1 hy
      obtain ⟨W, rfl⟩ := Int.eq_ofNat_of_zero_le (show 0 ≤ w by omega)
      obtain ⟨H, rfl⟩ := Int.eq_ofNat_of_zero_le (show 0 ≤ h by omega)
      obtain ⟨X, rfl⟩ := Int.eq_ofNat_of_zero_le (show 0 ≤ x by omega)
      obtain ⟨Y, rfl⟩ := Int.eq_ofNat_of_zero_le (show 0 ≤ y by omega)
      obtain ⟨S, hS⟩ := Int.eq_ofNat_of_zero_le (show 0 ≤ s - 1 by omega)
      obtain rfl : s = ((S + 1 : Nat) : Int) := by omega
      obtain ⟨L, eL, hl, hL, hat⟩ := at_lists (W := W) (H := H) (by omega) (by omega)
      have hat := hat X Y S (by omega) (by omega) (by omega)
      have l1 := figM_lt g
      have hany : (L.filter (fun t => cov t.f3.toNat (figM W H a b))).any (sqEq (X : Int) (Y : Int) ((S + 1 : Nat) : Int)) = if X + (S + 1) ≤ W ∧ Y + (S + 1) ≤ H then cov (arnd W H X Y (S + 1) (S + 1)) (figM W H a b) else false := by
        rw [any_swap]
        have h9 := any_tup (L.filter (sqEq (X : Int) (Y : Int) ((S + 1 : Nat) : Int))) (fun t => cov t.2.2.2.toNat (figM W H a b))
        rw [hat] at h9
        refine Eq.trans ?_ (h9.trans ?_)
        · rfl
        · by_cases hf : X + (S + 1) ≤ W ∧ Y + (S + 1) ≤ H
          · rw [if_pos hf, if_pos hf]
            simp
          · rw [if_neg hf, if_neg hf]
            rfl
      refine ⟨((L.filter (fun t => cov t.f3.toNat (figM W H a b))).any (sqEq (X : Int) (Y : Int) ((S + 1 : Nat) : Int)), true), Ev.bind (fiGood_ev _ _ a b ha hb) ?_, Ev.bind (IsFigure_ev _ _ a b ha hb) ?_⟩
      · rw [g, hany]
        refine Ev.congr (fun k => if_pos rfl) (Ev.bind (Ev.const hsz) ?_)
        rw [hs]
        refine Ev.congr (fun k => if_pos rfl) (Ev.bind (Ev.const (by rw [w64 (n := (W : Int) - 1) (by omega) (by omega)]; exact l1In_is _ _ _)) ?_)
        rw [hx]
        refine Ev.congr (fun k => if_pos rfl) (Ev.bind (Ev.const (by rw [w64 (n := (H : Int) - 1) (by omega) (by omega)]; exact l1In_is _ _ _)) ?_)
        rw [hy]
        have j1t : Ev (fun k => spec_IsSquareAt.j1 k (X : Int) (Y : Int) ((S + 1 : Nat) : Int) true W H a b) (false, true) := Ev.step (f := fun _ => some (false, true)) (fun k => by simp only [spec_IsSquareAt.j1]; rw [if_pos trivial]) (Ev.now _)
        by_cases hf1 : X + (S + 1) ≤ W
        · refine Ev.step (f := fun k => spec_IsSquareAt.j1 k (X : Int) (Y : Int) ((S + 1 : Nat) : Int) (decide (wrap64 ((Y : Int) + ((S + 1 : Nat) : Int)) > (H : Int))) W H a b) (fun k => by simp only [spec_IsSquareAt.j0]; rw [if_neg (by decide), w64 (n := (X : Int) + ((S + 1 : Nat) : Int)) (by omega) (by omega), if_neg (by omega)]) ?_
          rw [w64 (n := (Y : Int) + ((S + 1 : Nat) : Int)) (by omega) (by omega)]
          by_cases hf2 : Y + (S + 1) ≤ H
          · rw [decide_eq_false (by omega), if_pos ⟨hf1, hf2⟩]
            have hfit : fits W H X Y (S + 1) (S + 1) = true := decide_eq_true ⟨by omega, by omega, by omega, by omega, by omega, by omega, by omega, by omega⟩
            have ha1 := (around_ev hfit).1
            refine Ev.step (fun k => by simp only [spec_IsSquareAt.j1]; rw [if_neg (by decide)]) (Ev.bind (sqAround_ev hfit) (Ev.bind (sqMask_ev g ha hb) (Ev.const ?_)))
            rw [andi _ _ (by omega) (by omega), cov_iff]
            congr 2
            rw [Bool.eq_iff_iff]
            simp only [beq_iff_eq, decide_eq_true_eq]
            omega
          · rw [decide_eq_true (by omega), if_neg (fun hh => hf2 hh.2)]
            exact j1t
        · rw [if_neg (fun hh => hf1 hh.1)]
          exact Ev.step (fun k => by simp only [spec_IsSquareAt.j0]; rw [if_neg (by decide), w64 (n := (X : Int) + ((S + 1 : Nat) : Int)) (by omega) (by omega), if_pos (by omega)]) j1t
      · rw [g]
        refine Ev.congr (fun k => if_pos rfl) (Ev.bind (Ev.const (isCell_is hw hh _ _)) ?_)
        rw [hx, hy]
        refine Ev.congr (fun k => if_pos rfl) (Ev.bind (Ev.const (within_is _ _ _)) ?_)
        rw [hs]
        exact Ev.congr (fun k => if_pos rfl) (Ev.bind (figSquares_ev g ha hb eL hl hL) (Ev.now _))
theorem FnExactIsSquareAt : laws_FnExactIsSquareAt.Pure := by
  intro w h a b x y s _ _ ha _ hb _ _ _ _
  exact law_end w h a b x y s (maxLen_le ha) (maxLen_le hb) (both_IsSquareAt w h a b x y s (maxLen_le ha) (maxLen_le hb))

end Go.Proofs.Ytjkkgnpgjgfidaa.Pure
