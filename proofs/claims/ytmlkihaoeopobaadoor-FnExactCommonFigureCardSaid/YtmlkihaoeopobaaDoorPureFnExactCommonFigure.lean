/- Proved here: the pure statement of FnExactCommonFigure: program and reference lay the same matches that two figures have. Conditions: the numbers are 64 bit integers, the lists are no longer than a slice can be. -/
import Derived.Test.YtmlkihaoeopobaaDoorQFnExactCommonFigurex10
set_option linter.unusedVariables false
set_option linter.unusedSimpArgs false
namespace Go.Proofs.YtmlkihaoeopobaaDoor.Pure
open Go.RowKit Go.Proofs.YtmlkihaoeopobaaDoor.Q Go.Proofs.YtmlkihaoeopobaaDoorW.PrintWords Go.Proofs.YtmlkihaoeopobaaDoorW.PrintLast

/-! ### base: wrapping, 'from some number of rounds on', loops -/
theorem w64 {n : Int} (h0 : -9223372036854775808 ≤ n) (h1 : n ≤ 9223372036854775807) : wrap64 n = n := by unfold wrap64; omega
theorem wf64 {x : Int} (h : (Lit.int .i64 x).wf = true) : -9223372036854775808 ≤ x ∧ x ≤ 9223372036854775807 := by
  simp [Lit.wf, IntKind.min, IntKind.max, IntKind.signed, IntKind.bits] at h
  omega
theorem maxLen_le {n : Nat} (h : n ≤ maxLen) : n ≤ 9223372036854775807 := by unfold maxLen at h; omega
theorem Ev.both {α β : Type} {g : Nat → Option α} {f : Nat → Option β} {a : α} {b : β} (h : Ev g a) (k : Ev f b) : ∃ K, ∀ n, K ≤ n → g n = some a ∧ f n = some b := by
  obtain ⟨K, h⟩ := h
  obtain ⟨K', k⟩ := k
  exact ⟨max K K', fun n hn => ⟨h n (by omega), k n (by omega)⟩⟩
theorem Ev.const {α : Type} {x : Option α} {r : α} (h : x = some r) : Ev (fun _ => x) r := ⟨0, fun _ _ => h⟩
/-- A loop from lo on that ends early with 'bad', or runs through. -/
theorem all_ev {β : Type} (g : Nat → Int → Option β) (p : Nat → Bool) (good bad : β) (lo n : Nat)
    (hgood : ∀ i r, lo ≤ i → i < n → p i = true → Ev (fun k => g k ((i + 1 : Nat) : Int)) r → Ev (fun k => g k (i : Int)) r)
    (hbad : ∀ i, lo ≤ i → i < n → p i = false → Ev (fun k => g k (i : Int)) bad)
    (fin : ∀ i, n ≤ i → i ≤ n + lo → Ev (fun k => g k (i : Int)) good) : ∀ d a, n - a = d → lo ≤ a → a ≤ n + lo → Ev (fun k => g k (a : Int)) (if (List.range' a (n - a)).all p = true then good else bad) := by
  intro d
  induction d with
  | zero =>
    intro a ha hlo hle
    rw [ha]
    simpa using fin a (by omega) hle
  | succ d ih =>
    intro a ha hlo hle
    rw [ha, List.range'_succ, List.all_cons]
    cases hp : p a with
    | true =>
      have := ih (a + 1) (by omega) (by omega) (by omega)
      rw [show n - (a + 1) = d by omega] at this
      simp only [Bool.true_and]
      exact hgood a _ hlo (by omega) hp this
    | false =>
      simp only [Bool.false_and]
      exact hbad a hlo (by omega) hp
/-- The same where it answers whether all held. -/
theorem all_evB (g : Nat → Int → Option Bool) (p : Nat → Bool) (lo n : Nat)
    (hgood : ∀ i r, lo ≤ i → i < n → p i = true → Ev (fun k => g k ((i + 1 : Nat) : Int)) r → Ev (fun k => g k (i : Int)) r)
    (hbad : ∀ i, lo ≤ i → i < n → p i = false → Ev (fun k => g k (i : Int)) false)
    (fin : ∀ i, n ≤ i → i ≤ n + lo → Ev (fun k => g k (i : Int)) true) : Ev (fun k => g k (lo : Int)) ((List.range' lo (n - lo)).all p) := by
  have h := all_ev g p true false lo n hgood hbad fin (n - lo) lo rfl (Nat.le_refl _) (by omega)
  cases hb : (List.range' lo (n - lo)).all p <;> simpa [hb] using h
/-- A loop that carries a state s; P: what is known of it. -/
theorem fold_ev {σ β : Type} (g : Nat → σ → Int → Option β) (f : σ → Nat → σ) (h : σ → β) (P : Nat → σ → Prop) (n : Nat)
    (step : ∀ s i r, i < n → P i s → (P (i + 1) (f s i) ∧ (Ev (fun k => g k (f s i) ((i + 1 : Nat) : Int)) r → Ev (fun k => g k s (i : Int)) r)))
    (fin : ∀ s, P n s → Ev (fun k => g k s (n : Int)) (h s)) : ∀ d a s, n - a = d → a ≤ n → P a s → Ev (fun k => g k s (a : Int)) (h ((List.range' a (n - a)).foldl f s)) := by
  intro d
  induction d with
  | zero =>
    intro a s ha hle hP
    obtain rfl : a = n := by omega
    simpa using fin s hP
  | succ d ih =>
    intro a s ha hle hP
    rw [ha, List.range'_succ, List.foldl_cons]
    have := step s a (h ((List.range' (a + 1) d).foldl f (f s a))) (by omega) hP
    refine this.2 ?_
    have h2 := ih (a + 1) (f s a) (by omega) (by omega) this.1
    rw [show n - (a + 1) = d by omega] at h2
    exact h2
theorem rd_nat (l : List Int) (i : Nat) (h : i < l.length) : rd l (i : Int) = l[i] := by unfold rd; rw [Int.toNat_natCast]; simp [List.getD_eq_getElem?_getD, h]
theorem all_range (l : List Int) (q : Int → Bool) : (List.range' 0 l.length).all (fun i => q (rd l (i : Int))) = l.all q := by
  rw [Bool.eq_iff_iff, List.all_eq_true, List.all_eq_true]
  constructor
  · intro h x hx
    obtain ⟨i, hi, rfl⟩ := List.getElem_of_mem hx
    have := h i (by simp; omega)
    rwa [rd_nat l i hi] at this
  · intro h i hi
    have hi : i < l.length := by simp at hi; omega
    rw [rd_nat l i hi]
    exact h _ (List.getElem_mem hi)
/-- Strictly increasing. -/
def incr (l : List Int) : Bool := (List.range' 1 (l.length - 1)).all fun i => decide (rd l (i : Int) > rd l ((i : Int) - 1))
theorem incr_iff (l : List Int) : incr l = true ↔ ∀ i, ∀ h : i + 1 < l.length, l[i] < l[i + 1] := by
  unfold incr
  rw [List.all_eq_true]
  constructor
  · intro h i hi
    have := h (i + 1) (by simp; omega)
    rw [rd_nat l (i + 1) hi, show (((i + 1 : Nat) : Int) - 1) = ((i : Nat) : Int) by omega, rd_nat l i (by omega)] at this
    simpa using this
  · intro h i hi
    obtain ⟨j, rfl⟩ : ∃ j, i = j + 1 := ⟨i - 1, by simp at hi; omega⟩
    have hj : j + 1 < l.length := by simp at hi; omega
    rw [rd_nat l (j + 1) hj, show (((j + 1 : Nat) : Int) - 1) = ((j : Nat) : Int) by omega, rd_nat l j (by omega)]
    simpa using h j hj
theorem incr_ge (l : List Int) (h : incr l = true) (h0 : ∀ x ∈ l, 0 ≤ x) : ∀ i (hi : i < l.length), (i : Int) ≤ l[i] := by
  intro i
  induction i with
  | zero => intro hi; exact h0 _ (List.getElem_mem hi)
  | succ i ih =>
    intro hi
    have := ih (by omega)
    have := (incr_iff l).1 h i hi
    omega
theorem incr_len (l : List Int) (h : incr l = true) (m : Int) (hm : l.all (fun x => decide (0 ≤ x) && decide (x ≤ m)) = true) : (l.length : Int) ≤ m + 1 ∨ l = [] := by
  rw [List.all_eq_true] at hm
  by_cases h0 : l = []
  · exact .inr h0
  · left
    have hp := List.length_pos_iff.2 h0
    have h1 := incr_ge l h (fun x hx => by have := hm x hx; simp at this; omega) (l.length - 1) (by omega)
    have h2 := hm _ (List.getElem_mem (show l.length - 1 < l.length by omega))
    simp at h2
    omega

/-! ### figures: what is one -/
def inB (lo hi : Int) (x : Int) : Bool := decide (lo ≤ x) && decide (x ≤ hi)
theorem inB_iff {lo hi x : Int} : inB lo hi x = true ↔ lo ≤ x ∧ x ≤ hi := by simp [inB]
theorem l1In_is (a lo hi : Int) : spec_l1In.f a lo hi = some (inB lo hi a) := by
  unfold spec_l1In.f inB
  by_cases h : a ≥ lo
  · rw [if_pos h, decide_eq_true (show lo ≤ a from h), Bool.true_and]
  · rw [if_neg h, decide_eq_false (show ¬ lo ≤ a from h), Bool.false_and]
theorem within_is (a lo hi : Int) : impl_within.f a lo hi = some (inB lo hi a) := by
  unfold impl_within.f inB
  by_cases h : lo ≤ a
  · rw [if_pos h, decide_eq_true h, Bool.true_and]
  · rw [if_neg h, decide_eq_false h, Bool.false_and]
theorem fiGrid_is (w h : Int) : spec_fiGrid.f w h = some (inB 1 4 w && inB 1 4 h) := by
  unfold spec_fiGrid.f
  simp only [l1In_is, Option.bind_some]
  cases inB 1 4 w <;> simp
theorem isGrid_is (w h : Int) : impl_isGrid.f w h = some (inB 1 4 w && inB 1 4 h) := by
  unfold impl_isGrid.f
  simp only [within_is, Option.bind_some]
  cases inB 1 4 w <;> simp
theorem l1All_ev (l : List Int) (hl : l.length ≤ 9223372036854775807) (lo hi : Int) : Ev (fun k => spec_l1All.f k l lo hi) (l.all (inB lo hi)) := by
  have h := all_evB (fun k i => spec_l1All.l0 k lo hi l (l.length : Int) i) (fun i => inB lo hi (rd l (i : Int))) 0 l.length
    (fun i r _ hi hp hr => Ev.step (fun k => by simp only [spec_l1All.l0]; rw [if_pos (by omega), if_pos (by omega), if_pos (by omega), l1In_is, hp, Option.bind_some, if_pos rfl, w64 (by omega) (by omega)]; rfl) hr)
    (fun i _ hi hp => Ev.step (fun k => by simp only [spec_l1All.l0]; rw [if_pos (by omega), if_pos (by omega), if_pos (by omega), l1In_is, hp, Option.bind_some, if_neg (by simp)]) (Ev.now false))
    (fun i hi _ => Ev.step (fun k => by simp only [spec_l1All.l0]; rw [if_neg (by omega)]) (Ev.now true))
  rw [Nat.sub_zero, all_range l (inB lo hi)] at h
  exact h
theorem isRising_ev (l : List Int) (hl : l.length ≤ 9223372036854775807) : Ev (fun k => impl_isRising.f k l) (incr l) :=
  all_evB (fun k i => impl_isRising.l0 k l i) (fun i => decide (rd l (i : Int) > rd l ((i : Int) - 1))) 1 l.length
    (fun i r h0 hi hp hr => Ev.step (fun k => by simp only [impl_isRising.l0]; rw [if_pos (by omega), if_pos (by omega), w64 (by omega) (by omega), if_pos (by omega), if_pos (by omega), if_neg (by simp at hp; omega), w64 (by omega) (by omega)]; rfl) hr)
    (fun i h0 hi hp => Ev.step (fun k => by simp only [impl_isRising.l0]; rw [if_pos (by omega), if_pos (by omega), w64 (by omega) (by omega), if_pos (by omega), if_pos (by omega), if_pos (by simp at hp; omega)]) (Ev.now false))
    (fun i hi _ => Ev.step (fun k => by simp only [impl_isRising.l0]; rw [if_neg (by omega)]) (Ev.now true))
def rises (l : List Int) (m : Int) : Bool := l.all (inB 0 m) && incr l
theorem fiRises_ev (l : List Int) (hl : l.length ≤ 9223372036854775807) (m : Int) (h0 : 0 ≤ m) (h1 : m ≤ 1000) : Ev (fun k => spec_fiRises.f k l m) (rises l m) := by
  unfold rises spec_fiRises.f
  rw [w64 (by omega) (by omega)]
  by_cases hlen : (l.length : Int) > m + 1
  · simp only [if_pos hlen]
    have hf : (l.all (inB 0 m) && incr l) = false := by
      cases hi : incr l
      · simp
      · cases ha : l.all (inB 0 m)
        · rfl
        · rcases incr_len l hi m ha with h | h
          · omega
          · subst h
            simp at hlen
            omega
    rw [hf]
    exact Ev.step (f := fun _ => some false) (fun k => by simp [spec_fiRises.j0]) (Ev.now false)
  · simp only [if_neg hlen]
    refine Ev.bind (l1All_ev l hl 0 m) ?_
    cases ha : l.all (inB 0 m) with
    | false => exact Ev.step (f := fun _ => some false) (fun k => by simp [spec_fiRises.j0]) (Ev.now false)
    | true =>
      refine Ev.step (f := fun k => spec_fiRises.l0 k l 1) (fun k => by simp only [spec_fiRises.j0]; rw [if_neg (by simp)]) ?_
      rw [Bool.true_and]
      exact all_evB (fun k i => spec_fiRises.l0 k l i) (fun i => decide (rd l (i : Int) > rd l ((i : Int) - 1))) 1 l.length
        (fun i r h0 hi hp hr => Ev.step (fun k => by simp only [spec_fiRises.l0]; rw [if_pos (by omega), w64 (by omega) (by omega), if_pos (by omega), if_pos (by omega), if_pos (by omega), if_neg (by simp at hp; omega), w64 (by omega) (by omega)]; rfl) hr)
        (fun i h0 hi hp => Ev.step (fun k => by simp only [spec_fiRises.l0]; rw [if_pos (by omega), w64 (by omega) (by omega), if_pos (by omega), if_pos (by omega), if_pos (by omega), if_pos (by simp at hp; omega)]) (Ev.now false))
        (fun i hi _ => Ev.step (fun k => by simp only [spec_fiRises.l0]; rw [if_neg (by omega)]) (Ev.now true))
theorem grid_bounds {w h : Int} (hw : 1 ≤ w ∧ w ≤ 4) (hh : 1 ≤ h ∧ h ≤ 4) : 2 ≤ w * (h + 1) ∧ w * (h + 1) ≤ 20 ∧ 2 ≤ (w + 1) * h ∧ (w + 1) * h ≤ 20 ∧ 2 ≤ h * (w + 1) ∧ h * (w + 1) ≤ 20 ∧ 1 ≤ w * h ∧ w * h ≤ 16 ∧ h * (w + 1) = (w + 1) * h := by
  have hc : w = 1 ∨ w = 2 ∨ w = 3 ∨ w = 4 := by omega
  rcases hc with rfl | rfl | rfl | rfl <;> omega
def figGood (w h : Int) (a b : List Int) : Bool := (inB 1 4 w && inB 1 4 h) && (rises a (w * (h + 1) - 1) && rises b ((w + 1) * h - 1))
theorem fiGood_ev (w h : Int) (a b : List Int) (ha : a.length ≤ 9223372036854775807) (hb : b.length ≤ 9223372036854775807) : Ev (fun k => spec_fiGood.f k w h a b) (figGood w h a b) := by
  unfold spec_fiGood.f figGood
  rw [fiGrid_is]
  simp only [Option.bind_some]
  cases hg : (inB 1 4 w && inB 1 4 h) with
  | false => exact Ev.const (by simp)
  | true =>
    simp only [Bool.and_eq_true, inB_iff] at hg
    have B := grid_bounds hg.1 hg.2
    simp only [if_true]
    have e1 : wrap64 (wrap64 (w * wrap64 (h + 1)) - 1) = w * (h + 1) - 1 := by
      rw [w64 (n := h + 1) (by omega) (by omega), w64 (n := w * (h + 1)) (by omega) (by omega), w64 (by omega) (by omega)]
    have e2 : wrap64 (wrap64 (wrap64 (w + 1) * h) - 1) = (w + 1) * h - 1 := by
      rw [w64 (n := w + 1) (by omega) (by omega), w64 (n := (w + 1) * h) (by omega) (by omega), w64 (by omega) (by omega)]
    rw [e1, e2]
    refine Ev.bind (fiRises_ev a ha _ (by omega) (by omega)) ?_
    cases rises a (w * (h + 1) - 1) with
    | false => exact Ev.const (by simp)
    | true =>
      simp only [if_true, Bool.true_and]
      refine Ev.congr (g := fun k => (spec_fiRises.f k b ((w + 1) * h - 1)).bind fun t114 => some t114) (fun k => rfl) ?_
      exact Ev.bind (fiRises_ev b hb _ (by omega) (by omega)) (Ev.now _)
theorem levels_is {w h : Int} (hw : 1 ≤ w ∧ w ≤ 4) (hh : 1 ≤ h ∧ h ≤ 4) : impl_grid_levels.f w h = some (w * (h + 1)) := by
  have B := grid_bounds hw hh
  unfold impl_grid_levels.f
  rw [w64 (n := h + 1) (by omega) (by omega), w64 (n := w * (h + 1)) (by omega) (by omega)]
theorem uprights_is {w h : Int} (hw : 1 ≤ w ∧ w ≤ 4) (hh : 1 ≤ h ∧ h ≤ 4) : impl_grid_uprights.f w h = some ((w + 1) * h) := by
  have B := grid_bounds hw hh
  unfold impl_grid_uprights.f
  rw [w64 (n := w + 1) (by omega) (by omega), w64 (n := h * (w + 1)) (by omega) (by omega)]
  rw [Int.mul_comm]
theorem IsFigure_ev (w h : Int) (a b : List Int) (ha : a.length ≤ 9223372036854775807) (hb : b.length ≤ 9223372036854775807) : Ev (fun k => impl_IsFigure.f k w h a b) (figGood w h a b) := by
  unfold impl_IsFigure.f figGood rises
  rw [isGrid_is]
  simp only [Option.bind_some, impl_Figure_grid.f]
  cases hg : (inB 1 4 w && inB 1 4 h) with
  | false => exact Ev.const (by simp)
  | true =>
    simp only [Bool.and_eq_true, inB_iff] at hg
    have B := grid_bounds hg.1 hg.2
    simp only [if_true, levels_is hg.1 hg.2, uprights_is hg.1 hg.2, Option.bind_some, impl_areWithin.f]
    rw [w64 (n := w * (h + 1) - 1) (by omega) (by omega), w64 (n := (w + 1) * h - 1) (by omega) (by omega)]
    refine Ev.bind (isRising_ev a ha) ?_
    cases incr a with
    | false => exact Ev.const (by simp)
    | true =>
      refine Ev.bind (isRising_ev b hb) ?_
      cases incr b with
      | false => exact Ev.const (by simp)
      | true =>
        simp only [if_true, Bool.true_and, Bool.and_true]
        have q : ∀ (l : List Int) (m : Int), (l.all fun x => decide (0 ≤ x) && decide (x ≤ m)) = l.all (inB 0 m) := fun _ _ => rfl
        rw [q, q]
        cases a.all (inB 0 (w * (h + 1) - 1)) with
        | false => exact Ev.const (by simp)
        | true => exact Ev.const (by simp)
theorem good_parts {w h : Int} {a b : List Int} (g : figGood w h a b = true) : (1 ≤ w ∧ w ≤ 4) ∧ (1 ≤ h ∧ h ≤ 4) ∧ (∀ x ∈ a, 0 ≤ x ∧ x < w * (h + 1)) ∧ incr a = true ∧ (∀ x ∈ b, 0 ≤ x ∧ x < (w + 1) * h) ∧ incr b = true := by
  unfold figGood rises at g
  simp only [Bool.and_eq_true, inB_iff, List.all_eq_true] at g
  obtain ⟨⟨g1, g2⟩, ⟨g3, g4⟩, g5, g6⟩ := g
  exact ⟨g1, g2, fun x hx => by have := g3 x hx; omega, g4, fun x hx => by have := g5 x hx; omega, g6⟩

/-! ### bits: sets of numbers below 63 as natural numbers -/
theorem wu64 (n : Int) (h0 : 0 ≤ n) (h1 : n < 2 ^ 63) : IntKind.u64.wrap n = n := by
  simp only [IntKind.wrap, IntKind.bits, IntKind.signed]
  simp
  omega
theorem wi64 (n : Int) (h0 : 0 ≤ n) (h1 : n < 2 ^ 63) : IntKind.i64.wrap n = n := by
  rw [IntKind.wrap_i64]
  omega
/-- a without what b has. -/
def andN (a b : Nat) : Nat := a ^^^ (a &&& b)
theorem testBit_andN (a b i : Nat) : (andN a b).testBit i = (a.testBit i && !b.testBit i) := by
  unfold andN
  rw [Nat.testBit_xor, Nat.testBit_and]
  cases a.testBit i <;> cases b.testBit i <;> rfl
theorem andN_le (a b : Nat) : andN a b ≤ a := by
  apply Nat.le_of_testBit
  intro i h
  rw [testBit_andN] at h
  simp at h
  exact h.1
theorem castlt {n : Nat} (h : n < 2 ^ 63) : ((n : Nat) : Int) < 2 ^ 63 := by exact_mod_cast h
section
variable (k : IntKind) (hk : ∀ n : Int, 0 ≤ n → n < 2 ^ 63 → k.wrap n = n) (hb : k.bits = 64) (a b : Nat) (ha : a < 2 ^ 63) (hbb : b < 2 ^ 63)
include hk hb ha hbb
theorem bits_or : Go.bits .or k a b = ((a ||| b : Nat) : Int) := (bits_nat k 63 (by omega) hk a b ha hbb).2
theorem bits_and : Go.bits .and k a b = ((a &&& b : Nat) : Int) := (bits_nat k 63 (by omega) hk a b ha hbb).1
theorem bits_xor : Go.bits .xor k a b = ((a ^^^ b : Nat) : Int) := by
  have h1 : a % 2 ^ k.bits = a := Nat.mod_eq_of_lt (by rw [hb]; omega)
  have h2 : b % 2 ^ k.bits = b := Nat.mod_eq_of_lt (by rw [hb]; omega)
  simp only [Go.bits, BitVec.ofInt_natCast, BitVec.toNat_xor, BitVec.toNat_ofNat, h1, h2]
  exact hk _ (Int.natCast_nonneg _) (castlt (Nat.xor_lt_two_pow ha hbb))
theorem bits_andNot : Go.bits .andNot k a b = ((andN a b : Nat) : Int) := by
  have h1 : a % 2 ^ k.bits = a := Nat.mod_eq_of_lt (by rw [hb]; omega)
  have h2 : b % 2 ^ k.bits = b := Nat.mod_eq_of_lt (by rw [hb]; omega)
  have e : a &&& (2 ^ k.bits - 1 - b) = andN a b := by
    apply Nat.eq_of_testBit_eq
    intro i
    rw [Nat.testBit_and, testBit_andN, show 2 ^ k.bits - 1 - b = 2 ^ k.bits - (b + 1) by omega, Nat.testBit_two_pow_sub_succ (by rw [hb]; omega)]
    by_cases hi : i < k.bits
    · simp [hi]
    · have : a.testBit i = false := Nat.testBit_lt_two_pow (Nat.lt_of_lt_of_le ha (Nat.pow_le_pow_right (by decide) (by omega)))
      simp [this]
  simp only [Go.bits, BitVec.ofInt_natCast, BitVec.toNat_and, BitVec.toNat_not, BitVec.toNat_ofNat, h1, h2, e]
  exact hk _ (Int.natCast_nonneg _) (castlt (Nat.lt_of_le_of_lt (andN_le a b) ha))
end
theorem oru (a b : Nat) (ha : a < 2 ^ 63) (hb : b < 2 ^ 63) : Go.bits .or .u64 a b = ((a ||| b : Nat) : Int) := bits_or .u64 wu64 rfl a b ha hb
theorem ori (a b : Nat) (ha : a < 2 ^ 63) (hb : b < 2 ^ 63) : Go.bits .or .i64 a b = ((a ||| b : Nat) : Int) := bits_or .i64 wi64 rfl a b ha hb
theorem andu (a b : Nat) (ha : a < 2 ^ 63) (hb : b < 2 ^ 63) : Go.bits .and .u64 a b = ((a &&& b : Nat) : Int) := bits_and .u64 wu64 rfl a b ha hb
theorem andi (a b : Nat) (ha : a < 2 ^ 63) (hb : b < 2 ^ 63) : Go.bits .and .i64 a b = ((a &&& b : Nat) : Int) := bits_and .i64 wi64 rfl a b ha hb
theorem xoru (a b : Nat) (ha : a < 2 ^ 63) (hb : b < 2 ^ 63) : Go.bits .xor .u64 a b = ((a ^^^ b : Nat) : Int) := bits_xor .u64 wu64 rfl a b ha hb
theorem xori (a b : Nat) (ha : a < 2 ^ 63) (hb : b < 2 ^ 63) : Go.bits .xor .i64 a b = ((a ^^^ b : Nat) : Int) := bits_xor .i64 wi64 rfl a b ha hb
theorem andNu (a b : Nat) (ha : a < 2 ^ 63) (hb : b < 2 ^ 63) : Go.bits .andNot .u64 a b = ((andN a b : Nat) : Int) := bits_andNot .u64 wu64 rfl a b ha hb
theorem shl_one (k : IntKind) (hk : ∀ n : Int, 0 ≤ n → n < 2 ^ 63 → k.wrap n = n) (hb : k.bits = 64) (e : Int) (h0 : 0 ≤ e) (h1 : e < 63) : Go.Proofs.YtmlkihaoeopobaaDoorW.PrintWords.shl k 1 e = ((2 ^ e.toNat : Nat) : Int) := by
  obtain ⟨n, rfl⟩ := Int.eq_ofNat_of_zero_le h0
  unfold Go.Proofs.YtmlkihaoeopobaaDoorW.PrintWords.shl
  rw [Int.toNat_natCast, Nat.min_eq_left (by rw [hb]; omega), Int.one_mul]
  have hp : 2 ^ n < 2 ^ 63 := Nat.pow_lt_pow_right (by decide) (by omega)
  have hc : ((2 : Int) ^ n) = ((2 ^ n : Nat) : Int) := by simp
  rw [hc]
  exact hk _ (Int.natCast_nonneg _) (castlt hp)
theorem shlu (e : Int) (h0 : 0 ≤ e) (h1 : e < 63) : Go.Proofs.YtmlkihaoeopobaaDoorW.PrintWords.shl .u64 1 e = ((2 ^ e.toNat : Nat) : Int) := shl_one .u64 wu64 rfl e h0 h1
theorem shli (e : Int) (h0 : 0 ≤ e) (h1 : e < 63) : Go.Proofs.YtmlkihaoeopobaaDoorW.PrintWords.shl .i64 1 e = ((2 ^ e.toNat : Nat) : Int) := shl_one .i64 wi64 rfl e h0 h1
/-- The set of a list's numbers. -/
def maskL (l : List Int) : Nat := l.foldl (fun m x => m ||| 2 ^ x.toNat) 0
theorem testBit_pow (e j : Nat) : (2 ^ e).testBit j = decide (e = j) := Nat.testBit_two_pow
theorem foldl_mask_bit (j : Nat) : ∀ (l : List Int) (m : Nat), (l.foldl (fun m x => m ||| 2 ^ x.toNat) m).testBit j = (m.testBit j || l.any (fun x => decide (x.toNat = j)))
  | [], m => by simp
  | x :: l, m => by
    rw [List.foldl_cons, foldl_mask_bit j l, Nat.testBit_or, testBit_pow, List.any_cons, Bool.or_assoc]
theorem maskL_bit (l : List Int) (j : Nat) : (maskL l).testBit j = l.any (fun x => decide (x.toNat = j)) := by
  unfold maskL
  rw [foldl_mask_bit]
  simp
theorem maskL_mem (l : List Int) (h : ∀ x ∈ l, 0 ≤ x) (j : Nat) : (maskL l).testBit j = true ↔ (j : Int) ∈ l := by
  rw [maskL_bit, List.any_eq_true]
  constructor
  · rintro ⟨x, hx, he⟩
    have := h x hx
    simp at he
    have : x = (j : Int) := by omega
    rwa [← this]
  · intro hj
    exact ⟨_, hj, by simp⟩
theorem foldl_mask_lt (N : Nat) : ∀ (l : List Int) (m : Nat), (∀ x ∈ l, x.toNat < N) → m < 2 ^ N → (l.foldl (fun m x => m ||| 2 ^ x.toNat) m) < 2 ^ N
  | [], m, _, hm => hm
  | x :: l, m, h, hm => foldl_mask_lt N l _ (fun y hy => h y (List.mem_cons_of_mem _ hy)) (Nat.or_lt_two_pow hm (Nat.pow_lt_pow_right (by decide) (h x List.mem_cons_self)))
theorem maskL_lt (l : List Int) (N : Nat) (h : ∀ x ∈ l, x.toNat < N) : maskL l < 2 ^ N := foldl_mask_lt N l 0 h (Nat.two_pow_pos N)
theorem range_foldl {σ : Type} (l : List Int) (f : σ → Int → σ) : ∀ s, (List.range' 0 l.length).foldl (fun s (i : Nat) => f s (rd l (i : Int))) s = l.foldl f s := by
  have key : ∀ (d a : Nat) (s : σ), a + d = l.length → (List.range' a d).foldl (fun s (i : Nat) => f s (rd l (i : Int))) s = (l.drop a).foldl f s := by
    intro d
    induction d with
    | zero => intro a s h; rw [List.drop_of_length_le (by omega)]; rfl
    | succ d ih =>
      intro a s h
      have ha : a < l.length := by omega
      rw [List.range'_succ, List.foldl_cons, ih (a + 1) _ (by omega), List.drop_eq_getElem_cons ha, List.foldl_cons, rd_nat l a ha]
  intro s
  have := key l.length 0 s (by omega)
  simpa using this
theorem pow_lt63 {e : Nat} (h : e < 63) : 2 ^ e < 2 ^ 63 := Nat.pow_lt_pow_right (by decide) h
theorem lt63 {n N : Nat} (h : n < 2 ^ N) (hN : N ≤ 63) : n < 2 ^ 63 := Nat.lt_of_lt_of_le h (Nat.pow_le_pow_right (by decide) hN)
theorem and_pow_ne (m e : Nat) : (m &&& 2 ^ e ≠ 0) ↔ m.testBit e = true := by
  constructor
  · intro h
    cases hb : m.testBit e with
    | true => rfl
    | false =>
      exfalso
      apply h
      apply Nat.eq_of_testBit_eq
      intro i
      rw [Nat.testBit_and, testBit_pow, Nat.zero_testBit]
      by_cases hi : e = i
      · subst hi; simp [hb]
      · simp [hi]
  · intro h h0
    have := congrArg (fun n => n.testBit e) h0
    simp [Nat.testBit_and, testBit_pow, h] at this

/-! ### the set of a figure: level edges first -/
def edges (w h : Int) (a b : List Int) : List Int := a ++ b.map (fun x => w * (h + 1) + x)
theorem edges_lt {w h : Int} {a b : List Int} (g : figGood w h a b = true) : ∀ x ∈ edges w h a b, 0 ≤ x ∧ x < 40 := by
  obtain ⟨hw, hh, ga, _, gb, _⟩ := good_parts g
  have B := grid_bounds hw hh
  intro x hx
  rcases List.mem_append.1 hx with h1 | h1
  · have := ga x h1
    omega
  · obtain ⟨y, hy, rfl⟩ := List.mem_map.1 h1
    have := gb y hy
    have h16 : w * (h + 1) + (w + 1) * h ≤ 40 := by omega
    omega
def figM (w h : Int) (a b : List Int) : Nat := maskL (edges w h a b)
theorem figM_lt {w h : Int} {a b : List Int} (g : figGood w h a b = true) : figM w h a b < 2 ^ 40 := maskL_lt _ 40 (fun x hx => by have := edges_lt g x hx; omega)
theorem figM_fold (w h : Int) (a b : List Int) : figM w h a b = b.foldl (fun m x => m ||| 2 ^ (w * (h + 1) + x).toNat) (a.foldl (fun m x => m ||| 2 ^ x.toNat) 0) := by
  unfold figM edges maskL
  rw [List.foldl_append, List.foldl_map]

/-! ### the program's set -/
theorem figSet_ev {w h : Int} {a b : List Int} (g : figGood w h a b = true) (ha : a.length ≤ 9223372036854775807) (hb : b.length ≤ 9223372036854775807) : Ev (fun k => impl_Figure_set.f k w h a b) ((figM w h a b : Nat) : Int) := by
  obtain ⟨hw, hh, ga, _, gb, _⟩ := good_parts g
  have B := grid_bounds hw hh
  have h16 : w * (h + 1) + (w + 1) * h ≤ 40 := by omega
  have h1 : ∀ s : Nat, s < 2 ^ 40 → Ev (fun k => impl_Figure_set.l1 k (s : Int) b (b.length : Int) 0 w h a b) ((b.foldl (fun m x => m ||| 2 ^ (w * (h + 1) + x).toNat) s : Nat) : Int) := by
    intro s hs
    have h0 := fold_ev (fun k (s : Nat) i => impl_Figure_set.l1 k (s : Int) b (b.length : Int) i w h a b) (fun s i => s ||| 2 ^ (w * (h + 1) + rd b (i : Int)).toNat) (fun s => ((s : Nat) : Int)) (fun _ s => s < 2 ^ 40) b.length
      (fun s i r hi hs => by
        have hx := gb (rd b (i : Int)) (by rw [rd_nat b i hi]; exact List.getElem_mem hi)
        refine ⟨Nat.or_lt_two_pow hs (Nat.pow_lt_pow_right (by decide) (by omega)), fun hr => Ev.step (fun k => ?_) hr⟩
        simp only [impl_Figure_set.l1, impl_Figure_grid.f, Option.bind_some, levels_is hw hh]
        rw [if_pos (by omega), if_pos (by omega), if_pos (by omega), w64 (n := w * (h + 1) + rd b (i : Int)) (by omega) (by omega), if_pos (by omega), shlu _ (by omega) (by omega), oru _ _ (lt63 hs (by decide)) (pow_lt63 (by omega)), w64 (by omega) (by omega)]
        rfl)
      (fun s hs => Ev.step (fun k => by simp only [impl_Figure_set.l1]; rw [if_neg (by omega)]) (Ev.now _)) b.length 0 s (by omega) (by omega) hs
    rw [Nat.sub_zero, range_foldl b (fun m x => m ||| 2 ^ (w * (h + 1) + x).toNat)] at h0
    exact h0
  have h0 := fold_ev (fun k (s : Nat) i => impl_Figure_set.l0 k (s : Int) a (a.length : Int) i w h a b) (fun s i => s ||| 2 ^ (rd a (i : Int)).toNat) (fun s => ((b.foldl (fun m x => m ||| 2 ^ (w * (h + 1) + x).toNat) s : Nat) : Int)) (fun _ s => s < 2 ^ 40) a.length
    (fun s i r hi hs => by
      have hx := ga (rd a (i : Int)) (by rw [rd_nat a i hi]; exact List.getElem_mem hi)
      refine ⟨Nat.or_lt_two_pow hs (Nat.pow_lt_pow_right (by decide) (by omega)), fun hr => Ev.step (fun k => ?_) hr⟩
      simp only [impl_Figure_set.l0]
      rw [if_pos (by omega), if_pos (by omega), if_pos (by omega), if_pos hx.1, shlu _ hx.1 (by omega), oru _ _ (lt63 hs (by decide)) (pow_lt63 (by omega)), w64 (by omega) (by omega)]
      rfl)
    (fun s hs => Ev.step (fun k => by simp only [impl_Figure_set.l0]; rw [if_neg (by omega)]) (h1 s hs)) a.length 0 0 (by omega) (by omega) (by decide)
  rw [Nat.sub_zero, range_foldl a (fun m x => m ||| 2 ^ x.toNat)] at h0
  rw [figM_fold]
  exact h0

/-! ### loops that carry a state, to a state that is known -/
theorem run_ev {σ β : Type} (g : Nat → σ → Int → Option β) (f : σ → Nat → σ) (Q : Nat → σ → Prop) (hi : Nat) (r : β)
    (step : ∀ s i, i < hi → Q i s → (Q (i + 1) (f s i) ∧ ∀ r, Ev (fun k => g k (f s i) ((i + 1 : Nat) : Int)) r → Ev (fun k => g k s (i : Int)) r)) :
    ∀ d lo s0, hi - lo = d → Q lo s0 → (Q (lo + (hi - lo)) ((List.range' lo (hi - lo)).foldl f s0) → Ev (fun k => g k ((List.range' lo (hi - lo)).foldl f s0) ((lo + (hi - lo) : Nat) : Int)) r) → Ev (fun k => g k s0 (lo : Int)) r := by
  intro d
  induction d with
  | zero =>
    intro lo s0 h hQ fin
    rw [h] at fin
    exact fin hQ
  | succ d ih =>
    intro lo s0 h hQ fin
    have st := step s0 lo (by omega) hQ
    refine st.2 r (ih (lo + 1) (f s0 lo) (by omega) st.1 ?_)
    rw [h, List.range'_succ, List.foldl_cons] at fin
    rw [show hi - (lo + 1) = d by omega, show lo + 1 + d = lo + (d + 1) by omega]
    exact fin
theorem andN_lt {a b N : Nat} (h : a < N) : andN a b < N := Nat.lt_of_le_of_lt (andN_le a b) h
/-- covered: all of e's edges are in m -/
def cov (e m : Nat) : Bool := decide (andN e m = 0)
theorem covers_iff (m e : Nat) : (andN e m = 0) ↔ (m &&& e = e) := by
  constructor
  · intro h
    apply Nat.eq_of_testBit_eq
    intro i
    have := congrArg (fun n => n.testBit i) h
    simp only [testBit_andN, Nat.zero_testBit] at this
    rw [Nat.testBit_and]
    cases he : e.testBit i <;> cases hm : m.testBit i <;> simp_all
  · intro h
    apply Nat.eq_of_testBit_eq
    intro i
    have := congrArg (fun n => n.testBit i) h
    simp only [Nat.testBit_and] at this
    rw [testBit_andN, Nat.zero_testBit]
    cases he : e.testBit i <;> cases hm : m.testBit i <;> simp_all
theorem cov_iff (e m : Nat) : cov e m = decide (m &&& e = e) := by
  unfold cov
  rw [decide_eq_decide]
  exact covers_iff m e

/-! ### loops over a list of any kind -/
theorem range_foldlG {α σ : Type} (l : List α) (rdx : Int → α) (hrd : ∀ i, ∀ h : i < l.length, rdx ((i : Nat) : Int) = l[i]) (f : σ → α → σ) : ∀ s, (List.range' 0 l.length).foldl (fun s (i : Nat) => f s (rdx (i : Int))) s = l.foldl f s := by
  have key : ∀ (d a : Nat) (s : σ), a + d = l.length → (List.range' a d).foldl (fun s (i : Nat) => f s (rdx (i : Int))) s = (l.drop a).foldl f s := by
    intro d
    induction d with
    | zero => intro a s h; rw [List.drop_of_length_le (by omega)]; rfl
    | succ d ih =>
      intro a s h
      have ha : a < l.length := by omega
      rw [List.range'_succ, List.foldl_cons, ih (a + 1) _ (by omega), List.drop_eq_getElem_cons ha, List.foldl_cons, hrd a ha]
  intro s
  have := key l.length 0 s (by omega)
  simpa using this
theorem foldl_filter {α β : Type} (p : α → Bool) (g : α → β) : ∀ (l : List α) (s : List β), l.foldl (fun s x => if p x = true then s ++ [g x] else s) s = s ++ (l.filter p).map g
  | [], s => by simp
  | x :: l, s => by
    rw [List.foldl_cons, foldl_filter p g l, List.filter_cons]
    by_cases h : p x = true
    · rw [if_pos h, if_pos h, List.map_cons, List.append_assoc]
      rfl
    · rw [if_neg h, if_neg h]
theorem foldl_filter_le {α β : Type} (p : α → Bool) (g : α → β) (l : List α) (s : List β) (i : Nat) (h : s.length ≤ i) (x : α) : (if p x = true then s ++ [g x] else s).length ≤ i + 1 := by
  split
  · simp
    omega
  · omega

/-! ### the reference's search in a list -/
theorem l1Has_ev (l : List Int) (hl : l.length ≤ 9223372036854775807) (n : Int) : Ev (fun k => spec_l1Has.f k l n) (l.any (fun x => decide (x = n))) := by
  have h := all_ev (fun k i => spec_l1Has.l0 k n l (l.length : Int) i) (fun i => !decide (rd l (i : Int) = n)) false true 0 l.length
    (fun i r _ hi hp hr => Ev.step (fun k => by simp only [spec_l1Has.l0]; rw [if_pos (by omega), if_pos (by omega), if_pos (by omega), if_neg (by simpa using hp), w64 (by omega) (by omega)]; rfl) hr)
    (fun i _ hi hp => Ev.step (fun k => by simp only [spec_l1Has.l0]; rw [if_pos (by omega), if_pos (by omega), if_pos (by omega), if_pos (by simpa using hp)]) (Ev.now true))
    (fun i hi _ => Ev.step (fun k => by simp only [spec_l1Has.l0]; rw [if_neg (by omega)]) (Ev.now false)) l.length 0 (by omega) (by omega) (by omega)
  rw [Nat.sub_zero, all_range l (fun x => !decide (x = n))] at h
  have e : (l.all fun x => !decide (x = n)) = !(l.any fun x => decide (x = n)) := by rw [List.any_eq_not_all_not]; simp
  rw [e] at h
  cases ha : (l.any fun x => decide (x = n)) <;> (rw [ha] at h; exact h)

/-! ### the reference's matches that another figure lacks -/
theorem fiThose_ev (a c : List Int) (ha : a.length ≤ 1000000) (hc : c.length ≤ 9223372036854775807) (b : Bool) : Ev (fun k => spec_fiThose.f k a c b) (a.filter (fun x => (c.any (fun z => decide (z = x))) == b)) := by
  have h0 := fold_ev (fun k (s : List Int) i => spec_fiThose.l0 k c b s a (a.length : Int) i) (fun s i => if ((c.any (fun z => decide (z = rd a (i : Int)))) == b) = true then s ++ [rd a (i : Int)] else s) (fun s => s) (fun i s => s.length ≤ i) a.length
    (fun s i r hi hs => by
      refine ⟨foldl_filter_le (fun x : Int => (c.any (fun z => decide (z = x))) == b) (fun x => x) a s i hs (rd a (i : Int)), fun hr => ?_⟩
      refine Ev.step (f := fun k => (spec_l1Has.f k c (rd a (i : Int))).bind fun t147 => (if (t147 == b) = true then (if s.length < 17592186044416 then (spec_fiThose.l0 k c b (s ++ [rd a (i : Int)]) a (a.length : Int) (wrap64 ((i : Int) + 1))) else (none)) else (spec_fiThose.l0 k c b s a (a.length : Int) (wrap64 ((i : Int) + 1))))) (fun k => by simp only [spec_fiThose.l0]; rw [if_pos (by omega), if_pos (by omega), if_pos (by omega)]) ?_
      refine Ev.bind (l1Has_ev c hc _) ?_
      rw [w64 (by omega) (by omega)]
      cases hq : ((c.any (fun z => decide (z = rd a (i : Int)))) == b) with
      | true =>
        rw [hq, if_pos rfl] at hr
        refine Ev.congr (fun k => ?_) hr
        rw [if_pos rfl, if_pos (by omega)]
        rfl
      | false =>
        rw [hq, if_neg (by simp)] at hr
        refine Ev.congr (fun k => ?_) hr
        rw [if_neg (by simp)]
        rfl)
    (fun s hs => Ev.step (fun k => by simp only [spec_fiThose.l0]; rw [if_neg (by omega)]) (Ev.now _)) a.length 0 [] (by omega) (by omega) (by simp)
  rw [Nat.sub_zero, range_foldlG a (fun i => rd a i) (fun i hi => rd_nat a i hi) (fun s x => if ((c.any (fun z => decide (z = x))) == b) = true then s ++ [x] else s), foldl_filter (fun x : Int => (c.any (fun z => decide (z = x))) == b) (fun x => x), List.nil_append, List.map_id'] at h0
  exact h0
theorem maskL_less (l : List Int) (h : ∀ x ∈ l, 0 ≤ x) (m : Nat) : andN (maskL l) m = maskL (l.filter (fun x => !m.testBit x.toNat)) := by
  apply Nat.eq_of_testBit_eq
  intro i
  rw [testBit_andN, maskL_bit, maskL_bit, List.any_filter]
  rw [Bool.eq_iff_iff]
  simp only [Bool.and_eq_true, List.any_eq_true, decide_eq_true_eq]
  constructor
  · rintro ⟨⟨x, hx, rfl⟩, h2⟩
    exact ⟨x, hx, h2, rfl⟩
  · rintro ⟨x, hx, h2, rfl⟩
    exact ⟨⟨x, hx, rfl⟩, h2⟩
/-- A level edge's bit, and an upright one's. -/
theorem bit_level {w h : Int} {a b : List Int} (g : figGood w h a b = true) {x : Int} (h0 : 0 ≤ x) (h1 : x < w * (h + 1)) : (figM w h a b).testBit x.toNat = a.any (fun z => decide (z = x)) := by
  obtain ⟨hw, hh, ga, _, gb, _⟩ := good_parts g
  rw [Bool.eq_iff_iff]
  unfold figM
  rw [maskL_mem _ (fun x hx => (edges_lt g x hx).1), show ((x.toNat : Nat) : Int) = x by omega]
  unfold edges
  rw [List.any_eq_true, List.mem_append, List.mem_map]
  simp only [decide_eq_true_eq]
  constructor
  · rintro (h1 | ⟨z, hz, he⟩)
    · exact ⟨_, h1, rfl⟩
    · have := gb _ hz
      omega
  · rintro ⟨z, hz, rfl⟩
    exact .inl hz
theorem bit_upright {w h : Int} {a b : List Int} (g : figGood w h a b = true) {x : Int} (h0 : 0 ≤ x) : (figM w h a b).testBit (w * (h + 1) + x).toNat = b.any (fun z => decide (z = x)) := by
  obtain ⟨hw, hh, ga, _, gb, _⟩ := good_parts g
  have G := grid_bounds hw hh
  rw [Bool.eq_iff_iff]
  unfold figM
  rw [maskL_mem _ (fun x hx => (edges_lt g x hx).1), show (((w * (h + 1) + x).toNat : Nat) : Int) = w * (h + 1) + x by omega]
  unfold edges
  rw [List.any_eq_true, List.mem_append, List.mem_map]
  simp only [decide_eq_true_eq]
  constructor
  · rintro (h1 | ⟨z, hz, he⟩)
    · have := ga _ h1
      omega
    · exact ⟨z, hz, by omega⟩
  · rintro ⟨z, hz, rfl⟩
    exact .inr ⟨z, hz, rfl⟩
theorem edges_filter {w h : Int} {a b c d : List Int} (g : figGood w h a b = true) (g' : figGood w h c d = true) (q : Bool) : (edges w h a b).filter (fun x => (figM w h c d).testBit x.toNat == q) = edges w h (a.filter (fun x => (c.any (fun z => decide (z = x))) == q)) (b.filter (fun x => (d.any (fun z => decide (z = x))) == q)) := by
  obtain ⟨hw, hh, ga, _, gb, _⟩ := good_parts g
  unfold edges
  rw [List.filter_append, List.filter_map]
  congr 1
  · exact List.filter_congr (fun x hx => by rw [bit_level g' (ga x hx).1 (ga x hx).2])
  · congr 1
    exact List.filter_congr (fun x hx => by simp only [Function.comp]; rw [bit_upright g' (gb x hx).1])

/-! ### a rising list is its range, filtered -/
theorem incr_tail {x : Int} {l : List Int} (h : incr (x :: l) = true) : incr l = true := by
  rw [incr_iff] at h ⊢
  intro i hi
  exact h (i + 1) (by simp; omega)
theorem incr_head {x : Int} : ∀ {l : List Int}, incr (x :: l) = true → ∀ y ∈ l, x < y := by
  intro l
  induction l generalizing x with
  | nil => intro _ y hy; simp at hy
  | cons z l ih =>
    intro h y hy
    have h0 := (incr_iff _).1 h 0 (by simp)
    have h0 : x < z := h0
    rcases List.mem_cons.1 hy with rfl | hy
    · exact h0
    · exact Int.lt_trans h0 (ih (incr_tail h) y hy)
/-- A strictly increasing list is what its numbers say. -/
theorem incr_filter : ∀ (n lo : Nat) (l : List Int), incr l = true → (∀ x ∈ l, (lo : Int) ≤ x ∧ x < (lo : Int) + (n : Int)) → l = ((List.range' lo n).filter (fun (i : Nat) => decide ((i : Int) ∈ l))).map (fun (i : Nat) => (i : Int)) := by
  intro n
  induction n with
  | zero =>
    intro lo l _ hb
    cases l with
    | nil => rfl
    | cons x l => have := hb x List.mem_cons_self; omega
  | succ n ih =>
    intro lo l hi hb
    rw [List.range'_succ, List.filter_cons]
    by_cases hm : (lo : Int) ∈ l
    · rw [if_pos (by simpa using hm)]
      cases l with
      | nil => simp at hm
      | cons x t =>
        have hx := hb x List.mem_cons_self
        have ht := incr_head hi
        have e : x = (lo : Int) := by
          rcases List.mem_cons.1 hm with h | h
          · exact h.symm
          · have := ht _ h; omega
        subst e
        have hf : (List.range' (lo + 1) n).filter (fun (i : Nat) => decide ((i : Int) ∈ (lo : Int) :: t)) = (List.range' (lo + 1) n).filter (fun (i : Nat) => decide ((i : Int) ∈ t)) := by
          apply List.filter_congr
          intro i hi'
          rw [List.mem_range'_1] at hi'
          rw [decide_eq_decide, List.mem_cons]
          exact ⟨fun h => h.resolve_left (by omega), .inr⟩
        rw [hf, List.map_cons, ← ih (lo + 1) t (incr_tail hi) (fun y hy => by
          have := hb y (List.mem_cons_of_mem _ hy)
          have := ht y hy
          omega)]
    · rw [if_neg (by simpa using hm)]
      exact ih (lo + 1) l hi (fun x hx => by
        have := hb x hx
        have : x ≠ (lo : Int) := fun h => hm (h ▸ hx)
        omega)

/-! ### the numbers of the bits that are set -/
theorem and_div2' (a b : Nat) : (a &&& b) / 2 = a / 2 &&& b / 2 := by
  apply Nat.eq_of_testBit_eq
  intro i
  simp [Nat.testBit_div_two, Nat.testBit_and]
theorem and_odd' (a b : Nat) : ((a &&& b) % 2 = 1) ↔ (a % 2 = 1 ∧ b % 2 = 1) := by
  have h := Nat.testBit_and a b 0
  rw [Nat.testBit_zero, Nat.testBit_zero, Nat.testBit_zero, ← Bool.decide_and, decide_eq_decide] at h
  exact h
theorem andN_odd' (a b : Nat) : ((andN a b) % 2 = 1) ↔ (a % 2 = 1 ∧ ¬ b % 2 = 1) := by
  have h := testBit_andN a b 0
  rw [Nat.testBit_zero, Nat.testBit_zero, Nat.testBit_zero, ← decide_not, ← Bool.decide_and, decide_eq_decide] at h
  exact h
theorem andN_div2 (a b : Nat) : (andN a b) / 2 = andN (a / 2) (b / 2) := by
  apply Nat.eq_of_testBit_eq
  intro i
  rw [Nat.testBit_div_two, testBit_andN, testBit_andN, Nat.testBit_div_two, Nat.testBit_div_two]
/-- Where the lowest bit is. -/
def low : Nat → Nat → Nat
  | 0, _ => 0
  | f + 1, s => if s % 2 = 1 then 0 else 1 + low f (s / 2)
theorem low_lt : ∀ f s, s < 2 ^ f → s ≠ 0 → low f s < f := by
  intro f
  induction f with
  | zero => intro s h h0; simp at h; omega
  | succ f ih =>
    intro s h h0
    unfold low
    rw [Nat.pow_succ] at h
    by_cases ho : s % 2 = 1
    · rw [if_pos ho]; omega
    · rw [if_neg ho]
      have := ih (s / 2) (by omega) (by omega)
      omega
theorem low_is : ∀ f s, s < 2 ^ f → s ≠ 0 → andN s (s - 1) = 2 ^ low f s := by
  intro f
  induction f with
  | zero => intro s h h0; simp at h; omega
  | succ f ih =>
    intro s h h0
    unfold low
    rw [Nat.pow_succ] at h
    have h1 := andN_div2 s (s - 1)
    have h2 := andN_odd' s (s - 1)
    by_cases ho : s % 2 = 1
    · rw [if_pos ho]
      have := h2.2 ⟨ho, by omega⟩
      have h3 : andN (s / 2) (s / 2) = 0 := by unfold andN; simp
      rw [show (s - 1) / 2 = s / 2 by omega, h3] at h1
      simp only [Nat.pow_zero]
      omega
    · rw [if_neg ho]
      have h3 := ih (s / 2) (by omega) (by omega)
      rw [show (s - 1) / 2 = s / 2 - 1 by omega, h3] at h1
      have : ¬ (andN s (s - 1)) % 2 = 1 := fun h => ho (h2.1 h).1
      rw [Nat.add_comm, Nat.pow_succ]
      omega
/-- The bits that are set, counted from o. -/
def bl : Nat → Nat → Nat → List Nat
  | 0, _, _ => []
  | f + 1, o, s => if s % 2 = 1 then o :: bl f (o + 1) (s / 2) else bl f (o + 1) (s / 2)
theorem bl_zero : ∀ f o, bl f o 0 = [] := by
  intro f
  induction f with
  | zero => intro o; rfl
  | succ f ih => intro o; unfold bl; rw [if_neg (by decide), Nat.zero_div, ih]
theorem bl_low : ∀ f o s, s < 2 ^ f → s ≠ 0 → bl f o s = (o + low f s) :: bl f o (s &&& (s - 1)) := by
  intro f
  induction f with
  | zero => intro o s h h0; simp at h; omega
  | succ f ih =>
    intro o s h h0
    rw [Nat.pow_succ] at h
    have h2 := and_odd' s (s - 1)
    unfold bl low
    rw [and_div2']
    by_cases ho : s % 2 = 1
    · have : ¬ (s &&& (s - 1)) % 2 = 1 := fun h => by have := (h2.1 h).2; omega
      rw [if_pos ho, if_pos ho, if_neg this, show (s - 1) / 2 = s / 2 by omega, Nat.and_self]
      rfl
    · have : ¬ (s &&& (s - 1)) % 2 = 1 := fun h => ho (h2.1 h).1
      rw [if_neg ho, if_neg ho, if_neg this, show (s - 1) / 2 = s / 2 - 1 by omega, ih (o + 1) (s / 2) (by omega) (by omega), Nat.add_assoc]
theorem bl_len : ∀ f o s, (bl f o s).length ≤ f := by
  intro f
  induction f with
  | zero => intro o s; simp [bl]
  | succ f ih =>
    intro o s
    have := ih (o + 1) (s / 2)
    unfold bl
    split <;> simp <;> omega
theorem bl_filter : ∀ f o s, bl f o s = (List.range' o f).filter (fun i => s.testBit (i - o)) := by
  intro f
  induction f with
  | zero => intro o s; rfl
  | succ f ih =>
    intro o s
    have e : (List.range' (o + 1) f).filter (fun i => s.testBit (i - o)) = bl f (o + 1) (s / 2) := by
      rw [ih (o + 1) (s / 2)]
      apply List.filter_congr
      intro i hi
      rw [List.mem_range'_1] at hi
      rw [Nat.testBit_div_two, show i - (o + 1) + 1 = i - o by omega]
    unfold bl
    rw [List.range'_succ, List.filter_cons, e, Nat.sub_self, Nat.testBit_zero]
    by_cases ho : s % 2 = 1
    · rw [if_pos ho, if_pos (by simpa using ho)]
    · rw [if_neg ho, if_neg (by simpa using ho)]
theorem deB_all : ((List.range 64).all fun t => decide (deBr.getD (IntKind.u64.wrap (((2 ^ t : Nat) : Int) * 285870213051353865) / 288230376151711744).toNat 0 = (t : Int))) = true := by decide +kernel
theorem neg_and (s : Nat) (h : s < 2 ^ 62) (h0 : s ≠ 0) : Go.bits BinOp.and IntKind.u64 (s : Int) (IntKind.u64.wrap (-(s : Int))) = ((andN s (s - 1) : Nat) : Int) := by
  have hw : IntKind.u64.wrap (-(s : Int)) = ((2 ^ 64 - s : Nat) : Int) := by
    simp only [IntKind.wrap, IntKind.bits, IntKind.signed]
    simp
    omega
  have e : s &&& (2 ^ 64 - s) = andN s (s - 1) := by
    apply Nat.eq_of_testBit_eq
    intro i
    rw [Nat.testBit_and, testBit_andN, show 2 ^ 64 - s = 2 ^ 64 - ((s - 1) + 1) by omega, Nat.testBit_two_pow_sub_succ (by omega)]
    by_cases hi : i < 64
    · simp [hi]
    · have : s.testBit i = false := Nat.testBit_lt_two_pow (Nat.lt_of_lt_of_le h (Nat.pow_le_pow_right (by decide) (by omega)))
      simp [this]
  rw [hw]
  have hb : IntKind.u64.bits = 64 := rfl
  have h1 : s % 2 ^ IntKind.u64.bits = s := Nat.mod_eq_of_lt (by rw [hb]; omega)
  have h2 : (2 ^ 64 - s) % 2 ^ IntKind.u64.bits = 2 ^ 64 - s := Nat.mod_eq_of_lt (by rw [hb]; omega)
  simp only [Go.bits, BitVec.ofInt_natCast, BitVec.toNat_and, BitVec.toNat_ofNat, h1, h2, e]
  exact wu64 _ (Int.natCast_nonneg _) (castlt (Nat.lt_of_le_of_lt (andN_le s (s - 1)) (by omega)))
theorem tz_is (s : Nat) (h : s < 2 ^ 62) (h0 : s ≠ 0) : bits_TrailingZeros64.f (s : Int) = some ((low 62 s : Nat) : Int) := by
  unfold bits_TrailingZeros64.f tzIx
  rw [if_neg (by omega), neg_and s h h0, low_is 62 s h h0]
  have hl := low_lt 62 s h h0
  have H := deB_all
  simp only [List.all_eq_true, List.mem_range, decide_eq_true_eq] at H
  rw [H _ (by omega)]
def asInts (l : List Nat) : List Int := l.map (fun (n : Nat) => (n : Int))
theorem listed_ev (s : Nat) (h : s < 2 ^ 62) : Ev (fun k => impl_set_listed.f k (s : Int)) (asInts (bl 62 0 s)) := by
  have key : ∀ n (s : Nat) (acc : List Int), (bl 62 0 s).length = n → s < 2 ^ 62 → acc.length + n ≤ 62 → Ev (fun k => impl_set_listed.l0 k (s : Int) acc) (acc ++ asInts (bl 62 0 s)) := by
    intro n
    induction n with
    | zero =>
      intro s acc hn hs ha
      by_cases h0 : s = 0
      · subst h0
        rw [bl_zero]
        exact Ev.step (fun k => by simp only [impl_set_listed.l0]; rw [if_neg (by omega)]) (Ev.const (by simp [asInts]))
      · rw [bl_low 62 0 s hs h0] at hn
        simp at hn
    | succ n ih =>
      intro s acc hn hs ha
      have h0 : s ≠ 0 := fun h0 => by rw [h0, bl_zero] at hn; simp at hn
      have hb := bl_low 62 0 s hs h0
      rw [hb] at hn ⊢
      have hle := Nat.and_le_left (n := s) (m := s - 1)
      have h1 := ih (s &&& (s - 1)) (acc ++ [((low 62 s : Nat) : Int)]) (by simpa using hn) (by omega) (by simp; omega)
      refine Ev.step (f := fun k => impl_set_listed.l0 k ((s &&& (s - 1) : Nat) : Int) (acc ++ [((low 62 s : Nat) : Int)])) (fun k => ?_) (by rw [List.append_assoc] at h1; simpa [asInts] using h1)
      simp only [impl_set_listed.l0]
      rw [if_pos (by omega), tz_is s hs h0, Option.bind_some, if_pos (by omega), show (s : Int) - 1 = ((s - 1 : Nat) : Int) by omega, wu64 _ (by omega) (by omega), andu _ _ (by omega) (by omega)]
  have := key _ s [] rfl h (by simpa using bl_len 62 0 s)
  rw [List.nil_append] at this
  exact this
/-- A figure's lists, out of its set: the level edges, and the upright ones. -/
def listA (L m : Nat) : List Int := asInts ((List.range L).filter (fun i => m.testBit i))
def listB (L U m : Nat) : List Int := asInts ((List.range U).filter (fun i => m.testBit (L + i)))
theorem filter_range (n N : Nat) (h : n ≤ N) (p : Nat → Bool) : (List.range N).filter (fun i => p i && decide (i < n)) = (List.range n).filter p := by
  obtain ⟨d, rfl⟩ : ∃ d, N = n + d := ⟨N - n, by omega⟩
  rw [List.range_add, List.filter_append]
  have e1 : (List.range n).filter (fun i => p i && decide (i < n)) = (List.range n).filter p := List.filter_congr (fun i hi => by rw [decide_eq_true (List.mem_range.1 hi), Bool.and_true])
  have e2 : ((List.range d).map (n + ·)).filter (fun i => p i && decide (i < n)) = [] := by
    rw [List.filter_eq_nil_iff]
    intro i hi
    obtain ⟨j, _, rfl⟩ := List.mem_map.1 hi
    simp
  rw [e1, e2, List.append_nil]
theorem listed_A (L m : Nat) (hL : L ≤ 62) : asInts (bl 62 0 (m &&& (2 ^ L - 1))) = listA L m := by
  unfold listA
  rw [bl_filter, ← List.range_eq_range', ← filter_range L 62 hL (fun i => m.testBit i)]
  congr 1
  apply List.filter_congr
  intro i _
  rw [Nat.sub_zero, Nat.testBit_and, Nat.testBit_two_pow_sub_one]
theorem listed_B (L U m : Nat) (hU : U ≤ 62) (hm : m < 2 ^ (L + U)) : asInts (bl 62 0 (m >>> L)) = listB L U m := by
  unfold listB
  rw [bl_filter, ← List.range_eq_range', ← filter_range U 62 hU (fun i => m.testBit (L + i))]
  congr 1
  apply List.filter_congr
  intro i _
  rw [Nat.sub_zero, Nat.testBit_shiftRight]
  by_cases hi : i < U
  · simp [hi]
  · have : m.testBit (L + i) = false := Nat.testBit_lt_two_pow (Nat.lt_of_lt_of_le hm (Nat.pow_le_pow_right (by decide) (by omega)))
    simp [this]
theorem shr_is (m L : Nat) (hm : m < 2 ^ 63) (hL : L < 64) : Go.Proofs.YtmlkihaoeopobaaDoorW.PrintWords.shr .u64 (m : Int) (L : Int) = ((m >>> L : Nat) : Int) := by
  unfold Go.Proofs.YtmlkihaoeopobaaDoorW.PrintWords.shr
  rw [Int.toNat_natCast, Nat.shiftRight_eq_div_pow]
  rw [Nat.min_eq_left (by show L ≤ 64; omega)]
  simp

/-! ### a figure out of its set -/
theorem figure_ev (W H m : Nat) (hW : 1 ≤ W ∧ W ≤ 4) (hH : 1 ≤ H ∧ H ≤ 4) (hm : m < 2 ^ (W * (H + 1) + (W + 1) * H)) : Ev (fun k => impl_grid_figure.f k W H (m : Int)) ((W : Int), (H : Int), listA (W * (H + 1)) m, listB (W * (H + 1)) ((W + 1) * H) m) := by
  have B := grid_bounds (w := W) (h := H) (by omega) (by omega)
  have hl := levels_is (w := W) (h := H) (by omega) (by omega)
  have eL : (W : Int) * ((H : Int) + 1) = ((W * (H + 1) : Nat) : Int) := by simp
  have eU : ((W : Int) + 1) * (H : Int) = (((W + 1) * H : Nat) : Int) := by simp
  rw [eL] at hl
  rw [eL, eU] at B
  have hp : 2 ^ (W * (H + 1) + (W + 1) * H) ≤ 2 ^ 40 := Nat.pow_le_pow_right (by decide) (by omega)
  have hpL : 2 ^ (W * (H + 1)) ≤ 2 ^ 20 := Nat.pow_le_pow_right (by decide) (by omega)
  have hpp : 0 < 2 ^ (W * (H + 1)) := Nat.two_pow_pos _
  unfold impl_grid_figure.f
  obtain ⟨L, hLd⟩ : ∃ L, W * (H + 1) = L := ⟨_, rfl⟩
  obtain ⟨U, hUd⟩ : ∃ U, (W + 1) * H = U := ⟨_, rfl⟩
  rw [hLd] at hl hp hpL hpp hm B ⊢
  rw [hUd] at hp hm B ⊢
  have hs : Go.Proofs.YtmlkihaoeopobaaDoorW.PrintWords.shl .u64 1 (L : Int) = ((2 ^ L : Nat) : Int) := by rw [shlu _ (by omega) (by omega), Int.toNat_natCast]
  refine Ev.bind (Ev.const hl) (Ev.congr (fun k => if_pos (by omega)) ?_)
  rw [hs, show ((2 ^ L : Nat) : Int) - 1 = ((2 ^ L - 1 : Nat) : Int) by omega, wu64 _ (by omega) (by omega), andu _ _ (by omega) (by omega)]
  have hle := Nat.and_le_left (n := m) (m := 2 ^ L - 1)
  have ea := listed_ev (m &&& (2 ^ L - 1)) (by omega)
  rw [listed_A L m (by omega)] at ea
  refine Ev.bind ea (Ev.bind (Ev.const hl) (Ev.congr (fun k => if_pos (by omega)) ?_))
  rw [shr_is m L (by omega) (by omega)]
  have hsr : m >>> L ≤ m := by rw [Nat.shiftRight_eq_div_pow]; exact Nat.div_le_self _ _
  have eb := listed_ev (m >>> L) (by omega)
  rw [listed_B L U m (by omega) hm] at eb
  exact Ev.bind eb (Ev.now _)

/-! ### how long a figure's lists are -/
theorem asInts_len (l : List Nat) : (asInts l).length = l.length := by simp [asInts]
theorem listA_len (L m : Nat) : (listA L m).length ≤ L := by
  unfold listA
  rw [asInts_len]
  exact Nat.le_trans (List.length_filter_le _ _) (by simp)
theorem listB_len (L U m : Nat) : (listB L U m).length ≤ U := by
  unfold listB
  rw [asInts_len]
  exact Nat.le_trans (List.length_filter_le _ _) (by simp)

/-! ### the reference's full figure, and what is missing -/
theorem upTo_ev (n : Nat) (h : n ≤ 1000) : Ev (fun k => spec_fiUpTo.f k (n : Int)) (asInts (List.range n)) := by
  have key : ∀ d i, n - i = d → i ≤ n → Ev (fun k => spec_fiUpTo.l0 k (n : Int) (asInts (List.range i)) (i : Int)) (asInts (List.range n)) := by
    intro d
    induction d with
    | zero =>
      intro i hd hi
      obtain rfl : i = n := by omega
      exact Ev.step (fun k => by simp only [spec_fiUpTo.l0]; rw [if_neg (by omega)]) (Ev.now _)
    | succ d ih =>
      intro i hd hi
      refine Ev.step (fun k => ?_) (ih (i + 1) (by omega) (by omega))
      simp only [spec_fiUpTo.l0]
      rw [if_pos (by omega), if_pos (by simp [asInts]; omega), w64 (by omega) (by omega), List.range_succ]
      simp [asInts]
  exact key n 0 (by omega) (by omega)
theorem fiFull_ev (W H : Nat) (hW : 1 ≤ W ∧ W ≤ 4) (hH : 1 ≤ H ∧ H ≤ 4) : Ev (fun k => spec_fiFull.f k W H) ((W : Int), (H : Int), asInts (List.range (W * (H + 1))), asInts (List.range ((W + 1) * H))) := by
  have B := grid_bounds (w := W) (h := H) (by omega) (by omega)
  have eL : (W : Int) * ((H : Int) + 1) = ((W * (H + 1) : Nat) : Int) := by simp
  have eU : ((W : Int) + 1) * (H : Int) = (((W + 1) * H : Nat) : Int) := by simp
  unfold spec_fiFull.f
  have e1 : wrap64 ((W : Int) * wrap64 ((H : Int) + 1)) = ((W * (H + 1) : Nat) : Int) := by
    rw [w64 (n := (H : Int) + 1) (by omega) (by omega), w64 (n := (W : Int) * ((H : Int) + 1)) (by omega) (by omega), eL]
  have e2 : wrap64 (wrap64 ((W : Int) + 1) * (H : Int)) = (((W + 1) * H : Nat) : Int) := by
    rw [w64 (n := (W : Int) + 1) (by omega) (by omega), w64 (n := ((W : Int) + 1) * (H : Int)) (by omega) (by omega), eU]
  rw [e1, e2]
  exact Ev.bind (upTo_ev _ (by omega)) (Ev.bind (upTo_ev _ (by omega)) (Ev.now _))
theorem asInts_filter (p : Int → Bool) (l : List Nat) : (asInts l).filter p = asInts (l.filter (fun i => p (i : Int))) := by
  unfold asInts
  rw [List.filter_map]
  rfl
theorem fiMissing_ev {W H : Nat} {a b : List Int} (g : figGood W H a b = true) (ha : a.length ≤ 9223372036854775807) (hb : b.length ≤ 9223372036854775807) : Ev (fun k => spec_fiMissing.f k W H a b) ((W : Int), (H : Int), asInts ((List.range (W * (H + 1))).filter (fun i => !(figM W H a b).testBit i)), asInts ((List.range ((W + 1) * H)).filter (fun i => !(figM W H a b).testBit (W * (H + 1) + i)))) := by
  obtain ⟨hw, hh, _⟩ := good_parts g
  have B := grid_bounds hw hh
  have eL : (W : Int) * ((H : Int) + 1) = ((W * (H + 1) : Nat) : Int) := by simp
  have eU : ((W : Int) + 1) * (H : Int) = (((W + 1) * H : Nat) : Int) := by simp
  rw [eL, eU] at B
  unfold spec_fiMissing.f spec_fiLess.f
  refine Ev.bind (fiFull_ev W H (by omega) (by omega)) ?_
  have e1 := fiThose_ev (asInts (List.range (W * (H + 1)))) a (by rw [asInts_len, List.length_range]; omega) ha false
  have e2 := fiThose_ev (asInts (List.range ((W + 1) * H))) b (by rw [asInts_len, List.length_range]; omega) hb false
  rw [asInts_filter] at e1 e2
  have q1 : (List.range (W * (H + 1))).filter (fun (i : Nat) => (a.any (fun z => decide (z = (i : Int)))) == false) = (List.range (W * (H + 1))).filter (fun i => !(figM W H a b).testBit i) := by
    apply List.filter_congr
    intro i hi
    have hi := List.mem_range.1 hi
    have := bit_level g (x := (i : Int)) (by omega) (by rw [eL]; omega)
    rw [Int.toNat_natCast] at this
    rw [this]
    cases (a.any (fun z => decide (z = (i : Int)))) <;> rfl
  have q2 : (List.range ((W + 1) * H)).filter (fun (i : Nat) => (b.any (fun z => decide (z = (i : Int)))) == false) = (List.range ((W + 1) * H)).filter (fun i => !(figM W H a b).testBit (W * (H + 1) + i)) := by
    apply List.filter_congr
    intro i hi
    have := bit_upright g (x := (i : Int)) (by omega)
    rw [eL, ← Int.natCast_add, Int.toNat_natCast] at this
    rw [this]
    cases (b.any (fun z => decide (z = (i : Int)))) <;> rfl
  rw [q1] at e1
  rw [q2] at e2
  exact Ev.bind (Ev.bind e1 (Ev.bind e2 (Ev.now _))) (Ev.now _)

/-! ### two figures of one grid -/
def twoGood (w h : Int) (a b : List Int) (w2 h2 : Int) (c d : List Int) : Bool := figGood w h a b && (figGood w2 h2 c d && (decide (w = w2) && decide (h = h2)))
theorem fiTwo_ev (w h : Int) (a b : List Int) (w2 h2 : Int) (c d : List Int) (ha : a.length ≤ 9223372036854775807) (hb : b.length ≤ 9223372036854775807) (hc : c.length ≤ 9223372036854775807) (hd : d.length ≤ 9223372036854775807) : Ev (fun k => spec_fiTwo.f k w h a b w2 h2 c d) (twoGood w h a b w2 h2 c d) := by
  unfold spec_fiTwo.f twoGood
  refine Ev.bind (fiGood_ev w h a b ha hb) ?_
  cases figGood w h a b with
  | false => exact Ev.const (by simp)
  | true =>
    simp only [if_true, Bool.true_and]
    refine Ev.bind (fiGood_ev w2 h2 c d hc hd) ?_
    cases figGood w2 h2 c d with
    | false => exact Ev.const (by simp)
    | true =>
      simp only [if_true, Bool.true_and]
      refine Ev.const ?_
      by_cases h1 : w = w2
      · rw [if_pos h1, decide_eq_true h1, Bool.true_and]
        rfl
      · rw [if_neg h1, decide_eq_false h1, Bool.false_and]
theorem areAlike_ev (w h : Int) (a b : List Int) (w2 h2 : Int) (c d : List Int) (ha : a.length ≤ 9223372036854775807) (hb : b.length ≤ 9223372036854775807) (hc : c.length ≤ 9223372036854775807) (hd : d.length ≤ 9223372036854775807) : Ev (fun k => impl_areAlike.f k w h a b w2 h2 c d) (twoGood w h a b w2 h2 c d) := by
  unfold impl_areAlike.f twoGood
  refine Ev.bind (IsFigure_ev w h a b ha hb) ?_
  cases figGood w h a b with
  | false => exact Ev.const (by simp)
  | true =>
    simp only [if_true, Bool.true_and]
    refine Ev.bind (IsFigure_ev w2 h2 c d hc hd) ?_
    cases figGood w2 h2 c d with
    | false => exact Ev.const (by simp)
    | true =>
      simp only [if_true, Bool.true_and, impl_Figure_grid.f, Option.bind_some]
      exact Ev.const rfl
theorem two_parts {w h : Int} {a b : List Int} {w2 h2 : Int} {c d : List Int} (g : twoGood w h a b w2 h2 c d = true) : figGood w h a b = true ∧ figGood w h c d = true ∧ w = w2 ∧ h = h2 := by
  unfold twoGood at g
  simp only [Bool.and_eq_true, decide_eq_true_eq] at g
  obtain ⟨g1, g2, rfl, rfl⟩ := g
  exact ⟨g1, g2, rfl, rfl⟩

/-! ### what the laws do about their arguments -/
theorem szIntS_is (l : List Int) (left : Int) (hl : l.length ≤ 9223372036854775807) (h0 : 0 ≤ left) (h1 : left ≤ 1000000) : laws_szIntS.f l left = some (if (l.length : Int) ≤ left then left - (l.length : Int) else -1) := by
  unfold laws_szIntS.f
  rw [w64 (by omega) (by omega)]
  by_cases h : (l.length : Int) ≤ left
  · rw [if_neg (by omega), if_pos h]
  · rw [if_pos (by omega), if_neg h]
theorem szFigure_is (w h : Int) (a b : List Int) (ha : a.length ≤ 9223372036854775807) (hb : b.length ≤ 9223372036854775807) (left : Int) (h0 : 0 ≤ left) (h1 : left ≤ 1000000) : laws_szFigure.f w h a b left = some (if (a.length : Int) + (b.length : Int) ≤ left then left - (a.length : Int) - (b.length : Int) else -1) := by
  unfold laws_szFigure.f
  rw [szIntS_is a left ha h0 h1, Option.bind_some]
  by_cases h : (a.length : Int) ≤ left
  · rw [if_pos h, if_neg (by omega), szIntS_is b _ hb (by omega) (by omega), Option.bind_some]
    by_cases h2 : (a.length : Int) + (b.length : Int) ≤ left
    · have h3 : (b.length : Int) ≤ left - (a.length : Int) := by omega
      rw [if_pos h3, if_neg (by omega), if_pos h2]
    · have h3 : ¬ (b.length : Int) ≤ left - (a.length : Int) := by omega
      rw [if_neg h3, if_pos (by omega), if_neg h2]
  · rw [if_neg h, if_pos (by omega), if_neg (by omega)]
theorem toFigure_is (w h : Int) (a b : List Int) (x : Bool) (hab : (a.length : Int) + (b.length : Int) ≤ 1000000) : laws_toFigure.f w h a b x = some (w, h, a, b) := by
  unfold laws_toFigure.f laws_toIntS.f
  rw [if_pos (by omega), if_pos (by omega)]
  rfl
theorem intactFigure_is (w h : Int) (a b : List Int) (hab : (a.length : Int) + (b.length : Int) ≤ 1000000) : laws_intactFigure.f w h a b w h a b = some true := by
  unfold laws_intactFigure.f laws_intactIntS.f
  rw [if_pos rfl, if_pos rfl, if_pos (by omega), if_pos (by omega)]
  simp

/-! ### what the laws write into a list, and read back -/
theorem eqIntS_ev (l : List Int) (hl : l.length ≤ 1000000) : Ev (fun k => laws_eqIntS.f k l l) true := by
  unfold laws_eqIntS.f
  simp only [if_true]
  exact (all_evB (fun k i => laws_eqIntS.l0 k l l i) (fun _ => true) 0 l.length
    (fun i r _ hi _ hr => Ev.step (fun k => by simp only [laws_eqIntS.l0]; rw [if_pos (by omega), if_pos (by omega), if_pos (by omega), if_pos trivial, w64 (by omega) (by omega)]; rfl) hr)
    (fun i _ hi hp => by simp at hp)
    (fun i hi _ => Ev.step (fun k => by simp only [laws_eqIntS.l0]; rw [if_neg (by omega)]) (Ev.now true))) |> fun h => by
      have e : ((List.range' 0 (l.length - 0)).all fun _ => true) = true := by simp
      rw [e] at h
      exact h
/-- The first i cells written. -/
def inked (l : List Int) (a : Int) (i : Nat) : List Int := (List.range l.length).map (fun j => if j < i then a + (j : Int) else rd l (j : Int))
theorem inked_len (l a i) : (inked l a i).length = l.length := by simp [inked]
theorem inked_get (l : List Int) (a : Int) (i j : Nat) (h : j < (inked l a i).length) : (inked l a i)[j] = if j < i then a + (j : Int) else rd l (j : Int) := by simp [inked]
theorem inked_set (l : List Int) (a : Int) (i : Nat) : (inked l a i).set i (a + (i : Int)) = inked l a (i + 1) := by
  apply List.ext_getElem
  · rw [List.length_set, inked_len, inked_len]
  · intro j h1 h2
    rw [List.getElem_set, inked_get, inked_get]
    by_cases hj : i = j
    · subst hj
      rw [if_pos rfl, if_pos (by omega)]
    · rw [if_neg hj]
      by_cases hji : j < i
      · rw [if_pos hji, if_pos (by omega)]
      · rw [if_neg hji, if_neg (by omega)]
theorem inked_zero (l : List Int) (a : Int) : inked l a 0 = l := by
  apply List.ext_getElem
  · rw [inked_len]
  · intro j h1 h2
    rw [inked_get, if_neg (by omega), rd_nat l j h2]
theorem markIntS_ev (l : List Int) (a : Int) (hl : l.length ≤ 1000000) (h0 : 0 ≤ a) (h1 : a ≤ 10000000) : Ev (fun k => laws_markIntS.f k l a) (a + (l.length : Int), inked l a l.length) := by
  have key : ∀ d i, l.length - i = d → i ≤ l.length → Ev (fun k => laws_markIntS.l0 k (inked l a i) (a + (i : Int)) (i : Int)) (a + (l.length : Int), inked l a l.length) := by
    intro d
    induction d with
    | zero =>
      intro i h hi
      obtain rfl : i = l.length := by omega
      exact Ev.step (fun k => by simp only [laws_markIntS.l0]; rw [inked_len, if_neg (by omega)]) (Ev.now _)
    | succ d ih =>
      intro i h hi
      refine Ev.step (fun k => ?_) (ih (i + 1) (by omega) (by omega))
      simp only [laws_markIntS.l0]
      rw [inked_len, if_pos (by omega), if_pos (by omega), Int.toNat_natCast, inked_set, w64 (by omega) (by omega), w64 (by omega) (by omega), Int.add_assoc]
      rfl
  have := key l.length 0 (by omega) (by omega)
  rw [inked_zero] at this
  unfold laws_markIntS.f
  simpa using this
theorem heldIntS_ev (l : List Int) (a : Int) (hl : l.length ≤ 1000000) (h0 : 0 ≤ a) (h1 : a ≤ 10000000) : Ev (fun k => laws_heldIntS.f k (inked l a l.length) a) (a + (l.length : Int)) := by
  have key : ∀ d i, l.length - i = d → i ≤ l.length → Ev (fun k => laws_heldIntS.l0 k (inked l a l.length) (a + (i : Int)) (i : Int)) (a + (l.length : Int)) := by
    intro d
    induction d with
    | zero =>
      intro i h hi
      obtain rfl : i = l.length := by omega
      exact Ev.step (fun k => by simp only [laws_heldIntS.l0]; rw [inked_len, if_neg (by omega)]) (Ev.now _)
    | succ d ih =>
      intro i h hi
      refine Ev.step (fun k => ?_) (ih (i + 1) (by omega) (by omega))
      have hr : rd (inked l a l.length) (i : Int) = a + (i : Int) := by
        rw [rd_nat _ i (by rw [inked_len]; omega), inked_get, if_pos (by omega)]
      simp only [laws_heldIntS.l0]
      rw [inked_len, if_pos (by omega), if_pos (by omega), if_pos hr, w64 (by omega) (by omega), w64 (by omega) (by omega), Int.add_assoc]
      rfl
  have := key l.length 0 (by omega) (by omega)
  unfold laws_heldIntS.f
  simpa using this

/-! ### figures that come out -/
theorem eqFigure_ev (w h : Int) (a b : List Int) (ha : a.length ≤ 1000000) (hb : b.length ≤ 1000000) : Ev (fun k => laws_eqFigure.f k w h a b w h a b) true := by
  unfold laws_eqFigure.f
  simp only [if_true]
  exact Ev.bind (eqIntS_ev a ha) (Ev.congr (fun k => if_pos rfl) (Ev.bind (eqIntS_ev b hb) (Ev.const rfl)))
theorem markFigure_is (w h : Int) (a b : List Int) (ha : a.length ≤ 1000000) (hb : b.length ≤ 1000000) : Ev (fun k => laws_markFigure.f k w h a b 101) ((101 + (a.length : Int) + (b.length : Int)), inked a 101 a.length, inked b (101 + (a.length : Int)) b.length) := by
  unfold laws_markFigure.f
  exact Ev.bind (markIntS_ev a 101 ha (by omega) (by omega)) (Ev.bind (markIntS_ev b (101 + (a.length : Int)) hb (by omega) (by omega)) (Ev.now _))
theorem heldFigure_ev (w h : Int) (a b : List Int) (ha : a.length ≤ 1000000) (hb : b.length ≤ 1000000) : Ev (fun k => laws_heldFigure.f k w h (inked a 101 a.length) (inked b (101 + (a.length : Int)) b.length) 101) (101 + (a.length : Int) + (b.length : Int)) := by
  unfold laws_heldFigure.f
  refine Ev.bind (heldIntS_ev a 101 ha (by omega) (by omega)) (Ev.congr (fun k => if_neg (by omega)) (Ev.bind (heldIntS_ev b (101 + (a.length : Int)) hb (by omega) (by omega)) (Ev.const ?_)))
  rw [if_neg (by omega)]

/-! ### two figures of one grid make a third -/
theorem asInts_filter2 (p : Int → Bool) (l : List Nat) : (asInts l).filter p = asInts (l.filter (fun i => p (i : Int))) := by
  unfold asInts
  rw [List.filter_map]
  rfl
theorem any_mem (l : List Int) (x : Int) : l.any (fun z => decide (z = x)) = decide (x ∈ l) := by
  rw [Bool.eq_iff_iff]
  simp
theorem filtA {W H : Nat} {a b c d : List Int} (g : figGood W H a b = true) (g' : figGood W H c d = true) (q : Bool) (m : Nat) (hm : ∀ i, m.testBit i = ((figM W H a b).testBit i && ((figM W H c d).testBit i == q))) : a.filter (fun x => (c.any (fun z => decide (z = x))) == q) = listA (W * (H + 1)) m := by
  obtain ⟨hw, hh, ga, ia, _, _⟩ := good_parts g
  have eL : (W : Int) * ((H : Int) + 1) = ((W * (H + 1) : Nat) : Int) := by simp
  have e := incr_filter (W * (H + 1)) 0 a ia (fun x hx => by have := ga x hx; rw [eL] at this; omega)
  unfold listA
  have e2 : a = asInts ((List.range (W * (H + 1))).filter (fun i => decide ((i : Int) ∈ a))) := by
    rw [List.range_eq_range']
    exact e
  conv => lhs; rw [e2]
  rw [asInts_filter2, List.filter_filter]
  congr 1
  apply List.filter_congr
  intro i hi
  have hi := List.mem_range.1 hi
  have b1 := bit_level g (x := (i : Int)) (by omega) (by rw [eL]; omega)
  have b2 := bit_level g' (x := (i : Int)) (by omega) (by rw [eL]; omega)
  rw [Int.toNat_natCast] at b1 b2
  rw [hm, b1, b2, any_mem a, Bool.and_comm]
theorem filtB {W H : Nat} {a b c d : List Int} (g : figGood W H a b = true) (g' : figGood W H c d = true) (q : Bool) (m : Nat) (hm : ∀ i, m.testBit i = ((figM W H a b).testBit i && ((figM W H c d).testBit i == q))) : b.filter (fun x => (d.any (fun z => decide (z = x))) == q) = listB (W * (H + 1)) ((W + 1) * H) m := by
  obtain ⟨hw, hh, _, _, gb, ib⟩ := good_parts g
  have eL : (W : Int) * ((H : Int) + 1) = ((W * (H + 1) : Nat) : Int) := by simp
  have eU : ((W : Int) + 1) * (H : Int) = (((W + 1) * H : Nat) : Int) := by simp
  have e := incr_filter ((W + 1) * H) 0 b ib (fun x hx => by have := gb x hx; rw [eU] at this; omega)
  unfold listB
  have e2 : b = asInts ((List.range ((W + 1) * H)).filter (fun i => decide ((i : Int) ∈ b))) := by
    rw [List.range_eq_range']
    exact e
  conv => lhs; rw [e2]
  rw [asInts_filter2, List.filter_filter]
  congr 1
  apply List.filter_congr
  intro i hi
  have hi := List.mem_range.1 hi
  have b1 := bit_upright g (x := (i : Int)) (by omega)
  have b2 := bit_upright g' (x := (i : Int)) (by omega)
  rw [eL, show (((W * (H + 1) : Nat) : Int) + (i : Int)).toNat = W * (H + 1) + i by omega] at b1 b2
  rw [hm, b1, b2, any_mem b, Bool.and_comm]
theorem figM_lt3 {W H : Nat} {a b : List Int} (g : figGood W H a b = true) : figM W H a b < 2 ^ (W * (H + 1) + (W + 1) * H) := by
  obtain ⟨hw, hh, ga, _, gb, _⟩ := good_parts g
  have eL : (W : Int) * ((H : Int) + 1) = ((W * (H + 1) : Nat) : Int) := by simp
  have eU : ((W : Int) + 1) * (H : Int) = (((W + 1) * H : Nat) : Int) := by simp
  rw [eL] at ga
  rw [eU] at gb
  refine maskL_lt _ _ (fun x hx => ?_)
  unfold edges at hx
  rcases List.mem_append.1 hx with h | h
  · have := ga x h
    omega
  · obtain ⟨z, hz, rfl⟩ := List.mem_map.1 h
    have := gb z hz
    rw [eL]
    omega
theorem markFigure_at (s : Int) (h0 : 0 ≤ s) (h1 : s ≤ 9000000) (w h : Int) (a b : List Int) (ha : a.length ≤ 1000000) (hb : b.length ≤ 1000000) : Ev (fun k => laws_markFigure.f k w h a b s) (s + (a.length : Int) + (b.length : Int), inked a s a.length, inked b (s + (a.length : Int)) b.length) := by
  unfold laws_markFigure.f
  exact Ev.bind (markIntS_ev a s ha (by omega) (by omega)) (Ev.bind (markIntS_ev b (s + (a.length : Int)) hb (by omega) (by omega)) (Ev.now _))
theorem law_end (w h : Int) (a b : List Int) (w2 h2 : Int) (c d : List Int) (ha : a.length ≤ 9223372036854775807) (hb : b.length ≤ 9223372036854775807) (hc : c.length ≤ 9223372036854775807) (hd : d.length ≤ 9223372036854775807) (hv : (a.length : Int) + (b.length : Int) ≤ 1000000 → (c.length : Int) + (d.length : Int) ≤ 1000000 → ∃ W H A B t, A.length ≤ 1000000 ∧ B.length ≤ 1000000 ∧ Ev (fun k => spec_CommonFigure.f k w h a b w2 h2 c d) (W, H, A, B, t) ∧ Ev (fun k => impl_CommonFigure.f k w h a b w2 h2 c d) (W, H, A, B, t)) : ∃ k, laws_FnExactCommonFigure.f k w h a b w2 h2 c d = some true := by
  suffices all : Ev (fun k => laws_FnExactCommonFigure.f k w h a b w2 h2 c d) true by
    obtain ⟨K, hK⟩ := all
    exact ⟨K, hK K (Nat.le_refl _)⟩
  unfold laws_FnExactCommonFigure.f
  by_cases hab : (a.length : Int) + (b.length : Int) ≤ 1000000
  · refine Ev.bind (Ev.const (szFigure_is w h a b ha hb _ (by omega) (by omega))) ?_
    rw [if_pos hab]
    refine Ev.congr (fun k => if_neg (by omega)) ?_
    refine Ev.bind (Ev.const (szFigure_is w2 h2 c d hc hd _ (by omega) (by omega))) ?_
    by_cases hcd : (c.length : Int) + (d.length : Int) ≤ 1000000 - (a.length : Int) - (b.length : Int)
    · rw [if_pos hcd]
      refine Ev.congr (fun k => if_neg (by omega)) ?_
      have hcd2 : (c.length : Int) + (d.length : Int) ≤ 1000000 := by omega
      obtain ⟨W, H, A, B, t, hA, hB, hs, hi⟩ := hv hab hcd2
      unfold laws_FnExactCommonFigure.rest
      refine Ev.bind hs (Ev.bind (markFigure_at 101 (by omega) (by omega) w h a b (by omega) (by omega)) (Ev.bind (markFigure_at _ (by omega) (by omega) w2 h2 c d (by omega) (by omega)) (Ev.bind (markFigure_at 101 (by omega) (by omega) W H A B hA hB) ?_)))
      obtain ⟨K1, e1⟩ := hi
      obtain ⟨K2, e2⟩ := eqFigure_ev W H A B hA hB
      obtain ⟨K3, e3⟩ := heldFigure_ev W H A B hA hB
      refine ⟨K1 + K2 + K3, fun n hn => ?_⟩
      exact (if_pos (e1 n (by omega))).trans ((if_pos (toFigure_is w h a b _ hab)).trans ((if_pos (toFigure_is w h a b _ hab)).trans ((if_pos (toFigure_is w2 h2 c d _ hcd2)).trans ((if_pos (toFigure_is w2 h2 c d _ hcd2)).trans ((if_pos (e2 n (by omega))).trans ((if_pos (intactFigure_is w h a b hab)).trans ((if_pos (intactFigure_is w2 h2 c d hcd2)).trans ((if_pos (e3 n (by omega))).trans ((if_pos (by simp only; omega)).trans (if_pos (by simp only; omega)))))))))))
    · rw [if_neg hcd]
      exact Ev.congr (fun k => if_pos (by omega)) (Ev.now _)
  · refine Ev.bind (Ev.const (szFigure_is w h a b ha hb _ (by omega) (by omega))) ?_
    rw [if_neg hab]
    exact Ev.congr (fun k => if_pos (by omega)) (Ev.now _)

theorem any_range2 (L : Nat) (p : Nat → Bool) (n : Nat) (h : n < L) : (asInts ((List.range L).filter p)).any (fun z => decide (z = (n : Int))) = p n := by
  rw [Bool.eq_iff_iff, List.any_eq_true]
  unfold asInts
  constructor
  · rintro ⟨z, hz, he⟩
    obtain ⟨i, hi, rfl⟩ := List.mem_map.1 hz
    have := (List.mem_filter.1 hi).2
    have e : i = n := by have := of_decide_eq_true he; omega
    rwa [e] at this
  · intro hp
    exact ⟨_, List.mem_map.2 ⟨n, List.mem_filter.2 ⟨List.mem_range.2 h, hp⟩, rfl⟩, by simp⟩
theorem FnExactCommonFigure : laws_FnExactCommonFigure.Pure := by
  intro w h a b w2 h2 c d _ _ ha _ hb _ _ _ hc _ hd _
  have ha := maxLen_le ha
  have hb := maxLen_le hb
  have hc := maxLen_le hc
  have hd := maxLen_le hd
  apply law_end w h a b w2 h2 c d ha hb hc hd
  intro hab hcd
  unfold spec_CommonFigure.f impl_CommonFigure.f
  cases g2 : twoGood w h a b w2 h2 c d with
  | false => exact ⟨0, 0, [], [], false, by simp, by simp, Ev.bind (fiTwo_ev w h a b w2 h2 c d ha hb hc hd) (by rw [g2]; exact Ev.const (by simp)), Ev.bind (areAlike_ev w h a b w2 h2 c d ha hb hc hd) (by rw [g2]; exact Ev.const (by simp))⟩
  | true =>
    obtain ⟨g, g', rfl, rfl⟩ := two_parts g2
    obtain ⟨hw, hh, _⟩ := good_parts g
    obtain ⟨W, rfl⟩ := Int.eq_ofNat_of_zero_le (show 0 ≤ w by omega)
    obtain ⟨H, rfl⟩ := Int.eq_ofNat_of_zero_le (show 0 ≤ h by omega)
    have B := grid_bounds hw hh
    have eL : (W : Int) * ((H : Int) + 1) = ((W * (H + 1) : Nat) : Int) := by simp
    have eU : ((W : Int) + 1) * (H : Int) = (((W + 1) * H : Nat) : Int) := by simp
    rw [eL, eU] at B
    obtain ⟨M, hM⟩ : ∃ M, HAnd.hAnd (figM W H a b) (figM W H c d) = M := ⟨_, rfl⟩
    have l1 := figM_lt3 g
    have l2 := figM_lt3 g'
    have hp : 2 ^ (W * (H + 1) + (W + 1) * H) ≤ 2 ^ 40 := Nat.pow_le_pow_right (by decide) (by omega)
    have hMlt : M < 2 ^ (W * (H + 1) + (W + 1) * H) := by rw [← hM]; exact Nat.and_lt_two_pow _ l2
    have hm : ∀ i, M.testBit i = ((figM W H a b).testBit i && ((figM W H c d).testBit i == true)) := by
      intro i
      rw [← hM, Nat.testBit_and]
      cases (figM W H c d).testBit i <;> rfl
    have fA := filtA g g' true M hm
    have fB := filtB g g' true M hm
    have lA := listA_len (W * (H + 1)) M
    have lB := listB_len (W * (H + 1)) ((W + 1) * H) M
    refine ⟨W, H, listA (W * (H + 1)) M, listB (W * (H + 1)) ((W + 1) * H) M, true, by omega, by omega, Ev.bind (fiTwo_ev _ _ a b _ _ c d ha hb hc hd) ?_, Ev.bind (areAlike_ev _ _ a b _ _ c d ha hb hc hd) ?_⟩
    · rw [g2]
      simp only [if_true]
      have hmi := fiMissing_ev g' hc hd
      obtain ⟨c', hc'⟩ : ∃ c', asInts ((List.range (W * (H + 1))).filter (fun i => !(figM W H c d).testBit i)) = c' := ⟨_, rfl⟩
      obtain ⟨d', hd'⟩ : ∃ d', asInts ((List.range ((W + 1) * H)).filter (fun i => !(figM W H c d).testBit (W * (H + 1) + i))) = d' := ⟨_, rfl⟩
      have lc : c'.length ≤ W * (H + 1) := by rw [← hc', asInts_len]; exact Nat.le_trans (List.length_filter_le _ _) (by simp)
      have ld : d'.length ≤ (W + 1) * H := by rw [← hd', asInts_len]; exact Nat.le_trans (List.length_filter_le _ _) (by simp)
      have e1 := fiThose_ev a c' (by omega) (by omega) false
      have e2 := fiThose_ev b d' (by omega) (by omega) false
      obtain ⟨_, _, ga, _, gb, _⟩ := good_parts g
      have qa : a.filter (fun x => (c'.any (fun z => decide (z = x))) == false) = a.filter (fun x => (c.any (fun z => decide (z = x))) == true) := by
        apply List.filter_congr
        intro x hx
        have hx := ga x hx
        have bl := bit_level g' hx.1 hx.2
        obtain ⟨n, rfl⟩ := Int.eq_ofNat_of_zero_le hx.1
        rw [eL] at hx
        rw [Int.toNat_natCast] at bl
        rw [← hc', any_range2 _ _ n (by omega), ← bl]
        cases (figM W H c d).testBit n <;> rfl
      have qb : b.filter (fun x => (d'.any (fun z => decide (z = x))) == false) = b.filter (fun x => (d.any (fun z => decide (z = x))) == true) := by
        apply List.filter_congr
        intro x hx
        have hx := gb x hx
        have bl := bit_upright g' hx.1
        obtain ⟨n, rfl⟩ := Int.eq_ofNat_of_zero_le hx.1
        rw [eU] at hx
        rw [eL, show (((W * (H + 1) : Nat) : Int) + (n : Int)).toNat = W * (H + 1) + n by omega] at bl
        rw [← hd', any_range2 _ _ n (by omega), ← bl]
        cases (figM W H c d).testBit (W * (H + 1) + n) <;> rfl
      rw [qa] at e1
      rw [qb] at e2
      rw [hc', hd'] at hmi
      rw [fA] at e1
      rw [fB] at e2
      refine Ev.bind hmi ?_
      unfold spec_fiLess.f
      exact Ev.bind (Ev.bind e1 (Ev.bind e2 (Ev.now _))) (Ev.now _)
    · rw [g2]
      have hgr : impl_Figure_grid.f W H a b = some ((W : Int), (H : Int)) := rfl
      refine Ev.congr (fun k => if_pos rfl) (Ev.bind (Ev.const hgr) (Ev.bind (figSet_ev g ha hb) (Ev.bind (figSet_ev g' hc hd) ?_)))
      rw [andu _ _ (by omega) (by omega), hM]
      exact Ev.bind (figure_ev W H M (by omega) (by omega) hMlt) (Ev.now _)

end Go.Proofs.YtmlkihaoeopobaaDoor.Pure
