/- Proved here: the pure statement of FnExactIsFigure: program and reference answer the same whether something is a figure. Conditions: the numbers are 64 bit integers, the lists are no longer than a slice can be. -/
import Derived.Test.YtkllomnelknpaaaQFnExactIsFigurex6
set_option linter.unusedVariables false
set_option linter.unusedSimpArgs false
namespace Go.Proofs.Ytkllomnelknpaaa.Pure
open Go.RowKit Go.Proofs.Ytkllomnelknpaaa.Q Go.Proofs.YtkllomnelknpaaaW.PrintWords Go.Proofs.YtkllomnelknpaaaW.PrintLast

/-! ### base: wrapping, 'from some number of rounds on', loops -/
theorem w64 {n : Int} (h0 : -9223372036854775808 ≤ n) (h1 : n ≤ 9223372036854775807) : wrap64 n = n := by unfold wrap64; omega
theorem wf64 {x : Int} (h : (Lit.int .i64 x).wf = true) : -9223372036854775808 ≤ x ∧ x ≤ 9223372036854775807 := by
  simp [Lit.wf, IntKind.min, IntKind.max, IntKind.signed, IntKind.bits] at h
  omega
theorem maxLen_le {n : Nat} (h : n ≤ maxLen) : n ≤ 9223372036854775807 := by unfold maxLen at h; omega
theorem Ev.both {α β : Type} {g : Nat → Option α} {f : Nat → Option β} {a : α} {b : β} (h : Ev g a) (k : Ev f b) : ∃ K, ∀ n, K ≤ n → g n = some a ∧ f n = some b := by
  obtain ⟨K, h⟩ := h
  obtain ⟨K', k⟩ := k
  exact ⟨max K K', fun n hn => ⟨h n (by omega), k n (by omega)⟩⟩
theorem Ev.const {α : Type} {x : Option α} {r : α} (h : x = some r) : Ev (fun _ => x) r := ⟨0, fun _ _ => h⟩
/-- A loop from lo on that ends early with 'bad', or runs through. -/
theorem all_ev {β : Type} (g : Nat → Int → Option β) (p : Nat → Bool) (good bad : β) (lo n : Nat)
    (hgood : ∀ i r, lo ≤ i → i < n → p i = true → Ev (fun k => g k ((i + 1 : Nat) : Int)) r → Ev (fun k => g k (i : Int)) r)
    (hbad : ∀ i, lo ≤ i → i < n → p i = false → Ev (fun k => g k (i : Int)) bad)
    (fin : ∀ i, n ≤ i → i ≤ n + lo → Ev (fun k => g k (i : Int)) good) : ∀ d a, n - a = d → lo ≤ a → a ≤ n + lo → Ev (fun k => g k (a : Int)) (if (List.range' a (n - a)).all p = true then good else bad) := by
  intro d
  induction d with
  | zero =>
    intro a ha hlo hle
    rw [ha]
    simpa using fin a (by omega) hle
  | succ d ih =>
    intro a ha hlo hle
    rw [ha, List.range'_succ, List.all_cons]
    cases hp : p a with
    | true =>
      have := ih (a + 1) (by omega) (by omega) (by omega)
      rw [show n - (a + 1) = d by omega] at this
      simp only [Bool.true_and]
      exact hgood a _ hlo (by omega) hp this
    | false =>
      simp only [Bool.false_and]
      exact hbad a hlo (by omega) hp
/-- The same where it answers whether all held. -/
theorem all_evB (g : Nat → Int → Option Bool) (p : Nat → Bool) (lo n : Nat)
    (hgood : ∀ i r, lo ≤ i → i < n → p i = true → Ev (fun k => g k ((i + 1 : Nat) : Int)) r → Ev (fun k => g k (i : Int)) r)
    (hbad : ∀ i, lo ≤ i → i < n → p i = false → Ev (fun k => g k (i : Int)) false)
    (fin : ∀ i, n ≤ i → i ≤ n + lo → Ev (fun k => g k (i : Int)) true) : Ev (fun k => g k (lo : Int)) ((List.range' lo (n - lo)).all p) := by
  have h := all_ev g p true false lo n hgood hbad fin (n - lo) lo rfl (Nat.le_refl _) (by omega)
  cases hb : (List.range' lo (n - lo)).all p <;> simpa [hb] using h
/-- A loop that carries a state s; P: what is known of it. -/
theorem fold_ev {σ β : Type} (g : Nat → σ → Int → Option β) (f : σ → Nat → σ) (h : σ → β) (P : Nat → σ → Prop) (n : Nat)
    (step : ∀ s i r, i < n → P i s → (P (i + 1) (f s i) ∧ (Ev (fun k => g k (f s i) ((i + 1 : Nat) : Int)) r → Ev (fun k => g k s (i : Int)) r)))
    (fin : ∀ s, P n s → Ev (fun k => g k s (n : Int)) (h s)) : ∀ d a s, n - a = d → a ≤ n → P a s → Ev (fun k => g k s (a : Int)) (h ((List.range' a (n - a)).foldl f s)) := by
  intro d
  induction d with
  | zero =>
    intro a s ha hle hP
    obtain rfl : a = n := by omega
    simpa using fin s hP
  | succ d ih =>
    intro a s ha hle hP
    rw [ha, List.range'_succ, List.foldl_cons]
    have := step s a (h ((List.range' (a + 1) d).foldl f (f s a))) (by omega) hP
    refine this.2 ?_
    have h2 := ih (a + 1) (f s a) (by omega) (by omega) this.1
    rw [show n - (a + 1) = d by omega] at h2
    exact h2
theorem rd_nat (l : List Int) (i : Nat) (h : i < l.length) : rd l (i : Int) = l[i] := by unfold rd; rw [Int.toNat_natCast]; simp [List.getD_eq_getElem?_getD, h]
theorem all_range (l : List Int) (q : Int → Bool) : (List.range' 0 l.length).all (fun i => q (rd l (i : Int))) = l.all q := by
  rw [Bool.eq_iff_iff, List.all_eq_true, List.all_eq_true]
  constructor
  · intro h x hx
    obtain ⟨i, hi, rfl⟩ := List.getElem_of_mem hx
    have := h i (by simp; omega)
    rwa [rd_nat l i hi] at this
  · intro h i hi
    have hi : i < l.length := by simp at hi; omega
    rw [rd_nat l i hi]
    exact h _ (List.getElem_mem hi)
/-- Strictly increasing. -/
def incr (l : List Int) : Bool := (List.range' 1 (l.length - 1)).all fun i => decide (rd l (i : Int) > rd l ((i : Int) - 1))
theorem incr_iff (l : List Int) : incr l = true ↔ ∀ i, ∀ h : i + 1 < l.length, l[i] < l[i + 1] := by
  unfold incr
  rw [List.all_eq_true]
  constructor
  · intro h i hi
    have := h (i + 1) (by simp; omega)
    rw [rd_nat l (i + 1) hi, show (((i + 1 : Nat) : Int) - 1) = ((i : Nat) : Int) by omega, rd_nat l i (by omega)] at this
    simpa using this
  · intro h i hi
    obtain ⟨j, rfl⟩ : ∃ j, i = j + 1 := ⟨i - 1, by simp at hi; omega⟩
    have hj : j + 1 < l.length := by simp at hi; omega
    rw [rd_nat l (j + 1) hj, show (((j + 1 : Nat) : Int) - 1) = ((j : Nat) : Int) by omega, rd_nat l j (by omega)]
    simpa using h j hj
theorem incr_ge (l : List Int) (h : incr l = true) (h0 : ∀ x ∈ l, 0 ≤ x) : ∀ i (hi : i < l.length), (i : Int) ≤ l[i] := by
  intro i
  induction i with
  | zero => intro hi; exact h0 _ (List.getElem_mem hi)
  | succ i ih =>
    intro hi
    have := ih (by omega)
    have := (incr_iff l).1 h i hi
    omega
theorem incr_len (l : List Int) (h : incr l = true) (m : Int) (hm : l.all (fun x => decide (0 ≤ x) && decide (x ≤ m)) = true) : (l.length : Int) ≤ m + 1 ∨ l = [] := by
  rw [List.all_eq_true] at hm
  by_cases h0 : l = []
  · exact .inr h0
  · left
    have hp := List.length_pos_iff.2 h0
    have h1 := incr_ge l h (fun x hx => by have := hm x hx; simp at this; omega) (l.length - 1) (by omega)
    have h2 := hm _ (List.getElem_mem (show l.length - 1 < l.length by omega))
    simp at h2
    omega

/-! ### figures: what is one -/
def inB (lo hi : Int) (x : Int) : Bool := decide (lo ≤ x) && decide (x ≤ hi)
theorem inB_iff {lo hi x : Int} : inB lo hi x = true ↔ lo ≤ x ∧ x ≤ hi := by simp [inB]
theorem l1In_is (a lo hi : Int) : spec_l1In.f a lo hi = some (inB lo hi a) := by
  unfold spec_l1In.f inB
  by_cases h : a ≥ lo
  · rw [if_pos h, decide_eq_true (show lo ≤ a from h), Bool.true_and]
  · rw [if_neg h, decide_eq_false (show ¬ lo ≤ a from h), Bool.false_and]
theorem within_is (a lo hi : Int) : impl_within.f a lo hi = some (inB lo hi a) := by
  unfold impl_within.f inB
  by_cases h : lo ≤ a
  · rw [if_pos h, decide_eq_true h, Bool.true_and]
  · rw [if_neg h, decide_eq_false h, Bool.false_and]
theorem fiGrid_is (w h : Int) : spec_fiGrid.f w h = some (inB 1 4 w && inB 1 4 h) := by
  unfold spec_fiGrid.f
  simp only [l1In_is, Option.bind_some]
  cases inB 1 4 w <;> simp
theorem isGrid_is (w h : Int) : impl_isGrid.f w h = some (inB 1 4 w && inB 1 4 h) := by
  unfold impl_isGrid.f
  simp only [within_is, Option.bind_some]
  cases inB 1 4 w <;> simp
theorem l1All_ev (l : List Int) (hl : l.length ≤ 9223372036854775807) (lo hi : Int) : Ev (fun k => spec_l1All.f k l lo hi) (l.all (inB lo hi)) := by
  have h := all_evB (fun k i => spec_l1All.l0 k lo hi l (l.length : Int) i) (fun i => inB lo hi (rd l (i : Int))) 0 l.length
    (fun i r _ hi hp hr => Ev.step (fun k => by simp only [spec_l1All.l0]; rw [if_pos (by omega), if_pos (by omega), if_pos (by omega), l1In_is, hp, Option.bind_some, if_pos rfl, w64 (by omega) (by omega)]; rfl) hr)
    (fun i _ hi hp => Ev.step (fun k => by simp only [spec_l1All.l0]; rw [if_pos (by omega), if_pos (by omega), if_pos (by omega), l1In_is, hp, Option.bind_some, if_neg (by simp)]) (Ev.now false))
    (fun i hi _ => Ev.step (fun k => by simp only [spec_l1All.l0]; rw [if_neg (by omega)]) (Ev.now true))
  rw [Nat.sub_zero, all_range l (inB lo hi)] at h
  exact h
theorem isRising_ev (l : List Int) (hl : l.length ≤ 9223372036854775807) : Ev (fun k => impl_isRising.f k l) (incr l) :=
  all_evB (fun k i => impl_isRising.l0 k l i) (fun i => decide (rd l (i : Int) > rd l ((i : Int) - 1))) 1 l.length
    (fun i r h0 hi hp hr => Ev.step (fun k => by simp only [impl_isRising.l0]; rw [if_pos (by omega), if_pos (by omega), w64 (by omega) (by omega), if_pos (by omega), if_pos (by omega), if_neg (by simp at hp; omega), w64 (by omega) (by omega)]; rfl) hr)
    (fun i h0 hi hp => Ev.step (fun k => by simp only [impl_isRising.l0]; rw [if_pos (by omega), if_pos (by omega), w64 (by omega) (by omega), if_pos (by omega), if_pos (by omega), if_pos (by simp at hp; omega)]) (Ev.now false))
    (fun i hi _ => Ev.step (fun k => by simp only [impl_isRising.l0]; rw [if_neg (by omega)]) (Ev.now true))
def rises (l : List Int) (m : Int) : Bool := l.all (inB 0 m) && incr l
theorem fiRises_ev (l : List Int) (hl : l.length ≤ 9223372036854775807) (m : Int) (h0 : 0 ≤ m) (h1 : m ≤ 1000) : Ev (fun k => spec_fiRises.f k l m) (rises l m) := by
  unfold rises spec_fiRises.f
  rw [w64 (by omega) (by omega)]
  by_cases hlen : (l.length : Int) > m + 1
  · simp only [if_pos hlen]
    have hf : (l.all (inB 0 m) && incr l) = false := by
      cases hi : incr l
      · simp
      · cases ha : l.all (inB 0 m)
        · rfl
        · rcases incr_len l hi m ha with h | h
          · omega
          · subst h
            simp at hlen
            omega
    rw [hf]
    exact Ev.step (f := fun _ => some false) (fun k => by simp [spec_fiRises.j0]) (Ev.now false)
  · simp only [if_neg hlen]
    refine Ev.bind (l1All_ev l hl 0 m) ?_
    cases ha : l.all (inB 0 m) with
    | false => exact Ev.step (f := fun _ => some false) (fun k => by simp [spec_fiRises.j0]) (Ev.now false)
    | true =>
      refine Ev.step (f := fun k => spec_fiRises.l0 k l 1) (fun k => by simp only [spec_fiRises.j0]; rw [if_neg (by simp)]) ?_
      rw [Bool.true_and]
      exact all_evB (fun k i => spec_fiRises.l0 k l i) (fun i => decide (rd l (i : Int) > rd l ((i : Int) - 1))) 1 l.length
        (fun i r h0 hi hp hr => Ev.step (fun k => by simp only [spec_fiRises.l0]; rw [if_pos (by omega), w64 (by omega) (by omega), if_pos (by omega), if_pos (by omega), if_pos (by omega), if_neg (by simp at hp; omega), w64 (by omega) (by omega)]; rfl) hr)
        (fun i h0 hi hp => Ev.step (fun k => by simp only [spec_fiRises.l0]; rw [if_pos (by omega), w64 (by omega) (by omega), if_pos (by omega), if_pos (by omega), if_pos (by omega), if_pos (by simp at hp; omega)]) (Ev.now false))
        (fun i hi _ => Ev.step (fun k => by simp only [spec_fiRises.l0]; rw [if_neg (by omega)]) (Ev.now true))
theorem grid_bounds {w h : Int} (hw : 1 ≤ w ∧ w ≤ 4) (hh : 1 ≤ h ∧ h ≤ 4) : 2 ≤ w * (h + 1) ∧ w * (h + 1) ≤ 20 ∧ 2 ≤ (w + 1) * h ∧ (w + 1) * h ≤ 20 ∧ 2 ≤ h * (w + 1) ∧ h * (w + 1) ≤ 20 ∧ 1 ≤ w * h ∧ w * h ≤ 16 ∧ h * (w + 1) = (w + 1) * h := by
  have hc : w = 1 ∨ w = 2 ∨ w = 3 ∨ w = 4 := by omega
  rcases hc with rfl | rfl | rfl | rfl <;> omega
def figGood (w h : Int) (a b : List Int) : Bool := (inB 1 4 w && inB 1 4 h) && (rises a (w * (h + 1) - 1) && rises b ((w + 1) * h - 1))
theorem fiGood_ev (w h : Int) (a b : List Int) (ha : a.length ≤ 9223372036854775807) (hb : b.length ≤ 9223372036854775807) : Ev (fun k => spec_fiGood.f k w h a b) (figGood w h a b) := by
  unfold spec_fiGood.f figGood
  rw [fiGrid_is]
  simp only [Option.bind_some]
  cases hg : (inB 1 4 w && inB 1 4 h) with
  | false => exact Ev.const (by simp)
  | true =>
    simp only [Bool.and_eq_true, inB_iff] at hg
    have B := grid_bounds hg.1 hg.2
    simp only [if_true]
    have e1 : wrap64 (wrap64 (w * wrap64 (h + 1)) - 1) = w * (h + 1) - 1 := by
      rw [w64 (n := h + 1) (by omega) (by omega), w64 (n := w * (h + 1)) (by omega) (by omega), w64 (by omega) (by omega)]
    have e2 : wrap64 (wrap64 (wrap64 (w + 1) * h) - 1) = (w + 1) * h - 1 := by
      rw [w64 (n := w + 1) (by omega) (by omega), w64 (n := (w + 1) * h) (by omega) (by omega), w64 (by omega) (by omega)]
    rw [e1, e2]
    refine Ev.bind (fiRises_ev a ha _ (by omega) (by omega)) ?_
    cases rises a (w * (h + 1) - 1) with
    | false => exact Ev.const (by simp)
    | true =>
      simp only [if_true, Bool.true_and]
      refine Ev.congr (g := fun k => (spec_fiRises.f k b ((w + 1) * h - 1)).bind fun t114 => some t114) (fun k => rfl) ?_
      exact Ev.bind (fiRises_ev b hb _ (by omega) (by omega)) (Ev.now _)
theorem levels_is {w h : Int} (hw : 1 ≤ w ∧ w ≤ 4) (hh : 1 ≤ h ∧ h ≤ 4) : impl_grid_levels.f w h = some (w * (h + 1)) := by
  have B := grid_bounds hw hh
  unfold impl_grid_levels.f
  rw [w64 (n := h + 1) (by omega) (by omega), w64 (n := w * (h + 1)) (by omega) (by omega)]
theorem uprights_is {w h : Int} (hw : 1 ≤ w ∧ w ≤ 4) (hh : 1 ≤ h ∧ h ≤ 4) : impl_grid_uprights.f w h = some ((w + 1) * h) := by
  have B := grid_bounds hw hh
  unfold impl_grid_uprights.f
  rw [w64 (n := w + 1) (by omega) (by omega), w64 (n := h * (w + 1)) (by omega) (by omega)]
  rw [Int.mul_comm]
theorem IsFigure_ev (w h : Int) (a b : List Int) (ha : a.length ≤ 9223372036854775807) (hb : b.length ≤ 9223372036854775807) : Ev (fun k => impl_IsFigure.f k w h a b) (figGood w h a b) := by
  unfold impl_IsFigure.f figGood rises
  rw [isGrid_is]
  simp only [Option.bind_some, impl_Figure_grid.f]
  cases hg : (inB 1 4 w && inB 1 4 h) with
  | false => exact Ev.const (by simp)
  | true =>
    simp only [Bool.and_eq_true, inB_iff] at hg
    have B := grid_bounds hg.1 hg.2
    simp only [if_true, levels_is hg.1 hg.2, uprights_is hg.1 hg.2, Option.bind_some, impl_areWithin.f]
    rw [w64 (n := w * (h + 1) - 1) (by omega) (by omega), w64 (n := (w + 1) * h - 1) (by omega) (by omega)]
    refine Ev.bind (isRising_ev a ha) ?_
    cases incr a with
    | false => exact Ev.const (by simp)
    | true =>
      refine Ev.bind (isRising_ev b hb) ?_
      cases incr b with
      | false => exact Ev.const (by simp)
      | true =>
        simp only [if_true, Bool.true_and, Bool.and_true]
        have q : ∀ (l : List Int) (m : Int), (l.all fun x => decide (0 ≤ x) && decide (x ≤ m)) = l.all (inB 0 m) := fun _ _ => rfl
        rw [q, q]
        cases a.all (inB 0 (w * (h + 1) - 1)) with
        | false => exact Ev.const (by simp)
        | true => exact Ev.const (by simp)
theorem good_parts {w h : Int} {a b : List Int} (g : figGood w h a b = true) : (1 ≤ w ∧ w ≤ 4) ∧ (1 ≤ h ∧ h ≤ 4) ∧ (∀ x ∈ a, 0 ≤ x ∧ x < w * (h + 1)) ∧ incr a = true ∧ (∀ x ∈ b, 0 ≤ x ∧ x < (w + 1) * h) ∧ incr b = true := by
  unfold figGood rises at g
  simp only [Bool.and_eq_true, inB_iff, List.all_eq_true] at g
  obtain ⟨⟨g1, g2⟩, ⟨g3, g4⟩, g5, g6⟩ := g
  exact ⟨g1, g2, fun x hx => by have := g3 x hx; omega, g4, fun x hx => by have := g5 x hx; omega, g6⟩

/-! ### what the laws do about their arguments -/
theorem szIntS_is (l : List Int) (left : Int) (hl : l.length ≤ 9223372036854775807) (h0 : 0 ≤ left) (h1 : left ≤ 1000000) : laws_szIntS.f l left = some (if (l.length : Int) ≤ left then left - (l.length : Int) else -1) := by
  unfold laws_szIntS.f
  rw [w64 (by omega) (by omega)]
  by_cases h : (l.length : Int) ≤ left
  · rw [if_neg (by omega), if_pos h]
  · rw [if_pos (by omega), if_neg h]
theorem szFigure_is (w h : Int) (a b : List Int) (ha : a.length ≤ 9223372036854775807) (hb : b.length ≤ 9223372036854775807) (left : Int) (h0 : 0 ≤ left) (h1 : left ≤ 1000000) : laws_szFigure.f w h a b left = some (if (a.length : Int) + (b.length : Int) ≤ left then left - (a.length : Int) - (b.length : Int) else -1) := by
  unfold laws_szFigure.f
  rw [szIntS_is a left ha h0 h1, Option.bind_some]
  by_cases h : (a.length : Int) ≤ left
  · rw [if_pos h, if_neg (by omega), szIntS_is b _ hb (by omega) (by omega), Option.bind_some]
    by_cases h2 : (a.length : Int) + (b.length : Int) ≤ left
    · have h3 : (b.length : Int) ≤ left - (a.length : Int) := by omega
      rw [if_pos h3, if_neg (by omega), if_pos h2]
    · have h3 : ¬ (b.length : Int) ≤ left - (a.length : Int) := by omega
      rw [if_neg h3, if_pos (by omega), if_neg h2]
  · rw [if_neg h, if_pos (by omega), if_neg (by omega)]
theorem toFigure_is (w h : Int) (a b : List Int) (x : Bool) (hab : (a.length : Int) + (b.length : Int) ≤ 1000000) : laws_toFigure.f w h a b x = some (w, h, a, b) := by
  unfold laws_toFigure.f laws_toIntS.f
  rw [if_pos (by omega), if_pos (by omega)]
  rfl
theorem intactFigure_is (w h : Int) (a b : List Int) (hab : (a.length : Int) + (b.length : Int) ≤ 1000000) : laws_intactFigure.f w h a b w h a b = some true := by
  unfold laws_intactFigure.f laws_intactIntS.f
  rw [if_pos rfl, if_pos rfl, if_pos (by omega), if_pos (by omega)]
  simp

theorem FnExactIsFigure : laws_FnExactIsFigure.Pure := by
  intro w h a b _ _ ha _ hb _
  have ha := maxLen_le ha
  have hb := maxLen_le hb
  have hs : Ev (fun k => spec_IsFigure.f k w h a b) (figGood w h a b) := by
    unfold spec_IsFigure.f
    exact Ev.bind (fiGood_ev w h a b ha hb) (Ev.now _)
  obtain ⟨K, hK⟩ := Ev.both hs (IsFigure_ev w h a b ha hb)
  obtain ⟨hs1, hi1⟩ := hK K (by omega)
  refine ⟨K, ?_⟩
  unfold laws_FnExactIsFigure.f
  rw [szFigure_is w h a b ha hb _ (by omega) (by omega), Option.bind_some]
  by_cases hab : (a.length : Int) + (b.length : Int) ≤ 1000000
  · rw [if_pos hab, if_neg (by omega)]
    simp only [toFigure_is w h a b _ hab, Option.bind_some, hs1, hi1, bne_self_eq_false, intactFigure_is w h a b hab]
    simp
  · rw [if_neg hab, if_pos (by omega)]

end Go.Proofs.Ytkllomnelknpaaa.Pure
