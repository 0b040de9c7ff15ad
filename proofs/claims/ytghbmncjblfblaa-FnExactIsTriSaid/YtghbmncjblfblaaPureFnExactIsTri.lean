/- Proved here: the pure statement of FnExactIsTri: program and reference tell the same figures of triangles. Conditions: the numbers are 64 bit integers, the list is no longer than a slice can be. -/
import Derived.Test.YtghbmncjblfblaaQFnExactIsTrix4
set_option linter.unusedVariables false
set_option linter.unusedSimpArgs false
namespace Go.Proofs.Ytghbmncjblfblaa.Pure
open Go.RowKit Go.Proofs.Ytghbmncjblfblaa.Q Go.Proofs.YtghbmncjblfblaaW.PrintWords Go.Proofs.YtghbmncjblfblaaW.PrintLast

/-! ### base: wrapping, 'from some number of rounds on', loops -/
theorem w64 {n : Int} (h0 : -9223372036854775808 ≤ n) (h1 : n ≤ 9223372036854775807) : wrap64 n = n := by unfold wrap64; omega
theorem wf64 {x : Int} (h : (Lit.int .i64 x).wf = true) : -9223372036854775808 ≤ x ∧ x ≤ 9223372036854775807 := by
  simp [Lit.wf, IntKind.min, IntKind.max, IntKind.signed, IntKind.bits] at h
  omega
theorem maxLen_le {n : Nat} (h : n ≤ maxLen) : n ≤ 9223372036854775807 := by unfold maxLen at h; omega
theorem Ev.both {α β : Type} {g : Nat → Option α} {f : Nat → Option β} {a : α} {b : β} (h : Ev g a) (k : Ev f b) : ∃ K, ∀ n, K ≤ n → g n = some a ∧ f n = some b := by
  obtain ⟨K, h⟩ := h
  obtain ⟨K', k⟩ := k
  exact ⟨max K K', fun n hn => ⟨h n (by omega), k n (by omega)⟩⟩
theorem Ev.const {α : Type} {x : Option α} {r : α} (h : x = some r) : Ev (fun _ => x) r := ⟨0, fun _ _ => h⟩
/-- A loop from lo on that ends early with 'bad', or runs through. -/
theorem all_ev {β : Type} (g : Nat → Int → Option β) (p : Nat → Bool) (good bad : β) (lo n : Nat)
    (hgood : ∀ i r, lo ≤ i → i < n → p i = true → Ev (fun k => g k ((i + 1 : Nat) : Int)) r → Ev (fun k => g k (i : Int)) r)
    (hbad : ∀ i, lo ≤ i → i < n → p i = false → Ev (fun k => g k (i : Int)) bad)
    (fin : ∀ i, n ≤ i → i ≤ n + lo → Ev (fun k => g k (i : Int)) good) : ∀ d a, n - a = d → lo ≤ a → a ≤ n + lo → Ev (fun k => g k (a : Int)) (if (List.range' a (n - a)).all p = true then good else bad) := by
  intro d
  induction d with
  | zero =>
    intro a ha hlo hle
    rw [ha]
    simpa using fin a (by omega) hle
  | succ d ih =>
    intro a ha hlo hle
    rw [ha, List.range'_succ, List.all_cons]
    cases hp : p a with
    | true =>
      have := ih (a + 1) (by omega) (by omega) (by omega)
      rw [show n - (a + 1) = d by omega] at this
      simp only [Bool.true_and]
      exact hgood a _ hlo (by omega) hp this
    | false =>
      simp only [Bool.false_and]
      exact hbad a hlo (by omega) hp
/-- The same where it answers whether all held. -/
theorem all_evB (g : Nat → Int → Option Bool) (p : Nat → Bool) (lo n : Nat)
    (hgood : ∀ i r, lo ≤ i → i < n → p i = true → Ev (fun k => g k ((i + 1 : Nat) : Int)) r → Ev (fun k => g k (i : Int)) r)
    (hbad : ∀ i, lo ≤ i → i < n → p i = false → Ev (fun k => g k (i : Int)) false)
    (fin : ∀ i, n ≤ i → i ≤ n + lo → Ev (fun k => g k (i : Int)) true) : Ev (fun k => g k (lo : Int)) ((List.range' lo (n - lo)).all p) := by
  have h := all_ev g p true false lo n hgood hbad fin (n - lo) lo rfl (Nat.le_refl _) (by omega)
  cases hb : (List.range' lo (n - lo)).all p <;> simpa [hb] using h
/-- A loop that carries a state s; P: what is known of it. -/
theorem fold_ev {σ β : Type} (g : Nat → σ → Int → Option β) (f : σ → Nat → σ) (h : σ → β) (P : Nat → σ → Prop) (n : Nat)
    (step : ∀ s i r, i < n → P i s → (P (i + 1) (f s i) ∧ (Ev (fun k => g k (f s i) ((i + 1 : Nat) : Int)) r → Ev (fun k => g k s (i : Int)) r)))
    (fin : ∀ s, P n s → Ev (fun k => g k s (n : Int)) (h s)) : ∀ d a s, n - a = d → a ≤ n → P a s → Ev (fun k => g k s (a : Int)) (h ((List.range' a (n - a)).foldl f s)) := by
  intro d
  induction d with
  | zero =>
    intro a s ha hle hP
    obtain rfl : a = n := by omega
    simpa using fin s hP
  | succ d ih =>
    intro a s ha hle hP
    rw [ha, List.range'_succ, List.foldl_cons]
    have := step s a (h ((List.range' (a + 1) d).foldl f (f s a))) (by omega) hP
    refine this.2 ?_
    have h2 := ih (a + 1) (f s a) (by omega) (by omega) this.1
    rw [show n - (a + 1) = d by omega] at h2
    exact h2
theorem rd_nat (l : List Int) (i : Nat) (h : i < l.length) : rd l (i : Int) = l[i] := by unfold rd; rw [Int.toNat_natCast]; simp [List.getD_eq_getElem?_getD, h]
theorem all_range (l : List Int) (q : Int → Bool) : (List.range' 0 l.length).all (fun i => q (rd l (i : Int))) = l.all q := by
  rw [Bool.eq_iff_iff, List.all_eq_true, List.all_eq_true]
  constructor
  · intro h x hx
    obtain ⟨i, hi, rfl⟩ := List.getElem_of_mem hx
    have := h i (by simp; omega)
    rwa [rd_nat l i hi] at this
  · intro h i hi
    have hi : i < l.length := by simp at hi; omega
    rw [rd_nat l i hi]
    exact h _ (List.getElem_mem hi)
/-- Strictly increasing. -/
def incr (l : List Int) : Bool := (List.range' 1 (l.length - 1)).all fun i => decide (rd l (i : Int) > rd l ((i : Int) - 1))
theorem incr_iff (l : List Int) : incr l = true ↔ ∀ i, ∀ h : i + 1 < l.length, l[i] < l[i + 1] := by
  unfold incr
  rw [List.all_eq_true]
  constructor
  · intro h i hi
    have := h (i + 1) (by simp; omega)
    rw [rd_nat l (i + 1) hi, show (((i + 1 : Nat) : Int) - 1) = ((i : Nat) : Int) by omega, rd_nat l i (by omega)] at this
    simpa using this
  · intro h i hi
    obtain ⟨j, rfl⟩ : ∃ j, i = j + 1 := ⟨i - 1, by simp at hi; omega⟩
    have hj : j + 1 < l.length := by simp at hi; omega
    rw [rd_nat l (j + 1) hj, show (((j + 1 : Nat) : Int) - 1) = ((j : Nat) : Int) by omega, rd_nat l j (by omega)]
    simpa using h j hj
theorem incr_ge (l : List Int) (h : incr l = true) (h0 : ∀ x ∈ l, 0 ≤ x) : ∀ i (hi : i < l.length), (i : Int) ≤ l[i] := by
  intro i
  induction i with
  | zero => intro hi; exact h0 _ (List.getElem_mem hi)
  | succ i ih =>
    intro hi
    have := ih (by omega)
    have := (incr_iff l).1 h i hi
    omega
theorem incr_len (l : List Int) (h : incr l = true) (m : Int) (hm : l.all (fun x => decide (0 ≤ x) && decide (x ≤ m)) = true) : (l.length : Int) ≤ m + 1 ∨ l = [] := by
  rw [List.all_eq_true] at hm
  by_cases h0 : l = []
  · exact .inr h0
  · left
    have hp := List.length_pos_iff.2 h0
    have h1 := incr_ge l h (fun x hx => by have := hm x hx; simp at this; omega) (l.length - 1) (by omega)
    have h2 := hm _ (List.getElem_mem (show l.length - 1 < l.length by omega))
    simp at h2
    omega

/-! ### the figures of triangles: what is one -/
def lv (a : Int) : Bool := decide (1 ≤ a) && decide (a ≤ 5)
def inB (lo hi : Int) (x : Int) : Bool := decide (lo ≤ x) && decide (x ≤ hi)
theorem l1In_is (a lo hi : Int) : spec_l1In.f a lo hi = some (inB lo hi a) := by
  unfold spec_l1In.f inB
  by_cases h : a ≥ lo
  · rw [if_pos h, decide_eq_true (show lo ≤ a from h), Bool.true_and]
  · rw [if_neg h, decide_eq_false (show ¬ lo ≤ a from h), Bool.false_and]
theorem within_is (a lo hi : Int) : impl_within.f a lo hi = some (inB lo hi a) := by
  unfold impl_within.f inB
  by_cases h : lo ≤ a
  · rw [if_pos h, decide_eq_true h, Bool.true_and]
  · rw [if_neg h, decide_eq_false h, Bool.false_and]
theorem l1All_ev (l : List Int) (hl : l.length ≤ 9223372036854775807) (lo hi : Int) : Ev (fun k => spec_l1All.f k l lo hi) (l.all (inB lo hi)) := by
  have h := all_evB (fun k i => spec_l1All.l0 k lo hi l (l.length : Int) i) (fun i => inB lo hi (rd l (i : Int))) 0 l.length
    (fun i r _ hi hp hr => Ev.step (fun k => by simp only [spec_l1All.l0]; rw [if_pos (by omega), if_pos (by omega), if_pos (by omega), l1In_is, hp, Option.bind_some, if_pos rfl, w64 (by omega) (by omega)]; rfl) hr)
    (fun i _ hi hp => Ev.step (fun k => by simp only [spec_l1All.l0]; rw [if_pos (by omega), if_pos (by omega), if_pos (by omega), l1In_is, hp, Option.bind_some, if_neg (by simp)]) (Ev.now false))
    (fun i hi _ => Ev.step (fun k => by simp only [spec_l1All.l0]; rw [if_neg (by omega)]) (Ev.now true))
  rw [Nat.sub_zero, all_range l (inB lo hi)] at h
  exact h
theorem isRising_ev (l : List Int) (hl : l.length ≤ 9223372036854775807) : Ev (fun k => impl_isRising.f k l) (incr l) :=
  all_evB (fun k i => impl_isRising.l0 k l i) (fun i => decide (rd l (i : Int) > rd l ((i : Int) - 1))) 1 l.length
    (fun i r h0 hi hp hr => Ev.step (fun k => by simp only [impl_isRising.l0]; rw [if_pos (by omega), if_pos (by omega), w64 (by omega) (by omega), if_pos (by omega), if_pos (by omega), if_neg (by simp at hp; omega), w64 (by omega) (by omega)]; rfl) hr)
    (fun i h0 hi hp => Ev.step (fun k => by simp only [impl_isRising.l0]; rw [if_pos (by omega), if_pos (by omega), w64 (by omega) (by omega), if_pos (by omega), if_pos (by omega), if_pos (by simp at hp; omega)]) (Ev.now false))
    (fun i hi _ => Ev.step (fun k => by simp only [impl_isRising.l0]; rw [if_neg (by omega)]) (Ev.now true))
/-- How many edges there are. -/
def trN (a : Int) : Int := if a = 1 then 3 else if a = 2 then 9 else if a = 3 then 18 else if a = 4 then 30 else 45
def triGood (a : Int) (l : List Int) : Bool := inB 1 5 a && (l.all (inB 0 (trN a - 1)) && incr l)
theorem lv_cases {a : Int} (h : inB 1 5 a = true) : a = 1 ∨ a = 2 ∨ a = 3 ∨ a = 4 ∨ a = 5 := by
  simp [inB] at h
  omega
theorem trCells_is {a : Int} (h : inB 1 5 a = true) : ∃ c, spec_trCells.f a = some c ∧ wrap64 (3 * c) = trN a := by
  rcases lv_cases h with rfl | rfl | rfl | rfl | rfl
  · exact ⟨1, by decide +kernel, by decide +kernel⟩
  · exact ⟨3, by decide +kernel, by decide +kernel⟩
  · exact ⟨6, by decide +kernel, by decide +kernel⟩
  · exact ⟨10, by decide +kernel, by decide +kernel⟩
  · exact ⟨15, by decide +kernel, by decide +kernel⟩
theorem edgesOf_is {a : Int} (h : inB 1 5 a = true) : impl_edgesOf.f a = some (trN a) := by
  rcases lv_cases h with rfl | rfl | rfl | rfl | rfl <;> decide +kernel
theorem trN_bound (a : Int) : 3 ≤ trN a ∧ trN a ≤ 45 := by
  unfold trN
  repeat' split
  all_goals omega
theorem trGood_ev (a : Int) (l : List Int) (hl : l.length ≤ 9223372036854775807) : Ev (fun k => spec_trGood.f k a l) (triGood a l) := by
  unfold triGood spec_trGood.f
  rw [l1In_is]
  simp only [Option.bind_some]
  cases hv : inB 1 5 a with
  | false => exact Ev.step (f := fun _ => some false) (fun k => by simp [spec_trGood.j0]) (Ev.now false)
  | true =>
    obtain ⟨c, hc, h3⟩ := trCells_is hv
    have hb := trN_bound a
    simp only [if_true, hc, Option.bind_some, h3, Bool.true_and]
    have h1 : wrap64 (trN a - 1) = trN a - 1 := w64 (by omega) (by omega)
    rw [h1]
    by_cases hlen : (l.length : Int) > trN a
    · simp only [if_pos hlen]
      have hf : (l.all (inB 0 (trN a - 1)) && incr l) = false := by
        cases hi : incr l
        · simp
        · cases ha : l.all (inB 0 (trN a - 1))
          · rfl
          · rcases incr_len l hi (trN a - 1) ha with h | h
            · omega
            · subst h
              simp at hlen
              omega
      rw [hf]
      exact Ev.step (f := fun _ => some false) (fun k => by simp [spec_trGood.j0]) (Ev.now false)
    · simp only [if_neg hlen]
      refine Ev.bind (l1All_ev l hl 0 (trN a - 1)) ?_
      cases ha : l.all (inB 0 (trN a - 1)) with
      | false => exact Ev.step (f := fun _ => some false) (fun k => by simp [spec_trGood.j0]) (Ev.now false)
      | true =>
        refine Ev.step (f := fun k => spec_trGood.l0 k 1 a l) (fun k => by simp only [spec_trGood.j0]; rw [if_neg (by simp)]) ?_
        rw [Bool.true_and]
        exact all_evB (fun k i => spec_trGood.l0 k i a l) (fun i => decide (rd l (i : Int) > rd l ((i : Int) - 1))) 1 l.length
          (fun i r h0 hi hp hr => Ev.step (fun k => by simp only [spec_trGood.l0]; rw [if_pos (by omega), w64 (by omega) (by omega), if_pos (by omega), if_pos (by omega), if_pos (by omega), if_neg (by simp at hp; omega), w64 (by omega) (by omega)]; rfl) hr)
          (fun i h0 hi hp => Ev.step (fun k => by simp only [spec_trGood.l0]; rw [if_pos (by omega), w64 (by omega) (by omega), if_pos (by omega), if_pos (by omega), if_pos (by omega), if_pos (by simp at hp; omega)]) (Ev.now false))
          (fun i hi _ => Ev.step (fun k => by simp only [spec_trGood.l0]; rw [if_neg (by omega)]) (Ev.now true))
theorem IsTri_ev (a : Int) (l : List Int) (hl : l.length ≤ 9223372036854775807) : Ev (fun k => impl_IsTri.f k a l) (triGood a l) := by
  unfold triGood impl_IsTri.f impl_isLevel.f
  rw [within_is]
  simp only [Option.bind_some]
  cases hv : inB 1 5 a with
  | false => exact Ev.now _
  | true =>
    have hb := trN_bound a
    simp only [if_true]
    refine Ev.bind (isRising_ev l hl) ?_
    cases hr : incr l with
    | false => exact Ev.const (by simp)
    | true =>
      rw [edgesOf_is hv]
      simp only [if_true, Option.bind_some]
      rw [w64 (by omega) (by omega)]
      exact Ev.const (by simp [impl_areWithin.f]; rfl)

/-! ### what the laws do about their arguments -/
theorem szIntS_is (l : List Int) (left : Int) (hl : l.length ≤ 9223372036854775807) (h0 : 0 ≤ left) (h1 : left ≤ 1000000) : laws_szIntS.f l left = some (if (l.length : Int) ≤ left then left - (l.length : Int) else -1) := by
  unfold laws_szIntS.f
  rw [w64 (by omega) (by omega)]
  by_cases h : (l.length : Int) ≤ left
  · rw [if_neg (by omega), if_pos h]
  · rw [if_pos (by omega), if_neg h]
theorem szTri_is (a : Int) (l : List Int) (hl : l.length ≤ 9223372036854775807) : laws_szTri.f a l 1000000 = some (if (l.length : Int) ≤ 1000000 then (1000000 : Int) - (l.length : Int) else -1) := by
  unfold laws_szTri.f
  rw [szIntS_is l _ hl (by omega) (by omega)]
  simp only [Option.bind_some]
  by_cases h : (l.length : Int) ≤ 1000000
  · rw [if_pos h, if_neg (by omega)]
  · rw [if_neg h, if_pos (by omega)]
theorem toTri_is (a : Int) (l : List Int) (b : Bool) (h : (l.length : Int) ≤ 1000000) : laws_toTri.f a l b = some (a, l) := by
  unfold laws_toTri.f laws_toIntS.f
  rw [if_pos (by omega)]
  rfl
theorem intactTri_is (a : Int) (l : List Int) (h : (l.length : Int) ≤ 1000000) : laws_intactTri.f a l a l = some true := by
  unfold laws_intactTri.f laws_intactIntS.f
  rw [if_pos rfl, if_pos (by omega)]
  simp

theorem FnExactIsTri : laws_FnExactIsTri.Pure := by
  intro a l _ hm _
  have hl := maxLen_le hm
  obtain ⟨K, hK⟩ := Ev.both (trGood_ev a l hl) (IsTri_ev a l hl)
  obtain ⟨hs, hi⟩ := hK K (Nat.le_refl _)
  refine ⟨K, ?_⟩
  unfold laws_FnExactIsTri.f spec_IsTri.f
  rw [szTri_is a l hl, Option.bind_some]
  by_cases h : (l.length : Int) ≤ 1000000
  · rw [if_pos h, if_neg (by omega), toTri_is a l _ h]
    simp only [Option.bind_some, hs, hi, bne_self_eq_false, intactTri_is a l h, toTri_is a l _ h, if_true]
    simp
  · rw [if_neg h, if_pos (by omega)]

end Go.Proofs.Ytghbmncjblfblaa.Pure
