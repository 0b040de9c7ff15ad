/- Proved here: the pure statement of FnExactStandingOf: program and reference list the same standing triangles. Conditions: the numbers are 64 bit integers, the list is no longer than a slice can be. -/
import Derived.Test.YtjkkgnpgjgfidaaQFnExactStandingOfx7
set_option linter.unusedVariables false
set_option linter.unusedSimpArgs false
namespace Go.Proofs.Ytjkkgnpgjgfidaa.Pure
open Go.RowKit Go.Proofs.Ytjkkgnpgjgfidaa.Q Go.Proofs.YtjkkgnpgjgfidaaW.PrintWords Go.Proofs.YtjkkgnpgjgfidaaW.PrintLast

/-! ### base: wrapping, 'from some number of rounds on', loops -/
theorem w64 {n : Int} (h0 : -9223372036854775808 ≤ n) (h1 : n ≤ 9223372036854775807) : wrap64 n = n := by unfold wrap64; omega
theorem wf64 {x : Int} (h : (Lit.int .i64 x).wf = true) : -9223372036854775808 ≤ x ∧ x ≤ 9223372036854775807 := by
  simp [Lit.wf, IntKind.min, IntKind.max, IntKind.signed, IntKind.bits] at h
  omega
theorem maxLen_le {n : Nat} (h : n ≤ maxLen) : n ≤ 9223372036854775807 := by unfold maxLen at h; omega
theorem Ev.both {α β : Type} {g : Nat → Option α} {f : Nat → Option β} {a : α} {b : β} (h : Ev g a) (k : Ev f b) : ∃ K, ∀ n, K ≤ n → g n = some a ∧ f n = some b := by
  obtain ⟨K, h⟩ := h
  obtain ⟨K', k⟩ := k
  exact ⟨max K K', fun n hn => ⟨h n (by omega), k n (by omega)⟩⟩
theorem Ev.const {α : Type} {x : Option α} {r : α} (h : x = some r) : Ev (fun _ => x) r := ⟨0, fun _ _ => h⟩
/-- A loop from lo on that ends early with 'bad', or runs through. -/
theorem all_ev {β : Type} (g : Nat → Int → Option β) (p : Nat → Bool) (good bad : β) (lo n : Nat)
    (hgood : ∀ i r, lo ≤ i → i < n → p i = true → Ev (fun k => g k ((i + 1 : Nat) : Int)) r → Ev (fun k => g k (i : Int)) r)
    (hbad : ∀ i, lo ≤ i → i < n → p i = false → Ev (fun k => g k (i : Int)) bad)
    (fin : ∀ i, n ≤ i → i ≤ n + lo → Ev (fun k => g k (i : Int)) good) : ∀ d a, n - a = d → lo ≤ a → a ≤ n + lo → Ev (fun k => g k (a : Int)) (if (List.range' a (n - a)).all p = true then good else bad) := by
  intro d
  induction d with
  | zero =>
    intro a ha hlo hle
    rw [ha]
    simpa using fin a (by omega) hle
  | succ d ih =>
    intro a ha hlo hle
    rw [ha, List.range'_succ, List.all_cons]
    cases hp : p a with
    | true =>
      have := ih (a + 1) (by omega) (by omega) (by omega)
      rw [show n - (a + 1) = d by omega] at this
      simp only [Bool.true_and]
      exact hgood a _ hlo (by omega) hp this
    | false =>
      simp only [Bool.false_and]
      exact hbad a hlo (by omega) hp
/-- The same where it answers whether all held. -/
theorem all_evB (g : Nat → Int → Option Bool) (p : Nat → Bool) (lo n : Nat)
    (hgood : ∀ i r, lo ≤ i → i < n → p i = true → Ev (fun k => g k ((i + 1 : Nat) : Int)) r → Ev (fun k => g k (i : Int)) r)
    (hbad : ∀ i, lo ≤ i → i < n → p i = false → Ev (fun k => g k (i : Int)) false)
    (fin : ∀ i, n ≤ i → i ≤ n + lo → Ev (fun k => g k (i : Int)) true) : Ev (fun k => g k (lo : Int)) ((List.range' lo (n - lo)).all p) := by
  have h := all_ev g p true false lo n hgood hbad fin (n - lo) lo rfl (Nat.le_refl _) (by omega)
  cases hb : (List.range' lo (n - lo)).all p <;> simpa [hb] using h
/-- A loop that carries a state s; P: what is known of it. -/
theorem fold_ev {σ β : Type} (g : Nat → σ → Int → Option β) (f : σ → Nat → σ) (h : σ → β) (P : Nat → σ → Prop) (n : Nat)
    (step : ∀ s i r, i < n → P i s → (P (i + 1) (f s i) ∧ (Ev (fun k => g k (f s i) ((i + 1 : Nat) : Int)) r → Ev (fun k => g k s (i : Int)) r)))
    (fin : ∀ s, P n s → Ev (fun k => g k s (n : Int)) (h s)) : ∀ d a s, n - a = d → a ≤ n → P a s → Ev (fun k => g k s (a : Int)) (h ((List.range' a (n - a)).foldl f s)) := by
  intro d
  induction d with
  | zero =>
    intro a s ha hle hP
    obtain rfl : a = n := by omega
    simpa using fin s hP
  | succ d ih =>
    intro a s ha hle hP
    rw [ha, List.range'_succ, List.foldl_cons]
    have := step s a (h ((List.range' (a + 1) d).foldl f (f s a))) (by omega) hP
    refine this.2 ?_
    have h2 := ih (a + 1) (f s a) (by omega) (by omega) this.1
    rw [show n - (a + 1) = d by omega] at h2
    exact h2
theorem rd_nat (l : List Int) (i : Nat) (h : i < l.length) : rd l (i : Int) = l[i] := by unfold rd; rw [Int.toNat_natCast]; simp [List.getD_eq_getElem?_getD, h]
theorem all_range (l : List Int) (q : Int → Bool) : (List.range' 0 l.length).all (fun i => q (rd l (i : Int))) = l.all q := by
  rw [Bool.eq_iff_iff, List.all_eq_true, List.all_eq_true]
  constructor
  · intro h x hx
    obtain ⟨i, hi, rfl⟩ := List.getElem_of_mem hx
    have := h i (by simp; omega)
    rwa [rd_nat l i hi] at this
  · intro h i hi
    have hi : i < l.length := by simp at hi; omega
    rw [rd_nat l i hi]
    exact h _ (List.getElem_mem hi)
/-- Strictly increasing. -/
def incr (l : List Int) : Bool := (List.range' 1 (l.length - 1)).all fun i => decide (rd l (i : Int) > rd l ((i : Int) - 1))
theorem incr_iff (l : List Int) : incr l = true ↔ ∀ i, ∀ h : i + 1 < l.length, l[i] < l[i + 1] := by
  unfold incr
  rw [List.all_eq_true]
  constructor
  · intro h i hi
    have := h (i + 1) (by simp; omega)
    rw [rd_nat l (i + 1) hi, show (((i + 1 : Nat) : Int) - 1) = ((i : Nat) : Int) by omega, rd_nat l i (by omega)] at this
    simpa using this
  · intro h i hi
    obtain ⟨j, rfl⟩ : ∃ j, i = j + 1 := ⟨i - 1, by simp at hi; omega⟩
    have hj : j + 1 < l.length := by simp at hi; omega
    rw [rd_nat l (j + 1) hj, show (((j + 1 : Nat) : Int) - 1) = ((j : Nat) : Int) by omega, rd_nat l j (by omega)]
    simpa using h j hj
theorem incr_ge (l : List Int) (h : incr l = true) (h0 : ∀ x ∈ l, 0 ≤ x) : ∀ i (hi : i < l.length), (i : Int) ≤ l[i] := by
  intro i
  induction i with
  | zero => intro hi; exact h0 _ (List.getElem_mem hi)
  | succ i ih =>
    intro hi
    have := ih (by omega)
    have := (incr_iff l).1 h i hi
    omega
theorem incr_len (l : List Int) (h : incr l = true) (m : Int) (hm : l.all (fun x => decide (0 ≤ x) && decide (x ≤ m)) = true) : (l.length : Int) ≤ m + 1 ∨ l = [] := by
  rw [List.all_eq_true] at hm
  by_cases h0 : l = []
  · exact .inr h0
  · left
    have hp := List.length_pos_iff.2 h0
    have h1 := incr_ge l h (fun x hx => by have := hm x hx; simp at this; omega) (l.length - 1) (by omega)
    have h2 := hm _ (List.getElem_mem (show l.length - 1 < l.length by omega))
    simp at h2
    omega

/-! ### the figures of triangles: what is one -/
def lv (a : Int) : Bool := decide (1 ≤ a) && decide (a ≤ 5)
def inB (lo hi : Int) (x : Int) : Bool := decide (lo ≤ x) && decide (x ≤ hi)
theorem l1In_is (a lo hi : Int) : spec_l1In.f a lo hi = some (inB lo hi a) := by
  unfold spec_l1In.f inB
  by_cases h : a ≥ lo
  · rw [if_pos h, decide_eq_true (show lo ≤ a from h), Bool.true_and]
  · rw [if_neg h, decide_eq_false (show ¬ lo ≤ a from h), Bool.false_and]
theorem within_is (a lo hi : Int) : impl_within.f a lo hi = some (inB lo hi a) := by
  unfold impl_within.f inB
  by_cases h : lo ≤ a
  · rw [if_pos h, decide_eq_true h, Bool.true_and]
  · rw [if_neg h, decide_eq_false h, Bool.false_and]
theorem l1All_ev (l : List Int) (hl : l.length ≤ 9223372036854775807) (lo hi : Int) : Ev (fun k => spec_l1All.f k l lo hi) (l.all (inB lo hi)) := by
  have h := all_evB (fun k i => spec_l1All.l0 k lo hi l (l.length : Int) i) (fun i => inB lo hi (rd l (i : Int))) 0 l.length
    (fun i r _ hi hp hr => Ev.step (fun k => by simp only [spec_l1All.l0]; rw [if_pos (by omega), if_pos (by omega), if_pos (by omega), l1In_is, hp, Option.bind_some, if_pos rfl, w64 (by omega) (by omega)]; rfl) hr)
    (fun i _ hi hp => Ev.step (fun k => by simp only [spec_l1All.l0]; rw [if_pos (by omega), if_pos (by omega), if_pos (by omega), l1In_is, hp, Option.bind_some, if_neg (by simp)]) (Ev.now false))
    (fun i hi _ => Ev.step (fun k => by simp only [spec_l1All.l0]; rw [if_neg (by omega)]) (Ev.now true))
  rw [Nat.sub_zero, all_range l (inB lo hi)] at h
  exact h
theorem isRising_ev (l : List Int) (hl : l.length ≤ 9223372036854775807) : Ev (fun k => impl_isRising.f k l) (incr l) :=
  all_evB (fun k i => impl_isRising.l0 k l i) (fun i => decide (rd l (i : Int) > rd l ((i : Int) - 1))) 1 l.length
    (fun i r h0 hi hp hr => Ev.step (fun k => by simp only [impl_isRising.l0]; rw [if_pos (by omega), if_pos (by omega), w64 (by omega) (by omega), if_pos (by omega), if_pos (by omega), if_neg (by simp at hp; omega), w64 (by omega) (by omega)]; rfl) hr)
    (fun i h0 hi hp => Ev.step (fun k => by simp only [impl_isRising.l0]; rw [if_pos (by omega), if_pos (by omega), w64 (by omega) (by omega), if_pos (by omega), if_pos (by omega), if_pos (by simp at hp; omega)]) (Ev.now false))
    (fun i hi _ => Ev.step (fun k => by simp only [impl_isRising.l0]; rw [if_neg (by omega)]) (Ev.now true))
/-- How many edges there are. -/
def trN (a : Int) : Int := if a = 1 then 3 else if a = 2 then 9 else if a = 3 then 18 else if a = 4 then 30 else 45
def triGood (a : Int) (l : List Int) : Bool := inB 1 5 a && (l.all (inB 0 (trN a - 1)) && incr l)
theorem lv_cases {a : Int} (h : inB 1 5 a = true) : a = 1 ∨ a = 2 ∨ a = 3 ∨ a = 4 ∨ a = 5 := by
  simp [inB] at h
  omega
theorem trCells_is {a : Int} (h : inB 1 5 a = true) : ∃ c, spec_trCells.f a = some c ∧ wrap64 (3 * c) = trN a := by
  rcases lv_cases h with rfl | rfl | rfl | rfl | rfl
  · exact ⟨1, by decide +kernel, by decide +kernel⟩
  · exact ⟨3, by decide +kernel, by decide +kernel⟩
  · exact ⟨6, by decide +kernel, by decide +kernel⟩
  · exact ⟨10, by decide +kernel, by decide +kernel⟩
  · exact ⟨15, by decide +kernel, by decide +kernel⟩
theorem edgesOf_is {a : Int} (h : inB 1 5 a = true) : impl_edgesOf.f a = some (trN a) := by
  rcases lv_cases h with rfl | rfl | rfl | rfl | rfl <;> decide +kernel
theorem trN_bound (a : Int) : 3 ≤ trN a ∧ trN a ≤ 45 := by
  unfold trN
  repeat' split
  all_goals omega
theorem trGood_ev (a : Int) (l : List Int) (hl : l.length ≤ 9223372036854775807) : Ev (fun k => spec_trGood.f k a l) (triGood a l) := by
  unfold triGood spec_trGood.f
  rw [l1In_is]
  simp only [Option.bind_some]
  cases hv : inB 1 5 a with
  | false => exact Ev.step (f := fun _ => some false) (fun k => by simp [spec_trGood.j0]) (Ev.now false)
  | true =>
    obtain ⟨c, hc, h3⟩ := trCells_is hv
    have hb := trN_bound a
    simp only [if_true, hc, Option.bind_some, h3, Bool.true_and]
    have h1 : wrap64 (trN a - 1) = trN a - 1 := w64 (by omega) (by omega)
    rw [h1]
    by_cases hlen : (l.length : Int) > trN a
    · simp only [if_pos hlen]
      have hf : (l.all (inB 0 (trN a - 1)) && incr l) = false := by
        cases hi : incr l
        · simp
        · cases ha : l.all (inB 0 (trN a - 1))
          · rfl
          · rcases incr_len l hi (trN a - 1) ha with h | h
            · omega
            · subst h
              simp at hlen
              omega
      rw [hf]
      exact Ev.step (f := fun _ => some false) (fun k => by simp [spec_trGood.j0]) (Ev.now false)
    · simp only [if_neg hlen]
      refine Ev.bind (l1All_ev l hl 0 (trN a - 1)) ?_
      cases ha : l.all (inB 0 (trN a - 1)) with
      | false => exact Ev.step (f := fun _ => some false) (fun k => by simp [spec_trGood.j0]) (Ev.now false)
      | true =>
        refine Ev.step (f := fun k => spec_trGood.l0 k 1 a l) (fun k => by simp only [spec_trGood.j0]; rw [if_neg (by simp)]) ?_
        rw [Bool.true_and]
        exact all_evB (fun k i => spec_trGood.l0 k i a l) (fun i => decide (rd l (i : Int) > rd l ((i : Int) - 1))) 1 l.length
          (fun i r h0 hi hp hr => Ev.step (fun k => by simp only [spec_trGood.l0]; rw [if_pos (by omega), w64 (by omega) (by omega), if_pos (by omega), if_pos (by omega), if_pos (by omega), if_neg (by simp at hp; omega), w64 (by omega) (by omega)]; rfl) hr)
          (fun i h0 hi hp => Ev.step (fun k => by simp only [spec_trGood.l0]; rw [if_pos (by omega), w64 (by omega) (by omega), if_pos (by omega), if_pos (by omega), if_pos (by omega), if_pos (by simp at hp; omega)]) (Ev.now false))
          (fun i hi _ => Ev.step (fun k => by simp only [spec_trGood.l0]; rw [if_neg (by omega)]) (Ev.now true))
theorem IsTri_ev (a : Int) (l : List Int) (hl : l.length ≤ 9223372036854775807) : Ev (fun k => impl_IsTri.f k a l) (triGood a l) := by
  unfold triGood impl_IsTri.f impl_isLevel.f
  rw [within_is]
  simp only [Option.bind_some]
  cases hv : inB 1 5 a with
  | false => exact Ev.now _
  | true =>
    have hb := trN_bound a
    simp only [if_true]
    refine Ev.bind (isRising_ev l hl) ?_
    cases hr : incr l with
    | false => exact Ev.const (by simp)
    | true =>
      rw [edgesOf_is hv]
      simp only [if_true, Option.bind_some]
      rw [w64 (by omega) (by omega)]
      exact Ev.const (by simp [impl_areWithin.f]; rfl)

/-! ### what the laws do about their arguments -/
theorem szIntS_is (l : List Int) (left : Int) (hl : l.length ≤ 9223372036854775807) (h0 : 0 ≤ left) (h1 : left ≤ 1000000) : laws_szIntS.f l left = some (if (l.length : Int) ≤ left then left - (l.length : Int) else -1) := by
  unfold laws_szIntS.f
  rw [w64 (by omega) (by omega)]
  by_cases h : (l.length : Int) ≤ left
  · rw [if_neg (by omega), if_pos h]
  · rw [if_pos (by omega), if_neg h]
theorem szTri_is (a : Int) (l : List Int) (hl : l.length ≤ 9223372036854775807) : laws_szTri.f a l 1000000 = some (if (l.length : Int) ≤ 1000000 then (1000000 : Int) - (l.length : Int) else -1) := by
  unfold laws_szTri.f
  rw [szIntS_is l _ hl (by omega) (by omega)]
  simp only [Option.bind_some]
  by_cases h : (l.length : Int) ≤ 1000000
  · rw [if_pos h, if_neg (by omega)]
  · rw [if_neg h, if_pos (by omega)]
theorem toTri_is (a : Int) (l : List Int) (b : Bool) (h : (l.length : Int) ≤ 1000000) : laws_toTri.f a l b = some (a, l) := by
  unfold laws_toTri.f laws_toIntS.f
  rw [if_pos (by omega)]
  rfl
theorem intactTri_is (a : Int) (l : List Int) (h : (l.length : Int) ≤ 1000000) : laws_intactTri.f a l a l = some true := by
  unfold laws_intactTri.f laws_intactIntS.f
  rw [if_pos rfl, if_pos (by omega)]
  simp

/-! ### what the laws write into a list, and read back -/
theorem eqIntS_ev (l : List Int) (hl : l.length ≤ 1000000) : Ev (fun k => laws_eqIntS.f k l l) true := by
  unfold laws_eqIntS.f
  simp only [if_true]
  exact (all_evB (fun k i => laws_eqIntS.l0 k l l i) (fun _ => true) 0 l.length
    (fun i r _ hi _ hr => Ev.step (fun k => by simp only [laws_eqIntS.l0]; rw [if_pos (by omega), if_pos (by omega), if_pos (by omega), if_pos trivial, w64 (by omega) (by omega)]; rfl) hr)
    (fun i _ hi hp => by simp at hp)
    (fun i hi _ => Ev.step (fun k => by simp only [laws_eqIntS.l0]; rw [if_neg (by omega)]) (Ev.now true))) |> fun h => by
      have e : ((List.range' 0 (l.length - 0)).all fun _ => true) = true := by simp
      rw [e] at h
      exact h
/-- The first i cells written. -/
def inked (l : List Int) (a : Int) (i : Nat) : List Int := (List.range l.length).map (fun j => if j < i then a + (j : Int) else rd l (j : Int))
theorem inked_len (l a i) : (inked l a i).length = l.length := by simp [inked]
theorem inked_get (l : List Int) (a : Int) (i j : Nat) (h : j < (inked l a i).length) : (inked l a i)[j] = if j < i then a + (j : Int) else rd l (j : Int) := by simp [inked]
theorem inked_set (l : List Int) (a : Int) (i : Nat) : (inked l a i).set i (a + (i : Int)) = inked l a (i + 1) := by
  apply List.ext_getElem
  · rw [List.length_set, inked_len, inked_len]
  · intro j h1 h2
    rw [List.getElem_set, inked_get, inked_get]
    by_cases hj : i = j
    · subst hj
      rw [if_pos rfl, if_pos (by omega)]
    · rw [if_neg hj]
      by_cases hji : j < i
      · rw [if_pos hji, if_pos (by omega)]
      · rw [if_neg hji, if_neg (by omega)]
theorem inked_zero (l : List Int) (a : Int) : inked l a 0 = l := by
  apply List.ext_getElem
  · rw [inked_len]
  · intro j h1 h2
    rw [inked_get, if_neg (by omega), rd_nat l j h2]
theorem markIntS_ev (l : List Int) (a : Int) (hl : l.length ≤ 1000000) (h0 : 0 ≤ a) (h1 : a ≤ 10000000) : Ev (fun k => laws_markIntS.f k l a) (a + (l.length : Int), inked l a l.length) := by
  have key : ∀ d i, l.length - i = d → i ≤ l.length → Ev (fun k => laws_markIntS.l0 k (inked l a i) (a + (i : Int)) (i : Int)) (a + (l.length : Int), inked l a l.length) := by
    intro d
    induction d with
    | zero =>
      intro i h hi
      obtain rfl : i = l.length := by omega
      exact Ev.step (fun k => by simp only [laws_markIntS.l0]; rw [inked_len, if_neg (by omega)]) (Ev.now _)
    | succ d ih =>
      intro i h hi
      refine Ev.step (fun k => ?_) (ih (i + 1) (by omega) (by omega))
      simp only [laws_markIntS.l0]
      rw [inked_len, if_pos (by omega), if_pos (by omega), Int.toNat_natCast, inked_set, w64 (by omega) (by omega), w64 (by omega) (by omega), Int.add_assoc]
      rfl
  have := key l.length 0 (by omega) (by omega)
  rw [inked_zero] at this
  unfold laws_markIntS.f
  simpa using this
theorem heldIntS_ev (l : List Int) (a : Int) (hl : l.length ≤ 1000000) (h0 : 0 ≤ a) (h1 : a ≤ 10000000) : Ev (fun k => laws_heldIntS.f k (inked l a l.length) a) (a + (l.length : Int)) := by
  have key : ∀ d i, l.length - i = d → i ≤ l.length → Ev (fun k => laws_heldIntS.l0 k (inked l a l.length) (a + (i : Int)) (i : Int)) (a + (l.length : Int)) := by
    intro d
    induction d with
    | zero =>
      intro i h hi
      obtain rfl : i = l.length := by omega
      exact Ev.step (fun k => by simp only [laws_heldIntS.l0]; rw [inked_len, if_neg (by omega)]) (Ev.now _)
    | succ d ih =>
      intro i h hi
      refine Ev.step (fun k => ?_) (ih (i + 1) (by omega) (by omega))
      have hr : rd (inked l a l.length) (i : Int) = a + (i : Int) := by
        rw [rd_nat _ i (by rw [inked_len]; omega), inked_get, if_pos (by omega)]
      simp only [laws_heldIntS.l0]
      rw [inked_len, if_pos (by omega), if_pos (by omega), if_pos hr, w64 (by omega) (by omega), w64 (by omega) (by omega), Int.add_assoc]
      rfl
  have := key l.length 0 (by omega) (by omega)
  unfold laws_heldIntS.f
  simpa using this

/-! ### bits: sets of numbers below 63 as natural numbers -/
theorem wu64 (n : Int) (h0 : 0 ≤ n) (h1 : n < 2 ^ 63) : IntKind.u64.wrap n = n := by
  simp only [IntKind.wrap, IntKind.bits, IntKind.signed]
  simp
  omega
theorem wi64 (n : Int) (h0 : 0 ≤ n) (h1 : n < 2 ^ 63) : IntKind.i64.wrap n = n := by
  rw [IntKind.wrap_i64]
  omega
/-- a without what b has. -/
def andN (a b : Nat) : Nat := a ^^^ (a &&& b)
theorem testBit_andN (a b i : Nat) : (andN a b).testBit i = (a.testBit i && !b.testBit i) := by
  unfold andN
  rw [Nat.testBit_xor, Nat.testBit_and]
  cases a.testBit i <;> cases b.testBit i <;> rfl
theorem andN_le (a b : Nat) : andN a b ≤ a := by
  apply Nat.le_of_testBit
  intro i h
  rw [testBit_andN] at h
  simp at h
  exact h.1
theorem castlt {n : Nat} (h : n < 2 ^ 63) : ((n : Nat) : Int) < 2 ^ 63 := by exact_mod_cast h
section
variable (k : IntKind) (hk : ∀ n : Int, 0 ≤ n → n < 2 ^ 63 → k.wrap n = n) (hb : k.bits = 64) (a b : Nat) (ha : a < 2 ^ 63) (hbb : b < 2 ^ 63)
include hk hb ha hbb
theorem bits_or : Go.bits .or k a b = ((a ||| b : Nat) : Int) := (bits_nat k 63 (by omega) hk a b ha hbb).2
theorem bits_and : Go.bits .and k a b = ((a &&& b : Nat) : Int) := (bits_nat k 63 (by omega) hk a b ha hbb).1
theorem bits_xor : Go.bits .xor k a b = ((a ^^^ b : Nat) : Int) := by
  have h1 : a % 2 ^ k.bits = a := Nat.mod_eq_of_lt (by rw [hb]; omega)
  have h2 : b % 2 ^ k.bits = b := Nat.mod_eq_of_lt (by rw [hb]; omega)
  simp only [Go.bits, BitVec.ofInt_natCast, BitVec.toNat_xor, BitVec.toNat_ofNat, h1, h2]
  exact hk _ (Int.natCast_nonneg _) (castlt (Nat.xor_lt_two_pow ha hbb))
theorem bits_andNot : Go.bits .andNot k a b = ((andN a b : Nat) : Int) := by
  have h1 : a % 2 ^ k.bits = a := Nat.mod_eq_of_lt (by rw [hb]; omega)
  have h2 : b % 2 ^ k.bits = b := Nat.mod_eq_of_lt (by rw [hb]; omega)
  have e : a &&& (2 ^ k.bits - 1 - b) = andN a b := by
    apply Nat.eq_of_testBit_eq
    intro i
    rw [Nat.testBit_and, testBit_andN, show 2 ^ k.bits - 1 - b = 2 ^ k.bits - (b + 1) by omega, Nat.testBit_two_pow_sub_succ (by rw [hb]; omega)]
    by_cases hi : i < k.bits
    · simp [hi]
    · have : a.testBit i = false := Nat.testBit_lt_two_pow (Nat.lt_of_lt_of_le ha (Nat.pow_le_pow_right (by decide) (by omega)))
      simp [this]
  simp only [Go.bits, BitVec.ofInt_natCast, BitVec.toNat_and, BitVec.toNat_not, BitVec.toNat_ofNat, h1, h2, e]
  exact hk _ (Int.natCast_nonneg _) (castlt (Nat.lt_of_le_of_lt (andN_le a b) ha))
end
theorem oru (a b : Nat) (ha : a < 2 ^ 63) (hb : b < 2 ^ 63) : Go.bits .or .u64 a b = ((a ||| b : Nat) : Int) := bits_or .u64 wu64 rfl a b ha hb
theorem ori (a b : Nat) (ha : a < 2 ^ 63) (hb : b < 2 ^ 63) : Go.bits .or .i64 a b = ((a ||| b : Nat) : Int) := bits_or .i64 wi64 rfl a b ha hb
theorem andu (a b : Nat) (ha : a < 2 ^ 63) (hb : b < 2 ^ 63) : Go.bits .and .u64 a b = ((a &&& b : Nat) : Int) := bits_and .u64 wu64 rfl a b ha hb
theorem andi (a b : Nat) (ha : a < 2 ^ 63) (hb : b < 2 ^ 63) : Go.bits .and .i64 a b = ((a &&& b : Nat) : Int) := bits_and .i64 wi64 rfl a b ha hb
theorem xoru (a b : Nat) (ha : a < 2 ^ 63) (hb : b < 2 ^ 63) : Go.bits .xor .u64 a b = ((a ^^^ b : Nat) : Int) := bits_xor .u64 wu64 rfl a b ha hb
theorem xori (a b : Nat) (ha : a < 2 ^ 63) (hb : b < 2 ^ 63) : Go.bits .xor .i64 a b = ((a ^^^ b : Nat) : Int) := bits_xor .i64 wi64 rfl a b ha hb
theorem andNu (a b : Nat) (ha : a < 2 ^ 63) (hb : b < 2 ^ 63) : Go.bits .andNot .u64 a b = ((andN a b : Nat) : Int) := bits_andNot .u64 wu64 rfl a b ha hb
theorem shl_one (k : IntKind) (hk : ∀ n : Int, 0 ≤ n → n < 2 ^ 63 → k.wrap n = n) (hb : k.bits = 64) (e : Int) (h0 : 0 ≤ e) (h1 : e < 63) : Go.Proofs.YtjkkgnpgjgfidaaW.PrintWords.shl k 1 e = ((2 ^ e.toNat : Nat) : Int) := by
  obtain ⟨n, rfl⟩ := Int.eq_ofNat_of_zero_le h0
  unfold Go.Proofs.YtjkkgnpgjgfidaaW.PrintWords.shl
  rw [Int.toNat_natCast, Nat.min_eq_left (by rw [hb]; omega), Int.one_mul]
  have hp : 2 ^ n < 2 ^ 63 := Nat.pow_lt_pow_right (by decide) (by omega)
  have hc : ((2 : Int) ^ n) = ((2 ^ n : Nat) : Int) := by simp
  rw [hc]
  exact hk _ (Int.natCast_nonneg _) (castlt hp)
theorem shlu (e : Int) (h0 : 0 ≤ e) (h1 : e < 63) : Go.Proofs.YtjkkgnpgjgfidaaW.PrintWords.shl .u64 1 e = ((2 ^ e.toNat : Nat) : Int) := shl_one .u64 wu64 rfl e h0 h1
theorem shli (e : Int) (h0 : 0 ≤ e) (h1 : e < 63) : Go.Proofs.YtjkkgnpgjgfidaaW.PrintWords.shl .i64 1 e = ((2 ^ e.toNat : Nat) : Int) := shl_one .i64 wi64 rfl e h0 h1
/-- The set of a list's numbers. -/
def maskL (l : List Int) : Nat := l.foldl (fun m x => m ||| 2 ^ x.toNat) 0
theorem testBit_pow (e j : Nat) : (2 ^ e).testBit j = decide (e = j) := Nat.testBit_two_pow
theorem foldl_mask_bit (j : Nat) : ∀ (l : List Int) (m : Nat), (l.foldl (fun m x => m ||| 2 ^ x.toNat) m).testBit j = (m.testBit j || l.any (fun x => decide (x.toNat = j)))
  | [], m => by simp
  | x :: l, m => by
    rw [List.foldl_cons, foldl_mask_bit j l, Nat.testBit_or, testBit_pow, List.any_cons, Bool.or_assoc]
theorem maskL_bit (l : List Int) (j : Nat) : (maskL l).testBit j = l.any (fun x => decide (x.toNat = j)) := by
  unfold maskL
  rw [foldl_mask_bit]
  simp
theorem maskL_mem (l : List Int) (h : ∀ x ∈ l, 0 ≤ x) (j : Nat) : (maskL l).testBit j = true ↔ (j : Int) ∈ l := by
  rw [maskL_bit, List.any_eq_true]
  constructor
  · rintro ⟨x, hx, he⟩
    have := h x hx
    simp at he
    have : x = (j : Int) := by omega
    rwa [← this]
  · intro hj
    exact ⟨_, hj, by simp⟩
theorem foldl_mask_lt (N : Nat) : ∀ (l : List Int) (m : Nat), (∀ x ∈ l, x.toNat < N) → m < 2 ^ N → (l.foldl (fun m x => m ||| 2 ^ x.toNat) m) < 2 ^ N
  | [], m, _, hm => hm
  | x :: l, m, h, hm => foldl_mask_lt N l _ (fun y hy => h y (List.mem_cons_of_mem _ hy)) (Nat.or_lt_two_pow hm (Nat.pow_lt_pow_right (by decide) (h x List.mem_cons_self)))
theorem maskL_lt (l : List Int) (N : Nat) (h : ∀ x ∈ l, x.toNat < N) : maskL l < 2 ^ N := foldl_mask_lt N l 0 h (Nat.two_pow_pos N)
theorem range_foldl {σ : Type} (l : List Int) (f : σ → Int → σ) : ∀ s, (List.range' 0 l.length).foldl (fun s (i : Nat) => f s (rd l (i : Int))) s = l.foldl f s := by
  have key : ∀ (d a : Nat) (s : σ), a + d = l.length → (List.range' a d).foldl (fun s (i : Nat) => f s (rd l (i : Int))) s = (l.drop a).foldl f s := by
    intro d
    induction d with
    | zero => intro a s h; rw [List.drop_of_length_le (by omega)]; rfl
    | succ d ih =>
      intro a s h
      have ha : a < l.length := by omega
      rw [List.range'_succ, List.foldl_cons, ih (a + 1) _ (by omega), List.drop_eq_getElem_cons ha, List.foldl_cons, rd_nat l a ha]
  intro s
  have := key l.length 0 s (by omega)
  simpa using this
theorem pow_lt63 {e : Nat} (h : e < 63) : 2 ^ e < 2 ^ 63 := Nat.pow_lt_pow_right (by decide) h
theorem lt63 {n N : Nat} (h : n < 2 ^ N) (hN : N ≤ 63) : n < 2 ^ 63 := Nat.lt_of_lt_of_le h (Nat.pow_le_pow_right (by decide) hN)
theorem and_pow_ne (m e : Nat) : (m &&& 2 ^ e ≠ 0) ↔ m.testBit e = true := by
  constructor
  · intro h
    cases hb : m.testBit e with
    | true => rfl
    | false =>
      exfalso
      apply h
      apply Nat.eq_of_testBit_eq
      intro i
      rw [Nat.testBit_and, testBit_pow, Nat.zero_testBit]
      by_cases hi : e = i
      · subst hi; simp [hb]
      · simp [hi]
  · intro h h0
    have := congrArg (fun n => n.testBit e) h0
    simp [Nat.testBit_and, testBit_pow, h] at this

/-! ### the set of a figure of triangles -/
theorem triGood_parts {a : Int} {l : List Int} (h : triGood a l = true) : inB 1 5 a = true ∧ (∀ x ∈ l, 0 ≤ x ∧ x < 45) ∧ (∀ x ∈ l, x < trN a) ∧ incr l = true := by
  unfold triGood at h
  simp only [Bool.and_eq_true, List.all_eq_true] at h
  obtain ⟨h1, h2, h3⟩ := h
  have hb := trN_bound a
  refine ⟨h1, fun x hx => ?_, fun x hx => ?_, h3⟩
  · have := h2 x hx
    simp [inB] at this
    omega
  · have := h2 x hx
    simp [inB] at this
    omega
theorem triSet_ev (a : Int) (l : List Int) (hl : l.length ≤ 9223372036854775807) (h : ∀ x ∈ l, 0 ≤ x ∧ x < 45) : Ev (fun k => impl_Tri_set.f k a l) ((maskL l : Nat) : Int) := by
  have h0 := fold_ev (fun k (s : Nat) i => impl_Tri_set.l0 k (s : Int) l (l.length : Int) i) (fun s i => s ||| 2 ^ (rd l (i : Int)).toNat) (fun s => ((s : Nat) : Int)) (fun _ s => s < 2 ^ 45) l.length
    (fun s i r hi hs => by
      have hx := h (rd l (i : Int)) (by rw [rd_nat l i hi]; exact List.getElem_mem hi)
      refine ⟨Nat.or_lt_two_pow hs (Nat.pow_lt_pow_right (by decide) (by omega)), fun hr => Ev.step (fun k => ?_) hr⟩
      simp only [impl_Tri_set.l0]
      rw [if_pos (by omega), if_pos (by omega), if_pos (by omega), if_pos hx.1, shlu _ hx.1 (by omega), oru _ _ (lt63 hs (by decide)) (pow_lt63 (by omega)), w64 (by omega) (by omega)]
      rfl)
    (fun s hs => Ev.step (fun k => by simp only [impl_Tri_set.l0]; rw [if_neg (by omega)]) (Ev.now _)) l.length 0 0 (by omega) (by omega) (by decide)
  rw [Nat.sub_zero, range_foldl l (fun m x => m ||| 2 ^ x.toNat)] at h0
  exact h0
theorem mask45 (l : List Int) (h : ∀ x ∈ l, 0 ≤ x ∧ x < 45) : maskL l < 2 ^ 45 := maskL_lt l 45 (fun x hx => by have := h x hx; omega)

/-! ### the reference's set of a figure of triangles -/
theorem trMask_ev (a : Int) (l : List Int) (hl : l.length ≤ 9223372036854775807) (h : ∀ x ∈ l, 0 ≤ x ∧ x < 45) : Ev (fun k => spec_trMask.f k a l) ((maskL l : Nat) : Int) := by
  have h0 := fold_ev (fun k (s : Nat) i => spec_trMask.l0 k (s : Int) l (l.length : Int) i) (fun s i => s ||| 2 ^ (rd l (i : Int)).toNat) (fun s => ((s : Nat) : Int)) (fun _ s => s < 2 ^ 45) l.length
    (fun s i r hi hs => by
      have hx := h (rd l (i : Int)) (by rw [rd_nat l i hi]; exact List.getElem_mem hi)
      refine ⟨Nat.or_lt_two_pow hs (Nat.pow_lt_pow_right (by decide) (by omega)), fun hr => Ev.step (fun k => ?_) hr⟩
      simp only [spec_trMask.l0]
      rw [if_pos (by omega), if_pos (by omega), if_pos (by omega), if_pos hx.1, shli _ hx.1 (by omega), ori _ _ (lt63 hs (by decide)) (pow_lt63 (by omega)), w64 (by omega) (by omega)]
      rfl)
    (fun s hs => Ev.step (fun k => by simp only [spec_trMask.l0]; rw [if_neg (by omega)]) (Ev.now _)) l.length 0 0 (by omega) (by omega) (by decide)
  rw [Nat.sub_zero, range_foldl l (fun m x => m ||| 2 ^ x.toNat)] at h0
  exact h0

/-! ### loops over a list of any kind -/
theorem range_foldlG {α σ : Type} (l : List α) (rdx : Int → α) (hrd : ∀ i, ∀ h : i < l.length, rdx ((i : Nat) : Int) = l[i]) (f : σ → α → σ) : ∀ s, (List.range' 0 l.length).foldl (fun s (i : Nat) => f s (rdx (i : Int))) s = l.foldl f s := by
  have key : ∀ (d a : Nat) (s : σ), a + d = l.length → (List.range' a d).foldl (fun s (i : Nat) => f s (rdx (i : Int))) s = (l.drop a).foldl f s := by
    intro d
    induction d with
    | zero => intro a s h; rw [List.drop_of_length_le (by omega)]; rfl
    | succ d ih =>
      intro a s h
      have ha : a < l.length := by omega
      rw [List.range'_succ, List.foldl_cons, ih (a + 1) _ (by omega), List.drop_eq_getElem_cons ha, List.foldl_cons, hrd a ha]
  intro s
  have := key l.length 0 s (by omega)
  simpa using this
theorem foldl_filter {α β : Type} (p : α → Bool) (g : α → β) : ∀ (l : List α) (s : List β), l.foldl (fun s x => if p x = true then s ++ [g x] else s) s = s ++ (l.filter p).map g
  | [], s => by simp
  | x :: l, s => by
    rw [List.foldl_cons, foldl_filter p g l, List.filter_cons]
    by_cases h : p x = true
    · rw [if_pos h, if_pos h, List.map_cons, List.append_assoc]
      rfl
    · rw [if_neg h, if_neg h]
theorem foldl_filter_le {α β : Type} (p : α → Bool) (g : α → β) (l : List α) (s : List β) (i : Nat) (h : s.length ≤ i) (x : α) : (if p x = true then s ++ [g x] else s).length ≤ i + 1 := by
  split
  · simp
    omega
  · omega

/-! ### triangles that are there -/
theorem there_ev (a : Int) (l : List Int) (hl : l.length ≤ 9223372036854775807) (h : ∀ x ∈ l, 0 ≤ x ∧ x < 45) (L : List S101) (hL : L.length ≤ 1000) (hm : ∀ t ∈ L, 0 ≤ t.f1 ∧ t.f1 < 2 ^ 45) :
    Ev (fun k => impl_there.f k a l L) ((L.filter (fun t => decide (andN t.f1.toNat (maskL l) = 0))).map (fun t => t.f0), true) := by
  have h0 := fold_ev (fun k (s : List (List Int)) i => impl_there.l0 k s L (L.length : Int) i a l) (fun s i => if decide (andN (rd_T101 L (i : Int)).f1.toNat (maskL l) = 0) = true then s ++ [(rd_T101 L (i : Int)).f0] else s) (fun s => (s, true)) (fun i s => s.length ≤ i) L.length
    (fun s i r hi hs => by
      have e : rd_T101 L (i : Int) = L[i] := by unfold rd_T101; rw [Int.toNat_natCast]; simp [List.getD_eq_getElem?_getD, hi]
      have ht := hm (rd_T101 L (i : Int)) (by rw [e]; exact List.getElem_mem hi)
      refine ⟨foldl_filter_le (fun t : S101 => decide (andN t.f1.toNat (maskL l) = 0)) (fun t => t.f0) L s i hs (rd_T101 L (i : Int)), fun hr => ?_⟩
      obtain ⟨t, hte⟩ : ∃ t, rd_T101 L (i : Int) = t := ⟨_, rfl⟩
      rw [hte] at hr ht
      have hb : t.f1 = ((t.f1.toNat : Nat) : Int) := by omega
      refine Ev.step (f := fun k => (impl_Tri_set.f k a l).bind fun t182 => (if (Go.bits .andNot .u64 t.f1 t182) = 0 then (if s.length < 5864062014805 then (impl_there.l0 k (s ++ [t.f0]) L (L.length : Int) (wrap64 ((i : Int) + 1)) a l) else none) else (impl_there.l0 k s L (L.length : Int) (wrap64 ((i : Int) + 1)) a l))) (fun k => ?_) (Ev.bind (triSet_ev a l hl h) ?_)
      · simp only [impl_there.l0]
        rw [if_pos (by omega), if_pos (by omega), if_pos (by omega), hte]
      · rw [hb, andNu _ _ (by have := ht.2; omega) (lt63 (mask45 l h) (by decide)), w64 (by omega) (by omega)]
        by_cases hc : andN t.f1.toNat (maskL l) = 0
        · rw [decide_eq_true hc, if_pos rfl] at hr
          rw [hc]
          refine Ev.congr (fun k => ?_) hr
          rw [if_pos (show ((0 : Nat) : Int) = 0 from rfl), if_pos (by omega)]
          rfl
        · rw [decide_eq_false hc, if_neg (by simp)] at hr
          refine Ev.congr (fun k => ?_) hr
          rw [if_neg (by omega)]
          rfl)
    (fun s hs => Ev.step (fun k => by simp only [impl_there.l0]; rw [if_neg (by omega)]) (Ev.now _)) L.length 0 [] (by omega) (by omega) (by simp)
  rw [Nat.sub_zero, range_foldlG L (fun i => rd_T101 L i) (fun i hi => by unfold rd_T101; rw [Int.toNat_natCast]; simp [List.getD_eq_getElem?_getD, hi]) (fun s t => if decide (andN t.f1.toNat (maskL l) = 0) = true then s ++ [t.f0] else s), foldl_filter (fun t : S101 => decide (andN t.f1.toNat (maskL l) = 0)) (fun t => t.f0)] at h0
  exact h0
theorem those_ev (a : Int) (l : List Int) (hl : l.length ≤ 9223372036854775807) (h : ∀ x ∈ l, 0 ≤ x ∧ x < 45) (b : Bool) (L : List S98) (hL : L.length ≤ 1000) (hm : ∀ t ∈ L, 0 ≤ t.f4 ∧ t.f4 < 2 ^ 45) (hall : Ev (fun k => spec_trAll.f k a b) L) :
    Ev (fun k => spec_trThose.f k a l b) (L.filter (fun t => decide (maskL l &&& t.f4.toNat = t.f4.toNat))) := by
  unfold spec_trThose.f
  refine Ev.bind (trMask_ev a l hl h) (Ev.bind hall ?_)
  have h0 := fold_ev (fun k (s : List S98) i => spec_trThose.l0 k ((maskL l : Nat) : Int) s L (L.length : Int) i) (fun s i => if decide (maskL l &&& (rd_T98 L (i : Int)).f4.toNat = (rd_T98 L (i : Int)).f4.toNat) = true then s ++ [rd_T98 L (i : Int)] else s) (fun s => s) (fun i s => s.length ≤ i) L.length
    (fun s i r hi hs => by
      have e : rd_T98 L (i : Int) = L[i] := by unfold rd_T98; rw [Int.toNat_natCast]; simp [List.getD_eq_getElem?_getD, hi]
      have ht := hm (rd_T98 L (i : Int)) (by rw [e]; exact List.getElem_mem hi)
      refine ⟨foldl_filter_le (fun t : S98 => decide (maskL l &&& t.f4.toNat = t.f4.toNat)) (fun t => t) L s i hs (rd_T98 L (i : Int)), fun hr => ?_⟩
      obtain ⟨t, hte⟩ : ∃ t, rd_T98 L (i : Int) = t := ⟨_, rfl⟩
      rw [hte] at hr ht
      have hb : t.f4 = ((t.f4.toNat : Nat) : Int) := by omega
      refine Ev.step (fun k => ?_) hr
      simp only [spec_trThose.l0]
      rw [if_pos (by omega), if_pos (by omega), if_pos (by omega), hte, show (⟨t.f0, t.f1, t.f2, t.f3, t.f4⟩ : S98) = t from rfl]
      have hand : Go.bits .and .i64 ((maskL l : Nat) : Int) t.f4 = ((maskL l &&& t.f4.toNat : Nat) : Int) := by
        have h1 := andi (maskL l) t.f4.toNat (lt63 (mask45 l h) (by decide)) (by have := ht.2; omega)
        rw [← hb] at h1
        exact h1
      rw [hand, w64 (by omega) (by omega)]
      by_cases hc : maskL l &&& t.f4.toNat = t.f4.toNat
      · rw [if_pos (by omega), if_pos (by omega), decide_eq_true hc, if_pos rfl]
        rfl
      · rw [if_neg (by omega), decide_eq_false hc, if_neg (by simp)]
        rfl)
    (fun s hs => Ev.step (fun k => by simp only [spec_trThose.l0]; rw [if_neg (by omega)]) (Ev.now _)) L.length 0 [] (by omega) (by omega) (by simp)
  rw [Nat.sub_zero, range_foldlG L (fun i => rd_T98 L i) (fun i hi => by unfold rd_T98; rw [Int.toNat_natCast]; simp [List.getD_eq_getElem?_getD, hi]) (fun s t => if decide (maskL l &&& t.f4.toNat = t.f4.toNat) = true then s ++ [t] else s), foldl_filter (fun t : S98 => decide (maskL l &&& t.f4.toNat = t.f4.toNat)) (fun t => t)] at h0
  simpa using h0
theorem covers_iff (m e : Nat) : (andN e m = 0) ↔ (m &&& e = e) := by
  constructor
  · intro h
    apply Nat.eq_of_testBit_eq
    intro i
    have := congrArg (fun n => n.testBit i) h
    simp only [testBit_andN, Nat.zero_testBit] at this
    rw [Nat.testBit_and]
    cases he : e.testBit i <;> cases hm : m.testBit i <;> simp_all
  · intro h
    apply Nat.eq_of_testBit_eq
    intro i
    have := congrArg (fun n => n.testBit i) h
    simp only [Nat.testBit_and] at this
    rw [testBit_andN, Nat.zero_testBit]
    cases he : e.testBit i <;> cases hm : m.testBit i <;> simp_all
theorem filter_maps {α β γ : Type} (p : α → Bool) (q : β → Bool) (f : α → γ) (g : β → γ) (c : γ → Bool) (hp : ∀ x, p x = c (f x)) (hq : ∀ y, q y = c (g y)) (L : List α) (M : List β) (h : L.map f = M.map g) : (L.filter p).map f = (M.filter q).map g := by
  have e1 : L.filter p = L.filter (c ∘ f) := List.filter_congr (fun x _ => hp x)
  have e2 : M.filter q = M.filter (c ∘ g) := List.filter_congr (fun x _ => hq x)
  rw [e1, e2, ← List.filter_map, ← List.filter_map, h]
/-- The two lists of triangles, the program's and the reference's. -/
def told101 (o : Option (List S101)) : Option (List (List Int × Int)) := o.map fun l => l.map fun t => (t.f0, t.f1)
def told98 (o : Option (List S98)) : Option (List (List Int × Int)) := o.map fun l => l.map fun t => ([t.f1, t.f2, t.f3], t.f4)
def small (o : Option (List (List Int × Int))) : Bool := match o with
  | some l => decide (l.length ≤ 1000) && l.all (fun t => decide (0 ≤ t.2) && decide (t.2 < 2 ^ 45))
  | none => false
theorem lists_of (x : Option (List S101)) (y : Option (List S98)) (h : told101 x = told98 y) (hs : small (told101 x) = true) : ∃ L M, x = some L ∧ y = some M ∧ L.map (fun t => (t.f0, t.f1)) = M.map (fun t => ([t.f1, t.f2, t.f3], t.f4)) ∧ L.length ≤ 1000 ∧ M.length ≤ 1000 ∧ (∀ t ∈ L, 0 ≤ t.f1 ∧ t.f1 < 2 ^ 45) ∧ ∀ t ∈ M, 0 ≤ t.f4 ∧ t.f4 < 2 ^ 45 := by
  cases x with
  | none => simp [told101, small] at hs
  | some L =>
    cases y with
    | none => simp [told101, told98] at h
    | some M =>
      have he : L.map (fun t => (t.f0, t.f1)) = M.map (fun t => ([t.f1, t.f2, t.f3], t.f4)) := by simpa [told101, told98] using h
      have hlen : L.length = M.length := by have := congrArg List.length he; simpa using this
      have h1 : L.length ≤ 1000 := by simp [told101, small] at hs; exact hs.1
      have h2 : ∀ u ∈ L.map (fun t => (t.f0, t.f1)), 0 ≤ u.2 ∧ u.2 < 2 ^ 45 := by
        intro u hu
        simp only [told101, small, Option.map_some, Bool.and_eq_true, List.all_eq_true] at hs
        have := hs.2 u hu
        simpa using this
      refine ⟨L, M, rfl, rfl, he, h1, by omega, fun t ht => h2 _ (List.mem_map.2 ⟨t, ht, rfl⟩), fun t ht => ?_⟩
      rw [he] at h2
      exact h2 _ (List.mem_map.2 ⟨t, ht, rfl⟩)
/-- What is told of a kind of triangles: the filters agree. -/
theorem there_those (a : Int) (l : List Int) (hl : l.length ≤ 9223372036854775807) (h : ∀ x ∈ l, 0 ≤ x ∧ x < 45) (b : Bool) (L : List S101) (M : List S98)
    (hall : Ev (fun k => spec_trAll.f k a b) M) (hLM : L.map (fun t => (t.f0, t.f1)) = M.map (fun t => ([t.f1, t.f2, t.f3], t.f4))) (hL : L.length ≤ 1000) (hM : M.length ≤ 1000) (h1 : ∀ t ∈ L, 0 ≤ t.f1 ∧ t.f1 < 2 ^ 45) (h2 : ∀ t ∈ M, 0 ≤ t.f4 ∧ t.f4 < 2 ^ 45) :
    ∃ R : List S98, R.length ≤ 1000 ∧ Ev (fun k => impl_there.f k a l L) (R.map (fun t => [t.f1, t.f2, t.f3]), true) ∧ Ev (fun k => spec_trThose.f k a l b) R := by
  refine ⟨M.filter (fun t => decide (maskL l &&& t.f4.toNat = t.f4.toNat)), Nat.le_trans (List.length_filter_le _ _) hM, ?_, those_ev a l hl h b M hM h2 hall⟩
  have e := there_ev a l hl h L hL h1
  have hf := filter_maps (fun t : S101 => decide (andN t.f1.toNat (maskL l) = 0)) (fun t : S98 => decide (maskL l &&& t.f4.toNat = t.f4.toNat)) (fun t => (t.f0, t.f1)) (fun t => ([t.f1, t.f2, t.f3], t.f4)) (fun u => decide (maskL l &&& u.2.toNat = u.2.toNat)) (fun t => by rw [decide_eq_decide]; exact covers_iff _ _) (fun _ => rfl) L M hLM
  have hg := congrArg (List.map Prod.fst) hf
  simp only [List.map_map] at hg
  have hg2 : ((L.filter (fun t => decide (andN t.f1.toNat (maskL l) = 0))).map (fun t => t.f0)) = (M.filter (fun t => decide (maskL l &&& t.f4.toNat = t.f4.toNat))).map (fun t => [t.f1, t.f2, t.f3]) := hg
  rw [hg2] at e
  exact e

/-! ### the standing triangles, both lists -/
theorem stand_lists (a : Int) (h : inB 1 5 a = true) : ∃ L M, Ev (fun k => impl_standing.f k a) L ∧ Ev (fun k => spec_trAll.f k a false) M ∧ L.map (fun t => (t.f0, t.f1)) = M.map (fun t => ([t.f1, t.f2, t.f3], t.f4)) ∧ L.length ≤ 1000 ∧ M.length ≤ 1000 ∧ (∀ t ∈ L, 0 ≤ t.f1 ∧ t.f1 < 2 ^ 45) ∧ ∀ t ∈ M, 0 ≤ t.f4 ∧ t.f4 < 2 ^ 45 := by
  have key : told101 (impl_standing.f 400 a) = told98 (spec_trAll.f 400 a false) ∧ small (told101 (impl_standing.f 400 a)) = true := by
    rcases lv_cases h with rfl | rfl | rfl | rfl | rfl <;> exact ⟨by decide +kernel, by decide +kernel⟩
  obtain ⟨L, M, hL, hM, hr⟩ := lists_of _ _ key.1 key.2
  exact ⟨L, M, Ev.of (impl_standing.mono a) hL, Ev.of (spec_trAll.mono a false) hM, hr⟩
theorem stand_both (a : Int) (l : List Int) (hl : l.length ≤ 9223372036854775807) (h : triGood a l = true) : ∃ R : List S98, R.length ≤ 1000 ∧ Ev (fun k => (impl_standing.f k a).bind fun t => impl_there.f k a l t) (R.map (fun t => [t.f1, t.f2, t.f3]), true) ∧ Ev (fun k => spec_trThose.f k a l false) R := by
  obtain ⟨h1, hin, _, _⟩ := triGood_parts h
  obtain ⟨L, M, e1, e2, hLM, hL, hM, b1, b2⟩ := stand_lists a h1
  obtain ⟨R, hR, p, q⟩ := there_those a l hl hin false L M e2 hLM hL hM b1 b2
  exact ⟨R, hR, Ev.bind e1 p, q⟩
theorem StandingOf_ev (a : Int) (l : List Int) (hl : l.length ≤ 9223372036854775807) (h : triGood a l = true) : ∃ R : List S98, R.length ≤ 1000 ∧ Ev (fun k => impl_StandingOf.f k a l) (R.map (fun t => [t.f1, t.f2, t.f3]), true) ∧ Ev (fun k => spec_trThose.f k a l false) R := by
  obtain ⟨R, hR, p, q⟩ := stand_both a l hl h
  refine ⟨R, hR, ?_, q⟩
  unfold impl_StandingOf.f
  refine Ev.bind (IsTri_ev a l hl) ?_
  rw [h]
  refine Ev.congr (fun k => ?_) p
  rw [if_pos rfl]
  cases impl_standing.f k a with
  | none => rfl
  | some t =>
    rw [Option.bind_some, Option.bind_some]
    cases impl_there.f k a l t <;> rfl
theorem StandingOf_no (a : Int) (l : List Int) (hl : l.length ≤ 9223372036854775807) (h : triGood a l = false) : Ev (fun k => impl_StandingOf.f k a l) ([], false) := by
  unfold impl_StandingOf.f
  refine Ev.bind (IsTri_ev a l hl) ?_
  rw [h]
  exact Ev.const (by simp)

/-! ### rows of rows: written, read back -/
theorem rdL_nat (X : List (List Int)) (i : Nat) : rd_L1 X (i : Int) = X.getD i [] := by unfold rd_L1; rw [Int.toNat_natCast]
def inkS (X : List (List Int)) (a : Int) (i : Nat) : List (List Int) := (List.range X.length).map (fun j => if j < i then inked (X.getD j []) (a + 3 * (j : Int)) 3 else X.getD j [])
theorem inkS_len (X a i) : (inkS X a i).length = X.length := by simp [inkS]
theorem inkS_get (X : List (List Int)) (a : Int) (i j : Nat) (h : j < X.length) : (inkS X a i).getD j [] = if j < i then inked (X.getD j []) (a + 3 * (j : Int)) 3 else X.getD j [] := by
  simp [inkS, List.getD_eq_getElem?_getD, h]
theorem inkS_set (X : List (List Int)) (a : Int) (i : Nat) : (inkS X a i).set i (inked (X.getD i []) (a + 3 * (i : Int)) 3) = inkS X a (i + 1) := by
  apply List.ext_getElem
  · rw [List.length_set, inkS_len, inkS_len]
  · intro j h1 h2
    rw [inkS_len] at h2
    rw [List.getElem_set]
    simp only [inkS, List.getElem_map, List.getElem_range]
    by_cases hj : i = j
    · subst hj
      rw [if_pos rfl, if_pos (by omega)]
    · rw [if_neg hj]
      by_cases hji : j < i
      · rw [if_pos hji, if_pos (by omega)]
      · rw [if_neg hji, if_neg (by omega)]
theorem inkS_zero (X : List (List Int)) (a : Int) : inkS X a 0 = X := by
  apply List.ext_getElem
  · rw [inkS_len]
  · intro j h1 h2
    simp [inkS, h2]
theorem row_three {X : List (List Int)} (h3 : ∀ x ∈ X, x.length = 3) (i : Nat) (h : i < X.length) : (X.getD i []).length = 3 := by
  rw [List.getD_eq_getElem?_getD, List.getElem?_eq_getElem h]
  exact h3 _ (List.getElem_mem h)
theorem markSS_ev (X : List (List Int)) (a : Int) (hX : X.length ≤ 1000) (h3 : ∀ x ∈ X, x.length = 3) (h0 : 0 ≤ a) (h1 : a ≤ 1000) : Ev (fun k => laws_markIntSS.f k X a) (a + 3 * (X.length : Int), inkS X a X.length) := by
  have key : ∀ d i, X.length - i = d → i ≤ X.length → Ev (fun k => laws_markIntSS.l0 k (inkS X a i) (a + 3 * (i : Int)) (i : Int)) (a + 3 * (X.length : Int), inkS X a X.length) := by
    intro d
    induction d with
    | zero =>
      intro i h hi
      obtain rfl : i = X.length := by omega
      exact Ev.step (fun k => by simp only [laws_markIntSS.l0]; rw [inkS_len, if_neg (by omega)]) (Ev.now _)
    | succ d ih =>
      intro i h hi
      have hx := row_three h3 i (by omega)
      have e := markIntS_ev (X.getD i []) (a + 3 * (i : Int)) (by omega) (by omega) (by omega)
      rw [hx] at e
      refine Ev.step (f := fun k => (laws_markIntS.f k (X.getD i []) (a + 3 * (i : Int))).bind fun p => laws_markIntSS.l0 k ((inkS X a i).set i p.2) p.1 (wrap64 ((i : Int) + 1))) (fun k => ?_) (Ev.bind e ?_)
      · simp only [laws_markIntSS.l0]
        rw [inkS_len, if_pos (by omega), if_pos (by omega), rdL_nat, inkS_get X a i i (by omega), if_neg (by omega), Int.toNat_natCast]
      · have h9 := ih (i + 1) (by omega) (by omega)
        rw [w64 (by omega) (by omega)]
        rw [show a + 3 * ((i + 1 : Nat) : Int) = a + 3 * (i : Int) + ((3 : Nat) : Int) by omega, show ((i + 1 : Nat) : Int) = (i : Int) + 1 by omega, ← inkS_set] at h9
        exact h9
  have := key X.length 0 (by omega) (by omega)
  rw [inkS_zero] at this
  unfold laws_markIntSS.f
  simpa using this
theorem heldSS_ev (X : List (List Int)) (a : Int) (hX : X.length ≤ 1000) (h3 : ∀ x ∈ X, x.length = 3) (h0 : 0 ≤ a) (h1 : a ≤ 1000) : Ev (fun k => laws_heldIntSS.f k (inkS X a X.length) a) (a + 3 * (X.length : Int)) := by
  have key : ∀ d i, X.length - i = d → i ≤ X.length → Ev (fun k => laws_heldIntSS.l0 k (inkS X a X.length) (a + 3 * (i : Int)) (i : Int)) (a + 3 * (X.length : Int)) := by
    intro d
    induction d with
    | zero =>
      intro i h hi
      obtain rfl : i = X.length := by omega
      exact Ev.step (fun k => by simp only [laws_heldIntSS.l0]; rw [inkS_len, if_neg (by omega)]) (Ev.now _)
    | succ d ih =>
      intro i h hi
      have hx := row_three h3 i (by omega)
      have e := heldIntS_ev (X.getD i []) (a + 3 * (i : Int)) (by omega) (by omega) (by omega)
      rw [hx] at e
      refine Ev.step (f := fun k => (laws_heldIntS.f k (inked (X.getD i []) (a + 3 * (i : Int)) 3) (a + 3 * (i : Int))).bind fun t => if t < 0 then some (-1) else laws_heldIntSS.l0 k (inkS X a X.length) t (wrap64 ((i : Int) + 1))) (fun k => ?_) (Ev.bind e ?_)
      · simp only [laws_heldIntSS.l0]
        rw [inkS_len, if_pos (by omega), if_pos (by omega), rdL_nat, inkS_get X a X.length i (by omega), if_pos (by omega)]
      · have h9 := ih (i + 1) (by omega) (by omega)
        rw [w64 (by omega) (by omega)]
        rw [show a + 3 * ((i + 1 : Nat) : Int) = a + 3 * (i : Int) + ((3 : Nat) : Int) by omega, show ((i + 1 : Nat) : Int) = (i : Int) + 1 by omega] at h9
        exact Ev.congr (fun k => if_neg (by omega)) h9
  have := key X.length 0 (by omega) (by omega)
  unfold laws_heldIntSS.f
  simpa using this
theorem eqSS_ev (X : List (List Int)) (hX : X.length ≤ 1000) (h3 : ∀ x ∈ X, x.length = 3) : Ev (fun k => laws_eqIntSS.f k X X) true := by
  have key : ∀ d i, X.length - i = d → i ≤ X.length → Ev (fun k => laws_eqIntSS.l0 k X X (i : Int)) true := by
    intro d
    induction d with
    | zero =>
      intro i h hi
      exact Ev.step (fun k => by simp only [laws_eqIntSS.l0]; rw [if_neg (by omega)]) (Ev.now _)
    | succ d ih =>
      intro i h hi
      have hx := row_three h3 i (by omega)
      have e := eqIntS_ev (X.getD i []) (by omega)
      refine Ev.step (f := fun k => (laws_eqIntS.f k (X.getD i []) (X.getD i [])).bind fun t => if t = true then laws_eqIntSS.l0 k X X (wrap64 ((i : Int) + 1)) else some false) (fun k => ?_) (Ev.bind e ?_)
      · simp only [laws_eqIntSS.l0]
        rw [if_pos (by omega), if_pos (by omega), if_pos (by omega), rdL_nat]
      · rw [w64 (by omega) (by omega)]
        exact Ev.congr (fun k => if_pos rfl) (ih (i + 1) (by omega) (by omega))
  have := key X.length 0 (by omega) (by omega)
  unfold laws_eqIntSS.f
  simpa using this
theorem rows_end (a : Int) (l : List Int) (hl : l.length ≤ 9223372036854775807) (R : List (List Int)) (b : Bool) (hR : R.length ≤ 1000) (h3 : ∀ x ∈ R, x.length = 3) (hs : Ev (fun k => spec_StandingOf.f k a l) (R, b)) (hi : Ev (fun k => impl_StandingOf.f k a l) (R, b)) : ∃ k, laws_FnExactStandingOf.f k a l = some true := by
  unfold laws_FnExactStandingOf.f
  rw [szTri_is a l hl]
  by_cases h : (l.length : Int) ≤ 1000000
  · obtain ⟨K1, e1⟩ := Ev.both hs hi
    obtain ⟨K2, e2⟩ := Ev.both (markIntS_ev l 101 (by omega) (by omega) (by omega)) (markSS_ev R 101 hR h3 (by omega) (by omega))
    obtain ⟨K3, e3⟩ := Ev.both (eqSS_ev R hR h3) (heldSS_ev R 101 hR h3 (by omega) (by omega))
    refine ⟨K1 + K2 + K3, ?_⟩
    have a1 := e1 (K1 + K2 + K3) (by omega)
    have a2 := e2 (K1 + K2 + K3) (by omega)
    have a3 := e3 (K1 + K2 + K3) (by omega)
    rw [Option.bind_some, if_pos h, if_neg (by omega)]
    unfold laws_FnExactStandingOf.rest laws_markTri.f
    rw [a1.1, Option.bind_some, a2.1, Option.bind_some, Option.bind_some, a2.2, Option.bind_some, if_pos a1.2, if_pos (toTri_is a l _ h), if_pos (toTri_is a l _ h), if_pos a3.1, if_pos (intactTri_is a l h), if_pos a3.2, if_pos (by show (0 : Int) ≤ 101 + (l.length : Int); omega), if_pos (by show (0 : Int) ≤ 101 + 3 * (R.length : Int); omega), if_pos (inkS_len _ _ _)]
  · refine ⟨0, ?_⟩
    rw [Option.bind_some, if_neg h, if_pos (by omega)]
/-- The reference's rows. -/
theorem trRows_ev (R : List S98) (hR : R.length ≤ 1000) : Ev (fun k => spec_trRows.f k R) (R.map (fun t => [t.f1, t.f2, t.f3])) := by
  have h0 := fold_ev (fun k (s : List (List Int)) i => spec_trRows.l0 k s R (R.length : Int) i) (fun s i => if (fun _ : S98 => true) (rd_T98 R (i : Int)) = true then s ++ [(fun t : S98 => [t.f1, t.f2, t.f3]) (rd_T98 R (i : Int))] else s) (fun s => s) (fun i s => s.length ≤ i) R.length
    (fun s i r hi hs => by
      refine ⟨foldl_filter_le (fun _ : S98 => true) (fun t => [t.f1, t.f2, t.f3]) R s i hs (rd_T98 R (i : Int)), fun hr => ?_⟩
      refine Ev.step (fun k => ?_) hr
      simp only [spec_trRows.l0]
      rw [if_pos (by omega), if_pos (by omega), if_pos (by omega), if_pos (by omega), w64 (by omega) (by omega)]
      rfl)
    (fun s hs => Ev.step (fun k => by simp only [spec_trRows.l0]; rw [if_neg (by omega)]) (Ev.now _)) R.length 0 [] (by omega) (by omega) (by simp)
  rw [Nat.sub_zero, range_foldlG R (fun i => rd_T98 R i) (fun i hi => by unfold rd_T98; rw [Int.toNat_natCast]; simp [List.getD_eq_getElem?_getD, hi]) (fun s t => if (fun _ : S98 => true) t = true then s ++ [(fun t : S98 => [t.f1, t.f2, t.f3]) t] else s), foldl_filter (fun _ : S98 => true) (fun t => [t.f1, t.f2, t.f3])] at h0
  rw [List.filter_eq_self.2 (fun _ _ => rfl), List.nil_append] at h0
  exact h0

theorem FnExactStandingOf : laws_FnExactStandingOf.Pure := by
  intro a l _ hm _
  have hl := maxLen_le hm
  cases h : triGood a l with
  | false =>
    refine rows_end a l hl [] false (by simp) (fun x hx => by cases hx) ?_ (StandingOf_no a l hl h)
    unfold spec_StandingOf.f
    exact Ev.bind (trGood_ev a l hl) (by rw [h]; exact Ev.const (by simp))
  | true =>
    obtain ⟨R, hR, p, q⟩ := StandingOf_ev a l hl h
    refine rows_end a l hl (R.map (fun t => [t.f1, t.f2, t.f3])) true (by simpa using hR) (fun x hx => by obtain ⟨t, _, rfl⟩ := List.mem_map.1 hx; rfl) ?_ p
    unfold spec_StandingOf.f
    refine Ev.bind (trGood_ev a l hl) ?_
    rw [h]
    exact Ev.congr (fun k => if_pos rfl) (Ev.bind q (Ev.bind (trRows_ev R hR) (Ev.now _)))

end Go.Proofs.Ytjkkgnpgjgfidaa.Pure
