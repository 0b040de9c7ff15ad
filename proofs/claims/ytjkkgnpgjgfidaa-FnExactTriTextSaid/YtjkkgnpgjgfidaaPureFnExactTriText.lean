/- Proved here: the pure statement of FnExactTriText: program and reference write the same text of a figure of triangles. Conditions: the numbers are 64 bit integers, the list is no longer than a slice can be. -/
import Derived.Test.YtjkkgnpgjgfidaaQFnExactTriTextx6
set_option linter.unusedVariables false
set_option linter.unusedSimpArgs false
namespace Go.Proofs.Ytjkkgnpgjgfidaa.Pure
open Go.RowKit Go.Proofs.Ytjkkgnpgjgfidaa.Q Go.Proofs.YtjkkgnpgjgfidaaW.PrintWords Go.Proofs.YtjkkgnpgjgfidaaW.PrintLast

/-! ### base: wrapping, 'from some number of rounds on', loops -/
theorem w64 {n : Int} (h0 : -9223372036854775808 ≤ n) (h1 : n ≤ 9223372036854775807) : wrap64 n = n := by unfold wrap64; omega
theorem wf64 {x : Int} (h : (Lit.int .i64 x).wf = true) : -9223372036854775808 ≤ x ∧ x ≤ 9223372036854775807 := by
  simp [Lit.wf, IntKind.min, IntKind.max, IntKind.signed, IntKind.bits] at h
  omega
theorem maxLen_le {n : Nat} (h : n ≤ maxLen) : n ≤ 9223372036854775807 := by unfold maxLen at h; omega
theorem Ev.both {α β : Type} {g : Nat → Option α} {f : Nat → Option β} {a : α} {b : β} (h : Ev g a) (k : Ev f b) : ∃ K, ∀ n, K ≤ n → g n = some a ∧ f n = some b := by
  obtain ⟨K, h⟩ := h
  obtain ⟨K', k⟩ := k
  exact ⟨max K K', fun n hn => ⟨h n (by omega), k n (by omega)⟩⟩
theorem Ev.const {α : Type} {x : Option α} {r : α} (h : x = some r) : Ev (fun _ => x) r := ⟨0, fun _ _ => h⟩
/-- A loop from lo on that ends early with 'bad', or runs through. -/
theorem all_ev {β : Type} (g : Nat → Int → Option β) (p : Nat → Bool) (good bad : β) (lo n : Nat)
    (hgood : ∀ i r, lo ≤ i → i < n → p i = true → Ev (fun k => g k ((i + 1 : Nat) : Int)) r → Ev (fun k => g k (i : Int)) r)
    (hbad : ∀ i, lo ≤ i → i < n → p i = false → Ev (fun k => g k (i : Int)) bad)
    (fin : ∀ i, n ≤ i → i ≤ n + lo → Ev (fun k => g k (i : Int)) good) : ∀ d a, n - a = d → lo ≤ a → a ≤ n + lo → Ev (fun k => g k (a : Int)) (if (List.range' a (n - a)).all p = true then good else bad) := by
  intro d
  induction d with
  | zero =>
    intro a ha hlo hle
    rw [ha]
    simpa using fin a (by omega) hle
  | succ d ih =>
    intro a ha hlo hle
    rw [ha, List.range'_succ, List.all_cons]
    cases hp : p a with
    | true =>
      have := ih (a + 1) (by omega) (by omega) (by omega)
      rw [show n - (a + 1) = d by omega] at this
      simp only [Bool.true_and]
      exact hgood a _ hlo (by omega) hp this
    | false =>
      simp only [Bool.false_and]
      exact hbad a hlo (by omega) hp
/-- The same where it answers whether all held. -/
theorem all_evB (g : Nat → Int → Option Bool) (p : Nat → Bool) (lo n : Nat)
    (hgood : ∀ i r, lo ≤ i → i < n → p i = true → Ev (fun k => g k ((i + 1 : Nat) : Int)) r → Ev (fun k => g k (i : Int)) r)
    (hbad : ∀ i, lo ≤ i → i < n → p i = false → Ev (fun k => g k (i : Int)) false)
    (fin : ∀ i, n ≤ i → i ≤ n + lo → Ev (fun k => g k (i : Int)) true) : Ev (fun k => g k (lo : Int)) ((List.range' lo (n - lo)).all p) := by
  have h := all_ev g p true false lo n hgood hbad fin (n - lo) lo rfl (Nat.le_refl _) (by omega)
  cases hb : (List.range' lo (n - lo)).all p <;> simpa [hb] using h
/-- A loop that carries a state s; P: what is known of it. -/
theorem fold_ev {σ β : Type} (g : Nat → σ → Int → Option β) (f : σ → Nat → σ) (h : σ → β) (P : Nat → σ → Prop) (n : Nat)
    (step : ∀ s i r, i < n → P i s → (P (i + 1) (f s i) ∧ (Ev (fun k => g k (f s i) ((i + 1 : Nat) : Int)) r → Ev (fun k => g k s (i : Int)) r)))
    (fin : ∀ s, P n s → Ev (fun k => g k s (n : Int)) (h s)) : ∀ d a s, n - a = d → a ≤ n → P a s → Ev (fun k => g k s (a : Int)) (h ((List.range' a (n - a)).foldl f s)) := by
  intro d
  induction d with
  | zero =>
    intro a s ha hle hP
    obtain rfl : a = n := by omega
    simpa using fin s hP
  | succ d ih =>
    intro a s ha hle hP
    rw [ha, List.range'_succ, List.foldl_cons]
    have := step s a (h ((List.range' (a + 1) d).foldl f (f s a))) (by omega) hP
    refine this.2 ?_
    have h2 := ih (a + 1) (f s a) (by omega) (by omega) this.1
    rw [show n - (a + 1) = d by omega] at h2
    exact h2
theorem rd_nat (l : List Int) (i : Nat) (h : i < l.length) : rd l (i : Int) = l[i] := by unfold rd; rw [Int.toNat_natCast]; simp [List.getD_eq_getElem?_getD, h]
theorem all_range (l : List Int) (q : Int → Bool) : (List.range' 0 l.length).all (fun i => q (rd l (i : Int))) = l.all q := by
  rw [Bool.eq_iff_iff, List.all_eq_true, List.all_eq_true]
  constructor
  · intro h x hx
    obtain ⟨i, hi, rfl⟩ := List.getElem_of_mem hx
    have := h i (by simp; omega)
    rwa [rd_nat l i hi] at this
  · intro h i hi
    have hi : i < l.length := by simp at hi; omega
    rw [rd_nat l i hi]
    exact h _ (List.getElem_mem hi)
/-- Strictly increasing. -/
def incr (l : List Int) : Bool := (List.range' 1 (l.length - 1)).all fun i => decide (rd l (i : Int) > rd l ((i : Int) - 1))
theorem incr_iff (l : List Int) : incr l = true ↔ ∀ i, ∀ h : i + 1 < l.length, l[i] < l[i + 1] := by
  unfold incr
  rw [List.all_eq_true]
  constructor
  · intro h i hi
    have := h (i + 1) (by simp; omega)
    rw [rd_nat l (i + 1) hi, show (((i + 1 : Nat) : Int) - 1) = ((i : Nat) : Int) by omega, rd_nat l i (by omega)] at this
    simpa using this
  · intro h i hi
    obtain ⟨j, rfl⟩ : ∃ j, i = j + 1 := ⟨i - 1, by simp at hi; omega⟩
    have hj : j + 1 < l.length := by simp at hi; omega
    rw [rd_nat l (j + 1) hj, show (((j + 1 : Nat) : Int) - 1) = ((j : Nat) : Int) by omega, rd_nat l j (by omega)]
    simpa using h j hj
theorem incr_ge (l : List Int) (h : incr l = true) (h0 : ∀ x ∈ l, 0 ≤ x) : ∀ i (hi : i < l.length), (i : Int) ≤ l[i] := by
  intro i
  induction i with
  | zero => intro hi; exact h0 _ (List.getElem_mem hi)
  | succ i ih =>
    intro hi
    have := ih (by omega)
    have := (incr_iff l).1 h i hi
    omega
theorem incr_len (l : List Int) (h : incr l = true) (m : Int) (hm : l.all (fun x => decide (0 ≤ x) && decide (x ≤ m)) = true) : (l.length : Int) ≤ m + 1 ∨ l = [] := by
  rw [List.all_eq_true] at hm
  by_cases h0 : l = []
  · exact .inr h0
  · left
    have hp := List.length_pos_iff.2 h0
    have h1 := incr_ge l h (fun x hx => by have := hm x hx; simp at this; omega) (l.length - 1) (by omega)
    have h2 := hm _ (List.getElem_mem (show l.length - 1 < l.length by omega))
    simp at h2
    omega

/-! ### the figures of triangles: what is one -/
def lv (a : Int) : Bool := decide (1 ≤ a) && decide (a ≤ 5)
def inB (lo hi : Int) (x : Int) : Bool := decide (lo ≤ x) && decide (x ≤ hi)
theorem l1In_is (a lo hi : Int) : spec_l1In.f a lo hi = some (inB lo hi a) := by
  unfold spec_l1In.f inB
  by_cases h : a ≥ lo
  · rw [if_pos h, decide_eq_true (show lo ≤ a from h), Bool.true_and]
  · rw [if_neg h, decide_eq_false (show ¬ lo ≤ a from h), Bool.false_and]
theorem within_is (a lo hi : Int) : impl_within.f a lo hi = some (inB lo hi a) := by
  unfold impl_within.f inB
  by_cases h : lo ≤ a
  · rw [if_pos h, decide_eq_true h, Bool.true_and]
  · rw [if_neg h, decide_eq_false h, Bool.false_and]
theorem l1All_ev (l : List Int) (hl : l.length ≤ 9223372036854775807) (lo hi : Int) : Ev (fun k => spec_l1All.f k l lo hi) (l.all (inB lo hi)) := by
  have h := all_evB (fun k i => spec_l1All.l0 k lo hi l (l.length : Int) i) (fun i => inB lo hi (rd l (i : Int))) 0 l.length
    (fun i r _ hi hp hr => Ev.step (fun k => by simp only [spec_l1All.l0]; rw [if_pos (by omega), if_pos (by omega), if_pos (by omega), l1In_is, hp, Option.bind_some, if_pos rfl, w64 (by omega) (by omega)]; rfl) hr)
    (fun i _ hi hp => Ev.step (fun k => by simp only [spec_l1All.l0]; rw [if_pos (by omega), if_pos (by omega), if_pos (by omega), l1In_is, hp, Option.bind_some, if_neg (by simp)]) (Ev.now false))
    (fun i hi _ => Ev.step (fun k => by simp only [spec_l1All.l0]; rw [if_neg (by omega)]) (Ev.now true))
  rw [Nat.sub_zero, all_range l (inB lo hi)] at h
  exact h
theorem isRising_ev (l : List Int) (hl : l.length ≤ 9223372036854775807) : Ev (fun k => impl_isRising.f k l) (incr l) :=
  all_evB (fun k i => impl_isRising.l0 k l i) (fun i => decide (rd l (i : Int) > rd l ((i : Int) - 1))) 1 l.length
    (fun i r h0 hi hp hr => Ev.step (fun k => by simp only [impl_isRising.l0]; rw [if_pos (by omega), if_pos (by omega), w64 (by omega) (by omega), if_pos (by omega), if_pos (by omega), if_neg (by simp at hp; omega), w64 (by omega) (by omega)]; rfl) hr)
    (fun i h0 hi hp => Ev.step (fun k => by simp only [impl_isRising.l0]; rw [if_pos (by omega), if_pos (by omega), w64 (by omega) (by omega), if_pos (by omega), if_pos (by omega), if_pos (by simp at hp; omega)]) (Ev.now false))
    (fun i hi _ => Ev.step (fun k => by simp only [impl_isRising.l0]; rw [if_neg (by omega)]) (Ev.now true))
/-- How many edges there are. -/
def trN (a : Int) : Int := if a = 1 then 3 else if a = 2 then 9 else if a = 3 then 18 else if a = 4 then 30 else 45
def triGood (a : Int) (l : List Int) : Bool := inB 1 5 a && (l.all (inB 0 (trN a - 1)) && incr l)
theorem lv_cases {a : Int} (h : inB 1 5 a = true) : a = 1 ∨ a = 2 ∨ a = 3 ∨ a = 4 ∨ a = 5 := by
  simp [inB] at h
  omega
theorem trCells_is {a : Int} (h : inB 1 5 a = true) : ∃ c, spec_trCells.f a = some c ∧ wrap64 (3 * c) = trN a := by
  rcases lv_cases h with rfl | rfl | rfl | rfl | rfl
  · exact ⟨1, by decide +kernel, by decide +kernel⟩
  · exact ⟨3, by decide +kernel, by decide +kernel⟩
  · exact ⟨6, by decide +kernel, by decide +kernel⟩
  · exact ⟨10, by decide +kernel, by decide +kernel⟩
  · exact ⟨15, by decide +kernel, by decide +kernel⟩
theorem edgesOf_is {a : Int} (h : inB 1 5 a = true) : impl_edgesOf.f a = some (trN a) := by
  rcases lv_cases h with rfl | rfl | rfl | rfl | rfl <;> decide +kernel
theorem trN_bound (a : Int) : 3 ≤ trN a ∧ trN a ≤ 45 := by
  unfold trN
  repeat' split
  all_goals omega
theorem trGood_ev (a : Int) (l : List Int) (hl : l.length ≤ 9223372036854775807) : Ev (fun k => spec_trGood.f k a l) (triGood a l) := by
  unfold triGood spec_trGood.f
  rw [l1In_is]
  simp only [Option.bind_some]
  cases hv : inB 1 5 a with
  | false => exact Ev.step (f := fun _ => some false) (fun k => by simp [spec_trGood.j0]) (Ev.now false)
  | true =>
    obtain ⟨c, hc, h3⟩ := trCells_is hv
    have hb := trN_bound a
    simp only [if_true, hc, Option.bind_some, h3, Bool.true_and]
    have h1 : wrap64 (trN a - 1) = trN a - 1 := w64 (by omega) (by omega)
    rw [h1]
    by_cases hlen : (l.length : Int) > trN a
    · simp only [if_pos hlen]
      have hf : (l.all (inB 0 (trN a - 1)) && incr l) = false := by
        cases hi : incr l
        · simp
        · cases ha : l.all (inB 0 (trN a - 1))
          · rfl
          · rcases incr_len l hi (trN a - 1) ha with h | h
            · omega
            · subst h
              simp at hlen
              omega
      rw [hf]
      exact Ev.step (f := fun _ => some false) (fun k => by simp [spec_trGood.j0]) (Ev.now false)
    · simp only [if_neg hlen]
      refine Ev.bind (l1All_ev l hl 0 (trN a - 1)) ?_
      cases ha : l.all (inB 0 (trN a - 1)) with
      | false => exact Ev.step (f := fun _ => some false) (fun k => by simp [spec_trGood.j0]) (Ev.now false)
      | true =>
        refine Ev.step (f := fun k => spec_trGood.l0 k 1 a l) (fun k => by simp only [spec_trGood.j0]; rw [if_neg (by simp)]) ?_
        rw [Bool.true_and]
        exact all_evB (fun k i => spec_trGood.l0 k i a l) (fun i => decide (rd l (i : Int) > rd l ((i : Int) - 1))) 1 l.length
          (fun i r h0 hi hp hr => Ev.step (fun k => by simp only [spec_trGood.l0]; rw [if_pos (by omega), w64 (by omega) (by omega), if_pos (by omega), if_pos (by omega), if_pos (by omega), if_neg (by simp at hp; omega), w64 (by omega) (by omega)]; rfl) hr)
          (fun i h0 hi hp => Ev.step (fun k => by simp only [spec_trGood.l0]; rw [if_pos (by omega), w64 (by omega) (by omega), if_pos (by omega), if_pos (by omega), if_pos (by omega), if_pos (by simp at hp; omega)]) (Ev.now false))
          (fun i hi _ => Ev.step (fun k => by simp only [spec_trGood.l0]; rw [if_neg (by omega)]) (Ev.now true))
theorem IsTri_ev (a : Int) (l : List Int) (hl : l.length ≤ 9223372036854775807) : Ev (fun k => impl_IsTri.f k a l) (triGood a l) := by
  unfold triGood impl_IsTri.f impl_isLevel.f
  rw [within_is]
  simp only [Option.bind_some]
  cases hv : inB 1 5 a with
  | false => exact Ev.now _
  | true =>
    have hb := trN_bound a
    simp only [if_true]
    refine Ev.bind (isRising_ev l hl) ?_
    cases hr : incr l with
    | false => exact Ev.const (by simp)
    | true =>
      rw [edgesOf_is hv]
      simp only [if_true, Option.bind_some]
      rw [w64 (by omega) (by omega)]
      exact Ev.const (by simp [impl_areWithin.f]; rfl)

/-! ### what the laws do about their arguments -/
theorem szIntS_is (l : List Int) (left : Int) (hl : l.length ≤ 9223372036854775807) (h0 : 0 ≤ left) (h1 : left ≤ 1000000) : laws_szIntS.f l left = some (if (l.length : Int) ≤ left then left - (l.length : Int) else -1) := by
  unfold laws_szIntS.f
  rw [w64 (by omega) (by omega)]
  by_cases h : (l.length : Int) ≤ left
  · rw [if_neg (by omega), if_pos h]
  · rw [if_pos (by omega), if_neg h]
theorem szTri_is (a : Int) (l : List Int) (hl : l.length ≤ 9223372036854775807) : laws_szTri.f a l 1000000 = some (if (l.length : Int) ≤ 1000000 then (1000000 : Int) - (l.length : Int) else -1) := by
  unfold laws_szTri.f
  rw [szIntS_is l _ hl (by omega) (by omega)]
  simp only [Option.bind_some]
  by_cases h : (l.length : Int) ≤ 1000000
  · rw [if_pos h, if_neg (by omega)]
  · rw [if_neg h, if_pos (by omega)]
theorem toTri_is (a : Int) (l : List Int) (b : Bool) (h : (l.length : Int) ≤ 1000000) : laws_toTri.f a l b = some (a, l) := by
  unfold laws_toTri.f laws_toIntS.f
  rw [if_pos (by omega)]
  rfl
theorem intactTri_is (a : Int) (l : List Int) (h : (l.length : Int) ≤ 1000000) : laws_intactTri.f a l a l = some true := by
  unfold laws_intactTri.f laws_intactIntS.f
  rw [if_pos rfl, if_pos (by omega)]
  simp

/-! ### bits: sets of numbers below 63 as natural numbers -/
theorem wu64 (n : Int) (h0 : 0 ≤ n) (h1 : n < 2 ^ 63) : IntKind.u64.wrap n = n := by
  simp only [IntKind.wrap, IntKind.bits, IntKind.signed]
  simp
  omega
theorem wi64 (n : Int) (h0 : 0 ≤ n) (h1 : n < 2 ^ 63) : IntKind.i64.wrap n = n := by
  rw [IntKind.wrap_i64]
  omega
/-- a without what b has. -/
def andN (a b : Nat) : Nat := a ^^^ (a &&& b)
theorem testBit_andN (a b i : Nat) : (andN a b).testBit i = (a.testBit i && !b.testBit i) := by
  unfold andN
  rw [Nat.testBit_xor, Nat.testBit_and]
  cases a.testBit i <;> cases b.testBit i <;> rfl
theorem andN_le (a b : Nat) : andN a b ≤ a := by
  apply Nat.le_of_testBit
  intro i h
  rw [testBit_andN] at h
  simp at h
  exact h.1
theorem castlt {n : Nat} (h : n < 2 ^ 63) : ((n : Nat) : Int) < 2 ^ 63 := by exact_mod_cast h
section
variable (k : IntKind) (hk : ∀ n : Int, 0 ≤ n → n < 2 ^ 63 → k.wrap n = n) (hb : k.bits = 64) (a b : Nat) (ha : a < 2 ^ 63) (hbb : b < 2 ^ 63)
include hk hb ha hbb
theorem bits_or : Go.bits .or k a b = ((a ||| b : Nat) : Int) := (bits_nat k 63 (by omega) hk a b ha hbb).2
theorem bits_and : Go.bits .and k a b = ((a &&& b : Nat) : Int) := (bits_nat k 63 (by omega) hk a b ha hbb).1
theorem bits_xor : Go.bits .xor k a b = ((a ^^^ b : Nat) : Int) := by
  have h1 : a % 2 ^ k.bits = a := Nat.mod_eq_of_lt (by rw [hb]; omega)
  have h2 : b % 2 ^ k.bits = b := Nat.mod_eq_of_lt (by rw [hb]; omega)
  simp only [Go.bits, BitVec.ofInt_natCast, BitVec.toNat_xor, BitVec.toNat_ofNat, h1, h2]
  exact hk _ (Int.natCast_nonneg _) (castlt (Nat.xor_lt_two_pow ha hbb))
theorem bits_andNot : Go.bits .andNot k a b = ((andN a b : Nat) : Int) := by
  have h1 : a % 2 ^ k.bits = a := Nat.mod_eq_of_lt (by rw [hb]; omega)
  have h2 : b % 2 ^ k.bits = b := Nat.mod_eq_of_lt (by rw [hb]; omega)
  have e : a &&& (2 ^ k.bits - 1 - b) = andN a b := by
    apply Nat.eq_of_testBit_eq
    intro i
    rw [Nat.testBit_and, testBit_andN, show 2 ^ k.bits - 1 - b = 2 ^ k.bits - (b + 1) by omega, Nat.testBit_two_pow_sub_succ (by rw [hb]; omega)]
    by_cases hi : i < k.bits
    · simp [hi]
    · have : a.testBit i = false := Nat.testBit_lt_two_pow (Nat.lt_of_lt_of_le ha (Nat.pow_le_pow_right (by decide) (by omega)))
      simp [this]
  simp only [Go.bits, BitVec.ofInt_natCast, BitVec.toNat_and, BitVec.toNat_not, BitVec.toNat_ofNat, h1, h2, e]
  exact hk _ (Int.natCast_nonneg _) (castlt (Nat.lt_of_le_of_lt (andN_le a b) ha))
end
theorem oru (a b : Nat) (ha : a < 2 ^ 63) (hb : b < 2 ^ 63) : Go.bits .or .u64 a b = ((a ||| b : Nat) : Int) := bits_or .u64 wu64 rfl a b ha hb
theorem ori (a b : Nat) (ha : a < 2 ^ 63) (hb : b < 2 ^ 63) : Go.bits .or .i64 a b = ((a ||| b : Nat) : Int) := bits_or .i64 wi64 rfl a b ha hb
theorem andu (a b : Nat) (ha : a < 2 ^ 63) (hb : b < 2 ^ 63) : Go.bits .and .u64 a b = ((a &&& b : Nat) : Int) := bits_and .u64 wu64 rfl a b ha hb
theorem andi (a b : Nat) (ha : a < 2 ^ 63) (hb : b < 2 ^ 63) : Go.bits .and .i64 a b = ((a &&& b : Nat) : Int) := bits_and .i64 wi64 rfl a b ha hb
theorem xoru (a b : Nat) (ha : a < 2 ^ 63) (hb : b < 2 ^ 63) : Go.bits .xor .u64 a b = ((a ^^^ b : Nat) : Int) := bits_xor .u64 wu64 rfl a b ha hb
theorem xori (a b : Nat) (ha : a < 2 ^ 63) (hb : b < 2 ^ 63) : Go.bits .xor .i64 a b = ((a ^^^ b : Nat) : Int) := bits_xor .i64 wi64 rfl a b ha hb
theorem andNu (a b : Nat) (ha : a < 2 ^ 63) (hb : b < 2 ^ 63) : Go.bits .andNot .u64 a b = ((andN a b : Nat) : Int) := bits_andNot .u64 wu64 rfl a b ha hb
theorem shl_one (k : IntKind) (hk : ∀ n : Int, 0 ≤ n → n < 2 ^ 63 → k.wrap n = n) (hb : k.bits = 64) (e : Int) (h0 : 0 ≤ e) (h1 : e < 63) : Go.Proofs.YtjkkgnpgjgfidaaW.PrintWords.shl k 1 e = ((2 ^ e.toNat : Nat) : Int) := by
  obtain ⟨n, rfl⟩ := Int.eq_ofNat_of_zero_le h0
  unfold Go.Proofs.YtjkkgnpgjgfidaaW.PrintWords.shl
  rw [Int.toNat_natCast, Nat.min_eq_left (by rw [hb]; omega), Int.one_mul]
  have hp : 2 ^ n < 2 ^ 63 := Nat.pow_lt_pow_right (by decide) (by omega)
  have hc : ((2 : Int) ^ n) = ((2 ^ n : Nat) : Int) := by simp
  rw [hc]
  exact hk _ (Int.natCast_nonneg _) (castlt hp)
theorem shlu (e : Int) (h0 : 0 ≤ e) (h1 : e < 63) : Go.Proofs.YtjkkgnpgjgfidaaW.PrintWords.shl .u64 1 e = ((2 ^ e.toNat : Nat) : Int) := shl_one .u64 wu64 rfl e h0 h1
theorem shli (e : Int) (h0 : 0 ≤ e) (h1 : e < 63) : Go.Proofs.YtjkkgnpgjgfidaaW.PrintWords.shl .i64 1 e = ((2 ^ e.toNat : Nat) : Int) := shl_one .i64 wi64 rfl e h0 h1
/-- The set of a list's numbers. -/
def maskL (l : List Int) : Nat := l.foldl (fun m x => m ||| 2 ^ x.toNat) 0
theorem testBit_pow (e j : Nat) : (2 ^ e).testBit j = decide (e = j) := Nat.testBit_two_pow
theorem foldl_mask_bit (j : Nat) : ∀ (l : List Int) (m : Nat), (l.foldl (fun m x => m ||| 2 ^ x.toNat) m).testBit j = (m.testBit j || l.any (fun x => decide (x.toNat = j)))
  | [], m => by simp
  | x :: l, m => by
    rw [List.foldl_cons, foldl_mask_bit j l, Nat.testBit_or, testBit_pow, List.any_cons, Bool.or_assoc]
theorem maskL_bit (l : List Int) (j : Nat) : (maskL l).testBit j = l.any (fun x => decide (x.toNat = j)) := by
  unfold maskL
  rw [foldl_mask_bit]
  simp
theorem maskL_mem (l : List Int) (h : ∀ x ∈ l, 0 ≤ x) (j : Nat) : (maskL l).testBit j = true ↔ (j : Int) ∈ l := by
  rw [maskL_bit, List.any_eq_true]
  constructor
  · rintro ⟨x, hx, he⟩
    have := h x hx
    simp at he
    have : x = (j : Int) := by omega
    rwa [← this]
  · intro hj
    exact ⟨_, hj, by simp⟩
theorem foldl_mask_lt (N : Nat) : ∀ (l : List Int) (m : Nat), (∀ x ∈ l, x.toNat < N) → m < 2 ^ N → (l.foldl (fun m x => m ||| 2 ^ x.toNat) m) < 2 ^ N
  | [], m, _, hm => hm
  | x :: l, m, h, hm => foldl_mask_lt N l _ (fun y hy => h y (List.mem_cons_of_mem _ hy)) (Nat.or_lt_two_pow hm (Nat.pow_lt_pow_right (by decide) (h x List.mem_cons_self)))
theorem maskL_lt (l : List Int) (N : Nat) (h : ∀ x ∈ l, x.toNat < N) : maskL l < 2 ^ N := foldl_mask_lt N l 0 h (Nat.two_pow_pos N)
theorem range_foldl {σ : Type} (l : List Int) (f : σ → Int → σ) : ∀ s, (List.range' 0 l.length).foldl (fun s (i : Nat) => f s (rd l (i : Int))) s = l.foldl f s := by
  have key : ∀ (d a : Nat) (s : σ), a + d = l.length → (List.range' a d).foldl (fun s (i : Nat) => f s (rd l (i : Int))) s = (l.drop a).foldl f s := by
    intro d
    induction d with
    | zero => intro a s h; rw [List.drop_of_length_le (by omega)]; rfl
    | succ d ih =>
      intro a s h
      have ha : a < l.length := by omega
      rw [List.range'_succ, List.foldl_cons, ih (a + 1) _ (by omega), List.drop_eq_getElem_cons ha, List.foldl_cons, rd_nat l a ha]
  intro s
  have := key l.length 0 s (by omega)
  simpa using this
theorem pow_lt63 {e : Nat} (h : e < 63) : 2 ^ e < 2 ^ 63 := Nat.pow_lt_pow_right (by decide) h
theorem lt63 {n N : Nat} (h : n < 2 ^ N) (hN : N ≤ 63) : n < 2 ^ 63 := Nat.lt_of_lt_of_le h (Nat.pow_le_pow_right (by decide) hN)
theorem and_pow_ne (m e : Nat) : (m &&& 2 ^ e ≠ 0) ↔ m.testBit e = true := by
  constructor
  · intro h
    cases hb : m.testBit e with
    | true => rfl
    | false =>
      exfalso
      apply h
      apply Nat.eq_of_testBit_eq
      intro i
      rw [Nat.testBit_and, testBit_pow, Nat.zero_testBit]
      by_cases hi : e = i
      · subst hi; simp [hb]
      · simp [hi]
  · intro h h0
    have := congrArg (fun n => n.testBit e) h0
    simp [Nat.testBit_and, testBit_pow, h] at this

/-! ### the set of a figure of triangles -/
theorem triGood_parts {a : Int} {l : List Int} (h : triGood a l = true) : inB 1 5 a = true ∧ (∀ x ∈ l, 0 ≤ x ∧ x < 45) ∧ (∀ x ∈ l, x < trN a) ∧ incr l = true := by
  unfold triGood at h
  simp only [Bool.and_eq_true, List.all_eq_true] at h
  obtain ⟨h1, h2, h3⟩ := h
  have hb := trN_bound a
  refine ⟨h1, fun x hx => ?_, fun x hx => ?_, h3⟩
  · have := h2 x hx
    simp [inB] at this
    omega
  · have := h2 x hx
    simp [inB] at this
    omega
theorem triSet_ev (a : Int) (l : List Int) (hl : l.length ≤ 9223372036854775807) (h : ∀ x ∈ l, 0 ≤ x ∧ x < 45) : Ev (fun k => impl_Tri_set.f k a l) ((maskL l : Nat) : Int) := by
  have h0 := fold_ev (fun k (s : Nat) i => impl_Tri_set.l0 k (s : Int) l (l.length : Int) i) (fun s i => s ||| 2 ^ (rd l (i : Int)).toNat) (fun s => ((s : Nat) : Int)) (fun _ s => s < 2 ^ 45) l.length
    (fun s i r hi hs => by
      have hx := h (rd l (i : Int)) (by rw [rd_nat l i hi]; exact List.getElem_mem hi)
      refine ⟨Nat.or_lt_two_pow hs (Nat.pow_lt_pow_right (by decide) (by omega)), fun hr => Ev.step (fun k => ?_) hr⟩
      simp only [impl_Tri_set.l0]
      rw [if_pos (by omega), if_pos (by omega), if_pos (by omega), if_pos hx.1, shlu _ hx.1 (by omega), oru _ _ (lt63 hs (by decide)) (pow_lt63 (by omega)), w64 (by omega) (by omega)]
      rfl)
    (fun s hs => Ev.step (fun k => by simp only [impl_Tri_set.l0]; rw [if_neg (by omega)]) (Ev.now _)) l.length 0 0 (by omega) (by omega) (by decide)
  rw [Nat.sub_zero, range_foldl l (fun m x => m ||| 2 ^ x.toNat)] at h0
  exact h0
theorem mask45 (l : List Int) (h : ∀ x ∈ l, 0 ≤ x ∧ x < 45) : maskL l < 2 ^ 45 := maskL_lt l 45 (fun x hx => by have := h x hx; omega)

/-! ### the reference's set of a figure of triangles -/
theorem trMask_ev (a : Int) (l : List Int) (hl : l.length ≤ 9223372036854775807) (h : ∀ x ∈ l, 0 ≤ x ∧ x < 45) : Ev (fun k => spec_trMask.f k a l) ((maskL l : Nat) : Int) := by
  have h0 := fold_ev (fun k (s : Nat) i => spec_trMask.l0 k (s : Int) l (l.length : Int) i) (fun s i => s ||| 2 ^ (rd l (i : Int)).toNat) (fun s => ((s : Nat) : Int)) (fun _ s => s < 2 ^ 45) l.length
    (fun s i r hi hs => by
      have hx := h (rd l (i : Int)) (by rw [rd_nat l i hi]; exact List.getElem_mem hi)
      refine ⟨Nat.or_lt_two_pow hs (Nat.pow_lt_pow_right (by decide) (by omega)), fun hr => Ev.step (fun k => ?_) hr⟩
      simp only [spec_trMask.l0]
      rw [if_pos (by omega), if_pos (by omega), if_pos (by omega), if_pos hx.1, shli _ hx.1 (by omega), ori _ _ (lt63 hs (by decide)) (pow_lt63 (by omega)), w64 (by omega) (by omega)]
      rfl)
    (fun s hs => Ev.step (fun k => by simp only [spec_trMask.l0]; rw [if_neg (by omega)]) (Ev.now _)) l.length 0 0 (by omega) (by omega) (by decide)
  rw [Nat.sub_zero, range_foldl l (fun m x => m ||| 2 ^ x.toNat)] at h0
  exact h0

def mkT (l : List UInt8) : ByteArray := ⟨l.toArray⟩
theorem mkT_app (a b : List UInt8) : mkT a ++ mkT b = mkT (a ++ b) := by
  apply ByteArray.ext
  rw [ByteArray.data_append]
  simp [mkT]
theorem mkT_size (l : List UInt8) : (mkT l).size = l.length := by simp [mkT, ByteArray.size]
/-- The number of a cell's first edge. -/
def eN (r p : Nat) : Nat := 3 * (r * (r + 1) / 2 + p)
theorem eN_all : ∀ r : Fin 5, ∀ p : Fin 5, ∀ q : Fin 3, p.val ≤ r.val → spec_trEdge.f (r.val : Int) (p.val : Int) (q.val : Int) = some ((eN r.val p.val + q.val : Nat) : Int) ∧ impl_side.f (r.val : Int) (p.val : Int) (q.val : Int) = some ((2 ^ (eN r.val p.val + q.val) : Nat) : Int) ∧ eN r.val p.val + q.val < 45 := by decide +kernel
theorem eN_is {r p q : Nat} (hr : r < 5) (hp : p ≤ r) (hq : q < 3) : spec_trEdge.f (r : Int) (p : Int) (q : Int) = some ((eN r p + q : Nat) : Int) ∧ impl_side.f (r : Int) (p : Int) (q : Int) = some ((2 ^ (eN r p + q) : Nat) : Int) ∧ eN r p + q < 45 :=
  eN_all ⟨r, hr⟩ ⟨p, by omega⟩ ⟨q, hq⟩ hp
/-- What the three edges of a cell sum up to. -/
def dig (m e : Nat) : Nat := (if m.testBit e = true then 1 else 0) + (if m.testBit (e + 1) = true then 2 else 0) + (if m.testBit (e + 2) = true then 4 else 0)
theorem dig_lt (m e : Nat) : dig m e < 8 := by unfold dig; split <;> split <;> split <;> omega
theorem dig_is (m e : Nat) : (m >>> e) % 8 = dig m e := by
  have h : ∀ i, m.testBit (e + i) = decide ((m >>> e) / 2 ^ i % 2 = 1) := fun i => by rw [← Nat.testBit_eq_decide_div_mod_eq, Nat.testBit_shiftRight]
  have h0 := h 0
  have h1 := h 1
  have h2 := h 2
  unfold dig
  rw [Nat.add_zero] at h0
  rw [h0, h1, h2]
  generalize m >>> e = x
  simp only [decide_eq_true_eq, Nat.pow_zero, Nat.div_one, Nat.pow_one, show 2 ^ 2 = 4 from rfl]
  split <;> split <;> split <;> omega
def cellB (m r p : Nat) : UInt8 := UInt8.ofNat (48 + dig m (eN r p))
def rowT (m r p : Nat) : List UInt8 := (List.range p).map (cellB m r)
theorem rowT_succ (m r p : Nat) : rowT m r (p + 1) = rowT m r p ++ [cellB m r p] := by simp [rowT, List.range_succ]
def allT (m n : Nat) : List (List UInt8) := (List.range n).map fun r => rowT m r (r + 1)
theorem allT_succ (m n : Nat) : allT m (n + 1) = allT m n ++ [rowT m n (n + 1)] := by simp [allT, List.range_succ]
def text (m n : Nat) : List UInt8 := Lib.join (allT m n) [47]
theorem join_snoc (xs : List (List UInt8)) (y : List UInt8) : Lib.join (xs ++ [y]) [47] = (if xs = [] then [] else Lib.join xs [47] ++ [47]) ++ y := by
  cases xs with
  | nil => simp [Lib.join_one]
  | cons x r =>
    rw [List.cons_append, Lib.join_cons, Lib.join_cons, if_neg (by simp)]
    simp [Lib.joinTail]
theorem text_succ (m n : Nat) : text m (n + 1) = (if n = 0 then [] else text m n ++ [47]) ++ rowT m n (n + 1) := by
  unfold text
  rw [allT_succ, join_snoc]
  congr 1
  by_cases h : n = 0
  · subst h; rfl
  · rw [if_neg h, if_neg (by intro e; have := congrArg List.length e; simp [allT] at this; omega)]
theorem text_len (m : Nat) : ∀ n, n ≤ 5 → (text m n).length ≤ 7 * n
  | 0, _ => by simp [text, allT, Lib.join_nil]
  | n + 1, h => by
    have ih := text_len m n (by omega)
    rw [text_succ, List.length_append]
    have : (rowT m n (n + 1)).length = n + 1 := by simp [rowT]
    rw [this]
    split
    · simp; omega
    · simp; omega
/-! the reference -/
theorem num_ev (d : Nat) (h : d < 8) : Ev (fun k => spec_l1Num.f k (d : Int)) (mkT [UInt8.ofNat (48 + d)]) := by
  refine Ev.step (f := fun _ => some (mkT [UInt8.ofNat (48 + d)])) (fun k => ?_) (Ev.now _)
  simp only [spec_l1Num.f]
  rw [if_pos (by omega), w64 (by omega) (by omega), show (48 + (d : Int)) % 256 = ((48 + d : Nat) : Int) by omega]
  rfl
theorem spec_row (m n r : Nat) (l : List Int) (hm : m < 2 ^ 45) (hr : r < 5) (v : ByteArray) (L : List UInt8) (hL : L.length ≤ 1000)
    (fin : Ev (fun k => spec_trText.l0 k (m : Int) (mkT (L ++ rowT m r (r + 1))) ((r + 1 : Nat) : Int) (n : Int) l) v) :
    ∀ d p, p + d = r + 1 → Ev (fun k => spec_trText.l1 k (m : Int) (mkT (L ++ rowT m r p)) (r : Int) (p : Int) (n : Int) l) v := by
  intro d
  induction d with
  | zero =>
    intro p hp
    obtain rfl : p = r + 1 := by omega
    refine Ev.step (fun k => ?_) fin
    simp only [spec_trText.l1]
    rw [if_neg (by omega), w64 (by omega) (by omega)]
    rfl
  | succ d ih =>
    intro p hp
    have h9 := ih (p + 1) (by omega)
    have he := eN_is (q := 0) hr (show p ≤ r by omega) (by omega)
    have hsh : Go.Proofs.YtjkkgnpgjgfidaaW.PrintWords.shr .i64 (m : Int) ((eN r p + 0 : Nat) : Int) = ((m >>> eN r p : Nat) : Int) := by
      unfold Go.Proofs.YtjkkgnpgjgfidaaW.PrintWords.shr
      rw [Int.toNat_natCast, Nat.shiftRight_eq_div_pow, Nat.min_eq_left (by show eN r p + 0 ≤ 64; omega)]
      simp
    refine Ev.step (f := fun k => (spec_l1Num.f k (dig m (eN r p) : Int)).bind fun t => if (mkT (L ++ rowT m r p)).size + t.size ≤ 9223372036854775807 then spec_trText.l1 k (m : Int) (mkT (L ++ rowT m r p) ++ t) (r : Int) ((p + 1 : Nat) : Int) (n : Int) l else none) (fun k => ?_) (Ev.bind (num_ev _ (dig_lt _ _)) ?_)
    · simp only [spec_trText.l1]
      rw [if_pos (by omega), show (0 : Int) = ((0 : Nat) : Int) from rfl, he.1, Option.bind_some, if_pos (by omega), hsh, Int.tmod_eq_emod_of_nonneg (Int.natCast_nonneg _), show (((m >>> eN r p : Nat) : Int) % 8) = (((m >>> eN r p) % 8 : Nat) : Int) from (Int.natCast_emod _ _).symm, dig_is, w64 (by omega) (by omega)]
      rfl
    · refine Ev.congr (fun k => if_pos (by rw [mkT_size, mkT_size]; simp [rowT]; omega)) ?_
      rw [mkT_app, List.append_assoc]
      rw [rowT_succ] at h9
      exact h9
theorem spec_text (a : Int) (l : List Int) (m n : Nat) (hm : m < 2 ^ 45) (hn : n ≤ 5) :
    ∀ d r, r + d = n → Ev (fun k => spec_trText.l0 k (m : Int) (mkT (text m r)) (r : Int) (n : Int) l) (mkT (text m n)) := by
  intro d
  induction d with
  | zero =>
    intro r hr
    obtain rfl : r = n := by omega
    exact Ev.step (fun k => by simp only [spec_trText.l0]; rw [if_neg (by omega)]) (Ev.now _)
  | succ d ih =>
    intro r hr
    have h9 := ih (r + 1) (by omega)
    have hl := text_len m r (by omega)
    rw [text_succ] at h9
    by_cases h0 : r = 0
    · subst h0
      have h := spec_row m n 0 l hm (by omega) _ [] (by simp) (by simpa using h9) 1 0 rfl
      refine Ev.step (f := fun k => spec_trText.j1 k (m : Int) (mkT (text m 0)) ((0 : Nat) : Int) (n : Int) l) (fun k => by simp only [spec_trText.l0]; rw [if_pos (by omega), if_neg (by omega)]) ?_
      exact Ev.step (fun k => by simp only [spec_trText.j1]; rfl) h
    · rw [if_neg h0] at h9
      have h := spec_row m n r l hm (by omega) _ (text m r ++ [47]) (by simp; omega) h9 (r + 1) 0 (by omega)
      refine Ev.step (f := fun k => spec_trText.j1 k (m : Int) (mkT (text m r) ++ (⟨#[47]⟩ : ByteArray)) (r : Int) (n : Int) l) (fun k => by simp only [spec_trText.l0]; rw [if_pos (by omega), if_pos (by omega), if_pos (by rw [mkT_size]; omega)]) ?_
      rw [show (⟨#[47]⟩ : ByteArray) = mkT [47] from rfl, mkT_app]
      refine Ev.step (fun k => by simp only [spec_trText.j1]; rfl) ?_
      have e : rowT m r 0 = [] := rfl
      rw [e, List.append_nil] at h
      exact h
/-! the program -/
theorem impl_kind (a : Int) (l : List Int) (hl : l.length ≤ 9223372036854775807) (hin : ∀ x ∈ l, 0 ≤ x ∧ x < 45) (rows : List ByteArray) (r p q : Nat) (hr : r < 5) (hp : p ≤ r) (hq : q < 3) (bs : List Int) (d n : Nat) (hd : d + 2 ^ q < 256) (v : ByteArray)
    (h : Ev (fun k => impl_triText.l2 k rows (r : Int) bs (p : Int) ((d + if (maskL l).testBit (eN r p + q) = true then 2 ^ q else 0 : Nat) : Int) (n : Int) (r : Int) ((r + 1 : Nat) : Int) (p : Int) ((q + 1 : Nat) : Int) a l) v) :
    Ev (fun k => impl_triText.l2 k rows (r : Int) bs (p : Int) (d : Int) (n : Int) (r : Int) ((r + 1 : Nat) : Int) (p : Int) (q : Int) a l) v := by
  have he := eN_is hr hp hq
  have hb : Go.bits .and .u64 ((maskL l : Nat) : Int) ((2 ^ (eN r p + q) : Nat) : Int) = ((maskL l &&& 2 ^ (eN r p + q) : Nat) : Int) := andu _ _ (lt63 (mask45 l hin) (by decide)) (pow_lt63 (by omega))
  have hbit := and_pow_ne (maskL l) (eN r p + q)
  refine Ev.step (f := fun k => (impl_Tri_set.f k a l).bind fun t => if Go.bits .and .u64 t ((2 ^ (eN r p + q) : Nat) : Int) = 0 then impl_triText.l2 k rows (r : Int) bs (p : Int) (d : Int) (n : Int) (r : Int) ((r + 1 : Nat) : Int) (p : Int) ((q + 1 : Nat) : Int) a l else impl_triText.l2 k rows (r : Int) bs (p : Int) ((d : Int) + 2 ^ q) (n : Int) (r : Int) ((r + 1 : Nat) : Int) (p : Int) ((q + 1 : Nat) : Int) a l) (fun k => ?_) (Ev.bind (triSet_ev a l hl hin) ?_)
  · simp only [impl_triText.l2]
    rw [if_pos (by omega)]
    congr 1
    funext t
    rw [he.2.1, Option.bind_some, w64 (n := (q : Int) + 1) (by omega) (by omega)]
    have hs : ((d : Int) + Go.Proofs.YtjkkgnpgjgfidaaW.PrintWords.shl .u8 1 (q : Int)) % 256 = (d : Int) + 2 ^ q := by
      have : q = 0 ∨ q = 1 ∨ q = 2 := by omega
      rcases this with rfl | rfl | rfl
      · rw [show Go.Proofs.YtjkkgnpgjgfidaaW.PrintWords.shl .u8 1 ((0 : Nat) : Int) = 1 by decide]; simp at hd ⊢; omega
      · rw [show Go.Proofs.YtjkkgnpgjgfidaaW.PrintWords.shl .u8 1 ((1 : Nat) : Int) = 2 by decide]; simp at hd ⊢; omega
      · rw [show Go.Proofs.YtjkkgnpgjgfidaaW.PrintWords.shl .u8 1 ((2 : Nat) : Int) = 4 by decide]; simp at hd ⊢; omega
    rw [hs, if_pos (show (0 : Int) ≤ (q : Int) by omega)]
    rfl
  · rw [hb]
    by_cases ht : (maskL l).testBit (eN r p + q) = true
    · have hne := hbit.2 ht
      rw [if_pos ht] at h
      refine Ev.congr (fun k => if_neg (by omega)) ?_
      rw [show (d : Int) + 2 ^ q = ((d + 2 ^ q : Nat) : Int) by simp]
      exact h
    · have hz : maskL l &&& 2 ^ (eN r p + q) = 0 := Classical.byContradiction fun hne => ht (hbit.1 hne)
      rw [if_neg ht, Nat.add_zero] at h
      rw [hz]
      exact Ev.congr (fun k => if_pos rfl) h
theorem impl_cell (a : Int) (l : List Int) (hl : l.length ≤ 9223372036854775807) (hin : ∀ x ∈ l, 0 ≤ x ∧ x < 45) (rows : List ByteArray) (r p : Nat) (hr : r < 5) (hp : p ≤ r) (bs : List Int) (hb : bs.length ≤ 10) (n : Nat) (v : ByteArray)
    (h : Ev (fun k => impl_triText.l1 k rows (r : Int) (bs ++ [((48 + dig (maskL l) (eN r p) : Nat) : Int)]) (n : Int) (r : Int) ((r + 1 : Nat) : Int) ((p + 1 : Nat) : Int) a l) v) :
    Ev (fun k => impl_triText.l1 k rows (r : Int) bs (n : Int) (r : Int) ((r + 1 : Nat) : Int) (p : Int) a l) v := by
  refine Ev.step (f := fun k => impl_triText.l2 k rows (r : Int) bs (p : Int) ((48 : Nat) : Int) (n : Int) (r : Int) ((r + 1 : Nat) : Int) (p : Int) ((0 : Nat) : Int) a l) (fun k => by simp only [impl_triText.l1]; rw [if_pos (by omega)]; rfl) ?_
  have s3 : ∀ d : Nat, d = 48 + dig (maskL l) (eN r p) → Ev (fun k => impl_triText.l2 k rows (r : Int) bs (p : Int) (d : Int) (n : Int) (r : Int) ((r + 1 : Nat) : Int) (p : Int) ((3 : Nat) : Int) a l) v := fun d hd => by
    refine Ev.step (fun k => ?_) h
    simp only [impl_triText.l2]
    rw [if_neg (by omega), if_pos (by omega), w64 (by omega) (by omega), hd]
    rfl
  refine impl_kind a l hl hin rows r p 0 hr hp (by omega) bs 48 n (by decide) v (impl_kind a l hl hin rows r p 1 hr hp (by omega) bs _ n (by split <;> simp) v (impl_kind a l hl hin rows r p 2 hr hp (by omega) bs _ n (by split <;> split <;> simp) v (s3 _ ?_)))
  unfold dig
  simp only [Nat.add_zero, Nat.pow_zero, Nat.pow_one, show 2 ^ 2 = 4 from rfl]
  omega
theorem impl_row (a : Int) (l : List Int) (hl : l.length ≤ 9223372036854775807) (hin : ∀ x ∈ l, 0 ≤ x ∧ x < 45) (rows : List ByteArray) (hrows : rows.length ≤ 10) (r : Nat) (hr : r < 5) (n : Nat) (v : ByteArray)
    (h : Ev (fun k => impl_triText.l0 k (rows ++ [mkT (rowT (maskL l) r (r + 1))]) (n : Int) ((r + 1 : Nat) : Int) a l) v) :
    ∀ d p, p + d = r + 1 → Ev (fun k => impl_triText.l1 k rows (r : Int) ((List.range p).map fun i => ((48 + dig (maskL l) (eN r i) : Nat) : Int)) (n : Int) (r : Int) ((r + 1 : Nat) : Int) (p : Int) a l) v := by
  intro d
  induction d with
  | zero =>
    intro p hp
    obtain rfl : p = r + 1 := by omega
    refine Ev.step (fun k => ?_) h
    simp only [impl_triText.l1]
    have e : strOfNums ((List.range (r + 1)).map fun i => ((48 + dig (maskL l) (eN r i) : Nat) : Int)) = mkT (rowT (maskL l) r (r + 1)) := by
      unfold strOfNums mkT rowT
      congr 2
      rw [List.map_map]
      rfl
    rw [if_neg (by omega), if_pos (by omega), w64 (by omega) (by omega), e]
    rfl
  | succ d ih =>
    intro p hp
    have h9 := ih (p + 1) (by omega)
    refine impl_cell a l hl hin rows r p hr (by omega) _ (by simp; omega) n v ?_
    rw [List.range_succ, List.map_append] at h9
    exact h9
theorem impl_text (a : Int) (l : List Int) (hl : l.length ≤ 9223372036854775807) (hin : ∀ x ∈ l, 0 ≤ x ∧ x < 45) (n : Nat) (hn : n ≤ 5) :
    ∀ d r, r + d = n → Ev (fun k => impl_triText.l0 k ((allT (maskL l) r).map mkT) (n : Int) (r : Int) a l) (mkT (text (maskL l) n)) := by
  intro d
  induction d with
  | zero =>
    intro r hr
    obtain rfl : r = n := by omega
    have hj : strings_Join.f ((allT (maskL l) r).map mkT) (⟨#[47]⟩ : ByteArray) = some (mkT (text (maskL l) r)) := by
      have e : ((allT (maskL l) r).map mkT).map (·.data.toList) = allT (maskL l) r := by rw [List.map_map]; exact List.map_id _
      have hlen := text_len (maskL l) r hn
      unfold text at hlen
      unfold strings_Join.f
      rw [e, if_pos ⟨by simp [allT]; omega, by show (Lib.join (allT (maskL l) r) [47]).length ≤ 1000000; omega⟩]
      rfl
    refine Ev.step (f := fun _ => some (mkT (text (maskL l) r))) (fun k => ?_) (Ev.now _)
    simp only [impl_triText.l0]
    rw [if_neg (by omega), hj, Option.bind_some]
  | succ d ih =>
    intro r hr
    have h9 := ih (r + 1) (by omega)
    rw [allT_succ, List.map_append] at h9
    have h := impl_row a l hl hin ((allT (maskL l) r).map mkT) (by simp [allT]; omega) r (by omega) n _ h9 (r + 1) 0 (by omega)
    refine Ev.step (fun k => ?_) h
    simp only [impl_triText.l0]
    rw [if_pos (by omega), w64 (by omega) (by omega)]
    rfl
theorem both_TriText (a : Int) (l : List Int) (hl : l.length ≤ 9223372036854775807) : ∃ v, Ev (fun k => spec_TriText.f k a l) v ∧ Ev (fun k => impl_TriText.f k a l) v := by
  unfold spec_TriText.f impl_TriText.f
  cases h : triGood a l with
  | false => refine ⟨(⟨#[]⟩, false), Ev.bind (trGood_ev a l hl) ?_, Ev.bind (IsTri_ev a l hl) ?_⟩ <;> (rw [h]; exact Ev.const (by simp))
  | true =>
    obtain ⟨hv, hin, _, _⟩ := triGood_parts h
    obtain ⟨n, rfl⟩ : ∃ n : Nat, a = n := ⟨a.toNat, by have := lv_cases hv; omega⟩
    have hn : n ≤ 5 := by have := lv_cases hv; omega
    refine ⟨(mkT (text (maskL l) n), true), Ev.bind (trGood_ev _ l hl) ?_, Ev.bind (IsTri_ev _ l hl) ?_⟩
    · rw [h]
      simp only [if_true]
      unfold spec_trText.f
      exact Ev.bind (Ev.bind (trMask_ev _ l hl hin) (spec_text (n : Int) l (maskL l) n (mask45 l hin) hn n 0 (by omega))) (Ev.now _)
    · rw [h]
      simp only [if_true]
      unfold impl_triText.f
      exact Ev.bind (impl_text (n : Int) l hl hin n hn n 0 (by omega)) (Ev.now _)
theorem FnExactTriText : laws_FnExactTriText.Pure := by
  intro a l _ hm _
  have hl := maxLen_le hm
  obtain ⟨v, hs, hi⟩ := both_TriText a l hl
  obtain ⟨K, hK⟩ := Ev.both hs hi
  obtain ⟨hs1, hi1⟩ := hK (K + 1) (by omega)
  obtain ⟨_, hi0⟩ := hK K (by omega)
  refine ⟨K + 1, ?_⟩
  unfold laws_FnExactTriText.f
  rw [szTri_is a l hl, Option.bind_some]
  by_cases h : (l.length : Int) ≤ 1000000
  · rw [if_pos h, if_neg (by omega)]
    simp only [toTri_is a l _ h, Option.bind_some, hs1, hi1, bne_self_eq_false, laws_FnExactTriText.j0, hi0, intactTri_is a l h]
    simp
  · rw [if_neg h, if_pos (by omega)]

end Go.Proofs.Ytjkkgnpgjgfidaa.Pure
