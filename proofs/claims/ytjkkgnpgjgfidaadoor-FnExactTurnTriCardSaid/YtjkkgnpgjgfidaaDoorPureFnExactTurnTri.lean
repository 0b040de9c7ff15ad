/- Proved here: the pure statement of FnExactTurnTri: program and reference turn the same figure. Conditions: the numbers are 64 bit integers, the list is no longer than a slice can be. -/
import Derived.Test.YtjkkgnpgjgfidaaDoorQFnExactTurnTrix8
set_option linter.unusedVariables false
set_option linter.unusedSimpArgs false
namespace Go.Proofs.YtjkkgnpgjgfidaaDoor.Pure
open Go.RowKit Go.Proofs.YtjkkgnpgjgfidaaDoor.Q Go.Proofs.YtjkkgnpgjgfidaaDoorW.PrintWords Go.Proofs.YtjkkgnpgjgfidaaDoorW.PrintLast

/-! ### base: wrapping, 'from some number of rounds on', loops -/
theorem w64 {n : Int} (h0 : -9223372036854775808 ≤ n) (h1 : n ≤ 9223372036854775807) : wrap64 n = n := by unfold wrap64; omega
theorem wf64 {x : Int} (h : (Lit.int .i64 x).wf = true) : -9223372036854775808 ≤ x ∧ x ≤ 9223372036854775807 := by
  simp [Lit.wf, IntKind.min, IntKind.max, IntKind.signed, IntKind.bits] at h
  omega
theorem maxLen_le {n : Nat} (h : n ≤ maxLen) : n ≤ 9223372036854775807 := by unfold maxLen at h; omega
theorem Ev.both {α β : Type} {g : Nat → Option α} {f : Nat → Option β} {a : α} {b : β} (h : Ev g a) (k : Ev f b) : ∃ K, ∀ n, K ≤ n → g n = some a ∧ f n = some b := by
  obtain ⟨K, h⟩ := h
  obtain ⟨K', k⟩ := k
  exact ⟨max K K', fun n hn => ⟨h n (by omega), k n (by omega)⟩⟩
theorem Ev.const {α : Type} {x : Option α} {r : α} (h : x = some r) : Ev (fun _ => x) r := ⟨0, fun _ _ => h⟩
/-- A loop from lo on that ends early with 'bad', or runs through. -/
theorem all_ev {β : Type} (g : Nat → Int → Option β) (p : Nat → Bool) (good bad : β) (lo n : Nat)
    (hgood : ∀ i r, lo ≤ i → i < n → p i = true → Ev (fun k => g k ((i + 1 : Nat) : Int)) r → Ev (fun k => g k (i : Int)) r)
    (hbad : ∀ i, lo ≤ i → i < n → p i = false → Ev (fun k => g k (i : Int)) bad)
    (fin : ∀ i, n ≤ i → i ≤ n + lo → Ev (fun k => g k (i : Int)) good) : ∀ d a, n - a = d → lo ≤ a → a ≤ n + lo → Ev (fun k => g k (a : Int)) (if (List.range' a (n - a)).all p = true then good else bad) := by
  intro d
  induction d with
  | zero =>
    intro a ha hlo hle
    rw [ha]
    simpa using fin a (by omega) hle
  | succ d ih =>
    intro a ha hlo hle
    rw [ha, List.range'_succ, List.all_cons]
    cases hp : p a with
    | true =>
      have := ih (a + 1) (by omega) (by omega) (by omega)
      rw [show n - (a + 1) = d by omega] at this
      simp only [Bool.true_and]
      exact hgood a _ hlo (by omega) hp this
    | false =>
      simp only [Bool.false_and]
      exact hbad a hlo (by omega) hp
/-- The same where it answers whether all held. -/
theorem all_evB (g : Nat → Int → Option Bool) (p : Nat → Bool) (lo n : Nat)
    (hgood : ∀ i r, lo ≤ i → i < n → p i = true → Ev (fun k => g k ((i + 1 : Nat) : Int)) r → Ev (fun k => g k (i : Int)) r)
    (hbad : ∀ i, lo ≤ i → i < n → p i = false → Ev (fun k => g k (i : Int)) false)
    (fin : ∀ i, n ≤ i → i ≤ n + lo → Ev (fun k => g k (i : Int)) true) : Ev (fun k => g k (lo : Int)) ((List.range' lo (n - lo)).all p) := by
  have h := all_ev g p true false lo n hgood hbad fin (n - lo) lo rfl (Nat.le_refl _) (by omega)
  cases hb : (List.range' lo (n - lo)).all p <;> simpa [hb] using h
/-- A loop that carries a state s; P: what is known of it. -/
theorem fold_ev {σ β : Type} (g : Nat → σ → Int → Option β) (f : σ → Nat → σ) (h : σ → β) (P : Nat → σ → Prop) (n : Nat)
    (step : ∀ s i r, i < n → P i s → (P (i + 1) (f s i) ∧ (Ev (fun k => g k (f s i) ((i + 1 : Nat) : Int)) r → Ev (fun k => g k s (i : Int)) r)))
    (fin : ∀ s, P n s → Ev (fun k => g k s (n : Int)) (h s)) : ∀ d a s, n - a = d → a ≤ n → P a s → Ev (fun k => g k s (a : Int)) (h ((List.range' a (n - a)).foldl f s)) := by
  intro d
  induction d with
  | zero =>
    intro a s ha hle hP
    obtain rfl : a = n := by omega
    simpa using fin s hP
  | succ d ih =>
    intro a s ha hle hP
    rw [ha, List.range'_succ, List.foldl_cons]
    have := step s a (h ((List.range' (a + 1) d).foldl f (f s a))) (by omega) hP
    refine this.2 ?_
    have h2 := ih (a + 1) (f s a) (by omega) (by omega) this.1
    rw [show n - (a + 1) = d by omega] at h2
    exact h2
theorem rd_nat (l : List Int) (i : Nat) (h : i < l.length) : rd l (i : Int) = l[i] := by unfold rd; rw [Int.toNat_natCast]; simp [List.getD_eq_getElem?_getD, h]
theorem all_range (l : List Int) (q : Int → Bool) : (List.range' 0 l.length).all (fun i => q (rd l (i : Int))) = l.all q := by
  rw [Bool.eq_iff_iff, List.all_eq_true, List.all_eq_true]
  constructor
  · intro h x hx
    obtain ⟨i, hi, rfl⟩ := List.getElem_of_mem hx
    have := h i (by simp; omega)
    rwa [rd_nat l i hi] at this
  · intro h i hi
    have hi : i < l.length := by simp at hi; omega
    rw [rd_nat l i hi]
    exact h _ (List.getElem_mem hi)
/-- Strictly increasing. -/
def incr (l : List Int) : Bool := (List.range' 1 (l.length - 1)).all fun i => decide (rd l (i : Int) > rd l ((i : Int) - 1))
theorem incr_iff (l : List Int) : incr l = true ↔ ∀ i, ∀ h : i + 1 < l.length, l[i] < l[i + 1] := by
  unfold incr
  rw [List.all_eq_true]
  constructor
  · intro h i hi
    have := h (i + 1) (by simp; omega)
    rw [rd_nat l (i + 1) hi, show (((i + 1 : Nat) : Int) - 1) = ((i : Nat) : Int) by omega, rd_nat l i (by omega)] at this
    simpa using this
  · intro h i hi
    obtain ⟨j, rfl⟩ : ∃ j, i = j + 1 := ⟨i - 1, by simp at hi; omega⟩
    have hj : j + 1 < l.length := by simp at hi; omega
    rw [rd_nat l (j + 1) hj, show (((j + 1 : Nat) : Int) - 1) = ((j : Nat) : Int) by omega, rd_nat l j (by omega)]
    simpa using h j hj
theorem incr_ge (l : List Int) (h : incr l = true) (h0 : ∀ x ∈ l, 0 ≤ x) : ∀ i (hi : i < l.length), (i : Int) ≤ l[i] := by
  intro i
  induction i with
  | zero => intro hi; exact h0 _ (List.getElem_mem hi)
  | succ i ih =>
    intro hi
    have := ih (by omega)
    have := (incr_iff l).1 h i hi
    omega
theorem incr_len (l : List Int) (h : incr l = true) (m : Int) (hm : l.all (fun x => decide (0 ≤ x) && decide (x ≤ m)) = true) : (l.length : Int) ≤ m + 1 ∨ l = [] := by
  rw [List.all_eq_true] at hm
  by_cases h0 : l = []
  · exact .inr h0
  · left
    have hp := List.length_pos_iff.2 h0
    have h1 := incr_ge l h (fun x hx => by have := hm x hx; simp at this; omega) (l.length - 1) (by omega)
    have h2 := hm _ (List.getElem_mem (show l.length - 1 < l.length by omega))
    simp at h2
    omega

/-! ### the figures of triangles: what is one -/
def lv (a : Int) : Bool := decide (1 ≤ a) && decide (a ≤ 5)
def inB (lo hi : Int) (x : Int) : Bool := decide (lo ≤ x) && decide (x ≤ hi)
theorem l1In_is (a lo hi : Int) : spec_l1In.f a lo hi = some (inB lo hi a) := by
  unfold spec_l1In.f inB
  by_cases h : a ≥ lo
  · rw [if_pos h, decide_eq_true (show lo ≤ a from h), Bool.true_and]
  · rw [if_neg h, decide_eq_false (show ¬ lo ≤ a from h), Bool.false_and]
theorem within_is (a lo hi : Int) : impl_within.f a lo hi = some (inB lo hi a) := by
  unfold impl_within.f inB
  by_cases h : lo ≤ a
  · rw [if_pos h, decide_eq_true h, Bool.true_and]
  · rw [if_neg h, decide_eq_false h, Bool.false_and]
theorem l1All_ev (l : List Int) (hl : l.length ≤ 9223372036854775807) (lo hi : Int) : Ev (fun k => spec_l1All.f k l lo hi) (l.all (inB lo hi)) := by
  have h := all_evB (fun k i => spec_l1All.l0 k lo hi l (l.length : Int) i) (fun i => inB lo hi (rd l (i : Int))) 0 l.length
    (fun i r _ hi hp hr => Ev.step (fun k => by simp only [spec_l1All.l0]; rw [if_pos (by omega), if_pos (by omega), if_pos (by omega), l1In_is, hp, Option.bind_some, if_pos rfl, w64 (by omega) (by omega)]; rfl) hr)
    (fun i _ hi hp => Ev.step (fun k => by simp only [spec_l1All.l0]; rw [if_pos (by omega), if_pos (by omega), if_pos (by omega), l1In_is, hp, Option.bind_some, if_neg (by simp)]) (Ev.now false))
    (fun i hi _ => Ev.step (fun k => by simp only [spec_l1All.l0]; rw [if_neg (by omega)]) (Ev.now true))
  rw [Nat.sub_zero, all_range l (inB lo hi)] at h
  exact h
theorem isRising_ev (l : List Int) (hl : l.length ≤ 9223372036854775807) : Ev (fun k => impl_isRising.f k l) (incr l) :=
  all_evB (fun k i => impl_isRising.l0 k l i) (fun i => decide (rd l (i : Int) > rd l ((i : Int) - 1))) 1 l.length
    (fun i r h0 hi hp hr => Ev.step (fun k => by simp only [impl_isRising.l0]; rw [if_pos (by omega), if_pos (by omega), w64 (by omega) (by omega), if_pos (by omega), if_pos (by omega), if_neg (by simp at hp; omega), w64 (by omega) (by omega)]; rfl) hr)
    (fun i h0 hi hp => Ev.step (fun k => by simp only [impl_isRising.l0]; rw [if_pos (by omega), if_pos (by omega), w64 (by omega) (by omega), if_pos (by omega), if_pos (by omega), if_pos (by simp at hp; omega)]) (Ev.now false))
    (fun i hi _ => Ev.step (fun k => by simp only [impl_isRising.l0]; rw [if_neg (by omega)]) (Ev.now true))
/-- How many edges there are. -/
def trN (a : Int) : Int := if a = 1 then 3 else if a = 2 then 9 else if a = 3 then 18 else if a = 4 then 30 else 45
def triGood (a : Int) (l : List Int) : Bool := inB 1 5 a && (l.all (inB 0 (trN a - 1)) && incr l)
theorem lv_cases {a : Int} (h : inB 1 5 a = true) : a = 1 ∨ a = 2 ∨ a = 3 ∨ a = 4 ∨ a = 5 := by
  simp [inB] at h
  omega
theorem trCells_is {a : Int} (h : inB 1 5 a = true) : ∃ c, spec_trCells.f a = some c ∧ wrap64 (3 * c) = trN a := by
  rcases lv_cases h with rfl | rfl | rfl | rfl | rfl
  · exact ⟨1, by decide +kernel, by decide +kernel⟩
  · exact ⟨3, by decide +kernel, by decide +kernel⟩
  · exact ⟨6, by decide +kernel, by decide +kernel⟩
  · exact ⟨10, by decide +kernel, by decide +kernel⟩
  · exact ⟨15, by decide +kernel, by decide +kernel⟩
theorem edgesOf_is {a : Int} (h : inB 1 5 a = true) : impl_edgesOf.f a = some (trN a) := by
  rcases lv_cases h with rfl | rfl | rfl | rfl | rfl <;> decide +kernel
theorem trN_bound (a : Int) : 3 ≤ trN a ∧ trN a ≤ 45 := by
  unfold trN
  repeat' split
  all_goals omega
theorem trGood_ev (a : Int) (l : List Int) (hl : l.length ≤ 9223372036854775807) : Ev (fun k => spec_trGood.f k a l) (triGood a l) := by
  unfold triGood spec_trGood.f
  rw [l1In_is]
  simp only [Option.bind_some]
  cases hv : inB 1 5 a with
  | false => exact Ev.step (f := fun _ => some false) (fun k => by simp [spec_trGood.j0]) (Ev.now false)
  | true =>
    obtain ⟨c, hc, h3⟩ := trCells_is hv
    have hb := trN_bound a
    simp only [if_true, hc, Option.bind_some, h3, Bool.true_and]
    have h1 : wrap64 (trN a - 1) = trN a - 1 := w64 (by omega) (by omega)
    rw [h1]
    by_cases hlen : (l.length : Int) > trN a
    · simp only [if_pos hlen]
      have hf : (l.all (inB 0 (trN a - 1)) && incr l) = false := by
        cases hi : incr l
        · simp
        · cases ha : l.all (inB 0 (trN a - 1))
          · rfl
          · rcases incr_len l hi (trN a - 1) ha with h | h
            · omega
            · subst h
              simp at hlen
              omega
      rw [hf]
      exact Ev.step (f := fun _ => some false) (fun k => by simp [spec_trGood.j0]) (Ev.now false)
    · simp only [if_neg hlen]
      refine Ev.bind (l1All_ev l hl 0 (trN a - 1)) ?_
      cases ha : l.all (inB 0 (trN a - 1)) with
      | false => exact Ev.step (f := fun _ => some false) (fun k => by simp [spec_trGood.j0]) (Ev.now false)
      | true =>
        refine Ev.step (f := fun k => spec_trGood.l0 k 1 a l) (fun k => by simp only [spec_trGood.j0]; rw [if_neg (by simp)]) ?_
        rw [Bool.true_and]
        exact all_evB (fun k i => spec_trGood.l0 k i a l) (fun i => decide (rd l (i : Int) > rd l ((i : Int) - 1))) 1 l.length
          (fun i r h0 hi hp hr => Ev.step (fun k => by simp only [spec_trGood.l0]; rw [if_pos (by omega), w64 (by omega) (by omega), if_pos (by omega), if_pos (by omega), if_pos (by omega), if_neg (by simp at hp; omega), w64 (by omega) (by omega)]; rfl) hr)
          (fun i h0 hi hp => Ev.step (fun k => by simp only [spec_trGood.l0]; rw [if_pos (by omega), w64 (by omega) (by omega), if_pos (by omega), if_pos (by omega), if_pos (by omega), if_pos (by simp at hp; omega)]) (Ev.now false))
          (fun i hi _ => Ev.step (fun k => by simp only [spec_trGood.l0]; rw [if_neg (by omega)]) (Ev.now true))
theorem IsTri_ev (a : Int) (l : List Int) (hl : l.length ≤ 9223372036854775807) : Ev (fun k => impl_IsTri.f k a l) (triGood a l) := by
  unfold triGood impl_IsTri.f impl_isLevel.f
  rw [within_is]
  simp only [Option.bind_some]
  cases hv : inB 1 5 a with
  | false => exact Ev.now _
  | true =>
    have hb := trN_bound a
    simp only [if_true]
    refine Ev.bind (isRising_ev l hl) ?_
    cases hr : incr l with
    | false => exact Ev.const (by simp)
    | true =>
      rw [edgesOf_is hv]
      simp only [if_true, Option.bind_some]
      rw [w64 (by omega) (by omega)]
      exact Ev.const (by simp [impl_areWithin.f]; rfl)

/-! ### what the laws do about their arguments -/
theorem szIntS_is (l : List Int) (left : Int) (hl : l.length ≤ 9223372036854775807) (h0 : 0 ≤ left) (h1 : left ≤ 1000000) : laws_szIntS.f l left = some (if (l.length : Int) ≤ left then left - (l.length : Int) else -1) := by
  unfold laws_szIntS.f
  rw [w64 (by omega) (by omega)]
  by_cases h : (l.length : Int) ≤ left
  · rw [if_neg (by omega), if_pos h]
  · rw [if_pos (by omega), if_neg h]
theorem szTri_is (a : Int) (l : List Int) (hl : l.length ≤ 9223372036854775807) : laws_szTri.f a l 1000000 = some (if (l.length : Int) ≤ 1000000 then (1000000 : Int) - (l.length : Int) else -1) := by
  unfold laws_szTri.f
  rw [szIntS_is l _ hl (by omega) (by omega)]
  simp only [Option.bind_some]
  by_cases h : (l.length : Int) ≤ 1000000
  · rw [if_pos h, if_neg (by omega)]
  · rw [if_neg h, if_pos (by omega)]
theorem toTri_is (a : Int) (l : List Int) (b : Bool) (h : (l.length : Int) ≤ 1000000) : laws_toTri.f a l b = some (a, l) := by
  unfold laws_toTri.f laws_toIntS.f
  rw [if_pos (by omega)]
  rfl
theorem intactTri_is (a : Int) (l : List Int) (h : (l.length : Int) ≤ 1000000) : laws_intactTri.f a l a l = some true := by
  unfold laws_intactTri.f laws_intactIntS.f
  rw [if_pos rfl, if_pos (by omega)]
  simp

/-! ### bits: sets of numbers below 63 as natural numbers -/
theorem wu64 (n : Int) (h0 : 0 ≤ n) (h1 : n < 2 ^ 63) : IntKind.u64.wrap n = n := by
  simp only [IntKind.wrap, IntKind.bits, IntKind.signed]
  simp
  omega
theorem wi64 (n : Int) (h0 : 0 ≤ n) (h1 : n < 2 ^ 63) : IntKind.i64.wrap n = n := by
  rw [IntKind.wrap_i64]
  omega
/-- a without what b has. -/
def andN (a b : Nat) : Nat := a ^^^ (a &&& b)
theorem testBit_andN (a b i : Nat) : (andN a b).testBit i = (a.testBit i && !b.testBit i) := by
  unfold andN
  rw [Nat.testBit_xor, Nat.testBit_and]
  cases a.testBit i <;> cases b.testBit i <;> rfl
theorem andN_le (a b : Nat) : andN a b ≤ a := by
  apply Nat.le_of_testBit
  intro i h
  rw [testBit_andN] at h
  simp at h
  exact h.1
theorem castlt {n : Nat} (h : n < 2 ^ 63) : ((n : Nat) : Int) < 2 ^ 63 := by exact_mod_cast h
section
variable (k : IntKind) (hk : ∀ n : Int, 0 ≤ n → n < 2 ^ 63 → k.wrap n = n) (hb : k.bits = 64) (a b : Nat) (ha : a < 2 ^ 63) (hbb : b < 2 ^ 63)
include hk hb ha hbb
theorem bits_or : Go.bits .or k a b = ((a ||| b : Nat) : Int) := (bits_nat k 63 (by omega) hk a b ha hbb).2
theorem bits_and : Go.bits .and k a b = ((a &&& b : Nat) : Int) := (bits_nat k 63 (by omega) hk a b ha hbb).1
theorem bits_xor : Go.bits .xor k a b = ((a ^^^ b : Nat) : Int) := by
  have h1 : a % 2 ^ k.bits = a := Nat.mod_eq_of_lt (by rw [hb]; omega)
  have h2 : b % 2 ^ k.bits = b := Nat.mod_eq_of_lt (by rw [hb]; omega)
  simp only [Go.bits, BitVec.ofInt_natCast, BitVec.toNat_xor, BitVec.toNat_ofNat, h1, h2]
  exact hk _ (Int.natCast_nonneg _) (castlt (Nat.xor_lt_two_pow ha hbb))
theorem bits_andNot : Go.bits .andNot k a b = ((andN a b : Nat) : Int) := by
  have h1 : a % 2 ^ k.bits = a := Nat.mod_eq_of_lt (by rw [hb]; omega)
  have h2 : b % 2 ^ k.bits = b := Nat.mod_eq_of_lt (by rw [hb]; omega)
  have e : a &&& (2 ^ k.bits - 1 - b) = andN a b := by
    apply Nat.eq_of_testBit_eq
    intro i
    rw [Nat.testBit_and, testBit_andN, show 2 ^ k.bits - 1 - b = 2 ^ k.bits - (b + 1) by omega, Nat.testBit_two_pow_sub_succ (by rw [hb]; omega)]
    by_cases hi : i < k.bits
    · simp [hi]
    · have : a.testBit i = false := Nat.testBit_lt_two_pow (Nat.lt_of_lt_of_le ha (Nat.pow_le_pow_right (by decide) (by omega)))
      simp [this]
  simp only [Go.bits, BitVec.ofInt_natCast, BitVec.toNat_and, BitVec.toNat_not, BitVec.toNat_ofNat, h1, h2, e]
  exact hk _ (Int.natCast_nonneg _) (castlt (Nat.lt_of_le_of_lt (andN_le a b) ha))
end
theorem oru (a b : Nat) (ha : a < 2 ^ 63) (hb : b < 2 ^ 63) : Go.bits .or .u64 a b = ((a ||| b : Nat) : Int) := bits_or .u64 wu64 rfl a b ha hb
theorem ori (a b : Nat) (ha : a < 2 ^ 63) (hb : b < 2 ^ 63) : Go.bits .or .i64 a b = ((a ||| b : Nat) : Int) := bits_or .i64 wi64 rfl a b ha hb
theorem andu (a b : Nat) (ha : a < 2 ^ 63) (hb : b < 2 ^ 63) : Go.bits .and .u64 a b = ((a &&& b : Nat) : Int) := bits_and .u64 wu64 rfl a b ha hb
theorem andi (a b : Nat) (ha : a < 2 ^ 63) (hb : b < 2 ^ 63) : Go.bits .and .i64 a b = ((a &&& b : Nat) : Int) := bits_and .i64 wi64 rfl a b ha hb
theorem xoru (a b : Nat) (ha : a < 2 ^ 63) (hb : b < 2 ^ 63) : Go.bits .xor .u64 a b = ((a ^^^ b : Nat) : Int) := bits_xor .u64 wu64 rfl a b ha hb
theorem xori (a b : Nat) (ha : a < 2 ^ 63) (hb : b < 2 ^ 63) : Go.bits .xor .i64 a b = ((a ^^^ b : Nat) : Int) := bits_xor .i64 wi64 rfl a b ha hb
theorem andNu (a b : Nat) (ha : a < 2 ^ 63) (hb : b < 2 ^ 63) : Go.bits .andNot .u64 a b = ((andN a b : Nat) : Int) := bits_andNot .u64 wu64 rfl a b ha hb
theorem shl_one (k : IntKind) (hk : ∀ n : Int, 0 ≤ n → n < 2 ^ 63 → k.wrap n = n) (hb : k.bits = 64) (e : Int) (h0 : 0 ≤ e) (h1 : e < 63) : Go.Proofs.YtjkkgnpgjgfidaaDoorW.PrintWords.shl k 1 e = ((2 ^ e.toNat : Nat) : Int) := by
  obtain ⟨n, rfl⟩ := Int.eq_ofNat_of_zero_le h0
  unfold Go.Proofs.YtjkkgnpgjgfidaaDoorW.PrintWords.shl
  rw [Int.toNat_natCast, Nat.min_eq_left (by rw [hb]; omega), Int.one_mul]
  have hp : 2 ^ n < 2 ^ 63 := Nat.pow_lt_pow_right (by decide) (by omega)
  have hc : ((2 : Int) ^ n) = ((2 ^ n : Nat) : Int) := by simp
  rw [hc]
  exact hk _ (Int.natCast_nonneg _) (castlt hp)
theorem shlu (e : Int) (h0 : 0 ≤ e) (h1 : e < 63) : Go.Proofs.YtjkkgnpgjgfidaaDoorW.PrintWords.shl .u64 1 e = ((2 ^ e.toNat : Nat) : Int) := shl_one .u64 wu64 rfl e h0 h1
theorem shli (e : Int) (h0 : 0 ≤ e) (h1 : e < 63) : Go.Proofs.YtjkkgnpgjgfidaaDoorW.PrintWords.shl .i64 1 e = ((2 ^ e.toNat : Nat) : Int) := shl_one .i64 wi64 rfl e h0 h1
/-- The set of a list's numbers. -/
def maskL (l : List Int) : Nat := l.foldl (fun m x => m ||| 2 ^ x.toNat) 0
theorem testBit_pow (e j : Nat) : (2 ^ e).testBit j = decide (e = j) := Nat.testBit_two_pow
theorem foldl_mask_bit (j : Nat) : ∀ (l : List Int) (m : Nat), (l.foldl (fun m x => m ||| 2 ^ x.toNat) m).testBit j = (m.testBit j || l.any (fun x => decide (x.toNat = j)))
  | [], m => by simp
  | x :: l, m => by
    rw [List.foldl_cons, foldl_mask_bit j l, Nat.testBit_or, testBit_pow, List.any_cons, Bool.or_assoc]
theorem maskL_bit (l : List Int) (j : Nat) : (maskL l).testBit j = l.any (fun x => decide (x.toNat = j)) := by
  unfold maskL
  rw [foldl_mask_bit]
  simp
theorem maskL_mem (l : List Int) (h : ∀ x ∈ l, 0 ≤ x) (j : Nat) : (maskL l).testBit j = true ↔ (j : Int) ∈ l := by
  rw [maskL_bit, List.any_eq_true]
  constructor
  · rintro ⟨x, hx, he⟩
    have := h x hx
    simp at he
    have : x = (j : Int) := by omega
    rwa [← this]
  · intro hj
    exact ⟨_, hj, by simp⟩
theorem foldl_mask_lt (N : Nat) : ∀ (l : List Int) (m : Nat), (∀ x ∈ l, x.toNat < N) → m < 2 ^ N → (l.foldl (fun m x => m ||| 2 ^ x.toNat) m) < 2 ^ N
  | [], m, _, hm => hm
  | x :: l, m, h, hm => foldl_mask_lt N l _ (fun y hy => h y (List.mem_cons_of_mem _ hy)) (Nat.or_lt_two_pow hm (Nat.pow_lt_pow_right (by decide) (h x List.mem_cons_self)))
theorem maskL_lt (l : List Int) (N : Nat) (h : ∀ x ∈ l, x.toNat < N) : maskL l < 2 ^ N := foldl_mask_lt N l 0 h (Nat.two_pow_pos N)
theorem range_foldl {σ : Type} (l : List Int) (f : σ → Int → σ) : ∀ s, (List.range' 0 l.length).foldl (fun s (i : Nat) => f s (rd l (i : Int))) s = l.foldl f s := by
  have key : ∀ (d a : Nat) (s : σ), a + d = l.length → (List.range' a d).foldl (fun s (i : Nat) => f s (rd l (i : Int))) s = (l.drop a).foldl f s := by
    intro d
    induction d with
    | zero => intro a s h; rw [List.drop_of_length_le (by omega)]; rfl
    | succ d ih =>
      intro a s h
      have ha : a < l.length := by omega
      rw [List.range'_succ, List.foldl_cons, ih (a + 1) _ (by omega), List.drop_eq_getElem_cons ha, List.foldl_cons, rd_nat l a ha]
  intro s
  have := key l.length 0 s (by omega)
  simpa using this
theorem pow_lt63 {e : Nat} (h : e < 63) : 2 ^ e < 2 ^ 63 := Nat.pow_lt_pow_right (by decide) h
theorem lt63 {n N : Nat} (h : n < 2 ^ N) (hN : N ≤ 63) : n < 2 ^ 63 := Nat.lt_of_lt_of_le h (Nat.pow_le_pow_right (by decide) hN)
theorem and_pow_ne (m e : Nat) : (m &&& 2 ^ e ≠ 0) ↔ m.testBit e = true := by
  constructor
  · intro h
    cases hb : m.testBit e with
    | true => rfl
    | false =>
      exfalso
      apply h
      apply Nat.eq_of_testBit_eq
      intro i
      rw [Nat.testBit_and, testBit_pow, Nat.zero_testBit]
      by_cases hi : e = i
      · subst hi; simp [hb]
      · simp [hi]
  · intro h h0
    have := congrArg (fun n => n.testBit e) h0
    simp [Nat.testBit_and, testBit_pow, h] at this

/-! ### the set of a figure of triangles -/
theorem triGood_parts {a : Int} {l : List Int} (h : triGood a l = true) : inB 1 5 a = true ∧ (∀ x ∈ l, 0 ≤ x ∧ x < 45) ∧ (∀ x ∈ l, x < trN a) ∧ incr l = true := by
  unfold triGood at h
  simp only [Bool.and_eq_true, List.all_eq_true] at h
  obtain ⟨h1, h2, h3⟩ := h
  have hb := trN_bound a
  refine ⟨h1, fun x hx => ?_, fun x hx => ?_, h3⟩
  · have := h2 x hx
    simp [inB] at this
    omega
  · have := h2 x hx
    simp [inB] at this
    omega
theorem triSet_ev (a : Int) (l : List Int) (hl : l.length ≤ 9223372036854775807) (h : ∀ x ∈ l, 0 ≤ x ∧ x < 45) : Ev (fun k => impl_Tri_set.f k a l) ((maskL l : Nat) : Int) := by
  have h0 := fold_ev (fun k (s : Nat) i => impl_Tri_set.l0 k (s : Int) l (l.length : Int) i) (fun s i => s ||| 2 ^ (rd l (i : Int)).toNat) (fun s => ((s : Nat) : Int)) (fun _ s => s < 2 ^ 45) l.length
    (fun s i r hi hs => by
      have hx := h (rd l (i : Int)) (by rw [rd_nat l i hi]; exact List.getElem_mem hi)
      refine ⟨Nat.or_lt_two_pow hs (Nat.pow_lt_pow_right (by decide) (by omega)), fun hr => Ev.step (fun k => ?_) hr⟩
      simp only [impl_Tri_set.l0]
      rw [if_pos (by omega), if_pos (by omega), if_pos (by omega), if_pos hx.1, shlu _ hx.1 (by omega), oru _ _ (lt63 hs (by decide)) (pow_lt63 (by omega)), w64 (by omega) (by omega)]
      rfl)
    (fun s hs => Ev.step (fun k => by simp only [impl_Tri_set.l0]; rw [if_neg (by omega)]) (Ev.now _)) l.length 0 0 (by omega) (by omega) (by decide)
  rw [Nat.sub_zero, range_foldl l (fun m x => m ||| 2 ^ x.toNat)] at h0
  exact h0
theorem mask45 (l : List Int) (h : ∀ x ∈ l, 0 ≤ x ∧ x < 45) : maskL l < 2 ^ 45 := maskL_lt l 45 (fun x hx => by have := h x hx; omega)

/-! ### the reference's set of a figure of triangles -/
theorem trMask_ev (a : Int) (l : List Int) (hl : l.length ≤ 9223372036854775807) (h : ∀ x ∈ l, 0 ≤ x ∧ x < 45) : Ev (fun k => spec_trMask.f k a l) ((maskL l : Nat) : Int) := by
  have h0 := fold_ev (fun k (s : Nat) i => spec_trMask.l0 k (s : Int) l (l.length : Int) i) (fun s i => s ||| 2 ^ (rd l (i : Int)).toNat) (fun s => ((s : Nat) : Int)) (fun _ s => s < 2 ^ 45) l.length
    (fun s i r hi hs => by
      have hx := h (rd l (i : Int)) (by rw [rd_nat l i hi]; exact List.getElem_mem hi)
      refine ⟨Nat.or_lt_two_pow hs (Nat.pow_lt_pow_right (by decide) (by omega)), fun hr => Ev.step (fun k => ?_) hr⟩
      simp only [spec_trMask.l0]
      rw [if_pos (by omega), if_pos (by omega), if_pos (by omega), if_pos hx.1, shli _ hx.1 (by omega), ori _ _ (lt63 hs (by decide)) (pow_lt63 (by omega)), w64 (by omega) (by omega)]
      rfl)
    (fun s hs => Ev.step (fun k => by simp only [spec_trMask.l0]; rw [if_neg (by omega)]) (Ev.now _)) l.length 0 0 (by omega) (by omega) (by decide)
  rw [Nat.sub_zero, range_foldl l (fun m x => m ||| 2 ^ x.toNat)] at h0
  exact h0

/-! ### the numbers of the bits that are set -/
theorem and_div2' (a b : Nat) : (a &&& b) / 2 = a / 2 &&& b / 2 := by
  apply Nat.eq_of_testBit_eq
  intro i
  simp [Nat.testBit_div_two, Nat.testBit_and]
theorem and_odd' (a b : Nat) : ((a &&& b) % 2 = 1) ↔ (a % 2 = 1 ∧ b % 2 = 1) := by
  have h := Nat.testBit_and a b 0
  rw [Nat.testBit_zero, Nat.testBit_zero, Nat.testBit_zero, ← Bool.decide_and, decide_eq_decide] at h
  exact h
theorem andN_odd' (a b : Nat) : ((andN a b) % 2 = 1) ↔ (a % 2 = 1 ∧ ¬ b % 2 = 1) := by
  have h := testBit_andN a b 0
  rw [Nat.testBit_zero, Nat.testBit_zero, Nat.testBit_zero, ← decide_not, ← Bool.decide_and, decide_eq_decide] at h
  exact h
theorem andN_div2 (a b : Nat) : (andN a b) / 2 = andN (a / 2) (b / 2) := by
  apply Nat.eq_of_testBit_eq
  intro i
  rw [Nat.testBit_div_two, testBit_andN, testBit_andN, Nat.testBit_div_two, Nat.testBit_div_two]
/-- Where the lowest bit is. -/
def low : Nat → Nat → Nat
  | 0, _ => 0
  | f + 1, s => if s % 2 = 1 then 0 else 1 + low f (s / 2)
theorem low_lt : ∀ f s, s < 2 ^ f → s ≠ 0 → low f s < f := by
  intro f
  induction f with
  | zero => intro s h h0; simp at h; omega
  | succ f ih =>
    intro s h h0
    unfold low
    rw [Nat.pow_succ] at h
    by_cases ho : s % 2 = 1
    · rw [if_pos ho]; omega
    · rw [if_neg ho]
      have := ih (s / 2) (by omega) (by omega)
      omega
theorem low_is : ∀ f s, s < 2 ^ f → s ≠ 0 → andN s (s - 1) = 2 ^ low f s := by
  intro f
  induction f with
  | zero => intro s h h0; simp at h; omega
  | succ f ih =>
    intro s h h0
    unfold low
    rw [Nat.pow_succ] at h
    have h1 := andN_div2 s (s - 1)
    have h2 := andN_odd' s (s - 1)
    by_cases ho : s % 2 = 1
    · rw [if_pos ho]
      have := h2.2 ⟨ho, by omega⟩
      have h3 : andN (s / 2) (s / 2) = 0 := by unfold andN; simp
      rw [show (s - 1) / 2 = s / 2 by omega, h3] at h1
      simp only [Nat.pow_zero]
      omega
    · rw [if_neg ho]
      have h3 := ih (s / 2) (by omega) (by omega)
      rw [show (s - 1) / 2 = s / 2 - 1 by omega, h3] at h1
      have : ¬ (andN s (s - 1)) % 2 = 1 := fun h => ho (h2.1 h).1
      rw [Nat.add_comm, Nat.pow_succ]
      omega
/-- The bits that are set, counted from o. -/
def bl : Nat → Nat → Nat → List Nat
  | 0, _, _ => []
  | f + 1, o, s => if s % 2 = 1 then o :: bl f (o + 1) (s / 2) else bl f (o + 1) (s / 2)
theorem bl_zero : ∀ f o, bl f o 0 = [] := by
  intro f
  induction f with
  | zero => intro o; rfl
  | succ f ih => intro o; unfold bl; rw [if_neg (by decide), Nat.zero_div, ih]
theorem bl_low : ∀ f o s, s < 2 ^ f → s ≠ 0 → bl f o s = (o + low f s) :: bl f o (s &&& (s - 1)) := by
  intro f
  induction f with
  | zero => intro o s h h0; simp at h; omega
  | succ f ih =>
    intro o s h h0
    rw [Nat.pow_succ] at h
    have h2 := and_odd' s (s - 1)
    unfold bl low
    rw [and_div2']
    by_cases ho : s % 2 = 1
    · have : ¬ (s &&& (s - 1)) % 2 = 1 := fun h => by have := (h2.1 h).2; omega
      rw [if_pos ho, if_pos ho, if_neg this, show (s - 1) / 2 = s / 2 by omega, Nat.and_self]
      rfl
    · have : ¬ (s &&& (s - 1)) % 2 = 1 := fun h => ho (h2.1 h).1
      rw [if_neg ho, if_neg ho, if_neg this, show (s - 1) / 2 = s / 2 - 1 by omega, ih (o + 1) (s / 2) (by omega) (by omega), Nat.add_assoc]
theorem bl_len : ∀ f o s, (bl f o s).length ≤ f := by
  intro f
  induction f with
  | zero => intro o s; simp [bl]
  | succ f ih =>
    intro o s
    have := ih (o + 1) (s / 2)
    unfold bl
    split <;> simp <;> omega
theorem bl_filter : ∀ f o s, bl f o s = (List.range' o f).filter (fun i => s.testBit (i - o)) := by
  intro f
  induction f with
  | zero => intro o s; rfl
  | succ f ih =>
    intro o s
    have e : (List.range' (o + 1) f).filter (fun i => s.testBit (i - o)) = bl f (o + 1) (s / 2) := by
      rw [ih (o + 1) (s / 2)]
      apply List.filter_congr
      intro i hi
      rw [List.mem_range'_1] at hi
      rw [Nat.testBit_div_two, show i - (o + 1) + 1 = i - o by omega]
    unfold bl
    rw [List.range'_succ, List.filter_cons, e, Nat.sub_self, Nat.testBit_zero]
    by_cases ho : s % 2 = 1
    · rw [if_pos ho, if_pos (by simpa using ho)]
    · rw [if_neg ho, if_neg (by simpa using ho)]
theorem deB_all : ((List.range 64).all fun t => decide (deBr.getD (IntKind.u64.wrap (((2 ^ t : Nat) : Int) * 285870213051353865) / 288230376151711744).toNat 0 = (t : Int))) = true := by decide +kernel
theorem neg_and (s : Nat) (h : s < 2 ^ 62) (h0 : s ≠ 0) : Go.bits BinOp.and IntKind.u64 (s : Int) (IntKind.u64.wrap (-(s : Int))) = ((andN s (s - 1) : Nat) : Int) := by
  have hw : IntKind.u64.wrap (-(s : Int)) = ((2 ^ 64 - s : Nat) : Int) := by
    simp only [IntKind.wrap, IntKind.bits, IntKind.signed]
    simp
    omega
  have e : s &&& (2 ^ 64 - s) = andN s (s - 1) := by
    apply Nat.eq_of_testBit_eq
    intro i
    rw [Nat.testBit_and, testBit_andN, show 2 ^ 64 - s = 2 ^ 64 - ((s - 1) + 1) by omega, Nat.testBit_two_pow_sub_succ (by omega)]
    by_cases hi : i < 64
    · simp [hi]
    · have : s.testBit i = false := Nat.testBit_lt_two_pow (Nat.lt_of_lt_of_le h (Nat.pow_le_pow_right (by decide) (by omega)))
      simp [this]
  rw [hw]
  have hb : IntKind.u64.bits = 64 := rfl
  have h1 : s % 2 ^ IntKind.u64.bits = s := Nat.mod_eq_of_lt (by rw [hb]; omega)
  have h2 : (2 ^ 64 - s) % 2 ^ IntKind.u64.bits = 2 ^ 64 - s := Nat.mod_eq_of_lt (by rw [hb]; omega)
  simp only [Go.bits, BitVec.ofInt_natCast, BitVec.toNat_and, BitVec.toNat_ofNat, h1, h2, e]
  exact wu64 _ (Int.natCast_nonneg _) (castlt (Nat.lt_of_le_of_lt (andN_le s (s - 1)) (by omega)))
theorem tz_is (s : Nat) (h : s < 2 ^ 62) (h0 : s ≠ 0) : bits_TrailingZeros64.f (s : Int) = some ((low 62 s : Nat) : Int) := by
  unfold bits_TrailingZeros64.f tzIx
  rw [if_neg (by omega), neg_and s h h0, low_is 62 s h h0]
  have hl := low_lt 62 s h h0
  have H := deB_all
  simp only [List.all_eq_true, List.mem_range, decide_eq_true_eq] at H
  rw [H _ (by omega)]
def asInts (l : List Nat) : List Int := l.map (fun (n : Nat) => (n : Int))
theorem listed_ev (s : Nat) (h : s < 2 ^ 62) : Ev (fun k => impl_set_listed.f k (s : Int)) (asInts (bl 62 0 s)) := by
  have key : ∀ n (s : Nat) (acc : List Int), (bl 62 0 s).length = n → s < 2 ^ 62 → acc.length + n ≤ 62 → Ev (fun k => impl_set_listed.l0 k (s : Int) acc) (acc ++ asInts (bl 62 0 s)) := by
    intro n
    induction n with
    | zero =>
      intro s acc hn hs ha
      by_cases h0 : s = 0
      · subst h0
        rw [bl_zero]
        exact Ev.step (fun k => by simp only [impl_set_listed.l0]; rw [if_neg (by omega)]) (Ev.const (by simp [asInts]))
      · rw [bl_low 62 0 s hs h0] at hn
        simp at hn
    | succ n ih =>
      intro s acc hn hs ha
      have h0 : s ≠ 0 := fun h0 => by rw [h0, bl_zero] at hn; simp at hn
      have hb := bl_low 62 0 s hs h0
      rw [hb] at hn ⊢
      have hle := Nat.and_le_left (n := s) (m := s - 1)
      have h1 := ih (s &&& (s - 1)) (acc ++ [((low 62 s : Nat) : Int)]) (by simpa using hn) (by omega) (by simp; omega)
      refine Ev.step (f := fun k => impl_set_listed.l0 k ((s &&& (s - 1) : Nat) : Int) (acc ++ [((low 62 s : Nat) : Int)])) (fun k => ?_) (by rw [List.append_assoc] at h1; simpa [asInts] using h1)
      simp only [impl_set_listed.l0]
      rw [if_pos (by omega), tz_is s hs h0, Option.bind_some, if_pos (by omega), show (s : Int) - 1 = ((s - 1 : Nat) : Int) by omega, wu64 _ (by omega) (by omega), andu _ _ (by omega) (by omega)]
  have := key _ s [] rfl h (by simpa using bl_len 62 0 s)
  rw [List.nil_append] at this
  exact this
/-- A figure's lists, out of its set: the level edges, and the upright ones. -/
def listA (L m : Nat) : List Int := asInts ((List.range L).filter (fun i => m.testBit i))
def listB (L U m : Nat) : List Int := asInts ((List.range U).filter (fun i => m.testBit (L + i)))
theorem filter_range (n N : Nat) (h : n ≤ N) (p : Nat → Bool) : (List.range N).filter (fun i => p i && decide (i < n)) = (List.range n).filter p := by
  obtain ⟨d, rfl⟩ : ∃ d, N = n + d := ⟨N - n, by omega⟩
  rw [List.range_add, List.filter_append]
  have e1 : (List.range n).filter (fun i => p i && decide (i < n)) = (List.range n).filter p := List.filter_congr (fun i hi => by rw [decide_eq_true (List.mem_range.1 hi), Bool.and_true])
  have e2 : ((List.range d).map (n + ·)).filter (fun i => p i && decide (i < n)) = [] := by
    rw [List.filter_eq_nil_iff]
    intro i hi
    obtain ⟨j, _, rfl⟩ := List.mem_map.1 hi
    simp
  rw [e1, e2, List.append_nil]
theorem listed_A (L m : Nat) (hL : L ≤ 62) : asInts (bl 62 0 (m &&& (2 ^ L - 1))) = listA L m := by
  unfold listA
  rw [bl_filter, ← List.range_eq_range', ← filter_range L 62 hL (fun i => m.testBit i)]
  congr 1
  apply List.filter_congr
  intro i _
  rw [Nat.sub_zero, Nat.testBit_and, Nat.testBit_two_pow_sub_one]
theorem listed_B (L U m : Nat) (hU : U ≤ 62) (hm : m < 2 ^ (L + U)) : asInts (bl 62 0 (m >>> L)) = listB L U m := by
  unfold listB
  rw [bl_filter, ← List.range_eq_range', ← filter_range U 62 hU (fun i => m.testBit (L + i))]
  congr 1
  apply List.filter_congr
  intro i _
  rw [Nat.sub_zero, Nat.testBit_shiftRight]
  by_cases hi : i < U
  · simp [hi]
  · have : m.testBit (L + i) = false := Nat.testBit_lt_two_pow (Nat.lt_of_lt_of_le hm (Nat.pow_le_pow_right (by decide) (by omega)))
    simp [this]
theorem shr_is (m L : Nat) (hm : m < 2 ^ 63) (hL : L < 64) : Go.Proofs.YtjkkgnpgjgfidaaDoorW.PrintWords.shr .u64 (m : Int) (L : Int) = ((m >>> L : Nat) : Int) := by
  unfold Go.Proofs.YtjkkgnpgjgfidaaDoorW.PrintWords.shr
  rw [Int.toNat_natCast, Nat.shiftRight_eq_div_pow]
  rw [Nat.min_eq_left (by show L ≤ 64; omega)]
  simp

/-! ### the figure of some edges -/
theorem shri (m i : Nat) (hi : i < 64) : Go.Proofs.YtjkkgnpgjgfidaaDoorW.PrintWords.shr .i64 (m : Int) (i : Int) = ((m >>> i : Nat) : Int) := by
  unfold Go.Proofs.YtjkkgnpgjgfidaaDoorW.PrintWords.shr
  rw [Int.toNat_natCast, Nat.shiftRight_eq_div_pow]
  rw [Nat.min_eq_left (by show i ≤ 64; omega)]
  simp
theorem trOf_ev (a : Int) (h : inB 1 5 a = true) (m N : Nat) (hN : (N : Int) = trN a) : Ev (fun k => spec_trOf.f k a (m : Int)) (a, asInts ((List.range N).filter (fun i => m.testBit i))) := by
  obtain ⟨c, hc, h3⟩ := trCells_is h
  have hb := trN_bound a
  have key : ∀ d i, N - i = d → i ≤ N → Ev (fun k => spec_trOf.l0 k a (m : Int) (i : Int) a (asInts ((List.range i).filter (fun i => m.testBit i)))) (a, asInts ((List.range N).filter (fun i => m.testBit i))) := by
    intro d
    induction d with
    | zero =>
      intro i hd hi
      obtain rfl : i = N := by omega
      exact Ev.step (fun k => by simp only [spec_trOf.l0]; rw [hc, Option.bind_some, h3, if_neg (by omega)]) (Ev.now _)
    | succ d ih =>
      intro i hd hi
      refine Ev.step (fun k => ?_) (ih (i + 1) (by omega) (by omega))
      have hl : (asInts ((List.range i).filter (fun i => m.testBit i))).length ≤ i := by
        unfold asInts
        rw [List.length_map]
        exact Nat.le_trans (List.length_filter_le _ _) (by simp)
      simp only [spec_trOf.l0]
      rw [hc, Option.bind_some, h3, if_pos (by omega), if_pos (by omega), shri m i (by omega), w64 (by omega) (by omega), List.range_succ, List.filter_append]
      have ht : m.testBit i = decide (m >>> i % 2 = 1) := by rw [Nat.testBit_eq_decide_div_mod_eq, Nat.shiftRight_eq_div_pow]
      have hm2 : Int.tmod ((m >>> i : Nat) : Int) 2 = ((m >>> i % 2 : Nat) : Int) := by rw [Int.tmod_eq_emod_of_nonneg (Int.natCast_nonneg _)]; simp
      rw [hm2]
      by_cases hq : m >>> i % 2 = 1
      · rw [if_pos (by omega), if_pos (by omega), List.filter_cons, ht, decide_eq_true hq, if_pos rfl]
        simp [asInts]
      · rw [if_neg (by omega), List.filter_cons, ht, decide_eq_false hq, if_neg (by simp)]
        simp [asInts]
  exact key N 0 (by omega) (by omega)
theorem listed_is (N m : Nat) (hN : N ≤ 62) (hm : m < 2 ^ N) : Ev (fun k => impl_set_listed.f k (m : Int)) (asInts ((List.range N).filter (fun i => m.testBit i))) := by
  have h := listed_ev m (Nat.lt_of_lt_of_le hm (Nat.pow_le_pow_right (by decide) hN))
  have hB := listed_B 0 N m hN (by rw [Nat.zero_add]; exact hm)
  rw [Nat.shiftRight_zero] at hB
  rw [hB] at h
  unfold listB at h
  simpa using h

/-! ### what the laws write into a list, and read back -/
theorem eqIntS_ev (l : List Int) (hl : l.length ≤ 1000000) : Ev (fun k => laws_eqIntS.f k l l) true := by
  unfold laws_eqIntS.f
  simp only [if_true]
  exact (all_evB (fun k i => laws_eqIntS.l0 k l l i) (fun _ => true) 0 l.length
    (fun i r _ hi _ hr => Ev.step (fun k => by simp only [laws_eqIntS.l0]; rw [if_pos (by omega), if_pos (by omega), if_pos (by omega), if_pos trivial, w64 (by omega) (by omega)]; rfl) hr)
    (fun i _ hi hp => by simp at hp)
    (fun i hi _ => Ev.step (fun k => by simp only [laws_eqIntS.l0]; rw [if_neg (by omega)]) (Ev.now true))) |> fun h => by
      have e : ((List.range' 0 (l.length - 0)).all fun _ => true) = true := by simp
      rw [e] at h
      exact h
/-- The first i cells written. -/
def inked (l : List Int) (a : Int) (i : Nat) : List Int := (List.range l.length).map (fun j => if j < i then a + (j : Int) else rd l (j : Int))
theorem inked_len (l a i) : (inked l a i).length = l.length := by simp [inked]
theorem inked_get (l : List Int) (a : Int) (i j : Nat) (h : j < (inked l a i).length) : (inked l a i)[j] = if j < i then a + (j : Int) else rd l (j : Int) := by simp [inked]
theorem inked_set (l : List Int) (a : Int) (i : Nat) : (inked l a i).set i (a + (i : Int)) = inked l a (i + 1) := by
  apply List.ext_getElem
  · rw [List.length_set, inked_len, inked_len]
  · intro j h1 h2
    rw [List.getElem_set, inked_get, inked_get]
    by_cases hj : i = j
    · subst hj
      rw [if_pos rfl, if_pos (by omega)]
    · rw [if_neg hj]
      by_cases hji : j < i
      · rw [if_pos hji, if_pos (by omega)]
      · rw [if_neg hji, if_neg (by omega)]
theorem inked_zero (l : List Int) (a : Int) : inked l a 0 = l := by
  apply List.ext_getElem
  · rw [inked_len]
  · intro j h1 h2
    rw [inked_get, if_neg (by omega), rd_nat l j h2]
theorem markIntS_ev (l : List Int) (a : Int) (hl : l.length ≤ 1000000) (h0 : 0 ≤ a) (h1 : a ≤ 10000000) : Ev (fun k => laws_markIntS.f k l a) (a + (l.length : Int), inked l a l.length) := by
  have key : ∀ d i, l.length - i = d → i ≤ l.length → Ev (fun k => laws_markIntS.l0 k (inked l a i) (a + (i : Int)) (i : Int)) (a + (l.length : Int), inked l a l.length) := by
    intro d
    induction d with
    | zero =>
      intro i h hi
      obtain rfl : i = l.length := by omega
      exact Ev.step (fun k => by simp only [laws_markIntS.l0]; rw [inked_len, if_neg (by omega)]) (Ev.now _)
    | succ d ih =>
      intro i h hi
      refine Ev.step (fun k => ?_) (ih (i + 1) (by omega) (by omega))
      simp only [laws_markIntS.l0]
      rw [inked_len, if_pos (by omega), if_pos (by omega), Int.toNat_natCast, inked_set, w64 (by omega) (by omega), w64 (by omega) (by omega), Int.add_assoc]
      rfl
  have := key l.length 0 (by omega) (by omega)
  rw [inked_zero] at this
  unfold laws_markIntS.f
  simpa using this
theorem heldIntS_ev (l : List Int) (a : Int) (hl : l.length ≤ 1000000) (h0 : 0 ≤ a) (h1 : a ≤ 10000000) : Ev (fun k => laws_heldIntS.f k (inked l a l.length) a) (a + (l.length : Int)) := by
  have key : ∀ d i, l.length - i = d → i ≤ l.length → Ev (fun k => laws_heldIntS.l0 k (inked l a l.length) (a + (i : Int)) (i : Int)) (a + (l.length : Int)) := by
    intro d
    induction d with
    | zero =>
      intro i h hi
      obtain rfl : i = l.length := by omega
      exact Ev.step (fun k => by simp only [laws_heldIntS.l0]; rw [inked_len, if_neg (by omega)]) (Ev.now _)
    | succ d ih =>
      intro i h hi
      refine Ev.step (fun k => ?_) (ih (i + 1) (by omega) (by omega))
      have hr : rd (inked l a l.length) (i : Int) = a + (i : Int) := by
        rw [rd_nat _ i (by rw [inked_len]; omega), inked_get, if_pos (by omega)]
      simp only [laws_heldIntS.l0]
      rw [inked_len, if_pos (by omega), if_pos (by omega), if_pos hr, w64 (by omega) (by omega), w64 (by omega) (by omega), Int.add_assoc]
      rfl
  have := key l.length 0 (by omega) (by omega)
  unfold laws_heldIntS.f
  simpa using this

/-! ### a law whose answer is a figure of triangles -/
theorem tri_out_end (a : Int) (l : List Int) (hl : l.length ≤ 9223372036854775807) (m : Int) (L : List Int) (t : Bool) (hL : L.length ≤ 1000000) (hs : Ev (fun k => spec_TurnTri.f k a l) (m, L, t)) (hi : Ev (fun k => impl_TurnTri.f k a l) (m, L, t)) : ∃ k, laws_FnExactTurnTri.f k a l = some true := by
  by_cases hab : (l.length : Int) ≤ 1000000
  · have eq : Ev (fun k => laws_eqTri.f k m L m L) true := by
      unfold laws_eqTri.f
      simp only [if_true]
      exact Ev.bind (eqIntS_ev L hL) (Ev.const rfl)
    have mark : Ev (fun k => laws_markTri.f k m L 101) (101 + (L.length : Int), inked L 101 L.length) := by
      unfold laws_markTri.f
      exact Ev.bind (markIntS_ev L 101 hL (by omega) (by omega)) (Ev.now _)
    have mark0 : Ev (fun k => laws_markTri.f k a l 101) (101 + (l.length : Int), inked l 101 l.length) := by
      unfold laws_markTri.f
      exact Ev.bind (markIntS_ev l 101 (by omega) (by omega) (by omega)) (Ev.now _)
    have held : Ev (fun k => laws_heldTri.f k m (inked L 101 L.length) 101) (101 + (L.length : Int)) := by
      unfold laws_heldTri.f
      refine Ev.bind (heldIntS_ev L 101 hL (by omega) (by omega)) (Ev.const ?_)
      rw [if_neg (by omega)]
    have all : Ev (fun k => laws_FnExactTurnTri.f k a l) true := by
      unfold laws_FnExactTurnTri.f
      refine Ev.bind (Ev.const (szTri_is a l hl)) (Ev.congr (fun k => if_neg (by rw [if_pos hab]; omega)) ?_)
      refine Ev.bind (Ev.const (toTri_is a l _ hab)) (Ev.bind hs (Ev.bind (Ev.const (toTri_is a l _ hab)) (Ev.bind hi (Ev.bind eq ?_))))
      simp only [if_true, bne_self_eq_false]
      refine Ev.step (fun k => by simp only [laws_FnExactTurnTri.j0, Bool.false_eq_true, if_false]; rfl) ?_
      refine Ev.bind (Ev.const (toTri_is a l _ hab)) (Ev.bind (Ev.const (intactTri_is a l hab)) (Ev.congr (fun k => if_pos rfl) ?_))
      refine Ev.bind mark0 (Ev.congr (fun k => if_neg (by omega)) (Ev.bind eq ?_))
      simp only [if_true, bne_self_eq_false]
      refine Ev.step (fun k => by simp only [laws_FnExactTurnTri.j1, Bool.false_eq_true, if_false]; rfl) ?_
      refine Ev.bind mark (Ev.bind held ?_)
      refine Ev.congr (fun k => (if_neg (by omega)).trans (if_pos rfl)) ?_
      refine Ev.bind (Ev.const (toTri_is a l _ hab)) (Ev.bind hi (Ev.bind eq ?_))
      simp only [if_true, bne_self_eq_false]
      refine Ev.step (fun k => by simp only [laws_FnExactTurnTri.j2, Bool.false_eq_true, if_false]; rfl) ?_
      refine Ev.bind held ?_
      refine Ev.congr (fun k => (if_neg (by omega)).trans (if_pos rfl)) (Ev.now _)
    obtain ⟨K, hK⟩ := all
    exact ⟨K, hK K (Nat.le_refl _)⟩
  · refine ⟨0, ?_⟩
    unfold laws_FnExactTurnTri.f
    rw [szTri_is a l hl, Option.bind_some, if_neg hab, if_pos (by omega)]

def tgt (n r p k : Nat) : Option Int := spec_trEdge.f ((p : Int) + ((n : Int) - 1 - (r : Int))) ((n : Int) - 1 - (r : Int)) (Int.tmod ((k : Int) + 1) 3)
/-! ### moved: the table and what is drawn, as sets -/
def tgtL (n : Nat) : List Nat := (List.range n).flatMap fun r => (List.range (r + 1)).flatMap fun p => (List.range 3).map fun k => ((tgt n r p k).getD 0).toNat
def piS (n i : Nat) : Nat := (tgtL n).getD i 0
theorem tgt_all : ((List.range 6).all fun n => (List.range n).all fun r => (List.range (r + 1)).all fun p => (List.range 3).all fun k => decide (spec_trEdge.f (r : Int) (p : Int) (k : Int) = some ((eix r p k : Nat) : Int) ∧ tgt n r p k = some ((piS n (eix r p k) : Nat) : Int) ∧ piS n (eix r p k) < eix n 0 0 ∧ eix r p k < eix n 0 0 ∧ eix n 0 0 ≤ 45)) = true := by decide +kernel
theorem tgt_at {n r p k : Nat} (hn : n ≤ 5) (h1 : r < n) (h2 : p ≤ r) (h3 : k < 3) : spec_trEdge.f (r : Int) (p : Int) (k : Int) = some ((eix r p k : Nat) : Int) ∧ tgt n r p k = some ((piS n (eix r p k) : Nat) : Int) ∧ piS n (eix r p k) < eix n 0 0 ∧ eix r p k < eix n 0 0 ∧ eix n 0 0 ≤ 45 := by
  have h := List.all_eq_true.1 (List.all_eq_true.1 (List.all_eq_true.1 (List.all_eq_true.1 tgt_all n (List.mem_range.2 (by omega))) r (List.mem_range.2 h1)) p (List.mem_range.2 (by omega))) k (List.mem_range.2 h3)
  exact of_decide_eq_true h
theorem where_all : ((List.range 6).all fun n => (List.range (eix n 0 0)).all fun i => decide (whereU (eix n 0 0) (mvA (n : Int) (ed i).1 (ed i).2.1) (mvB (n : Int) (ed i).1 (ed i).2.1) (mvA (n : Int) (ed i).2.2.1 (ed i).2.2.2) (mvB (n : Int) (ed i).2.2.1 (ed i).2.2.2) = ((2 ^ piS n i : Nat) : Int) ∧ piS n i < 45 ∧ i < 45)) = true := by decide +kernel
theorem where_at {n i : Nat} (hn : n ≤ 5) (hi : i < eix n 0 0) : whereU (eix n 0 0) (mvA (n : Int) (ed i).1 (ed i).2.1) (mvB (n : Int) (ed i).1 (ed i).2.1) (mvA (n : Int) (ed i).2.2.1 (ed i).2.2.2) (mvB (n : Int) (ed i).2.2.1 (ed i).2.2.2) = ((2 ^ piS n i : Nat) : Int) ∧ piS n i < 45 ∧ i < 45 := by
  have h := List.all_eq_true.1 (List.all_eq_true.1 where_all n (List.mem_range.2 (by omega))) i (List.mem_range.2 hi)
  exact of_decide_eq_true h
/-- What is drawn after i edges of the set M. -/
def ms (n M : Nat) : Nat → Nat
  | 0 => 0
  | i + 1 => if M.testBit i = true then ms n M i ||| 2 ^ piS n i else ms n M i
theorem ms_lt {n M : Nat} (hn : n ≤ 5) : ∀ i, i ≤ eix n 0 0 → ms n M i < 2 ^ 45
  | 0, _ => by simp [ms]
  | i + 1, h => by
    have ih := ms_lt (M := M) hn i (by omega)
    have hw := (where_at hn (show i < eix n 0 0 by omega)).2.1
    unfold ms
    split
    · exact Nat.or_lt_two_pow ih (Nat.pow_lt_pow_right (by decide) hw)
    · exact ih
theorem ms_N {n M : Nat} (hn : n ≤ 5) (hp : ∀ i, i < eix n 0 0 → piS n i < eix n 0 0) : ∀ i, i ≤ eix n 0 0 → ms n M i < 2 ^ eix n 0 0
  | 0, _ => by simp [ms, Nat.two_pow_pos]
  | i + 1, h => by
    have ih := ms_N (M := M) hn hp i (by omega)
    unfold ms
    split
    · exact Nat.or_lt_two_pow ih (Nat.pow_lt_pow_right (by decide) (hp i (by omega)))
    · exact ih
theorem pi_lt_all : ((List.range 6).all fun n => (List.range (eix n 0 0)).all fun i => decide (piS n i < eix n 0 0)) = true := by decide +kernel
theorem pi_lt {n i : Nat} (hn : n ≤ 5) (hi : i < eix n 0 0) : piS n i < eix n 0 0 := of_decide_eq_true (List.all_eq_true.1 (List.all_eq_true.1 pi_lt_all n (List.mem_range.2 (by omega))) i (List.mem_range.2 hi))
theorem outU_is {n M : Nat} (hn : n ≤ 5) (hM : M < 2 ^ 45) : ∀ i, i ≤ eix n 0 0 → outU (n : Int) (eix n 0 0) (M : Int) i = ((ms n M i : Nat) : Int)
  | 0, _ => rfl
  | i + 1, h => by
    have ih := outU_is hn hM i (by omega)
    have hw := where_at hn (show i < eix n 0 0 by omega)
    have hl := ms_lt (M := M) hn i (by omega)
    have hc : ((2 : Int) ^ i) = ((2 ^ i : Nat) : Int) := by simp
    unfold outU dOut ms
    rw [hw.1, ih, hc, andu _ _ (lt63 hM (by decide)) (pow_lt63 (by omega)), oru _ _ (lt63 hl (by decide)) (pow_lt63 (by omega))]
    by_cases ht : M.testBit i = true
    · have := (and_pow_ne M i).2 ht
      rw [if_neg (by omega), if_pos ht]
    · have : ¬ (M &&& 2 ^ i ≠ 0) := fun h => ht ((and_pow_ne M i).1 h)
      rw [if_pos (by omega), if_neg ht]
theorem eix_N {n : Nat} (h1 : 1 ≤ n) (h5 : n ≤ 5) : ((eix n 0 0 : Nat) : Int) = trN (n : Int) := by
  have : n = 1 ∨ n = 2 ∨ n = 3 ∨ n = 4 ∨ n = 5 := by omega
  rcases this with rfl | rfl | rfl | rfl | rfl <;> decide
theorem tmod_bit (M i : Nat) (hi : i < 64) : (Int.tmod (Go.Proofs.YtjkkgnpgjgfidaaDoorW.PrintWords.shr .i64 (M : Int) (i : Int)) 2 = 1) ↔ M.testBit i = true := by
  have ht : M.testBit i = decide (M >>> i % 2 = 1) := by rw [Nat.testBit_eq_decide_div_mod_eq, Nat.shiftRight_eq_div_pow]
  have hm2 : Int.tmod ((M >>> i : Nat) : Int) 2 = ((M >>> i % 2 : Nat) : Int) := by rw [Int.tmod_eq_emod_of_nonneg (Int.natCast_nonneg _)]; simp
  rw [shri M i hi, hm2, ht, decide_eq_true_eq]
  omega
/-- What the reference's rows come to. -/
theorem sMove_ev (n M : Nat) (h1 : 1 ≤ n) (h5 : n ≤ 5) : Ev (fun k => spec_trTurn.l0 k (n : Int) (M : Int) 0 0) ((n : Int), asInts ((List.range (eix n 0 0)).filter (fun i => (ms n M (eix n 0 0)).testBit i))) := by
  have hv : inB 1 5 (n : Int) = true := by simp [inB]; omega
  have fin : Ev (fun k => spec_trTurn.l0 k (n : Int) (M : Int) ((ms n M (eix n 0 0) : Nat) : Int) (n : Int)) ((n : Int), asInts ((List.range (eix n 0 0)).filter (fun i => (ms n M (eix n 0 0)).testBit i))) := by
    refine Ev.step (f := fun k => (spec_trOf.f k (n : Int) ((ms n M (eix n 0 0) : Nat) : Int)).bind fun bt => some (bt.1, bt.2)) (fun k => by simp only [spec_trTurn.l0]; rw [if_neg (by omega)]) (Ev.bind (trOf_ev (n : Int) hv _ _ (eix_N h1 h5)) (Ev.now _))
  have rows : ∀ d r, n - r = d → r ≤ n → Ev (fun k => spec_trTurn.l0 k (n : Int) (M : Int) ((ms n M (eix r 0 0) : Nat) : Int) (r : Int)) ((n : Int), asInts ((List.range (eix n 0 0)).filter (fun i => (ms n M (eix n 0 0)).testBit i))) := by
    intro d
    induction d with
    | zero =>
      intro r hd hr
      obtain rfl : r = n := by omega
      exact fin
    | succ d ih =>
      intro r hd hr
      have next := ih (r + 1) (by omega) (by omega)
      rw [← eix_row (show r < n by omega) h5] at next
      have places : ∀ e p, r + 1 - p = e → p ≤ r + 1 → Ev (fun k => spec_trTurn.l1 k (n : Int) (M : Int) ((ms n M (eix r p 0) : Nat) : Int) (r : Int) (p : Int)) ((n : Int), asInts ((List.range (eix n 0 0)).filter (fun i => (ms n M (eix n 0 0)).testBit i))) := by
        intro e
        induction e with
        | zero =>
          intro p hp hpr
          obtain rfl : p = r + 1 := by omega
          refine Ev.step (fun k => ?_) next
          simp only [spec_trTurn.l1]
          rw [if_neg (by omega), w64 (by omega) (by omega)]
          rfl
        | succ e ih2 =>
          intro p hp hpr
          have next2 := ih2 (p + 1) (by omega) (by omega)
          rw [← eix_place] at next2
          have kinds : ∀ g q, 3 - q = g → q ≤ 3 → Ev (fun k => spec_trTurn.l2 k (n : Int) (M : Int) ((ms n M (eix r p q) : Nat) : Int) (r : Int) (p : Int) ((n : Int) - 1 - (r : Int)) ((p : Int) + ((n : Int) - 1 - (r : Int))) (q : Int)) ((n : Int), asInts ((List.range (eix n 0 0)).filter (fun i => (ms n M (eix n 0 0)).testBit i))) := by
            intro g
            induction g with
            | zero =>
              intro q hq hq3
              obtain rfl : q = 3 := by omega
              refine Ev.step (fun k => ?_) next2
              simp only [spec_trTurn.l2]
              rw [if_neg (by omega), w64 (by omega) (by omega)]
              rfl
            | succ g ih3 =>
              intro q hq hq3
              have next3 := ih3 (q + 1) (by omega) (by omega)
              rw [← eix_kind] at next3
              have ht := tgt_at h5 (show r < n by omega) (show p ≤ r by omega) (show q < 3 by omega)
              have hl := ms_lt (M := M) h5 (eix r p q) (by omega)
              have hpi := pi_lt h5 ht.2.2.2.1
              refine Ev.step (fun k => ?_) next3
              have ht2 : spec_trEdge.f ((p : Int) + ((n : Int) - 1 - (r : Int))) ((n : Int) - 1 - (r : Int)) (Int.tmod (wrap64 ((q : Int) + 1)) 3) = some ((piS n (eix r p q) : Nat) : Int) := by rw [w64 (by omega) (by omega)]; exact ht.2.1
              simp only [spec_trTurn.l2]
              rw [if_pos (by omega), ht.1, Option.bind_some, if_pos (by omega), ht2, w64 (by omega) (by omega)]
              by_cases hb : M.testBit (eix r p q) = true
              · rw [if_pos ((tmod_bit M _ (by omega)).2 hb), Option.bind_some, if_pos (by omega), shli _ (by omega) (by omega), Int.toNat_natCast, ori _ _ (lt63 hl (by decide)) (pow_lt63 (by omega))]
                have e : ms n M (eix r p q + 1) = ms n M (eix r p q) ||| 2 ^ piS n (eix r p q) := by show (if _ then _ else _) = _; rw [if_pos hb]
                rw [e]
                rfl
              · rw [if_neg (fun h => hb ((tmod_bit M _ (by omega)).1 h))]
                have e : ms n M (eix r p q + 1) = ms n M (eix r p q) := by show (if _ then _ else _) = _; rw [if_neg hb]
                rw [e]
                rfl
          refine Ev.step (fun k => ?_) (kinds 3 0 (by omega) (by omega))
          simp only [spec_trTurn.l1]
          rw [if_pos (by omega), w64 (n := (n : Int) - 1) (by omega) (by omega), w64 (n := (n : Int) - 1 - (r : Int)) (by omega) (by omega), w64 (n := (p : Int) + ((n : Int) - 1 - (r : Int))) (by omega) (by omega)]
          rfl
      refine Ev.step (fun k => ?_) (places (r + 1) 0 (by omega) (by omega))
      simp only [spec_trTurn.l0]
      rw [if_pos (by omega)]
      rfl
  exact rows n 0 (by omega) (by omega)
theorem both_move (a : Int) (l : List Int) (hl : l.length ≤ 9223372036854775807) : ∃ m L t, L.length ≤ 1000000 ∧ Ev (fun k => spec_TurnTri.f k a l) (m, L, t) ∧ Ev (fun k => impl_TurnTri.f k a l) (m, L, t) := by
  unfold spec_TurnTri.f impl_TurnTri.f
  cases h : triGood a l with
  | false => exact ⟨0, [], false, by simp, Ev.bind (trGood_ev a l hl) (by rw [h]; exact Ev.const (by simp)), Ev.bind (IsTri_ev a l hl) (by rw [h]; exact Ev.const (by simp))⟩
  | true =>
    obtain ⟨hv, hin, hlt, _⟩ := triGood_parts h
    have hv5 : 1 ≤ a ∧ a ≤ 5 := by simp [inB] at hv; exact hv
    obtain ⟨n, rfl⟩ : ∃ n : Nat, a = (n : Int) := ⟨a.toNat, by omega⟩
    have hM := mask45 l hin
    have hN := ms_N (M := maskL l) (show n ≤ 5 by omega) (fun i hi => pi_lt (by omega) hi) (eix n 0 0) (Nat.le_refl _)
    have h45 := (tgt_at (show n ≤ 5 by omega) (show 0 < n by omega) (Nat.le_refl 0) (show 0 < 3 by omega)).2.2.2.2
    have hlen : (asInts ((List.range (eix n 0 0)).filter (fun i => (ms n (maskL l) (eix n 0 0)).testBit i))).length ≤ 1000000 := by
      unfold asInts
      rw [List.length_map]
      exact Nat.le_trans (List.length_filter_le _ _) (by simp; omega)
    refine ⟨(n : Int), asInts ((List.range (eix n 0 0)).filter (fun i => (ms n (maskL l) (eix n 0 0)).testBit i)), true, hlen, Ev.bind (trGood_ev _ l hl) ?_, Ev.bind (IsTri_ev _ l hl) ?_⟩
    · rw [h]
      have hS : Ev (fun k => spec_trTurn.f k (n : Int) l) ((n : Int), asInts ((List.range (eix n 0 0)).filter (fun i => (ms n (maskL l) (eix n 0 0)).testBit i))) := by
        unfold spec_trTurn.f
        exact Ev.bind (trMask_ev _ l hl hin) (sMove_ev n (maskL l) (by omega) (by omega))
      exact Ev.congr (fun k => if_pos rfl) (Ev.bind hS (Ev.now _))
    · rw [h]
      have hS : Ev (fun k => impl_turnedTri.f k (n : Int) l) ((n : Int), asInts ((List.range (eix n 0 0)).filter (fun i => (ms n (maskL l) (eix n 0 0)).testBit i))) := by
        unfold impl_turnedTri.f
        refine Ev.congr (fun k => if_pos hv5) (Ev.bind (triSet_ev _ l hl hin) ?_)
        rw [Int.toNat_natCast, outU_is (by omega) hM (eix n 0 0) (Nat.le_refl _)]
        exact Ev.bind (listed_is (eix n 0 0) _ (by omega) hN) (Ev.now _)
      exact Ev.congr (fun k => if_pos rfl) (Ev.bind hS (Ev.now _))
theorem FnExactTurnTri : laws_FnExactTurnTri.Pure := by
  intro a l _ hm _
  have hl := maxLen_le hm
  obtain ⟨m, L, t, hL, hs, hi⟩ := both_move a l hl
  exact tri_out_end a l hl m L t hL hs hi

end Go.Proofs.YtjkkgnpgjgfidaaDoor.Pure
