/- Proved here: the pure statement of FnExactCountNumerals: program and reference count the same numerals. Conditions: the numbers are 64 bit integers. -/
import Derived.Test.YtdnfmkgcglgdiaaDoorQFnExactCountNumeralsx2
set_option linter.unusedVariables false
set_option linter.unusedSimpArgs false
namespace Go.Proofs.YtdnfmkgcglgdiaaDoor.Pure
open Go.RowKit Go.Proofs.YtdnfmkgcglgdiaaDoor.Q Go.Proofs.YtdnfmkgcglgdiaaDoorW.PrintWords Go.Proofs.YtdnfmkgcglgdiaaDoorW.PrintLast

/-! ### base: wrapping, 'from some number of rounds on', loops -/
theorem w64 {n : Int} (h0 : -9223372036854775808 ≤ n) (h1 : n ≤ 9223372036854775807) : wrap64 n = n := by unfold wrap64; omega
theorem wf64 {x : Int} (h : (Lit.int .i64 x).wf = true) : -9223372036854775808 ≤ x ∧ x ≤ 9223372036854775807 := by
  simp [Lit.wf, IntKind.min, IntKind.max, IntKind.signed, IntKind.bits] at h
  omega
theorem maxLen_le {n : Nat} (h : n ≤ maxLen) : n ≤ 9223372036854775807 := by unfold maxLen at h; omega
theorem Ev.both {α β : Type} {g : Nat → Option α} {f : Nat → Option β} {a : α} {b : β} (h : Ev g a) (k : Ev f b) : ∃ K, ∀ n, K ≤ n → g n = some a ∧ f n = some b := by
  obtain ⟨K, h⟩ := h
  obtain ⟨K', k⟩ := k
  exact ⟨max K K', fun n hn => ⟨h n (by omega), k n (by omega)⟩⟩
theorem Ev.const {α : Type} {x : Option α} {r : α} (h : x = some r) : Ev (fun _ => x) r := ⟨0, fun _ _ => h⟩
/-- A loop from lo on that ends early with 'bad', or runs through. -/
theorem all_ev {β : Type} (g : Nat → Int → Option β) (p : Nat → Bool) (good bad : β) (lo n : Nat)
    (hgood : ∀ i r, lo ≤ i → i < n → p i = true → Ev (fun k => g k ((i + 1 : Nat) : Int)) r → Ev (fun k => g k (i : Int)) r)
    (hbad : ∀ i, lo ≤ i → i < n → p i = false → Ev (fun k => g k (i : Int)) bad)
    (fin : ∀ i, n ≤ i → i ≤ n + lo → Ev (fun k => g k (i : Int)) good) : ∀ d a, n - a = d → lo ≤ a → a ≤ n + lo → Ev (fun k => g k (a : Int)) (if (List.range' a (n - a)).all p = true then good else bad) := by
  intro d
  induction d with
  | zero =>
    intro a ha hlo hle
    rw [ha]
    simpa using fin a (by omega) hle
  | succ d ih =>
    intro a ha hlo hle
    rw [ha, List.range'_succ, List.all_cons]
    cases hp : p a with
    | true =>
      have := ih (a + 1) (by omega) (by omega) (by omega)
      rw [show n - (a + 1) = d by omega] at this
      simp only [Bool.true_and]
      exact hgood a _ hlo (by omega) hp this
    | false =>
      simp only [Bool.false_and]
      exact hbad a hlo (by omega) hp
/-- The same where it answers whether all held. -/
theorem all_evB (g : Nat → Int → Option Bool) (p : Nat → Bool) (lo n : Nat)
    (hgood : ∀ i r, lo ≤ i → i < n → p i = true → Ev (fun k => g k ((i + 1 : Nat) : Int)) r → Ev (fun k => g k (i : Int)) r)
    (hbad : ∀ i, lo ≤ i → i < n → p i = false → Ev (fun k => g k (i : Int)) false)
    (fin : ∀ i, n ≤ i → i ≤ n + lo → Ev (fun k => g k (i : Int)) true) : Ev (fun k => g k (lo : Int)) ((List.range' lo (n - lo)).all p) := by
  have h := all_ev g p true false lo n hgood hbad fin (n - lo) lo rfl (Nat.le_refl _) (by omega)
  cases hb : (List.range' lo (n - lo)).all p <;> simpa [hb] using h
/-- A loop that carries a state s; P: what is known of it. -/
theorem fold_ev {σ β : Type} (g : Nat → σ → Int → Option β) (f : σ → Nat → σ) (h : σ → β) (P : Nat → σ → Prop) (n : Nat)
    (step : ∀ s i r, i < n → P i s → (P (i + 1) (f s i) ∧ (Ev (fun k => g k (f s i) ((i + 1 : Nat) : Int)) r → Ev (fun k => g k s (i : Int)) r)))
    (fin : ∀ s, P n s → Ev (fun k => g k s (n : Int)) (h s)) : ∀ d a s, n - a = d → a ≤ n → P a s → Ev (fun k => g k s (a : Int)) (h ((List.range' a (n - a)).foldl f s)) := by
  intro d
  induction d with
  | zero =>
    intro a s ha hle hP
    obtain rfl : a = n := by omega
    simpa using fin s hP
  | succ d ih =>
    intro a s ha hle hP
    rw [ha, List.range'_succ, List.foldl_cons]
    have := step s a (h ((List.range' (a + 1) d).foldl f (f s a))) (by omega) hP
    refine this.2 ?_
    have h2 := ih (a + 1) (f s a) (by omega) (by omega) this.1
    rw [show n - (a + 1) = d by omega] at h2
    exact h2
theorem rd_nat (l : List Int) (i : Nat) (h : i < l.length) : rd l (i : Int) = l[i] := by unfold rd; rw [Int.toNat_natCast]; simp [List.getD_eq_getElem?_getD, h]
theorem all_range (l : List Int) (q : Int → Bool) : (List.range' 0 l.length).all (fun i => q (rd l (i : Int))) = l.all q := by
  rw [Bool.eq_iff_iff, List.all_eq_true, List.all_eq_true]
  constructor
  · intro h x hx
    obtain ⟨i, hi, rfl⟩ := List.getElem_of_mem hx
    have := h i (by simp; omega)
    rwa [rd_nat l i hi] at this
  · intro h i hi
    have hi : i < l.length := by simp at hi; omega
    rw [rd_nat l i hi]
    exact h _ (List.getElem_mem hi)
/-- Strictly increasing. -/
def incr (l : List Int) : Bool := (List.range' 1 (l.length - 1)).all fun i => decide (rd l (i : Int) > rd l ((i : Int) - 1))
theorem incr_iff (l : List Int) : incr l = true ↔ ∀ i, ∀ h : i + 1 < l.length, l[i] < l[i + 1] := by
  unfold incr
  rw [List.all_eq_true]
  constructor
  · intro h i hi
    have := h (i + 1) (by simp; omega)
    rw [rd_nat l (i + 1) hi, show (((i + 1 : Nat) : Int) - 1) = ((i : Nat) : Int) by omega, rd_nat l i (by omega)] at this
    simpa using this
  · intro h i hi
    obtain ⟨j, rfl⟩ : ∃ j, i = j + 1 := ⟨i - 1, by simp at hi; omega⟩
    have hj : j + 1 < l.length := by simp at hi; omega
    rw [rd_nat l (j + 1) hj, show (((j + 1 : Nat) : Int) - 1) = ((j : Nat) : Int) by omega, rd_nat l j (by omega)]
    simpa using h j hj
theorem incr_ge (l : List Int) (h : incr l = true) (h0 : ∀ x ∈ l, 0 ≤ x) : ∀ i (hi : i < l.length), (i : Int) ≤ l[i] := by
  intro i
  induction i with
  | zero => intro hi; exact h0 _ (List.getElem_mem hi)
  | succ i ih =>
    intro hi
    have := ih (by omega)
    have := (incr_iff l).1 h i hi
    omega
theorem incr_len (l : List Int) (h : incr l = true) (m : Int) (hm : l.all (fun x => decide (0 ≤ x) && decide (x ≤ m)) = true) : (l.length : Int) ≤ m + 1 ∨ l = [] := by
  rw [List.all_eq_true] at hm
  by_cases h0 : l = []
  · exact .inr h0
  · left
    have hp := List.length_pos_iff.2 h0
    have h1 := incr_ge l h (fun x hx => by have := hm x hx; simp at this; omega) (l.length - 1) (by omega)
    have h2 := hm _ (List.getElem_mem (show l.length - 1 < l.length by omega))
    simp at h2
    omega

/-! ### bits: sets of numbers below 63 as natural numbers -/
theorem wu64 (n : Int) (h0 : 0 ≤ n) (h1 : n < 2 ^ 63) : IntKind.u64.wrap n = n := by
  simp only [IntKind.wrap, IntKind.bits, IntKind.signed]
  simp
  omega
theorem wi64 (n : Int) (h0 : 0 ≤ n) (h1 : n < 2 ^ 63) : IntKind.i64.wrap n = n := by
  rw [IntKind.wrap_i64]
  omega
/-- a without what b has. -/
def andN (a b : Nat) : Nat := a ^^^ (a &&& b)
theorem testBit_andN (a b i : Nat) : (andN a b).testBit i = (a.testBit i && !b.testBit i) := by
  unfold andN
  rw [Nat.testBit_xor, Nat.testBit_and]
  cases a.testBit i <;> cases b.testBit i <;> rfl
theorem andN_le (a b : Nat) : andN a b ≤ a := by
  apply Nat.le_of_testBit
  intro i h
  rw [testBit_andN] at h
  simp at h
  exact h.1
theorem castlt {n : Nat} (h : n < 2 ^ 63) : ((n : Nat) : Int) < 2 ^ 63 := by exact_mod_cast h
section
variable (k : IntKind) (hk : ∀ n : Int, 0 ≤ n → n < 2 ^ 63 → k.wrap n = n) (hb : k.bits = 64) (a b : Nat) (ha : a < 2 ^ 63) (hbb : b < 2 ^ 63)
include hk hb ha hbb
theorem bits_or : Go.bits .or k a b = ((a ||| b : Nat) : Int) := (bits_nat k 63 (by omega) hk a b ha hbb).2
theorem bits_and : Go.bits .and k a b = ((a &&& b : Nat) : Int) := (bits_nat k 63 (by omega) hk a b ha hbb).1
theorem bits_xor : Go.bits .xor k a b = ((a ^^^ b : Nat) : Int) := by
  have h1 : a % 2 ^ k.bits = a := Nat.mod_eq_of_lt (by rw [hb]; omega)
  have h2 : b % 2 ^ k.bits = b := Nat.mod_eq_of_lt (by rw [hb]; omega)
  simp only [Go.bits, BitVec.ofInt_natCast, BitVec.toNat_xor, BitVec.toNat_ofNat, h1, h2]
  exact hk _ (Int.natCast_nonneg _) (castlt (Nat.xor_lt_two_pow ha hbb))
theorem bits_andNot : Go.bits .andNot k a b = ((andN a b : Nat) : Int) := by
  have h1 : a % 2 ^ k.bits = a := Nat.mod_eq_of_lt (by rw [hb]; omega)
  have h2 : b % 2 ^ k.bits = b := Nat.mod_eq_of_lt (by rw [hb]; omega)
  have e : a &&& (2 ^ k.bits - 1 - b) = andN a b := by
    apply Nat.eq_of_testBit_eq
    intro i
    rw [Nat.testBit_and, testBit_andN, show 2 ^ k.bits - 1 - b = 2 ^ k.bits - (b + 1) by omega, Nat.testBit_two_pow_sub_succ (by rw [hb]; omega)]
    by_cases hi : i < k.bits
    · simp [hi]
    · have : a.testBit i = false := Nat.testBit_lt_two_pow (Nat.lt_of_lt_of_le ha (Nat.pow_le_pow_right (by decide) (by omega)))
      simp [this]
  simp only [Go.bits, BitVec.ofInt_natCast, BitVec.toNat_and, BitVec.toNat_not, BitVec.toNat_ofNat, h1, h2, e]
  exact hk _ (Int.natCast_nonneg _) (castlt (Nat.lt_of_le_of_lt (andN_le a b) ha))
end
theorem oru (a b : Nat) (ha : a < 2 ^ 63) (hb : b < 2 ^ 63) : Go.bits .or .u64 a b = ((a ||| b : Nat) : Int) := bits_or .u64 wu64 rfl a b ha hb
theorem ori (a b : Nat) (ha : a < 2 ^ 63) (hb : b < 2 ^ 63) : Go.bits .or .i64 a b = ((a ||| b : Nat) : Int) := bits_or .i64 wi64 rfl a b ha hb
theorem andu (a b : Nat) (ha : a < 2 ^ 63) (hb : b < 2 ^ 63) : Go.bits .and .u64 a b = ((a &&& b : Nat) : Int) := bits_and .u64 wu64 rfl a b ha hb
theorem andi (a b : Nat) (ha : a < 2 ^ 63) (hb : b < 2 ^ 63) : Go.bits .and .i64 a b = ((a &&& b : Nat) : Int) := bits_and .i64 wi64 rfl a b ha hb
theorem xoru (a b : Nat) (ha : a < 2 ^ 63) (hb : b < 2 ^ 63) : Go.bits .xor .u64 a b = ((a ^^^ b : Nat) : Int) := bits_xor .u64 wu64 rfl a b ha hb
theorem xori (a b : Nat) (ha : a < 2 ^ 63) (hb : b < 2 ^ 63) : Go.bits .xor .i64 a b = ((a ^^^ b : Nat) : Int) := bits_xor .i64 wi64 rfl a b ha hb
theorem andNu (a b : Nat) (ha : a < 2 ^ 63) (hb : b < 2 ^ 63) : Go.bits .andNot .u64 a b = ((andN a b : Nat) : Int) := bits_andNot .u64 wu64 rfl a b ha hb
theorem shl_one (k : IntKind) (hk : ∀ n : Int, 0 ≤ n → n < 2 ^ 63 → k.wrap n = n) (hb : k.bits = 64) (e : Int) (h0 : 0 ≤ e) (h1 : e < 63) : Go.Proofs.YtdnfmkgcglgdiaaDoorW.PrintWords.shl k 1 e = ((2 ^ e.toNat : Nat) : Int) := by
  obtain ⟨n, rfl⟩ := Int.eq_ofNat_of_zero_le h0
  unfold Go.Proofs.YtdnfmkgcglgdiaaDoorW.PrintWords.shl
  rw [Int.toNat_natCast, Nat.min_eq_left (by rw [hb]; omega), Int.one_mul]
  have hp : 2 ^ n < 2 ^ 63 := Nat.pow_lt_pow_right (by decide) (by omega)
  have hc : ((2 : Int) ^ n) = ((2 ^ n : Nat) : Int) := by simp
  rw [hc]
  exact hk _ (Int.natCast_nonneg _) (castlt hp)
theorem shlu (e : Int) (h0 : 0 ≤ e) (h1 : e < 63) : Go.Proofs.YtdnfmkgcglgdiaaDoorW.PrintWords.shl .u64 1 e = ((2 ^ e.toNat : Nat) : Int) := shl_one .u64 wu64 rfl e h0 h1
theorem shli (e : Int) (h0 : 0 ≤ e) (h1 : e < 63) : Go.Proofs.YtdnfmkgcglgdiaaDoorW.PrintWords.shl .i64 1 e = ((2 ^ e.toNat : Nat) : Int) := shl_one .i64 wi64 rfl e h0 h1
/-- The set of a list's numbers. -/
def maskL (l : List Int) : Nat := l.foldl (fun m x => m ||| 2 ^ x.toNat) 0
theorem testBit_pow (e j : Nat) : (2 ^ e).testBit j = decide (e = j) := Nat.testBit_two_pow
theorem foldl_mask_bit (j : Nat) : ∀ (l : List Int) (m : Nat), (l.foldl (fun m x => m ||| 2 ^ x.toNat) m).testBit j = (m.testBit j || l.any (fun x => decide (x.toNat = j)))
  | [], m => by simp
  | x :: l, m => by
    rw [List.foldl_cons, foldl_mask_bit j l, Nat.testBit_or, testBit_pow, List.any_cons, Bool.or_assoc]
theorem maskL_bit (l : List Int) (j : Nat) : (maskL l).testBit j = l.any (fun x => decide (x.toNat = j)) := by
  unfold maskL
  rw [foldl_mask_bit]
  simp
theorem maskL_mem (l : List Int) (h : ∀ x ∈ l, 0 ≤ x) (j : Nat) : (maskL l).testBit j = true ↔ (j : Int) ∈ l := by
  rw [maskL_bit, List.any_eq_true]
  constructor
  · rintro ⟨x, hx, he⟩
    have := h x hx
    simp at he
    have : x = (j : Int) := by omega
    rwa [← this]
  · intro hj
    exact ⟨_, hj, by simp⟩
theorem foldl_mask_lt (N : Nat) : ∀ (l : List Int) (m : Nat), (∀ x ∈ l, x.toNat < N) → m < 2 ^ N → (l.foldl (fun m x => m ||| 2 ^ x.toNat) m) < 2 ^ N
  | [], m, _, hm => hm
  | x :: l, m, h, hm => foldl_mask_lt N l _ (fun y hy => h y (List.mem_cons_of_mem _ hy)) (Nat.or_lt_two_pow hm (Nat.pow_lt_pow_right (by decide) (h x List.mem_cons_self)))
theorem maskL_lt (l : List Int) (N : Nat) (h : ∀ x ∈ l, x.toNat < N) : maskL l < 2 ^ N := foldl_mask_lt N l 0 h (Nat.two_pow_pos N)
theorem range_foldl {σ : Type} (l : List Int) (f : σ → Int → σ) : ∀ s, (List.range' 0 l.length).foldl (fun s (i : Nat) => f s (rd l (i : Int))) s = l.foldl f s := by
  have key : ∀ (d a : Nat) (s : σ), a + d = l.length → (List.range' a d).foldl (fun s (i : Nat) => f s (rd l (i : Int))) s = (l.drop a).foldl f s := by
    intro d
    induction d with
    | zero => intro a s h; rw [List.drop_of_length_le (by omega)]; rfl
    | succ d ih =>
      intro a s h
      have ha : a < l.length := by omega
      rw [List.range'_succ, List.foldl_cons, ih (a + 1) _ (by omega), List.drop_eq_getElem_cons ha, List.foldl_cons, rd_nat l a ha]
  intro s
  have := key l.length 0 s (by omega)
  simpa using this
theorem pow_lt63 {e : Nat} (h : e < 63) : 2 ^ e < 2 ^ 63 := Nat.pow_lt_pow_right (by decide) h
theorem lt63 {n N : Nat} (h : n < 2 ^ N) (hN : N ≤ 63) : n < 2 ^ 63 := Nat.lt_of_lt_of_le h (Nat.pow_le_pow_right (by decide) hN)
theorem and_pow_ne (m e : Nat) : (m &&& 2 ^ e ≠ 0) ↔ m.testBit e = true := by
  constructor
  · intro h
    cases hb : m.testBit e with
    | true => rfl
    | false =>
      exfalso
      apply h
      apply Nat.eq_of_testBit_eq
      intro i
      rw [Nat.testBit_and, testBit_pow, Nat.zero_testBit]
      by_cases hi : e = i
      · subst hi; simp [hb]
      · simp [hi]
  · intro h h0
    have := congrArg (fun n => n.testBit e) h0
    simp [Nat.testBit_and, testBit_pow, h] at this

/-! ### loops that carry a state, to a state that is known -/
theorem run_ev {σ β : Type} (g : Nat → σ → Int → Option β) (f : σ → Nat → σ) (Q : Nat → σ → Prop) (hi : Nat) (r : β)
    (step : ∀ s i, i < hi → Q i s → (Q (i + 1) (f s i) ∧ ∀ r, Ev (fun k => g k (f s i) ((i + 1 : Nat) : Int)) r → Ev (fun k => g k s (i : Int)) r)) :
    ∀ d lo s0, hi - lo = d → Q lo s0 → (Q (lo + (hi - lo)) ((List.range' lo (hi - lo)).foldl f s0) → Ev (fun k => g k ((List.range' lo (hi - lo)).foldl f s0) ((lo + (hi - lo) : Nat) : Int)) r) → Ev (fun k => g k s0 (lo : Int)) r := by
  intro d
  induction d with
  | zero =>
    intro lo s0 h hQ fin
    rw [h] at fin
    exact fin hQ
  | succ d ih =>
    intro lo s0 h hQ fin
    have st := step s0 lo (by omega) hQ
    refine st.2 r (ih (lo + 1) (f s0 lo) (by omega) st.1 ?_)
    rw [h, List.range'_succ, List.foldl_cons] at fin
    rw [show hi - (lo + 1) = d by omega, show lo + 1 + d = lo + (d + 1) by omega]
    exact fin
theorem andN_lt {a b N : Nat} (h : a < N) : andN a b < N := Nat.lt_of_le_of_lt (andN_le a b) h
/-- covered: all of e's edges are in m -/
def cov (e m : Nat) : Bool := decide (andN e m = 0)
theorem covers_iff (m e : Nat) : (andN e m = 0) ↔ (m &&& e = e) := by
  constructor
  · intro h
    apply Nat.eq_of_testBit_eq
    intro i
    have := congrArg (fun n => n.testBit i) h
    simp only [testBit_andN, Nat.zero_testBit] at this
    rw [Nat.testBit_and]
    cases he : e.testBit i <;> cases hm : m.testBit i <;> simp_all
  · intro h
    apply Nat.eq_of_testBit_eq
    intro i
    have := congrArg (fun n => n.testBit i) h
    simp only [Nat.testBit_and] at this
    rw [testBit_andN, Nat.zero_testBit]
    cases he : e.testBit i <;> cases hm : m.testBit i <;> simp_all
theorem cov_iff (e m : Nat) : cov e m = decide (m &&& e = e) := by
  unfold cov
  rw [decide_eq_decide]
  exact covers_iff m e

/-! ### bounds -/
def inB (lo hi : Int) (x : Int) : Bool := decide (lo ≤ x) && decide (x ≤ hi)
theorem inB_iff {lo hi x : Int} : inB lo hi x = true ↔ lo ≤ x ∧ x ≤ hi := by simp [inB]
theorem l1In_is (a lo hi : Int) : spec_l1In.f a lo hi = some (inB lo hi a) := by
  unfold spec_l1In.f inB
  by_cases h : a ≥ lo
  · rw [if_pos h, decide_eq_true (show lo ≤ a from h), Bool.true_and]
  · rw [if_neg h, decide_eq_false (show ¬ lo ≤ a from h), Bool.false_and]
theorem within_is (a lo hi : Int) : impl_within.f a lo hi = some (inB lo hi a) := by
  unfold impl_within.f inB
  by_cases h : lo ≤ a
  · rw [if_pos h, decide_eq_true h, Bool.true_and]
  · rw [if_neg h, decide_eq_false h, Bool.false_and]

def costL : List Int := [6, 2, 5, 5, 4, 5, 6, 3, 7, 6]
def costOK (d : Nat) : Bool := decide (impl_matchesOf.f (d : Int) = some (rd costL (d : Int))) && (match spec_nuPlaces.f (d : Int) with
  | some p => decide ((p.length : Int) = rd costL (d : Int))
  | none => false) && decide (2 ≤ rd costL (d : Int) ∧ rd costL (d : Int) ≤ 7)
theorem cost_all : ((List.range 10).all costOK) = true := by decide +kernel
theorem cost_at (d : Nat) (h : d < 10) : impl_matchesOf.f (d : Int) = some (rd costL (d : Int)) ∧ (∃ p, spec_nuPlaces.f (d : Int) = some p ∧ (p.length : Int) = rd costL (d : Int)) ∧ 2 ≤ rd costL (d : Int) ∧ rd costL (d : Int) ≤ 7 := by
  have H := cost_all
  simp only [List.all_eq_true, List.mem_range] at H
  have H := H d h
  unfold costOK at H
  simp only [Bool.and_eq_true, decide_eq_true_eq] at H
  obtain ⟨⟨h1, h2⟩, h3⟩ := H
  refine ⟨h1, ?_, h3⟩
  cases hp : spec_nuPlaces.f (d : Int) with
  | none => rw [hp] at h2; simp at h2
  | some p => rw [hp] at h2; exact ⟨p, rfl, by simpa using h2⟩
/-- One digit's share. -/
def putD (n : Nat) (many : Int) (ws : List Int) (d : Nat) : List Int := if (n : Int) + rd costL (d : Int) ≤ 60 then ws.set ((n : Int) + rd costL (d : Int)).toNat (wrap64 (rd ws ((n : Int) + rd costL (d : Int)) + many)) else ws
def putN (old : List Int) (ws : List Int) (n : Nat) : List Int := (List.range' 0 10).foldl (putD n (rd old (n : Int))) ws
def stepW (old : List Int) : List Int := (List.range' 0 61).foldl (putN old) (List.replicate 61 0)
theorem putD_len (n : Nat) (many : Int) (ws : List Int) (d : Nat) : (putD n many ws d).length = ws.length := by unfold putD; split <;> simp
theorem foldl_len {f : List Int → Nat → List Int} (hf : ∀ ws d, (f ws d).length = ws.length) : ∀ (l : List Nat) (ws : List Int), (l.foldl f ws).length = ws.length
  | [], _ => rfl
  | x :: l, ws => by rw [List.foldl_cons, foldl_len hf l, hf]
theorem putN_len (old ws : List Int) (n : Nat) : (putN old ws n).length = ws.length := foldl_len (putD_len n _) _ _
theorem stepW_len (old : List Int) : (stepW old).length = 61 := by unfold stepW; rw [foldl_len (putN_len old)]; simp
theorem spec_step (left m : Int) (old : List Int) (h61 : old.length = 61) (hl : 0 < left) (hl8 : left ≤ 8) {r : Int × Bool} (h : Ev (fun k => spec_CountNumerals.l0 k (left - 1) m (stepW old)) r) : Ev (fun k => spec_CountNumerals.l0 k left m old) r := by
  refine Ev.step (fun k => by simp only [spec_CountNumerals.l0]; rw [if_pos hl, if_pos (by decide)]) ?_
  rw [h61]
  refine run_ev (fun k (ws : List Int) (n : Int) => spec_CountNumerals.l1 k left m ws old ((61 : Nat) : Int) n) (putN old) (fun _ ws => ws.length = 61) 61 r
    (fun ws n hn hw => ⟨by rw [putN_len]; exact hw, fun r hr => ?_⟩) 61 0 (List.replicate 61 0) (by omega) (by simp) (fun _ => ?_)
  · refine Ev.step (fun k => by simp only [spec_CountNumerals.l1]; rw [if_pos (by omega), if_pos (by omega), if_pos (by omega)]) ?_
    refine run_ev (fun k (ws : List Int) (d : Int) => spec_CountNumerals.l2 k left m ws (n : Int) (rd old (n : Int)) d old ((61 : Nat) : Int) (n : Int)) (putD n (rd old (n : Int))) (fun _ ws => ws.length = 61) 10 r
      (fun ws d hd hw => ⟨by rw [putD_len]; exact hw, fun r hr => ?_⟩) 10 0 ws (by omega) hw (fun _ => ?_)
    · obtain ⟨_, ⟨p, hp, hpl⟩, hc2, hc7⟩ := cost_at d hd
      unfold putD at hr
      refine Ev.step (fun k => ?_) hr
      simp only [spec_CountNumerals.l2]
      rw [if_pos (by omega), hp, Option.bind_some, hpl, w64 (n := (n : Int) + rd costL (d : Int)) (by omega) (by omega), w64 (n := (d : Int) + 1) (by omega) (by omega)]
      by_cases hle : (n : Int) + rd costL (d : Int) ≤ 60
      · rw [if_pos hle, if_pos hle, if_pos (by omega), if_pos (by omega)]
        rfl
      · rw [if_neg hle, if_neg hle]
        rfl
    · rw [Nat.sub_zero, Nat.zero_add]
      refine Ev.step (fun k => by simp only [spec_CountNumerals.l2]; rw [if_neg (by omega), w64 (n := (n : Int) + 1) (by omega) (by omega)]) ?_
      exact hr
  · rw [Nat.sub_zero, Nat.zero_add]
    refine Ev.step (fun k => by simp only [spec_CountNumerals.l1]; rw [if_neg (by omega), w64 (n := left - 1) (by omega) (by omega)]) ?_
    exact h
theorem impl_step (all done m : Int) (old : List Int) (h61 : old.length = 61) (hl : done < all) (h0 : 0 ≤ done) (hl8 : all ≤ 8) {r : Int × Bool} (h : Ev (fun k => impl_CountNumerals.l0 k m (stepW old) all (done + 1)) r) : Ev (fun k => impl_CountNumerals.l0 k m old all done) r := by
  refine Ev.step (fun k => by simp only [impl_CountNumerals.l0]; rw [if_pos hl, if_pos (by decide)]) ?_
  rw [h61]
  refine run_ev (fun k (ws : List Int) (n : Int) => impl_CountNumerals.l1 k m ws all done old ((61 : Nat) : Int) n) (putN old) (fun _ ws => ws.length = 61) 61 r
    (fun ws n hn hw => ⟨by rw [putN_len]; exact hw, fun r hr => ?_⟩) 61 0 (List.replicate 61 0) (by omega) (by simp) (fun _ => ?_)
  · refine Ev.step (fun k => by simp only [impl_CountNumerals.l1]; rw [if_pos (by omega), if_pos (by omega), if_pos (by omega)]) ?_
    refine run_ev (fun k (ws : List Int) (d : Int) => impl_CountNumerals.l2 k m ws (n : Int) (rd old (n : Int)) all done old ((61 : Nat) : Int) (n : Int) d) (putD n (rd old (n : Int))) (fun _ ws => ws.length = 61) 10 r
      (fun ws d hd hw => ⟨by rw [putD_len]; exact hw, fun r hr => ?_⟩) 10 0 ws (by omega) hw (fun _ => ?_)
    · obtain ⟨hp, _, hc2, hc7⟩ := cost_at d hd
      unfold putD at hr
      refine Ev.step (fun k => ?_) hr
      simp only [impl_CountNumerals.l2]
      rw [if_pos (by omega), hp, Option.bind_some, w64 (n := (n : Int) + rd costL (d : Int)) (by omega) (by omega), w64 (n := (d : Int) + 1) (by omega) (by omega)]
      by_cases hle : (n : Int) + rd costL (d : Int) ≤ 60
      · rw [if_pos hle, if_pos hle, if_pos (by omega), if_pos (by omega)]
        rfl
      · rw [if_neg hle, if_neg hle]
        rfl
    · rw [Nat.sub_zero, Nat.zero_add]
      refine Ev.step (fun k => by simp only [impl_CountNumerals.l2]; rw [if_neg (by omega), w64 (n := (n : Int) + 1) (by omega) (by omega)]) ?_
      exact hr
  · rw [Nat.sub_zero, Nat.zero_add]
    refine Ev.step (fun k => by simp only [impl_CountNumerals.l1]; rw [if_neg (by omega), w64 (n := done + 1) (by omega) (by omega)]) ?_
    exact h
def ways : Nat → List Int → List Int
  | 0, old => old
  | n + 1, old => ways n (stepW old)
theorem ways_len : ∀ n old, old.length = 61 → (ways n old).length = 61
  | 0, _, h => h
  | n + 1, old, _ => ways_len n _ (stepW_len old)
theorem spec_all (m : Int) (hm : 0 ≤ m ∧ m ≤ 60) : ∀ (n : Nat) (old : List Int), n ≤ 8 → old.length = 61 → Ev (fun k => spec_CountNumerals.l0 k (n : Int) m old) (rd (ways n old) m, true)
  | 0, old, _, h => show Ev _ (rd old m, true) from Ev.step (fun k => by simp only [spec_CountNumerals.l0]; rw [if_neg (by decide), if_pos hm.1, if_pos (by omega)]) (Ev.now _)
  | n + 1, old, hn, h => spec_step _ m old h (by omega) (by omega) (by
      have := spec_all m hm n (stepW old) (by omega) (stepW_len old)
      rw [show ((n + 1 : Nat) : Int) - 1 = (n : Int) by omega]
      exact this)
theorem impl_all (all m : Int) (hm : 0 ≤ m ∧ m ≤ 60) (h8 : all ≤ 8) : ∀ (n : Nat) (old : List Int), (n : Int) ≤ all → old.length = 61 → Ev (fun k => impl_CountNumerals.l0 k m old all (all - (n : Int))) (rd (ways n old) m, true)
  | 0, old, _, h => show Ev _ (rd old m, true) from Ev.step (fun k => by simp only [impl_CountNumerals.l0]; rw [if_neg (by omega), if_pos hm.1, if_pos (by omega)]) (Ev.now _)
  | n + 1, old, hn, h => impl_step all _ m old h (by omega) (by omega) h8 (by
      have := impl_all all m hm h8 n (stepW old) (by omega) (stepW_len old)
      rw [show all - ((n + 1 : Nat) : Int) + 1 = all - (n : Int) by omega]
      exact this)
theorem both_Count (d m : Int) : ∃ r, Ev (fun k => spec_CountNumerals.f k d m) r ∧ Ev (fun k => impl_CountNumerals.f k d m) r := by
  unfold spec_CountNumerals.f impl_CountNumerals.f
  rw [l1In_is, within_is]
  simp only [Option.bind_some]
  have js : Ev (fun k => spec_CountNumerals.j0 k d m true) (0, false) := Ev.step (fun k => by simp only [spec_CountNumerals.j0]; rw [if_pos trivial]) (Ev.now _)
  have ji : Ev (fun k => impl_CountNumerals.j0 k d m true) (0, false) := Ev.step (fun k => by simp only [impl_CountNumerals.j0]; rw [if_pos trivial]) (Ev.now _)
  cases hd : inB 1 8 d with
  | false => exact ⟨(0, false), Ev.congr (fun k => if_neg (by decide)) js, Ev.congr (fun k => if_neg (by decide)) ji⟩
  | true =>
    simp only [if_true]
    rw [l1In_is, within_is]
    simp only [Option.bind_some]
    cases hm : inB 0 60 m with
    | false => exact ⟨(0, false), js, ji⟩
    | true =>
      rw [inB_iff] at hd hm
      obtain ⟨n, rfl⟩ := Int.eq_ofNat_of_zero_le (show 0 ≤ d by omega)
      have h61 : ((List.replicate 61 (0 : Int)).set 0 1).length = 61 := by simp
      refine ⟨(rd (ways n ((List.replicate 61 (0 : Int)).set 0 1)) m, true), ?_, ?_⟩
      · refine Ev.step (fun k => ?_) (spec_all m hm n ((List.replicate 61 (0 : Int)).set 0 1) (by omega) h61)
        simp only [spec_CountNumerals.j0]
        rw [if_neg (by decide), if_pos (by decide), Option.bind_some, if_pos (by decide)]
        rfl
      · have := impl_all (n : Int) m hm (by omega) n ((List.replicate 61 (0 : Int)).set 0 1) (by omega) h61
        rw [show (n : Int) - (n : Int) = 0 by omega] at this
        refine Ev.step (fun k => ?_) this
        simp only [impl_CountNumerals.j0]
        rw [if_neg (by decide), if_pos (by decide), Option.bind_some, if_pos (by decide)]
        rfl
theorem FnExactCountNumerals : laws_FnExactCountNumerals.Pure := by
  intro d m _ _
  obtain ⟨r, hs, hi⟩ := both_Count d m
  have all : Ev (fun k => laws_FnExactCountNumerals.f k d m) true := by
    unfold laws_FnExactCountNumerals.f
    exact Ev.bind hs (Ev.bind hi (Ev.const (by simp)))
  obtain ⟨K, hK⟩ := all
  exact ⟨K, hK K (Nat.le_refl _)⟩

end Go.Proofs.YtdnfmkgcglgdiaaDoor.Pure
