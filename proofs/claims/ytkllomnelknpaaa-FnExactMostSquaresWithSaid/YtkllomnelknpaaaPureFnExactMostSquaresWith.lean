/- Proved here: the pure statement of FnExactMostSquaresWith: program and reference name the same greatest number of squares. Conditions: the numbers are 64 bit integers. -/
import Derived.Test.YtkllomnelknpaaaQFnExactMostSquaresWithx4
set_option linter.unusedVariables false
set_option linter.unusedSimpArgs false
namespace Go.Proofs.Ytkllomnelknpaaa.Pure
open Go.RowKit Go.Proofs.Ytkllomnelknpaaa.Q Go.Proofs.YtkllomnelknpaaaW.PrintWords Go.Proofs.YtkllomnelknpaaaW.PrintLast

/-! ### base: wrapping, 'from some number of rounds on', loops -/
theorem w64 {n : Int} (h0 : -9223372036854775808 ≤ n) (h1 : n ≤ 9223372036854775807) : wrap64 n = n := by unfold wrap64; omega
theorem wf64 {x : Int} (h : (Lit.int .i64 x).wf = true) : -9223372036854775808 ≤ x ∧ x ≤ 9223372036854775807 := by
  simp [Lit.wf, IntKind.min, IntKind.max, IntKind.signed, IntKind.bits] at h
  omega
theorem maxLen_le {n : Nat} (h : n ≤ maxLen) : n ≤ 9223372036854775807 := by unfold maxLen at h; omega
theorem Ev.both {α β : Type} {g : Nat → Option α} {f : Nat → Option β} {a : α} {b : β} (h : Ev g a) (k : Ev f b) : ∃ K, ∀ n, K ≤ n → g n = some a ∧ f n = some b := by
  obtain ⟨K, h⟩ := h
  obtain ⟨K', k⟩ := k
  exact ⟨max K K', fun n hn => ⟨h n (by omega), k n (by omega)⟩⟩
theorem Ev.const {α : Type} {x : Option α} {r : α} (h : x = some r) : Ev (fun _ => x) r := ⟨0, fun _ _ => h⟩
/-- A loop from lo on that ends early with 'bad', or runs through. -/
theorem all_ev {β : Type} (g : Nat → Int → Option β) (p : Nat → Bool) (good bad : β) (lo n : Nat)
    (hgood : ∀ i r, lo ≤ i → i < n → p i = true → Ev (fun k => g k ((i + 1 : Nat) : Int)) r → Ev (fun k => g k (i : Int)) r)
    (hbad : ∀ i, lo ≤ i → i < n → p i = false → Ev (fun k => g k (i : Int)) bad)
    (fin : ∀ i, n ≤ i → i ≤ n + lo → Ev (fun k => g k (i : Int)) good) : ∀ d a, n - a = d → lo ≤ a → a ≤ n + lo → Ev (fun k => g k (a : Int)) (if (List.range' a (n - a)).all p = true then good else bad) := by
  intro d
  induction d with
  | zero =>
    intro a ha hlo hle
    rw [ha]
    simpa using fin a (by omega) hle
  | succ d ih =>
    intro a ha hlo hle
    rw [ha, List.range'_succ, List.all_cons]
    cases hp : p a with
    | true =>
      have := ih (a + 1) (by omega) (by omega) (by omega)
      rw [show n - (a + 1) = d by omega] at this
      simp only [Bool.true_and]
      exact hgood a _ hlo (by omega) hp this
    | false =>
      simp only [Bool.false_and]
      exact hbad a hlo (by omega) hp
/-- The same where it answers whether all held. -/
theorem all_evB (g : Nat → Int → Option Bool) (p : Nat → Bool) (lo n : Nat)
    (hgood : ∀ i r, lo ≤ i → i < n → p i = true → Ev (fun k => g k ((i + 1 : Nat) : Int)) r → Ev (fun k => g k (i : Int)) r)
    (hbad : ∀ i, lo ≤ i → i < n → p i = false → Ev (fun k => g k (i : Int)) false)
    (fin : ∀ i, n ≤ i → i ≤ n + lo → Ev (fun k => g k (i : Int)) true) : Ev (fun k => g k (lo : Int)) ((List.range' lo (n - lo)).all p) := by
  have h := all_ev g p true false lo n hgood hbad fin (n - lo) lo rfl (Nat.le_refl _) (by omega)
  cases hb : (List.range' lo (n - lo)).all p <;> simpa [hb] using h
/-- A loop that carries a state s; P: what is known of it. -/
theorem fold_ev {σ β : Type} (g : Nat → σ → Int → Option β) (f : σ → Nat → σ) (h : σ → β) (P : Nat → σ → Prop) (n : Nat)
    (step : ∀ s i r, i < n → P i s → (P (i + 1) (f s i) ∧ (Ev (fun k => g k (f s i) ((i + 1 : Nat) : Int)) r → Ev (fun k => g k s (i : Int)) r)))
    (fin : ∀ s, P n s → Ev (fun k => g k s (n : Int)) (h s)) : ∀ d a s, n - a = d → a ≤ n → P a s → Ev (fun k => g k s (a : Int)) (h ((List.range' a (n - a)).foldl f s)) := by
  intro d
  induction d with
  | zero =>
    intro a s ha hle hP
    obtain rfl : a = n := by omega
    simpa using fin s hP
  | succ d ih =>
    intro a s ha hle hP
    rw [ha, List.range'_succ, List.foldl_cons]
    have := step s a (h ((List.range' (a + 1) d).foldl f (f s a))) (by omega) hP
    refine this.2 ?_
    have h2 := ih (a + 1) (f s a) (by omega) (by omega) this.1
    rw [show n - (a + 1) = d by omega] at h2
    exact h2
theorem rd_nat (l : List Int) (i : Nat) (h : i < l.length) : rd l (i : Int) = l[i] := by unfold rd; rw [Int.toNat_natCast]; simp [List.getD_eq_getElem?_getD, h]
theorem all_range (l : List Int) (q : Int → Bool) : (List.range' 0 l.length).all (fun i => q (rd l (i : Int))) = l.all q := by
  rw [Bool.eq_iff_iff, List.all_eq_true, List.all_eq_true]
  constructor
  · intro h x hx
    obtain ⟨i, hi, rfl⟩ := List.getElem_of_mem hx
    have := h i (by simp; omega)
    rwa [rd_nat l i hi] at this
  · intro h i hi
    have hi : i < l.length := by simp at hi; omega
    rw [rd_nat l i hi]
    exact h _ (List.getElem_mem hi)
/-- Strictly increasing. -/
def incr (l : List Int) : Bool := (List.range' 1 (l.length - 1)).all fun i => decide (rd l (i : Int) > rd l ((i : Int) - 1))
theorem incr_iff (l : List Int) : incr l = true ↔ ∀ i, ∀ h : i + 1 < l.length, l[i] < l[i + 1] := by
  unfold incr
  rw [List.all_eq_true]
  constructor
  · intro h i hi
    have := h (i + 1) (by simp; omega)
    rw [rd_nat l (i + 1) hi, show (((i + 1 : Nat) : Int) - 1) = ((i : Nat) : Int) by omega, rd_nat l i (by omega)] at this
    simpa using this
  · intro h i hi
    obtain ⟨j, rfl⟩ : ∃ j, i = j + 1 := ⟨i - 1, by simp at hi; omega⟩
    have hj : j + 1 < l.length := by simp at hi; omega
    rw [rd_nat l (j + 1) hj, show (((j + 1 : Nat) : Int) - 1) = ((j : Nat) : Int) by omega, rd_nat l j (by omega)]
    simpa using h j hj
theorem incr_ge (l : List Int) (h : incr l = true) (h0 : ∀ x ∈ l, 0 ≤ x) : ∀ i (hi : i < l.length), (i : Int) ≤ l[i] := by
  intro i
  induction i with
  | zero => intro hi; exact h0 _ (List.getElem_mem hi)
  | succ i ih =>
    intro hi
    have := ih (by omega)
    have := (incr_iff l).1 h i hi
    omega
theorem incr_len (l : List Int) (h : incr l = true) (m : Int) (hm : l.all (fun x => decide (0 ≤ x) && decide (x ≤ m)) = true) : (l.length : Int) ≤ m + 1 ∨ l = [] := by
  rw [List.all_eq_true] at hm
  by_cases h0 : l = []
  · exact .inr h0
  · left
    have hp := List.length_pos_iff.2 h0
    have h1 := incr_ge l h (fun x hx => by have := hm x hx; simp at this; omega) (l.length - 1) (by omega)
    have h2 := hm _ (List.getElem_mem (show l.length - 1 < l.length by omega))
    simp at h2
    omega

/-! ### figures: what is one -/
def inB (lo hi : Int) (x : Int) : Bool := decide (lo ≤ x) && decide (x ≤ hi)
theorem inB_iff {lo hi x : Int} : inB lo hi x = true ↔ lo ≤ x ∧ x ≤ hi := by simp [inB]
theorem l1In_is (a lo hi : Int) : spec_l1In.f a lo hi = some (inB lo hi a) := by
  unfold spec_l1In.f inB
  by_cases h : a ≥ lo
  · rw [if_pos h, decide_eq_true (show lo ≤ a from h), Bool.true_and]
  · rw [if_neg h, decide_eq_false (show ¬ lo ≤ a from h), Bool.false_and]
theorem within_is (a lo hi : Int) : impl_within.f a lo hi = some (inB lo hi a) := by
  unfold impl_within.f inB
  by_cases h : lo ≤ a
  · rw [if_pos h, decide_eq_true h, Bool.true_and]
  · rw [if_neg h, decide_eq_false h, Bool.false_and]
theorem fiGrid_is (w h : Int) : spec_fiGrid.f w h = some (inB 1 4 w && inB 1 4 h) := by
  unfold spec_fiGrid.f
  simp only [l1In_is, Option.bind_some]
  cases inB 1 4 w <;> simp
theorem isGrid_is (w h : Int) : impl_isGrid.f w h = some (inB 1 4 w && inB 1 4 h) := by
  unfold impl_isGrid.f
  simp only [within_is, Option.bind_some]
  cases inB 1 4 w <;> simp
theorem grid_bounds {w h : Int} (hw : 1 ≤ w ∧ w ≤ 4) (hh : 1 ≤ h ∧ h ≤ 4) : 2 ≤ w * (h + 1) ∧ w * (h + 1) ≤ 20 ∧ 2 ≤ (w + 1) * h ∧ (w + 1) * h ≤ 20 ∧ 2 ≤ h * (w + 1) ∧ h * (w + 1) ≤ 20 ∧ 1 ≤ w * h ∧ w * h ≤ 16 ∧ h * (w + 1) = (w + 1) * h := by
  have hc : w = 1 ∨ w = 2 ∨ w = 3 ∨ w = 4 := by omega
  rcases hc with rfl | rfl | rfl | rfl <;> omega

/-! ### bits: sets of numbers below 63 as natural numbers -/
theorem wu64 (n : Int) (h0 : 0 ≤ n) (h1 : n < 2 ^ 63) : IntKind.u64.wrap n = n := by
  simp only [IntKind.wrap, IntKind.bits, IntKind.signed]
  simp
  omega
theorem wi64 (n : Int) (h0 : 0 ≤ n) (h1 : n < 2 ^ 63) : IntKind.i64.wrap n = n := by
  rw [IntKind.wrap_i64]
  omega
/-- a without what b has. -/
def andN (a b : Nat) : Nat := a ^^^ (a &&& b)
theorem testBit_andN (a b i : Nat) : (andN a b).testBit i = (a.testBit i && !b.testBit i) := by
  unfold andN
  rw [Nat.testBit_xor, Nat.testBit_and]
  cases a.testBit i <;> cases b.testBit i <;> rfl
theorem andN_le (a b : Nat) : andN a b ≤ a := by
  apply Nat.le_of_testBit
  intro i h
  rw [testBit_andN] at h
  simp at h
  exact h.1
theorem castlt {n : Nat} (h : n < 2 ^ 63) : ((n : Nat) : Int) < 2 ^ 63 := by exact_mod_cast h
section
variable (k : IntKind) (hk : ∀ n : Int, 0 ≤ n → n < 2 ^ 63 → k.wrap n = n) (hb : k.bits = 64) (a b : Nat) (ha : a < 2 ^ 63) (hbb : b < 2 ^ 63)
include hk hb ha hbb
theorem bits_or : Go.bits .or k a b = ((a ||| b : Nat) : Int) := (bits_nat k 63 (by omega) hk a b ha hbb).2
theorem bits_and : Go.bits .and k a b = ((a &&& b : Nat) : Int) := (bits_nat k 63 (by omega) hk a b ha hbb).1
theorem bits_xor : Go.bits .xor k a b = ((a ^^^ b : Nat) : Int) := by
  have h1 : a % 2 ^ k.bits = a := Nat.mod_eq_of_lt (by rw [hb]; omega)
  have h2 : b % 2 ^ k.bits = b := Nat.mod_eq_of_lt (by rw [hb]; omega)
  simp only [Go.bits, BitVec.ofInt_natCast, BitVec.toNat_xor, BitVec.toNat_ofNat, h1, h2]
  exact hk _ (Int.natCast_nonneg _) (castlt (Nat.xor_lt_two_pow ha hbb))
theorem bits_andNot : Go.bits .andNot k a b = ((andN a b : Nat) : Int) := by
  have h1 : a % 2 ^ k.bits = a := Nat.mod_eq_of_lt (by rw [hb]; omega)
  have h2 : b % 2 ^ k.bits = b := Nat.mod_eq_of_lt (by rw [hb]; omega)
  have e : a &&& (2 ^ k.bits - 1 - b) = andN a b := by
    apply Nat.eq_of_testBit_eq
    intro i
    rw [Nat.testBit_and, testBit_andN, show 2 ^ k.bits - 1 - b = 2 ^ k.bits - (b + 1) by omega, Nat.testBit_two_pow_sub_succ (by rw [hb]; omega)]
    by_cases hi : i < k.bits
    · simp [hi]
    · have : a.testBit i = false := Nat.testBit_lt_two_pow (Nat.lt_of_lt_of_le ha (Nat.pow_le_pow_right (by decide) (by omega)))
      simp [this]
  simp only [Go.bits, BitVec.ofInt_natCast, BitVec.toNat_and, BitVec.toNat_not, BitVec.toNat_ofNat, h1, h2, e]
  exact hk _ (Int.natCast_nonneg _) (castlt (Nat.lt_of_le_of_lt (andN_le a b) ha))
end
theorem oru (a b : Nat) (ha : a < 2 ^ 63) (hb : b < 2 ^ 63) : Go.bits .or .u64 a b = ((a ||| b : Nat) : Int) := bits_or .u64 wu64 rfl a b ha hb
theorem ori (a b : Nat) (ha : a < 2 ^ 63) (hb : b < 2 ^ 63) : Go.bits .or .i64 a b = ((a ||| b : Nat) : Int) := bits_or .i64 wi64 rfl a b ha hb
theorem andu (a b : Nat) (ha : a < 2 ^ 63) (hb : b < 2 ^ 63) : Go.bits .and .u64 a b = ((a &&& b : Nat) : Int) := bits_and .u64 wu64 rfl a b ha hb
theorem andi (a b : Nat) (ha : a < 2 ^ 63) (hb : b < 2 ^ 63) : Go.bits .and .i64 a b = ((a &&& b : Nat) : Int) := bits_and .i64 wi64 rfl a b ha hb
theorem xoru (a b : Nat) (ha : a < 2 ^ 63) (hb : b < 2 ^ 63) : Go.bits .xor .u64 a b = ((a ^^^ b : Nat) : Int) := bits_xor .u64 wu64 rfl a b ha hb
theorem xori (a b : Nat) (ha : a < 2 ^ 63) (hb : b < 2 ^ 63) : Go.bits .xor .i64 a b = ((a ^^^ b : Nat) : Int) := bits_xor .i64 wi64 rfl a b ha hb
theorem andNu (a b : Nat) (ha : a < 2 ^ 63) (hb : b < 2 ^ 63) : Go.bits .andNot .u64 a b = ((andN a b : Nat) : Int) := bits_andNot .u64 wu64 rfl a b ha hb
theorem shl_one (k : IntKind) (hk : ∀ n : Int, 0 ≤ n → n < 2 ^ 63 → k.wrap n = n) (hb : k.bits = 64) (e : Int) (h0 : 0 ≤ e) (h1 : e < 63) : Go.Proofs.YtkllomnelknpaaaW.PrintWords.shl k 1 e = ((2 ^ e.toNat : Nat) : Int) := by
  obtain ⟨n, rfl⟩ := Int.eq_ofNat_of_zero_le h0
  unfold Go.Proofs.YtkllomnelknpaaaW.PrintWords.shl
  rw [Int.toNat_natCast, Nat.min_eq_left (by rw [hb]; omega), Int.one_mul]
  have hp : 2 ^ n < 2 ^ 63 := Nat.pow_lt_pow_right (by decide) (by omega)
  have hc : ((2 : Int) ^ n) = ((2 ^ n : Nat) : Int) := by simp
  rw [hc]
  exact hk _ (Int.natCast_nonneg _) (castlt hp)
theorem shlu (e : Int) (h0 : 0 ≤ e) (h1 : e < 63) : Go.Proofs.YtkllomnelknpaaaW.PrintWords.shl .u64 1 e = ((2 ^ e.toNat : Nat) : Int) := shl_one .u64 wu64 rfl e h0 h1
theorem shli (e : Int) (h0 : 0 ≤ e) (h1 : e < 63) : Go.Proofs.YtkllomnelknpaaaW.PrintWords.shl .i64 1 e = ((2 ^ e.toNat : Nat) : Int) := shl_one .i64 wi64 rfl e h0 h1
/-- The set of a list's numbers. -/
def maskL (l : List Int) : Nat := l.foldl (fun m x => m ||| 2 ^ x.toNat) 0
theorem testBit_pow (e j : Nat) : (2 ^ e).testBit j = decide (e = j) := Nat.testBit_two_pow
theorem foldl_mask_bit (j : Nat) : ∀ (l : List Int) (m : Nat), (l.foldl (fun m x => m ||| 2 ^ x.toNat) m).testBit j = (m.testBit j || l.any (fun x => decide (x.toNat = j)))
  | [], m => by simp
  | x :: l, m => by
    rw [List.foldl_cons, foldl_mask_bit j l, Nat.testBit_or, testBit_pow, List.any_cons, Bool.or_assoc]
theorem maskL_bit (l : List Int) (j : Nat) : (maskL l).testBit j = l.any (fun x => decide (x.toNat = j)) := by
  unfold maskL
  rw [foldl_mask_bit]
  simp
theorem maskL_mem (l : List Int) (h : ∀ x ∈ l, 0 ≤ x) (j : Nat) : (maskL l).testBit j = true ↔ (j : Int) ∈ l := by
  rw [maskL_bit, List.any_eq_true]
  constructor
  · rintro ⟨x, hx, he⟩
    have := h x hx
    simp at he
    have : x = (j : Int) := by omega
    rwa [← this]
  · intro hj
    exact ⟨_, hj, by simp⟩
theorem foldl_mask_lt (N : Nat) : ∀ (l : List Int) (m : Nat), (∀ x ∈ l, x.toNat < N) → m < 2 ^ N → (l.foldl (fun m x => m ||| 2 ^ x.toNat) m) < 2 ^ N
  | [], m, _, hm => hm
  | x :: l, m, h, hm => foldl_mask_lt N l _ (fun y hy => h y (List.mem_cons_of_mem _ hy)) (Nat.or_lt_two_pow hm (Nat.pow_lt_pow_right (by decide) (h x List.mem_cons_self)))
theorem maskL_lt (l : List Int) (N : Nat) (h : ∀ x ∈ l, x.toNat < N) : maskL l < 2 ^ N := foldl_mask_lt N l 0 h (Nat.two_pow_pos N)
theorem range_foldl {σ : Type} (l : List Int) (f : σ → Int → σ) : ∀ s, (List.range' 0 l.length).foldl (fun s (i : Nat) => f s (rd l (i : Int))) s = l.foldl f s := by
  have key : ∀ (d a : Nat) (s : σ), a + d = l.length → (List.range' a d).foldl (fun s (i : Nat) => f s (rd l (i : Int))) s = (l.drop a).foldl f s := by
    intro d
    induction d with
    | zero => intro a s h; rw [List.drop_of_length_le (by omega)]; rfl
    | succ d ih =>
      intro a s h
      have ha : a < l.length := by omega
      rw [List.range'_succ, List.foldl_cons, ih (a + 1) _ (by omega), List.drop_eq_getElem_cons ha, List.foldl_cons, rd_nat l a ha]
  intro s
  have := key l.length 0 s (by omega)
  simpa using this
theorem pow_lt63 {e : Nat} (h : e < 63) : 2 ^ e < 2 ^ 63 := Nat.pow_lt_pow_right (by decide) h
theorem lt63 {n N : Nat} (h : n < 2 ^ N) (hN : N ≤ 63) : n < 2 ^ 63 := Nat.lt_of_lt_of_le h (Nat.pow_le_pow_right (by decide) hN)
theorem and_pow_ne (m e : Nat) : (m &&& 2 ^ e ≠ 0) ↔ m.testBit e = true := by
  constructor
  · intro h
    cases hb : m.testBit e with
    | true => rfl
    | false =>
      exfalso
      apply h
      apply Nat.eq_of_testBit_eq
      intro i
      rw [Nat.testBit_and, testBit_pow, Nat.zero_testBit]
      by_cases hi : e = i
      · subst hi; simp [hb]
      · simp [hi]
  · intro h h0
    have := congrArg (fun n => n.testBit e) h0
    simp [Nat.testBit_and, testBit_pow, h] at this

/-! ### loops that carry a state, to a state that is known -/
theorem run_ev {σ β : Type} (g : Nat → σ → Int → Option β) (f : σ → Nat → σ) (Q : Nat → σ → Prop) (hi : Nat) (r : β)
    (step : ∀ s i, i < hi → Q i s → (Q (i + 1) (f s i) ∧ ∀ r, Ev (fun k => g k (f s i) ((i + 1 : Nat) : Int)) r → Ev (fun k => g k s (i : Int)) r)) :
    ∀ d lo s0, hi - lo = d → Q lo s0 → (Q (lo + (hi - lo)) ((List.range' lo (hi - lo)).foldl f s0) → Ev (fun k => g k ((List.range' lo (hi - lo)).foldl f s0) ((lo + (hi - lo) : Nat) : Int)) r) → Ev (fun k => g k s0 (lo : Int)) r := by
  intro d
  induction d with
  | zero =>
    intro lo s0 h hQ fin
    rw [h] at fin
    exact fin hQ
  | succ d ih =>
    intro lo s0 h hQ fin
    have st := step s0 lo (by omega) hQ
    refine st.2 r (ih (lo + 1) (f s0 lo) (by omega) st.1 ?_)
    rw [h, List.range'_succ, List.foldl_cons] at fin
    rw [show hi - (lo + 1) = d by omega, show lo + 1 + d = lo + (d + 1) by omega]
    exact fin
theorem andN_lt {a b N : Nat} (h : a < N) : andN a b < N := Nat.lt_of_le_of_lt (andN_le a b) h
/-- covered: all of e's edges are in m -/
def cov (e m : Nat) : Bool := decide (andN e m = 0)
theorem covers_iff (m e : Nat) : (andN e m = 0) ↔ (m &&& e = e) := by
  constructor
  · intro h
    apply Nat.eq_of_testBit_eq
    intro i
    have := congrArg (fun n => n.testBit i) h
    simp only [testBit_andN, Nat.zero_testBit] at this
    rw [Nat.testBit_and]
    cases he : e.testBit i <;> cases hm : m.testBit i <;> simp_all
  · intro h
    apply Nat.eq_of_testBit_eq
    intro i
    have := congrArg (fun n => n.testBit i) h
    simp only [Nat.testBit_and] at this
    rw [testBit_andN, Nat.zero_testBit]
    cases he : e.testBit i <;> cases hm : m.testBit i <;> simp_all
theorem cov_iff (e m : Nat) : cov e m = decide (m &&& e = e) := by
  unfold cov
  rw [decide_eq_decide]
  exact covers_iff m e

/-! ### loops over a list of any kind -/
theorem range_foldlG {α σ : Type} (l : List α) (rdx : Int → α) (hrd : ∀ i, ∀ h : i < l.length, rdx ((i : Nat) : Int) = l[i]) (f : σ → α → σ) : ∀ s, (List.range' 0 l.length).foldl (fun s (i : Nat) => f s (rdx (i : Int))) s = l.foldl f s := by
  have key : ∀ (d a : Nat) (s : σ), a + d = l.length → (List.range' a d).foldl (fun s (i : Nat) => f s (rdx (i : Int))) s = (l.drop a).foldl f s := by
    intro d
    induction d with
    | zero => intro a s h; rw [List.drop_of_length_le (by omega)]; rfl
    | succ d ih =>
      intro a s h
      have ha : a < l.length := by omega
      rw [List.range'_succ, List.foldl_cons, ih (a + 1) _ (by omega), List.drop_eq_getElem_cons ha, List.foldl_cons, hrd a ha]
  intro s
  have := key l.length 0 s (by omega)
  simpa using this
theorem foldl_filter {α β : Type} (p : α → Bool) (g : α → β) : ∀ (l : List α) (s : List β), l.foldl (fun s x => if p x = true then s ++ [g x] else s) s = s ++ (l.filter p).map g
  | [], s => by simp
  | x :: l, s => by
    rw [List.foldl_cons, foldl_filter p g l, List.filter_cons]
    by_cases h : p x = true
    · rw [if_pos h, if_pos h, List.map_cons, List.append_assoc]
      rfl
    · rw [if_neg h, if_neg h]
theorem foldl_filter_le {α β : Type} (p : α → Bool) (g : α → β) (l : List α) (s : List β) (i : Nat) (h : s.length ≤ i) (x : α) : (if p x = true then s ++ [g x] else s).length ≤ i + 1 := by
  split
  · simp
    omega
  · omega

/-! ### how many bits are set -/
def pop : Nat → Nat → Nat
  | 0, _ => 0
  | f + 1, x => x % 2 + pop f (x / 2)
theorem pop_zero : ∀ f, pop f 0 = 0
  | 0 => rfl
  | f + 1 => by simp [pop, pop_zero f]
theorem and_div2 (a b : Nat) : (a &&& b) / 2 = a / 2 &&& b / 2 := by
  apply Nat.eq_of_testBit_eq
  intro i
  simp [Nat.testBit_div_two, Nat.testBit_and]
theorem and_odd (a b : Nat) : ((a &&& b) % 2 = 1) ↔ (a % 2 = 1 ∧ b % 2 = 1) := by
  have h := Nat.testBit_and a b 0
  rw [Nat.testBit_zero, Nat.testBit_zero, Nat.testBit_zero, ← Bool.decide_and, decide_eq_decide] at h
  exact h
theorem andN_odd (a b : Nat) : ((andN a b) % 2 = 1) ↔ (a % 2 = 1 ∧ ¬ b % 2 = 1) := by
  have h := testBit_andN a b 0
  rw [Nat.testBit_zero, Nat.testBit_zero, Nat.testBit_zero, ← decide_not, ← Bool.decide_and, decide_eq_decide] at h
  exact h
theorem and_mod2 (a b : Nat) : (a &&& b) % 2 = if a % 2 = 1 ∧ b % 2 = 1 then 1 else 0 := by
  have h := and_odd a b
  by_cases hc : a % 2 = 1 ∧ b % 2 = 1
  · rw [if_pos hc]
    exact h.2 hc
  · rw [if_neg hc]
    have := fun q => hc (h.1 q)
    omega
theorem pop_clear : ∀ f x, x < 2 ^ f → x ≠ 0 → pop f (x &&& (x - 1)) + 1 = pop f x := by
  intro f
  induction f with
  | zero => intro x h h0; simp at h; omega
  | succ f ih =>
    intro x h h0
    unfold pop
    rw [and_div2, and_mod2]
    rw [Nat.pow_succ] at h
    by_cases hx : x % 2 = 1
    · rw [if_neg (by omega), show (x - 1) / 2 = x / 2 by omega, Nat.and_self]
      omega
    · rw [if_neg (by omega), show (x - 1) / 2 = x / 2 - 1 by omega]
      have := ih (x / 2) (by omega) (by omega)
      omega
theorem pop_and_diff : ∀ f a b, pop f (andN a b) + pop f (a &&& b) = pop f a := by
  intro f
  induction f with
  | zero => intro a b; rfl
  | succ f ih =>
    intro a b
    have h1 : (andN a b) / 2 = andN (a / 2) (b / 2) := by
      apply Nat.eq_of_testBit_eq
      intro i
      rw [Nat.testBit_div_two, testBit_andN, testBit_andN, Nat.testBit_div_two, Nat.testBit_div_two]
    have h2 : (andN a b) % 2 + (a &&& b) % 2 = a % 2 := by
      have e1 := andN_odd a b
      have e2 := and_odd a b
      by_cases ha : a % 2 = 1 <;> by_cases hb : b % 2 = 1
      · have := e2.2 ⟨ha, hb⟩
        have := fun q => (e1.1 q).2 hb
        omega
      · have := e1.2 ⟨ha, hb⟩
        have := fun q => hb (e2.1 q).2
        omega
      · have := fun q => ha (e1.1 q).1
        have := fun q => ha (e2.1 q).1
        omega
      · have := fun q => ha (e1.1 q).1
        have := fun q => ha (e2.1 q).1
        omega
    have := ih (a / 2) (b / 2)
    unfold pop
    rw [h1, and_div2]
    omega
theorem and_comm' (a b : Nat) : a &&& b = b &&& a := Nat.and_comm a b
theorem or_odd (a b : Nat) : ((a ||| b) % 2 = 1) ↔ (a % 2 = 1 ∨ b % 2 = 1) := by
  have h := Nat.testBit_or a b 0
  rw [Nat.testBit_zero, Nat.testBit_zero, Nat.testBit_zero, ← Bool.decide_or, decide_eq_decide] at h
  exact h
theorem or_div2 (a b : Nat) : (a ||| b) / 2 = a / 2 ||| b / 2 := by
  apply Nat.eq_of_testBit_eq
  intro i
  simp [Nat.testBit_div_two, Nat.testBit_or]
theorem pop_put : ∀ f m x, x < f → m.testBit x = false → pop f (m ||| 2 ^ x) = pop f m + 1 := by
  intro f
  induction f with
  | zero => intro m x h; omega
  | succ f ih =>
    intro m x h hb
    have h2 := or_odd m (2 ^ x)
    show (m ||| 2 ^ x) % 2 + pop f ((m ||| 2 ^ x) / 2) = m % 2 + pop f (m / 2) + 1
    rw [or_div2]
    cases x with
    | zero =>
      rw [Nat.testBit_zero, decide_eq_false_iff_not] at hb
      have h3 := h2.2 (.inr rfl)
      rw [show 2 ^ 0 / 2 = 0 from rfl, Nat.or_zero]
      omega
    | succ x =>
      have hp : 2 ^ (x + 1) / 2 = 2 ^ x := by rw [Nat.pow_succ]; omega
      have hp2 : 2 ^ (x + 1) % 2 = 0 := by rw [Nat.pow_succ]; omega
      rw [hp, ih (m / 2) x (by omega) (by rw [Nat.testBit_div_two]; exact hb)]
      by_cases hm : m % 2 = 1
      · have := h2.2 (.inl hm)
        omega
      · have : ¬ (m ||| 2 ^ (x + 1)) % 2 = 1 := fun h => by
          rcases h2.1 h with h | h
          · exact hm h
          · omega
        omega
theorem pop_fold (f : Nat) : ∀ (l : List Int) (m : Nat), (∀ x ∈ l, 0 ≤ x ∧ x.toNat < f ∧ m.testBit x.toNat = false) → l.Nodup → pop f (l.foldl (fun m x => m ||| 2 ^ x.toNat) m) = pop f m + l.length
  | [], m, _, _ => by simp
  | x :: l, m, h, hn => by
    rw [List.nodup_cons] at hn
    have hx := h x List.mem_cons_self
    rw [List.foldl_cons, pop_fold f l _ (fun y hy => ?_) hn.2, pop_put f m _ hx.2.1 hx.2.2, List.length_cons]
    · omega
    · have hy2 := h y (List.mem_cons_of_mem _ hy)
      refine ⟨hy2.1, hy2.2.1, ?_⟩
      rw [Nat.testBit_or, hy2.2.2, testBit_pow, Bool.false_or]
      have : x ≠ y := fun he => hn.1 (he ▸ hy)
      have := hx.1
      have := hy2.1
      simp
      omega
theorem pop_mask (l : List Int) (h : ∀ x ∈ l, 0 ≤ x ∧ x < 60) (hn : l.Nodup) : pop 64 (maskL l) = l.length := by
  unfold maskL
  rw [pop_fold 64 l 0 (fun x hx => by have := h x hx; simp; omega) hn, pop_zero]
  omega
theorem incr_lt (l : List Int) (h : incr l = true) : ∀ i j (hj : j < l.length) (hij : i < j), l[i] < l[j] := by
  intro i j
  induction j with
  | zero => intro _ h; omega
  | succ j ih =>
    intro hj hij
    have h1 := (incr_iff l).1 h j hj
    by_cases hi : i = j
    · subst hi
      exact h1
    · have := ih (by omega) (by omega)
      omega
theorem incr_nodup (l : List Int) (h : incr l = true) : l.Nodup := by
  unfold List.Nodup
  rw [List.pairwise_iff_getElem]
  intro i j hi hj hij
  have := incr_lt l h i j hj hij
  omega

/-! ### the library's count of bits -/
theorem and_split (Q C t c : Nat) (ht : t < 256) (hc : c < 256) : (t + 256 * Q) &&& (c + 256 * C) = (t &&& c) + 256 * (Q &&& C) := by
  have h1 : ((t + 256 * Q) &&& (c + 256 * C)) % 2 ^ 8 = (t &&& c) := by
    rw [Nat.and_mod_two_pow, show (t + 256 * Q) % 2 ^ 8 = t by omega, show (c + 256 * C) % 2 ^ 8 = c by omega]
  have h2 : ((t + 256 * Q) &&& (c + 256 * C)) / 2 ^ 8 = Q &&& C := by
    rw [Nat.and_div_two_pow, show (t + 256 * Q) / 2 ^ 8 = Q by omega, show (c + 256 * C) / 2 ^ 8 = C by omega]
  omega
def V (a b c d e : Nat) : Nat := a + 256 * (b + 256 * (c + 256 * (d + 256 * (e + 256 * 0))))
theorem and5 (a b c d e m K : Nat) (ha : a < 256) (hb : b < 256) (hc : c < 256) (hd : d < 256) (he : e < 256) (hm : m < 256) : V a b c d e &&& (m + 256 * (m + 256 * (m + 256 * (m + 256 * (m + 256 * K))))) = V (a &&& m) (b &&& m) (c &&& m) (d &&& m) (e &&& m) := by
  unfold V
  rw [and_split _ _ _ _ ha hm, and_split _ _ _ _ hb hm, and_split _ _ _ _ hc hm, and_split _ _ _ _ hd hm, and_split _ _ _ _ he hm, Nat.zero_and]
theorem V2 (a b c d e : Nat) (ha : a < 256) (hb : b < 256) (hc : c < 256) (hd : d < 256) (he : e < 256) : V a b c d e / 2 = V (a / 2 + 128 * (b % 2)) (b / 2 + 128 * (c % 2)) (c / 2 + 128 * (d % 2)) (d / 2 + 128 * (e % 2)) (e / 2 + 128 * (0 % 2)) := by unfold V; omega
theorem V4 (a b c d e : Nat) (ha : a < 256) (hb : b < 256) (hc : c < 256) (hd : d < 256) (he : e < 256) : V a b c d e / 4 = V (a / 4 + 64 * (b % 4)) (b / 4 + 64 * (c % 4)) (c / 4 + 64 * (d % 4)) (d / 4 + 64 * (e % 4)) (e / 4 + 64 * (0 % 4)) := by unfold V; omega
theorem V16 (a b c d e : Nat) (ha : a < 256) (hb : b < 256) (hc : c < 256) (hd : d < 256) (he : e < 256) : V a b c d e / 16 = V (a / 16 + 16 * (b % 16)) (b / 16 + 16 * (c % 16)) (c / 16 + 16 * (d % 16)) (d / 16 + 16 * (e % 16)) (e / 16 + 16 * (0 % 16)) := by unfold V; omega
def m1 (r : Nat) : Nat := (r / 2 &&& 85) + (r &&& 85)
def m2 (s : Nat) : Nat := (s / 4 &&& 51) + (s &&& 51)
def m3 (u : Nat) : Nat := (u / 16 + u) % 16
theorem m1_all : ((List.range 256).all fun r => (List.range 2).all fun p => decide ((r / 2 + 128 * p) &&& 85 = r / 2 &&& 85) && decide (m1 r < 256) && decide (m2 (m1 r) < 256) && decide (m2 (m1 r) % 16 ≤ 4) && decide (m2 (m1 r) / 16 ≤ 4) && decide (m3 (m2 (m1 r)) = pop 8 r) && decide (m3 (m2 (m1 r)) ≤ 8)) = true := by decide +kernel
theorem m2_all : ((List.range 256).all fun r => (List.range 4).all fun p => decide ((r / 4 + 64 * p) &&& 51 = r / 4 &&& 51)) = true := by decide +kernel
theorem m3_all : ((List.range 256).all fun r => decide (r &&& 15 = r % 16)) = true := by decide +kernel
theorem m1_is (r p : Nat) (h : r < 256) : (r / 2 + 128 * (p % 2)) &&& 85 = r / 2 &&& 85 := by
  have H := m1_all
  simp only [List.all_eq_true, List.mem_range, Bool.and_eq_true, decide_eq_true_eq] at H
  exact (H r h (p % 2) (by omega)).1.1.1.1.1.1
theorem m1_facts (r : Nat) (h : r < 256) : m1 r < 256 ∧ m2 (m1 r) < 256 ∧ m2 (m1 r) % 16 ≤ 4 ∧ m2 (m1 r) / 16 ≤ 4 ∧ m3 (m2 (m1 r)) = pop 8 r ∧ m3 (m2 (m1 r)) ≤ 8 := by
  have H := m1_all
  simp only [List.all_eq_true, List.mem_range, Bool.and_eq_true, decide_eq_true_eq] at H
  have := H r h 0 (by omega)
  exact ⟨this.1.1.1.1.1.2, this.1.1.1.1.2, this.1.1.1.2, this.1.1.2, this.1.2, this.2⟩
theorem m2_is (r p : Nat) (h : r < 256) : (r / 4 + 64 * (p % 4)) &&& 51 = r / 4 &&& 51 := by
  have H := m2_all
  simp only [List.all_eq_true, List.mem_range, decide_eq_true_eq] at H
  exact H r h (p % 4) (by omega)
theorem m3_is (r : Nat) (h : r < 256) : r &&& 15 = r % 16 := by
  have H := m3_all
  simp only [List.all_eq_true, List.mem_range, decide_eq_true_eq] at H
  exact H r h
def s1 (x : Nat) : Nat := (x / 2 &&& 6148914691236517205) + (x &&& 6148914691236517205)
def s2 (x : Nat) : Nat := (x / 4 &&& 3689348814741910323) + (x &&& 3689348814741910323)
def s3 (x : Nat) : Nat := (x / 16 + x) &&& 1085102592571150095
theorem Vadd (a b c d e a' b' c' d' e' : Nat) : V a b c d e + V a' b' c' d' e' = V (a + a') (b + b') (c + c') (d + d') (e + e') := by unfold V; omega
theorem s1_V (a b c d e : Nat) (ha : a < 256) (hb : b < 256) (hc : c < 256) (hd : d < 256) (he : e < 256) : s1 (V a b c d e) = V (m1 a) (m1 b) (m1 c) (m1 d) (m1 e) := by
  unfold s1
  rw [V2 a b c d e ha hb hc hd he, show (6148914691236517205 : Nat) = 85 + 256 * (85 + 256 * (85 + 256 * (85 + 256 * (85 + 256 * 5592405)))) from rfl, and5 _ _ _ _ _ _ _ (by omega) (by omega) (by omega) (by omega) (by omega) (by omega), and5 _ _ _ _ _ _ _ ha hb hc hd he (by omega), m1_is a b ha, m1_is b c hb, m1_is c d hc, m1_is d e hd, m1_is e 0 he, Vadd]
  rfl
theorem s2_V (a b c d e : Nat) (ha : a < 256) (hb : b < 256) (hc : c < 256) (hd : d < 256) (he : e < 256) : s2 (V a b c d e) = V (m2 a) (m2 b) (m2 c) (m2 d) (m2 e) := by
  unfold s2
  rw [V4 a b c d e ha hb hc hd he, show (3689348814741910323 : Nat) = 51 + 256 * (51 + 256 * (51 + 256 * (51 + 256 * (51 + 256 * 3355443)))) from rfl, and5 _ _ _ _ _ _ _ (by omega) (by omega) (by omega) (by omega) (by omega) (by omega), and5 _ _ _ _ _ _ _ ha hb hc hd he (by omega), m2_is a b ha, m2_is b c hb, m2_is c d hc, m2_is d e hd, m2_is e 0 he, Vadd]
  rfl
theorem s3_V (a b c d e : Nat) (ha : a % 16 ≤ 4 ∧ a / 16 ≤ 4) (hb : b % 16 ≤ 4 ∧ b / 16 ≤ 4) (hc : c % 16 ≤ 4 ∧ c / 16 ≤ 4) (hd : d % 16 ≤ 4 ∧ d / 16 ≤ 4) (he : e % 16 ≤ 4 ∧ e / 16 ≤ 4) : s3 (V a b c d e) = V (m3 a) (m3 b) (m3 c) (m3 d) (m3 e) := by
  unfold s3
  rw [V16 a b c d e (by omega) (by omega) (by omega) (by omega) (by omega), Vadd, show (1085102592571150095 : Nat) = 15 + 256 * (15 + 256 * (15 + 256 * (15 + 256 * (15 + 256 * 986895)))) from rfl, and5 _ _ _ _ _ _ _ (by omega) (by omega) (by omega) (by omega) (by omega) (by omega), m3_is _ (by omega), m3_is _ (by omega), m3_is _ (by omega), m3_is _ (by omega), m3_is _ (by omega)]
  unfold m3
  rw [show (a / 16 + 16 * (b % 16) + a) % 16 = (a / 16 + a) % 16 by omega, show (b / 16 + 16 * (c % 16) + b) % 16 = (b / 16 + b) % 16 by omega, show (c / 16 + 16 * (d % 16) + c) % 16 = (c / 16 + c) % 16 by omega, show (d / 16 + 16 * (e % 16) + d) % 16 = (d / 16 + d) % 16 by omega, show (e / 16 + 16 * (0 % 16) + e) % 16 = (e / 16 + e) % 16 by omega]
theorem pop_add : ∀ m f x, pop (m + f) x = pop m x + pop f (x / 2 ^ m) := by
  intro m
  induction m with
  | zero => intro f x; simp [pop]
  | succ m ih =>
    intro f x
    rw [Nat.succ_add]
    show x % 2 + pop (m + f) (x / 2) = x % 2 + pop m (x / 2) + pop f (x / 2 ^ (m + 1))
    rw [ih f (x / 2), Nat.div_div_eq_div_mul, Nat.pow_succ, Nat.mul_comm 2]
    omega
theorem pop_low : ∀ m r q, pop m (r + 2 ^ m * q) = pop m r := by
  intro m
  induction m with
  | zero => intro r q; rfl
  | succ m ih =>
    intro r q
    unfold pop
    rw [show r + 2 ^ (m + 1) * q = r + 2 * (2 ^ m * q) by rw [Nat.pow_succ, Nat.mul_comm (2 ^ m) 2, Nat.mul_assoc], show (r + 2 * (2 ^ m * q)) / 2 = r / 2 + 2 ^ m * q by omega, ih (r / 2) q]
    omega
theorem pop_byte (f r q : Nat) (h : r < 256) : pop (8 + f) (r + 256 * q) = pop 8 r + pop f q := by
  rw [pop_add 8 f, pop_low 8 r q, show (r + 256 * q) / 2 ^ 8 = q by omega]
theorem pop_V (a b c d e : Nat) (ha : a < 256) (hb : b < 256) (hc : c < 256) (hd : d < 256) (he : e < 256) : pop 64 (V a b c d e) = pop 8 a + (pop 8 b + (pop 8 c + (pop 8 d + pop 8 e))) := by
  unfold V
  rw [pop_byte 56 a _ ha, pop_byte 48 b _ hb, pop_byte 40 c _ hc, pop_byte 32 d _ hd, pop_byte 24 e _ he, pop_zero]
  omega
def sN (x : Nat) : Nat := let y := s3 (s2 (s1 x)); let y := y + y / 256; let y := y + y / 65536; let y := y + y / 4294967296; y % 128
theorem tail_V (a b c d e : Nat) (ha : a ≤ 8) (hb : b ≤ 8) (hc : c ≤ 8) (hd : d ≤ 8) (he : e ≤ 8) : (let y := V a b c d e; let y := y + y / 256; let y := y + y / 65536; let y := y + y / 4294967296; y % 128) = a + (b + (c + (d + e))) := by
  have e1 : V a b c d e / 256 = V b c d e 0 := by unfold V; omega
  have e2 : V (a + b) (b + c) (c + d) (d + e) (e + 0) / 65536 = V (c + d) (d + e) (e + 0) 0 0 := by unfold V; omega
  have e3 : V (a + b + (c + d)) (b + c + (d + e)) (c + d + (e + 0)) (d + e + 0) (e + 0 + 0) / 4294967296 = V (e + 0 + 0) 0 0 0 0 := by unfold V; omega
  show (V a b c d e + V a b c d e / 256 + (V a b c d e + V a b c d e / 256) / 65536 + (V a b c d e + V a b c d e / 256 + (V a b c d e + V a b c d e / 256) / 65536) / 4294967296) % 128 = _
  rw [e1, Vadd, e2, Vadd, e3, Vadd]
  unfold V
  omega
theorem sN_pop (x : Nat) (h : x < 2 ^ 40) : sN x = pop 64 x := by
  have e : x = V (x % 256) (x / 256 % 256) (x / 65536 % 256) (x / 16777216 % 256) (x / 4294967296) := by unfold V; omega
  obtain ⟨a, ha⟩ : ∃ a, a = x % 256 := ⟨_, rfl⟩
  obtain ⟨b, hb⟩ : ∃ a, a = x / 256 % 256 := ⟨_, rfl⟩
  obtain ⟨c, hc⟩ : ∃ a, a = x / 65536 % 256 := ⟨_, rfl⟩
  obtain ⟨d, hd⟩ : ∃ a, a = x / 16777216 % 256 := ⟨_, rfl⟩
  obtain ⟨f, hf⟩ : ∃ a, a = x / 4294967296 := ⟨_, rfl⟩
  have la : a < 256 := by omega
  have lb : b < 256 := by omega
  have lc : c < 256 := by omega
  have ld : d < 256 := by omega
  have lf : f < 256 := by omega
  rw [← ha, ← hb, ← hc, ← hd, ← hf] at e
  clear ha hb hc hd hf
  subst e
  have fa := m1_facts a la
  have fb := m1_facts b lb
  have fc := m1_facts c lc
  have fd := m1_facts d ld
  have ff := m1_facts f lf
  rw [pop_V a b c d f la lb lc ld lf]
  unfold sN
  rw [s1_V a b c d f la lb lc ld lf, s2_V _ _ _ _ _ fa.1 fb.1 fc.1 fd.1 ff.1, s3_V _ _ _ _ _ ⟨fa.2.2.1, fa.2.2.2.1⟩ ⟨fb.2.2.1, fb.2.2.2.1⟩ ⟨fc.2.2.1, fc.2.2.2.1⟩ ⟨fd.2.2.1, fd.2.2.2.1⟩ ⟨ff.2.2.1, ff.2.2.2.1⟩]
  rw [fa.2.2.2.2.1, fb.2.2.2.2.1, fc.2.2.2.2.1, fd.2.2.2.2.1, ff.2.2.2.2.1]
  have ga := fa.2.2.2.2.2
  have gb := fb.2.2.2.2.2
  have gc := fc.2.2.2.2.2
  have gd := fd.2.2.2.2.2
  have gf := ff.2.2.2.2.2
  rw [fa.2.2.2.2.1] at ga
  rw [fb.2.2.2.2.1] at gb
  rw [fc.2.2.2.2.1] at gc
  rw [fd.2.2.2.2.1] at gd
  rw [ff.2.2.2.2.1] at gf
  exact tail_V _ _ _ _ _ ga gb gc gd gf

theorem wrapu {n : Nat} (h : n < 2 ^ 63) : IntKind.u64.wrap ((n : Nat) : Int) = ((n : Nat) : Int) := wu64 _ (Int.natCast_nonneg _) (castlt h)
theorem go1 (x : Nat) (h : x < 2 ^ 50) : IntKind.u64.wrap ((Go.bits .and .u64 ((x : Int) / 2) 6148914691236517205) + (Go.bits .and .u64 (x : Int) 6148914691236517205)) = ((s1 x : Nat) : Int) ∧ s1 x < 2 * 2 ^ 50 := by
  have h1 : Go.bits .and .u64 ((x : Int) / 2) 6148914691236517205 = ((x / 2 &&& 6148914691236517205 : Nat) : Int) := by
    rw [show ((x : Int) / 2) = ((x / 2 : Nat) : Int) by omega]
    exact andu (x / 2) 6148914691236517205 (by omega) (by decide)
  have h2 : Go.bits .and .u64 (x : Int) 6148914691236517205 = ((x &&& 6148914691236517205 : Nat) : Int) := andu x 6148914691236517205 (by omega) (by decide)
  have l1 := Nat.and_le_left (n := x / 2) (m := 6148914691236517205)
  have l2 := Nat.and_le_left (n := x) (m := 6148914691236517205)
  have hb : s1 x < 2 * 2 ^ 50 := by unfold s1; omega
  refine ⟨?_, hb⟩
  rw [h1, h2, ← Int.natCast_add]
  exact wrapu (n := s1 x) (by omega)
theorem go2 (x : Nat) (h : x < 2 ^ 51) : IntKind.u64.wrap ((Go.bits .and .u64 ((x : Int) / 4) 3689348814741910323) + (Go.bits .and .u64 (x : Int) 3689348814741910323)) = ((s2 x : Nat) : Int) ∧ s2 x < 2 * 2 ^ 51 := by
  have h1 : Go.bits .and .u64 ((x : Int) / 4) 3689348814741910323 = ((x / 4 &&& 3689348814741910323 : Nat) : Int) := by
    rw [show ((x : Int) / 4) = ((x / 4 : Nat) : Int) by omega]
    exact andu (x / 4) 3689348814741910323 (by omega) (by decide)
  have h2 : Go.bits .and .u64 (x : Int) 3689348814741910323 = ((x &&& 3689348814741910323 : Nat) : Int) := andu x 3689348814741910323 (by omega) (by decide)
  have l1 := Nat.and_le_left (n := x / 4) (m := 3689348814741910323)
  have l2 := Nat.and_le_left (n := x) (m := 3689348814741910323)
  have hb : s2 x < 2 * 2 ^ 51 := by unfold s2; omega
  refine ⟨?_, hb⟩
  rw [h1, h2, ← Int.natCast_add]
  exact wrapu (n := s2 x) (by omega)
theorem go3 (x : Nat) (h : x < 2 ^ 52) : Go.bits .and .u64 (IntKind.u64.wrap ((x : Int) / 16 + (x : Int))) 1085102592571150095 = ((s3 x : Nat) : Int) ∧ s3 x < 2 * 2 ^ 52 := by
  have l1 := Nat.and_le_left (n := x / 16 + x) (m := 1085102592571150095)
  have hb : s3 x < 2 * 2 ^ 52 := by unfold s3; omega
  refine ⟨?_, hb⟩
  rw [show ((x : Int) / 16 + (x : Int)) = ((x / 16 + x : Nat) : Int) by omega, wrapu (by omega)]
  exact andu (x / 16 + x) 1085102592571150095 (by omega) (by decide)
theorem go4 (x : Nat) (h : x < 2 ^ 53) : IntKind.u64.wrap ((x : Int) + (x : Int) / 256) = ((x + x / 256 : Nat) : Int) := by
  rw [show ((x : Int) + (x : Int) / 256) = ((x + x / 256 : Nat) : Int) by omega, wrapu (by omega)]
theorem go5 (x : Nat) (h : x < 2 ^ 54) : IntKind.u64.wrap ((x : Int) + (x : Int) / 65536) = ((x + x / 65536 : Nat) : Int) := by
  rw [show ((x : Int) + (x : Int) / 65536) = ((x + x / 65536 : Nat) : Int) by omega, wrapu (by omega)]
theorem go6 (x : Nat) (h : x < 2 ^ 55) : IntKind.u64.wrap ((x : Int) + (x : Int) / 4294967296) = ((x + x / 4294967296 : Nat) : Int) := by
  rw [show ((x : Int) + (x : Int) / 4294967296) = ((x + x / 4294967296 : Nat) : Int) by omega, wrapu (by omega)]
theorem go7 (x : Nat) (h : x < 2 ^ 56) : Go.bits .and .i64 (wrap64 (x : Int)) 127 = ((x % 128 : Nat) : Int) := by
  rw [w64 (by omega) (by omega)]
  have := andi x 127 (by omega) (by decide)
  rw [show (127 : Nat) = 2 ^ 7 - 1 from rfl, Nat.and_two_pow_sub_one_eq_mod] at this
  exact this
theorem ones_is (x : Nat) (h : x < 2 ^ 40) : bits_OnesCount64.f (x : Int) = some ((pop 64 x : Nat) : Int) := by
  rw [← sN_pop x h]
  obtain ⟨e1, b1⟩ := go1 x (by omega)
  obtain ⟨e2, b2⟩ := go2 (s1 x) (by omega)
  obtain ⟨e3, b3⟩ := go3 (s2 (s1 x)) (by omega)
  unfold bits_OnesCount64.f sN
  rw [e1, e2, e3]
  obtain ⟨y, hy⟩ : ∃ y, s3 (s2 (s1 x)) = y := ⟨_, rfl⟩
  rw [hy] at b3 ⊢
  rw [go4 y (by omega), go5 _ (by omega), go6 _ (by omega), go7 _ (by omega)]
theorem count_is (x : Nat) (h : x < 2 ^ 40) : impl_set_count.f (x : Int) = some ((pop 64 x : Nat) : Int) := by
  unfold impl_set_count.f
  rw [ones_is x h, Option.bind_some]

/-! ### the edges around a rectangle: closed -/
def fits (w h x y a b : Nat) : Bool := decide (1 ≤ w ∧ w ≤ 4 ∧ 1 ≤ h ∧ h ≤ 4 ∧ 1 ≤ a ∧ 1 ≤ b ∧ x + a ≤ w ∧ y + b ≤ h)
def arnd (w h x y a b : Nat) : Nat := ((impl_grid_around.f 20 w h x y a b).getD 0).toNat
def arndOk (w h x y a b : Nat) : Bool := !fits w h x y a b || (decide (impl_grid_around.f 20 w h x y a b = some ((arnd w h x y a b : Nat) : Int)) && decide (arnd w h x y a b < 2 ^ 40))
theorem arnd_all : ((List.range 5).all fun w => (List.range 5).all fun h => (List.range 5).all fun x => (List.range 5).all fun y => (List.range 5).all fun a => (List.range 5).all fun b => arndOk w h x y a b) = true := by decide +kernel
theorem arnd_ok {w h x y a b : Nat} (hf : fits w h x y a b = true) : arndOk w h x y a b = true := by
  have hb := of_decide_eq_true hf
  have H := arnd_all
  simp only [List.all_eq_true, List.mem_range] at H
  exact H w (by omega) h (by omega) x (by omega) y (by omega) a (by omega) b (by omega)
theorem around_ev {w h x y a b : Nat} (hf : fits w h x y a b = true) : arnd w h x y a b < 2 ^ 40 ∧ Ev (fun k => impl_grid_around.f k w h x y a b) ((arnd w h x y a b : Nat) : Int) := by
  have h := arnd_ok hf
  unfold arndOk at h
  rw [hf] at h
  simp only [Bool.not_true, Bool.false_or, Bool.and_eq_true, decide_eq_true_eq] at h
  exact ⟨h.2, Ev.of (fun k => impl_grid_around.mono _ _ _ _ _ _ k) h.1⟩

/-! ### all squares of a grid: both lists -/
def toldI (o : Option (List S80)) : Option (List (Int × Int × Int × Int)) := o.map fun l => l.map fun t => (t.f0, t.f1, t.f2, t.f3)
def toldS (o : Option (List S85)) : Option (List (Int × Int × Int × Int)) := o.map fun l => l.map fun t => (t.f0, t.f1, t.f2, t.f3)
def tupI (t : S80) : Int × Int × Int × Int := (t.f0, t.f1, t.f2, t.f3)
def tupS (t : S85) : Int × Int × Int × Int := (t.f0, t.f1, t.f2, t.f3)
def smallQ (W H : Nat) (o : Option (List (Int × Int × Int × Int))) : Bool := match o with
  | some l => decide (l.length ≤ 100) && l.all (fun t => decide (0 ≤ t.2.2.2) && decide (t.2.2.2 < 2 ^ 40) && decide (0 ≤ t.1) && decide (0 ≤ t.2.1) && decide (1 ≤ t.2.2.1) && decide (t.1 + t.2.2.1 ≤ W) && decide (t.2.1 + t.2.2.1 ≤ H))
  | none => false
theorem sq_all : ((List.range 5).all fun W => (List.range 5).all fun H => decide (W = 0) || (decide (H = 0) || (decide (toldI (impl_grid_squares.f 200 W H) = toldS (spec_sqAll.f 200 W H)) && smallQ W H (toldI (impl_grid_squares.f 200 W H))))) = true := by decide +kernel
structure SqLists (W H : Nat) (L : List S80) (M : List S85) : Prop where
  eq : L.map tupI = M.map tupS
  lenI : L.length ≤ 100
  lenS : M.length ≤ 100
  small : ∀ t ∈ L, 0 ≤ t.f3 ∧ t.f3 < 2 ^ 40 ∧ 0 ≤ t.f0 ∧ 0 ≤ t.f1 ∧ 1 ≤ t.f2 ∧ t.f0 + t.f2 ≤ W ∧ t.f1 + t.f2 ≤ H
  smallS : ∀ t ∈ M, 0 ≤ t.f3 ∧ t.f3 < 2 ^ 40 ∧ 0 ≤ t.f0 ∧ 0 ≤ t.f1 ∧ 1 ≤ t.f2 ∧ t.f0 + t.f2 ≤ W ∧ t.f1 + t.f2 ≤ H
theorem sq_lists {W H : Nat} (hW : 1 ≤ W ∧ W ≤ 4) (hH : 1 ≤ H ∧ H ≤ 4) : ∃ L M, Ev (fun k => impl_grid_squares.f k W H) L ∧ Ev (fun k => spec_sqAll.f k W H) M ∧ SqLists W H L M := by
  have h := sq_all
  simp only [List.all_eq_true, List.mem_range] at h
  have h := h W (by omega) H (by omega)
  rw [decide_eq_false (by omega), decide_eq_false (by omega)] at h
  simp only [Bool.false_or, Bool.and_eq_true, decide_eq_true_eq] at h
  obtain ⟨h1, h2⟩ := h
  obtain ⟨x, hx⟩ : ∃ x, impl_grid_squares.f 200 W H = x := ⟨_, rfl⟩
  obtain ⟨y, hy⟩ : ∃ y, spec_sqAll.f 200 W H = y := ⟨_, rfl⟩
  rw [hx, hy] at h1
  rw [hx] at h2
  cases x with
  | none => simp [toldI, smallQ] at h2
  | some L =>
    cases y with
    | none => simp [toldI, toldS] at h1
    | some M =>
      have he : L.map tupI = M.map tupS := Option.some.inj h1
      have hl : L.length = M.length := by have := congrArg List.length he; simpa using this
      have hs : (decide ((L.map tupI).length ≤ 100) && (L.map tupI).all (fun t => decide (0 ≤ t.2.2.2) && decide (t.2.2.2 < 2 ^ 40) && decide (0 ≤ t.1) && decide (0 ≤ t.2.1) && decide (1 ≤ t.2.2.1) && decide (t.1 + t.2.2.1 ≤ W) && decide (t.2.1 + t.2.2.1 ≤ H))) = true := h2
      rw [List.length_map] at hs
      simp only [Bool.and_eq_true, List.all_eq_true, decide_eq_true_eq] at hs
      refine ⟨L, M, Ev.of (impl_grid_squares.mono _ _) hx, Ev.of (spec_sqAll.mono _ _) hy, ⟨he, hs.1, by omega, fun t ht => ?_, fun t ht => ?_⟩⟩
      · have := hs.2 (tupI t) (List.mem_map.2 ⟨t, ht, rfl⟩)
        simp only [tupI] at this
        omega
      · have := hs.2 (tupS t) (by rw [he]; exact List.mem_map.2 ⟨t, ht, rfl⟩)
        simp only [tupS] at this
        omega
/-- What a list tells of a number told of tuples. -/
theorem countP_tup {W H : Nat} {L : List S80} {M : List S85} (q : SqLists W H L M) (p : Int × Int × Int × Int → Bool) : L.countP (fun t => p (tupI t)) = M.countP (fun t => p (tupS t)) := by
  have h := congrArg (List.countP p) q.eq
  rw [List.countP_map, List.countP_map] at h
  exact h

/-! ### how many squares a set has -/
theorem foldl_count {α : Type} (p : α → Bool) : ∀ (l : List α) (c : Nat), l.foldl (fun c x => c + if p x = true then 1 else 0) c = c + l.countP p
  | [], c => by simp
  | x :: l, c => by
    rw [List.foldl_cons, foldl_count p l, List.countP_cons]
    omega
theorem countOf_ev (L : List S80) (m : Nat) (hm : m < 2 ^ 63) (hl : L.length ≤ 1000) (hL : ∀ t ∈ L, 0 ≤ t.f3 ∧ t.f3 < 2 ^ 40) : Ev (fun k => impl_countOf.f k L (m : Int)) ((L.countP (fun t => cov t.f3.toNat m) : Nat) : Int) := by
  have h0 := fold_ev (fun k (c : Nat) i => impl_countOf.l0 k (m : Int) (c : Int) L (L.length : Int) i) (fun c i => c + if cov (rd_T80 L (i : Int)).f3.toNat m = true then 1 else 0) (fun c => ((c : Nat) : Int)) (fun i c => c ≤ i) L.length
    (fun c i r hi hc => by
      have e : rd_T80 L (i : Int) = L[i] := by unfold rd_T80; rw [Int.toNat_natCast]; simp [List.getD_eq_getElem?_getD, hi]
      have ht := hL (rd_T80 L (i : Int)) (by rw [e]; exact List.getElem_mem hi)
      refine ⟨by split <;> omega, fun hr => Ev.step (fun k => ?_) hr⟩
      simp only [impl_countOf.l0]
      rw [if_pos (by omega), if_pos (by omega), if_pos (by omega), w64 (n := (i : Int) + 1) (by omega) (by omega)]
      obtain ⟨t, hte⟩ : ∃ t, rd_T80 L (i : Int) = t := ⟨_, rfl⟩
      rw [hte] at ht ⊢
      obtain ⟨e, he⟩ := Int.eq_ofNat_of_zero_le ht.1
      rw [he, andNu _ _ (by omega) hm, show (((e : Nat) : Int)).toNat = e from Int.toNat_natCast e]
      unfold impl_bit.f cov
      by_cases hq : andN e m = 0
      · rw [hq, show ((((0 : Nat) : Int) == 0) = true) from rfl, if_pos rfl, Option.bind_some, decide_eq_true rfl, if_pos rfl, w64 (by omega) (by omega)]
        rfl
      · rw [show (((andN e m : Nat) : Int) == 0) = false from beq_eq_false_iff_ne.2 (by omega), if_neg (by simp), Option.bind_some, decide_eq_false hq, if_neg (by simp), w64 (by omega) (by omega)]
        rfl)
    (fun c _ => Ev.step (fun k => by simp only [impl_countOf.l0]; rw [if_neg (by omega)]) (Ev.now _)) L.length 0 0 (by omega) (by omega) (by omega)
  rw [Nat.sub_zero, range_foldlG L (fun i => rd_T80 L i) (fun i hi => by unfold rd_T80; rw [Int.toNat_natCast]; simp [List.getD_eq_getElem?_getD, hi]) (fun c t => c + if cov t.f3.toNat m = true then 1 else 0), foldl_count, Nat.zero_add] at h0
  exact h0
theorem sqCount_ev (L : List S85) (m : Nat) (hm : m < 2 ^ 63) (hl : L.length ≤ 1000) (hL : ∀ t ∈ L, 0 ≤ t.f3 ∧ t.f3 < 2 ^ 40) : Ev (fun k => spec_sqCount.f k L (m : Int)) ((L.countP (fun t => cov t.f3.toNat m) : Nat) : Int) := by
  have h0 := fold_ev (fun k (c : Nat) i => spec_sqCount.l0 k (m : Int) (c : Int) L (L.length : Int) i) (fun c i => c + if cov (rd_T85 L (i : Int)).f3.toNat m = true then 1 else 0) (fun c => ((c : Nat) : Int)) (fun i c => c ≤ i) L.length
    (fun c i r hi hc => by
      have e : rd_T85 L (i : Int) = L[i] := by unfold rd_T85; rw [Int.toNat_natCast]; simp [List.getD_eq_getElem?_getD, hi]
      have ht := hL (rd_T85 L (i : Int)) (by rw [e]; exact List.getElem_mem hi)
      refine ⟨by split <;> omega, fun hr => Ev.step (fun k => ?_) hr⟩
      simp only [spec_sqCount.l0]
      rw [if_pos (by omega), if_pos (by omega), if_pos (by omega), w64 (n := (i : Int) + 1) (by omega) (by omega)]
      obtain ⟨t, hte⟩ : ∃ t, rd_T85 L (i : Int) = t := ⟨_, rfl⟩
      rw [hte] at ht ⊢
      obtain ⟨e, he⟩ := Int.eq_ofNat_of_zero_le ht.1
      rw [he, andi _ _ hm (by omega), show (((e : Nat) : Int)).toNat = e from Int.toNat_natCast e, cov_iff]
      by_cases hq : m &&& e = e
      · rw [if_pos (by omega), decide_eq_true hq, if_pos rfl, w64 (by omega) (by omega)]
        rfl
      · rw [if_neg (by omega), decide_eq_false hq, if_neg (by simp)]
        rfl)
    (fun c _ => Ev.step (fun k => by simp only [spec_sqCount.l0]; rw [if_neg (by omega)]) (Ev.now _)) L.length 0 0 (by omega) (by omega) (by omega)
  rw [Nat.sub_zero, range_foldlG L (fun i => rd_T85 L i) (fun i hi => by unfold rd_T85; rw [Int.toNat_natCast]; simp [List.getD_eq_getElem?_getD, hi]) (fun c t => c + if cov t.f3.toNat m = true then 1 else 0), foldl_count, Nat.zero_add] at h0
  exact h0

def stepM (cnt : Nat → Nat) (M : Int) (best s : Nat) : Nat := if ((pop 64 s : Nat) : Int) = M then max best (cnt s) else best
theorem stepM_le (cnt : Nat → Nat) (hc : ∀ s, cnt s ≤ 100) (M : Int) (best s : Nat) (h : best ≤ 100) : stepM cnt M best s ≤ 100 := by
  have := hc s
  unfold stepM
  split <;> omega
theorem pop_le : ∀ f x, pop f x ≤ f := by
  intro f
  induction f with
  | zero => intro x; simp [pop]
  | succ f ih => intro x; have := ih (x / 2); show x % 2 + pop f (x / 2) ≤ f + 1; omega
theorem pop_eq_zero : ∀ f x, x < 2 ^ f → pop f x = 0 → x = 0 := by
  intro f
  induction f with
  | zero => intro x h _; simp at h; omega
  | succ f ih =>
    intro x h h0
    rw [Nat.pow_succ] at h
    have h1 : x % 2 + pop f (x / 2) = 0 := h0
    have := ih (x / 2) (by omega) (by omega)
    omega
attribute [local irreducible] pop
theorem spec_most_ev {W H E : Nat} {Mt : List S85} (M : Int) (hE : E ≤ 13) (hWH : wrap64 (wrap64 (wrap64 (wrap64 (2 * (W : Int)) * (H : Int)) + (W : Int)) + (H : Int)) = (E : Int)) (hl : Mt.length ≤ 100) (hs : ∀ t ∈ Mt, 0 ≤ t.f3 ∧ t.f3 < 2 ^ 40) :
    Ev (fun k => spec_MostSquaresWith.l0 k W H M Mt 0 0) ((((List.range' 0 (2 ^ E)).foldl (stepM (fun m => Mt.countP (fun t => cov t.f3.toNat m)) M) 0 : Nat) : Int), true) := by
  have hc : ∀ s, Mt.countP (fun t => cov t.f3.toNat s) ≤ 100 := fun s => Nat.le_trans List.countP_le_length hl
  have hp : 2 ^ E ≤ 2 ^ 13 := Nat.pow_le_pow_right (by decide) hE
  have hsh : Go.Proofs.YtkllomnelknpaaaW.PrintWords.shl .i64 1 (E : Int) = ((2 ^ E : Nat) : Int) := by rw [shli _ (by omega) (by omega), Int.toNat_natCast]
  refine run_ev (fun k (s : Nat) i => spec_MostSquaresWith.l0 k W H M Mt (s : Int) i) (stepM (fun m => Mt.countP (fun t => cov t.f3.toNat m)) M) (fun i s => s ≤ 100) (2 ^ E) _ ?_ (2 ^ E) 0 0 (Nat.sub_zero _) (Nat.zero_le _) ?_
  · intro s m hm h100
    refine ⟨stepM_le _ hc M s m h100, fun r hr => ?_⟩
    refine Ev.step (f := fun k => spec_MostSquaresWith.l1 k W H M Mt (s : Int) (m : Int) ((0 : Nat) : Int) (m : Int)) (fun k => by simp only [spec_MostSquaresWith.l0]; rw [hWH, hsh, if_pos (show (0 : Int) ≤ (E : Int) by omega), if_pos (Int.ofNat_lt.2 hm)]; rfl) ?_
    have key : ∀ n (x c : Nat), pop 64 x = n → x < 2 ^ 13 → c + n = pop 64 m → Ev (fun k => spec_MostSquaresWith.l1 k W H M Mt (s : Int) (m : Int) (c : Int) (x : Int)) r := by
      intro n
      induction n with
      | zero =>
        intro x c h hx hcn
        have := pop_eq_zero 64 x (by omega) h
        subst this
        have hcm : c = pop 64 m := by omega
        subst hcm
        unfold stepM at hr
        have hm13 : m < 2 ^ 63 := by omega
        by_cases hq : ((pop 64 m : Nat) : Int) = M
        · rw [if_pos hq] at hr
          have hcm := hc m
          refine Ev.step (f := fun k => (spec_sqCount.f k Mt (m : Int)).bind fun t118 => ((spec_l1Most.f (s : Int) t118).bind fun t119 => (spec_MostSquaresWith.l0 k W H M Mt t119 (wrap64 ((m : Int) + 1))))) (fun k => by simp only [spec_MostSquaresWith.l1]; rw [if_pos (show ((0 : Nat) : Int) = 0 from rfl), if_pos hq]) (Ev.bind (sqCount_ev Mt m hm13 (by omega) hs) ?_)
          have e : spec_l1Most.f (s : Int) ((Mt.countP (fun t => cov t.f3.toNat m) : Nat) : Int) = some ((max s (Mt.countP (fun t => cov t.f3.toNat m)) : Nat) : Int) := by
            unfold spec_l1Most.f
            by_cases hgt : s > Mt.countP (fun t => cov t.f3.toNat m)
            · rw [if_pos (by omega), Nat.max_eq_left (by omega)]
            · rw [if_neg (by omega), Nat.max_eq_right (by omega)]
          refine Ev.bind (Ev.const e) ?_
          rw [w64 (n := (m : Int) + 1) (by omega) (by omega)]
          exact hr
        · rw [if_neg hq] at hr
          refine Ev.step (fun k => ?_) hr
          simp only [spec_MostSquaresWith.l1]
          rw [if_pos (show ((0 : Nat) : Int) = 0 from rfl), if_neg hq, w64 (n := (m : Int) + 1) (by omega) (by omega)]
          rfl
      | succ n ih =>
        intro x c h hx hcn
        have h0 : x ≠ 0 := fun h1 => by rw [h1, pop_zero] at h; omega
        have h2 := pop_clear 64 x (by omega) h0
        have hle := Nat.and_le_left (n := x) (m := x - 1)
        have h64 := pop_le 64 m
        refine Ev.step (fun k => ?_) (ih (x &&& (x - 1)) (c + 1) (by omega) (by omega) (by omega))
        simp only [spec_MostSquaresWith.l1]
        rw [if_neg (by omega), w64 (n := (x : Int) - 1) (by omega) (by omega), show (x : Int) - 1 = ((x - 1 : Nat) : Int) by omega, andi _ _ (by omega) (by omega), w64 (by omega) (by omega)]
        rfl
    exact key (pop 64 m) m 0 rfl (by omega) (by omega)
  · rw [Nat.sub_zero, Nat.zero_add]
    intro _
    refine Ev.step (fun k => ?_) (Ev.now _)
    simp only [spec_MostSquaresWith.l0]
    rw [hWH, hsh, if_pos (show (0 : Int) ≤ (E : Int) by omega), if_neg (fun h => Nat.lt_irrefl _ (Int.ofNat_lt.1 h))]
theorem impl_most_ev {E : Nat} {L : List S80} (M : Int) (hE : E ≤ 13) (hl : L.length ≤ 100) (hs : ∀ t ∈ L, 0 ≤ t.f3 ∧ t.f3 < 2 ^ 40) :
    Ev (fun k => impl_MostSquaresWith.l0 k M 0 L ((2 ^ E : Nat) : Int) 0) ((((List.range' 0 (2 ^ E)).foldl (stepM (fun m => L.countP (fun t => cov t.f3.toNat m)) M) 0 : Nat) : Int), true) := by
  have hc : ∀ s, L.countP (fun t => cov t.f3.toNat s) ≤ 100 := fun s => Nat.le_trans List.countP_le_length hl
  have hp : 2 ^ E ≤ 2 ^ 13 := Nat.pow_le_pow_right (by decide) hE
  refine run_ev (fun k (s : Nat) i => impl_MostSquaresWith.l0 k M (s : Int) L ((2 ^ E : Nat) : Int) i) (stepM (fun m => L.countP (fun t => cov t.f3.toNat m)) M) (fun i s => s ≤ 100) (2 ^ E) _ ?_ (2 ^ E) 0 0 (Nat.sub_zero _) (Nat.zero_le _) ?_
  · intro s m hm h100
    refine ⟨stepM_le _ hc M s m h100, fun r hr => ?_⟩
    refine Ev.step (f := fun k => (impl_set_count.f (m : Int)).bind fun t156 => (if t156 = M then ((impl_countOf.f k L (m : Int)).bind fun t157 => (impl_MostSquaresWith.l0 k M (mx (s : Int) t157) L ((2 ^ E : Nat) : Int) ((m + 1 : Nat) : Int))) else (impl_MostSquaresWith.l0 k M (s : Int) L ((2 ^ E : Nat) : Int) ((m + 1 : Nat) : Int)))) (fun k => by simp only [impl_MostSquaresWith.l0]; rw [if_pos (Int.ofNat_lt.2 hm), wu64 ((m : Int) + 1) (by omega) (by omega)]; rfl) ?_
    refine Ev.bind (Ev.const (count_is m (by omega))) ?_
    unfold stepM at hr
    by_cases hq : ((pop 64 m : Nat) : Int) = M
    · rw [if_pos hq] at hr
      refine Ev.congr (fun k => if_pos hq) ?_
      refine Ev.bind (countOf_ev L m (by omega) (by omega) hs) ?_
      have e : mx (s : Int) ((L.countP (fun t => cov t.f3.toNat m) : Nat) : Int) = ((max s (L.countP (fun t => cov t.f3.toNat m)) : Nat) : Int) := by
        unfold mx
        omega
      rw [e]
      exact hr
    · rw [if_neg hq] at hr
      exact Ev.congr (fun k => if_neg hq) hr
  · rw [Nat.sub_zero, Nat.zero_add]
    intro _
    refine Ev.step (fun k => ?_) (Ev.now _)
    simp only [impl_MostSquaresWith.l0]
    rw [if_neg (fun h => Nat.lt_irrefl _ (Int.ofNat_lt.1 h))]
/-- The edges of a grid: closed. -/
def eN (W H : Nat) : Nat := 2 * W * H + W + H
theorem eN_all : ((List.range 5).all fun W => (List.range 5).all fun H => decide (W = 0) || (decide (H = 0) || (decide (wrap64 (wrap64 (wrap64 (wrap64 (2 * (W : Int)) * (H : Int)) + (W : Int)) + (H : Int)) = (eN W H : Int)) && (decide (impl_grid_all.f W H = some ((2 ^ eN W H - 1 : Nat) : Int)) && (decide (pop 64 (2 ^ eN W H - 1) = eN W H) && (decide (eN W H ≤ 40) && (decide (4 < W * H) || decide (eN W H ≤ 13)))))))) = true := by decide +kernel
theorem both_MostSquaresWith (w h z : Int) : ∃ v, Ev (fun k => spec_MostSquaresWith.f k w h z) v ∧ Ev (fun k => impl_MostSquaresWith.f k w h z) v := by
  have sno : ∀ w h z, Ev (fun k => spec_MostSquaresWith.j0 k w h z true) (0, false) := fun w h z => Ev.step (f := fun _ => some (0, false)) (fun k => by simp [spec_MostSquaresWith.j0]) (Ev.now _)
  have ino : ∀ w h z, Ev (fun k => impl_MostSquaresWith.j0 k w h z true) (0, false) := fun w h z => Ev.step (f := fun _ => some (0, false)) (fun k => by simp [impl_MostSquaresWith.j0]) (Ev.now _)
  unfold spec_MostSquaresWith.f impl_MostSquaresWith.f
  cases hg : (inB 1 4 w && inB 1 4 h) with
  | false =>
    refine ⟨(0, false), Ev.bind (Ev.const (fiGrid_is w h)) ?_, Ev.bind (Ev.const (isGrid_is w h)) ?_⟩
    · rw [hg]
      exact sno w h z
    · rw [hg]
      exact ino w h z
  | true =>
    have hg2 := hg
    simp only [Bool.and_eq_true, inB_iff] at hg2
    obtain ⟨hw, hh⟩ := hg2
    have G := grid_bounds hw hh
    obtain ⟨W, rfl⟩ := Int.eq_ofNat_of_zero_le (show 0 ≤ w by omega)
    obtain ⟨H, rfl⟩ := Int.eq_ofNat_of_zero_le (show 0 ≤ h by omega)
    have hA := eN_all
    simp only [List.all_eq_true, List.mem_range] at hA
    have hA := hA W (by omega) H (by omega)
    rw [decide_eq_false (show ¬ W = 0 by omega), decide_eq_false (show ¬ H = 0 by omega)] at hA
    simp only [Bool.false_or, Bool.and_eq_true, Bool.or_eq_true, decide_eq_true_eq] at hA
    obtain ⟨a1, a2, a3, a40, a4⟩ := hA
    by_cases h4 : (W : Int) * (H : Int) > 4
    · refine ⟨(0, false), Ev.bind (Ev.const (fiGrid_is _ _)) ?_, Ev.bind (Ev.const (isGrid_is _ _)) ?_⟩
      · rw [hg, w64 (by omega) (by omega)]
        refine Ev.congr (fun k => (if_pos rfl).trans (if_pos h4)) (sno _ _ z)
      · rw [hg, w64 (by omega) (by omega)]
        refine Ev.congr (fun k => (if_pos rfl).trans (if_pos h4)) (ino _ _ z)
    · have hE : eN W H ≤ 13 := by
        rcases a4 with a4 | a4
        · rw [← Int.natCast_mul] at h4
          omega
        · exact a4
      have hcnt : impl_set_count.f ((2 ^ eN W H - 1 : Nat) : Int) = some ((eN W H : Nat) : Int) := by
        have hp : 2 ^ eN W H ≤ 2 ^ 13 := Nat.pow_le_pow_right (by decide) hE
        rw [count_is _ (by omega), a3]
      cases hz : inB 0 (eN W H : Int) z with
      | false =>
        refine ⟨(0, false), Ev.bind (Ev.const (fiGrid_is _ _)) ?_, Ev.bind (Ev.const (isGrid_is _ _)) ?_⟩
        · rw [hg, w64 (n := (W : Int) * (H : Int)) (by omega) (by omega), a1]
          refine Ev.congr (fun k => (if_pos rfl).trans (if_neg h4)) ?_
          refine Ev.bind (Ev.const (l1In_is _ _ _)) ?_
          rw [hz]
          exact sno _ _ z
        · rw [hg, w64 (n := (W : Int) * (H : Int)) (by omega) (by omega)]
          refine Ev.congr (fun k => (if_pos rfl).trans (if_neg h4)) ?_
          refine Ev.bind (Ev.const a2) (Ev.bind (Ev.const hcnt) (Ev.bind (Ev.const (within_is _ _ _)) ?_))
          rw [hz]
          exact ino _ _ z
      | true =>
        obtain ⟨L, Mt, eL, eM, q⟩ := sq_lists (W := W) (H := H) (by omega) (by omega)
        have hcc : (fun m => L.countP (fun t => cov t.f3.toNat m)) = (fun m => Mt.countP (fun t => cov t.f3.toNat m)) := by
          funext m
          exact countP_tup q (fun t => cov t.2.2.2.toNat m)
        have hp : 2 ^ eN W H ≤ 2 ^ 13 := Nat.pow_le_pow_right (by decide) hE
        have hp0 : 0 < 2 ^ eN W H := Nat.two_pow_pos _
        refine ⟨((((List.range' 0 (2 ^ eN W H)).foldl (stepM (fun m => Mt.countP (fun t => cov t.f3.toNat m)) z) 0 : Nat) : Int), true), Ev.bind (Ev.const (fiGrid_is _ _)) ?_, Ev.bind (Ev.const (isGrid_is _ _)) ?_⟩
        · rw [hg, w64 (n := (W : Int) * (H : Int)) (by omega) (by omega), a1]
          refine Ev.congr (fun k => (if_pos rfl).trans (if_neg h4)) ?_
          refine Ev.bind (Ev.const (l1In_is _ _ _)) ?_
          rw [hz]
          refine Ev.step (f := fun k => (spec_sqAll.f k W H).bind fun t115 => (spec_MostSquaresWith.l0 k W H z t115 0 0)) (fun k => by simp only [spec_MostSquaresWith.j0]; rw [if_neg (by simp)]) ?_
          exact Ev.bind eM (spec_most_ev z hE a1 q.lenS (fun t ht => ⟨(q.smallS t ht).1, (q.smallS t ht).2.1⟩))
        · rw [hg, w64 (n := (W : Int) * (H : Int)) (by omega) (by omega)]
          refine Ev.congr (fun k => (if_pos rfl).trans (if_neg h4)) ?_
          refine Ev.bind (Ev.const a2) (Ev.bind (Ev.const hcnt) (Ev.bind (Ev.const (within_is _ _ _)) ?_))
          rw [hz]
          refine Ev.step (f := fun k => (impl_grid_squares.f k W H).bind fun t152 => ((impl_grid_all.f W H).bind fun t155 => (impl_MostSquaresWith.l0 k z 0 t152 (IntKind.u64.wrap (t155 + 1)) 0))) (fun k => by simp only [impl_MostSquaresWith.j0]; rw [if_neg (by simp)]) ?_
          refine Ev.bind eL (Ev.bind (Ev.const a2) ?_)
          rw [show ((2 ^ eN W H - 1 : Nat) : Int) + 1 = ((2 ^ eN W H : Nat) : Int) by omega, wrapu (by omega), ← hcc]
          exact impl_most_ev z hE q.lenI (fun t ht => ⟨(q.small t ht).1, (q.small t ht).2.1⟩)
theorem FnExactMostSquaresWith : laws_FnExactMostSquaresWith.Pure := by
  intro w h z _ _ _
  obtain ⟨v, hs, hi⟩ := both_MostSquaresWith w h z
  have all : Ev (fun k => laws_FnExactMostSquaresWith.f k w h z) true := by
    unfold laws_FnExactMostSquaresWith.f
    refine Ev.bind hs (Ev.bind hi (Ev.const ?_))
    simp
  obtain ⟨K, hK⟩ := all
  exact ⟨K, hK K (Nat.le_refl _)⟩

end Go.Proofs.Ytkllomnelknpaaa.Pure
