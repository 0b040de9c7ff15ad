/- Proved here: the pure statement of FnExactDigitOfMatches: program and reference tell the same digit. Conditions: the list's numbers are 64 bit integers, it is no longer than a slice can be. -/
import Derived.Test.YtdnfmkgcglgdiaaDoorQFnExactDigitOfMatchesx3
set_option linter.unusedVariables false
set_option linter.unusedSimpArgs false
namespace Go.Proofs.YtdnfmkgcglgdiaaDoor.Pure
open Go.RowKit Go.Proofs.YtdnfmkgcglgdiaaDoor.Q Go.Proofs.YtdnfmkgcglgdiaaDoorW.PrintWords Go.Proofs.YtdnfmkgcglgdiaaDoorW.PrintLast

/-! ### base: wrapping, 'from some number of rounds on', loops -/
theorem w64 {n : Int} (h0 : -9223372036854775808 ≤ n) (h1 : n ≤ 9223372036854775807) : wrap64 n = n := by unfold wrap64; omega
theorem wf64 {x : Int} (h : (Lit.int .i64 x).wf = true) : -9223372036854775808 ≤ x ∧ x ≤ 9223372036854775807 := by
  simp [Lit.wf, IntKind.min, IntKind.max, IntKind.signed, IntKind.bits] at h
  omega
theorem maxLen_le {n : Nat} (h : n ≤ maxLen) : n ≤ 9223372036854775807 := by unfold maxLen at h; omega
theorem Ev.both {α β : Type} {g : Nat → Option α} {f : Nat → Option β} {a : α} {b : β} (h : Ev g a) (k : Ev f b) : ∃ K, ∀ n, K ≤ n → g n = some a ∧ f n = some b := by
  obtain ⟨K, h⟩ := h
  obtain ⟨K', k⟩ := k
  exact ⟨max K K', fun n hn => ⟨h n (by omega), k n (by omega)⟩⟩
theorem Ev.const {α : Type} {x : Option α} {r : α} (h : x = some r) : Ev (fun _ => x) r := ⟨0, fun _ _ => h⟩
/-- A loop from lo on that ends early with 'bad', or runs through. -/
theorem all_ev {β : Type} (g : Nat → Int → Option β) (p : Nat → Bool) (good bad : β) (lo n : Nat)
    (hgood : ∀ i r, lo ≤ i → i < n → p i = true → Ev (fun k => g k ((i + 1 : Nat) : Int)) r → Ev (fun k => g k (i : Int)) r)
    (hbad : ∀ i, lo ≤ i → i < n → p i = false → Ev (fun k => g k (i : Int)) bad)
    (fin : ∀ i, n ≤ i → i ≤ n + lo → Ev (fun k => g k (i : Int)) good) : ∀ d a, n - a = d → lo ≤ a → a ≤ n + lo → Ev (fun k => g k (a : Int)) (if (List.range' a (n - a)).all p = true then good else bad) := by
  intro d
  induction d with
  | zero =>
    intro a ha hlo hle
    rw [ha]
    simpa using fin a (by omega) hle
  | succ d ih =>
    intro a ha hlo hle
    rw [ha, List.range'_succ, List.all_cons]
    cases hp : p a with
    | true =>
      have := ih (a + 1) (by omega) (by omega) (by omega)
      rw [show n - (a + 1) = d by omega] at this
      simp only [Bool.true_and]
      exact hgood a _ hlo (by omega) hp this
    | false =>
      simp only [Bool.false_and]
      exact hbad a hlo (by omega) hp
/-- The same where it answers whether all held. -/
theorem all_evB (g : Nat → Int → Option Bool) (p : Nat → Bool) (lo n : Nat)
    (hgood : ∀ i r, lo ≤ i → i < n → p i = true → Ev (fun k => g k ((i + 1 : Nat) : Int)) r → Ev (fun k => g k (i : Int)) r)
    (hbad : ∀ i, lo ≤ i → i < n → p i = false → Ev (fun k => g k (i : Int)) false)
    (fin : ∀ i, n ≤ i → i ≤ n + lo → Ev (fun k => g k (i : Int)) true) : Ev (fun k => g k (lo : Int)) ((List.range' lo (n - lo)).all p) := by
  have h := all_ev g p true false lo n hgood hbad fin (n - lo) lo rfl (Nat.le_refl _) (by omega)
  cases hb : (List.range' lo (n - lo)).all p <;> simpa [hb] using h
/-- A loop that carries a state s; P: what is known of it. -/
theorem fold_ev {σ β : Type} (g : Nat → σ → Int → Option β) (f : σ → Nat → σ) (h : σ → β) (P : Nat → σ → Prop) (n : Nat)
    (step : ∀ s i r, i < n → P i s → (P (i + 1) (f s i) ∧ (Ev (fun k => g k (f s i) ((i + 1 : Nat) : Int)) r → Ev (fun k => g k s (i : Int)) r)))
    (fin : ∀ s, P n s → Ev (fun k => g k s (n : Int)) (h s)) : ∀ d a s, n - a = d → a ≤ n → P a s → Ev (fun k => g k s (a : Int)) (h ((List.range' a (n - a)).foldl f s)) := by
  intro d
  induction d with
  | zero =>
    intro a s ha hle hP
    obtain rfl : a = n := by omega
    simpa using fin s hP
  | succ d ih =>
    intro a s ha hle hP
    rw [ha, List.range'_succ, List.foldl_cons]
    have := step s a (h ((List.range' (a + 1) d).foldl f (f s a))) (by omega) hP
    refine this.2 ?_
    have h2 := ih (a + 1) (f s a) (by omega) (by omega) this.1
    rw [show n - (a + 1) = d by omega] at h2
    exact h2
theorem rd_nat (l : List Int) (i : Nat) (h : i < l.length) : rd l (i : Int) = l[i] := by unfold rd; rw [Int.toNat_natCast]; simp [List.getD_eq_getElem?_getD, h]
theorem all_range (l : List Int) (q : Int → Bool) : (List.range' 0 l.length).all (fun i => q (rd l (i : Int))) = l.all q := by
  rw [Bool.eq_iff_iff, List.all_eq_true, List.all_eq_true]
  constructor
  · intro h x hx
    obtain ⟨i, hi, rfl⟩ := List.getElem_of_mem hx
    have := h i (by simp; omega)
    rwa [rd_nat l i hi] at this
  · intro h i hi
    have hi : i < l.length := by simp at hi; omega
    rw [rd_nat l i hi]
    exact h _ (List.getElem_mem hi)
/-- Strictly increasing. -/
def incr (l : List Int) : Bool := (List.range' 1 (l.length - 1)).all fun i => decide (rd l (i : Int) > rd l ((i : Int) - 1))
theorem incr_iff (l : List Int) : incr l = true ↔ ∀ i, ∀ h : i + 1 < l.length, l[i] < l[i + 1] := by
  unfold incr
  rw [List.all_eq_true]
  constructor
  · intro h i hi
    have := h (i + 1) (by simp; omega)
    rw [rd_nat l (i + 1) hi, show (((i + 1 : Nat) : Int) - 1) = ((i : Nat) : Int) by omega, rd_nat l i (by omega)] at this
    simpa using this
  · intro h i hi
    obtain ⟨j, rfl⟩ : ∃ j, i = j + 1 := ⟨i - 1, by simp at hi; omega⟩
    have hj : j + 1 < l.length := by simp at hi; omega
    rw [rd_nat l (j + 1) hj, show (((j + 1 : Nat) : Int) - 1) = ((j : Nat) : Int) by omega, rd_nat l j (by omega)]
    simpa using h j hj
theorem incr_ge (l : List Int) (h : incr l = true) (h0 : ∀ x ∈ l, 0 ≤ x) : ∀ i (hi : i < l.length), (i : Int) ≤ l[i] := by
  intro i
  induction i with
  | zero => intro hi; exact h0 _ (List.getElem_mem hi)
  | succ i ih =>
    intro hi
    have := ih (by omega)
    have := (incr_iff l).1 h i hi
    omega
theorem incr_len (l : List Int) (h : incr l = true) (m : Int) (hm : l.all (fun x => decide (0 ≤ x) && decide (x ≤ m)) = true) : (l.length : Int) ≤ m + 1 ∨ l = [] := by
  rw [List.all_eq_true] at hm
  by_cases h0 : l = []
  · exact .inr h0
  · left
    have hp := List.length_pos_iff.2 h0
    have h1 := incr_ge l h (fun x hx => by have := hm x hx; simp at this; omega) (l.length - 1) (by omega)
    have h2 := hm _ (List.getElem_mem (show l.length - 1 < l.length by omega))
    simp at h2
    omega

/-! ### bits: sets of numbers below 63 as natural numbers -/
theorem wu64 (n : Int) (h0 : 0 ≤ n) (h1 : n < 2 ^ 63) : IntKind.u64.wrap n = n := by
  simp only [IntKind.wrap, IntKind.bits, IntKind.signed]
  simp
  omega
theorem wi64 (n : Int) (h0 : 0 ≤ n) (h1 : n < 2 ^ 63) : IntKind.i64.wrap n = n := by
  rw [IntKind.wrap_i64]
  omega
/-- a without what b has. -/
def andN (a b : Nat) : Nat := a ^^^ (a &&& b)
theorem testBit_andN (a b i : Nat) : (andN a b).testBit i = (a.testBit i && !b.testBit i) := by
  unfold andN
  rw [Nat.testBit_xor, Nat.testBit_and]
  cases a.testBit i <;> cases b.testBit i <;> rfl
theorem andN_le (a b : Nat) : andN a b ≤ a := by
  apply Nat.le_of_testBit
  intro i h
  rw [testBit_andN] at h
  simp at h
  exact h.1
theorem castlt {n : Nat} (h : n < 2 ^ 63) : ((n : Nat) : Int) < 2 ^ 63 := by exact_mod_cast h
section
variable (k : IntKind) (hk : ∀ n : Int, 0 ≤ n → n < 2 ^ 63 → k.wrap n = n) (hb : k.bits = 64) (a b : Nat) (ha : a < 2 ^ 63) (hbb : b < 2 ^ 63)
include hk hb ha hbb
theorem bits_or : Go.bits .or k a b = ((a ||| b : Nat) : Int) := (bits_nat k 63 (by omega) hk a b ha hbb).2
theorem bits_and : Go.bits .and k a b = ((a &&& b : Nat) : Int) := (bits_nat k 63 (by omega) hk a b ha hbb).1
theorem bits_xor : Go.bits .xor k a b = ((a ^^^ b : Nat) : Int) := by
  have h1 : a % 2 ^ k.bits = a := Nat.mod_eq_of_lt (by rw [hb]; omega)
  have h2 : b % 2 ^ k.bits = b := Nat.mod_eq_of_lt (by rw [hb]; omega)
  simp only [Go.bits, BitVec.ofInt_natCast, BitVec.toNat_xor, BitVec.toNat_ofNat, h1, h2]
  exact hk _ (Int.natCast_nonneg _) (castlt (Nat.xor_lt_two_pow ha hbb))
theorem bits_andNot : Go.bits .andNot k a b = ((andN a b : Nat) : Int) := by
  have h1 : a % 2 ^ k.bits = a := Nat.mod_eq_of_lt (by rw [hb]; omega)
  have h2 : b % 2 ^ k.bits = b := Nat.mod_eq_of_lt (by rw [hb]; omega)
  have e : a &&& (2 ^ k.bits - 1 - b) = andN a b := by
    apply Nat.eq_of_testBit_eq
    intro i
    rw [Nat.testBit_and, testBit_andN, show 2 ^ k.bits - 1 - b = 2 ^ k.bits - (b + 1) by omega, Nat.testBit_two_pow_sub_succ (by rw [hb]; omega)]
    by_cases hi : i < k.bits
    · simp [hi]
    · have : a.testBit i = false := Nat.testBit_lt_two_pow (Nat.lt_of_lt_of_le ha (Nat.pow_le_pow_right (by decide) (by omega)))
      simp [this]
  simp only [Go.bits, BitVec.ofInt_natCast, BitVec.toNat_and, BitVec.toNat_not, BitVec.toNat_ofNat, h1, h2, e]
  exact hk _ (Int.natCast_nonneg _) (castlt (Nat.lt_of_le_of_lt (andN_le a b) ha))
end
theorem oru (a b : Nat) (ha : a < 2 ^ 63) (hb : b < 2 ^ 63) : Go.bits .or .u64 a b = ((a ||| b : Nat) : Int) := bits_or .u64 wu64 rfl a b ha hb
theorem ori (a b : Nat) (ha : a < 2 ^ 63) (hb : b < 2 ^ 63) : Go.bits .or .i64 a b = ((a ||| b : Nat) : Int) := bits_or .i64 wi64 rfl a b ha hb
theorem andu (a b : Nat) (ha : a < 2 ^ 63) (hb : b < 2 ^ 63) : Go.bits .and .u64 a b = ((a &&& b : Nat) : Int) := bits_and .u64 wu64 rfl a b ha hb
theorem andi (a b : Nat) (ha : a < 2 ^ 63) (hb : b < 2 ^ 63) : Go.bits .and .i64 a b = ((a &&& b : Nat) : Int) := bits_and .i64 wi64 rfl a b ha hb
theorem xoru (a b : Nat) (ha : a < 2 ^ 63) (hb : b < 2 ^ 63) : Go.bits .xor .u64 a b = ((a ^^^ b : Nat) : Int) := bits_xor .u64 wu64 rfl a b ha hb
theorem xori (a b : Nat) (ha : a < 2 ^ 63) (hb : b < 2 ^ 63) : Go.bits .xor .i64 a b = ((a ^^^ b : Nat) : Int) := bits_xor .i64 wi64 rfl a b ha hb
theorem andNu (a b : Nat) (ha : a < 2 ^ 63) (hb : b < 2 ^ 63) : Go.bits .andNot .u64 a b = ((andN a b : Nat) : Int) := bits_andNot .u64 wu64 rfl a b ha hb
theorem shl_one (k : IntKind) (hk : ∀ n : Int, 0 ≤ n → n < 2 ^ 63 → k.wrap n = n) (hb : k.bits = 64) (e : Int) (h0 : 0 ≤ e) (h1 : e < 63) : Go.Proofs.YtdnfmkgcglgdiaaDoorW.PrintWords.shl k 1 e = ((2 ^ e.toNat : Nat) : Int) := by
  obtain ⟨n, rfl⟩ := Int.eq_ofNat_of_zero_le h0
  unfold Go.Proofs.YtdnfmkgcglgdiaaDoorW.PrintWords.shl
  rw [Int.toNat_natCast, Nat.min_eq_left (by rw [hb]; omega), Int.one_mul]
  have hp : 2 ^ n < 2 ^ 63 := Nat.pow_lt_pow_right (by decide) (by omega)
  have hc : ((2 : Int) ^ n) = ((2 ^ n : Nat) : Int) := by simp
  rw [hc]
  exact hk _ (Int.natCast_nonneg _) (castlt hp)
theorem shlu (e : Int) (h0 : 0 ≤ e) (h1 : e < 63) : Go.Proofs.YtdnfmkgcglgdiaaDoorW.PrintWords.shl .u64 1 e = ((2 ^ e.toNat : Nat) : Int) := shl_one .u64 wu64 rfl e h0 h1
theorem shli (e : Int) (h0 : 0 ≤ e) (h1 : e < 63) : Go.Proofs.YtdnfmkgcglgdiaaDoorW.PrintWords.shl .i64 1 e = ((2 ^ e.toNat : Nat) : Int) := shl_one .i64 wi64 rfl e h0 h1
/-- The set of a list's numbers. -/
def maskL (l : List Int) : Nat := l.foldl (fun m x => m ||| 2 ^ x.toNat) 0
theorem testBit_pow (e j : Nat) : (2 ^ e).testBit j = decide (e = j) := Nat.testBit_two_pow
theorem foldl_mask_bit (j : Nat) : ∀ (l : List Int) (m : Nat), (l.foldl (fun m x => m ||| 2 ^ x.toNat) m).testBit j = (m.testBit j || l.any (fun x => decide (x.toNat = j)))
  | [], m => by simp
  | x :: l, m => by
    rw [List.foldl_cons, foldl_mask_bit j l, Nat.testBit_or, testBit_pow, List.any_cons, Bool.or_assoc]
theorem maskL_bit (l : List Int) (j : Nat) : (maskL l).testBit j = l.any (fun x => decide (x.toNat = j)) := by
  unfold maskL
  rw [foldl_mask_bit]
  simp
theorem maskL_mem (l : List Int) (h : ∀ x ∈ l, 0 ≤ x) (j : Nat) : (maskL l).testBit j = true ↔ (j : Int) ∈ l := by
  rw [maskL_bit, List.any_eq_true]
  constructor
  · rintro ⟨x, hx, he⟩
    have := h x hx
    simp at he
    have : x = (j : Int) := by omega
    rwa [← this]
  · intro hj
    exact ⟨_, hj, by simp⟩
theorem foldl_mask_lt (N : Nat) : ∀ (l : List Int) (m : Nat), (∀ x ∈ l, x.toNat < N) → m < 2 ^ N → (l.foldl (fun m x => m ||| 2 ^ x.toNat) m) < 2 ^ N
  | [], m, _, hm => hm
  | x :: l, m, h, hm => foldl_mask_lt N l _ (fun y hy => h y (List.mem_cons_of_mem _ hy)) (Nat.or_lt_two_pow hm (Nat.pow_lt_pow_right (by decide) (h x List.mem_cons_self)))
theorem maskL_lt (l : List Int) (N : Nat) (h : ∀ x ∈ l, x.toNat < N) : maskL l < 2 ^ N := foldl_mask_lt N l 0 h (Nat.two_pow_pos N)
theorem range_foldl {σ : Type} (l : List Int) (f : σ → Int → σ) : ∀ s, (List.range' 0 l.length).foldl (fun s (i : Nat) => f s (rd l (i : Int))) s = l.foldl f s := by
  have key : ∀ (d a : Nat) (s : σ), a + d = l.length → (List.range' a d).foldl (fun s (i : Nat) => f s (rd l (i : Int))) s = (l.drop a).foldl f s := by
    intro d
    induction d with
    | zero => intro a s h; rw [List.drop_of_length_le (by omega)]; rfl
    | succ d ih =>
      intro a s h
      have ha : a < l.length := by omega
      rw [List.range'_succ, List.foldl_cons, ih (a + 1) _ (by omega), List.drop_eq_getElem_cons ha, List.foldl_cons, rd_nat l a ha]
  intro s
  have := key l.length 0 s (by omega)
  simpa using this
theorem pow_lt63 {e : Nat} (h : e < 63) : 2 ^ e < 2 ^ 63 := Nat.pow_lt_pow_right (by decide) h
theorem lt63 {n N : Nat} (h : n < 2 ^ N) (hN : N ≤ 63) : n < 2 ^ 63 := Nat.lt_of_lt_of_le h (Nat.pow_le_pow_right (by decide) hN)
theorem and_pow_ne (m e : Nat) : (m &&& 2 ^ e ≠ 0) ↔ m.testBit e = true := by
  constructor
  · intro h
    cases hb : m.testBit e with
    | true => rfl
    | false =>
      exfalso
      apply h
      apply Nat.eq_of_testBit_eq
      intro i
      rw [Nat.testBit_and, testBit_pow, Nat.zero_testBit]
      by_cases hi : e = i
      · subst hi; simp [hb]
      · simp [hi]
  · intro h h0
    have := congrArg (fun n => n.testBit e) h0
    simp [Nat.testBit_and, testBit_pow, h] at this

/-! ### strictly increasing lists -/
theorem isRising_ev (l : List Int) (hl : l.length ≤ 9223372036854775807) : Ev (fun k => impl_isRising.f k l) (incr l) :=
  all_evB (fun k i => impl_isRising.l0 k l i) (fun i => decide (rd l (i : Int) > rd l ((i : Int) - 1))) 1 l.length
    (fun i r h0 hi hp hr => Ev.step (fun k => by simp only [impl_isRising.l0]; rw [if_pos (by omega), if_pos (by omega), w64 (by omega) (by omega), if_pos (by omega), if_pos (by omega), if_neg (by simp at hp; omega), w64 (by omega) (by omega)]; rfl) hr)
    (fun i h0 hi hp => Ev.step (fun k => by simp only [impl_isRising.l0]; rw [if_pos (by omega), if_pos (by omega), w64 (by omega) (by omega), if_pos (by omega), if_pos (by omega), if_pos (by simp at hp; omega)]) (Ev.now false))
    (fun i hi _ => Ev.step (fun k => by simp only [impl_isRising.l0]; rw [if_neg (by omega)]) (Ev.now true))
theorem incr_tail {x : Int} {l : List Int} (h : incr (x :: l) = true) : incr l = true := by
  rw [incr_iff] at h ⊢
  intro i hi
  exact h (i + 1) (by simp; omega)
theorem incr_head {x : Int} : ∀ {l : List Int}, incr (x :: l) = true → ∀ y ∈ l, x < y := by
  intro l
  induction l generalizing x with
  | nil => intro _ y hy; simp at hy
  | cons z l ih =>
    intro h y hy
    have h0 := (incr_iff _).1 h 0 (by simp)
    have h0 : x < z := h0
    rcases List.mem_cons.1 hy with rfl | hy
    · exact h0
    · exact Int.lt_trans h0 (ih (incr_tail h) y hy)
/-- A strictly increasing list is what its numbers say. -/
theorem incr_filter : ∀ (n lo : Nat) (l : List Int), incr l = true → (∀ x ∈ l, (lo : Int) ≤ x ∧ x < (lo : Int) + (n : Int)) → l = ((List.range' lo n).filter (fun (i : Nat) => decide ((i : Int) ∈ l))).map (fun (i : Nat) => (i : Int)) := by
  intro n
  induction n with
  | zero =>
    intro lo l _ hb
    cases l with
    | nil => rfl
    | cons x l => have := hb x List.mem_cons_self; omega
  | succ n ih =>
    intro lo l hi hb
    rw [List.range'_succ, List.filter_cons]
    by_cases hm : (lo : Int) ∈ l
    · rw [if_pos (by simpa using hm)]
      cases l with
      | nil => simp at hm
      | cons x t =>
        have hx := hb x List.mem_cons_self
        have ht := incr_head hi
        have e : x = (lo : Int) := by
          rcases List.mem_cons.1 hm with h | h
          · exact h.symm
          · have := ht _ h; omega
        subst e
        have hf : (List.range' (lo + 1) n).filter (fun (i : Nat) => decide ((i : Int) ∈ (lo : Int) :: t)) = (List.range' (lo + 1) n).filter (fun (i : Nat) => decide ((i : Int) ∈ t)) := by
          apply List.filter_congr
          intro i hi'
          rw [List.mem_range'_1] at hi'
          rw [decide_eq_decide, List.mem_cons]
          exact ⟨fun h => h.resolve_left (by omega), .inr⟩
        rw [hf, List.map_cons, ← ih (lo + 1) t (incr_tail hi) (fun y hy => by
          have := hb y (List.mem_cons_of_mem _ hy)
          have := ht y hy
          omega)]
    · rw [if_neg (by simpa using hm)]
      exact ih (lo + 1) l hi (fun x hx => by
        have := hb x hx
        have : x ≠ (lo : Int) := fun h => hm (h ▸ hx)
        omega)

def setOf (m : Nat) : List Int := ((List.range' 0 7).filter (fun i => m.testBit i)).map (fun (i : Nat) => (i : Int))
def goodD (o : Option (Int × Bool)) : Bool := o.isSome
theorem all_sets : ((List.range 128).all fun m => decide (spec_DigitOfMatches.f 40 (setOf m) = impl_DigitOfMatches.f 40 (setOf m)) && goodD (spec_DigitOfMatches.f 40 (setOf m))) = true := by decide +kernel
theorem l1Same_ev (a b : List Int) (ha : a.length ≤ 1000000) : Ev (fun k => spec_l1Same.f k a b) (decide (a = b)) := by
  unfold spec_l1Same.f
  by_cases hl : a.length = b.length
  · refine Ev.congr (fun k => if_pos (by omega)) ?_
    have h := all_evB (fun k i => spec_l1Same.l0 k a b (a.length : Int) i) (fun i => decide (rd a (i : Int) = rd b (i : Int))) 0 a.length
      (fun i r _ hi hp hr => Ev.step (fun k => by simp only [spec_l1Same.l0]; rw [if_pos (by omega), if_pos (by omega), if_pos (by omega), if_pos (by omega), if_pos (by simpa using hp), w64 (by omega) (by omega)]; rfl) hr)
      (fun i _ hi hp => Ev.step (fun k => by simp only [spec_l1Same.l0]; rw [if_pos (by omega), if_pos (by omega), if_pos (by omega), if_pos (by omega), if_neg (by simpa using hp)]) (Ev.now false))
      (fun i hi _ => Ev.step (fun k => by simp only [spec_l1Same.l0]; rw [if_neg (by omega)]) (Ev.now true))
    have e : ((List.range' 0 (a.length - 0)).all fun i => decide (rd a (i : Int) = rd b (i : Int))) = decide (a = b) := by
      rw [Bool.eq_iff_iff, List.all_eq_true, decide_eq_true_eq]
      constructor
      · intro h
        apply List.ext_getElem hl
        intro i h1 h2
        have := h i (by simp; omega)
        rw [decide_eq_true_eq, rd_nat a i h1, rd_nat b i h2] at this
        exact this
      · rintro rfl i _
        simp
    rw [e] at h
    exact h
  · refine Ev.congr (fun k => if_neg (by omega)) ?_
    rw [decide_eq_false (fun h => hl (by rw [h]))]
    exact Ev.now _
theorem places_all : ((List.range 10).all fun d => match spec_nuPlaces.f (d : Int) with
  | some p => incr p && p.all (fun x => decide (0 ≤ x) && decide (x ≤ 6)) && decide (p.length ≤ 10)
  | none => false) = true := by decide +kernel
theorem spec_bad (l : List Int) (hbad : ¬ (incr l = true ∧ l.all (fun x => decide (0 ≤ x) && decide (x ≤ 6)) = true)) : Ev (fun k => spec_DigitOfMatches.f k l) (0, false) := by
  have key : ∀ n : Nat, n ≤ 10 → Ev (fun k => spec_DigitOfMatches.l0 k l ((10 - n : Nat) : Int)) (0, false) := by
    intro n
    induction n with
    | zero => intro _; exact Ev.step (fun k => by simp only [spec_DigitOfMatches.l0]; rw [if_neg (by decide)]) (Ev.now _)
    | succ n ih =>
      intro hn
      have H := places_all
      simp only [List.all_eq_true, List.mem_range] at H
      have H := H (10 - (n + 1)) (by omega)
      cases hp : spec_nuPlaces.f ((10 - (n + 1) : Nat) : Int) with
      | none => rw [hp] at H; simp at H
      | some p =>
        rw [hp] at H
        simp only [Bool.and_eq_true, decide_eq_true_eq] at H
        have hne : p ≠ l := fun h => hbad (h ▸ ⟨H.1.1, by have := H.1.2; simpa using this⟩)
        have hs := l1Same_ev p l (by omega)
        rw [decide_eq_false hne] at hs
        refine Ev.step (fun k => by simp only [spec_DigitOfMatches.l0]; rw [if_pos (by omega), hp, Option.bind_some]) ?_
        refine Ev.bind hs ?_
        refine Ev.congr (fun k => if_neg (by decide)) ?_
        have := ih (by omega)
        rw [show ((10 - n : Nat) : Int) = wrap64 (((10 - (n + 1) : Nat) : Int) + 1) by rw [w64 (by omega) (by omega)]; omega] at this
        exact this
  exact key 10 (by omega)
theorem both_Digit (l : List Int) (hl : l.length ≤ 1000000) : ∃ r, Ev (fun k => spec_DigitOfMatches.f k l) r ∧ Ev (fun k => impl_DigitOfMatches.f k l) r := by
  by_cases hg : incr l = true ∧ l.all (fun x => decide (0 ≤ x) && decide (x ≤ 6)) = true
  · have hb : ∀ x ∈ l, ((0 : Nat) : Int) ≤ x ∧ x < ((0 : Nat) : Int) + ((7 : Nat) : Int) := fun x hx => by
      have := List.all_eq_true.1 hg.2 x hx
      simp at this
      omega
    have e1 := incr_filter 7 0 l hg.1 hb
    have e2 : l = setOf (maskL l) := by
      unfold setOf
      refine e1.trans ?_
      congr 1
      apply List.filter_congr
      intro i _
      rw [Bool.eq_iff_iff, maskL_mem l (fun x hx => (hb x hx).1), decide_eq_true_eq]
    have hlt : maskL l < 2 ^ 7 := maskL_lt l 7 (fun x hx => by have := hb x hx; omega)
    have H := all_sets
    simp only [List.all_eq_true, List.mem_range] at H
    have H := H (maskL l) (by omega)
    rw [← e2, Bool.and_eq_true, decide_eq_true_eq] at H
    obtain ⟨x, hx⟩ : ∃ x, spec_DigitOfMatches.f 40 l = x := ⟨_, rfl⟩
    rw [hx] at H
    cases x with
    | none => simp [goodD] at H
    | some v => exact ⟨v, Ev.of (spec_DigitOfMatches.mono _) hx, Ev.of (impl_DigitOfMatches.mono _) H.1.symm⟩
  · refine ⟨(0, false), spec_bad l hg, ?_⟩
    unfold impl_DigitOfMatches.f impl_areWithin.f
    refine Ev.bind (isRising_ev l (by omega)) ?_
    have jt : Ev (fun k => impl_DigitOfMatches.j0 k l true) (0, false) := Ev.step (fun k => by simp only [impl_DigitOfMatches.j0]; rw [if_pos trivial]) (Ev.now _)
    cases hi : incr l with
    | false => exact Ev.congr (fun k => if_neg (by decide)) jt
    | true =>
      refine Ev.congr (fun k => if_pos rfl) ?_
      cases ha : l.all (fun x => decide (0 ≤ x) && decide (x ≤ 6)) with
      | true => exact absurd ⟨hi, ha⟩ hg
      | false => exact jt
theorem FnExactDigitOfMatches : laws_FnExactDigitOfMatches.Pure := by
  intro l _ _
  by_cases hl : (l.length : Int) > 1000000
  · exact ⟨0, by unfold laws_FnExactDigitOfMatches.f; rw [if_pos hl]⟩
  · obtain ⟨⟨d, t⟩, hs, hi⟩ := both_Digit l (by omega)
    have ht : ∀ b, laws_toIntS.f l b = some l := fun b => by unfold laws_toIntS.f; rw [if_pos (by omega)]
    have hk : laws_intactIntS.f l l = some true := by unfold laws_intactIntS.f; rw [if_pos (by omega)]; simp
    have all : Ev (fun k => laws_FnExactDigitOfMatches.f k l) true := by
      unfold laws_FnExactDigitOfMatches.f
      refine Ev.congr (fun k => if_neg hl) ?_
      refine Ev.bind (Ev.const (ht false)) (Ev.bind hs (Ev.bind (Ev.const (ht false)) (Ev.bind hi ?_)))
      simp only [if_true, bne_self_eq_false]
      refine Ev.step (fun k => by simp only [laws_FnExactDigitOfMatches.j0]; rw [if_neg (by decide)]) ?_
      refine Ev.bind (Ev.const (ht false)) (Ev.bind (Ev.const hk) (Ev.congr (fun k => if_pos rfl) (Ev.bind (Ev.const (ht true)) (Ev.bind hi ?_))))
      refine Ev.const ?_
      simp
    obtain ⟨K, hK⟩ := all
    exact ⟨K, hK K (Nat.le_refl _)⟩

end Go.Proofs.YtdnfmkgcglgdiaaDoor.Pure
