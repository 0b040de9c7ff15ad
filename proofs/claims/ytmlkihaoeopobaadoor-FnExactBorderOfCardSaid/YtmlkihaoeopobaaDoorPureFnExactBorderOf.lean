/- Proved here: the pure statement of FnExactBorderOf: program and reference lay the same border of cells. Conditions: the numbers are 64 bit integers, the list is no longer than a slice can be. -/
import Derived.Test.YtmlkihaoeopobaaDoorQFnExactBorderOfx8
set_option linter.unusedVariables false
set_option linter.unusedSimpArgs false
namespace Go.Proofs.YtmlkihaoeopobaaDoor.Pure
open Go.RowKit Go.Proofs.YtmlkihaoeopobaaDoor.Q Go.Proofs.YtmlkihaoeopobaaDoorW.PrintWords Go.Proofs.YtmlkihaoeopobaaDoorW.PrintLast

/-! ### base: wrapping, 'from some number of rounds on', loops -/
theorem w64 {n : Int} (h0 : -9223372036854775808 ≤ n) (h1 : n ≤ 9223372036854775807) : wrap64 n = n := by unfold wrap64; omega
theorem wf64 {x : Int} (h : (Lit.int .i64 x).wf = true) : -9223372036854775808 ≤ x ∧ x ≤ 9223372036854775807 := by
  simp [Lit.wf, IntKind.min, IntKind.max, IntKind.signed, IntKind.bits] at h
  omega
theorem maxLen_le {n : Nat} (h : n ≤ maxLen) : n ≤ 9223372036854775807 := by unfold maxLen at h; omega
theorem Ev.both {α β : Type} {g : Nat → Option α} {f : Nat → Option β} {a : α} {b : β} (h : Ev g a) (k : Ev f b) : ∃ K, ∀ n, K ≤ n → g n = some a ∧ f n = some b := by
  obtain ⟨K, h⟩ := h
  obtain ⟨K', k⟩ := k
  exact ⟨max K K', fun n hn => ⟨h n (by omega), k n (by omega)⟩⟩
theorem Ev.const {α : Type} {x : Option α} {r : α} (h : x = some r) : Ev (fun _ => x) r := ⟨0, fun _ _ => h⟩
/-- A loop from lo on that ends early with 'bad', or runs through. -/
theorem all_ev {β : Type} (g : Nat → Int → Option β) (p : Nat → Bool) (good bad : β) (lo n : Nat)
    (hgood : ∀ i r, lo ≤ i → i < n → p i = true → Ev (fun k => g k ((i + 1 : Nat) : Int)) r → Ev (fun k => g k (i : Int)) r)
    (hbad : ∀ i, lo ≤ i → i < n → p i = false → Ev (fun k => g k (i : Int)) bad)
    (fin : ∀ i, n ≤ i → i ≤ n + lo → Ev (fun k => g k (i : Int)) good) : ∀ d a, n - a = d → lo ≤ a → a ≤ n + lo → Ev (fun k => g k (a : Int)) (if (List.range' a (n - a)).all p = true then good else bad) := by
  intro d
  induction d with
  | zero =>
    intro a ha hlo hle
    rw [ha]
    simpa using fin a (by omega) hle
  | succ d ih =>
    intro a ha hlo hle
    rw [ha, List.range'_succ, List.all_cons]
    cases hp : p a with
    | true =>
      have := ih (a + 1) (by omega) (by omega) (by omega)
      rw [show n - (a + 1) = d by omega] at this
      simp only [Bool.true_and]
      exact hgood a _ hlo (by omega) hp this
    | false =>
      simp only [Bool.false_and]
      exact hbad a hlo (by omega) hp
/-- The same where it answers whether all held. -/
theorem all_evB (g : Nat → Int → Option Bool) (p : Nat → Bool) (lo n : Nat)
    (hgood : ∀ i r, lo ≤ i → i < n → p i = true → Ev (fun k => g k ((i + 1 : Nat) : Int)) r → Ev (fun k => g k (i : Int)) r)
    (hbad : ∀ i, lo ≤ i → i < n → p i = false → Ev (fun k => g k (i : Int)) false)
    (fin : ∀ i, n ≤ i → i ≤ n + lo → Ev (fun k => g k (i : Int)) true) : Ev (fun k => g k (lo : Int)) ((List.range' lo (n - lo)).all p) := by
  have h := all_ev g p true false lo n hgood hbad fin (n - lo) lo rfl (Nat.le_refl _) (by omega)
  cases hb : (List.range' lo (n - lo)).all p <;> simpa [hb] using h
/-- A loop that carries a state s; P: what is known of it. -/
theorem fold_ev {σ β : Type} (g : Nat → σ → Int → Option β) (f : σ → Nat → σ) (h : σ → β) (P : Nat → σ → Prop) (n : Nat)
    (step : ∀ s i r, i < n → P i s → (P (i + 1) (f s i) ∧ (Ev (fun k => g k (f s i) ((i + 1 : Nat) : Int)) r → Ev (fun k => g k s (i : Int)) r)))
    (fin : ∀ s, P n s → Ev (fun k => g k s (n : Int)) (h s)) : ∀ d a s, n - a = d → a ≤ n → P a s → Ev (fun k => g k s (a : Int)) (h ((List.range' a (n - a)).foldl f s)) := by
  intro d
  induction d with
  | zero =>
    intro a s ha hle hP
    obtain rfl : a = n := by omega
    simpa using fin s hP
  | succ d ih =>
    intro a s ha hle hP
    rw [ha, List.range'_succ, List.foldl_cons]
    have := step s a (h ((List.range' (a + 1) d).foldl f (f s a))) (by omega) hP
    refine this.2 ?_
    have h2 := ih (a + 1) (f s a) (by omega) (by omega) this.1
    rw [show n - (a + 1) = d by omega] at h2
    exact h2
theorem rd_nat (l : List Int) (i : Nat) (h : i < l.length) : rd l (i : Int) = l[i] := by unfold rd; rw [Int.toNat_natCast]; simp [List.getD_eq_getElem?_getD, h]
theorem all_range (l : List Int) (q : Int → Bool) : (List.range' 0 l.length).all (fun i => q (rd l (i : Int))) = l.all q := by
  rw [Bool.eq_iff_iff, List.all_eq_true, List.all_eq_true]
  constructor
  · intro h x hx
    obtain ⟨i, hi, rfl⟩ := List.getElem_of_mem hx
    have := h i (by simp; omega)
    rwa [rd_nat l i hi] at this
  · intro h i hi
    have hi : i < l.length := by simp at hi; omega
    rw [rd_nat l i hi]
    exact h _ (List.getElem_mem hi)
/-- Strictly increasing. -/
def incr (l : List Int) : Bool := (List.range' 1 (l.length - 1)).all fun i => decide (rd l (i : Int) > rd l ((i : Int) - 1))
theorem incr_iff (l : List Int) : incr l = true ↔ ∀ i, ∀ h : i + 1 < l.length, l[i] < l[i + 1] := by
  unfold incr
  rw [List.all_eq_true]
  constructor
  · intro h i hi
    have := h (i + 1) (by simp; omega)
    rw [rd_nat l (i + 1) hi, show (((i + 1 : Nat) : Int) - 1) = ((i : Nat) : Int) by omega, rd_nat l i (by omega)] at this
    simpa using this
  · intro h i hi
    obtain ⟨j, rfl⟩ : ∃ j, i = j + 1 := ⟨i - 1, by simp at hi; omega⟩
    have hj : j + 1 < l.length := by simp at hi; omega
    rw [rd_nat l (j + 1) hj, show (((j + 1 : Nat) : Int) - 1) = ((j : Nat) : Int) by omega, rd_nat l j (by omega)]
    simpa using h j hj
theorem incr_ge (l : List Int) (h : incr l = true) (h0 : ∀ x ∈ l, 0 ≤ x) : ∀ i (hi : i < l.length), (i : Int) ≤ l[i] := by
  intro i
  induction i with
  | zero => intro hi; exact h0 _ (List.getElem_mem hi)
  | succ i ih =>
    intro hi
    have := ih (by omega)
    have := (incr_iff l).1 h i hi
    omega
theorem incr_len (l : List Int) (h : incr l = true) (m : Int) (hm : l.all (fun x => decide (0 ≤ x) && decide (x ≤ m)) = true) : (l.length : Int) ≤ m + 1 ∨ l = [] := by
  rw [List.all_eq_true] at hm
  by_cases h0 : l = []
  · exact .inr h0
  · left
    have hp := List.length_pos_iff.2 h0
    have h1 := incr_ge l h (fun x hx => by have := hm x hx; simp at this; omega) (l.length - 1) (by omega)
    have h2 := hm _ (List.getElem_mem (show l.length - 1 < l.length by omega))
    simp at h2
    omega

/-! ### figures: what is one -/
def inB (lo hi : Int) (x : Int) : Bool := decide (lo ≤ x) && decide (x ≤ hi)
theorem inB_iff {lo hi x : Int} : inB lo hi x = true ↔ lo ≤ x ∧ x ≤ hi := by simp [inB]
theorem l1In_is (a lo hi : Int) : spec_l1In.f a lo hi = some (inB lo hi a) := by
  unfold spec_l1In.f inB
  by_cases h : a ≥ lo
  · rw [if_pos h, decide_eq_true (show lo ≤ a from h), Bool.true_and]
  · rw [if_neg h, decide_eq_false (show ¬ lo ≤ a from h), Bool.false_and]
theorem within_is (a lo hi : Int) : impl_within.f a lo hi = some (inB lo hi a) := by
  unfold impl_within.f inB
  by_cases h : lo ≤ a
  · rw [if_pos h, decide_eq_true h, Bool.true_and]
  · rw [if_neg h, decide_eq_false h, Bool.false_and]
theorem fiGrid_is (w h : Int) : spec_fiGrid.f w h = some (inB 1 4 w && inB 1 4 h) := by
  unfold spec_fiGrid.f
  simp only [l1In_is, Option.bind_some]
  cases inB 1 4 w <;> simp
theorem isGrid_is (w h : Int) : impl_isGrid.f w h = some (inB 1 4 w && inB 1 4 h) := by
  unfold impl_isGrid.f
  simp only [within_is, Option.bind_some]
  cases inB 1 4 w <;> simp
theorem l1All_ev (l : List Int) (hl : l.length ≤ 9223372036854775807) (lo hi : Int) : Ev (fun k => spec_l1All.f k l lo hi) (l.all (inB lo hi)) := by
  have h := all_evB (fun k i => spec_l1All.l0 k lo hi l (l.length : Int) i) (fun i => inB lo hi (rd l (i : Int))) 0 l.length
    (fun i r _ hi hp hr => Ev.step (fun k => by simp only [spec_l1All.l0]; rw [if_pos (by omega), if_pos (by omega), if_pos (by omega), l1In_is, hp, Option.bind_some, if_pos rfl, w64 (by omega) (by omega)]; rfl) hr)
    (fun i _ hi hp => Ev.step (fun k => by simp only [spec_l1All.l0]; rw [if_pos (by omega), if_pos (by omega), if_pos (by omega), l1In_is, hp, Option.bind_some, if_neg (by simp)]) (Ev.now false))
    (fun i hi _ => Ev.step (fun k => by simp only [spec_l1All.l0]; rw [if_neg (by omega)]) (Ev.now true))
  rw [Nat.sub_zero, all_range l (inB lo hi)] at h
  exact h
theorem isRising_ev (l : List Int) (hl : l.length ≤ 9223372036854775807) : Ev (fun k => impl_isRising.f k l) (incr l) :=
  all_evB (fun k i => impl_isRising.l0 k l i) (fun i => decide (rd l (i : Int) > rd l ((i : Int) - 1))) 1 l.length
    (fun i r h0 hi hp hr => Ev.step (fun k => by simp only [impl_isRising.l0]; rw [if_pos (by omega), if_pos (by omega), w64 (by omega) (by omega), if_pos (by omega), if_pos (by omega), if_neg (by simp at hp; omega), w64 (by omega) (by omega)]; rfl) hr)
    (fun i h0 hi hp => Ev.step (fun k => by simp only [impl_isRising.l0]; rw [if_pos (by omega), if_pos (by omega), w64 (by omega) (by omega), if_pos (by omega), if_pos (by omega), if_pos (by simp at hp; omega)]) (Ev.now false))
    (fun i hi _ => Ev.step (fun k => by simp only [impl_isRising.l0]; rw [if_neg (by omega)]) (Ev.now true))
def rises (l : List Int) (m : Int) : Bool := l.all (inB 0 m) && incr l
theorem fiRises_ev (l : List Int) (hl : l.length ≤ 9223372036854775807) (m : Int) (h0 : 0 ≤ m) (h1 : m ≤ 1000) : Ev (fun k => spec_fiRises.f k l m) (rises l m) := by
  unfold rises spec_fiRises.f
  rw [w64 (by omega) (by omega)]
  by_cases hlen : (l.length : Int) > m + 1
  · simp only [if_pos hlen]
    have hf : (l.all (inB 0 m) && incr l) = false := by
      cases hi : incr l
      · simp
      · cases ha : l.all (inB 0 m)
        · rfl
        · rcases incr_len l hi m ha with h | h
          · omega
          · subst h
            simp at hlen
            omega
    rw [hf]
    exact Ev.step (f := fun _ => some false) (fun k => by simp [spec_fiRises.j0]) (Ev.now false)
  · simp only [if_neg hlen]
    refine Ev.bind (l1All_ev l hl 0 m) ?_
    cases ha : l.all (inB 0 m) with
    | false => exact Ev.step (f := fun _ => some false) (fun k => by simp [spec_fiRises.j0]) (Ev.now false)
    | true =>
      refine Ev.step (f := fun k => spec_fiRises.l0 k l 1) (fun k => by simp only [spec_fiRises.j0]; rw [if_neg (by simp)]) ?_
      rw [Bool.true_and]
      exact all_evB (fun k i => spec_fiRises.l0 k l i) (fun i => decide (rd l (i : Int) > rd l ((i : Int) - 1))) 1 l.length
        (fun i r h0 hi hp hr => Ev.step (fun k => by simp only [spec_fiRises.l0]; rw [if_pos (by omega), w64 (by omega) (by omega), if_pos (by omega), if_pos (by omega), if_pos (by omega), if_neg (by simp at hp; omega), w64 (by omega) (by omega)]; rfl) hr)
        (fun i h0 hi hp => Ev.step (fun k => by simp only [spec_fiRises.l0]; rw [if_pos (by omega), w64 (by omega) (by omega), if_pos (by omega), if_pos (by omega), if_pos (by omega), if_pos (by simp at hp; omega)]) (Ev.now false))
        (fun i hi _ => Ev.step (fun k => by simp only [spec_fiRises.l0]; rw [if_neg (by omega)]) (Ev.now true))
theorem grid_bounds {w h : Int} (hw : 1 ≤ w ∧ w ≤ 4) (hh : 1 ≤ h ∧ h ≤ 4) : 2 ≤ w * (h + 1) ∧ w * (h + 1) ≤ 20 ∧ 2 ≤ (w + 1) * h ∧ (w + 1) * h ≤ 20 ∧ 2 ≤ h * (w + 1) ∧ h * (w + 1) ≤ 20 ∧ 1 ≤ w * h ∧ w * h ≤ 16 ∧ h * (w + 1) = (w + 1) * h := by
  have hc : w = 1 ∨ w = 2 ∨ w = 3 ∨ w = 4 := by omega
  rcases hc with rfl | rfl | rfl | rfl <;> omega
def figGood (w h : Int) (a b : List Int) : Bool := (inB 1 4 w && inB 1 4 h) && (rises a (w * (h + 1) - 1) && rises b ((w + 1) * h - 1))
theorem levels_is {w h : Int} (hw : 1 ≤ w ∧ w ≤ 4) (hh : 1 ≤ h ∧ h ≤ 4) : impl_grid_levels.f w h = some (w * (h + 1)) := by
  have B := grid_bounds hw hh
  unfold impl_grid_levels.f
  rw [w64 (n := h + 1) (by omega) (by omega), w64 (n := w * (h + 1)) (by omega) (by omega)]
theorem uprights_is {w h : Int} (hw : 1 ≤ w ∧ w ≤ 4) (hh : 1 ≤ h ∧ h ≤ 4) : impl_grid_uprights.f w h = some ((w + 1) * h) := by
  have B := grid_bounds hw hh
  unfold impl_grid_uprights.f
  rw [w64 (n := w + 1) (by omega) (by omega), w64 (n := h * (w + 1)) (by omega) (by omega)]
  rw [Int.mul_comm]
theorem good_parts {w h : Int} {a b : List Int} (g : figGood w h a b = true) : (1 ≤ w ∧ w ≤ 4) ∧ (1 ≤ h ∧ h ≤ 4) ∧ (∀ x ∈ a, 0 ≤ x ∧ x < w * (h + 1)) ∧ incr a = true ∧ (∀ x ∈ b, 0 ≤ x ∧ x < (w + 1) * h) ∧ incr b = true := by
  unfold figGood rises at g
  simp only [Bool.and_eq_true, inB_iff, List.all_eq_true] at g
  obtain ⟨⟨g1, g2⟩, ⟨g3, g4⟩, g5, g6⟩ := g
  exact ⟨g1, g2, fun x hx => by have := g3 x hx; omega, g4, fun x hx => by have := g5 x hx; omega, g6⟩

/-! ### bits: sets of numbers below 63 as natural numbers -/
theorem wu64 (n : Int) (h0 : 0 ≤ n) (h1 : n < 2 ^ 63) : IntKind.u64.wrap n = n := by
  simp only [IntKind.wrap, IntKind.bits, IntKind.signed]
  simp
  omega
theorem wi64 (n : Int) (h0 : 0 ≤ n) (h1 : n < 2 ^ 63) : IntKind.i64.wrap n = n := by
  rw [IntKind.wrap_i64]
  omega
/-- a without what b has. -/
def andN (a b : Nat) : Nat := a ^^^ (a &&& b)
theorem testBit_andN (a b i : Nat) : (andN a b).testBit i = (a.testBit i && !b.testBit i) := by
  unfold andN
  rw [Nat.testBit_xor, Nat.testBit_and]
  cases a.testBit i <;> cases b.testBit i <;> rfl
theorem andN_le (a b : Nat) : andN a b ≤ a := by
  apply Nat.le_of_testBit
  intro i h
  rw [testBit_andN] at h
  simp at h
  exact h.1
theorem castlt {n : Nat} (h : n < 2 ^ 63) : ((n : Nat) : Int) < 2 ^ 63 := by exact_mod_cast h
section
variable (k : IntKind) (hk : ∀ n : Int, 0 ≤ n → n < 2 ^ 63 → k.wrap n = n) (hb : k.bits = 64) (a b : Nat) (ha : a < 2 ^ 63) (hbb : b < 2 ^ 63)
include hk hb ha hbb
theorem bits_or : Go.bits .or k a b = ((a ||| b : Nat) : Int) := (bits_nat k 63 (by omega) hk a b ha hbb).2
theorem bits_and : Go.bits .and k a b = ((a &&& b : Nat) : Int) := (bits_nat k 63 (by omega) hk a b ha hbb).1
theorem bits_xor : Go.bits .xor k a b = ((a ^^^ b : Nat) : Int) := by
  have h1 : a % 2 ^ k.bits = a := Nat.mod_eq_of_lt (by rw [hb]; omega)
  have h2 : b % 2 ^ k.bits = b := Nat.mod_eq_of_lt (by rw [hb]; omega)
  simp only [Go.bits, BitVec.ofInt_natCast, BitVec.toNat_xor, BitVec.toNat_ofNat, h1, h2]
  exact hk _ (Int.natCast_nonneg _) (castlt (Nat.xor_lt_two_pow ha hbb))
theorem bits_andNot : Go.bits .andNot k a b = ((andN a b : Nat) : Int) := by
  have h1 : a % 2 ^ k.bits = a := Nat.mod_eq_of_lt (by rw [hb]; omega)
  have h2 : b % 2 ^ k.bits = b := Nat.mod_eq_of_lt (by rw [hb]; omega)
  have e : a &&& (2 ^ k.bits - 1 - b) = andN a b := by
    apply Nat.eq_of_testBit_eq
    intro i
    rw [Nat.testBit_and, testBit_andN, show 2 ^ k.bits - 1 - b = 2 ^ k.bits - (b + 1) by omega, Nat.testBit_two_pow_sub_succ (by rw [hb]; omega)]
    by_cases hi : i < k.bits
    · simp [hi]
    · have : a.testBit i = false := Nat.testBit_lt_two_pow (Nat.lt_of_lt_of_le ha (Nat.pow_le_pow_right (by decide) (by omega)))
      simp [this]
  simp only [Go.bits, BitVec.ofInt_natCast, BitVec.toNat_and, BitVec.toNat_not, BitVec.toNat_ofNat, h1, h2, e]
  exact hk _ (Int.natCast_nonneg _) (castlt (Nat.lt_of_le_of_lt (andN_le a b) ha))
end
theorem oru (a b : Nat) (ha : a < 2 ^ 63) (hb : b < 2 ^ 63) : Go.bits .or .u64 a b = ((a ||| b : Nat) : Int) := bits_or .u64 wu64 rfl a b ha hb
theorem ori (a b : Nat) (ha : a < 2 ^ 63) (hb : b < 2 ^ 63) : Go.bits .or .i64 a b = ((a ||| b : Nat) : Int) := bits_or .i64 wi64 rfl a b ha hb
theorem andu (a b : Nat) (ha : a < 2 ^ 63) (hb : b < 2 ^ 63) : Go.bits .and .u64 a b = ((a &&& b : Nat) : Int) := bits_and .u64 wu64 rfl a b ha hb
theorem andi (a b : Nat) (ha : a < 2 ^ 63) (hb : b < 2 ^ 63) : Go.bits .and .i64 a b = ((a &&& b : Nat) : Int) := bits_and .i64 wi64 rfl a b ha hb
theorem xoru (a b : Nat) (ha : a < 2 ^ 63) (hb : b < 2 ^ 63) : Go.bits .xor .u64 a b = ((a ^^^ b : Nat) : Int) := bits_xor .u64 wu64 rfl a b ha hb
theorem xori (a b : Nat) (ha : a < 2 ^ 63) (hb : b < 2 ^ 63) : Go.bits .xor .i64 a b = ((a ^^^ b : Nat) : Int) := bits_xor .i64 wi64 rfl a b ha hb
theorem andNu (a b : Nat) (ha : a < 2 ^ 63) (hb : b < 2 ^ 63) : Go.bits .andNot .u64 a b = ((andN a b : Nat) : Int) := bits_andNot .u64 wu64 rfl a b ha hb
theorem shl_one (k : IntKind) (hk : ∀ n : Int, 0 ≤ n → n < 2 ^ 63 → k.wrap n = n) (hb : k.bits = 64) (e : Int) (h0 : 0 ≤ e) (h1 : e < 63) : Go.Proofs.YtmlkihaoeopobaaDoorW.PrintWords.shl k 1 e = ((2 ^ e.toNat : Nat) : Int) := by
  obtain ⟨n, rfl⟩ := Int.eq_ofNat_of_zero_le h0
  unfold Go.Proofs.YtmlkihaoeopobaaDoorW.PrintWords.shl
  rw [Int.toNat_natCast, Nat.min_eq_left (by rw [hb]; omega), Int.one_mul]
  have hp : 2 ^ n < 2 ^ 63 := Nat.pow_lt_pow_right (by decide) (by omega)
  have hc : ((2 : Int) ^ n) = ((2 ^ n : Nat) : Int) := by simp
  rw [hc]
  exact hk _ (Int.natCast_nonneg _) (castlt hp)
theorem shlu (e : Int) (h0 : 0 ≤ e) (h1 : e < 63) : Go.Proofs.YtmlkihaoeopobaaDoorW.PrintWords.shl .u64 1 e = ((2 ^ e.toNat : Nat) : Int) := shl_one .u64 wu64 rfl e h0 h1
theorem shli (e : Int) (h0 : 0 ≤ e) (h1 : e < 63) : Go.Proofs.YtmlkihaoeopobaaDoorW.PrintWords.shl .i64 1 e = ((2 ^ e.toNat : Nat) : Int) := shl_one .i64 wi64 rfl e h0 h1
/-- The set of a list's numbers. -/
def maskL (l : List Int) : Nat := l.foldl (fun m x => m ||| 2 ^ x.toNat) 0
theorem testBit_pow (e j : Nat) : (2 ^ e).testBit j = decide (e = j) := Nat.testBit_two_pow
theorem foldl_mask_bit (j : Nat) : ∀ (l : List Int) (m : Nat), (l.foldl (fun m x => m ||| 2 ^ x.toNat) m).testBit j = (m.testBit j || l.any (fun x => decide (x.toNat = j)))
  | [], m => by simp
  | x :: l, m => by
    rw [List.foldl_cons, foldl_mask_bit j l, Nat.testBit_or, testBit_pow, List.any_cons, Bool.or_assoc]
theorem maskL_bit (l : List Int) (j : Nat) : (maskL l).testBit j = l.any (fun x => decide (x.toNat = j)) := by
  unfold maskL
  rw [foldl_mask_bit]
  simp
theorem maskL_mem (l : List Int) (h : ∀ x ∈ l, 0 ≤ x) (j : Nat) : (maskL l).testBit j = true ↔ (j : Int) ∈ l := by
  rw [maskL_bit, List.any_eq_true]
  constructor
  · rintro ⟨x, hx, he⟩
    have := h x hx
    simp at he
    have : x = (j : Int) := by omega
    rwa [← this]
  · intro hj
    exact ⟨_, hj, by simp⟩
theorem foldl_mask_lt (N : Nat) : ∀ (l : List Int) (m : Nat), (∀ x ∈ l, x.toNat < N) → m < 2 ^ N → (l.foldl (fun m x => m ||| 2 ^ x.toNat) m) < 2 ^ N
  | [], m, _, hm => hm
  | x :: l, m, h, hm => foldl_mask_lt N l _ (fun y hy => h y (List.mem_cons_of_mem _ hy)) (Nat.or_lt_two_pow hm (Nat.pow_lt_pow_right (by decide) (h x List.mem_cons_self)))
theorem maskL_lt (l : List Int) (N : Nat) (h : ∀ x ∈ l, x.toNat < N) : maskL l < 2 ^ N := foldl_mask_lt N l 0 h (Nat.two_pow_pos N)
theorem range_foldl {σ : Type} (l : List Int) (f : σ → Int → σ) : ∀ s, (List.range' 0 l.length).foldl (fun s (i : Nat) => f s (rd l (i : Int))) s = l.foldl f s := by
  have key : ∀ (d a : Nat) (s : σ), a + d = l.length → (List.range' a d).foldl (fun s (i : Nat) => f s (rd l (i : Int))) s = (l.drop a).foldl f s := by
    intro d
    induction d with
    | zero => intro a s h; rw [List.drop_of_length_le (by omega)]; rfl
    | succ d ih =>
      intro a s h
      have ha : a < l.length := by omega
      rw [List.range'_succ, List.foldl_cons, ih (a + 1) _ (by omega), List.drop_eq_getElem_cons ha, List.foldl_cons, rd_nat l a ha]
  intro s
  have := key l.length 0 s (by omega)
  simpa using this
theorem pow_lt63 {e : Nat} (h : e < 63) : 2 ^ e < 2 ^ 63 := Nat.pow_lt_pow_right (by decide) h
theorem lt63 {n N : Nat} (h : n < 2 ^ N) (hN : N ≤ 63) : n < 2 ^ 63 := Nat.lt_of_lt_of_le h (Nat.pow_le_pow_right (by decide) hN)
theorem and_pow_ne (m e : Nat) : (m &&& 2 ^ e ≠ 0) ↔ m.testBit e = true := by
  constructor
  · intro h
    cases hb : m.testBit e with
    | true => rfl
    | false =>
      exfalso
      apply h
      apply Nat.eq_of_testBit_eq
      intro i
      rw [Nat.testBit_and, testBit_pow, Nat.zero_testBit]
      by_cases hi : e = i
      · subst hi; simp [hb]
      · simp [hi]
  · intro h h0
    have := congrArg (fun n => n.testBit e) h0
    simp [Nat.testBit_and, testBit_pow, h] at this

/-! ### the set of a figure: level edges first -/
def edges (w h : Int) (a b : List Int) : List Int := a ++ b.map (fun x => w * (h + 1) + x)
theorem edges_lt {w h : Int} {a b : List Int} (g : figGood w h a b = true) : ∀ x ∈ edges w h a b, 0 ≤ x ∧ x < 40 := by
  obtain ⟨hw, hh, ga, _, gb, _⟩ := good_parts g
  have B := grid_bounds hw hh
  intro x hx
  rcases List.mem_append.1 hx with h1 | h1
  · have := ga x h1
    omega
  · obtain ⟨y, hy, rfl⟩ := List.mem_map.1 h1
    have := gb y hy
    have h16 : w * (h + 1) + (w + 1) * h ≤ 40 := by omega
    omega
def figM (w h : Int) (a b : List Int) : Nat := maskL (edges w h a b)
theorem figM_lt {w h : Int} {a b : List Int} (g : figGood w h a b = true) : figM w h a b < 2 ^ 40 := maskL_lt _ 40 (fun x hx => by have := edges_lt g x hx; omega)
theorem figM_fold (w h : Int) (a b : List Int) : figM w h a b = b.foldl (fun m x => m ||| 2 ^ (w * (h + 1) + x).toNat) (a.foldl (fun m x => m ||| 2 ^ x.toNat) 0) := by
  unfold figM edges maskL
  rw [List.foldl_append, List.foldl_map]

/-! ### loops that carry a state, to a state that is known -/
theorem run_ev {σ β : Type} (g : Nat → σ → Int → Option β) (f : σ → Nat → σ) (Q : Nat → σ → Prop) (hi : Nat) (r : β)
    (step : ∀ s i, i < hi → Q i s → (Q (i + 1) (f s i) ∧ ∀ r, Ev (fun k => g k (f s i) ((i + 1 : Nat) : Int)) r → Ev (fun k => g k s (i : Int)) r)) :
    ∀ d lo s0, hi - lo = d → Q lo s0 → (Q (lo + (hi - lo)) ((List.range' lo (hi - lo)).foldl f s0) → Ev (fun k => g k ((List.range' lo (hi - lo)).foldl f s0) ((lo + (hi - lo) : Nat) : Int)) r) → Ev (fun k => g k s0 (lo : Int)) r := by
  intro d
  induction d with
  | zero =>
    intro lo s0 h hQ fin
    rw [h] at fin
    exact fin hQ
  | succ d ih =>
    intro lo s0 h hQ fin
    have st := step s0 lo (by omega) hQ
    refine st.2 r (ih (lo + 1) (f s0 lo) (by omega) st.1 ?_)
    rw [h, List.range'_succ, List.foldl_cons] at fin
    rw [show hi - (lo + 1) = d by omega, show lo + 1 + d = lo + (d + 1) by omega]
    exact fin
theorem andN_lt {a b N : Nat} (h : a < N) : andN a b < N := Nat.lt_of_le_of_lt (andN_le a b) h
/-- covered: all of e's edges are in m -/
def cov (e m : Nat) : Bool := decide (andN e m = 0)
theorem covers_iff (m e : Nat) : (andN e m = 0) ↔ (m &&& e = e) := by
  constructor
  · intro h
    apply Nat.eq_of_testBit_eq
    intro i
    have := congrArg (fun n => n.testBit i) h
    simp only [testBit_andN, Nat.zero_testBit] at this
    rw [Nat.testBit_and]
    cases he : e.testBit i <;> cases hm : m.testBit i <;> simp_all
  · intro h
    apply Nat.eq_of_testBit_eq
    intro i
    have := congrArg (fun n => n.testBit i) h
    simp only [Nat.testBit_and] at this
    rw [testBit_andN, Nat.zero_testBit]
    cases he : e.testBit i <;> cases hm : m.testBit i <;> simp_all
theorem cov_iff (e m : Nat) : cov e m = decide (m &&& e = e) := by
  unfold cov
  rw [decide_eq_decide]
  exact covers_iff m e

/-! ### loops over a list of any kind -/
theorem range_foldlG {α σ : Type} (l : List α) (rdx : Int → α) (hrd : ∀ i, ∀ h : i < l.length, rdx ((i : Nat) : Int) = l[i]) (f : σ → α → σ) : ∀ s, (List.range' 0 l.length).foldl (fun s (i : Nat) => f s (rdx (i : Int))) s = l.foldl f s := by
  have key : ∀ (d a : Nat) (s : σ), a + d = l.length → (List.range' a d).foldl (fun s (i : Nat) => f s (rdx (i : Int))) s = (l.drop a).foldl f s := by
    intro d
    induction d with
    | zero => intro a s h; rw [List.drop_of_length_le (by omega)]; rfl
    | succ d ih =>
      intro a s h
      have ha : a < l.length := by omega
      rw [List.range'_succ, List.foldl_cons, ih (a + 1) _ (by omega), List.drop_eq_getElem_cons ha, List.foldl_cons, hrd a ha]
  intro s
  have := key l.length 0 s (by omega)
  simpa using this
theorem foldl_filter {α β : Type} (p : α → Bool) (g : α → β) : ∀ (l : List α) (s : List β), l.foldl (fun s x => if p x = true then s ++ [g x] else s) s = s ++ (l.filter p).map g
  | [], s => by simp
  | x :: l, s => by
    rw [List.foldl_cons, foldl_filter p g l, List.filter_cons]
    by_cases h : p x = true
    · rw [if_pos h, if_pos h, List.map_cons, List.append_assoc]
      rfl
    · rw [if_neg h, if_neg h]
theorem foldl_filter_le {α β : Type} (p : α → Bool) (g : α → β) (l : List α) (s : List β) (i : Nat) (h : s.length ≤ i) (x : α) : (if p x = true then s ++ [g x] else s).length ≤ i + 1 := by
  split
  · simp
    omega
  · omega

/-! ### the reference's search in a list -/
theorem l1Has_ev (l : List Int) (hl : l.length ≤ 9223372036854775807) (n : Int) : Ev (fun k => spec_l1Has.f k l n) (l.any (fun x => decide (x = n))) := by
  have h := all_ev (fun k i => spec_l1Has.l0 k n l (l.length : Int) i) (fun i => !decide (rd l (i : Int) = n)) false true 0 l.length
    (fun i r _ hi hp hr => Ev.step (fun k => by simp only [spec_l1Has.l0]; rw [if_pos (by omega), if_pos (by omega), if_pos (by omega), if_neg (by simpa using hp), w64 (by omega) (by omega)]; rfl) hr)
    (fun i _ hi hp => Ev.step (fun k => by simp only [spec_l1Has.l0]; rw [if_pos (by omega), if_pos (by omega), if_pos (by omega), if_pos (by simpa using hp)]) (Ev.now true))
    (fun i hi _ => Ev.step (fun k => by simp only [spec_l1Has.l0]; rw [if_neg (by omega)]) (Ev.now false)) l.length 0 (by omega) (by omega) (by omega)
  rw [Nat.sub_zero, all_range l (fun x => !decide (x = n))] at h
  have e : (l.all fun x => !decide (x = n)) = !(l.any fun x => decide (x = n)) := by rw [List.any_eq_not_all_not]; simp
  rw [e] at h
  cases ha : (l.any fun x => decide (x = n)) <;> (rw [ha] at h; exact h)

/-! ### edges: the reference looks for their numbers in the lists -/
def edgeIn (w h : Int) (u : Bool) (x y : Int) : Bool := if u = true then inB 0 w x && inB 0 (h - 1) y else inB 0 (w - 1) x && inB 0 h y
def edgeNo (w : Int) (u : Bool) (x y : Int) : Int := if u = true then y * (w + 1) + x else y * w + x
def edgeOff (w h : Int) (u : Bool) : Int := if u = true then w * (h + 1) else 0
theorem edge_bounds {w h : Int} (hw : 1 ≤ w ∧ w ≤ 4) (hh : 1 ≤ h ∧ h ≤ 4) {u : Bool} {x y : Int} (hi : edgeIn w h u x y = true) : 0 ≤ edgeNo w u x y ∧ edgeNo w u x y < (if u = true then (w + 1) * h else w * (h + 1)) ∧ 0 ≤ x ∧ x ≤ 4 ∧ 0 ≤ y ∧ y ≤ 4 ∧ y * (w + 1) ≤ 20 ∧ 0 ≤ y * (w + 1) ∧ y * w ≤ 20 ∧ 0 ≤ y * w := by
  have hc : w = 1 ∨ w = 2 ∨ w = 3 ∨ w = 4 := by omega
  unfold edgeIn at hi
  unfold edgeNo
  cases u with
  | true =>
    simp only [if_true, Bool.and_eq_true, inB_iff] at hi ⊢
    rcases hc with rfl | rfl | rfl | rfl <;> omega
  | false =>
    simp only [Bool.false_eq_true, if_false, Bool.and_eq_true, inB_iff] at hi ⊢
    rcases hc with rfl | rfl | rfl | rfl <;> omega
theorem fiEdge_is {w h : Int} (hw : 1 ≤ w ∧ w ≤ 4) (hh : 1 ≤ h ∧ h ≤ 4) (a b : List Int) {u : Bool} {x y : Int} (hi : edgeIn w h u x y = true) : spec_fiEdge.f w h a b u x y = some (edgeNo w u x y, true) := by
  have B := edge_bounds hw hh hi
  unfold edgeIn at hi
  unfold spec_fiEdge.f edgeNo
  cases u with
  | true =>
    simp only [if_true, Bool.and_eq_true] at hi ⊢
    rw [l1In_is, hi.1, Option.bind_some, if_pos rfl, w64 (n := h - 1) (by omega) (by omega), l1In_is, hi.2, Option.bind_some, w64 (n := w + 1) (by omega) (by omega), w64 (n := y * (w + 1)) (by omega) (by omega), w64 (by omega) (by omega)]
  | false =>
    simp only [Bool.false_eq_true, if_false, Bool.and_eq_true] at hi ⊢
    rw [w64 (n := w - 1) (by omega) (by omega), l1In_is, hi.1, Option.bind_some, if_pos rfl, l1In_is, hi.2, Option.bind_some, w64 (n := y * w) (by omega) (by omega), w64 (by omega) (by omega)]
theorem fiEdge_no {w h : Int} (hw : 1 ≤ w ∧ w ≤ 4) (hh : 1 ≤ h ∧ h ≤ 4) (a b : List Int) {u : Bool} {x y : Int} (hi : edgeIn w h u x y = false) : ∃ n, spec_fiEdge.f w h a b u x y = some (n, false) := by
  unfold edgeIn at hi
  unfold spec_fiEdge.f
  cases u with
  | true =>
    simp only [if_true] at hi ⊢
    rw [l1In_is, Option.bind_some]
    cases hx : inB 0 w x with
    | false => exact ⟨_, by rw [if_neg (by simp)]⟩
    | true =>
      rw [hx, Bool.true_and] at hi
      rw [if_pos rfl, w64 (n := h - 1) (by omega) (by omega), l1In_is, hi, Option.bind_some]
      exact ⟨_, rfl⟩
  | false =>
    simp only [Bool.false_eq_true, if_false] at hi ⊢
    rw [w64 (n := w - 1) (by omega) (by omega), l1In_is, Option.bind_some]
    cases hx : inB 0 (w - 1) x with
    | false => exact ⟨_, by rw [if_neg (by simp)]⟩
    | true =>
      rw [hx, Bool.true_and] at hi
      rw [if_pos rfl, l1In_is, hi, Option.bind_some]
      exact ⟨_, rfl⟩
def hasE (w : Int) (a b : List Int) (u : Bool) (x y : Int) : Bool := (if u = true then b else a).any (fun z => decide (z = edgeNo w u x y))
theorem fiHas_ev {w h : Int} (hw : 1 ≤ w ∧ w ≤ 4) (hh : 1 ≤ h ∧ h ≤ 4) (a b : List Int) (ha : a.length ≤ 9223372036854775807) (hb : b.length ≤ 9223372036854775807) {u : Bool} {x y : Int} (hi : edgeIn w h u x y = true) : Ev (fun k => spec_fiHas.f k w h a b u x y) (hasE w a b u x y) := by
  unfold spec_fiHas.f hasE
  rw [fiEdge_is hw hh a b hi]
  simp only [Option.bind_some]
  cases u with
  | true =>
    simp only [if_true]
    exact Ev.bind (l1Has_ev b hb _) (Ev.now _)
  | false =>
    simp only [Bool.false_eq_true, if_false]
    exact Ev.bind (l1Has_ev a ha _) (Ev.now _)
theorem has_bit {w h : Int} {a b : List Int} (g : figGood w h a b = true) {u : Bool} {x y : Int} (hi : edgeIn w h u x y = true) : (figM w h a b).testBit (edgeOff w h u + edgeNo w u x y).toNat = hasE w a b u x y := by
  obtain ⟨hw, hh, ga, _, gb, _⟩ := good_parts g
  have B := edge_bounds hw hh hi
  have G := grid_bounds hw hh
  have hoff : 0 ≤ edgeOff w h u := by unfold edgeOff; split <;> omega
  rw [Bool.eq_iff_iff]
  unfold figM
  rw [maskL_mem _ (fun x hx => (edges_lt g x hx).1), show (((edgeOff w h u + edgeNo w u x y).toNat : Nat) : Int) = edgeOff w h u + edgeNo w u x y by omega]
  unfold hasE edges edgeOff
  rw [List.any_eq_true, List.mem_append, List.mem_map]
  obtain ⟨n, hn⟩ : ∃ n, edgeNo w u x y = n := ⟨_, rfl⟩
  rw [hn] at B ⊢
  cases u with
  | true =>
    simp only [if_true, decide_eq_true_eq] at B ⊢
    constructor
    · rintro (h1 | ⟨z, hz, he⟩)
      · have := ga _ h1
        omega
      · exact ⟨z, hz, by omega⟩
    · rintro ⟨z, hz, rfl⟩
      exact .inr ⟨z, hz, rfl⟩
  | false =>
    simp only [Bool.false_eq_true, if_false, decide_eq_true_eq] at B ⊢
    constructor
    · rintro (h1 | ⟨z, hz, he⟩)
      · exact ⟨_, h1, by omega⟩
      · have := gb _ hz
        omega
    · rintro ⟨z, hz, rfl⟩
      exact .inl (by rw [Int.zero_add]; exact hz)

/-! ### the numbers of the bits that are set -/
theorem and_div2' (a b : Nat) : (a &&& b) / 2 = a / 2 &&& b / 2 := by
  apply Nat.eq_of_testBit_eq
  intro i
  simp [Nat.testBit_div_two, Nat.testBit_and]
theorem and_odd' (a b : Nat) : ((a &&& b) % 2 = 1) ↔ (a % 2 = 1 ∧ b % 2 = 1) := by
  have h := Nat.testBit_and a b 0
  rw [Nat.testBit_zero, Nat.testBit_zero, Nat.testBit_zero, ← Bool.decide_and, decide_eq_decide] at h
  exact h
theorem andN_odd' (a b : Nat) : ((andN a b) % 2 = 1) ↔ (a % 2 = 1 ∧ ¬ b % 2 = 1) := by
  have h := testBit_andN a b 0
  rw [Nat.testBit_zero, Nat.testBit_zero, Nat.testBit_zero, ← decide_not, ← Bool.decide_and, decide_eq_decide] at h
  exact h
theorem andN_div2 (a b : Nat) : (andN a b) / 2 = andN (a / 2) (b / 2) := by
  apply Nat.eq_of_testBit_eq
  intro i
  rw [Nat.testBit_div_two, testBit_andN, testBit_andN, Nat.testBit_div_two, Nat.testBit_div_two]
/-- Where the lowest bit is. -/
def low : Nat → Nat → Nat
  | 0, _ => 0
  | f + 1, s => if s % 2 = 1 then 0 else 1 + low f (s / 2)
theorem low_lt : ∀ f s, s < 2 ^ f → s ≠ 0 → low f s < f := by
  intro f
  induction f with
  | zero => intro s h h0; simp at h; omega
  | succ f ih =>
    intro s h h0
    unfold low
    rw [Nat.pow_succ] at h
    by_cases ho : s % 2 = 1
    · rw [if_pos ho]; omega
    · rw [if_neg ho]
      have := ih (s / 2) (by omega) (by omega)
      omega
theorem low_is : ∀ f s, s < 2 ^ f → s ≠ 0 → andN s (s - 1) = 2 ^ low f s := by
  intro f
  induction f with
  | zero => intro s h h0; simp at h; omega
  | succ f ih =>
    intro s h h0
    unfold low
    rw [Nat.pow_succ] at h
    have h1 := andN_div2 s (s - 1)
    have h2 := andN_odd' s (s - 1)
    by_cases ho : s % 2 = 1
    · rw [if_pos ho]
      have := h2.2 ⟨ho, by omega⟩
      have h3 : andN (s / 2) (s / 2) = 0 := by unfold andN; simp
      rw [show (s - 1) / 2 = s / 2 by omega, h3] at h1
      simp only [Nat.pow_zero]
      omega
    · rw [if_neg ho]
      have h3 := ih (s / 2) (by omega) (by omega)
      rw [show (s - 1) / 2 = s / 2 - 1 by omega, h3] at h1
      have : ¬ (andN s (s - 1)) % 2 = 1 := fun h => ho (h2.1 h).1
      rw [Nat.add_comm, Nat.pow_succ]
      omega
/-- The bits that are set, counted from o. -/
def bl : Nat → Nat → Nat → List Nat
  | 0, _, _ => []
  | f + 1, o, s => if s % 2 = 1 then o :: bl f (o + 1) (s / 2) else bl f (o + 1) (s / 2)
theorem bl_zero : ∀ f o, bl f o 0 = [] := by
  intro f
  induction f with
  | zero => intro o; rfl
  | succ f ih => intro o; unfold bl; rw [if_neg (by decide), Nat.zero_div, ih]
theorem bl_low : ∀ f o s, s < 2 ^ f → s ≠ 0 → bl f o s = (o + low f s) :: bl f o (s &&& (s - 1)) := by
  intro f
  induction f with
  | zero => intro o s h h0; simp at h; omega
  | succ f ih =>
    intro o s h h0
    rw [Nat.pow_succ] at h
    have h2 := and_odd' s (s - 1)
    unfold bl low
    rw [and_div2']
    by_cases ho : s % 2 = 1
    · have : ¬ (s &&& (s - 1)) % 2 = 1 := fun h => by have := (h2.1 h).2; omega
      rw [if_pos ho, if_pos ho, if_neg this, show (s - 1) / 2 = s / 2 by omega, Nat.and_self]
      rfl
    · have : ¬ (s &&& (s - 1)) % 2 = 1 := fun h => ho (h2.1 h).1
      rw [if_neg ho, if_neg ho, if_neg this, show (s - 1) / 2 = s / 2 - 1 by omega, ih (o + 1) (s / 2) (by omega) (by omega), Nat.add_assoc]
theorem bl_len : ∀ f o s, (bl f o s).length ≤ f := by
  intro f
  induction f with
  | zero => intro o s; simp [bl]
  | succ f ih =>
    intro o s
    have := ih (o + 1) (s / 2)
    unfold bl
    split <;> simp <;> omega
theorem bl_filter : ∀ f o s, bl f o s = (List.range' o f).filter (fun i => s.testBit (i - o)) := by
  intro f
  induction f with
  | zero => intro o s; rfl
  | succ f ih =>
    intro o s
    have e : (List.range' (o + 1) f).filter (fun i => s.testBit (i - o)) = bl f (o + 1) (s / 2) := by
      rw [ih (o + 1) (s / 2)]
      apply List.filter_congr
      intro i hi
      rw [List.mem_range'_1] at hi
      rw [Nat.testBit_div_two, show i - (o + 1) + 1 = i - o by omega]
    unfold bl
    rw [List.range'_succ, List.filter_cons, e, Nat.sub_self, Nat.testBit_zero]
    by_cases ho : s % 2 = 1
    · rw [if_pos ho, if_pos (by simpa using ho)]
    · rw [if_neg ho, if_neg (by simpa using ho)]
theorem deB_all : ((List.range 64).all fun t => decide (deBr.getD (IntKind.u64.wrap (((2 ^ t : Nat) : Int) * 285870213051353865) / 288230376151711744).toNat 0 = (t : Int))) = true := by decide +kernel
theorem neg_and (s : Nat) (h : s < 2 ^ 62) (h0 : s ≠ 0) : Go.bits BinOp.and IntKind.u64 (s : Int) (IntKind.u64.wrap (-(s : Int))) = ((andN s (s - 1) : Nat) : Int) := by
  have hw : IntKind.u64.wrap (-(s : Int)) = ((2 ^ 64 - s : Nat) : Int) := by
    simp only [IntKind.wrap, IntKind.bits, IntKind.signed]
    simp
    omega
  have e : s &&& (2 ^ 64 - s) = andN s (s - 1) := by
    apply Nat.eq_of_testBit_eq
    intro i
    rw [Nat.testBit_and, testBit_andN, show 2 ^ 64 - s = 2 ^ 64 - ((s - 1) + 1) by omega, Nat.testBit_two_pow_sub_succ (by omega)]
    by_cases hi : i < 64
    · simp [hi]
    · have : s.testBit i = false := Nat.testBit_lt_two_pow (Nat.lt_of_lt_of_le h (Nat.pow_le_pow_right (by decide) (by omega)))
      simp [this]
  rw [hw]
  have hb : IntKind.u64.bits = 64 := rfl
  have h1 : s % 2 ^ IntKind.u64.bits = s := Nat.mod_eq_of_lt (by rw [hb]; omega)
  have h2 : (2 ^ 64 - s) % 2 ^ IntKind.u64.bits = 2 ^ 64 - s := Nat.mod_eq_of_lt (by rw [hb]; omega)
  simp only [Go.bits, BitVec.ofInt_natCast, BitVec.toNat_and, BitVec.toNat_ofNat, h1, h2, e]
  exact wu64 _ (Int.natCast_nonneg _) (castlt (Nat.lt_of_le_of_lt (andN_le s (s - 1)) (by omega)))
theorem tz_is (s : Nat) (h : s < 2 ^ 62) (h0 : s ≠ 0) : bits_TrailingZeros64.f (s : Int) = some ((low 62 s : Nat) : Int) := by
  unfold bits_TrailingZeros64.f tzIx
  rw [if_neg (by omega), neg_and s h h0, low_is 62 s h h0]
  have hl := low_lt 62 s h h0
  have H := deB_all
  simp only [List.all_eq_true, List.mem_range, decide_eq_true_eq] at H
  rw [H _ (by omega)]
def asInts (l : List Nat) : List Int := l.map (fun (n : Nat) => (n : Int))
theorem listed_ev (s : Nat) (h : s < 2 ^ 62) : Ev (fun k => impl_set_listed.f k (s : Int)) (asInts (bl 62 0 s)) := by
  have key : ∀ n (s : Nat) (acc : List Int), (bl 62 0 s).length = n → s < 2 ^ 62 → acc.length + n ≤ 62 → Ev (fun k => impl_set_listed.l0 k (s : Int) acc) (acc ++ asInts (bl 62 0 s)) := by
    intro n
    induction n with
    | zero =>
      intro s acc hn hs ha
      by_cases h0 : s = 0
      · subst h0
        rw [bl_zero]
        exact Ev.step (fun k => by simp only [impl_set_listed.l0]; rw [if_neg (by omega)]) (Ev.const (by simp [asInts]))
      · rw [bl_low 62 0 s hs h0] at hn
        simp at hn
    | succ n ih =>
      intro s acc hn hs ha
      have h0 : s ≠ 0 := fun h0 => by rw [h0, bl_zero] at hn; simp at hn
      have hb := bl_low 62 0 s hs h0
      rw [hb] at hn ⊢
      have hle := Nat.and_le_left (n := s) (m := s - 1)
      have h1 := ih (s &&& (s - 1)) (acc ++ [((low 62 s : Nat) : Int)]) (by simpa using hn) (by omega) (by simp; omega)
      refine Ev.step (f := fun k => impl_set_listed.l0 k ((s &&& (s - 1) : Nat) : Int) (acc ++ [((low 62 s : Nat) : Int)])) (fun k => ?_) (by rw [List.append_assoc] at h1; simpa [asInts] using h1)
      simp only [impl_set_listed.l0]
      rw [if_pos (by omega), tz_is s hs h0, Option.bind_some, if_pos (by omega), show (s : Int) - 1 = ((s - 1 : Nat) : Int) by omega, wu64 _ (by omega) (by omega), andu _ _ (by omega) (by omega)]
  have := key _ s [] rfl h (by simpa using bl_len 62 0 s)
  rw [List.nil_append] at this
  exact this
/-- A figure's lists, out of its set: the level edges, and the upright ones. -/
def listA (L m : Nat) : List Int := asInts ((List.range L).filter (fun i => m.testBit i))
def listB (L U m : Nat) : List Int := asInts ((List.range U).filter (fun i => m.testBit (L + i)))
theorem filter_range (n N : Nat) (h : n ≤ N) (p : Nat → Bool) : (List.range N).filter (fun i => p i && decide (i < n)) = (List.range n).filter p := by
  obtain ⟨d, rfl⟩ : ∃ d, N = n + d := ⟨N - n, by omega⟩
  rw [List.range_add, List.filter_append]
  have e1 : (List.range n).filter (fun i => p i && decide (i < n)) = (List.range n).filter p := List.filter_congr (fun i hi => by rw [decide_eq_true (List.mem_range.1 hi), Bool.and_true])
  have e2 : ((List.range d).map (n + ·)).filter (fun i => p i && decide (i < n)) = [] := by
    rw [List.filter_eq_nil_iff]
    intro i hi
    obtain ⟨j, _, rfl⟩ := List.mem_map.1 hi
    simp
  rw [e1, e2, List.append_nil]
theorem listed_A (L m : Nat) (hL : L ≤ 62) : asInts (bl 62 0 (m &&& (2 ^ L - 1))) = listA L m := by
  unfold listA
  rw [bl_filter, ← List.range_eq_range', ← filter_range L 62 hL (fun i => m.testBit i)]
  congr 1
  apply List.filter_congr
  intro i _
  rw [Nat.sub_zero, Nat.testBit_and, Nat.testBit_two_pow_sub_one]
theorem listed_B (L U m : Nat) (hU : U ≤ 62) (hm : m < 2 ^ (L + U)) : asInts (bl 62 0 (m >>> L)) = listB L U m := by
  unfold listB
  rw [bl_filter, ← List.range_eq_range', ← filter_range U 62 hU (fun i => m.testBit (L + i))]
  congr 1
  apply List.filter_congr
  intro i _
  rw [Nat.sub_zero, Nat.testBit_shiftRight]
  by_cases hi : i < U
  · simp [hi]
  · have : m.testBit (L + i) = false := Nat.testBit_lt_two_pow (Nat.lt_of_lt_of_le hm (Nat.pow_le_pow_right (by decide) (by omega)))
    simp [this]
theorem shr_is (m L : Nat) (hm : m < 2 ^ 63) (hL : L < 64) : Go.Proofs.YtmlkihaoeopobaaDoorW.PrintWords.shr .u64 (m : Int) (L : Int) = ((m >>> L : Nat) : Int) := by
  unfold Go.Proofs.YtmlkihaoeopobaaDoorW.PrintWords.shr
  rw [Int.toNat_natCast, Nat.shiftRight_eq_div_pow]
  rw [Nat.min_eq_left (by show L ≤ 64; omega)]
  simp

/-! ### how long a figure's lists are -/
theorem asInts_len (l : List Nat) : (asInts l).length = l.length := by simp [asInts]
theorem listA_len (L m : Nat) : (listA L m).length ≤ L := by
  unfold listA
  rw [asInts_len]
  exact Nat.le_trans (List.length_filter_le _ _) (by simp)
theorem listB_len (L U m : Nat) : (listB L U m).length ≤ U := by
  unfold listB
  rw [asInts_len]
  exact Nat.le_trans (List.length_filter_le _ _) (by simp)

/-! ### a figure out of its set -/
theorem figure_ev (W H m : Nat) (hW : 1 ≤ W ∧ W ≤ 4) (hH : 1 ≤ H ∧ H ≤ 4) (hm : m < 2 ^ (W * (H + 1) + (W + 1) * H)) : Ev (fun k => impl_grid_figure.f k W H (m : Int)) ((W : Int), (H : Int), listA (W * (H + 1)) m, listB (W * (H + 1)) ((W + 1) * H) m) := by
  have B := grid_bounds (w := W) (h := H) (by omega) (by omega)
  have hl := levels_is (w := W) (h := H) (by omega) (by omega)
  have eL : (W : Int) * ((H : Int) + 1) = ((W * (H + 1) : Nat) : Int) := by simp
  have eU : ((W : Int) + 1) * (H : Int) = (((W + 1) * H : Nat) : Int) := by simp
  rw [eL] at hl
  rw [eL, eU] at B
  have hp : 2 ^ (W * (H + 1) + (W + 1) * H) ≤ 2 ^ 40 := Nat.pow_le_pow_right (by decide) (by omega)
  have hpL : 2 ^ (W * (H + 1)) ≤ 2 ^ 20 := Nat.pow_le_pow_right (by decide) (by omega)
  have hpp : 0 < 2 ^ (W * (H + 1)) := Nat.two_pow_pos _
  unfold impl_grid_figure.f
  obtain ⟨L, hLd⟩ : ∃ L, W * (H + 1) = L := ⟨_, rfl⟩
  obtain ⟨U, hUd⟩ : ∃ U, (W + 1) * H = U := ⟨_, rfl⟩
  rw [hLd] at hl hp hpL hpp hm B ⊢
  rw [hUd] at hp hm B ⊢
  have hs : Go.Proofs.YtmlkihaoeopobaaDoorW.PrintWords.shl .u64 1 (L : Int) = ((2 ^ L : Nat) : Int) := by rw [shlu _ (by omega) (by omega), Int.toNat_natCast]
  refine Ev.bind (Ev.const hl) (Ev.congr (fun k => if_pos (by omega)) ?_)
  rw [hs, show ((2 ^ L : Nat) : Int) - 1 = ((2 ^ L - 1 : Nat) : Int) by omega, wu64 _ (by omega) (by omega), andu _ _ (by omega) (by omega)]
  have hle := Nat.and_le_left (n := m) (m := 2 ^ L - 1)
  have ea := listed_ev (m &&& (2 ^ L - 1)) (by omega)
  rw [listed_A L m (by omega)] at ea
  refine Ev.bind ea (Ev.bind (Ev.const hl) (Ev.congr (fun k => if_pos (by omega)) ?_))
  rw [shr_is m L (by omega) (by omega)]
  have hsr : m >>> L ≤ m := by rw [Nat.shiftRight_eq_div_pow]; exact Nat.div_le_self _ _
  have eb := listed_ev (m >>> L) (by omega)
  rw [listed_B L U m (by omega) hm] at eb
  exact Ev.bind eb (Ev.now _)

/-! ### the reference's insertion of a match -/
theorem foldl_bit {σ : Type} (f : Nat → σ → Nat) (q : σ → Nat → Bool) (hf : ∀ M x j, (f M x).testBit j = (M.testBit j || q x j)) (j : Nat) : ∀ (l : List σ) (M : Nat), (l.foldl f M).testBit j = (M.testBit j || l.any (fun x => q x j))
  | [], M => by simp
  | x :: l, M => by rw [List.foldl_cons, foldl_bit f q hf j l, hf, List.any_cons, Bool.or_assoc]
theorem range_split (L n : Nat) (hn : n < L) : List.range L = List.range n ++ (n :: List.range' (n + 1) (L - (n + 1))) := by
  have h := List.range'_append_1 (s := 0) (m := n) (n := L - n)
  rw [List.range_eq_range', List.range_eq_range', ← List.range'_succ, show L - (n + 1) + 1 = L - n by omega, show L = n + (L - n) by omega, ← h]
  simp
theorem l1Put_ev (L n : Nat) (p : Nat → Bool) (hL : L ≤ 1000) (hn : n < L) (hp : p n = false) : Ev (fun k => spec_l1Put.f k (asInts ((List.range L).filter p)) (n : Int)) (asInts ((List.range L).filter (fun i => p i || decide (n = i)))) := by
  obtain ⟨A, hA⟩ : ∃ A, (List.range n).filter p = A := ⟨_, rfl⟩
  obtain ⟨B, hB⟩ : ∃ B, (List.range' (n + 1) (L - (n + 1))).filter p = B := ⟨_, rfl⟩
  have e1 : (List.range L).filter p = A ++ B := by
    rw [range_split L n hn, List.filter_append, List.filter_cons, if_neg (by simp [hp]), hA, hB]
  have e2 : (List.range L).filter (fun i => p i || decide (n = i)) = A ++ n :: B := by
    rw [range_split L n hn, List.filter_append, List.filter_cons, if_pos (by simp), ← hA, ← hB]
    congr 1
    · exact List.filter_congr (fun i hi => by have := List.mem_range.1 hi; rw [decide_eq_false (by omega), Bool.or_false])
    · congr 1
      exact List.filter_congr (fun i hi => by rw [List.mem_range'_1] at hi; rw [decide_eq_false (by omega), Bool.or_false])
  have hlA : A.length ≤ n := by rw [← hA]; exact Nat.le_trans (List.length_filter_le _ _) (by simp)
  have hlB : B.length ≤ L := by rw [← hB]; exact Nat.le_trans (List.length_filter_le _ _) (by simp)
  have lo : ∀ i (h : i < A.length), A[i] < n := fun i h => by
    have h2 : A[i] ∈ (List.range n).filter p := by rw [hA]; exact List.getElem_mem h
    exact List.mem_range.1 (List.mem_filter.1 h2).1
  have hi : ∀ x ∈ B, n < x := fun x h => by
    rw [← hB] at h
    have h3 := (List.mem_filter.1 h).1
    rw [List.mem_range'_1] at h3
    omega
  rw [e1, e2]
  have hc : asInts (A ++ B) = asInts A ++ asInts B := by simp [asInts]
  have hc2 : asInts (A ++ n :: B) = asInts A ++ [(n : Int)] ++ asInts B := by simp [asInts]
  rw [hc, hc2]
  have la : (asInts A).length = A.length := by simp [asInts]
  have lb : (asInts B).length = B.length := by simp [asInts]
  have t : (asInts A ++ asInts B).take A.length = asInts A := by rw [← la, List.take_left]
  have dr : (asInts A ++ asInts B).drop A.length = asInts B := by rw [← la, List.drop_left]
  have key : ∀ d j, A.length - j = d → j ≤ A.length → Ev (fun k => spec_l1Put.l0 k (asInts A ++ asInts B) (n : Int) (j : Int)) (asInts A ++ [(n : Int)] ++ asInts B) := by
    intro d
    induction d with
    | zero =>
      intro j h1 h2
      obtain rfl : j = A.length := by omega
      refine Ev.step (f := fun _ => some (asInts A ++ [(n : Int)] ++ asInts B)) (fun k => ?_) (Ev.now _)
      simp only [spec_l1Put.l0, Int.toNat_natCast, t, dr, Option.bind_some, List.nil_append, List.length_append, List.length_nil, List.length_cons, la, lb]
      cases hBc : B with
      | nil =>
        rw [hBc] at hlB
        rw [if_neg (by simp), if_pos (by omega), if_pos (by simp), if_pos (by omega), if_pos (by omega), if_pos (by simp; omega)]
      | cons x B' =>
        have hx := hi x (by rw [hBc]; simp)
        have hr : rd (asInts A ++ asInts (x :: B')) (A.length : Int) = (x : Int) := by
          unfold rd
          rw [Int.toNat_natCast, List.getD_eq_getElem?_getD, ← la, List.getElem?_append_right (by omega)]
          simp [asInts]
        rw [hBc] at hlB
        rw [hr, if_pos (by simp; omega), if_pos (by omega), if_neg (by omega), if_neg (by omega), if_pos (by simp; omega), if_pos (by omega), if_pos (by omega), if_pos (by omega)]
    | succ d ih =>
      intro j h1 h2
      refine Ev.step (fun k => ?_) (ih (j + 1) (by omega) (by omega))
      have hj : j < A.length := by omega
      have hr : rd (asInts A ++ asInts B) (j : Int) = (A[j] : Int) := by
        unfold rd
        rw [Int.toNat_natCast, List.getD_eq_getElem?_getD, List.getElem?_append_left (by omega)]
        simp [asInts, hj]
      have := lo j hj
      simp only [spec_l1Put.l0]
      rw [hr, if_pos (by rw [List.length_append, la, lb]; omega), if_pos (by omega), if_pos (by omega), w64 (by omega) (by omega)]
      rfl
  have := key A.length 0 (by omega) (by omega)
  exact this
theorem fiOwn_is (w h : Int) (a b : List Int) (ha : a.length ≤ 1000000) (hb : b.length ≤ 1000000) : spec_fiOwn.f w h a b = some (w, h, a, b) := by
  unfold spec_fiOwn.f spec_l1Own.f
  simp only [Option.bind_some, List.nil_append, List.length_nil]
  rw [if_pos (by omega), Option.bind_some, if_pos (by omega), Option.bind_some]
theorem any_range (L : Nat) (p : Nat → Bool) (n : Nat) (h : n < L) : (asInts ((List.range L).filter p)).any (fun z => decide (z = (n : Int))) = p n := by
  rw [Bool.eq_iff_iff, List.any_eq_true]
  unfold asInts
  constructor
  · rintro ⟨z, hz, he⟩
    obtain ⟨i, hi, rfl⟩ := List.mem_map.1 hz
    have := (List.mem_filter.1 hi).2
    have e : i = n := by have := of_decide_eq_true he; omega
    rwa [e] at this
  · intro hp
    exact ⟨_, List.mem_map.2 ⟨n, List.mem_filter.2 ⟨List.mem_range.2 h, hp⟩, rfl⟩, by simp⟩
theorem or_pow_same (M e : Nat) (h : M.testBit e = true) : M ||| 2 ^ e = M := by
  apply Nat.eq_of_testBit_eq
  intro i
  rw [Nat.testBit_or, testBit_pow]
  by_cases he : e = i
  · subst he; simp [h]
  · simp [he]
theorem fiPut_ev (W H M : Nat) (hW : 1 ≤ W ∧ W ≤ 4) (hH : 1 ≤ H ∧ H ≤ 4) (u : Bool) (x y : Int) (hi : edgeIn W H u x y = true) : Ev (fun k => spec_fiPut.f k W H (listA (W * (H + 1)) M) (listB (W * (H + 1)) ((W + 1) * H) M) u x y) ((W : Int), (H : Int), listA (W * (H + 1)) (M ||| 2 ^ (edgeOff W H u + edgeNo W u x y).toNat), listB (W * (H + 1)) ((W + 1) * H) (M ||| 2 ^ (edgeOff W H u + edgeNo W u x y).toNat)) := by
  have hw : (1 : Int) ≤ W ∧ (W : Int) ≤ 4 := by omega
  have hh : (1 : Int) ≤ H ∧ (H : Int) ≤ 4 := by omega
  have B := grid_bounds hw hh
  have eb := edge_bounds hw hh hi
  have eL : (W : Int) * ((H : Int) + 1) = ((W * (H + 1) : Nat) : Int) := by simp
  have eU : ((W : Int) + 1) * (H : Int) = (((W + 1) * H : Nat) : Int) := by simp
  have lA := listA_len (W * (H + 1)) M
  have lB := listB_len (W * (H + 1)) ((W + 1) * H) M
  unfold edgeOff
  rw [eL] at B ⊢
  rw [eL, eU] at eb
  rw [eU] at B
  obtain ⟨n, hn⟩ := Int.eq_ofNat_of_zero_le eb.1
  unfold spec_fiPut.f
  refine Ev.bind (Ev.const (fiOwn_is W H _ _ (by omega) (by omega))) (Ev.bind (Ev.const (fiEdge_is hw hh _ _ hi)) (Ev.bind (fiHas_ev hw hh _ _ (by omega) (by omega) hi) ?_))
  unfold hasE
  rw [hn] at eb ⊢
  obtain ⟨L, hLd⟩ : ∃ L, W * (H + 1) = L := ⟨_, rfl⟩
  obtain ⟨U, hUd⟩ : ∃ U, (W + 1) * H = U := ⟨_, rfl⟩
  rw [hLd] at eb lA lB B ⊢
  rw [hUd] at eb lB B ⊢
  cases u with
  | true =>
    simp only [if_true] at eb ⊢
    have hnU : n < U := by omega
    rw [show ((L : Int) + (n : Int)).toNat = L + n by omega]
    unfold listB
    rw [any_range U _ n hnU]
    have eA : listA L (M ||| 2 ^ (L + n)) = listA L M := by
      unfold listA
      congr 1
      exact List.filter_congr (fun i hi => by have := List.mem_range.1 hi; rw [Nat.testBit_or, testBit_pow, decide_eq_false (by omega), Bool.or_false])
    have eB : (List.range U).filter (fun i => (M ||| 2 ^ (L + n)).testBit (L + i)) = (List.range U).filter (fun i => M.testBit (L + i) || decide (n = i)) :=
      List.filter_congr (fun i hi => by rw [Nat.testBit_or, testBit_pow]; congr 1; rw [decide_eq_decide]; omega)
    rw [eA]
    cases hp : M.testBit (L + n) with
    | true =>
      rw [or_pow_same M _ hp]
      exact Ev.now _
    | false =>
      rw [eB]
      simp only [Bool.false_eq_true, if_false]
      exact Ev.bind (l1Put_ev U n (fun i => M.testBit (L + i)) (by omega) hnU hp) (Ev.now _)
  | false =>
    simp only [Bool.false_eq_true, if_false] at eb ⊢
    have hnL : n < L := by omega
    rw [show ((0 : Int) + (n : Int)).toNat = n by omega]
    have eA : (List.range L).filter (fun i => (M ||| 2 ^ n).testBit i) = (List.range L).filter (fun i => M.testBit i || decide (n = i)) :=
      List.filter_congr (fun i hi => by rw [Nat.testBit_or, testBit_pow])
    have eB : listB L U (M ||| 2 ^ n) = listB L U M := by
      unfold listB
      congr 1
      exact List.filter_congr (fun i hi => by rw [Nat.testBit_or, testBit_pow, decide_eq_false (by omega), Bool.or_false])
    rw [eB]
    unfold listA
    rw [any_range L _ n hnL]
    cases hp : M.testBit n with
    | true =>
      rw [or_pow_same M _ hp]
      exact Ev.now _
    | false =>
      rw [eA]
      simp only [Bool.false_eq_true, if_false]
      exact Ev.bind (l1Put_ev L n (fun i => M.testBit i) (by omega) hnL hp) (Ev.now _)
/-! ### a figure whose edges are led elsewhere: by places (y, x) or by the lists -/
section
variable (EA EB : Nat → Nat → Nat)
def putA (W : Nat) (a : List Int) (M y x : Nat) : Nat := if (decide (x < W) && a.any (fun z => decide (z = ((y * W + x : Nat) : Int)))) = true then M ||| 2 ^ EA y x else M
def putB (W H : Nat) (b : List Int) (M y x : Nat) : Nat := if (decide (y < H) && b.any (fun z => decide (z = ((y * (W + 1) + x : Nat) : Int)))) = true then M ||| 2 ^ EB y x else M
def putRow (W H : Nat) (a b : List Int) (M y : Nat) : Nat := (List.range' 0 (W + 1)).foldl (fun M x => putB EB W H b (putA EA W a M y x) y x) M
def putAll (W H : Nat) (a b : List Int) : Nat := (List.range' 0 (H + 1)).foldl (putRow EA EB W H a b) 0
def ledAll (W : Nat) (a b : List Int) : Nat := b.foldl (fun m z => m ||| 2 ^ EB (z.toNat / (W + 1)) (z.toNat % (W + 1))) (a.foldl (fun m z => m ||| 2 ^ EA (z.toNat / W) (z.toNat % W)) 0)
theorem putA_bit (W : Nat) (a : List Int) (M y x j : Nat) : (putA EA W a M y x).testBit j = (M.testBit j || (decide (x < W) && a.any (fun z => decide (z = ((y * W + x : Nat) : Int))) && decide (EA y x = j))) := by
  unfold putA
  split
  · rename_i h
    rw [Nat.testBit_or, testBit_pow, h, Bool.true_and]
  · rename_i h
    rw [Bool.not_eq_true] at h
    rw [h, Bool.false_and, Bool.or_false]
theorem putB_bit (W H : Nat) (b : List Int) (M y x j : Nat) : (putB EB W H b M y x).testBit j = (M.testBit j || (decide (y < H) && b.any (fun z => decide (z = ((y * (W + 1) + x : Nat) : Int))) && decide (EB y x = j))) := by
  unfold putB
  split
  · rename_i h
    rw [Nat.testBit_or, testBit_pow, h, Bool.true_and]
  · rename_i h
    rw [Bool.not_eq_true] at h
    rw [h, Bool.false_and, Bool.or_false]
theorem led_eq (W H : Nat) (hW : 1 ≤ W) (a b : List Int) (ha : ∀ z ∈ a, 0 ≤ z ∧ z < ((W * (H + 1) : Nat) : Int)) (hb : ∀ z ∈ b, 0 ≤ z ∧ z < (((W + 1) * H : Nat) : Int)) : putAll EA EB W H a b = ledAll EA EB W a b := by
  apply Nat.eq_of_testBit_eq
  intro j
  have h1 := foldl_bit (putRow EA EB W H a b) (fun y j => (List.range' 0 (W + 1)).any (fun x => (decide (x < W) && a.any (fun z => decide (z = ((y * W + x : Nat) : Int))) && decide (EA y x = j)) || (decide (y < H) && b.any (fun z => decide (z = ((y * (W + 1) + x : Nat) : Int))) && decide (EB y x = j))))
    (fun M y j => foldl_bit (fun M x => putB EB W H b (putA EA W a M y x) y x) (fun x j => (decide (x < W) && a.any (fun z => decide (z = ((y * W + x : Nat) : Int))) && decide (EA y x = j)) || (decide (y < H) && b.any (fun z => decide (z = ((y * (W + 1) + x : Nat) : Int))) && decide (EB y x = j))) (fun M x j => by rw [putB_bit, putA_bit, Bool.or_assoc]) j (List.range' 0 (W + 1)) M) j (List.range' 0 (H + 1)) 0
  have h2 : (ledAll EA EB W a b).testBit j = ((0 : Nat).testBit j || a.any (fun z => decide (EA (z.toNat / W) (z.toNat % W) = j)) || b.any (fun z => decide (EB (z.toNat / (W + 1)) (z.toNat % (W + 1)) = j))) := by
    unfold ledAll
    rw [foldl_bit (fun m (z : Int) => m ||| 2 ^ EB (z.toNat / (W + 1)) (z.toNat % (W + 1))) (fun z j => decide (EB (z.toNat / (W + 1)) (z.toNat % (W + 1)) = j)) (fun M x j => by rw [Nat.testBit_or, testBit_pow]) j b,
      foldl_bit (fun m (z : Int) => m ||| 2 ^ EA (z.toNat / W) (z.toNat % W)) (fun z j => decide (EA (z.toNat / W) (z.toNat % W) = j)) (fun M x j => by rw [Nat.testBit_or, testBit_pow]) j a]
  unfold putAll
  rw [h1, h2, Nat.zero_testBit, Bool.false_or, Bool.false_or, Bool.eq_iff_iff]
  simp only [List.any_eq_true, Bool.or_eq_true, Bool.and_eq_true, decide_eq_true_eq]
  constructor
  · rintro ⟨y, hy, x, hx, ⟨⟨hxW, z, hz, rfl⟩, he⟩ | ⟨⟨hyH, z, hz, rfl⟩, he⟩⟩
    · refine .inl ⟨_, hz, ?_⟩
      rw [Int.toNat_natCast, Nat.mul_comm, Nat.mul_add_div (by omega), Nat.div_eq_of_lt hxW, Nat.add_zero, Nat.mul_add_mod, Nat.mod_eq_of_lt hxW]
      exact he
    · have hxW : x < W + 1 := by rw [List.mem_range'_1] at hx; omega
      refine .inr ⟨_, hz, ?_⟩
      rw [Int.toNat_natCast, Nat.mul_comm y, Nat.mul_add_div (by omega), Nat.div_eq_of_lt hxW, Nat.add_zero, Nat.mul_add_mod, Nat.mod_eq_of_lt hxW]
      exact he
  · rintro (⟨z, hz, he⟩ | ⟨z, hz, he⟩)
    · obtain ⟨n, rfl⟩ := Int.eq_ofNat_of_zero_le (ha z hz).1
      have hn : n < W * (H + 1) := by have := (ha _ hz).2; omega
      rw [Int.toNat_natCast] at he
      refine ⟨n / W, ?_, n % W, ?_, .inl ⟨⟨Nat.mod_lt _ (by omega), _, hz, ?_⟩, he⟩⟩
      · rw [List.mem_range'_1]
        exact ⟨Nat.zero_le _, by rw [Nat.zero_add]; exact Nat.div_lt_of_lt_mul hn⟩
      · have := Nat.mod_lt n (show 0 < W by omega)
        rw [List.mem_range'_1]
        omega
      · rw [Nat.mul_comm, Nat.div_add_mod]
    · obtain ⟨n, rfl⟩ := Int.eq_ofNat_of_zero_le (hb z hz).1
      have hn : n < (W + 1) * H := by have := (hb _ hz).2; omega
      rw [Int.toNat_natCast] at he
      have hd := Nat.div_lt_of_lt_mul hn
      refine ⟨n / (W + 1), ?_, n % (W + 1), ?_, .inr ⟨⟨hd, _, hz, ?_⟩, he⟩⟩
      · rw [List.mem_range'_1]
        exact ⟨Nat.zero_le _, by rw [Nat.zero_add]; exact Nat.lt_succ_of_lt hd⟩
      · have := Nat.mod_lt n (show 0 < W + 1 by omega)
        rw [List.mem_range'_1]
        omega
      · rw [Nat.mul_comm (n / (W + 1)), Nat.div_add_mod]
theorem putA_lt (W : Nat) (a : List Int) (M y x N : Nat) (hM : M < 2 ^ N) (h : x < W → EA y x < N) : putA EA W a M y x < 2 ^ N := by
  unfold putA
  split
  · rename_i hc
    simp only [Bool.and_eq_true, decide_eq_true_eq] at hc
    exact Nat.or_lt_two_pow hM (Nat.pow_lt_pow_right (by decide) (h hc.1))
  · exact hM
theorem putB_lt (W H : Nat) (b : List Int) (M y x N : Nat) (hM : M < 2 ^ N) (h : y < H → EB y x < N) : putB EB W H b M y x < 2 ^ N := by
  unfold putB
  split
  · rename_i hc
    simp only [Bool.and_eq_true, decide_eq_true_eq] at hc
    exact Nat.or_lt_two_pow hM (Nat.pow_lt_pow_right (by decide) (h hc.1))
  · exact hM
end

/-! ### what the laws write into a list, and read back -/
theorem eqIntS_ev (l : List Int) (hl : l.length ≤ 1000000) : Ev (fun k => laws_eqIntS.f k l l) true := by
  unfold laws_eqIntS.f
  simp only [if_true]
  exact (all_evB (fun k i => laws_eqIntS.l0 k l l i) (fun _ => true) 0 l.length
    (fun i r _ hi _ hr => Ev.step (fun k => by simp only [laws_eqIntS.l0]; rw [if_pos (by omega), if_pos (by omega), if_pos (by omega), if_pos trivial, w64 (by omega) (by omega)]; rfl) hr)
    (fun i _ hi hp => by simp at hp)
    (fun i hi _ => Ev.step (fun k => by simp only [laws_eqIntS.l0]; rw [if_neg (by omega)]) (Ev.now true))) |> fun h => by
      have e : ((List.range' 0 (l.length - 0)).all fun _ => true) = true := by simp
      rw [e] at h
      exact h
/-- The first i cells written. -/
def inked (l : List Int) (a : Int) (i : Nat) : List Int := (List.range l.length).map (fun j => if j < i then a + (j : Int) else rd l (j : Int))
theorem inked_len (l a i) : (inked l a i).length = l.length := by simp [inked]
theorem inked_get (l : List Int) (a : Int) (i j : Nat) (h : j < (inked l a i).length) : (inked l a i)[j] = if j < i then a + (j : Int) else rd l (j : Int) := by simp [inked]
theorem inked_set (l : List Int) (a : Int) (i : Nat) : (inked l a i).set i (a + (i : Int)) = inked l a (i + 1) := by
  apply List.ext_getElem
  · rw [List.length_set, inked_len, inked_len]
  · intro j h1 h2
    rw [List.getElem_set, inked_get, inked_get]
    by_cases hj : i = j
    · subst hj
      rw [if_pos rfl, if_pos (by omega)]
    · rw [if_neg hj]
      by_cases hji : j < i
      · rw [if_pos hji, if_pos (by omega)]
      · rw [if_neg hji, if_neg (by omega)]
theorem inked_zero (l : List Int) (a : Int) : inked l a 0 = l := by
  apply List.ext_getElem
  · rw [inked_len]
  · intro j h1 h2
    rw [inked_get, if_neg (by omega), rd_nat l j h2]
theorem markIntS_ev (l : List Int) (a : Int) (hl : l.length ≤ 1000000) (h0 : 0 ≤ a) (h1 : a ≤ 10000000) : Ev (fun k => laws_markIntS.f k l a) (a + (l.length : Int), inked l a l.length) := by
  have key : ∀ d i, l.length - i = d → i ≤ l.length → Ev (fun k => laws_markIntS.l0 k (inked l a i) (a + (i : Int)) (i : Int)) (a + (l.length : Int), inked l a l.length) := by
    intro d
    induction d with
    | zero =>
      intro i h hi
      obtain rfl : i = l.length := by omega
      exact Ev.step (fun k => by simp only [laws_markIntS.l0]; rw [inked_len, if_neg (by omega)]) (Ev.now _)
    | succ d ih =>
      intro i h hi
      refine Ev.step (fun k => ?_) (ih (i + 1) (by omega) (by omega))
      simp only [laws_markIntS.l0]
      rw [inked_len, if_pos (by omega), if_pos (by omega), Int.toNat_natCast, inked_set, w64 (by omega) (by omega), w64 (by omega) (by omega), Int.add_assoc]
      rfl
  have := key l.length 0 (by omega) (by omega)
  rw [inked_zero] at this
  unfold laws_markIntS.f
  simpa using this
theorem heldIntS_ev (l : List Int) (a : Int) (hl : l.length ≤ 1000000) (h0 : 0 ≤ a) (h1 : a ≤ 10000000) : Ev (fun k => laws_heldIntS.f k (inked l a l.length) a) (a + (l.length : Int)) := by
  have key : ∀ d i, l.length - i = d → i ≤ l.length → Ev (fun k => laws_heldIntS.l0 k (inked l a l.length) (a + (i : Int)) (i : Int)) (a + (l.length : Int)) := by
    intro d
    induction d with
    | zero =>
      intro i h hi
      obtain rfl : i = l.length := by omega
      exact Ev.step (fun k => by simp only [laws_heldIntS.l0]; rw [inked_len, if_neg (by omega)]) (Ev.now _)
    | succ d ih =>
      intro i h hi
      refine Ev.step (fun k => ?_) (ih (i + 1) (by omega) (by omega))
      have hr : rd (inked l a l.length) (i : Int) = a + (i : Int) := by
        rw [rd_nat _ i (by rw [inked_len]; omega), inked_get, if_pos (by omega)]
      simp only [laws_heldIntS.l0]
      rw [inked_len, if_pos (by omega), if_pos (by omega), if_pos hr, w64 (by omega) (by omega), w64 (by omega) (by omega), Int.add_assoc]
      rfl
  have := key l.length 0 (by omega) (by omega)
  unfold laws_heldIntS.f
  simpa using this

/-! ### figures that come out -/
theorem eqFigure_ev (w h : Int) (a b : List Int) (ha : a.length ≤ 1000000) (hb : b.length ≤ 1000000) : Ev (fun k => laws_eqFigure.f k w h a b w h a b) true := by
  unfold laws_eqFigure.f
  simp only [if_true]
  exact Ev.bind (eqIntS_ev a ha) (Ev.congr (fun k => if_pos rfl) (Ev.bind (eqIntS_ev b hb) (Ev.const rfl)))
theorem markFigure_is (w h : Int) (a b : List Int) (ha : a.length ≤ 1000000) (hb : b.length ≤ 1000000) : Ev (fun k => laws_markFigure.f k w h a b 101) ((101 + (a.length : Int) + (b.length : Int)), inked a 101 a.length, inked b (101 + (a.length : Int)) b.length) := by
  unfold laws_markFigure.f
  exact Ev.bind (markIntS_ev a 101 ha (by omega) (by omega)) (Ev.bind (markIntS_ev b (101 + (a.length : Int)) hb (by omega) (by omega)) (Ev.now _))
theorem heldFigure_ev (w h : Int) (a b : List Int) (ha : a.length ≤ 1000000) (hb : b.length ≤ 1000000) : Ev (fun k => laws_heldFigure.f k w h (inked a 101 a.length) (inked b (101 + (a.length : Int)) b.length) 101) (101 + (a.length : Int) + (b.length : Int)) := by
  unfold laws_heldFigure.f
  refine Ev.bind (heldIntS_ev a 101 ha (by omega) (by omega)) (Ev.congr (fun k => if_neg (by omega)) (Ev.bind (heldIntS_ev b (101 + (a.length : Int)) hb (by omega) (by omega)) (Ev.const ?_)))
  rw [if_neg (by omega)]

set_option linter.unusedSectionVars false
def tell (l : List Int) (x : Int) : Bool := l.any (fun z => decide (z = x))
theorem index_ev (l : List Int) (hl : l.length ≤ 9223372036854775807) (x : Int) : ∃ r : Int, decide (r ≥ 0) = tell l x ∧ Ev (fun k => slices_Index_int_int.f k l x) r := by
  have key : ∀ d (i : Nat), l.length - i = d → i ≤ l.length → ∃ r : Int, decide (r ≥ 0) = tell (l.drop i) x ∧ Ev (fun k => slices_Index_int_int.l0 k l x (l.length : Int) (i : Int)) r := by
    intro d
    induction d with
    | zero =>
      intro i h1 h2
      refine ⟨-1, ?_, Ev.step (f := fun _ => some (-1)) (fun k => by simp only [slices_Index_int_int.l0]; rw [if_neg (by omega)]) (Ev.now _)⟩
      rw [List.drop_eq_nil_of_le (by omega)]; rfl
    | succ d ih =>
      intro i h1 h2
      have hi : i < l.length := by omega
      have ed := List.drop_eq_getElem_cons hi
      by_cases hx : x = l[i]
      · refine ⟨i, ?_, Ev.step (f := fun _ => some (i : Int)) (fun k => by simp only [slices_Index_int_int.l0]; rw [if_pos (by omega), if_pos (by omega), if_pos (by omega), rd_nat l i hi, if_pos hx]) (Ev.now _)⟩
        rw [ed]
        unfold tell
        rw [List.any_cons, hx, decide_eq_true rfl, Bool.true_or]
        simp
      · obtain ⟨r, hr, he⟩ := ih (i + 1) (by omega) (by omega)
        refine ⟨r, ?_, Ev.step (fun k => by simp only [slices_Index_int_int.l0]; rw [if_pos (by omega), if_pos (by omega), if_pos (by omega), rd_nat l i hi, if_neg hx, w64 (by omega) (by omega)]; rfl) he⟩
        rw [hr, ed]
        unfold tell
        rw [List.any_cons, decide_eq_false (Ne.symm hx), Bool.false_or]
  obtain ⟨r, hr, he⟩ := key _ 0 rfl (by omega)
  exact ⟨r, hr, he⟩
theorem contains_ev (l : List Int) (hl : l.length ≤ 9223372036854775807) (x : Int) : Ev (fun k => slices_Contains_int_int.f k l x) (tell l x) := by
  obtain ⟨r, hr, he⟩ := index_ev l hl x
  unfold slices_Contains_int_int.f
  exact Ev.bind he (Ev.const (by rw [hr]))
/-- The place of a cell's number in a grid with one more around it. -/
def posT (W : Nat) (z : Int) : Nat := ((z / W + 1) * (W + 2) + z % W + 1).toNat
/-- Which places are told. -/
def toldL (N : Nat) (ps : List Nat) : List Bool := (List.range N).map (fun j => ps.any (fun p => decide (p = j)))
theorem toldL_set (N : Nat) (ps : List Nat) (p : Nat) : (toldL N ps).set p true = toldL N (ps ++ [p]) := by
  apply List.ext_getElem
  · simp [toldL]
  · intro j h1 h2
    rw [List.getElem_set]
    by_cases hp : p = j
    · simp [toldL, hp]
    · simp [toldL, hp]
theorem toldL_rd (N : Nat) (ps : List Nat) (j : Nat) (h : j < N) : rdOf false (toldL N ps) (j : Int) = ps.any (fun p => decide (p = j)) := by
  unfold rdOf
  rw [Int.toNat_natCast]
  simp [toldL, List.getD_eq_getElem?_getD, h]
theorem told_ev (W H : Nat) (hW : 1 ≤ W ∧ W ≤ 4) (hH : 1 ≤ H ∧ H ≤ 4) (l : List Int) (hl : l.length ≤ 9223372036854775807) (hz : ∀ z ∈ l, 0 ≤ z ∧ z < (W : Int) * H) : Ev (fun k => spec_liTold.f k W H l) (toldL ((W + 2) * (H + 2)) (l.map (posT W))) := by
  have hN : 9 ≤ (W + 2) * (H + 2) ∧ (W + 2) * (H + 2) ≤ 36 := by
    have hW4 : W = 1 ∨ W = 2 ∨ W = 3 ∨ W = 4 := by omega
    have hH4 : H = 1 ∨ H = 2 ∨ H = 3 ∨ H = 4 := by omega
    rcases hW4 with rfl | rfl | rfl | rfl <;> rcases hH4 with rfl | rfl | rfl | rfl <;> omega
  have eN : ((W : Int) + 2) * ((H : Int) + 2) = (((W + 2) * (H + 2) : Nat) : Int) := by simp
  unfold spec_liTold.f
  rw [w64 (n := (W : Int) + 2) (by omega) (by omega), w64 (n := (H : Int) + 2) (by omega) (by omega), eN, w64 (n := (((W + 2) * (H + 2) : Nat) : Int)) (by omega) (by omega), Int.toNat_natCast]
  refine Ev.congr (fun k => (if_pos (by omega)).trans (if_pos (by omega))) ?_
  have e0 : List.replicate ((W + 2) * (H + 2)) false = toldL ((W + 2) * (H + 2)) ((l.take 0).map (posT W)) := by
    apply List.ext_getElem <;> simp [toldL]
  rw [e0]
  have key : ∀ d (i : Nat), l.length - i = d → i ≤ l.length → Ev (fun k => spec_liTold.l0 k W (toldL ((W + 2) * (H + 2)) ((l.take i).map (posT W))) l (l.length : Int) (i : Int)) (toldL ((W + 2) * (H + 2)) (l.map (posT W))) := by
    intro d
    induction d with
    | zero =>
      intro i h1 h2
      rw [List.take_of_length_le (by omega)]
      exact Ev.step (fun k => by simp only [spec_liTold.l0]; rw [if_neg (by omega)]) (Ev.now _)
    | succ d ih =>
      intro i h1 h2
      have hi : i < l.length := by omega
      have hx := hz l[i] (List.getElem_mem hi)
      have e1 : (l.take (i + 1)).map (posT W) = (l.take i).map (posT W) ++ [posT W l[i]] := by rw [List.take_succ_eq_append_getElem hi, List.map_append, List.map_cons, List.map_nil]
      have h3 := ih (i + 1) (by omega) (by omega)
      rw [e1, ← toldL_set] at h3
      refine Ev.step (fun k => ?_) h3
      simp only [spec_liTold.l0]
      have tm : Int.tmod l[i] (W : Int) = l[i] % (W : Int) := Int.tmod_eq_emod_of_nonneg hx.1
      have td : Int.tdiv l[i] (W : Int) = l[i] / (W : Int) := Int.tdiv_eq_ediv_of_nonneg hx.1
      have hp : (0 ≤ l[i] / (W : Int) ∧ l[i] / (W : Int) ≤ 16) ∧ 0 ≤ (l[i] / (W : Int) + 1) * ((W : Int) + 2) + l[i] % (W : Int) + 1 ∧ (l[i] / (W : Int) + 1) * ((W : Int) + 2) + l[i] % (W : Int) + 1 < (((W + 2) * (H + 2) : Nat) : Int) ∧ 0 ≤ (l[i] / (W : Int) + 1) * ((W : Int) + 2) ∧ 0 ≤ l[i] % (W : Int) ∧ l[i] % (W : Int) ≤ 4 := by
        generalize l[i] = z at *
        have hW4 : W = 1 ∨ W = 2 ∨ W = 3 ∨ W = 4 := by omega
        have hH4 : H = 1 ∨ H = 2 ∨ H = 3 ∨ H = 4 := by omega
        rcases hW4 with rfl | rfl | rfl | rfl <;> rcases hH4 with rfl | rfl | rfl | rfl <;> omega
      have hlen : ((toldL ((W + 2) * (H + 2)) ((l.take i).map (posT W))).length : Int) = (((W + 2) * (H + 2) : Nat) : Int) := by simp [toldL]
      rw [if_pos (by omega), if_pos (by omega), if_pos (by omega), if_neg (by omega), rd_nat l i hi, tm, td, hlen]
      unfold posT
      generalize l[i] / (W : Int) = q at *
      generalize l[i] % (W : Int) = r at *
      rw [w64 (n := q) (by omega) (by omega), w64 (n := q + 1) (by omega) (by omega), w64 (n := (W : Int) + 2) (by omega) (by omega), w64 (n := (q + 1) * ((W : Int) + 2)) (by omega) (by omega), w64 (n := (q + 1) * ((W : Int) + 2) + r) (by omega) (by omega), w64 (n := (q + 1) * ((W : Int) + 2) + r + 1) (by omega) (by omega), w64 (n := (i : Int) + 1) (by omega) (by omega), if_pos (by omega), if_pos (by omega)]
      rfl
  exact key _ 0 rfl (by omega)
/-- One place of the told ones is that of a cell. -/
theorem told_cell (W H : Nat) (hW : 1 ≤ W ∧ W ≤ 4) (hH : 1 ≤ H ∧ H ≤ 4) (l : List Int) (hz : ∀ z ∈ l, 0 ≤ z ∧ z < (W : Int) * H) (cx cy p : Int) (hx : -1 ≤ cx ∧ cx ≤ W) (hy : -1 ≤ cy ∧ cy ≤ H) (hp : p = (cy + 1) * ((W : Int) + 2) + cx + 1) :
    (0 ≤ p ∧ p < (((W + 2) * (H + 2) : Nat) : Int)) ∧ rdOf false (toldL ((W + 2) * (H + 2)) (l.map (posT W))) p = tell l (cellNo W H cx cy) := by
  have hb : 0 ≤ p ∧ p < (((W + 2) * (H + 2) : Nat) : Int) := by
    have hW4 : W = 1 ∨ W = 2 ∨ W = 3 ∨ W = 4 := by omega
    have hH4 : H = 1 ∨ H = 2 ∨ H = 3 ∨ H = 4 := by omega
    rcases hW4 with rfl | rfl | rfl | rfl <;> rcases hH4 with rfl | rfl | rfl | rfl <;> omega
  refine ⟨hb, ?_⟩
  obtain ⟨n, hn⟩ := Int.eq_ofNat_of_zero_le hb.1
  rw [hn, toldL_rd _ _ n (by omega), Bool.eq_iff_iff]
  unfold tell
  simp only [List.any_eq_true, decide_eq_true_eq]
  have hm1 : (∃ x, x ∈ l.map (posT W) ∧ x = n) ↔ ∃ z, z ∈ l ∧ posT W z = n := by
    constructor
    · rintro ⟨x, hx, rfl⟩
      exact List.mem_map.1 hx
    · rintro ⟨z, hm, rfl⟩
      exact ⟨_, List.mem_map.2 ⟨z, hm, rfl⟩, rfl⟩
  rw [hm1]
  apply exists_congr
  intro z
  apply and_congr_right
  intro hm
  have hx2 := hz z hm
  unfold posT cellNo
  have hW4 : W = 1 ∨ W = 2 ∨ W = 3 ∨ W = 4 := by omega
  have hH4 : H = 1 ∨ H = 2 ∨ H = 3 ∨ H = 4 := by omega
  clear hm hz
  rcases hW4 with rfl | rfl | rfl | rfl <;> rcases hH4 with rfl | rfl | rfl | rfl <;> (split <;> omega)
/-- The cells beside an edge. -/
def bes (W H : Nat) (e : Nat) : Int × Int :=
  if e < W * (H + 1) then (cellNo W H ((e % W : Nat) : Int) ((e / W : Nat) - 1), cellNo W H ((e % W : Nat) : Int) ((e / W : Nat) : Int))
  else (cellNo W H (((e - W * (H + 1)) % (W + 1) : Nat) - 1) (((e - W * (H + 1)) / (W + 1) : Nat) : Int), cellNo W H (((e - W * (H + 1)) % (W + 1) : Nat) : Int) (((e - W * (H + 1)) / (W + 1) : Nat) : Int))
theorem beside_is (W H : Nat) (hW : 1 ≤ W ∧ W ≤ 4) (hH : 1 ≤ H ∧ H ≤ 4) (e : Nat) (he : e ≤ 1000) : impl_grid_beside.f W H (e : Int) = some (bes W H e) := by
  unfold impl_grid_beside.f bes
  have eL : (W : Int) * ((H : Int) + 1) = ((W * (H + 1) : Nat) : Int) := by simp
  rw [if_pos (by omega), eL]
  by_cases h : e < W * (H + 1)
  · rw [if_pos (by omega), if_pos h]
    rfl
  · rw [if_neg (by omega), if_neg h, show (e : Int) - ((W * (H + 1) : Nat) : Int) = ((e - W * (H + 1) : Nat) : Int) by omega]
    rfl
/-- Just one of the cells beside an edge is told. -/
def oneD (W H : Nat) (l : List Int) (e : Nat) : Bool := tell l (bes W H e).1 != tell l (bes W H e).2
theorem oneD_level (W H : Nat) (l : List Int) (y x : Nat) (hx : x < W) (hy : y ≤ H) : oneD W H l (y * W + x) = (tell l (cellNo W H x y) != tell l (cellNo W H x ((y : Int) - 1))) := by
  have h1 : y * W + x < W * (H + 1) := by
    have : y * W ≤ H * W := Nat.mul_le_mul_right _ hy
    rw [Nat.mul_add, Nat.mul_comm W H]
    omega
  have h2 : (y * W + x) % W = x := by rw [Nat.mul_comm, Nat.mul_add_mod, Nat.mod_eq_of_lt hx]
  have h3 : (y * W + x) / W = y := by rw [Nat.mul_comm, Nat.mul_add_div (by omega), Nat.div_eq_of_lt hx, Nat.add_zero]
  unfold oneD bes
  rw [if_pos h1, h2, h3]
  exact Bool.xor_comm _ _
theorem oneD_upright (W H : Nat) (l : List Int) (y x : Nat) (hx : x ≤ W) : oneD W H l (W * (H + 1) + (y * (W + 1) + x)) = (tell l (cellNo W H x y) != tell l (cellNo W H ((x : Int) - 1) y)) := by
  have h2 : (y * (W + 1) + x) % (W + 1) = x := by rw [Nat.mul_comm, Nat.mul_add_mod, Nat.mod_eq_of_lt (by omega)]
  have h3 : (y * (W + 1) + x) / (W + 1) = y := by rw [Nat.mul_comm, Nat.mul_add_div (by omega), Nat.div_eq_of_lt (by omega), Nat.add_zero]
  unfold oneD bes
  rw [if_neg (by omega), show W * (H + 1) + (y * (W + 1) + x) - W * (H + 1) = y * (W + 1) + x by omega, h2, h3]
  exact Bool.xor_comm _ _
def aD (W H : Nat) (l : List Int) : List Int := asInts ((List.range (W * (H + 1))).filter (fun n => oneD W H l n))
def bD (W H : Nat) (l : List Int) : List Int := asInts ((List.range ((W + 1) * H)).filter (fun n => oneD W H l (W * (H + 1) + n)))
def EAd (W : Nat) (y x : Nat) : Nat := y * W + x
def EBd (W H : Nat) (y x : Nat) : Nat := W * (H + 1) + (y * (W + 1) + x)
theorem edge_in {W H : Nat} (x y : Nat) (hx : x < W) (hy : y ≤ H) : edgeIn (W : Int) (H : Int) false (x : Int) (y : Int) = true := by
  unfold edgeIn
  simp only [Bool.false_eq_true, if_false, Bool.and_eq_true, inB_iff]
  omega
theorem edge_inU {W H : Nat} (x y : Nat) (hx : x ≤ W) (hy : y < H) : edgeIn (W : Int) (H : Int) true (x : Int) (y : Int) = true := by
  unfold edgeIn
  simp only [if_true, Bool.and_eq_true, inB_iff]
  omega
theorem aD_any {W H : Nat} {l : List Int} (y x : Nat) (hx : x < W) (hy : y ≤ H) : (aD W H l).any (fun z => decide (z = ((y * W + x : Nat) : Int))) = (tell l (cellNo W H x y) != tell l (cellNo W H x ((y : Int) - 1))) := by
  have h1 : y * W + x < W * (H + 1) := by
    have : y * W ≤ H * W := Nat.mul_le_mul_right _ hy
    rw [Nat.mul_add, Nat.mul_comm W H]
    omega
  unfold aD
  rw [any_range _ _ _ h1, oneD_level W H l y x hx hy]
theorem bD_any {W H : Nat} {l : List Int} (y x : Nat) (hx : x ≤ W) (hy : y < H) : (bD W H l).any (fun z => decide (z = ((y * (W + 1) + x : Nat) : Int))) = (tell l (cellNo W H x y) != tell l (cellNo W H ((x : Int) - 1) y)) := by
  have h1 : y * (W + 1) + x < (W + 1) * H := by
    have : (y + 1) * (W + 1) ≤ H * (W + 1) := Nat.mul_le_mul_right _ hy
    rw [Nat.mul_comm (W + 1) H]
    rw [Nat.add_mul] at this
    omega
  unfold bD
  rw [any_range _ _ _ h1, oneD_upright W H l y x hx]
section
variable {W H : Nat} {l : List Int} (hW : 1 ≤ W ∧ W ≤ 4) (hH : 1 ≤ H ∧ H ≤ 4) (hl : l.length ≤ 9223372036854775807) (hz : ∀ z ∈ l, 0 ≤ z ∧ z < (W : Int) * H)
include hW hH hl hz
theorem j3_ev (M : Nat) (y x : Nat) (hy : y ≤ H) (hx : x ≤ W) {r : Int × Int × List Int × List Int} (g : Nat → Option (Int × Int × List Int × List Int))
    (hg : ∀ k, g k = (if (y : Int) < (H : Int) then (if 0 ≤ (wrap64 ((wrap64 ((wrap64 ((wrap64 ((y : Int) + 1)) * (wrap64 ((W : Int) + 2)))) + (x : Int))) + 1)) then (if (wrap64 ((wrap64 ((wrap64 ((wrap64 ((y : Int) + 1)) * (wrap64 ((W : Int) + 2)))) + (x : Int))) + 1)) < ((toldL ((W + 2) * (H + 2)) (l.map (posT W))).length : Int) then (if 0 ≤ (wrap64 ((wrap64 ((wrap64 ((y : Int) + 1)) * (wrap64 ((W : Int) + 2)))) + (x : Int))) then (if (wrap64 ((wrap64 ((wrap64 ((y : Int) + 1)) * (wrap64 ((W : Int) + 2)))) + (x : Int))) < ((toldL ((W + 2) * (H + 2)) (l.map (posT W))).length : Int) then (if ((rdOf false (toldL ((W + 2) * (H + 2)) (l.map (posT W))) (wrap64 ((wrap64 ((wrap64 ((wrap64 ((y : Int) + 1)) * (wrap64 ((W : Int) + 2)))) + (x : Int))) + 1))) != (rdOf false (toldL ((W + 2) * (H + 2)) (l.map (posT W))) (wrap64 ((wrap64 ((wrap64 ((y : Int) + 1)) * (wrap64 ((W : Int) + 2)))) + (x : Int))))) = true then ((spec_fiPut.f k W H (listA (W * (H + 1)) M) (listB (W * (H + 1)) ((W + 1) * H) M) true (x : Int) (y : Int)).bind fun bt233 => (spec_liBorder.l1 k W H (toldL ((W + 2) * (H + 2)) (l.map (posT W))) (y : Int) (wrap64 ((x : Int) + 1)) bt233.1 bt233.2.1 bt233.2.2.1 bt233.2.2.2)) else (spec_liBorder.l1 k W H (toldL ((W + 2) * (H + 2)) (l.map (posT W))) (y : Int) (wrap64 ((x : Int) + 1)) W H (listA (W * (H + 1)) M) (listB (W * (H + 1)) ((W + 1) * H) M))) else (none)) else (none)) else (none)) else (none)) else (spec_liBorder.l1 k W H (toldL ((W + 2) * (H + 2)) (l.map (posT W))) (y : Int) (wrap64 ((x : Int) + 1)) W H (listA (W * (H + 1)) M) (listB (W * (H + 1)) ((W + 1) * H) M))))
    (h : Ev (fun k => spec_liBorder.l1 k W H (toldL ((W + 2) * (H + 2)) (l.map (posT W))) (y : Int) ((x + 1 : Nat) : Int) W H (listA (W * (H + 1)) (putB (EBd W H) W H (bD W H l) M y x)) (listB (W * (H + 1)) ((W + 1) * H) (putB (EBd W H) W H (bD W H l) M y x))) r) : Ev g r := by
  refine Ev.congr hg ?_
  have hlen : ((toldL ((W + 2) * (H + 2)) (l.map (posT W))).length : Int) = (((W + 2) * (H + 2) : Nat) : Int) := by simp [toldL]
  have hm : 0 ≤ ((y : Int) + 1) * ((W : Int) + 2) ∧ ((y : Int) + 1) * ((W : Int) + 2) ≤ 1000 := by
    have hW4 : W = 1 ∨ W = 2 ∨ W = 3 ∨ W = 4 := by omega
    rcases hW4 with rfl | rfl | rfl | rfl <;> omega
  rw [hlen, w64 (n := (y : Int) + 1) (by omega) (by omega), w64 (n := (W : Int) + 2) (by omega) (by omega), w64 (n := (x : Int) + 1) (by omega) (by omega)]
  have c1 := told_cell W H hW hH l hz (x : Int) (y : Int) _ (by omega) (by omega) rfl
  have c2 := told_cell W H hW hH l hz ((x : Int) - 1) (y : Int) (((y : Int) + 1) * ((W : Int) + 2) + (x : Int)) (by omega) (by omega) (by omega)
  generalize hq : ((y : Int) + 1) * ((W : Int) + 2) = q at *
  rw [w64 (n := q) (by omega) (by omega), w64 (n := q + (x : Int)) (by omega) (by omega), w64 (n := q + (x : Int) + 1) (by omega) (by omega), c1.2, c2.2]
  unfold putB at h
  by_cases hyH : y < H
  · rw [decide_eq_true hyH, Bool.true_and, bD_any y x hx hyH] at h
    refine Ev.congr (fun k => (if_pos (by omega)).trans ((if_pos (by omega)).trans ((if_pos (by omega)).trans ((if_pos (by omega)).trans (if_pos (by omega)))))) ?_
    cases hc : (tell l (cellNo W H x y) != tell l (cellNo W H ((x : Int) - 1) y)) with
    | true =>
      rw [hc, if_pos rfl] at h
      have hp := fiPut_ev W H M (by omega) (by omega) true (x : Int) (y : Int) (edge_inU x y hx hyH)
      have e1 : (edgeOff W H true + edgeNo W true (x : Int) (y : Int)).toNat = EBd W H y x := by
        unfold edgeOff edgeNo EBd
        simp only [if_true]
        have : (W : Int) * ((H : Int) + 1) + ((y : Int) * ((W : Int) + 1) + (x : Int)) = ((W * (H + 1) + (y * (W + 1) + x) : Nat) : Int) := by simp
        rw [this, Int.toNat_natCast]
      rw [e1] at hp
      exact Ev.congr (fun k => if_pos rfl) (Ev.bind hp h)
    | false =>
      rw [hc, if_neg (by decide)] at h
      exact Ev.congr (fun k => if_neg (by decide)) h
  · rw [decide_eq_false hyH, Bool.false_and, if_neg (by decide)] at h
    exact Ev.congr (fun k => if_neg (by omega)) h
theorem j2_ev (M : Nat) (y x : Nat) (hy : y ≤ H) (hx : x ≤ W) {r : Int × Int × List Int × List Int}
    (h : Ev (fun k => spec_liBorder.l1 k W H (toldL ((W + 2) * (H + 2)) (l.map (posT W))) (y : Int) ((x + 1 : Nat) : Int) W H (listA (W * (H + 1)) (putB (EBd W H) W H (bD W H l) (putA (EAd W) W (aD W H l) M y x) y x)) (listB (W * (H + 1)) ((W + 1) * H) (putB (EBd W H) W H (bD W H l) (putA (EAd W) W (aD W H l) M y x) y x))) r) :
    Ev (fun k => spec_liBorder.l1 k W H (toldL ((W + 2) * (H + 2)) (l.map (posT W))) (y : Int) (x : Int) W H (listA (W * (H + 1)) M) (listB (W * (H + 1)) ((W + 1) * H) M)) r := by
  refine Ev.step (fun k => by simp only [spec_liBorder.l1]; rw [if_pos (by omega)]) ?_
  have hlen : ((toldL ((W + 2) * (H + 2)) (l.map (posT W))).length : Int) = (((W + 2) * (H + 2) : Nat) : Int) := by simp [toldL]
  have hm : 0 ≤ ((y : Int) + 1) * ((W : Int) + 2) ∧ ((y : Int) + 1) * ((W : Int) + 2) ≤ 1000 ∧ 0 ≤ (y : Int) * ((W : Int) + 2) ∧ (y : Int) * ((W : Int) + 2) ≤ 1000 := by
    have hW4 : W = 1 ∨ W = 2 ∨ W = 3 ∨ W = 4 := by omega
    rcases hW4 with rfl | rfl | rfl | rfl <;> omega
  rw [hlen, w64 (n := (y : Int) + 1) (by omega) (by omega), w64 (n := (W : Int) + 2) (by omega) (by omega)]
  have c1 := told_cell W H hW hH l hz (x : Int) (y : Int) _ (by omega) (by omega) rfl
  have c2 := told_cell W H hW hH l hz (x : Int) ((y : Int) - 1) ((y : Int) * ((W : Int) + 2) + (x : Int) + 1) (by omega) (by omega) (by rw [Int.sub_add_cancel])
  generalize hq : ((y : Int) + 1) * ((W : Int) + 2) = q at *
  generalize hq2 : (y : Int) * ((W : Int) + 2) = q2 at *
  rw [w64 (n := q) (by omega) (by omega), w64 (n := q2) (by omega) (by omega), w64 (n := q + (x : Int)) (by omega) (by omega), w64 (n := q2 + (x : Int)) (by omega) (by omega), w64 (n := q + (x : Int) + 1) (by omega) (by omega), w64 (n := q2 + (x : Int) + 1) (by omega) (by omega), c1.2, c2.2]
  unfold putA at h
  by_cases hxW : x < W
  · rw [decide_eq_true hxW, Bool.true_and, aD_any y x hxW hy] at h
    refine Ev.congr (fun k => (if_pos (by omega)).trans ((if_pos (by omega)).trans ((if_pos (by omega)).trans ((if_pos (by omega)).trans (if_pos (by omega)))))) ?_
    cases hc : (tell l (cellNo W H x y) != tell l (cellNo W H x ((y : Int) - 1))) with
    | true =>
      rw [hc, if_pos rfl] at h
      have hp := fiPut_ev W H M (by omega) (by omega) false (x : Int) (y : Int) (edge_in x y hxW hy)
      have e1 : (edgeOff W H false + edgeNo W false (x : Int) (y : Int)).toNat = EAd W y x := by
        unfold edgeOff edgeNo EAd
        simp only [Bool.false_eq_true, if_false]
        have : (0 : Int) + ((y : Int) * (W : Int) + (x : Int)) = ((y * W + x : Nat) : Int) := by simp
        rw [this, Int.toNat_natCast]
      rw [e1] at hp
      refine Ev.step (fun k => by simp only [spec_liBorder.j2]; rw [if_pos trivial]) ?_
      refine Ev.bind hp ?_
      exact j3_ev hW hH hl hz _ y x hy hx _ (fun k => rfl) h
    | false =>
      rw [hc, if_neg (by decide)] at h
      refine Ev.step (fun k => by simp only [spec_liBorder.j2]; rw [if_neg (by decide)]) ?_
      exact j3_ev hW hH hl hz _ y x hy hx _ (fun k => rfl) h
  · rw [decide_eq_false hxW, Bool.false_and, if_neg (by decide)] at h
    refine Ev.congr (fun k => if_neg (by omega)) ?_
    refine Ev.step (fun k => by simp only [spec_liBorder.j2]; rw [if_neg (by decide)]) ?_
    exact j3_ev hW hH hl hz _ y x hy hx _ (fun k => rfl) h
theorem spec_led : Ev (fun k => spec_liBorder.f k W H l) ((W : Int), (H : Int), listA (W * (H + 1)) (putAll (EAd W) (EBd W H) W H (aD W H l) (bD W H l)), listB (W * (H + 1)) ((W + 1) * H) (putAll (EAd W) (EBd W H) W H (aD W H l) (bD W H l))) := by
  have h0 := run_ev (fun k (M : Nat) (y : Int) => spec_liBorder.l0 k W H (toldL ((W + 2) * (H + 2)) (l.map (posT W))) y W H (listA (W * (H + 1)) M) (listB (W * (H + 1)) ((W + 1) * H) M)) (putRow (EAd W) (EBd W H) W H (aD W H l) (bD W H l)) (fun _ _ => True) (H + 1)
    ((W : Int), (H : Int), listA (W * (H + 1)) (putAll (EAd W) (EBd W H) W H (aD W H l) (bD W H l)), listB (W * (H + 1)) ((W + 1) * H) (putAll (EAd W) (EBd W H) W H (aD W H l) (bD W H l)))
    (fun M y hy _ => ⟨trivial, fun r hr => by
      refine Ev.step (fun k => by simp only [spec_liBorder.l0]; rw [if_pos (by omega)]) ?_
      refine run_ev (fun k (M : Nat) (x : Int) => spec_liBorder.l1 k W H (toldL ((W + 2) * (H + 2)) (l.map (posT W))) (y : Int) x W H (listA (W * (H + 1)) M) (listB (W * (H + 1)) ((W + 1) * H) M)) (fun M x => putB (EBd W H) W H (bD W H l) (putA (EAd W) W (aD W H l) M y x) y x) (fun _ _ => True) (W + 1) r
        (fun M x hx _ => ⟨trivial, fun r hr => j2_ev hW hH hl hz M y x (by omega) (by omega) hr⟩) (W + 1) 0 M (by omega) trivial (fun _ => ?_)
      rw [Nat.sub_zero, Nat.zero_add]
      refine Ev.step (fun k => by simp only [spec_liBorder.l1]; rw [if_neg (by omega), w64 (n := (y : Int) + 1) (by omega) (by omega)]) ?_
      exact hr⟩) (H + 1) 0 0 (by omega) trivial (fun _ => by
      rw [Nat.sub_zero, Nat.zero_add]
      unfold putAll
      exact Ev.step (fun k => by simp only [spec_liBorder.l0]; rw [if_neg (by omega)]) (Ev.now _))
  have eA : listA (W * (H + 1)) 0 = [] := by simp [listA, asInts]
  have eB : listB (W * (H + 1)) ((W + 1) * H) 0 = [] := by simp [listB, asInts]
  rw [eA, eB] at h0
  unfold spec_liBorder.f
  exact Ev.bind (told_ev W H hW hH l hl hz) h0
/-- The program's set of edges. -/
def ledI (W H : Nat) (l : List Int) : Nat := (List.range' 0 (W * (H + 1) + (W + 1) * H)).foldl (fun M e => if oneD W H l e = true then M ||| 2 ^ e else M) 0
omit hl hz in
theorem ledI_lt : ledI W H l < 2 ^ (W * (H + 1) + (W + 1) * H) := by
  have key : ∀ (q : List Nat) (M : Nat), (∀ e ∈ q, e < W * (H + 1) + (W + 1) * H) → M < 2 ^ (W * (H + 1) + (W + 1) * H) → q.foldl (fun M e => if oneD W H l e = true then M ||| 2 ^ e else M) M < 2 ^ (W * (H + 1) + (W + 1) * H) := by
    intro q
    induction q with
    | nil => intro M _ h; exact h
    | cons e q ih =>
      intro M hq h
      refine ih _ (fun x hx => hq x (List.mem_cons_of_mem _ hx)) ?_
      show (if oneD W H l e = true then M ||| 2 ^ e else M) < _
      split
      · exact Nat.or_lt_two_pow h (Nat.pow_lt_pow_right (by decide) (hq e List.mem_cons_self))
      · exact h
  exact key _ 0 (fun e he => by rw [List.mem_range'_1] at he; omega) (Nat.two_pow_pos _)
omit hl hz in
theorem led_same : putAll (EAd W) (EBd W H) W H (aD W H l) (bD W H l) = ledI W H l := by
  have ha : ∀ z ∈ aD W H l, 0 ≤ z ∧ z < ((W * (H + 1) : Nat) : Int) := by
    intro z h
    obtain ⟨n, hn, rfl⟩ := List.mem_map.1 h
    have := List.mem_range.1 (List.mem_filter.1 hn).1
    omega
  have hb : ∀ z ∈ bD W H l, 0 ≤ z ∧ z < (((W + 1) * H : Nat) : Int) := by
    intro z h
    obtain ⟨n, hn, rfl⟩ := List.mem_map.1 h
    have := List.mem_range.1 (List.mem_filter.1 hn).1
    omega
  rw [led_eq (EAd W) (EBd W H) W H hW.1 _ _ ha hb]
  apply Nat.eq_of_testBit_eq
  intro j
  have h2 : (ledAll (EAd W) (EBd W H) W (aD W H l) (bD W H l)).testBit j = ((0 : Nat).testBit j || (aD W H l).any (fun z => decide (EAd W (z.toNat / W) (z.toNat % W) = j)) || (bD W H l).any (fun z => decide (EBd W H (z.toNat / (W + 1)) (z.toNat % (W + 1)) = j))) := by
    unfold ledAll
    rw [foldl_bit (fun m (z : Int) => m ||| 2 ^ EBd W H (z.toNat / (W + 1)) (z.toNat % (W + 1))) (fun z j => decide (EBd W H (z.toNat / (W + 1)) (z.toNat % (W + 1)) = j)) (fun M x j => by rw [Nat.testBit_or, testBit_pow]) j (bD W H l),
      foldl_bit (fun m (z : Int) => m ||| 2 ^ EAd W (z.toNat / W) (z.toNat % W)) (fun z j => decide (EAd W (z.toNat / W) (z.toNat % W) = j)) (fun M x j => by rw [Nat.testBit_or, testBit_pow]) j (aD W H l)]
  have h3 : (ledI W H l).testBit j = ((0 : Nat).testBit j || (List.range' 0 (W * (H + 1) + (W + 1) * H)).any (fun e => oneD W H l e && decide (e = j))) := by
    unfold ledI
    rw [foldl_bit (fun M e => if oneD W H l e = true then M ||| 2 ^ e else M) (fun e j => oneD W H l e && decide (e = j)) (fun M e j => by cases h : oneD W H l e <;> simp [Nat.testBit_or, testBit_pow]) j]
  rw [h2, h3, Nat.zero_testBit, Bool.false_or, Bool.false_or, Bool.eq_iff_iff]
  simp only [Bool.or_eq_true, List.any_eq_true, Bool.and_eq_true, decide_eq_true_eq]
  have qa : ∀ n : Nat, EAd W (n / W) (n % W) = n := fun n => by unfold EAd; rw [Nat.mul_comm]; exact Nat.div_add_mod n W
  have qb : ∀ n : Nat, EBd W H (n / (W + 1)) (n % (W + 1)) = W * (H + 1) + n := fun n => by unfold EBd; rw [Nat.mul_comm (n / (W + 1))]; rw [Nat.div_add_mod n (W + 1)]
  constructor
  · rintro (⟨z, hz, he⟩ | ⟨z, hz, he⟩)
    · obtain ⟨n, hn, rfl⟩ := List.mem_map.1 hz
      rw [Int.toNat_natCast, qa] at he
      subst he
      obtain ⟨h4, h5⟩ := List.mem_filter.1 hn
      have := List.mem_range.1 h4
      exact ⟨n, by rw [List.mem_range'_1]; omega, h5, rfl⟩
    · obtain ⟨n, hn, rfl⟩ := List.mem_map.1 hz
      rw [Int.toNat_natCast, qb] at he
      subst he
      obtain ⟨h4, h5⟩ := List.mem_filter.1 hn
      have := List.mem_range.1 h4
      exact ⟨W * (H + 1) + n, by rw [List.mem_range'_1]; omega, h5, rfl⟩
  · rintro ⟨e, he, h5, rfl⟩
    rw [List.mem_range'_1] at he
    by_cases h : e < W * (H + 1)
    · exact .inl ⟨(e : Int), List.mem_map.2 ⟨e, List.mem_filter.2 ⟨List.mem_range.2 h, h5⟩, rfl⟩, by rw [Int.toNat_natCast, qa]⟩
    · refine .inr ⟨((e - W * (H + 1) : Nat) : Int), List.mem_map.2 ⟨e - W * (H + 1), List.mem_filter.2 ⟨List.mem_range.2 (by omega), ?_⟩, rfl⟩, by rw [Int.toNat_natCast, qb]; omega⟩
      rw [show W * (H + 1) + (e - W * (H + 1)) = e by omega]
      exact h5
omit hz in
theorem impl_led : Ev (fun k => impl_grid_border.f k W H l) ((ledI W H l : Nat) : Int) := by
  have B := grid_bounds (w := W) (h := H) (by omega) (by omega)
  have eL : (W : Int) * ((H : Int) + 1) = ((W * (H + 1) : Nat) : Int) := by simp
  have eU : ((W : Int) + 1) * (H : Int) = (((W + 1) * H : Nat) : Int) := by simp
  rw [eL, eU] at B
  unfold impl_grid_border.f
  refine Ev.bind (Ev.const (levels_is (by omega) (by omega))) (Ev.bind (Ev.const (uprights_is (by omega) (by omega))) ?_)
  rw [eL, eU, w64 (n := ((W * (H + 1) : Nat) : Int) + (((W + 1) * H : Nat) : Int)) (by omega) (by omega), ← Int.natCast_add]
  unfold ledI
  generalize hE : W * (H + 1) + (W + 1) * H = E at *
  refine run_ev (fun k (s : Nat) i => impl_grid_border.l0 k l (s : Int) ((E : Nat) : Int) i W H) (fun M e => if oneD W H l e = true then M ||| 2 ^ e else M) (fun _ s => s < 2 ^ 40) E _
    (fun s i hi hs => ?_) E 0 0 (by omega) (by decide) (fun hs => ?_)
  · refine ⟨?_, fun r hr => ?_⟩
    · split
      · exact Nat.or_lt_two_pow hs (Nat.pow_lt_pow_right (by decide) (by omega))
      · exact hs
    · refine Ev.step (fun k => by simp only [impl_grid_border.l0]; rw [if_pos (by omega), beside_is W H hW hH i (by omega), Option.bind_some]) ?_
      refine Ev.bind (contains_ev l hl _) (Ev.bind (contains_ev l hl _) ?_)
      rw [w64 (n := (i : Int) + 1) (by omega) (by omega), shlu _ (by omega) (by omega), Int.toNat_natCast]
      have hd : (tell l (bes W H i).1 != tell l (bes W H i).2) = oneD W H l i := rfl
      rw [hd]
      cases hc : oneD W H l i with
      | true =>
        rw [hc, if_pos rfl] at hr
        refine Ev.congr (fun k => (if_pos rfl).trans (if_pos (by omega))) ?_
        rw [oru _ _ (lt63 hs (by decide)) (pow_lt63 (by omega))]
        exact hr
      | false =>
        rw [hc, if_neg (by decide)] at hr
        exact Ev.congr (fun k => if_neg (by decide)) hr
  · rw [Nat.sub_zero, Nat.zero_add] at *
    exact Ev.step (fun k => by simp only [impl_grid_border.l0]; rw [if_neg (by omega)]) (Ev.now _)
end
theorem areWithin_is (l : List Int) (lo hi : Int) : impl_areWithin.f l lo hi = some (l.all (inB lo hi)) := rfl
theorem toIntS_is (l : List Int) (b : Bool) (h : l.length ≤ 1000000) : laws_toIntS.f l b = some l := by unfold laws_toIntS.f; rw [if_pos h]
theorem intactIntS_is (l : List Int) (h : l.length ≤ 1000000) : laws_intactIntS.f l l = some true := by unfold laws_intactIntS.f; rw [if_pos h]; simp
theorem law_end (w h : Int) (l : List Int) (hl : l.length ≤ 9223372036854775807) (hv : l.length ≤ 1000000 → ∃ W H A B t, A.length ≤ 1000000 ∧ B.length ≤ 1000000 ∧ Ev (fun k => spec_BorderOf.f k w h l) (W, H, A, B, t) ∧ Ev (fun k => impl_BorderOf.f k w h l) (W, H, A, B, t)) : ∃ k, laws_FnExactBorderOf.f k w h l = some true := by
  by_cases hab : l.length ≤ 1000000
  · obtain ⟨W, H, A, B, t, hA, hB, hs, hi⟩ := hv hab
    have all : Ev (fun k => laws_FnExactBorderOf.f k w h l) true := by
      unfold laws_FnExactBorderOf.f
      refine Ev.congr (fun k => if_neg (by omega)) ?_
      refine Ev.bind (Ev.const (toIntS_is l _ hab)) (Ev.bind hs (Ev.bind (Ev.const (toIntS_is l _ hab)) (Ev.bind hi (Ev.bind (eqFigure_ev W H A B hA hB) ?_))))
      simp only [if_true, bne_self_eq_false]
      refine Ev.step (fun k => by simp only [laws_FnExactBorderOf.j0, Bool.false_eq_true, if_false]; rfl) ?_
      refine Ev.bind (Ev.const (toIntS_is l _ hab)) (Ev.bind (Ev.const (intactIntS_is l hab)) (Ev.congr (fun k => if_pos rfl) ?_))
      refine Ev.bind (markIntS_ev l 101 hab (by omega) (by omega)) (Ev.congr (fun k => if_neg (by omega)) ?_)
      refine Ev.bind (eqFigure_ev W H A B hA hB) ?_
      simp only [if_true, bne_self_eq_false]
      refine Ev.step (fun k => by simp only [laws_FnExactBorderOf.j1, Bool.false_eq_true, if_false]; rfl) ?_
      refine Ev.bind (markFigure_is W H A B hA hB) (Ev.bind (heldFigure_ev W H A B hA hB) ?_)
      refine Ev.congr (fun k => (if_neg (by omega)).trans (if_pos rfl)) ?_
      refine Ev.bind (Ev.const (toIntS_is l _ hab)) (Ev.bind hi (Ev.bind (eqFigure_ev W H A B hA hB) ?_))
      simp only [if_true, bne_self_eq_false]
      refine Ev.step (fun k => by simp only [laws_FnExactBorderOf.j2, Bool.false_eq_true, if_false]; rfl) ?_
      refine Ev.bind (heldFigure_ev W H A B hA hB) ?_
      refine Ev.congr (fun k => (if_neg (by omega)).trans (if_pos rfl)) (Ev.now _)
    obtain ⟨K, hK⟩ := all
    exact ⟨K, hK K (Nat.le_refl _)⟩
  · refine ⟨0, ?_⟩
    unfold laws_FnExactBorderOf.f
    rw [if_pos (by omega)]
theorem FnExactBorderOf : laws_FnExactBorderOf.Pure := by
  intro w h l _ _ hl _
  have hl := maxLen_le hl
  apply law_end w h l hl
  intro _
  unfold spec_BorderOf.f impl_BorderOf.f
  cases g : (inB 1 4 w && inB 1 4 h) with
  | false =>
    refine ⟨0, 0, [], [], false, by simp, by simp, Ev.bind (Ev.const (fiGrid_is w h)) (by rw [g]; exact Ev.const (by simp)), Ev.bind (Ev.const (isGrid_is w h)) ?_⟩
    rw [g]
    refine Ev.congr (fun k => if_neg (by decide)) ?_
    exact Ev.step (fun k => by simp only [impl_BorderOf.j0]; rw [if_pos trivial]) (Ev.now _)
  | true =>
    have g2 := g
    rw [Bool.and_eq_true, inB_iff, inB_iff] at g2
    obtain ⟨hw, hh⟩ := g2
    obtain ⟨W, rfl⟩ := Int.eq_ofNat_of_zero_le (show 0 ≤ w by omega)
    obtain ⟨H, rfl⟩ := Int.eq_ofNat_of_zero_le (show 0 ≤ h by omega)
    have b40 : W * (H + 1) ≤ 20 ∧ (W + 1) * H ≤ 20 := by
      have hW4 : W = 1 ∨ W = 2 ∨ W = 3 ∨ W = 4 := by omega
      have hH4 : H = 1 ∨ H = 2 ∨ H = 3 ∨ H = 4 := by omega
      rcases hW4 with rfl | rfl | rfl | rfl <;> rcases hH4 with rfl | rfl | rfl | rfl <;> decide
    obtain ⟨m, hm⟩ : ∃ m, (W : Int) * (H : Int) = m := ⟨_, rfl⟩
    have b16 : 1 ≤ m ∧ m ≤ 16 := by
      have B := grid_bounds (w := W) (h := H) (by omega) (by omega)
      rw [hm] at B
      exact ⟨B.2.2.2.2.2.2.1, B.2.2.2.2.2.2.2.1⟩
    have wm : wrap64 (wrap64 m - 1) = m - 1 := by
      rw [w64 (n := m) (by omega) (by omega), w64 (by omega) (by omega)]
    have hr := fiRises_ev l hl (m - 1) (by omega) (by omega)
    rw [hm, wm]
    by_cases gr : rises l (m - 1) = true
    · have gr2 := gr
      unfold rises at gr2
      rw [Bool.and_eq_true] at gr2
      have hz : ∀ z ∈ l, 0 ≤ z ∧ z < (W : Int) * H := fun z hz => by
        rw [hm]
        have := inB_iff.1 (List.all_eq_true.1 gr2.1 z hz)
        omega
      have hlt := ledI_lt (W := W) (H := H) (l := l) (by omega) (by omega)
      have hs := spec_led (W := W) (H := H) (l := l) (by omega) (by omega) hl hz
      rw [led_same (W := W) (H := H) (l := l) (by omega) (by omega)] at hs
      have hi := impl_led (W := W) (H := H) (l := l) (by omega) (by omega) hl
      generalize ledI W H l = M at *
      have lA := listA_len (W * (H + 1)) M
      have lB := listB_len (W * (H + 1)) ((W + 1) * H) M
      refine ⟨W, H, listA (W * (H + 1)) M, listB (W * (H + 1)) ((W + 1) * H) M, true, by omega, by omega, Ev.bind (Ev.const (fiGrid_is _ _)) ?_, Ev.bind (Ev.const (isGrid_is _ _)) ?_⟩
      · rw [g]
        refine Ev.congr (fun k => if_pos rfl) (Ev.bind hr ?_)
        rw [gr]
        exact Ev.congr (fun k => if_pos rfl) (Ev.bind hs (Ev.now _))
      · rw [g]
        refine Ev.congr (fun k => if_pos rfl) (Ev.bind (isRising_ev l hl) ?_)
        rw [gr2.2]
        refine Ev.congr (fun k => if_pos rfl) (Ev.bind (Ev.const (areWithin_is l _ _)) ?_)
        rw [gr2.1]
        refine Ev.step (fun k => by simp only [impl_BorderOf.j0]; rw [if_neg (by decide)]) ?_
        exact Ev.bind hi (Ev.bind (figure_ev W H M (by omega) (by omega) hlt) (Ev.now _))
    · have gr3 : rises l (m - 1) = false := by simpa using gr
      refine ⟨0, 0, [], [], false, by simp, by simp, Ev.bind (Ev.const (fiGrid_is _ _)) ?_, Ev.bind (Ev.const (isGrid_is _ _)) ?_⟩
      · rw [g]
        refine Ev.congr (fun k => if_pos rfl) (Ev.bind hr ?_)
        rw [gr3]
        exact Ev.const (by simp)
      · rw [g]
        refine Ev.congr (fun k => if_pos rfl) (Ev.bind (isRising_ev l hl) ?_)
        unfold rises at gr3
        cases hin : incr l with
        | false =>
          refine Ev.congr (fun k => if_neg (by decide)) ?_
          exact Ev.step (fun k => by simp only [impl_BorderOf.j0]; rw [if_pos trivial]) (Ev.now _)
        | true =>
          rw [hin, Bool.and_true] at gr3
          refine Ev.congr (fun k => if_pos rfl) (Ev.bind (Ev.const (areWithin_is l _ _)) ?_)
          rw [gr3]
          exact Ev.step (fun k => by simp only [impl_BorderOf.j0]; rw [if_pos (by decide)]) (Ev.now _)

end Go.Proofs.YtmlkihaoeopobaaDoor.Pure
