/- Proved here: the pure statement of FnExactCanBecome: program and reference agree on what a digit becomes. Conditions: the numbers are 64 bit integers. -/
import Derived.Test.YtdnfmkgcglgdiaaDoorQFnExactCanBecomex1
set_option linter.unusedVariables false
set_option linter.unusedSimpArgs false
namespace Go.Proofs.YtdnfmkgcglgdiaaDoor.Pure
open Go.RowKit Go.Proofs.YtdnfmkgcglgdiaaDoor.Q Go.Proofs.YtdnfmkgcglgdiaaDoorW.PrintWords Go.Proofs.YtdnfmkgcglgdiaaDoorW.PrintLast

/-! ### base: wrapping, 'from some number of rounds on', loops -/
theorem w64 {n : Int} (h0 : -9223372036854775808 ≤ n) (h1 : n ≤ 9223372036854775807) : wrap64 n = n := by unfold wrap64; omega
theorem wf64 {x : Int} (h : (Lit.int .i64 x).wf = true) : -9223372036854775808 ≤ x ∧ x ≤ 9223372036854775807 := by
  simp [Lit.wf, IntKind.min, IntKind.max, IntKind.signed, IntKind.bits] at h
  omega
theorem maxLen_le {n : Nat} (h : n ≤ maxLen) : n ≤ 9223372036854775807 := by unfold maxLen at h; omega
theorem Ev.both {α β : Type} {g : Nat → Option α} {f : Nat → Option β} {a : α} {b : β} (h : Ev g a) (k : Ev f b) : ∃ K, ∀ n, K ≤ n → g n = some a ∧ f n = some b := by
  obtain ⟨K, h⟩ := h
  obtain ⟨K', k⟩ := k
  exact ⟨max K K', fun n hn => ⟨h n (by omega), k n (by omega)⟩⟩
theorem Ev.const {α : Type} {x : Option α} {r : α} (h : x = some r) : Ev (fun _ => x) r := ⟨0, fun _ _ => h⟩
/-- A loop from lo on that ends early with 'bad', or runs through. -/
theorem all_ev {β : Type} (g : Nat → Int → Option β) (p : Nat → Bool) (good bad : β) (lo n : Nat)
    (hgood : ∀ i r, lo ≤ i → i < n → p i = true → Ev (fun k => g k ((i + 1 : Nat) : Int)) r → Ev (fun k => g k (i : Int)) r)
    (hbad : ∀ i, lo ≤ i → i < n → p i = false → Ev (fun k => g k (i : Int)) bad)
    (fin : ∀ i, n ≤ i → i ≤ n + lo → Ev (fun k => g k (i : Int)) good) : ∀ d a, n - a = d → lo ≤ a → a ≤ n + lo → Ev (fun k => g k (a : Int)) (if (List.range' a (n - a)).all p = true then good else bad) := by
  intro d
  induction d with
  | zero =>
    intro a ha hlo hle
    rw [ha]
    simpa using fin a (by omega) hle
  | succ d ih =>
    intro a ha hlo hle
    rw [ha, List.range'_succ, List.all_cons]
    cases hp : p a with
    | true =>
      have := ih (a + 1) (by omega) (by omega) (by omega)
      rw [show n - (a + 1) = d by omega] at this
      simp only [Bool.true_and]
      exact hgood a _ hlo (by omega) hp this
    | false =>
      simp only [Bool.false_and]
      exact hbad a hlo (by omega) hp
/-- The same where it answers whether all held. -/
theorem all_evB (g : Nat → Int → Option Bool) (p : Nat → Bool) (lo n : Nat)
    (hgood : ∀ i r, lo ≤ i → i < n → p i = true → Ev (fun k => g k ((i + 1 : Nat) : Int)) r → Ev (fun k => g k (i : Int)) r)
    (hbad : ∀ i, lo ≤ i → i < n → p i = false → Ev (fun k => g k (i : Int)) false)
    (fin : ∀ i, n ≤ i → i ≤ n + lo → Ev (fun k => g k (i : Int)) true) : Ev (fun k => g k (lo : Int)) ((List.range' lo (n - lo)).all p) := by
  have h := all_ev g p true false lo n hgood hbad fin (n - lo) lo rfl (Nat.le_refl _) (by omega)
  cases hb : (List.range' lo (n - lo)).all p <;> simpa [hb] using h
/-- A loop that carries a state s; P: what is known of it. -/
theorem fold_ev {σ β : Type} (g : Nat → σ → Int → Option β) (f : σ → Nat → σ) (h : σ → β) (P : Nat → σ → Prop) (n : Nat)
    (step : ∀ s i r, i < n → P i s → (P (i + 1) (f s i) ∧ (Ev (fun k => g k (f s i) ((i + 1 : Nat) : Int)) r → Ev (fun k => g k s (i : Int)) r)))
    (fin : ∀ s, P n s → Ev (fun k => g k s (n : Int)) (h s)) : ∀ d a s, n - a = d → a ≤ n → P a s → Ev (fun k => g k s (a : Int)) (h ((List.range' a (n - a)).foldl f s)) := by
  intro d
  induction d with
  | zero =>
    intro a s ha hle hP
    obtain rfl : a = n := by omega
    simpa using fin s hP
  | succ d ih =>
    intro a s ha hle hP
    rw [ha, List.range'_succ, List.foldl_cons]
    have := step s a (h ((List.range' (a + 1) d).foldl f (f s a))) (by omega) hP
    refine this.2 ?_
    have h2 := ih (a + 1) (f s a) (by omega) (by omega) this.1
    rw [show n - (a + 1) = d by omega] at h2
    exact h2
theorem rd_nat (l : List Int) (i : Nat) (h : i < l.length) : rd l (i : Int) = l[i] := by unfold rd; rw [Int.toNat_natCast]; simp [List.getD_eq_getElem?_getD, h]
theorem all_range (l : List Int) (q : Int → Bool) : (List.range' 0 l.length).all (fun i => q (rd l (i : Int))) = l.all q := by
  rw [Bool.eq_iff_iff, List.all_eq_true, List.all_eq_true]
  constructor
  · intro h x hx
    obtain ⟨i, hi, rfl⟩ := List.getElem_of_mem hx
    have := h i (by simp; omega)
    rwa [rd_nat l i hi] at this
  · intro h i hi
    have hi : i < l.length := by simp at hi; omega
    rw [rd_nat l i hi]
    exact h _ (List.getElem_mem hi)
/-- Strictly increasing. -/
def incr (l : List Int) : Bool := (List.range' 1 (l.length - 1)).all fun i => decide (rd l (i : Int) > rd l ((i : Int) - 1))
theorem incr_iff (l : List Int) : incr l = true ↔ ∀ i, ∀ h : i + 1 < l.length, l[i] < l[i + 1] := by
  unfold incr
  rw [List.all_eq_true]
  constructor
  · intro h i hi
    have := h (i + 1) (by simp; omega)
    rw [rd_nat l (i + 1) hi, show (((i + 1 : Nat) : Int) - 1) = ((i : Nat) : Int) by omega, rd_nat l i (by omega)] at this
    simpa using this
  · intro h i hi
    obtain ⟨j, rfl⟩ : ∃ j, i = j + 1 := ⟨i - 1, by simp at hi; omega⟩
    have hj : j + 1 < l.length := by simp at hi; omega
    rw [rd_nat l (j + 1) hj, show (((j + 1 : Nat) : Int) - 1) = ((j : Nat) : Int) by omega, rd_nat l j (by omega)]
    simpa using h j hj
theorem incr_ge (l : List Int) (h : incr l = true) (h0 : ∀ x ∈ l, 0 ≤ x) : ∀ i (hi : i < l.length), (i : Int) ≤ l[i] := by
  intro i
  induction i with
  | zero => intro hi; exact h0 _ (List.getElem_mem hi)
  | succ i ih =>
    intro hi
    have := ih (by omega)
    have := (incr_iff l).1 h i hi
    omega
theorem incr_len (l : List Int) (h : incr l = true) (m : Int) (hm : l.all (fun x => decide (0 ≤ x) && decide (x ≤ m)) = true) : (l.length : Int) ≤ m + 1 ∨ l = [] := by
  rw [List.all_eq_true] at hm
  by_cases h0 : l = []
  · exact .inr h0
  · left
    have hp := List.length_pos_iff.2 h0
    have h1 := incr_ge l h (fun x hx => by have := hm x hx; simp at this; omega) (l.length - 1) (by omega)
    have h2 := hm _ (List.getElem_mem (show l.length - 1 < l.length by omega))
    simp at h2
    omega

/-! ### bounds -/
def inB (lo hi : Int) (x : Int) : Bool := decide (lo ≤ x) && decide (x ≤ hi)
theorem inB_iff {lo hi x : Int} : inB lo hi x = true ↔ lo ≤ x ∧ x ≤ hi := by simp [inB]
theorem l1In_is (a lo hi : Int) : spec_l1In.f a lo hi = some (inB lo hi a) := by
  unfold spec_l1In.f inB
  by_cases h : a ≥ lo
  · rw [if_pos h, decide_eq_true (show lo ≤ a from h), Bool.true_and]
  · rw [if_neg h, decide_eq_false (show ¬ lo ≤ a from h), Bool.false_and]
theorem within_is (a lo hi : Int) : impl_within.f a lo hi = some (inB lo hi a) := by
  unfold impl_within.f inB
  by_cases h : lo ≤ a
  · rw [if_pos h, decide_eq_true h, Bool.true_and]
  · rw [if_neg h, decide_eq_false h, Bool.false_and]

def cellsOK (a b : Nat) : Bool := match spec_nuChange.f 40 (a : Int) (b : Int) with
  | some v => decide (bits_OnesCount8.f (Go.bits .andNot .u8 (digL.getD b 0) (digL.getD a 0)) = some v.1) && decide (bits_OnesCount8.f (Go.bits .andNot .u8 (digL.getD a 0) (digL.getD b 0)) = some v.2)
  | none => false
theorem all_pairs : ((List.range 10).all fun a => (List.range 10).all fun b => cellsOK a b) = true := by decide +kernel
theorem FnExactCanBecome : laws_FnExactCanBecome.Pure := by
  intro a b c d _ _ _ _
  refine ⟨40, ?_⟩
  unfold laws_FnExactCanBecome.f spec_CanBecome.f impl_CanBecome.f spec_nuDigit.f impl_isDigit.f
  rw [l1In_is, within_is]
  simp only [Option.bind_some]
  cases ha : inB 0 9 a with
  | false => simp
  | true =>
    simp only [if_true]
    rw [l1In_is, within_is]
    simp only [Option.bind_some]
    cases hb : inB 0 9 b with
    | false => simp
    | true =>
      simp only [if_true]
      rw [inB_iff] at ha hb
      by_cases hc : c < 0
      · simp [hc]
      · rw [if_neg hc, if_neg hc]
        by_cases hd : d < 0
        · simp [hd]
        · rw [if_neg hd, if_neg hd, if_pos ha.1, if_pos (by omega), if_pos hb.1, if_pos (by omega)]
          obtain ⟨m, rfl⟩ := Int.eq_ofNat_of_zero_le ha.1
          obtain ⟨n, rfl⟩ := Int.eq_ofNat_of_zero_le hb.1
          have H := all_pairs
          simp only [List.all_eq_true, List.mem_range] at H
          have H := H m (by omega) n (by omega)
          unfold cellsOK at H
          rw [Int.toNat_natCast, Int.toNat_natCast]
          cases hv : spec_nuChange.f 40 (m : Int) (n : Int) with
          | none => rw [hv] at H; simp at H
          | some v =>
            rw [hv] at H
            simp only [Bool.and_eq_true, decide_eq_true_eq] at H
            rw [H.1, H.2]
            simp only [Option.bind_some]
            by_cases hx : v.1 = c
            · simp [hx]
            · simp [hx]

end Go.Proofs.YtdnfmkgcglgdiaaDoor.Pure
