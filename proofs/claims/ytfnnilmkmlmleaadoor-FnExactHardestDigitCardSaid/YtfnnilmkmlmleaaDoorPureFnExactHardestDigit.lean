/- Proved here: the pure statement of FnExactHardestDigit: program and reference find the same digit. Conditions: the text is no longer than memory can hold. -/
import Derived.Test.YtfnnilmkmlmleaaDoorQFnExactHardestDigitx1
set_option linter.unusedVariables false
set_option linter.unusedSimpArgs false
namespace Go.Proofs.YtfnnilmkmlmleaaDoor.Pure
open Go.RowKit Go.Proofs.YtfnnilmkmlmleaaDoor.Q Go.Proofs.YtfnnilmkmlmleaaDoorW.PrintWords Go.Proofs.YtfnnilmkmlmleaaDoorW.PrintLast

/-! ### base: wrapping, 'from some number of rounds on', loops -/
theorem w64 {n : Int} (h0 : -9223372036854775808 ≤ n) (h1 : n ≤ 9223372036854775807) : wrap64 n = n := by unfold wrap64; omega
theorem wf64 {x : Int} (h : (Lit.int .i64 x).wf = true) : -9223372036854775808 ≤ x ∧ x ≤ 9223372036854775807 := by
  simp [Lit.wf, IntKind.min, IntKind.max, IntKind.signed, IntKind.bits] at h
  omega
theorem maxLen_le {n : Nat} (h : n ≤ maxLen) : n ≤ 9223372036854775807 := by unfold maxLen at h; omega
theorem Ev.both {α β : Type} {g : Nat → Option α} {f : Nat → Option β} {a : α} {b : β} (h : Ev g a) (k : Ev f b) : ∃ K, ∀ n, K ≤ n → g n = some a ∧ f n = some b := by
  obtain ⟨K, h⟩ := h
  obtain ⟨K', k⟩ := k
  exact ⟨max K K', fun n hn => ⟨h n (by omega), k n (by omega)⟩⟩
theorem Ev.const {α : Type} {x : Option α} {r : α} (h : x = some r) : Ev (fun _ => x) r := ⟨0, fun _ _ => h⟩
/-- A loop from lo on that ends early with 'bad', or runs through. -/
theorem all_ev {β : Type} (g : Nat → Int → Option β) (p : Nat → Bool) (good bad : β) (lo n : Nat)
    (hgood : ∀ i r, lo ≤ i → i < n → p i = true → Ev (fun k => g k ((i + 1 : Nat) : Int)) r → Ev (fun k => g k (i : Int)) r)
    (hbad : ∀ i, lo ≤ i → i < n → p i = false → Ev (fun k => g k (i : Int)) bad)
    (fin : ∀ i, n ≤ i → i ≤ n + lo → Ev (fun k => g k (i : Int)) good) : ∀ d a, n - a = d → lo ≤ a → a ≤ n + lo → Ev (fun k => g k (a : Int)) (if (List.range' a (n - a)).all p = true then good else bad) := by
  intro d
  induction d with
  | zero =>
    intro a ha hlo hle
    rw [ha]
    simpa using fin a (by omega) hle
  | succ d ih =>
    intro a ha hlo hle
    rw [ha, List.range'_succ, List.all_cons]
    cases hp : p a with
    | true =>
      have := ih (a + 1) (by omega) (by omega) (by omega)
      rw [show n - (a + 1) = d by omega] at this
      simp only [Bool.true_and]
      exact hgood a _ hlo (by omega) hp this
    | false =>
      simp only [Bool.false_and]
      exact hbad a hlo (by omega) hp
/-- The same where it answers whether all held. -/
theorem all_evB (g : Nat → Int → Option Bool) (p : Nat → Bool) (lo n : Nat)
    (hgood : ∀ i r, lo ≤ i → i < n → p i = true → Ev (fun k => g k ((i + 1 : Nat) : Int)) r → Ev (fun k => g k (i : Int)) r)
    (hbad : ∀ i, lo ≤ i → i < n → p i = false → Ev (fun k => g k (i : Int)) false)
    (fin : ∀ i, n ≤ i → i ≤ n + lo → Ev (fun k => g k (i : Int)) true) : Ev (fun k => g k (lo : Int)) ((List.range' lo (n - lo)).all p) := by
  have h := all_ev g p true false lo n hgood hbad fin (n - lo) lo rfl (Nat.le_refl _) (by omega)
  cases hb : (List.range' lo (n - lo)).all p <;> simpa [hb] using h
/-- A loop that carries a state s; P: what is known of it. -/
theorem fold_ev {σ β : Type} (g : Nat → σ → Int → Option β) (f : σ → Nat → σ) (h : σ → β) (P : Nat → σ → Prop) (n : Nat)
    (step : ∀ s i r, i < n → P i s → (P (i + 1) (f s i) ∧ (Ev (fun k => g k (f s i) ((i + 1 : Nat) : Int)) r → Ev (fun k => g k s (i : Int)) r)))
    (fin : ∀ s, P n s → Ev (fun k => g k s (n : Int)) (h s)) : ∀ d a s, n - a = d → a ≤ n → P a s → Ev (fun k => g k s (a : Int)) (h ((List.range' a (n - a)).foldl f s)) := by
  intro d
  induction d with
  | zero =>
    intro a s ha hle hP
    obtain rfl : a = n := by omega
    simpa using fin s hP
  | succ d ih =>
    intro a s ha hle hP
    rw [ha, List.range'_succ, List.foldl_cons]
    have := step s a (h ((List.range' (a + 1) d).foldl f (f s a))) (by omega) hP
    refine this.2 ?_
    have h2 := ih (a + 1) (f s a) (by omega) (by omega) this.1
    rw [show n - (a + 1) = d by omega] at h2
    exact h2
theorem rd_nat (l : List Int) (i : Nat) (h : i < l.length) : rd l (i : Int) = l[i] := by unfold rd; rw [Int.toNat_natCast]; simp [List.getD_eq_getElem?_getD, h]
theorem all_range (l : List Int) (q : Int → Bool) : (List.range' 0 l.length).all (fun i => q (rd l (i : Int))) = l.all q := by
  rw [Bool.eq_iff_iff, List.all_eq_true, List.all_eq_true]
  constructor
  · intro h x hx
    obtain ⟨i, hi, rfl⟩ := List.getElem_of_mem hx
    have := h i (by simp; omega)
    rwa [rd_nat l i hi] at this
  · intro h i hi
    have hi : i < l.length := by simp at hi; omega
    rw [rd_nat l i hi]
    exact h _ (List.getElem_mem hi)
/-- Strictly increasing. -/
def incr (l : List Int) : Bool := (List.range' 1 (l.length - 1)).all fun i => decide (rd l (i : Int) > rd l ((i : Int) - 1))
theorem incr_iff (l : List Int) : incr l = true ↔ ∀ i, ∀ h : i + 1 < l.length, l[i] < l[i + 1] := by
  unfold incr
  rw [List.all_eq_true]
  constructor
  · intro h i hi
    have := h (i + 1) (by simp; omega)
    rw [rd_nat l (i + 1) hi, show (((i + 1 : Nat) : Int) - 1) = ((i : Nat) : Int) by omega, rd_nat l i (by omega)] at this
    simpa using this
  · intro h i hi
    obtain ⟨j, rfl⟩ : ∃ j, i = j + 1 := ⟨i - 1, by simp at hi; omega⟩
    have hj : j + 1 < l.length := by simp at hi; omega
    rw [rd_nat l (j + 1) hj, show (((j + 1 : Nat) : Int) - 1) = ((j : Nat) : Int) by omega, rd_nat l j (by omega)]
    simpa using h j hj
theorem incr_ge (l : List Int) (h : incr l = true) (h0 : ∀ x ∈ l, 0 ≤ x) : ∀ i (hi : i < l.length), (i : Int) ≤ l[i] := by
  intro i
  induction i with
  | zero => intro hi; exact h0 _ (List.getElem_mem hi)
  | succ i ih =>
    intro hi
    have := ih (by omega)
    have := (incr_iff l).1 h i hi
    omega
theorem incr_len (l : List Int) (h : incr l = true) (m : Int) (hm : l.all (fun x => decide (0 ≤ x) && decide (x ≤ m)) = true) : (l.length : Int) ≤ m + 1 ∨ l = [] := by
  rw [List.all_eq_true] at hm
  by_cases h0 : l = []
  · exact .inr h0
  · left
    have hp := List.length_pos_iff.2 h0
    have h1 := incr_ge l h (fun x hx => by have := hm x hx; simp at this; omega) (l.length - 1) (by omega)
    have h2 := hm _ (List.getElem_mem (show l.length - 1 < l.length by omega))
    simp at h2
    omega

/-! ### bounds -/
def inB (lo hi : Int) (x : Int) : Bool := decide (lo ≤ x) && decide (x ≤ hi)
theorem inB_iff {lo hi x : Int} : inB lo hi x = true ↔ lo ≤ x ∧ x ≤ hi := by simp [inB]
theorem l1In_is (a lo hi : Int) : spec_l1In.f a lo hi = some (inB lo hi a) := by
  unfold spec_l1In.f inB
  by_cases h : a ≥ lo
  · rw [if_pos h, decide_eq_true (show lo ≤ a from h), Bool.true_and]
  · rw [if_neg h, decide_eq_false (show ¬ lo ≤ a from h), Bool.false_and]
theorem within_is (a lo hi : Int) : impl_within.f a lo hi = some (inB lo hi a) := by
  unfold impl_within.f inB
  by_cases h : lo ≤ a
  · rw [if_pos h, decide_eq_true h, Bool.true_and]
  · rw [if_neg h, decide_eq_false h, Bool.false_and]

/-! ### numerals: the bytes of a text -/
theorem bt_nat (s : ByteArray) (i : Nat) (h : i < s.data.toList.length) : bt s (i : Int) = ((s.data.toList[i].toNat : Nat) : Int) := by
  have hs : i < s.size := by rw [Array.length_toList] at h; exact h
  rw [← bt_at s (i : Int) (by rw [Int.toNat_natCast]; exact hs)]
  rfl
theorem size_list (s : ByteArray) : s.data.toList.length = s.size := by rw [Array.length_toList]; rfl
theorem toList_nil (s : ByteArray) : (s.toList == ([] : List UInt8)) = (s.data.toList).isEmpty := by
  rw [Go.Lib.toList_data]
  cases s.data.toList with
  | nil => rfl
  | cons a l => rfl
def digs : List UInt8 := [48, 49, 50, 51, 52, 53, 54, 55, 56, 57]
def digB (b : UInt8) : Bool := decide (48 ≤ b.toNat) && decide (b.toNat ≤ 57)
theorem digs_all : ((List.range 256).all fun n => decide (digs.contains (UInt8.ofNat n) = digB (UInt8.ofNat n))) = true := by decide +kernel
theorem digs_is (b : UInt8) : digs.contains b = digB b := by
  have h := digs_all
  simp only [List.all_eq_true, List.mem_range, decide_eq_true_eq] at h
  have := h b.toNat b.toNat_lt
  rwa [UInt8.ofNat_toNat] at this
theorem dropWhile_nil {α : Type} (p : α → Bool) : ∀ l : List α, (l.dropWhile p).isEmpty = l.all p
  | [] => rfl
  | x :: l => by
    rw [List.dropWhile_cons, List.all_cons]
    cases h : p x with
    | true => simp [dropWhile_nil p l]
    | false => simp
theorem dropWhile_all {α : Type} (p : α → Bool) : ∀ l : List α, (l.dropWhile p).all p = l.all p
  | [] => rfl
  | x :: l => by
    rw [List.dropWhile_cons, List.all_cons]
    cases h : p x with
    | true => simp [dropWhile_all p l]
    | false => simp [h]
/-- Nothing is left where all go. -/
theorem trim_nil (l cs : List UInt8) : (Go.Lib.trimS l cs).isEmpty = l.all (cs.contains ·) := by
  unfold Go.Lib.trimS Go.Lib.trimLeftS Go.Lib.trimRightS
  rw [dropWhile_nil, List.all_reverse, dropWhile_all, List.all_reverse]
theorem trim_is (s : ByteArray) (hs : s.size ≤ 1000000) : strings_Trim.f s (⟨#[48, 49, 50, 51, 52, 53, 54, 55, 56, 57]⟩ : ByteArray) = some ⟨(Go.Lib.trimS s.data.toList digs).toArray⟩ := by
  unfold strings_Trim.f
  rw [if_pos ⟨by omega, by decide, by decide⟩]
  rfl
theorem isNumeral_is (s : ByteArray) (n : Int) (hn : n ≤ 1000000) : impl_isNumeral.f s n = some (inB 1 n (s.size : Int) && s.data.toList.all digB) := by
  unfold impl_isNumeral.f
  rw [within_is, Option.bind_some]
  cases hi : inB 1 n (s.size : Int) with
  | false => rw [if_neg (by decide), Bool.false_and]
  | true =>
    rw [inB_iff] at hi
    rw [if_pos rfl, trim_is s (by omega), Option.bind_some, toList_nil, Bool.true_and]
    show some (Go.Lib.trimS s.data.toList digs).isEmpty = _
    rw [trim_nil]
    congr 1
    exact congrArg s.data.toList.all (funext digs_is)
theorem digB_iff {b : UInt8} : digB b = true ↔ 48 ≤ b.toNat ∧ b.toNat ≤ 57 := by simp [digB]
theorem nuNumeral_ev (s : ByteArray) (n : Int) (hs : s.size ≤ 1000000) : Ev (fun k => spec_nuNumeral.f k s n) (inB 1 n (s.size : Int) && s.data.toList.all digB) := by
  unfold spec_nuNumeral.f
  rw [l1In_is]
  simp only [Option.bind_some]
  cases hi : inB 1 n (s.size : Int) with
  | false => exact Ev.const (by simp)
  | true =>
    simp only [if_true, Bool.true_and]
    have hz := size_list s
    have h := all_evB (fun k i => spec_nuNumeral.l0 k s i) (fun i => digB (s.data.toList.getD i 0)) 0 s.size
      (fun i r _ hi hp hr => Ev.step (fun k => by
        have hb := bt_nat s i (by omega)
        rw [List.getD_eq_getElem?_getD, List.getElem?_eq_getElem (by omega), Option.getD_some, digB_iff] at hp
        simp only [spec_nuNumeral.l0]
        rw [if_pos (by omega), if_pos (by omega), hb, if_neg (by omega), if_neg (by omega), w64 (by omega) (by omega)]
        rfl) hr)
      (fun i _ hi hp => Ev.step (f := fun _ => some false) (fun k => by
        have hb := bt_nat s i (by omega)
        rw [List.getD_eq_getElem?_getD, List.getElem?_eq_getElem (by omega), Option.getD_some, Bool.eq_false_iff, Ne, digB_iff] at hp
        simp only [spec_nuNumeral.l0]
        rw [if_pos (by omega), if_pos (by omega), hb]
        by_cases h1 : ((s.data.toList[i].toNat : Nat) : Int) < 48
        · rw [if_pos h1]
        · rw [if_neg h1, if_pos (by omega)]) (Ev.now false))
      (fun i hi _ => Ev.step (fun k => by simp only [spec_nuNumeral.l0]; rw [if_neg (by omega)]) (Ev.now true))
    have e : (List.range' 0 (s.size - 0)).all (fun i => digB (s.data.toList.getD i 0)) = s.data.toList.all digB := by
      rw [Nat.sub_zero, Bool.eq_iff_iff, List.all_eq_true, List.all_eq_true]
      constructor
      · intro h x hx
        obtain ⟨i, hi, rfl⟩ := List.getElem_of_mem hx
        have := h i (by simp; omega)
        rwa [List.getD_eq_getElem?_getD, List.getElem?_eq_getElem hi, Option.getD_some] at this
      · intro h i hi
        have hi : i < s.data.toList.length := by simp at hi; omega
        rw [List.getD_eq_getElem?_getD, List.getElem?_eq_getElem hi, Option.getD_some]
        exact h _ (List.getElem_mem hi)
    rw [e] at h
    exact h
/-- What a digit is laid of. -/
def costL : List Int := [6, 2, 5, 5, 4, 5, 6, 3, 7, 6]
def costOK (d : Nat) : Bool := decide (impl_matchesOf.f (d : Int) = some (rd costL (d : Int))) && (match spec_nuPlaces.f (d : Int) with
  | some p => decide ((p.length : Int) = rd costL (d : Int))
  | none => false)
theorem cost_all : ((List.range 10).all costOK) = true := by decide +kernel
theorem cost_at (d : Nat) (h : d < 10) : impl_matchesOf.f (d : Int) = some (rd costL (d : Int)) ∧ ∃ p, spec_nuPlaces.f (d : Int) = some p ∧ (p.length : Int) = rd costL (d : Int) := by
  have H := cost_all
  simp only [List.all_eq_true, List.mem_range] at H
  have H := H d h
  unfold costOK at H
  rw [Bool.and_eq_true] at H
  refine ⟨of_decide_eq_true H.1, ?_⟩
  have H2 := H.2
  cases hp : spec_nuPlaces.f (d : Int) with
  | none => rw [hp] at H2; cases H2
  | some p => rw [hp] at H2; exact ⟨p, rfl, of_decide_eq_true H2⟩
theorem rd_cost (d : Nat) (h : d < 10) : 2 ≤ rd costL (d : Int) ∧ rd costL (d : Int) ≤ 7 := by
  have hc : d = 0 ∨ d = 1 ∨ d = 2 ∨ d = 3 ∨ d = 4 ∨ d = 5 ∨ d = 6 ∨ d = 7 ∨ d = 8 ∨ d = 9 := by omega
  rcases hc with rfl | rfl | rfl | rfl | rfl | rfl | rfl | rfl | rfl | rfl <;> decide
theorem dig_num {b : UInt8} (h : digB b = true) : (((b.toNat : Nat) : Int) - 48) % 256 = ((b.toNat - 48 : Nat) : Int) ∧ b.toNat - 48 < 10 := by
  rw [digB_iff] at h
  omega

def hardV : List UInt8 → Nat → Nat
  | [], o => o
  | b :: bs, o => if rd costL ((b.toNat - 48 : Nat) : Int) > rd costL (o : Int) then hardV bs (b.toNat - 48) else if rd costL ((b.toNat - 48 : Nat) : Int) = rd costL (o : Int) then (if ((b.toNat - 48 : Nat) : Int) < (o : Int) then hardV bs (b.toNat - 48) else hardV bs o) else hardV bs o
theorem hardL_is : ∀ (l : List UInt8) (o : Nat), l.all digB = true → o < 10 → hardL l (o : Int) = some ((hardV l o : Nat) : Int)
  | [], o, _, _ => rfl
  | b :: bs, o, hd, ho => by
    rw [List.all_cons, Bool.and_eq_true] at hd
    obtain ⟨e, hb⟩ := dig_num hd.1
    unfold hardL hardV
    rw [e, (cost_at _ hb).1, Option.bind_some, (cost_at _ ho).1, Option.bind_some]
    by_cases c1 : rd costL ((b.toNat - 48 : Nat) : Int) > rd costL (o : Int)
    · rw [if_pos c1, if_pos c1]
      exact hardL_is bs _ hd.2 hb
    · rw [if_neg c1, if_neg c1]
      by_cases c2 : rd costL ((b.toNat - 48 : Nat) : Int) = rd costL (o : Int)
      · rw [if_pos c2, if_pos c2]
        by_cases c3 : ((b.toNat - 48 : Nat) : Int) < (o : Int)
        · rw [if_pos c3, if_pos c3]
          exact hardL_is bs _ hd.2 hb
        · rw [if_neg c3, if_neg c3]
          exact hardL_is bs _ hd.2 ho
      · rw [if_neg c2, if_neg c2]
        exact hardL_is bs _ hd.2 ho
theorem hardS_ev (s : ByteArray) (hs : s.size ≤ 1000000) (hd : s.data.toList.all digB = true) : ∀ (d a : Nat) (o : Nat), a + d = s.size → o < 10 → Ev (fun k => spec_HardestDigit.l0 k s (o : Int) (a : Int)) (((hardV (s.data.toList.drop a) o : Nat) : Int), true) := by
  have hz := size_list s
  intro d
  induction d with
  | zero =>
    intro a o ha _
    rw [List.drop_of_length_le (by omega)]
    exact Ev.step (f := fun _ => some ((o : Int), true)) (fun k => by simp only [spec_HardestDigit.l0]; rw [if_neg (by omega)]) (Ev.now _)
  | succ d ih =>
    intro a o ha ho
    have hlt : a < s.data.toList.length := by omega
    have hb : digB s.data.toList[a] = true := List.all_eq_true.1 hd _ (List.getElem_mem hlt)
    obtain ⟨e, hn⟩ := dig_num hb
    obtain ⟨_, p, hp, hl⟩ := cost_at _ hn
    obtain ⟨_, q, hq, hm⟩ := cost_at _ ho
    rw [List.drop_eq_getElem_cons hlt]
    unfold hardV
    by_cases c1 : rd costL ((s.data.toList[a].toNat - 48 : Nat) : Int) > rd costL (o : Int)
    · rw [if_pos c1]
      refine Ev.step (fun k => ?_) (ih (a + 1) (s.data.toList[a].toNat - 48) (by omega) hn)
      simp only [spec_HardestDigit.l0]
      rw [if_pos (by omega), if_pos (by omega), bt_nat s a hlt, e, hp, Option.bind_some, hq, Option.bind_some, hl, hm, if_pos c1, w64 (n := (a : Int) + 1) (by omega) (by omega)]
      rfl
    · rw [if_neg c1]
      by_cases c2 : rd costL ((s.data.toList[a].toNat - 48 : Nat) : Int) = rd costL (o : Int)
      · rw [if_pos c2]
        by_cases c3 : ((s.data.toList[a].toNat - 48 : Nat) : Int) < (o : Int)
        · rw [if_pos c3]
          refine Ev.step (fun k => ?_) (ih (a + 1) (s.data.toList[a].toNat - 48) (by omega) hn)
          simp only [spec_HardestDigit.l0]
          rw [if_pos (by omega), if_pos (by omega), bt_nat s a hlt, e, hp, Option.bind_some, hq, Option.bind_some, hl, hm, if_neg c1, if_pos c2, if_pos c3, w64 (n := (a : Int) + 1) (by omega) (by omega)]
          rfl
        · rw [if_neg c3]
          refine Ev.step (fun k => ?_) (ih (a + 1) o (by omega) ho)
          simp only [spec_HardestDigit.l0]
          rw [if_pos (by omega), if_pos (by omega), bt_nat s a hlt, e, hp, Option.bind_some, hq, Option.bind_some, hl, hm, if_neg c1, if_pos c2, if_neg c3, w64 (n := (a : Int) + 1) (by omega) (by omega)]
          rfl
      · rw [if_neg c2]
        refine Ev.step (fun k => ?_) (ih (a + 1) o (by omega) ho)
        simp only [spec_HardestDigit.l0]
        rw [if_pos (by omega), if_pos (by omega), bt_nat s a hlt, e, hp, Option.bind_some, hq, Option.bind_some, hl, hm, if_neg c1, if_neg c2, w64 (n := (a : Int) + 1) (by omega) (by omega)]
        rfl
theorem FnExactHardestDigit : laws_FnExactHardestDigit.Pure := by
  intro s _
  by_cases hs : s.size ≤ 1000000
  · have hmain : ∃ v, Ev (fun k => spec_HardestDigit.f k s) v ∧ impl_HardestDigit.f s = some v := by
      unfold spec_HardestDigit.f impl_HardestDigit.f
      rw [if_pos hs, isNumeral_is s 20 (by omega), Option.bind_some]
      have hn := nuNumeral_ev s 20 hs
      cases hb : (inB 1 20 (s.size : Int) && s.data.toList.all digB) with
      | false =>
        rw [hb] at hn
        exact ⟨(0, false), Ev.bind hn (Ev.const (by simp)), by simp⟩
      | true =>
        rw [hb] at hn
        rw [Bool.and_eq_true, inB_iff] at hb
        have hz := size_list s
        have hlt : 0 < s.data.toList.length := by omega
        have hb0 : digB s.data.toList[0] = true := List.all_eq_true.1 hb.2 _ (List.getElem_mem hlt)
        obtain ⟨e, hn0⟩ := dig_num hb0
        have e0 : (((s.data.toList.getD 0 0).toNat : Int) - (48 : Int)) % (256 : Int) = ((s.data.toList[0].toNat - 48 : Nat) : Int) := by
          rw [List.getD_eq_getElem?_getD, List.getElem?_eq_getElem hlt, Option.getD_some]
          exact e
        have eb : (bt s 0 - (48 : Int)) % (256 : Int) = ((s.data.toList[0].toNat - 48 : Nat) : Int) := by
          have := bt_nat s 0 hlt
          rw [show bt s 0 = ((s.data.toList[0].toNat : Nat) : Int) from this]
          exact e
        refine ⟨(((hardV s.data.toList (s.data.toList[0].toNat - 48) : Nat) : Int), true), Ev.bind hn ?_, ?_⟩
        · have h9 := hardS_ev s hs hb.2 s.size 0 (s.data.toList[0].toNat - 48) (by omega) hn0
          rw [List.drop_zero] at h9
          refine Ev.congr (fun k => (if_pos rfl).trans ((if_pos (by omega)).trans ?_)) h9
          rw [eb]
          rfl
        · rw [if_pos rfl, if_pos (by omega), e0, hardL_is _ _ hb.2 hn0, Option.bind_some]
    obtain ⟨v, ⟨K, hK⟩, hi⟩ := hmain
    have hK0 : spec_HardestDigit.f K s = some v := hK K (Nat.le_refl _)
    refine ⟨K, ?_⟩
    unfold laws_FnExactHardestDigit.f
    rw [if_neg (by omega), hK0, Option.bind_some, hi, Option.bind_some, if_pos rfl, if_neg (by simp)]
  · refine ⟨0, ?_⟩
    unfold laws_FnExactHardestDigit.f
    rw [if_pos (by omega)]

end Go.Proofs.YtfnnilmkmlmleaaDoor.Pure
