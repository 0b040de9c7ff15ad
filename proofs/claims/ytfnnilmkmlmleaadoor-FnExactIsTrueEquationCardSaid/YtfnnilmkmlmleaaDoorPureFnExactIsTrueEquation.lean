/- Proved here: the pure statement of FnExactIsTrueEquation: program and reference hold the same equations for true. Conditions: the text is no longer than memory can hold. -/
import Derived.Test.YtfnnilmkmlmleaaDoorQFnExactIsTrueEquationx3
set_option linter.unusedVariables false
set_option linter.unusedSimpArgs false
namespace Go.Proofs.YtfnnilmkmlmleaaDoor.Pure
open Go.RowKit Go.Proofs.YtfnnilmkmlmleaaDoor.Q Go.Proofs.YtfnnilmkmlmleaaDoorW.PrintWords Go.Proofs.YtfnnilmkmlmleaaDoorW.PrintLast

/-! ### base: wrapping, 'from some number of rounds on', loops -/
theorem w64 {n : Int} (h0 : -9223372036854775808 ≤ n) (h1 : n ≤ 9223372036854775807) : wrap64 n = n := by unfold wrap64; omega
theorem wf64 {x : Int} (h : (Lit.int .i64 x).wf = true) : -9223372036854775808 ≤ x ∧ x ≤ 9223372036854775807 := by
  simp [Lit.wf, IntKind.min, IntKind.max, IntKind.signed, IntKind.bits] at h
  omega
theorem maxLen_le {n : Nat} (h : n ≤ maxLen) : n ≤ 9223372036854775807 := by unfold maxLen at h; omega
theorem Ev.both {α β : Type} {g : Nat → Option α} {f : Nat → Option β} {a : α} {b : β} (h : Ev g a) (k : Ev f b) : ∃ K, ∀ n, K ≤ n → g n = some a ∧ f n = some b := by
  obtain ⟨K, h⟩ := h
  obtain ⟨K', k⟩ := k
  exact ⟨max K K', fun n hn => ⟨h n (by omega), k n (by omega)⟩⟩
theorem Ev.const {α : Type} {x : Option α} {r : α} (h : x = some r) : Ev (fun _ => x) r := ⟨0, fun _ _ => h⟩
/-- A loop from lo on that ends early with 'bad', or runs through. -/
theorem all_ev {β : Type} (g : Nat → Int → Option β) (p : Nat → Bool) (good bad : β) (lo n : Nat)
    (hgood : ∀ i r, lo ≤ i → i < n → p i = true → Ev (fun k => g k ((i + 1 : Nat) : Int)) r → Ev (fun k => g k (i : Int)) r)
    (hbad : ∀ i, lo ≤ i → i < n → p i = false → Ev (fun k => g k (i : Int)) bad)
    (fin : ∀ i, n ≤ i → i ≤ n + lo → Ev (fun k => g k (i : Int)) good) : ∀ d a, n - a = d → lo ≤ a → a ≤ n + lo → Ev (fun k => g k (a : Int)) (if (List.range' a (n - a)).all p = true then good else bad) := by
  intro d
  induction d with
  | zero =>
    intro a ha hlo hle
    rw [ha]
    simpa using fin a (by omega) hle
  | succ d ih =>
    intro a ha hlo hle
    rw [ha, List.range'_succ, List.all_cons]
    cases hp : p a with
    | true =>
      have := ih (a + 1) (by omega) (by omega) (by omega)
      rw [show n - (a + 1) = d by omega] at this
      simp only [Bool.true_and]
      exact hgood a _ hlo (by omega) hp this
    | false =>
      simp only [Bool.false_and]
      exact hbad a hlo (by omega) hp
/-- The same where it answers whether all held. -/
theorem all_evB (g : Nat → Int → Option Bool) (p : Nat → Bool) (lo n : Nat)
    (hgood : ∀ i r, lo ≤ i → i < n → p i = true → Ev (fun k => g k ((i + 1 : Nat) : Int)) r → Ev (fun k => g k (i : Int)) r)
    (hbad : ∀ i, lo ≤ i → i < n → p i = false → Ev (fun k => g k (i : Int)) false)
    (fin : ∀ i, n ≤ i → i ≤ n + lo → Ev (fun k => g k (i : Int)) true) : Ev (fun k => g k (lo : Int)) ((List.range' lo (n - lo)).all p) := by
  have h := all_ev g p true false lo n hgood hbad fin (n - lo) lo rfl (Nat.le_refl _) (by omega)
  cases hb : (List.range' lo (n - lo)).all p <;> simpa [hb] using h
/-- A loop that carries a state s; P: what is known of it. -/
theorem fold_ev {σ β : Type} (g : Nat → σ → Int → Option β) (f : σ → Nat → σ) (h : σ → β) (P : Nat → σ → Prop) (n : Nat)
    (step : ∀ s i r, i < n → P i s → (P (i + 1) (f s i) ∧ (Ev (fun k => g k (f s i) ((i + 1 : Nat) : Int)) r → Ev (fun k => g k s (i : Int)) r)))
    (fin : ∀ s, P n s → Ev (fun k => g k s (n : Int)) (h s)) : ∀ d a s, n - a = d → a ≤ n → P a s → Ev (fun k => g k s (a : Int)) (h ((List.range' a (n - a)).foldl f s)) := by
  intro d
  induction d with
  | zero =>
    intro a s ha hle hP
    obtain rfl : a = n := by omega
    simpa using fin s hP
  | succ d ih =>
    intro a s ha hle hP
    rw [ha, List.range'_succ, List.foldl_cons]
    have := step s a (h ((List.range' (a + 1) d).foldl f (f s a))) (by omega) hP
    refine this.2 ?_
    have h2 := ih (a + 1) (f s a) (by omega) (by omega) this.1
    rw [show n - (a + 1) = d by omega] at h2
    exact h2
theorem rd_nat (l : List Int) (i : Nat) (h : i < l.length) : rd l (i : Int) = l[i] := by unfold rd; rw [Int.toNat_natCast]; simp [List.getD_eq_getElem?_getD, h]
theorem all_range (l : List Int) (q : Int → Bool) : (List.range' 0 l.length).all (fun i => q (rd l (i : Int))) = l.all q := by
  rw [Bool.eq_iff_iff, List.all_eq_true, List.all_eq_true]
  constructor
  · intro h x hx
    obtain ⟨i, hi, rfl⟩ := List.getElem_of_mem hx
    have := h i (by simp; omega)
    rwa [rd_nat l i hi] at this
  · intro h i hi
    have hi : i < l.length := by simp at hi; omega
    rw [rd_nat l i hi]
    exact h _ (List.getElem_mem hi)
/-- Strictly increasing. -/
def incr (l : List Int) : Bool := (List.range' 1 (l.length - 1)).all fun i => decide (rd l (i : Int) > rd l ((i : Int) - 1))
theorem incr_iff (l : List Int) : incr l = true ↔ ∀ i, ∀ h : i + 1 < l.length, l[i] < l[i + 1] := by
  unfold incr
  rw [List.all_eq_true]
  constructor
  · intro h i hi
    have := h (i + 1) (by simp; omega)
    rw [rd_nat l (i + 1) hi, show (((i + 1 : Nat) : Int) - 1) = ((i : Nat) : Int) by omega, rd_nat l i (by omega)] at this
    simpa using this
  · intro h i hi
    obtain ⟨j, rfl⟩ : ∃ j, i = j + 1 := ⟨i - 1, by simp at hi; omega⟩
    have hj : j + 1 < l.length := by simp at hi; omega
    rw [rd_nat l (j + 1) hj, show (((j + 1 : Nat) : Int) - 1) = ((j : Nat) : Int) by omega, rd_nat l j (by omega)]
    simpa using h j hj
theorem incr_ge (l : List Int) (h : incr l = true) (h0 : ∀ x ∈ l, 0 ≤ x) : ∀ i (hi : i < l.length), (i : Int) ≤ l[i] := by
  intro i
  induction i with
  | zero => intro hi; exact h0 _ (List.getElem_mem hi)
  | succ i ih =>
    intro hi
    have := ih (by omega)
    have := (incr_iff l).1 h i hi
    omega
theorem incr_len (l : List Int) (h : incr l = true) (m : Int) (hm : l.all (fun x => decide (0 ≤ x) && decide (x ≤ m)) = true) : (l.length : Int) ≤ m + 1 ∨ l = [] := by
  rw [List.all_eq_true] at hm
  by_cases h0 : l = []
  · exact .inr h0
  · left
    have hp := List.length_pos_iff.2 h0
    have h1 := incr_ge l h (fun x hx => by have := hm x hx; simp at this; omega) (l.length - 1) (by omega)
    have h2 := hm _ (List.getElem_mem (show l.length - 1 < l.length by omega))
    simp at h2
    omega

/-! ### bounds -/
def inB (lo hi : Int) (x : Int) : Bool := decide (lo ≤ x) && decide (x ≤ hi)
theorem inB_iff {lo hi x : Int} : inB lo hi x = true ↔ lo ≤ x ∧ x ≤ hi := by simp [inB]
theorem l1In_is (a lo hi : Int) : spec_l1In.f a lo hi = some (inB lo hi a) := by
  unfold spec_l1In.f inB
  by_cases h : a ≥ lo
  · rw [if_pos h, decide_eq_true (show lo ≤ a from h), Bool.true_and]
  · rw [if_neg h, decide_eq_false (show ¬ lo ≤ a from h), Bool.false_and]
theorem within_is (a lo hi : Int) : impl_within.f a lo hi = some (inB lo hi a) := by
  unfold impl_within.f inB
  by_cases h : lo ≤ a
  · rw [if_pos h, decide_eq_true h, Bool.true_and]
  · rw [if_neg h, decide_eq_false h, Bool.false_and]

/-! ### numerals: the bytes of a text -/
theorem bt_nat (s : ByteArray) (i : Nat) (h : i < s.data.toList.length) : bt s (i : Int) = ((s.data.toList[i].toNat : Nat) : Int) := by
  have hs : i < s.size := by rw [Array.length_toList] at h; exact h
  rw [← bt_at s (i : Int) (by rw [Int.toNat_natCast]; exact hs)]
  rfl
theorem size_list (s : ByteArray) : s.data.toList.length = s.size := by rw [Array.length_toList]; rfl
theorem toList_nil (s : ByteArray) : (s.toList == ([] : List UInt8)) = (s.data.toList).isEmpty := by
  rw [Go.Lib.toList_data]
  cases s.data.toList with
  | nil => rfl
  | cons a l => rfl
def digs : List UInt8 := [48, 49, 50, 51, 52, 53, 54, 55, 56, 57]
def digB (b : UInt8) : Bool := decide (48 ≤ b.toNat) && decide (b.toNat ≤ 57)
theorem digs_all : ((List.range 256).all fun n => decide (digs.contains (UInt8.ofNat n) = digB (UInt8.ofNat n))) = true := by decide +kernel
theorem digs_is (b : UInt8) : digs.contains b = digB b := by
  have h := digs_all
  simp only [List.all_eq_true, List.mem_range, decide_eq_true_eq] at h
  have := h b.toNat b.toNat_lt
  rwa [UInt8.ofNat_toNat] at this
theorem dropWhile_nil {α : Type} (p : α → Bool) : ∀ l : List α, (l.dropWhile p).isEmpty = l.all p
  | [] => rfl
  | x :: l => by
    rw [List.dropWhile_cons, List.all_cons]
    cases h : p x with
    | true => simp [dropWhile_nil p l]
    | false => simp
theorem dropWhile_all {α : Type} (p : α → Bool) : ∀ l : List α, (l.dropWhile p).all p = l.all p
  | [] => rfl
  | x :: l => by
    rw [List.dropWhile_cons, List.all_cons]
    cases h : p x with
    | true => simp [dropWhile_all p l]
    | false => simp [h]
/-- Nothing is left where all go. -/
theorem trim_nil (l cs : List UInt8) : (Go.Lib.trimS l cs).isEmpty = l.all (cs.contains ·) := by
  unfold Go.Lib.trimS Go.Lib.trimLeftS Go.Lib.trimRightS
  rw [dropWhile_nil, List.all_reverse, dropWhile_all, List.all_reverse]
theorem trim_is (s : ByteArray) (hs : s.size ≤ 1000000) : strings_Trim.f s (⟨#[48, 49, 50, 51, 52, 53, 54, 55, 56, 57]⟩ : ByteArray) = some ⟨(Go.Lib.trimS s.data.toList digs).toArray⟩ := by
  unfold strings_Trim.f
  rw [if_pos ⟨by omega, by decide, by decide⟩]
  rfl
theorem isNumeral_is (s : ByteArray) (n : Int) (hn : n ≤ 1000000) : impl_isNumeral.f s n = some (inB 1 n (s.size : Int) && s.data.toList.all digB) := by
  unfold impl_isNumeral.f
  rw [within_is, Option.bind_some]
  cases hi : inB 1 n (s.size : Int) with
  | false => rw [if_neg (by decide), Bool.false_and]
  | true =>
    rw [inB_iff] at hi
    rw [if_pos rfl, trim_is s (by omega), Option.bind_some, toList_nil, Bool.true_and]
    show some (Go.Lib.trimS s.data.toList digs).isEmpty = _
    rw [trim_nil]
    congr 1
    exact congrArg s.data.toList.all (funext digs_is)
theorem digB_iff {b : UInt8} : digB b = true ↔ 48 ≤ b.toNat ∧ b.toNat ≤ 57 := by simp [digB]
theorem nuNumeral_ev (s : ByteArray) (n : Int) (hs : s.size ≤ 1000000) : Ev (fun k => spec_nuNumeral.f k s n) (inB 1 n (s.size : Int) && s.data.toList.all digB) := by
  unfold spec_nuNumeral.f
  rw [l1In_is]
  simp only [Option.bind_some]
  cases hi : inB 1 n (s.size : Int) with
  | false => exact Ev.const (by simp)
  | true =>
    simp only [if_true, Bool.true_and]
    have hz := size_list s
    have h := all_evB (fun k i => spec_nuNumeral.l0 k s i) (fun i => digB (s.data.toList.getD i 0)) 0 s.size
      (fun i r _ hi hp hr => Ev.step (fun k => by
        have hb := bt_nat s i (by omega)
        rw [List.getD_eq_getElem?_getD, List.getElem?_eq_getElem (by omega), Option.getD_some, digB_iff] at hp
        simp only [spec_nuNumeral.l0]
        rw [if_pos (by omega), if_pos (by omega), hb, if_neg (by omega), if_neg (by omega), w64 (by omega) (by omega)]
        rfl) hr)
      (fun i _ hi hp => Ev.step (f := fun _ => some false) (fun k => by
        have hb := bt_nat s i (by omega)
        rw [List.getD_eq_getElem?_getD, List.getElem?_eq_getElem (by omega), Option.getD_some, Bool.eq_false_iff, Ne, digB_iff] at hp
        simp only [spec_nuNumeral.l0]
        rw [if_pos (by omega), if_pos (by omega), hb]
        by_cases h1 : ((s.data.toList[i].toNat : Nat) : Int) < 48
        · rw [if_pos h1]
        · rw [if_neg h1, if_pos (by omega)]) (Ev.now false))
      (fun i hi _ => Ev.step (fun k => by simp only [spec_nuNumeral.l0]; rw [if_neg (by omega)]) (Ev.now true))
    have e : (List.range' 0 (s.size - 0)).all (fun i => digB (s.data.toList.getD i 0)) = s.data.toList.all digB := by
      rw [Nat.sub_zero, Bool.eq_iff_iff, List.all_eq_true, List.all_eq_true]
      constructor
      · intro h x hx
        obtain ⟨i, hi, rfl⟩ := List.getElem_of_mem hx
        have := h i (by simp; omega)
        rwa [List.getD_eq_getElem?_getD, List.getElem?_eq_getElem hi, Option.getD_some] at this
      · intro h i hi
        have hi : i < s.data.toList.length := by simp at hi; omega
        rw [List.getD_eq_getElem?_getD, List.getElem?_eq_getElem hi, Option.getD_some]
        exact h _ (List.getElem_mem hi)
    rw [e] at h
    exact h

/-! ### equations: splitting, cutting -/
def mkB (l : List UInt8) : ByteArray := ⟨l.toArray⟩
theorem mkB_data (l : List UInt8) : (mkB l).data.toList = l := rfl
theorem mkB_of (s : ByteArray) : mkB s.data.toList = s := by cases s; rfl
theorem mkB_size (l : List UInt8) : (mkB l).size = l.length := by rw [← size_list, mkB_data]
theorem ex_mkB (s : ByteArray) (a b : Nat) : s.extract a b = mkB ((s.data.toList.take b).drop a) := by
  rw [← mkB_of (s.extract a b)]
  congr 1
  rw [ByteArray.data_extract, Array.toList_extract, List.extract_eq_take_drop, List.drop_take]
/-- A text split at a byte. -/
def spl (b : UInt8) : List UInt8 → List (List UInt8)
  | [] => [[]]
  | c :: l => if c = b then [] :: spl b l else match spl b l with
    | p :: ps => (c :: p) :: ps
    | [] => [[c]]
theorem spl_cons (b : UInt8) : ∀ l, ∃ p ps, spl b l = p :: ps
  | [] => ⟨[], [], rfl⟩
  | c :: l => by
    obtain ⟨p, ps, h⟩ := spl_cons b l
    simp only [spl, h]
    split
    · exact ⟨_, _, rfl⟩
    · exact ⟨_, _, rfl⟩
theorem spl_app (b : UInt8) (y : List UInt8) : ∀ x, b ∉ x → spl b (x ++ b :: y) = x :: spl b y
  | [], _ => by simp [spl]
  | c :: x, h => by
    have h1 : c ≠ b := fun e => h (by simp [e])
    have ih := spl_app b y x (fun hm => h (by simp [hm]))
    simp only [List.cons_append, spl, ih]
    rw [if_neg h1]
theorem spl_none (b : UInt8) : ∀ x, b ∉ x → spl b x = [x]
  | [], _ => rfl
  | c :: x, h => by
    have h1 : c ≠ b := fun e => h (by simp [e])
    have ih := spl_none b x (fun hm => h (by simp [hm]))
    simp only [spl, ih]
    rw [if_neg h1]
theorem spl_one (b : UInt8) : ∀ l x, spl b l = [x] → l = x
  | [], x, h => by simp [spl] at h; exact h.symm
  | c :: l, x, h => by
    obtain ⟨p, ps, e⟩ := spl_cons b l
    simp only [spl, e] at h
    split at h
    · simp at h
    · simp only [List.cons.injEq] at h
      obtain ⟨h1, rfl⟩ := h
      rw [← h1, spl_one b l p e]
theorem spl_two (b : UInt8) : ∀ l x y, spl b l = [x, y] → l = x ++ b :: y
  | [], x, y, h => by simp [spl] at h
  | c :: l, x, y, h => by
    obtain ⟨p, ps, e⟩ := spl_cons b l
    simp only [spl, e] at h
    split at h
    · rename_i hc
      simp only [List.cons.injEq] at h
      obtain ⟨rfl, h1, rfl⟩ := h
      rw [hc, spl_one b l p e, h1]
      rfl
    · simp only [List.cons.injEq] at h
      obtain ⟨h1, rfl⟩ := h
      rw [← h1, spl_two b l p y e]
      rfl
theorem spl_len (b : UInt8) : ∀ l, (spl b l).length ≤ l.length + 1
  | [] => by simp [spl]
  | c :: l => by
    have ih := spl_len b l
    obtain ⟨p, ps, e⟩ := spl_cons b l
    simp only [spl, e] at ih ⊢
    split
    · simp at ih ⊢; omega
    · simp at ih ⊢; omega
theorem spl_mem (b : UInt8) : ∀ l x, x ∈ spl b l → x.length ≤ l.length
  | [], x, h => by simp [spl] at h; simp [h]
  | c :: l, x, h => by
    have ih := spl_mem b l
    obtain ⟨p, ps, e⟩ := spl_cons b l
    rw [e] at ih
    simp only [spl, e] at h
    split at h
    · rcases List.mem_cons.1 h with rfl | h2
      · simp
      · have := ih x h2; simp; omega
    · rcases List.mem_cons.1 h with rfl | h2
      · have := ih p (by simp); simp; omega
      · have := ih x (by simp [h2]); simp; omega
/-- A piece in front of the first piece. -/
def addF (p : List UInt8) : List (List UInt8) → List (List UInt8)
  | q :: qs => (p ++ q) :: qs
  | [] => [p]
theorem split_ev (s : ByteArray) (b : UInt8) (hs : s.size ≤ 1000000) : Ev (fun k => spec_l1Split.f k s (b.toNat : Int)) ((spl b s.data.toList).map mkB) := by
  have hz := size_list s
  have key : ∀ (d i : Nat) (acc : List ByteArray) (st : Nat), i + d = s.size → st ≤ i → acc.length ≤ i →
      Ev (fun k => spec_l1Split.l0 k s (b.toNat : Int) acc (st : Int) (i : Int)) (acc ++ (addF ((s.data.toList.take i).drop st) (spl b (s.data.toList.drop i))).map mkB) := by
    intro d
    induction d with
    | zero =>
      intro i acc st hi hst ha
      obtain rfl : i = s.size := by omega
      rw [show s.data.toList.drop s.size = [] from List.drop_of_length_le (by omega)]
      refine Ev.step (f := fun _ => some (acc ++ [s.extract st s.size])) (fun k => ?_) (Ev.const ?_)
      · simp only [spec_l1Split.l0]
        rw [if_neg (by omega), if_pos (by omega), if_pos (by omega), if_pos (by omega), Int.toNat_natCast]
      · rw [ex_mkB]
        simp [spl, addF]
    | succ d ih =>
      intro i acc st hi hst ha
      have hlt : i < s.data.toList.length := by omega
      have hb := bt_nat s i hlt
      rw [List.drop_eq_getElem_cons hlt]
      have hu : s.data.toList[i].toNat = b.toNat ↔ s.data.toList[i] = b := ⟨fun h => UInt8.toNat_inj.1 h, fun h => by rw [h]⟩
      by_cases hc : s.data.toList[i] = b
      · have h9 := ih (i + 1) (acc ++ [s.extract st i]) (i + 1) (by omega) (by omega) (by simp; omega)
        have e : acc ++ (addF ((s.data.toList.take i).drop st) (spl b (s.data.toList[i] :: s.data.toList.drop (i + 1)))).map mkB = (acc ++ [s.extract st i]) ++ (addF ((s.data.toList.take (i + 1)).drop (i + 1)) (spl b (s.data.toList.drop (i + 1)))).map mkB := by
          obtain ⟨p, ps, e⟩ := spl_cons b (s.data.toList.drop (i + 1))
          rw [ex_mkB]
          simp only [spl, e, if_pos hc, addF, List.append_nil]
          rw [List.drop_of_length_le (l := s.data.toList.take (i + 1)) (by simp; omega)]
          simp
        rw [e]
        refine Ev.step (fun k => ?_) h9
        simp only [spec_l1Split.l0]
        rw [if_pos (by omega), if_pos (by omega), hb, if_pos (by rw [hc]), if_pos (by omega), if_pos (by omega), if_pos (by omega), if_pos (by omega), Int.toNat_natCast, Int.toNat_natCast, w64 (by omega) (by omega)]
        rfl
      · have h9 := ih (i + 1) acc st (by omega) (by omega) (by omega)
        have e : addF ((s.data.toList.take i).drop st) (spl b (s.data.toList[i] :: s.data.toList.drop (i + 1))) = addF ((s.data.toList.take (i + 1)).drop st) (spl b (s.data.toList.drop (i + 1))) := by
          obtain ⟨p, ps, e⟩ := spl_cons b (s.data.toList.drop (i + 1))
          simp only [spl, e, if_neg hc, addF]
          rw [List.take_add_one, List.getElem?_eq_getElem hlt, Option.toList_some, List.drop_append_of_le_length (by simp; omega)]
          simp
        rw [e]
        refine Ev.step (fun k => ?_) h9
        simp only [spec_l1Split.l0]
        rw [if_pos (by omega), if_pos (by omega), hb, if_neg (by intro h; exact hc (hu.1 (by omega))), w64 (by omega) (by omega)]
        rfl
  have h := key s.size 0 [] 0 (by omega) (by omega) (by simp)
  obtain ⟨p, ps, e⟩ := spl_cons b s.data.toList
  simp only [List.take_zero, List.drop_zero, e, addF, List.drop_nil, List.nil_append] at h
  rw [e]
  exact h
/-- The first byte of some, and what stands ahead of it. -/
theorem any_cases (cs : List UInt8) : ∀ l, (Lib.indexAny l cs = -1 ∧ ∀ b ∈ l, cs.contains b = false) ∨ ∃ x c y, l = x ++ c :: y ∧ cs.contains c = true ∧ (∀ b ∈ x, cs.contains b = false) ∧ Lib.indexAny l cs = (x.length : Int)
  | [] => .inl ⟨rfl, fun _ h => by cases h⟩
  | a :: l => by
    by_cases ha : cs.contains a = true
    · exact .inr ⟨[], a, l, rfl, ha, (fun _ h => by cases h), by simp only [Lib.indexAny]; rw [if_pos ha]; rfl⟩
    · rcases any_cases cs l with ⟨h1, h2⟩ | ⟨x, c, y, h1, h2, h3, h4⟩
      · refine .inl ⟨by simp only [Lib.indexAny]; rw [if_neg ha, h1]; rfl, fun b hb => ?_⟩
        rcases List.mem_cons.1 hb with rfl | hb
        · exact Bool.eq_false_iff.2 ha
        · exact h2 b hb
      · refine .inr ⟨a :: x, c, y, by rw [h1]; rfl, h2, fun b hb => ?_, ?_⟩
        · rcases List.mem_cons.1 hb with rfl | hb
          · exact Bool.eq_false_iff.2 ha
          · exact h3 b hb
        · simp only [Lib.indexAny]
          rw [if_neg ha, h4, if_neg (by simp only [beq_iff_eq]; omega)]
          simp
theorem cut_cases (b : UInt8) (l : List UInt8) : (Lib.cut l [b] = (l, [], false) ∧ b ∉ l) ∨ ∃ x y, l = x ++ b :: y ∧ b ∉ x ∧ Lib.cut l [b] = (x, y, true) := by
  have hi : Lib.index l [b] = Lib.indexAny l [b] := by rw [Lib.index_one, Lib.indexAny_one]
  rcases any_cases [b] l with ⟨h1, h2⟩ | ⟨x, c, y, h1, h2, h3, h4⟩
  · left
    refine ⟨by unfold Lib.cut; rw [hi, h1, if_neg (by decide)], fun hm => ?_⟩
    have := h2 b hm
    simp at this
  · right
    obtain rfl : c = b := by simpa using h2
    refine ⟨x, y, h1, fun hm => by have := h3 c hm; simp at this, ?_⟩
    unfold Lib.cut
    rw [hi, h4, if_pos (by omega), h1]
    simp
/-- A numeral of at most three digits. -/
def numL (l : List UInt8) : Bool := inB 1 3 (l.length : Int) && l.all digB
theorem numL_no (l : List UInt8) (h : numL l = true) (b : UInt8) (hb : digB b = false) : b ∉ l := fun hm => by
  unfold numL at h
  rw [Bool.and_eq_true, List.all_eq_true] at h
  have := h.2 b hm
  rw [hb] at this
  cases this
/-- The texts that are equations. -/
def isForm (l : List UInt8) : Prop := ∃ a c b t, l = (a ++ c :: b) ++ 61 :: t ∧ (c = 43 ∨ c = 45) ∧ numL a = true ∧ numL b = true ∧ numL t = true
theorem idxN_is : ∀ (l : List (List UInt8)) (i : Int), 0 ≤ i → ∃ r, idxN (l.map mkB) i = some r ∧ (!decide (0 ≤ r)) = l.all numL
  | [], i, _ => ⟨-1, rfl, by simp⟩
  | x :: l, i, h => by
    have h1 := isNumeral_is (mkB x) 3 (by omega)
    rw [mkB_size, mkB_data] at h1
    have h2 : impl_isNumeral.f (mkB x) 3 = some (numL x) := h1
    simp only [List.map_cons, idxN, h2, Option.bind_some, List.all_cons]
    cases hx : numL x with
    | true =>
      obtain ⟨r, hr, e⟩ := idxN_is l (i + 1) (by omega)
      exact ⟨r, by rw [if_pos rfl]; exact hr, by rw [e, Bool.true_and]⟩
    | false => exact ⟨i, by rw [if_neg (by decide)], by simp [h]⟩
theorem nuAll_ev : ∀ l : List (List UInt8), (∀ x ∈ l, x.length ≤ 1000000) → Ev (fun k => nuAll k (l.map mkB)) (l.all numL)
  | [], _ => Ev.const rfl
  | x :: l, h => by
    have h1 := nuNumeral_ev (mkB x) 3 (by rw [mkB_size]; exact h x (by simp))
    rw [mkB_size, mkB_data] at h1
    have h2 : Ev (fun k => spec_nuNumeral.f k (mkB x) 3) (numL x) := h1
    simp only [List.map_cons, nuAll]
    refine Ev.bind h2 ?_
    rw [List.all_cons]
    cases numL x with
    | true =>
      simp only [if_true, Bool.true_and]
      exact nuAll_ev l (fun y hy => h y (by simp [hy]))
    | false => exact Ev.const (by simp)
/-- What the program reads. -/
theorem num_is (s : ByteArray) (hs : s.size ≤ 1000000) : (∃ a c b t, s.data.toList = (a ++ c :: b) ++ 61 :: t ∧ (c = 43 ∨ c = 45) ∧ numL a = true ∧ numL b = true ∧ numL t = true ∧ impl_numerals.f s = some ([mkB a, mkB b, mkB t], (c.toNat : Int), true)) ∨ (¬ isForm s.data.toList ∧ ∃ L c, impl_numerals.f s = some (L, c, false)) := by
  unfold impl_numerals.f
  rw [if_pos (by omega)]
  rcases cut_cases 61 s.data.toList with ⟨h1, h2⟩ | ⟨x, y, h1, h2, h3⟩
  · right
    refine ⟨fun ⟨a, c, b, t, e, _⟩ => h2 (by rw [e]; simp), [], 0, ?_⟩
    unfold cutB
    rw [h1, if_neg (by simp)]
  · have eB : cutB s = true := by unfold cutB; rw [h3]
    have eL : cutL s = mkB x := by unfold cutL; rw [h3]; rfl
    have eR : cutR s = mkB y := by unfold cutR; rw [h3]; rfl
    rw [if_pos eB]
    have eS : signAt s = Lib.indexAny x [43, 45] := by unfold signAt; rw [eL, mkB_data]
    rcases any_cases [43, 45] x with ⟨g1, g2⟩ | ⟨a, c, b, g1, g2, g3, g4⟩
    · right
      refine ⟨fun ⟨a, c, b, t, e, hc, ha, hb, ht⟩ => ?_, [], 0, ?_⟩
      · rw [h1] at e
        have e2 : spl 61 (x ++ 61 :: y) = spl 61 ((a ++ c :: b) ++ 61 :: t) := by rw [e]
        rw [spl_app 61 y x h2, spl_app 61 t (a ++ c :: b) (fun hm => by
          rcases List.mem_append.1 hm with hm | hm
          · exact numL_no a ha 61 (by decide) hm
          · rcases List.mem_cons.1 hm with hm | hm
            · rcases hc with rfl | rfl <;> cases hm
            · exact numL_no b hb 61 (by decide) hm)] at e2
        have e3 := (List.cons.inj e2).1
        have := g2 c (by rw [e3]; simp)
        rcases hc with rfl | rfl <;> simp at this
      · rw [eS, g1, if_neg (by decide)]
    · have hc : c = 43 ∨ c = 45 := by simpa using g2
      have hk : signAt s = (a.length : Int) := by rw [eS, g4]
      have hlen : x.length ≤ 1000000 := by
        have := size_list s
        rw [h1] at this
        simp at this
        omega
      have hP : numParts s = [a, b, y].map mkB := by
        have e1 : (mkB x).extract 0 a.length = mkB a := by rw [ex_mkB, mkB_data, g1]; simp
        have e2 : (mkB x).extract (a.length + 1) (mkB x).size = mkB b := by
          rw [ex_mkB, mkB_data, mkB_size, List.take_length, g1, show a ++ c :: b = (a ++ [c]) ++ b from by simp, show a.length + 1 = (a ++ [c]).length from by simp, List.drop_left]
        unfold numParts
        rw [hk, eL, eR, Int.toNat_natCast, e1, e2]
        rfl
      have hbt : bt (cutL s) (signAt s) = (c.toNat : Int) := by
        rw [hk, eL, bt_nat (mkB x) a.length (by rw [mkB_data, g1]; simp)]
        simp [mkB_data, g1]
      obtain ⟨r, hr, e⟩ := idxN_is [a, b, y] 0 (by omega)
      rw [if_pos (by omega), hP, hr, Option.bind_some, hbt, e]
      cases hA : [a, b, y].all numL with
      | true =>
        left
        simp only [List.all_cons, List.all_nil, Bool.and_true, Bool.and_eq_true] at hA
        exact ⟨a, c, b, y, by rw [h1, g1], hc, hA.1, hA.2.1, hA.2.2, rfl⟩
      | false =>
        right
        refine ⟨fun ⟨a', c', b', t', e', hc', ha', hb', ht'⟩ => ?_, _, _, rfl⟩
        rw [h1] at e'
        have e2 : spl 61 (x ++ 61 :: y) = spl 61 ((a' ++ c' :: b') ++ 61 :: t') := by rw [e']
        rw [spl_app 61 y x h2, spl_app 61 t' (a' ++ c' :: b') (fun hm => by
          rcases List.mem_append.1 hm with hm | hm
          · exact numL_no a' ha' 61 (by decide) hm
          · rcases List.mem_cons.1 hm with hm | hm
            · rcases hc' with rfl | rfl <;> cases hm
            · exact numL_no b' hb' 61 (by decide) hm), spl_none 61 t' (numL_no t' ht' 61 (by decide))] at e2
        obtain ⟨e3, e4⟩ := List.cons.inj e2
        obtain rfl := spl_one 61 y t' e4
        rw [g1] at e3
        -- the first sign of both is the same
        have hna : ∀ z, numL z = true → ∀ q ∈ z, ([43, 45] : List UInt8).contains q = false := fun z hz q hq => by
          cases hcq : ([43, 45] : List UInt8).contains q with
          | false => rfl
          | true =>
            have : q = 43 ∨ q = 45 := by simpa using hcq
            exfalso
            rcases this with rfl | rfl
            · exact numL_no z hz 43 (by decide) hq
            · exact numL_no z hz 45 (by decide) hq
        have hcut : ∀ (p p' : List UInt8) (q q' : UInt8) (r r' : List UInt8), p ++ q :: r = p' ++ q' :: r' → (∀ z ∈ p, ([43, 45] : List UInt8).contains z = false) → (∀ z ∈ p', ([43, 45] : List UInt8).contains z = false) → ([43, 45] : List UInt8).contains q = true → ([43, 45] : List UInt8).contains q' = true → p = p' ∧ q = q' ∧ r = r' := by
          intro p
          induction p with
          | nil =>
            intro p' q q' r r' he _ hp' hq _
            cases p' with
            | nil => simp at he; exact ⟨rfl, he.1, he.2⟩
            | cons z p' =>
              simp at he
              have := hp' z (by simp)
              rw [← he.1, hq] at this
              cases this
          | cons z p ih =>
            intro p' q q' r r' he hp hp' hq hq'
            cases p' with
            | nil =>
              simp at he
              have := hp z (by simp)
              rw [he.1, hq'] at this
              cases this
            | cons z' p' =>
              simp only [List.cons_append, List.cons.injEq] at he
              obtain ⟨i1, i2, i3⟩ := ih p' q q' r r' he.2 (fun u hu => hp u (by simp [hu])) (fun u hu => hp' u (by simp [hu])) hq hq'
              exact ⟨by rw [he.1, i1], i2, i3⟩
        obtain ⟨i1, _, i3⟩ := hcut a a' c c' b b' e3 g3 (hna a' ha') g2 (by rcases hc' with rfl | rfl <;> rfl)
        rw [i1, i3] at hA
        simp [ha', hb', ht'] at hA
/-- What the reference reads. -/
theorem read_yes (s : ByteArray) (hs : s.size ≤ 1000000) (a b t : List UInt8) (c : UInt8) (e : s.data.toList = (a ++ c :: b) ++ 61 :: t) (hc : c = 43 ∨ c = 45) (ha : numL a = true) (hb : numL b = true) (ht : numL t = true) :
    Ev (fun k => spec_nuRead.f k s) ([mkB a, mkB b, mkB t], decide (c = 43), true) := by
  have hz := size_list s
  rw [e] at hz
  simp only [List.length_append, List.length_cons] at hz
  have h61 : (61 : UInt8) ∉ a ++ c :: b := fun hm => by
    rcases List.mem_append.1 hm with hm | hm
    · exact numL_no a ha 61 (by decide) hm
    · rcases List.mem_cons.1 hm with hm | hm
      · rcases hc with rfl | rfl <;> cases hm
      · exact numL_no b hb 61 (by decide) hm
  have h1 := split_ev s 61 hs
  rw [e, spl_app 61 t _ h61, spl_none 61 t (numL_no t ht 61 (by decide))] at h1
  have h2 := split_ev (mkB (a ++ c :: b)) 43 (by rw [mkB_size]; simp; omega)
  have h3 := split_ev (mkB (a ++ c :: b)) 45 (by rw [mkB_size]; simp; omega)
  rw [mkB_data] at h2 h3
  have hall := nuAll_ev [a, b, t] (by intro x hx; simp at hx; rcases hx with rfl | rfl | rfl <;> omega)
  have hall2 : [a, b, t].all numL = true := by simp [ha, hb, ht]
  rw [hall2] at hall
  unfold spec_nuRead.f
  refine Ev.bind h1 ?_
  simp only [List.map_cons, List.map_nil, List.length_cons, List.length_nil]
  rcases hc with rfl | rfl
  · rw [spl_app 43 b a (numL_no a ha 43 (by decide)), spl_none 43 b (numL_no b hb 43 (by decide))] at h2
    refine Ev.congr (fun k => if_pos (by first | trivial | simp)) (Ev.bind h2 ?_)
    refine Ev.congr (fun k => if_neg (by simp)) ?_
    unfold nuRest
    refine Ev.congr (fun k => (if_pos (by simp)).trans (if_pos (by simp))) (Ev.bind hall ?_)
    exact Ev.const (by simp [rdOf])
  · have h43 : (43 : UInt8) ∉ a ++ 45 :: b := fun hm => by
      rcases List.mem_append.1 hm with hm | hm
      · exact numL_no a ha 43 (by decide) hm
      · rcases List.mem_cons.1 hm with hm | hm
        · cases hm
        · exact numL_no b hb 43 (by decide) hm
    rw [spl_none 43 _ h43] at h2
    rw [spl_app 45 b a (numL_no a ha 45 (by decide)), spl_none 45 b (numL_no b hb 45 (by decide))] at h3
    refine Ev.congr (fun k => if_pos (by first | trivial | simp)) (Ev.bind h2 ?_)
    refine Ev.congr (fun k => if_pos (by simp)) (Ev.bind h3 ?_)
    unfold nuRest
    refine Ev.congr (fun k => (if_pos (by simp)).trans (if_pos (by simp))) (Ev.bind hall ?_)
    exact Ev.const (by simp [rdOf])
theorem rest_no (qs : List (List UInt8)) (t : List UInt8) (plus : Bool) (h : ∀ x ∈ qs, x.length ≤ 1000000) (ht : t.length ≤ 1000000) (hl : qs.length ≤ 1000001) (hn : ∀ a b, qs = [a, b] → ¬ (numL a = true ∧ numL b = true ∧ numL t = true)) :
    Ev (fun k => nuRest k (qs.map mkB) (mkB t) plus) ([], false, false) := by
  unfold nuRest
  by_cases h3 : qs.length = 2
  · have hall := nuAll_ev (qs ++ [t]) (by intro x hx; rcases List.mem_append.1 hx with hx | hx; exact h x hx; simp at hx; rw [hx]; exact ht)
    have e : (qs ++ [t]).all numL = false := by
      match qs, h3 with
      | [a, b], _ =>
        have := hn a b rfl
        cases ha : numL a <;> cases hb : numL b <;> cases hc : numL t <;> simp_all
    rw [e] at hall
    rw [List.map_append] at hall
    refine Ev.congr (fun k => (if_pos (by simp; omega)).trans (if_pos (by simp; omega))) (Ev.bind hall ?_)
    exact Ev.const (by simp)
  · exact Ev.congr (fun k => (if_pos (by simp; omega)).trans (if_neg (by simp; omega))) (Ev.now _)
theorem read_no (s : ByteArray) (hs : s.size ≤ 1000000) (h : ¬ isForm s.data.toList) : Ev (fun k => spec_nuRead.f k s) ([], false, false) := by
  have hz := size_list s
  unfold spec_nuRead.f
  refine Ev.bind (split_ev s 61 hs) ?_
  by_cases h2 : (spl 61 s.data.toList).length = 2
  · obtain ⟨x, y, e⟩ : ∃ x y, spl 61 s.data.toList = [x, y] := by
      match spl 61 s.data.toList, h2 with
      | [x, y], _ => exact ⟨x, y, rfl⟩
    have e1 := spl_two 61 _ x y e
    have hl := hz
    rw [e1] at hl
    simp only [List.length_append, List.length_cons] at hl
    rw [e]
    simp only [List.map_cons, List.map_nil, List.length_cons, List.length_nil]
    refine Ev.congr (fun k => if_pos (by first | trivial | simp)) (Ev.bind (split_ev (mkB x) 43 (by rw [mkB_size]; omega)) ?_)
    rw [mkB_data]
    by_cases h3 : ((spl 43 x).map mkB).length = 1
    · refine Ev.congr (fun k => if_pos h3) (Ev.bind (split_ev (mkB x) 45 (by rw [mkB_size]; omega)) ?_)
      rw [mkB_data]
      refine rest_no _ y false (fun z hz => by have := spl_mem 45 x z hz; omega) (by omega) (by have := spl_len 45 x; omega) (fun a b eab ⟨ha, hb, ht⟩ => ?_)
      exact h ⟨a, 45, b, y, by rw [e1, spl_two 45 x a b eab], .inr rfl, ha, hb, ht⟩
    · refine Ev.congr (fun k => if_neg h3) ?_
      refine rest_no _ y true (fun z hz => by have := spl_mem 43 x z hz; omega) (by omega) (by have := spl_len 43 x; omega) (fun a b eab ⟨ha, hb, ht⟩ => ?_)
      exact h ⟨a, 43, b, y, by rw [e1, spl_two 43 x a b eab], .inl rfl, ha, hb, ht⟩
  · exact Ev.congr (fun k => if_neg (by simpa using h2)) (Ev.now _)

/-! ### the value of a numeral -/
def valF (acc : Nat) (l : List UInt8) : Nat := l.foldl (fun a b => a * 10 + (b.toNat - 48)) acc
theorem valF_le : ∀ (l : List UInt8) (acc : Nat), l.all digB = true → valF acc l + 1 ≤ (acc + 1) * 10 ^ l.length
  | [], acc, _ => by simp [valF]
  | b :: l, acc, h => by
    rw [List.all_cons, Bool.and_eq_true] at h
    have hb := digB_iff.1 h.1
    have ih := valF_le l (acc * 10 + (b.toNat - 48)) h.2
    have e : valF acc (b :: l) = valF (acc * 10 + (b.toNat - 48)) l := rfl
    rw [e, List.length_cons, Nat.pow_succ, Nat.mul_comm (10 ^ l.length) 10, ← Nat.mul_assoc]
    exact Nat.le_trans ih (Nat.mul_le_mul_right _ (by omega))
theorem decFrom_is : ∀ (l : List UInt8) (acc : Nat), l.all digB = true → Lib.decFrom acc l = some (valF acc l)
  | [], acc, _ => rfl
  | b :: l, acc, h => by
    rw [List.all_cons, Bool.and_eq_true] at h
    have hb := digB_iff.1 h.1
    have e : Lib.digitVal b = some (b.toNat - 48) := by unfold Lib.digitVal; rw [if_pos hb]
    simp only [Lib.decFrom, e]
    exact decFrom_is l _ h.2
theorem atoi_is (l : List UInt8) (h : l.all digB = true) (h0 : l ≠ []) : Lib.atoi l = some (valF 0 l : Int) := by
  cases l with
  | nil => exact absurd rfl h0
  | cons b l =>
    have h2 := h
    rw [List.all_cons, Bool.and_eq_true] at h2
    have hb := digB_iff.1 h2.1
    have n1 : (b == 45) = false := beq_eq_false_iff_ne.2 (fun e => by rw [e] at hb; exact absurd hb (by decide))
    have n2 : (b == 43) = false := beq_eq_false_iff_ne.2 (fun e => by rw [e] at hb; exact absurd hb (by decide))
    have hd : Lib.decNat (b :: l) = some (valF 0 (b :: l)) := by
      unfold Lib.decNat
      rw [List.isEmpty_cons, decFrom_is _ 0 h]
      rfl
    simp only [Lib.atoi, n1, n2, hd]
    rfl
theorem nuValue_ev (l : List UInt8) (h : l.all digB = true) (hn : l.length ≤ 3) : Ev (fun k => spec_nuValue.f k (mkB l)) (valF 0 l : Int) := by
  have key : ∀ (d i acc : Nat), i + d = l.length → acc < 10 ^ i → Ev (fun k => spec_nuValue.l0 k (mkB l) (acc : Int) (i : Int)) (valF acc (l.drop i) : Int) := by
    intro d
    induction d with
    | zero =>
      intro i acc hi ha
      rw [List.drop_of_length_le (by omega)]
      exact Ev.step (f := fun _ => some (acc : Int)) (fun k => by simp only [spec_nuValue.l0]; rw [if_neg (by rw [mkB_size]; omega)]) (Ev.now _)
    | succ d ih =>
      intro i acc hi ha
      have hlt : i < l.length := by omega
      have hb := digB_iff.1 (List.all_eq_true.1 h _ (List.getElem_mem hlt))
      have hbt : bt (mkB l) (i : Int) = ((l[i].toNat : Nat) : Int) := bt_nat (mkB l) i hlt
      have hp : 10 ^ i ≤ 100 := by
        have : i = 0 ∨ i = 1 ∨ i = 2 := by omega
        rcases this with rfl | rfl | rfl <;> decide
      have h9 := ih (i + 1) (acc * 10 + (l[i].toNat - 48)) (by omega) (by rw [Nat.pow_succ]; omega)
      rw [List.drop_eq_getElem_cons hlt]
      refine Ev.step (fun k => ?_) h9
      simp only [spec_nuValue.l0]
      rw [if_pos (by rw [mkB_size]; omega), if_pos (by omega), hbt, w64 (n := 10 * (acc : Int)) (by omega) (by omega), w64 (n := 10 * (acc : Int) + _) (by omega) (by omega), w64 (n := (i : Int) + 1) (by omega) (by omega)]
      rw [show 10 * (acc : Int) + (((l[i].toNat : Nat) : Int) - 48) % 256 = ((acc * 10 + (l[i].toNat - 48) : Nat) : Int) from by omega]
      rfl
  exact key l.length 0 0 (by omega) (by simp)
theorem val3 {l : List UInt8} (h : numL l = true) : l.all digB = true ∧ l ≠ [] ∧ l.length ≤ 3 ∧ valF 0 l < 1000 := by
  unfold numL at h
  rw [Bool.and_eq_true, inB_iff] at h
  have hl := valF_le l 0 h.2
  refine ⟨h.2, fun e => by rw [e] at h; simp at h, by omega, ?_⟩
  have : l.length = 1 ∨ l.length = 2 ∨ l.length = 3 := by omega
  rcases this with e | e | e <;> rw [e] at hl <;> omega
/-- Whether an equation with these numerals is true. -/
def trueEq (c : UInt8) (a b t : List UInt8) : Bool := if c = 43 then decide (valF 0 a + valF 0 b = valF 0 t) else decide ((valF 0 a : Int) - valF 0 b = valF 0 t)
theorem nuTrue_ev (c : UInt8) (a b t : List UInt8) (ha : numL a = true) (hb : numL b = true) (ht : numL t = true) : Ev (fun k => spec_nuTrue.f k [mkB a, mkB b, mkB t] (decide (c = 43))) (trueEq c a b t) := by
  have va := val3 ha; have vb := val3 hb; have vt := val3 ht
  have ea := nuValue_ev a va.1 va.2.2.1
  have eb := nuValue_ev b vb.1 vb.2.2.1
  have et := nuValue_ev t vt.1 vt.2.2.1
  unfold spec_nuTrue.f
  refine Ev.congr (fun k => if_pos (by simp)) (Ev.bind (by exact ea) ?_)
  refine Ev.congr (fun k => if_pos (by simp)) (Ev.bind (by exact eb) ?_)
  refine Ev.congr (fun k => if_pos (by simp)) (Ev.bind (by exact et) ?_)
  rw [w64 (by omega) (by omega), w64 (by omega) (by omega)]
  unfold trueEq
  by_cases hc : c = 43
  · rw [if_pos hc]
    refine Ev.congr (fun k => if_pos (by simp [hc])) (Ev.const ?_)
    congr 1
    rw [Bool.eq_iff_iff, beq_iff_eq, decide_eq_true_eq]
    omega
  · rw [if_neg hc]
    refine Ev.congr (fun k => if_neg (by simp [hc])) (Ev.const ?_)
    congr 1
theorem isTrue_ev (s : ByteArray) (c : UInt8) (a b t : List UInt8) (hc : c = 43 ∨ c = 45) (ha : numL a = true) (hb : numL b = true) (ht : numL t = true) (hn : impl_numerals.f s = some ([mkB a, mkB b, mkB t], (c.toNat : Int), true)) : Ev (fun k => impl_isTrue.f k s) (trueEq c a b t) := by
  have va := val3 ha; have vb := val3 hb; have vt := val3 ht
  have at_ : ∀ l : List UInt8, numL l = true → strconv_Atoi.f (mkB l) = some ((valF 0 l : Int), none) := fun l hl => by
    have v := val3 hl
    unfold strconv_Atoi.f
    rw [if_pos (by rw [mkB_size]; omega), mkB_data, atoi_is l v.1 v.2.1]
    rfl
  have st : ∀ (i : Nat) (p : List UInt8) (acc : List Int) (r : Bool), i < 3 → acc.length ≤ 3 → numL p = true → rdOf ByteArray.empty [mkB a, mkB b, mkB t] (i : Int) = mkB p → Ev (fun k => impl_isTrue.l0 k (c.toNat : Int) (acc ++ [(valF 0 p : Int)]) [mkB a, mkB b, mkB t] 3 ((i + 1 : Nat) : Int)) r →
      Ev (fun k => impl_isTrue.l0 k (c.toNat : Int) acc [mkB a, mkB b, mkB t] 3 (i : Int)) r := by
    intro i p acc r hi hacc hp hr h
    refine Ev.step (fun k => ?_) h
    simp only [impl_isTrue.l0]
    rw [if_pos (by omega), if_pos (by omega), if_pos (by simp; omega), hr, at_ p hp, Option.bind_some, if_pos (by omega), w64 (by omega) (by omega)]
    rfl
  have fin : Ev (fun k => impl_isTrue.l0 k (c.toNat : Int) [(valF 0 a : Int), (valF 0 b : Int), (valF 0 t : Int)] [mkB a, mkB b, mkB t] 3 ((3 : Nat) : Int)) (trueEq c a b t) := by
    refine Ev.step (f := fun _ => some (trueEq c a b t)) (fun k => ?_) (Ev.now _)
    simp only [impl_isTrue.l0]
    rw [if_neg (by omega)]
    have r0 : rd [(valF 0 a : Int), (valF 0 b : Int), (valF 0 t : Int)] 0 = (valF 0 a : Int) := rfl
    have r1 : rd [(valF 0 a : Int), (valF 0 b : Int), (valF 0 t : Int)] 1 = (valF 0 b : Int) := rfl
    have r2 : rd [(valF 0 a : Int), (valF 0 b : Int), (valF 0 t : Int)] 2 = (valF 0 t : Int) := rfl
    unfold trueEq
    rcases hc with rfl | rfl
    · rw [if_pos (by decide), if_pos (by simp), if_pos (by simp), if_pos (by simp), r0, r1, r2, w64 (by omega) (by omega), if_pos rfl]
      congr 1
      rw [Bool.eq_iff_iff, beq_iff_eq, decide_eq_true_eq]
      omega
    · rw [if_neg (by decide), if_pos (by simp), if_pos (by simp), if_pos (by simp), r0, r1, r2, w64 (by omega) (by omega), if_neg (by decide)]
      congr 1
  unfold impl_isTrue.f
  rw [hn]
  simp only [Option.bind_some]
  exact st 0 a [] _ (by omega) (by simp) ha rfl (st 1 b _ _ (by omega) (by simp) hb rfl (st 2 t _ _ (by omega) (by simp) ht rfl fin))

theorem FnExactIsTrueEquation : laws_FnExactIsTrueEquation.Pure := by
  intro s _
  by_cases hs : s.size ≤ 1000000
  · have hmain : ∃ v, Ev (fun k => spec_IsTrueEquation.f k s) v ∧ Ev (fun k => impl_IsTrueEquation.f k s) v := by
      unfold spec_IsTrueEquation.f impl_IsTrueEquation.f impl_IsEquation.f
      rcases num_is s hs with ⟨a, c, b, t, e, hc, ha, hb, ht, hn⟩ | ⟨h1, L, c, h2⟩
      · refine ⟨(trueEq c a b t, true), Ev.bind (read_yes s hs a b t c e hc ha hb ht) ?_, ?_⟩
        · exact Ev.congr (fun k => if_pos rfl) (Ev.bind (nuTrue_ev c a b t ha hb ht) (Ev.now _))
        · rw [hn]
          simp only [Option.bind_some]
          exact Ev.congr (fun k => if_pos trivial) (Ev.bind (isTrue_ev s c a b t hc ha hb ht hn) (Ev.now _))
      · refine ⟨(false, false), Ev.bind (read_no s hs h1) (Ev.congr (fun k => if_neg (by simp)) (Ev.now _)), ?_⟩
        rw [h2]
        simp only [Option.bind_some]
        exact Ev.congr (fun k => if_neg (by simp)) (Ev.now _)
    obtain ⟨v, h1, h2⟩ := hmain
    obtain ⟨K, hK⟩ := Ev.both h1 h2
    have hK0 := hK K (Nat.le_refl _)
    refine ⟨K, ?_⟩
    unfold laws_FnExactIsTrueEquation.f
    rw [if_neg (by omega), hK0.1, Option.bind_some, hK0.2, Option.bind_some, if_neg (by simp), if_neg (by simp)]
  · refine ⟨0, ?_⟩
    unfold laws_FnExactIsTrueEquation.f
    rw [if_pos (by omega)]

end Go.Proofs.YtfnnilmkmlmleaaDoor.Pure
