/- Proved here: the pure statement of FnExactMovesToEquation: program and reference count the same moves from one equation to another. Conditions: the texts are no longer than memory can hold. -/
import Derived.Test.YtfnnilmkmlmleaaDoorQFnExactMovesToEquationx4
set_option linter.unusedVariables false
set_option linter.unusedSimpArgs false
namespace Go.Proofs.YtfnnilmkmlmleaaDoor.Pure
open Go.RowKit Go.Proofs.YtfnnilmkmlmleaaDoor.Q Go.Proofs.YtfnnilmkmlmleaaDoorW.PrintWords Go.Proofs.YtfnnilmkmlmleaaDoorW.PrintLast

/-! ### base: wrapping, 'from some number of rounds on', loops -/
theorem w64 {n : Int} (h0 : -9223372036854775808 ≤ n) (h1 : n ≤ 9223372036854775807) : wrap64 n = n := by unfold wrap64; omega
theorem wf64 {x : Int} (h : (Lit.int .i64 x).wf = true) : -9223372036854775808 ≤ x ∧ x ≤ 9223372036854775807 := by
  simp [Lit.wf, IntKind.min, IntKind.max, IntKind.signed, IntKind.bits] at h
  omega
theorem maxLen_le {n : Nat} (h : n ≤ maxLen) : n ≤ 9223372036854775807 := by unfold maxLen at h; omega
theorem Ev.both {α β : Type} {g : Nat → Option α} {f : Nat → Option β} {a : α} {b : β} (h : Ev g a) (k : Ev f b) : ∃ K, ∀ n, K ≤ n → g n = some a ∧ f n = some b := by
  obtain ⟨K, h⟩ := h
  obtain ⟨K', k⟩ := k
  exact ⟨max K K', fun n hn => ⟨h n (by omega), k n (by omega)⟩⟩
theorem Ev.const {α : Type} {x : Option α} {r : α} (h : x = some r) : Ev (fun _ => x) r := ⟨0, fun _ _ => h⟩
/-- A loop from lo on that ends early with 'bad', or runs through. -/
theorem all_ev {β : Type} (g : Nat → Int → Option β) (p : Nat → Bool) (good bad : β) (lo n : Nat)
    (hgood : ∀ i r, lo ≤ i → i < n → p i = true → Ev (fun k => g k ((i + 1 : Nat) : Int)) r → Ev (fun k => g k (i : Int)) r)
    (hbad : ∀ i, lo ≤ i → i < n → p i = false → Ev (fun k => g k (i : Int)) bad)
    (fin : ∀ i, n ≤ i → i ≤ n + lo → Ev (fun k => g k (i : Int)) good) : ∀ d a, n - a = d → lo ≤ a → a ≤ n + lo → Ev (fun k => g k (a : Int)) (if (List.range' a (n - a)).all p = true then good else bad) := by
  intro d
  induction d with
  | zero =>
    intro a ha hlo hle
    rw [ha]
    simpa using fin a (by omega) hle
  | succ d ih =>
    intro a ha hlo hle
    rw [ha, List.range'_succ, List.all_cons]
    cases hp : p a with
    | true =>
      have := ih (a + 1) (by omega) (by omega) (by omega)
      rw [show n - (a + 1) = d by omega] at this
      simp only [Bool.true_and]
      exact hgood a _ hlo (by omega) hp this
    | false =>
      simp only [Bool.false_and]
      exact hbad a hlo (by omega) hp
/-- The same where it answers whether all held. -/
theorem all_evB (g : Nat → Int → Option Bool) (p : Nat → Bool) (lo n : Nat)
    (hgood : ∀ i r, lo ≤ i → i < n → p i = true → Ev (fun k => g k ((i + 1 : Nat) : Int)) r → Ev (fun k => g k (i : Int)) r)
    (hbad : ∀ i, lo ≤ i → i < n → p i = false → Ev (fun k => g k (i : Int)) false)
    (fin : ∀ i, n ≤ i → i ≤ n + lo → Ev (fun k => g k (i : Int)) true) : Ev (fun k => g k (lo : Int)) ((List.range' lo (n - lo)).all p) := by
  have h := all_ev g p true false lo n hgood hbad fin (n - lo) lo rfl (Nat.le_refl _) (by omega)
  cases hb : (List.range' lo (n - lo)).all p <;> simpa [hb] using h
/-- A loop that carries a state s; P: what is known of it. -/
theorem fold_ev {σ β : Type} (g : Nat → σ → Int → Option β) (f : σ → Nat → σ) (h : σ → β) (P : Nat → σ → Prop) (n : Nat)
    (step : ∀ s i r, i < n → P i s → (P (i + 1) (f s i) ∧ (Ev (fun k => g k (f s i) ((i + 1 : Nat) : Int)) r → Ev (fun k => g k s (i : Int)) r)))
    (fin : ∀ s, P n s → Ev (fun k => g k s (n : Int)) (h s)) : ∀ d a s, n - a = d → a ≤ n → P a s → Ev (fun k => g k s (a : Int)) (h ((List.range' a (n - a)).foldl f s)) := by
  intro d
  induction d with
  | zero =>
    intro a s ha hle hP
    obtain rfl : a = n := by omega
    simpa using fin s hP
  | succ d ih =>
    intro a s ha hle hP
    rw [ha, List.range'_succ, List.foldl_cons]
    have := step s a (h ((List.range' (a + 1) d).foldl f (f s a))) (by omega) hP
    refine this.2 ?_
    have h2 := ih (a + 1) (f s a) (by omega) (by omega) this.1
    rw [show n - (a + 1) = d by omega] at h2
    exact h2
theorem rd_nat (l : List Int) (i : Nat) (h : i < l.length) : rd l (i : Int) = l[i] := by unfold rd; rw [Int.toNat_natCast]; simp [List.getD_eq_getElem?_getD, h]
theorem all_range (l : List Int) (q : Int → Bool) : (List.range' 0 l.length).all (fun i => q (rd l (i : Int))) = l.all q := by
  rw [Bool.eq_iff_iff, List.all_eq_true, List.all_eq_true]
  constructor
  · intro h x hx
    obtain ⟨i, hi, rfl⟩ := List.getElem_of_mem hx
    have := h i (by simp; omega)
    rwa [rd_nat l i hi] at this
  · intro h i hi
    have hi : i < l.length := by simp at hi; omega
    rw [rd_nat l i hi]
    exact h _ (List.getElem_mem hi)
/-- Strictly increasing. -/
def incr (l : List Int) : Bool := (List.range' 1 (l.length - 1)).all fun i => decide (rd l (i : Int) > rd l ((i : Int) - 1))
theorem incr_iff (l : List Int) : incr l = true ↔ ∀ i, ∀ h : i + 1 < l.length, l[i] < l[i + 1] := by
  unfold incr
  rw [List.all_eq_true]
  constructor
  · intro h i hi
    have := h (i + 1) (by simp; omega)
    rw [rd_nat l (i + 1) hi, show (((i + 1 : Nat) : Int) - 1) = ((i : Nat) : Int) by omega, rd_nat l i (by omega)] at this
    simpa using this
  · intro h i hi
    obtain ⟨j, rfl⟩ : ∃ j, i = j + 1 := ⟨i - 1, by simp at hi; omega⟩
    have hj : j + 1 < l.length := by simp at hi; omega
    rw [rd_nat l (j + 1) hj, show (((j + 1 : Nat) : Int) - 1) = ((j : Nat) : Int) by omega, rd_nat l j (by omega)]
    simpa using h j hj
theorem incr_ge (l : List Int) (h : incr l = true) (h0 : ∀ x ∈ l, 0 ≤ x) : ∀ i (hi : i < l.length), (i : Int) ≤ l[i] := by
  intro i
  induction i with
  | zero => intro hi; exact h0 _ (List.getElem_mem hi)
  | succ i ih =>
    intro hi
    have := ih (by omega)
    have := (incr_iff l).1 h i hi
    omega
theorem incr_len (l : List Int) (h : incr l = true) (m : Int) (hm : l.all (fun x => decide (0 ≤ x) && decide (x ≤ m)) = true) : (l.length : Int) ≤ m + 1 ∨ l = [] := by
  rw [List.all_eq_true] at hm
  by_cases h0 : l = []
  · exact .inr h0
  · left
    have hp := List.length_pos_iff.2 h0
    have h1 := incr_ge l h (fun x hx => by have := hm x hx; simp at this; omega) (l.length - 1) (by omega)
    have h2 := hm _ (List.getElem_mem (show l.length - 1 < l.length by omega))
    simp at h2
    omega

/-! ### bounds -/
def inB (lo hi : Int) (x : Int) : Bool := decide (lo ≤ x) && decide (x ≤ hi)
theorem inB_iff {lo hi x : Int} : inB lo hi x = true ↔ lo ≤ x ∧ x ≤ hi := by simp [inB]
theorem l1In_is (a lo hi : Int) : spec_l1In.f a lo hi = some (inB lo hi a) := by
  unfold spec_l1In.f inB
  by_cases h : a ≥ lo
  · rw [if_pos h, decide_eq_true (show lo ≤ a from h), Bool.true_and]
  · rw [if_neg h, decide_eq_false (show ¬ lo ≤ a from h), Bool.false_and]
theorem within_is (a lo hi : Int) : impl_within.f a lo hi = some (inB lo hi a) := by
  unfold impl_within.f inB
  by_cases h : lo ≤ a
  · rw [if_pos h, decide_eq_true h, Bool.true_and]
  · rw [if_neg h, decide_eq_false h, Bool.false_and]

/-! ### numerals: the bytes of a text -/
theorem bt_nat (s : ByteArray) (i : Nat) (h : i < s.data.toList.length) : bt s (i : Int) = ((s.data.toList[i].toNat : Nat) : Int) := by
  have hs : i < s.size := by rw [Array.length_toList] at h; exact h
  rw [← bt_at s (i : Int) (by rw [Int.toNat_natCast]; exact hs)]
  rfl
theorem size_list (s : ByteArray) : s.data.toList.length = s.size := by rw [Array.length_toList]; rfl
theorem toList_nil (s : ByteArray) : (s.toList == ([] : List UInt8)) = (s.data.toList).isEmpty := by
  rw [Go.Lib.toList_data]
  cases s.data.toList with
  | nil => rfl
  | cons a l => rfl
def digs : List UInt8 := [48, 49, 50, 51, 52, 53, 54, 55, 56, 57]
def digB (b : UInt8) : Bool := decide (48 ≤ b.toNat) && decide (b.toNat ≤ 57)
theorem digs_all : ((List.range 256).all fun n => decide (digs.contains (UInt8.ofNat n) = digB (UInt8.ofNat n))) = true := by decide +kernel
theorem digs_is (b : UInt8) : digs.contains b = digB b := by
  have h := digs_all
  simp only [List.all_eq_true, List.mem_range, decide_eq_true_eq] at h
  have := h b.toNat b.toNat_lt
  rwa [UInt8.ofNat_toNat] at this
theorem dropWhile_nil {α : Type} (p : α → Bool) : ∀ l : List α, (l.dropWhile p).isEmpty = l.all p
  | [] => rfl
  | x :: l => by
    rw [List.dropWhile_cons, List.all_cons]
    cases h : p x with
    | true => simp [dropWhile_nil p l]
    | false => simp
theorem dropWhile_all {α : Type} (p : α → Bool) : ∀ l : List α, (l.dropWhile p).all p = l.all p
  | [] => rfl
  | x :: l => by
    rw [List.dropWhile_cons, List.all_cons]
    cases h : p x with
    | true => simp [dropWhile_all p l]
    | false => simp [h]
/-- Nothing is left where all go. -/
theorem trim_nil (l cs : List UInt8) : (Go.Lib.trimS l cs).isEmpty = l.all (cs.contains ·) := by
  unfold Go.Lib.trimS Go.Lib.trimLeftS Go.Lib.trimRightS
  rw [dropWhile_nil, List.all_reverse, dropWhile_all, List.all_reverse]
theorem trim_is (s : ByteArray) (hs : s.size ≤ 1000000) : strings_Trim.f s (⟨#[48, 49, 50, 51, 52, 53, 54, 55, 56, 57]⟩ : ByteArray) = some ⟨(Go.Lib.trimS s.data.toList digs).toArray⟩ := by
  unfold strings_Trim.f
  rw [if_pos ⟨by omega, by decide, by decide⟩]
  rfl
theorem isNumeral_is (s : ByteArray) (n : Int) (hn : n ≤ 1000000) : impl_isNumeral.f s n = some (inB 1 n (s.size : Int) && s.data.toList.all digB) := by
  unfold impl_isNumeral.f
  rw [within_is, Option.bind_some]
  cases hi : inB 1 n (s.size : Int) with
  | false => rw [if_neg (by decide), Bool.false_and]
  | true =>
    rw [inB_iff] at hi
    rw [if_pos rfl, trim_is s (by omega), Option.bind_some, toList_nil, Bool.true_and]
    show some (Go.Lib.trimS s.data.toList digs).isEmpty = _
    rw [trim_nil]
    congr 1
    exact congrArg s.data.toList.all (funext digs_is)
theorem digB_iff {b : UInt8} : digB b = true ↔ 48 ≤ b.toNat ∧ b.toNat ≤ 57 := by simp [digB]
theorem nuNumeral_ev (s : ByteArray) (n : Int) (hs : s.size ≤ 1000000) : Ev (fun k => spec_nuNumeral.f k s n) (inB 1 n (s.size : Int) && s.data.toList.all digB) := by
  unfold spec_nuNumeral.f
  rw [l1In_is]
  simp only [Option.bind_some]
  cases hi : inB 1 n (s.size : Int) with
  | false => exact Ev.const (by simp)
  | true =>
    simp only [if_true, Bool.true_and]
    have hz := size_list s
    have h := all_evB (fun k i => spec_nuNumeral.l0 k s i) (fun i => digB (s.data.toList.getD i 0)) 0 s.size
      (fun i r _ hi hp hr => Ev.step (fun k => by
        have hb := bt_nat s i (by omega)
        rw [List.getD_eq_getElem?_getD, List.getElem?_eq_getElem (by omega), Option.getD_some, digB_iff] at hp
        simp only [spec_nuNumeral.l0]
        rw [if_pos (by omega), if_pos (by omega), hb, if_neg (by omega), if_neg (by omega), w64 (by omega) (by omega)]
        rfl) hr)
      (fun i _ hi hp => Ev.step (f := fun _ => some false) (fun k => by
        have hb := bt_nat s i (by omega)
        rw [List.getD_eq_getElem?_getD, List.getElem?_eq_getElem (by omega), Option.getD_some, Bool.eq_false_iff, Ne, digB_iff] at hp
        simp only [spec_nuNumeral.l0]
        rw [if_pos (by omega), if_pos (by omega), hb]
        by_cases h1 : ((s.data.toList[i].toNat : Nat) : Int) < 48
        · rw [if_pos h1]
        · rw [if_neg h1, if_pos (by omega)]) (Ev.now false))
      (fun i hi _ => Ev.step (fun k => by simp only [spec_nuNumeral.l0]; rw [if_neg (by omega)]) (Ev.now true))
    have e : (List.range' 0 (s.size - 0)).all (fun i => digB (s.data.toList.getD i 0)) = s.data.toList.all digB := by
      rw [Nat.sub_zero, Bool.eq_iff_iff, List.all_eq_true, List.all_eq_true]
      constructor
      · intro h x hx
        obtain ⟨i, hi, rfl⟩ := List.getElem_of_mem hx
        have := h i (by simp; omega)
        rwa [List.getD_eq_getElem?_getD, List.getElem?_eq_getElem hi, Option.getD_some] at this
      · intro h i hi
        have hi : i < s.data.toList.length := by simp at hi; omega
        rw [List.getD_eq_getElem?_getD, List.getElem?_eq_getElem hi, Option.getD_some]
        exact h _ (List.getElem_mem hi)
    rw [e] at h
    exact h

/-! ### equations: splitting, cutting -/
def mkB (l : List UInt8) : ByteArray := ⟨l.toArray⟩
theorem mkB_data (l : List UInt8) : (mkB l).data.toList = l := rfl
theorem mkB_of (s : ByteArray) : mkB s.data.toList = s := by cases s; rfl
theorem mkB_size (l : List UInt8) : (mkB l).size = l.length := by rw [← size_list, mkB_data]
theorem ex_mkB (s : ByteArray) (a b : Nat) : s.extract a b = mkB ((s.data.toList.take b).drop a) := by
  rw [← mkB_of (s.extract a b)]
  congr 1
  rw [ByteArray.data_extract, Array.toList_extract, List.extract_eq_take_drop, List.drop_take]
/-- A text split at a byte. -/
def spl (b : UInt8) : List UInt8 → List (List UInt8)
  | [] => [[]]
  | c :: l => if c = b then [] :: spl b l else match spl b l with
    | p :: ps => (c :: p) :: ps
    | [] => [[c]]
theorem spl_cons (b : UInt8) : ∀ l, ∃ p ps, spl b l = p :: ps
  | [] => ⟨[], [], rfl⟩
  | c :: l => by
    obtain ⟨p, ps, h⟩ := spl_cons b l
    simp only [spl, h]
    split
    · exact ⟨_, _, rfl⟩
    · exact ⟨_, _, rfl⟩
theorem spl_app (b : UInt8) (y : List UInt8) : ∀ x, b ∉ x → spl b (x ++ b :: y) = x :: spl b y
  | [], _ => by simp [spl]
  | c :: x, h => by
    have h1 : c ≠ b := fun e => h (by simp [e])
    have ih := spl_app b y x (fun hm => h (by simp [hm]))
    simp only [List.cons_append, spl, ih]
    rw [if_neg h1]
theorem spl_none (b : UInt8) : ∀ x, b ∉ x → spl b x = [x]
  | [], _ => rfl
  | c :: x, h => by
    have h1 : c ≠ b := fun e => h (by simp [e])
    have ih := spl_none b x (fun hm => h (by simp [hm]))
    simp only [spl, ih]
    rw [if_neg h1]
theorem spl_one (b : UInt8) : ∀ l x, spl b l = [x] → l = x
  | [], x, h => by simp [spl] at h; exact h.symm
  | c :: l, x, h => by
    obtain ⟨p, ps, e⟩ := spl_cons b l
    simp only [spl, e] at h
    split at h
    · simp at h
    · simp only [List.cons.injEq] at h
      obtain ⟨h1, rfl⟩ := h
      rw [← h1, spl_one b l p e]
theorem spl_two (b : UInt8) : ∀ l x y, spl b l = [x, y] → l = x ++ b :: y
  | [], x, y, h => by simp [spl] at h
  | c :: l, x, y, h => by
    obtain ⟨p, ps, e⟩ := spl_cons b l
    simp only [spl, e] at h
    split at h
    · rename_i hc
      simp only [List.cons.injEq] at h
      obtain ⟨rfl, h1, rfl⟩ := h
      rw [hc, spl_one b l p e, h1]
      rfl
    · simp only [List.cons.injEq] at h
      obtain ⟨h1, rfl⟩ := h
      rw [← h1, spl_two b l p y e]
      rfl
theorem spl_len (b : UInt8) : ∀ l, (spl b l).length ≤ l.length + 1
  | [] => by simp [spl]
  | c :: l => by
    have ih := spl_len b l
    obtain ⟨p, ps, e⟩ := spl_cons b l
    simp only [spl, e] at ih ⊢
    split
    · simp at ih ⊢; omega
    · simp at ih ⊢; omega
theorem spl_mem (b : UInt8) : ∀ l x, x ∈ spl b l → x.length ≤ l.length
  | [], x, h => by simp [spl] at h; simp [h]
  | c :: l, x, h => by
    have ih := spl_mem b l
    obtain ⟨p, ps, e⟩ := spl_cons b l
    rw [e] at ih
    simp only [spl, e] at h
    split at h
    · rcases List.mem_cons.1 h with rfl | h2
      · simp
      · have := ih x h2; simp; omega
    · rcases List.mem_cons.1 h with rfl | h2
      · have := ih p (by simp); simp; omega
      · have := ih x (by simp [h2]); simp; omega
/-- A piece in front of the first piece. -/
def addF (p : List UInt8) : List (List UInt8) → List (List UInt8)
  | q :: qs => (p ++ q) :: qs
  | [] => [p]
theorem split_ev (s : ByteArray) (b : UInt8) (hs : s.size ≤ 1000000) : Ev (fun k => spec_l1Split.f k s (b.toNat : Int)) ((spl b s.data.toList).map mkB) := by
  have hz := size_list s
  have key : ∀ (d i : Nat) (acc : List ByteArray) (st : Nat), i + d = s.size → st ≤ i → acc.length ≤ i →
      Ev (fun k => spec_l1Split.l0 k s (b.toNat : Int) acc (st : Int) (i : Int)) (acc ++ (addF ((s.data.toList.take i).drop st) (spl b (s.data.toList.drop i))).map mkB) := by
    intro d
    induction d with
    | zero =>
      intro i acc st hi hst ha
      obtain rfl : i = s.size := by omega
      rw [show s.data.toList.drop s.size = [] from List.drop_of_length_le (by omega)]
      refine Ev.step (f := fun _ => some (acc ++ [s.extract st s.size])) (fun k => ?_) (Ev.const ?_)
      · simp only [spec_l1Split.l0]
        rw [if_neg (by omega), if_pos (by omega), if_pos (by omega), if_pos (by omega), Int.toNat_natCast]
      · rw [ex_mkB]
        simp [spl, addF]
    | succ d ih =>
      intro i acc st hi hst ha
      have hlt : i < s.data.toList.length := by omega
      have hb := bt_nat s i hlt
      rw [List.drop_eq_getElem_cons hlt]
      have hu : s.data.toList[i].toNat = b.toNat ↔ s.data.toList[i] = b := ⟨fun h => UInt8.toNat_inj.1 h, fun h => by rw [h]⟩
      by_cases hc : s.data.toList[i] = b
      · have h9 := ih (i + 1) (acc ++ [s.extract st i]) (i + 1) (by omega) (by omega) (by simp; omega)
        have e : acc ++ (addF ((s.data.toList.take i).drop st) (spl b (s.data.toList[i] :: s.data.toList.drop (i + 1)))).map mkB = (acc ++ [s.extract st i]) ++ (addF ((s.data.toList.take (i + 1)).drop (i + 1)) (spl b (s.data.toList.drop (i + 1)))).map mkB := by
          obtain ⟨p, ps, e⟩ := spl_cons b (s.data.toList.drop (i + 1))
          rw [ex_mkB]
          simp only [spl, e, if_pos hc, addF, List.append_nil]
          rw [List.drop_of_length_le (l := s.data.toList.take (i + 1)) (by simp; omega)]
          simp
        rw [e]
        refine Ev.step (fun k => ?_) h9
        simp only [spec_l1Split.l0]
        rw [if_pos (by omega), if_pos (by omega), hb, if_pos (by rw [hc]), if_pos (by omega), if_pos (by omega), if_pos (by omega), if_pos (by omega), Int.toNat_natCast, Int.toNat_natCast, w64 (by omega) (by omega)]
        rfl
      · have h9 := ih (i + 1) acc st (by omega) (by omega) (by omega)
        have e : addF ((s.data.toList.take i).drop st) (spl b (s.data.toList[i] :: s.data.toList.drop (i + 1))) = addF ((s.data.toList.take (i + 1)).drop st) (spl b (s.data.toList.drop (i + 1))) := by
          obtain ⟨p, ps, e⟩ := spl_cons b (s.data.toList.drop (i + 1))
          simp only [spl, e, if_neg hc, addF]
          rw [List.take_add_one, List.getElem?_eq_getElem hlt, Option.toList_some, List.drop_append_of_le_length (by simp; omega)]
          simp
        rw [e]
        refine Ev.step (fun k => ?_) h9
        simp only [spec_l1Split.l0]
        rw [if_pos (by omega), if_pos (by omega), hb, if_neg (by intro h; exact hc (hu.1 (by omega))), w64 (by omega) (by omega)]
        rfl
  have h := key s.size 0 [] 0 (by omega) (by omega) (by simp)
  obtain ⟨p, ps, e⟩ := spl_cons b s.data.toList
  simp only [List.take_zero, List.drop_zero, e, addF, List.drop_nil, List.nil_append] at h
  rw [e]
  exact h
/-- The first byte of some, and what stands ahead of it. -/
theorem any_cases (cs : List UInt8) : ∀ l, (Lib.indexAny l cs = -1 ∧ ∀ b ∈ l, cs.contains b = false) ∨ ∃ x c y, l = x ++ c :: y ∧ cs.contains c = true ∧ (∀ b ∈ x, cs.contains b = false) ∧ Lib.indexAny l cs = (x.length : Int)
  | [] => .inl ⟨rfl, fun _ h => by cases h⟩
  | a :: l => by
    by_cases ha : cs.contains a = true
    · exact .inr ⟨[], a, l, rfl, ha, (fun _ h => by cases h), by simp only [Lib.indexAny]; rw [if_pos ha]; rfl⟩
    · rcases any_cases cs l with ⟨h1, h2⟩ | ⟨x, c, y, h1, h2, h3, h4⟩
      · refine .inl ⟨by simp only [Lib.indexAny]; rw [if_neg ha, h1]; rfl, fun b hb => ?_⟩
        rcases List.mem_cons.1 hb with rfl | hb
        · exact Bool.eq_false_iff.2 ha
        · exact h2 b hb
      · refine .inr ⟨a :: x, c, y, by rw [h1]; rfl, h2, fun b hb => ?_, ?_⟩
        · rcases List.mem_cons.1 hb with rfl | hb
          · exact Bool.eq_false_iff.2 ha
          · exact h3 b hb
        · simp only [Lib.indexAny]
          rw [if_neg ha, h4, if_neg (by simp only [beq_iff_eq]; omega)]
          simp
theorem cut_cases (b : UInt8) (l : List UInt8) : (Lib.cut l [b] = (l, [], false) ∧ b ∉ l) ∨ ∃ x y, l = x ++ b :: y ∧ b ∉ x ∧ Lib.cut l [b] = (x, y, true) := by
  have hi : Lib.index l [b] = Lib.indexAny l [b] := by rw [Lib.index_one, Lib.indexAny_one]
  rcases any_cases [b] l with ⟨h1, h2⟩ | ⟨x, c, y, h1, h2, h3, h4⟩
  · left
    refine ⟨by unfold Lib.cut; rw [hi, h1, if_neg (by decide)], fun hm => ?_⟩
    have := h2 b hm
    simp at this
  · right
    obtain rfl : c = b := by simpa using h2
    refine ⟨x, y, h1, fun hm => by have := h3 c hm; simp at this, ?_⟩
    unfold Lib.cut
    rw [hi, h4, if_pos (by omega), h1]
    simp
/-- A numeral of at most three digits. -/
def numL (l : List UInt8) : Bool := inB 1 3 (l.length : Int) && l.all digB
theorem numL_no (l : List UInt8) (h : numL l = true) (b : UInt8) (hb : digB b = false) : b ∉ l := fun hm => by
  unfold numL at h
  rw [Bool.and_eq_true, List.all_eq_true] at h
  have := h.2 b hm
  rw [hb] at this
  cases this
/-- The texts that are equations. -/
def isForm (l : List UInt8) : Prop := ∃ a c b t, l = (a ++ c :: b) ++ 61 :: t ∧ (c = 43 ∨ c = 45) ∧ numL a = true ∧ numL b = true ∧ numL t = true
theorem idxN_is : ∀ (l : List (List UInt8)) (i : Int), 0 ≤ i → ∃ r, idxN (l.map mkB) i = some r ∧ (!decide (0 ≤ r)) = l.all numL
  | [], i, _ => ⟨-1, rfl, by simp⟩
  | x :: l, i, h => by
    have h1 := isNumeral_is (mkB x) 3 (by omega)
    rw [mkB_size, mkB_data] at h1
    have h2 : impl_isNumeral.f (mkB x) 3 = some (numL x) := h1
    simp only [List.map_cons, idxN, h2, Option.bind_some, List.all_cons]
    cases hx : numL x with
    | true =>
      obtain ⟨r, hr, e⟩ := idxN_is l (i + 1) (by omega)
      exact ⟨r, by rw [if_pos rfl]; exact hr, by rw [e, Bool.true_and]⟩
    | false => exact ⟨i, by rw [if_neg (by decide)], by simp [h]⟩
theorem nuAll_ev : ∀ l : List (List UInt8), (∀ x ∈ l, x.length ≤ 1000000) → Ev (fun k => nuAll k (l.map mkB)) (l.all numL)
  | [], _ => Ev.const rfl
  | x :: l, h => by
    have h1 := nuNumeral_ev (mkB x) 3 (by rw [mkB_size]; exact h x (by simp))
    rw [mkB_size, mkB_data] at h1
    have h2 : Ev (fun k => spec_nuNumeral.f k (mkB x) 3) (numL x) := h1
    simp only [List.map_cons, nuAll]
    refine Ev.bind h2 ?_
    rw [List.all_cons]
    cases numL x with
    | true =>
      simp only [if_true, Bool.true_and]
      exact nuAll_ev l (fun y hy => h y (by simp [hy]))
    | false => exact Ev.const (by simp)
/-- What the program reads. -/
theorem num_is (s : ByteArray) (hs : s.size ≤ 1000000) : (∃ a c b t, s.data.toList = (a ++ c :: b) ++ 61 :: t ∧ (c = 43 ∨ c = 45) ∧ numL a = true ∧ numL b = true ∧ numL t = true ∧ impl_numerals.f s = some ([mkB a, mkB b, mkB t], (c.toNat : Int), true)) ∨ (¬ isForm s.data.toList ∧ ∃ L c, impl_numerals.f s = some (L, c, false)) := by
  unfold impl_numerals.f
  rw [if_pos (by omega)]
  rcases cut_cases 61 s.data.toList with ⟨h1, h2⟩ | ⟨x, y, h1, h2, h3⟩
  · right
    refine ⟨fun ⟨a, c, b, t, e, _⟩ => h2 (by rw [e]; simp), [], 0, ?_⟩
    unfold cutB
    rw [h1, if_neg (by simp)]
  · have eB : cutB s = true := by unfold cutB; rw [h3]
    have eL : cutL s = mkB x := by unfold cutL; rw [h3]; rfl
    have eR : cutR s = mkB y := by unfold cutR; rw [h3]; rfl
    rw [if_pos eB]
    have eS : signAt s = Lib.indexAny x [43, 45] := by unfold signAt; rw [eL, mkB_data]
    rcases any_cases [43, 45] x with ⟨g1, g2⟩ | ⟨a, c, b, g1, g2, g3, g4⟩
    · right
      refine ⟨fun ⟨a, c, b, t, e, hc, ha, hb, ht⟩ => ?_, [], 0, ?_⟩
      · rw [h1] at e
        have e2 : spl 61 (x ++ 61 :: y) = spl 61 ((a ++ c :: b) ++ 61 :: t) := by rw [e]
        rw [spl_app 61 y x h2, spl_app 61 t (a ++ c :: b) (fun hm => by
          rcases List.mem_append.1 hm with hm | hm
          · exact numL_no a ha 61 (by decide) hm
          · rcases List.mem_cons.1 hm with hm | hm
            · rcases hc with rfl | rfl <;> cases hm
            · exact numL_no b hb 61 (by decide) hm)] at e2
        have e3 := (List.cons.inj e2).1
        have := g2 c (by rw [e3]; simp)
        rcases hc with rfl | rfl <;> simp at this
      · rw [eS, g1, if_neg (by decide)]
    · have hc : c = 43 ∨ c = 45 := by simpa using g2
      have hk : signAt s = (a.length : Int) := by rw [eS, g4]
      have hlen : x.length ≤ 1000000 := by
        have := size_list s
        rw [h1] at this
        simp at this
        omega
      have hP : numParts s = [a, b, y].map mkB := by
        have e1 : (mkB x).extract 0 a.length = mkB a := by rw [ex_mkB, mkB_data, g1]; simp
        have e2 : (mkB x).extract (a.length + 1) (mkB x).size = mkB b := by
          rw [ex_mkB, mkB_data, mkB_size, List.take_length, g1, show a ++ c :: b = (a ++ [c]) ++ b from by simp, show a.length + 1 = (a ++ [c]).length from by simp, List.drop_left]
        unfold numParts
        rw [hk, eL, eR, Int.toNat_natCast, e1, e2]
        rfl
      have hbt : bt (cutL s) (signAt s) = (c.toNat : Int) := by
        rw [hk, eL, bt_nat (mkB x) a.length (by rw [mkB_data, g1]; simp)]
        simp [mkB_data, g1]
      obtain ⟨r, hr, e⟩ := idxN_is [a, b, y] 0 (by omega)
      rw [if_pos (by omega), hP, hr, Option.bind_some, hbt, e]
      cases hA : [a, b, y].all numL with
      | true =>
        left
        simp only [List.all_cons, List.all_nil, Bool.and_true, Bool.and_eq_true] at hA
        exact ⟨a, c, b, y, by rw [h1, g1], hc, hA.1, hA.2.1, hA.2.2, rfl⟩
      | false =>
        right
        refine ⟨fun ⟨a', c', b', t', e', hc', ha', hb', ht'⟩ => ?_, _, _, rfl⟩
        rw [h1] at e'
        have e2 : spl 61 (x ++ 61 :: y) = spl 61 ((a' ++ c' :: b') ++ 61 :: t') := by rw [e']
        rw [spl_app 61 y x h2, spl_app 61 t' (a' ++ c' :: b') (fun hm => by
          rcases List.mem_append.1 hm with hm | hm
          · exact numL_no a' ha' 61 (by decide) hm
          · rcases List.mem_cons.1 hm with hm | hm
            · rcases hc' with rfl | rfl <;> cases hm
            · exact numL_no b' hb' 61 (by decide) hm), spl_none 61 t' (numL_no t' ht' 61 (by decide))] at e2
        obtain ⟨e3, e4⟩ := List.cons.inj e2
        obtain rfl := spl_one 61 y t' e4
        rw [g1] at e3
        -- the first sign of both is the same
        have hna : ∀ z, numL z = true → ∀ q ∈ z, ([43, 45] : List UInt8).contains q = false := fun z hz q hq => by
          cases hcq : ([43, 45] : List UInt8).contains q with
          | false => rfl
          | true =>
            have : q = 43 ∨ q = 45 := by simpa using hcq
            exfalso
            rcases this with rfl | rfl
            · exact numL_no z hz 43 (by decide) hq
            · exact numL_no z hz 45 (by decide) hq
        have hcut : ∀ (p p' : List UInt8) (q q' : UInt8) (r r' : List UInt8), p ++ q :: r = p' ++ q' :: r' → (∀ z ∈ p, ([43, 45] : List UInt8).contains z = false) → (∀ z ∈ p', ([43, 45] : List UInt8).contains z = false) → ([43, 45] : List UInt8).contains q = true → ([43, 45] : List UInt8).contains q' = true → p = p' ∧ q = q' ∧ r = r' := by
          intro p
          induction p with
          | nil =>
            intro p' q q' r r' he _ hp' hq _
            cases p' with
            | nil => simp at he; exact ⟨rfl, he.1, he.2⟩
            | cons z p' =>
              simp at he
              have := hp' z (by simp)
              rw [← he.1, hq] at this
              cases this
          | cons z p ih =>
            intro p' q q' r r' he hp hp' hq hq'
            cases p' with
            | nil =>
              simp at he
              have := hp z (by simp)
              rw [he.1, hq'] at this
              cases this
            | cons z' p' =>
              simp only [List.cons_append, List.cons.injEq] at he
              obtain ⟨i1, i2, i3⟩ := ih p' q q' r r' he.2 (fun u hu => hp u (by simp [hu])) (fun u hu => hp' u (by simp [hu])) hq hq'
              exact ⟨by rw [he.1, i1], i2, i3⟩
        obtain ⟨i1, _, i3⟩ := hcut a a' c c' b b' e3 g3 (hna a' ha') g2 (by rcases hc' with rfl | rfl <;> rfl)
        rw [i1, i3] at hA
        simp [ha', hb', ht'] at hA
/-- What the reference reads. -/
theorem read_yes (s : ByteArray) (hs : s.size ≤ 1000000) (a b t : List UInt8) (c : UInt8) (e : s.data.toList = (a ++ c :: b) ++ 61 :: t) (hc : c = 43 ∨ c = 45) (ha : numL a = true) (hb : numL b = true) (ht : numL t = true) :
    Ev (fun k => spec_nuRead.f k s) ([mkB a, mkB b, mkB t], decide (c = 43), true) := by
  have hz := size_list s
  rw [e] at hz
  simp only [List.length_append, List.length_cons] at hz
  have h61 : (61 : UInt8) ∉ a ++ c :: b := fun hm => by
    rcases List.mem_append.1 hm with hm | hm
    · exact numL_no a ha 61 (by decide) hm
    · rcases List.mem_cons.1 hm with hm | hm
      · rcases hc with rfl | rfl <;> cases hm
      · exact numL_no b hb 61 (by decide) hm
  have h1 := split_ev s 61 hs
  rw [e, spl_app 61 t _ h61, spl_none 61 t (numL_no t ht 61 (by decide))] at h1
  have h2 := split_ev (mkB (a ++ c :: b)) 43 (by rw [mkB_size]; simp; omega)
  have h3 := split_ev (mkB (a ++ c :: b)) 45 (by rw [mkB_size]; simp; omega)
  rw [mkB_data] at h2 h3
  have hall := nuAll_ev [a, b, t] (by intro x hx; simp at hx; rcases hx with rfl | rfl | rfl <;> omega)
  have hall2 : [a, b, t].all numL = true := by simp [ha, hb, ht]
  rw [hall2] at hall
  unfold spec_nuRead.f
  refine Ev.bind h1 ?_
  simp only [List.map_cons, List.map_nil, List.length_cons, List.length_nil]
  rcases hc with rfl | rfl
  · rw [spl_app 43 b a (numL_no a ha 43 (by decide)), spl_none 43 b (numL_no b hb 43 (by decide))] at h2
    refine Ev.congr (fun k => if_pos (by first | trivial | simp)) (Ev.bind h2 ?_)
    refine Ev.congr (fun k => if_neg (by simp)) ?_
    unfold nuRest
    refine Ev.congr (fun k => (if_pos (by simp)).trans (if_pos (by simp))) (Ev.bind hall ?_)
    exact Ev.const (by simp [rdOf])
  · have h43 : (43 : UInt8) ∉ a ++ 45 :: b := fun hm => by
      rcases List.mem_append.1 hm with hm | hm
      · exact numL_no a ha 43 (by decide) hm
      · rcases List.mem_cons.1 hm with hm | hm
        · cases hm
        · exact numL_no b hb 43 (by decide) hm
    rw [spl_none 43 _ h43] at h2
    rw [spl_app 45 b a (numL_no a ha 45 (by decide)), spl_none 45 b (numL_no b hb 45 (by decide))] at h3
    refine Ev.congr (fun k => if_pos (by first | trivial | simp)) (Ev.bind h2 ?_)
    refine Ev.congr (fun k => if_pos (by simp)) (Ev.bind h3 ?_)
    unfold nuRest
    refine Ev.congr (fun k => (if_pos (by simp)).trans (if_pos (by simp))) (Ev.bind hall ?_)
    exact Ev.const (by simp [rdOf])
theorem rest_no (qs : List (List UInt8)) (t : List UInt8) (plus : Bool) (h : ∀ x ∈ qs, x.length ≤ 1000000) (ht : t.length ≤ 1000000) (hl : qs.length ≤ 1000001) (hn : ∀ a b, qs = [a, b] → ¬ (numL a = true ∧ numL b = true ∧ numL t = true)) :
    Ev (fun k => nuRest k (qs.map mkB) (mkB t) plus) ([], false, false) := by
  unfold nuRest
  by_cases h3 : qs.length = 2
  · have hall := nuAll_ev (qs ++ [t]) (by intro x hx; rcases List.mem_append.1 hx with hx | hx; exact h x hx; simp at hx; rw [hx]; exact ht)
    have e : (qs ++ [t]).all numL = false := by
      match qs, h3 with
      | [a, b], _ =>
        have := hn a b rfl
        cases ha : numL a <;> cases hb : numL b <;> cases hc : numL t <;> simp_all
    rw [e] at hall
    rw [List.map_append] at hall
    refine Ev.congr (fun k => (if_pos (by simp; omega)).trans (if_pos (by simp; omega))) (Ev.bind hall ?_)
    exact Ev.const (by simp)
  · exact Ev.congr (fun k => (if_pos (by simp; omega)).trans (if_neg (by simp; omega))) (Ev.now _)
theorem read_no (s : ByteArray) (hs : s.size ≤ 1000000) (h : ¬ isForm s.data.toList) : Ev (fun k => spec_nuRead.f k s) ([], false, false) := by
  have hz := size_list s
  unfold spec_nuRead.f
  refine Ev.bind (split_ev s 61 hs) ?_
  by_cases h2 : (spl 61 s.data.toList).length = 2
  · obtain ⟨x, y, e⟩ : ∃ x y, spl 61 s.data.toList = [x, y] := by
      match spl 61 s.data.toList, h2 with
      | [x, y], _ => exact ⟨x, y, rfl⟩
    have e1 := spl_two 61 _ x y e
    have hl := hz
    rw [e1] at hl
    simp only [List.length_append, List.length_cons] at hl
    rw [e]
    simp only [List.map_cons, List.map_nil, List.length_cons, List.length_nil]
    refine Ev.congr (fun k => if_pos (by first | trivial | simp)) (Ev.bind (split_ev (mkB x) 43 (by rw [mkB_size]; omega)) ?_)
    rw [mkB_data]
    by_cases h3 : ((spl 43 x).map mkB).length = 1
    · refine Ev.congr (fun k => if_pos h3) (Ev.bind (split_ev (mkB x) 45 (by rw [mkB_size]; omega)) ?_)
      rw [mkB_data]
      refine rest_no _ y false (fun z hz => by have := spl_mem 45 x z hz; omega) (by omega) (by have := spl_len 45 x; omega) (fun a b eab ⟨ha, hb, ht⟩ => ?_)
      exact h ⟨a, 45, b, y, by rw [e1, spl_two 45 x a b eab], .inr rfl, ha, hb, ht⟩
    · refine Ev.congr (fun k => if_neg h3) ?_
      refine rest_no _ y true (fun z hz => by have := spl_mem 43 x z hz; omega) (by omega) (by have := spl_len 43 x; omega) (fun a b eab ⟨ha, hb, ht⟩ => ?_)
      exact h ⟨a, 43, b, y, by rw [e1, spl_two 43 x a b eab], .inl rfl, ha, hb, ht⟩
  · exact Ev.congr (fun k => if_neg (by simpa using h2)) (Ev.now _)


/-- The matches added where one sign or digit becomes another, as the program counts them. -/
def adO (x y : Int) : Option Int := (impl_places.f y).bind fun p => (impl_places.f x).bind fun q => bits_OnesCount8.f (Go.bits .andNot .u8 p q)
def ad (x y : UInt8) : Int := (adO (x.toNat : Int) (y.toNat : Int)).getD 0
def adOK (d e : Nat) : Bool := decide (adO ((48 + d : Nat) : Int) ((48 + e : Nat) : Int) = some ((adO ((48 + d : Nat) : Int) ((48 + e : Nat) : Int)).getD 0)) && decide (0 ≤ (adO ((48 + d : Nat) : Int) ((48 + e : Nat) : Int)).getD 0) && decide ((adO ((48 + d : Nat) : Int) ((48 + e : Nat) : Int)).getD 0 ≤ 7) &&
  decide (spec_nuChange.f 20 (d : Int) (e : Int) = some ((adO ((48 + d : Nat) : Int) ((48 + e : Nat) : Int)).getD 0, (adO ((48 + e : Nat) : Int) ((48 + d : Nat) : Int)).getD 0))
theorem ad_all : ((List.range 10).all fun d => (List.range 10).all fun e => adOK d e) = true := by decide +kernel
theorem dig_num {b : UInt8} (h : digB b = true) : (((b.toNat : Nat) : Int) - 48) % 256 = ((b.toNat - 48 : Nat) : Int) ∧ b.toNat - 48 < 10 := by
  rw [digB_iff] at h
  omega
theorem ad_at {x y : UInt8} (hx : digB x = true) (hy : digB y = true) : adO (x.toNat : Int) (y.toNat : Int) = some (ad x y) ∧ 0 ≤ ad x y ∧ ad x y ≤ 7 ∧ spec_nuChange.f 20 ((x.toNat - 48 : Nat) : Int) ((y.toNat - 48 : Nat) : Int) = some (ad x y, ad y x) := by
  have H := ad_all
  simp only [List.all_eq_true, List.mem_range] at H
  have H := H _ (dig_num hx).2 _ (dig_num hy).2
  have h1 := digB_iff.1 hx
  have h2 := digB_iff.1 hy
  unfold adOK at H
  rw [show 48 + (x.toNat - 48) = x.toNat by omega, show 48 + (y.toNat - 48) = y.toNat by omega] at H
  simp only [Bool.and_eq_true, decide_eq_true_eq] at H
  exact ⟨H.1.1.1, H.1.1.2, H.1.2, H.2⟩
def sumP (f : UInt8 → UInt8 → Int) : List UInt8 → List UInt8 → Int
  | x :: xs, y :: ys => f x y + sumP f xs ys
  | _, _ => 0
theorem sumP_app (f : UInt8 → UInt8 → Int) (b b' : List UInt8) : ∀ a a' : List UInt8, a.length = a'.length → sumP f (a ++ b) (a' ++ b') = sumP f a a' + sumP f b b'
  | [], [], _ => by simp [sumP]
  | x :: a, y :: a', h => by
    simp only [List.cons_append, sumP]
    rw [sumP_app f b b' a a' (by simpa using h)]
    omega
theorem sumP_le (f : UInt8 → UInt8 → Int) : ∀ a a' : List UInt8, (∀ x ∈ a, ∀ y ∈ a', 0 ≤ f x y ∧ f x y ≤ 7) → 0 ≤ sumP f a a' ∧ sumP f a a' ≤ 7 * a.length
  | [], _, _ => by simp [sumP]
  | _ :: _, [], _ => by simp [sumP]; omega
  | x :: a, y :: a', h => by
    have ih := sumP_le f a a' (fun u hu v hv => h u (by simp [hu]) v (by simp [hv]))
    have := h x (by simp) y (by simp)
    simp only [sumP, List.length_cons]
    omega
theorem numL_digs {l : List UInt8} (h : numL l = true) : (∀ x ∈ l, digB x = true) ∧ l.length ≤ 3 := by
  unfold numL at h
  rw [Bool.and_eq_true, inB_iff, List.all_eq_true] at h
  exact ⟨h.2, by omega⟩
theorem mvIn_ev : ∀ (l m : List UInt8) (a t : Int), l.length = m.length → (∀ x ∈ l, digB x = true) → (∀ x ∈ m, digB x = true) → 0 ≤ a → 0 ≤ t → a + 7 * l.length ≤ 1000000 → t + 7 * l.length ≤ 1000000 →
    Ev (fun k => mvIn k l m a t) (a + sumP ad l m, t + sumP (fun x y => ad y x) l m)
  | [], [], a, t, _, _, _, _, _, _, _ => Ev.const (by simp [mvIn, sumP])
  | x :: l, y :: m, a, t, h, hl, hm, ha, ht, h1, h2 => by
    have hx := hl x (by simp)
    have hy := hm y (by simp)
    have e1 := ad_at hx hy
    have e2 := ad_at hy hx
    have hx2 := digB_iff.1 hx
    simp only [List.length_cons] at h1 h2
    have ih := mvIn_ev l m (a + ad x y) (t + ad y x) (by simpa using h) (fun z hz => hl z (by simp [hz])) (fun z hz => hm z (by simp [hz])) (by omega) (by omega) (by omega) (by omega)
    simp only [mvIn]
    refine Ev.congr (fun k => if_pos (by omega)) (Ev.bind (g := fun k => spec_nuChange.f k (((x.toNat : Int) - 48) % 256) (((y.toNat : Int) - 48) % 256)) (a := (ad x y, ad y x)) ?_ ?_)
    · rw [(dig_num hx).1, (dig_num hy).1]
      exact Ev.of (fun k => spec_nuChange.mono _ _ k) e1.2.2.2
    · simp only []
      rw [w64 (by omega) (by omega), w64 (by omega) (by omega)]
      simp only [sumP]
      rw [← Int.add_assoc, ← Int.add_assoc]
      exact ih
theorem sumP_ad {l m : List UInt8} (hl : ∀ x ∈ l, digB x = true) (hm : ∀ x ∈ m, digB x = true) : (0 ≤ sumP ad l m ∧ sumP ad l m ≤ 7 * l.length) ∧ (0 ≤ sumP (fun x y => ad y x) l m ∧ sumP (fun x y => ad y x) l m ≤ 7 * l.length) :=
  ⟨sumP_le ad l m (fun x hx y hy => (ad_at (hl x hx) (hm y hy)).2 |>.imp id (·.1)), sumP_le _ l m (fun x hx y hy => (ad_at (hm y hy) (hl x hx)).2 |>.imp id (·.1))⟩
/-- All three numerals are as long. -/
def sameLen : List (List UInt8) → List (List UInt8) → Bool
  | a :: l, b :: m => decide (a.length = b.length) && sameLen l m
  | _, _ => true
theorem mvOut_ev : ∀ (l m : List (List UInt8)) (a t : Int), l.length = m.length → (∀ x ∈ l, numL x = true) → (∀ x ∈ m, numL x = true) → 0 ≤ a → 0 ≤ t → a + 21 * l.length ≤ 900000 → t + 21 * l.length ≤ 900000 →
    Ev (fun k => mvOut k (l.map mkB) (m.map mkB) a t) (if sameLen l m = true then (a + sumP ad l.flatten m.flatten, t + sumP (fun x y => ad y x) l.flatten m.flatten, true) else (0, 0, false))
  | [], [], a, t, _, _, _, _, _, _, _ => Ev.const (by simp [mvOut, sumP, sameLen])
  | x :: l, y :: m, a, t, h, hl, hm, ha, ht, h1, h2 => by
    have hx := numL_digs (hl x (by simp))
    have hy := numL_digs (hm y (by simp))
    simp only [List.map_cons, mvOut]
    simp only [List.length_cons] at h1 h2
    by_cases hs : x.length = y.length
    · have hb := sumP_ad hx.1 hy.1
      have e1 := mvIn_ev x y a t hs hx.1 hy.1 ha ht (by omega) (by omega)
      have ih := mvOut_ev l m (a + sumP ad x y) (t + sumP (fun x y => ad y x) x y) (by simpa using h) (fun z hz => hl z (by simp [hz])) (fun z hz => hm z (by simp [hz])) (by omega) (by omega) (by omega) (by omega)
      refine Ev.congr (fun k => if_pos (by rw [mkB_size, mkB_size]; exact hs)) (Ev.bind (by rw [mkB_data, mkB_data]; exact e1) ?_)
      have e : sameLen (x :: l) (y :: m) = sameLen l m := by simp [sameLen, hs]
      rw [e, List.flatten_cons, List.flatten_cons, sumP_app ad _ _ x y hs, sumP_app _ _ _ x y hs, ← Int.add_assoc, ← Int.add_assoc]
      exact ih
    · have e : sameLen (x :: l) (y :: m) = false := by simp [sameLen, hs]
      rw [e, if_neg (by decide)]
      exact Ev.congr (fun k => if_neg (by rw [mkB_size, mkB_size]; exact hs)) (Ev.now _)
def mvRes (A B : Int) : Int × Bool := if A = B then (A, true) else (0, false)
/-- The program's count over both texts. -/
theorem l1_ev (s t : ByteArray) (hz : s.size = t.size) (hs : s.size ≤ 1000000) (P : UInt8 → UInt8 → Prop) (hP : ∀ x y, P x y → (adO (x.toNat : Int) (y.toNat : Int) = some (ad x y) ∧ adO (y.toNat : Int) (x.toNat : Int) = some (ad y x)) ∧ (0 ≤ ad x y ∧ ad x y ≤ 7) ∧ (0 ≤ ad y x ∧ ad y x ≤ 7))
    (hall : ∀ (i : Nat) (h1 : i < s.data.toList.length) (h2 : i < t.data.toList.length), P s.data.toList[i] t.data.toList[i]) :
    Ev (fun k => impl_MovesToEquation.l1 k s t 0 0 (s.size : Int) 0) (mvRes (sumP ad s.data.toList t.data.toList) (sumP (fun x y => ad y x) s.data.toList t.data.toList)) := by
  have zs := size_list s
  have zt := size_list t
  have key : ∀ (d i : Nat) (a b : Int), i + d = s.size → 0 ≤ a → a ≤ 7 * (i : Int) → 0 ≤ b → b ≤ 7 * (i : Int) → Ev (fun k => impl_MovesToEquation.l1 k s t a b (s.size : Int) (i : Int)) (mvRes (a + sumP ad (s.data.toList.drop i) (t.data.toList.drop i)) (b + sumP (fun x y => ad y x) (s.data.toList.drop i) (t.data.toList.drop i))) := by
    intro d
    induction d with
    | zero =>
      intro i a b hi ha ha2 hb hb2
      rw [show s.data.toList.drop i = [] from List.drop_of_length_le (by omega)]
      simp only [sumP, Int.add_zero]
      refine Ev.step (f := fun _ => if a = b then some (a, true) else some (0, false)) (fun k => by simp only [impl_MovesToEquation.l1]; rw [if_neg (by omega)]) (Ev.const ?_)
      unfold mvRes
      split <;> rfl
    | succ d ih =>
      intro i a b hi ha ha2 hb hb2
      have hls : i < s.data.toList.length := by omega
      have hlt : i < t.data.toList.length := by omega
      have hb1 := bt_nat s i hls
      have hb3 := bt_nat t i hlt
      rw [List.drop_eq_getElem_cons hls, List.drop_eq_getElem_cons hlt]
      obtain ⟨⟨p1, p2⟩, p3, p4⟩ := hP _ _ (hall i hls hlt)
      generalize s.data.toList[i] = x at *
      generalize t.data.toList[i] = y at *
      have h9 := ih (i + 1) (a + ad x y) (b + ad y x) (by omega) (by omega) (by omega) (by omega) (by omega)
      simp only [sumP]
      rw [← Int.add_assoc, ← Int.add_assoc]
      refine Ev.step (fun k => ?_) h9
      unfold adO at p1 p2
      obtain ⟨u, hu, p1⟩ := Option.bind_eq_some_iff.1 p1
      obtain ⟨v, hv, p1⟩ := Option.bind_eq_some_iff.1 p1
      rw [hv, Option.bind_some, hu, Option.bind_some] at p2
      simp only [impl_MovesToEquation.l1]
      rw [if_pos (by omega), if_pos (by omega), if_pos (by omega), hb1, hb3, hu, Option.bind_some, if_pos (by omega), hv]
      simp only [Option.bind_some]
      rw [p1]
      simp only [Option.bind_some]
      rw [p2]
      simp only [Option.bind_some]
      rw [w64 (by omega) (by omega), w64 (by omega) (by omega), w64 (by omega) (by omega)]
      rfl
  have h := key s.size 0 0 0 (by omega) (by omega) (by omega) (by omega) (by omega)
  simp only [List.drop_zero, Int.zero_add] at h
  exact h
theorem l0_ev (s t : ByteArray) (a b c a' b' c' : List UInt8) (v : Int × Bool) (h1 : Ev (fun k => impl_MovesToEquation.l1 k s t 0 0 (s.size : Int) 0) v) :
    Ev (fun k => impl_MovesToEquation.l0 k s t [mkB a, mkB b, mkB c] [mkB a', mkB b', mkB c'] 3 0) (if sameLen [a, b, c] [a', b', c'] = true then v else (0, false)) := by
  have sz : ∀ i : Nat, rdOf ByteArray.empty [mkB a, mkB b, mkB c] (i : Int) = [mkB a, mkB b, mkB c].getD i ByteArray.empty := fun i => rfl
  have st : ∀ (i : Nat) (p q : List UInt8) (r : Int × Bool), i < 3 → rdOf ByteArray.empty [mkB a, mkB b, mkB c] (i : Int) = mkB p → rdOf ByteArray.empty [mkB a', mkB b', mkB c'] (i : Int) = mkB q → (p.length = q.length → Ev (fun k => impl_MovesToEquation.l0 k s t [mkB a, mkB b, mkB c] [mkB a', mkB b', mkB c'] 3 ((i + 1 : Nat) : Int)) r) →
      Ev (fun k => impl_MovesToEquation.l0 k s t [mkB a, mkB b, mkB c] [mkB a', mkB b', mkB c'] 3 (i : Int)) (if p.length = q.length then r else (0, false)) := by
    intro i p q r hi hp hq hr
    by_cases hl : p.length = q.length
    · rw [if_pos hl]
      refine Ev.step (fun k => ?_) (hr hl)
      simp only [impl_MovesToEquation.l0]
      rw [if_pos (by omega), if_pos (by omega), if_pos (by simp; omega), if_pos (by simp; omega), hp, hq, mkB_size, mkB_size, if_pos (by omega), w64 (by omega) (by omega)]
      rfl
    · rw [if_neg hl]
      refine Ev.step (f := fun _ => some (0, false)) (fun k => ?_) (Ev.now _)
      simp only [impl_MovesToEquation.l0]
      rw [if_pos (by omega), if_pos (by omega), if_pos (by simp; omega), if_pos (by simp; omega), hp, hq, mkB_size, mkB_size, if_neg (by omega)]
  have fin : Ev (fun k => impl_MovesToEquation.l0 k s t [mkB a, mkB b, mkB c] [mkB a', mkB b', mkB c'] 3 ((3 : Nat) : Int)) v := Ev.step (fun k => by simp only [impl_MovesToEquation.l0]; rw [if_neg (by omega)]) h1
  have h := st 0 a a' _ (by omega) rfl rfl (fun _ => st 1 b b' _ (by omega) rfl rfl (fun _ => st 2 c c' _ (by omega) rfl rfl (fun _ => fin)))
  have e : (if sameLen [a, b, c] [a', b', c'] = true then v else (0, false)) = (if a.length = a'.length then (if b.length = b'.length then (if c.length = c'.length then v else (0, false)) else (0, false)) else (0, false)) := by
    by_cases x1 : a.length = a'.length <;> by_cases x2 : b.length = b'.length <;> by_cases x3 : c.length = c'.length <;> simp [sameLen, x1, x2, x3]
  rw [e]
  exact h
theorem pair_sign {c c' : UInt8} (h : c = 43 ∨ c = 45) (h' : c' = 43 ∨ c' = 45) : adO (c.toNat : Int) (c'.toNat : Int) = some (ad c c') ∧ ad c c' = (if decide (c' = 43) = true then (if decide (c = 43) = true then 0 else 1) else 0) := by
  rcases h with rfl | rfl <;> rcases h' with rfl | rfl <;> decide +kernel
theorem pair_eq : adO ((61 : UInt8).toNat : Int) ((61 : UInt8).toNat : Int) = some (ad 61 61) ∧ ad 61 61 = 0 := by decide +kernel
/-- Two signs, two digits, or the sign between the sides twice. -/
def alike (x y : UInt8) : Prop := (digB x = true ∧ digB y = true) ∨ ((x = 43 ∨ x = 45) ∧ (y = 43 ∨ y = 45)) ∨ (x = 61 ∧ y = 61)
theorem alike_ok (x y : UInt8) (h : alike x y) : (adO (x.toNat : Int) (y.toNat : Int) = some (ad x y) ∧ adO (y.toNat : Int) (x.toNat : Int) = some (ad y x)) ∧ (0 ≤ ad x y ∧ ad x y ≤ 7) ∧ (0 ≤ ad y x ∧ ad y x ≤ 7) := by
  rcases h with ⟨h1, h2⟩ | ⟨h1, h2⟩ | ⟨rfl, rfl⟩
  · have e1 := ad_at h1 h2
    have e2 := ad_at h2 h1
    exact ⟨⟨e1.1, e2.1⟩, ⟨e1.2.1, e1.2.2.1⟩, ⟨e2.2.1, e2.2.2.1⟩⟩
  · have e1 := pair_sign h1 h2
    have e2 := pair_sign h2 h1
    refine ⟨⟨e1.1, e2.1⟩, ?_, ?_⟩
    · rw [e1.2]; split <;> (try split) <;> omega
    · rw [e2.2]; split <;> (try split) <;> omega
  · exact ⟨⟨pair_eq.1, pair_eq.1⟩, by rw [pair_eq.2]; omega, by rw [pair_eq.2]; omega⟩
theorem alike_app {P : UInt8 → UInt8 → Prop} : ∀ (a a' b b' : List UInt8), a.length = a'.length → (∀ (i : Nat) (h1 : i < a.length) (h2 : i < a'.length), P a[i] a'[i]) → (∀ (i : Nat) (h1 : i < b.length) (h2 : i < b'.length), P b[i] b'[i]) → ∀ (i : Nat) (h1 : i < (a ++ b).length) (h2 : i < (a' ++ b').length), P (a ++ b)[i] (a' ++ b')[i] := by
  intro a a' b b' hl ha hb i h1 h2
  by_cases hi : i < a.length
  · rw [List.getElem_append_left hi, List.getElem_append_left (by omega)]
    exact ha i hi (by omega)
  · rw [List.getElem_append_right (by omega), List.getElem_append_right (by omega)]
    simp only [List.length_append] at h1 h2
    have := hb (i - a.length) (by omega) (by omega)
    simpa only [hl] using this
theorem alike_cons {P : UInt8 → UInt8 → Prop} (c c' : UInt8) (b b' : List UInt8) (hc : P c c') (hb : ∀ (i : Nat) (h1 : i < b.length) (h2 : i < b'.length), P b[i] b'[i]) : ∀ (i : Nat) (h1 : i < (c :: b).length) (h2 : i < (c' :: b').length), P (c :: b)[i] (c' :: b')[i] := by
  intro i h1 h2
  cases i with
  | zero => exact hc
  | succ i => exact hb i (by simpa using h1) (by simpa using h2)
theorem alike_digs {a a' : List UInt8} (h : ∀ x ∈ a, digB x = true) (h' : ∀ x ∈ a', digB x = true) : ∀ (i : Nat) (h1 : i < a.length) (h2 : i < a'.length), alike a[i] a'[i] := fun i h1 h2 => .inl ⟨h _ (List.getElem_mem h1), h' _ (List.getElem_mem h2)⟩
/-- The whole texts against their numerals and signs. -/
theorem sum_whole (f : UInt8 → UInt8 → Int) (h61 : f 61 61 = 0) (a b t a' b' t' : List UInt8) (c c' : UInt8) (h1 : a.length = a'.length) (h2 : b.length = b'.length) (h3 : t.length = t'.length) :
    sumP f ((a ++ c :: b) ++ 61 :: t) ((a' ++ c' :: b') ++ 61 :: t') = f c c' + sumP f [a, b, t].flatten [a', b', t'].flatten := by
  rw [sumP_app f _ _ _ _ (by simp; omega), sumP_app f _ _ a a' h1]
  simp only [sumP, h61, List.flatten_cons, List.flatten_nil, List.append_nil]
  rw [sumP_app f _ _ a a' h1, sumP_app f _ _ b b' h2]
  omega
theorem FnExactMovesToEquation : laws_FnExactMovesToEquation.Pure := by
  intro s t h0 h00
  have hw : wrap64 ((s.size : Int) + (t.size : Int)) = (s.size : Int) + (t.size : Int) := w64 (by omega) (by omega)
  by_cases hst : s.size + t.size ≤ 1000000
  · have hmain : ∃ v, Ev (fun k => spec_MovesToEquation.f k s t) v ∧ Ev (fun k => impl_MovesToEquation.f k s t) v := by
      unfold spec_MovesToEquation.f impl_MovesToEquation.f
      have J0 : ∀ (p q : List ByteArray), Ev (fun k => impl_MovesToEquation.j0 k s t p q true) (0, false) := fun p q => Ev.step (f := fun _ => some (0, false)) (fun k => by simp only [impl_MovesToEquation.j0]; rw [if_pos trivial]) (Ev.now _)
      have S0 : ∀ (p : List ByteArray) (x : Bool) (q : List ByteArray) (y : Bool), Ev (fun k => spec_MovesToEquation.j0 k true p x q y) (0, false) := fun p x q y => Ev.step (f := fun _ => some (0, false)) (fun k => by simp only [spec_MovesToEquation.j0]; rw [if_pos trivial]) (Ev.now _)
      rcases num_is s (by omega) with ⟨a, c, b, u, e, hc, ha, hb, hu, hn⟩ | ⟨h1, L, c, h2⟩
      · rcases num_is t (by omega) with ⟨a', c', b', u', e', hc', ha', hb', hu', hn'⟩ | ⟨h1', L', c', h2'⟩
        · have hs3 := size_list s
          have ht3 := size_list t
          have da := numL_digs ha; have db := numL_digs hb; have du := numL_digs hu
          have da' := numL_digs ha'; have db' := numL_digs hb'; have du' := numL_digs hu'
          have sg := pair_sign hc hc'
          have sg' := pair_sign hc' hc
          have out := mvOut_ev [a, b, u] [a', b', u'] (ad c c') (ad c' c) rfl (by simp [ha, hb, hu]) (by simp [ha', hb', hu'])
            (by rw [sg.2]; split <;> (try split) <;> omega) (by rw [sg'.2]; split <;> (try split) <;> omega) (by rw [sg.2]; simp; split <;> (try split) <;> omega) (by rw [sg'.2]; simp; split <;> (try split) <;> omega)
          have outF : Ev (fun k => spec_nuMoves.f k ([a, b, u].map mkB) (decide (c = 43)) ([a', b', u'].map mkB) (decide (c' = 43))) (if sameLen [a, b, u] [a', b', u'] = true then (ad c c' + sumP ad [a, b, u].flatten [a', b', u'].flatten, ad c' c + sumP (fun x y => ad y x) [a, b, u].flatten [a', b', u'].flatten, true) else (0, 0, false)) := by
            unfold spec_nuMoves.f
            rw [← sg.2, ← sg'.2]
            exact out
          have main2 : ∃ v, Ev (fun k => spec_MovesToEquation.j0 k false ([a, b, u].map mkB) (decide (c = 43)) ([a', b', u'].map mkB) (decide (c' = 43))) v ∧ Ev (fun k => impl_MovesToEquation.l0 k s t [mkB a, mkB b, mkB u] [mkB a', mkB b', mkB u'] 3 0) v := by
            by_cases hsl : sameLen [a, b, u] [a', b', u'] = true
            · have hl : a.length = a'.length ∧ b.length = b'.length ∧ u.length = u'.length := by simpa [sameLen] using hsl
              rw [if_pos hsl] at outF
              have hz : s.size = t.size := by
                rw [e] at hs3; rw [e'] at ht3
                simp only [List.length_append, List.length_cons] at hs3 ht3
                omega
              have l1 := l1_ev s t hz (by omega) alike alike_ok (by
                rw [e, e']
                exact alike_app _ _ _ _ (by simp; omega) (alike_app _ _ _ _ hl.1 (alike_digs da.1 da'.1) (alike_cons c c' b b' (.inr (.inl ⟨hc, hc'⟩)) (alike_digs db.1 db'.1))) (alike_cons 61 61 u u' (.inr (.inr ⟨rfl, rfl⟩)) (alike_digs du.1 du'.1)))
              rw [e, e', sum_whole ad pair_eq.2 a b u a' b' u' c c' hl.1 hl.2.1 hl.2.2, sum_whole (fun x y => ad y x) pair_eq.2 a b u a' b' u' c c' hl.1 hl.2.1 hl.2.2] at l1
              have l0 := l0_ev s t a b u a' b' u' _ l1
              rw [if_pos hsl] at l0
              refine ⟨_, ?_, l0⟩
              refine Ev.step (fun k => by simp only [spec_MovesToEquation.j0]; rw [if_neg (by simp)]) (Ev.bind outF ?_)
              simp only [if_true]
              unfold mvRes
              by_cases hq : ad c c' + sumP ad [a, b, u].flatten [a', b', u'].flatten = ad c' c + sumP (fun x y => ad y x) [a, b, u].flatten [a', b', u'].flatten
              · rw [if_pos hq]
                exact Ev.const (by rw [if_pos hq])
              · rw [if_neg hq]
                exact Ev.const (by rw [if_neg hq])
            · rw [if_neg hsl] at outF
              have l0 := l0_ev s t a b u a' b' u'
              refine ⟨(0, false), ?_, ?_⟩
              · refine Ev.step (fun k => by simp only [spec_MovesToEquation.j0]; rw [if_neg (by simp)]) (Ev.bind outF ?_)
                exact Ev.congr (fun k => if_neg (by simp)) (Ev.now _)
              · -- lengths part at some numeral: the last loop is not come to
                have st : ∀ (i : Nat) (p q : List UInt8), i < 3 → rdOf ByteArray.empty [mkB a, mkB b, mkB u] (i : Int) = mkB p → rdOf ByteArray.empty [mkB a', mkB b', mkB u'] (i : Int) = mkB q → (p.length = q.length → Ev (fun k => impl_MovesToEquation.l0 k s t [mkB a, mkB b, mkB u] [mkB a', mkB b', mkB u'] 3 ((i + 1 : Nat) : Int)) (0, false)) →
                    Ev (fun k => impl_MovesToEquation.l0 k s t [mkB a, mkB b, mkB u] [mkB a', mkB b', mkB u'] 3 (i : Int)) (0, false) := by
                  intro i p q hi hp hq hr
                  by_cases hl : p.length = q.length
                  · refine Ev.step (fun k => ?_) (hr hl)
                    simp only [impl_MovesToEquation.l0]
                    rw [if_pos (by omega), if_pos (by omega), if_pos (by simp; omega), if_pos (by simp; omega), hp, hq, mkB_size, mkB_size, if_pos (by omega), w64 (by omega) (by omega)]
                    rfl
                  · refine Ev.step (f := fun _ => some (0, false)) (fun k => ?_) (Ev.now _)
                    simp only [impl_MovesToEquation.l0]
                    rw [if_pos (by omega), if_pos (by omega), if_pos (by simp; omega), if_pos (by simp; omega), hp, hq, mkB_size, mkB_size, if_neg (by omega)]
                exact st 0 a a' (by omega) rfl rfl (fun x1 => st 1 b b' (by omega) rfl rfl (fun x2 => st 2 u u' (by omega) rfl rfl (fun x3 => absurd (by simp [sameLen, x1, x2, x3]) hsl)))
          obtain ⟨v, m1, m2⟩ := main2
          refine ⟨v, Ev.bind (read_yes s (by omega) a b u c e hc ha hb hu) (Ev.bind (read_yes t (by omega) a' b' u' c' e' hc' ha' hb' hu') ?_), ?_⟩
          · exact Ev.congr (fun k => if_pos rfl) m1
          · rw [hn, hn']
            simp only [Option.bind_some]
            refine Ev.congr (fun k => if_pos trivial) (Ev.step (fun k => ?_) m2)
            simp only [impl_MovesToEquation.j0]
            rw [if_neg (by simp)]
            rfl
        · refine ⟨(0, false), Ev.bind (read_yes s (by omega) a b u c e hc ha hb hu) (Ev.bind (read_no t (by omega) h1') ?_), ?_⟩
          · exact Ev.congr (fun k => if_pos rfl) (S0 _ _ _ _)
          · rw [hn, h2']
            simp only [Option.bind_some]
            exact Ev.congr (fun k => if_pos trivial) (J0 _ _)
      · have hT : ∃ w, Ev (fun k => spec_nuRead.f k t) w ∧ ∃ z, impl_numerals.f t = some z := by
          rcases num_is t (by omega) with ⟨a', c', b', u', e', hc', ha', hb', hu', hn'⟩ | ⟨h1', L', c', h2'⟩
          · exact ⟨_, read_yes t (by omega) a' b' u' c' e' hc' ha' hb' hu', _, hn'⟩
          · exact ⟨_, read_no t (by omega) h1', _, h2'⟩
        obtain ⟨w, hw1, z, hz⟩ := hT
        refine ⟨(0, false), Ev.bind (read_no s (by omega) h1) (Ev.bind hw1 ?_), ?_⟩
        · exact Ev.congr (fun k => if_neg (by simp)) (S0 _ _ _ _)
        · rw [h2, hz]
          simp only [Option.bind_some]
          exact Ev.congr (fun k => if_neg (by simp)) (J0 _ _)
    obtain ⟨v, h1, h2⟩ := hmain
    obtain ⟨K, hK⟩ := Ev.both h1 h2
    have hK0 := hK K (Nat.le_refl _)
    refine ⟨K, ?_⟩
    unfold laws_FnExactMovesToEquation.f
    rw [hw, if_neg (by omega), hK0.1, Option.bind_some, hK0.2, Option.bind_some, if_pos rfl, if_neg (by simp)]
  · refine ⟨0, ?_⟩
    unfold laws_FnExactMovesToEquation.f
    rw [hw, if_pos (by omega)]

end Go.Proofs.YtfnnilmkmlmleaaDoor.Pure
