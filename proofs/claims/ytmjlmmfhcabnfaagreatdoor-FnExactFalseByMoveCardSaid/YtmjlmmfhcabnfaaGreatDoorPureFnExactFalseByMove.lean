/- Proved here: the pure statement of FnExactFalseByMove: program and reference find the same equations by moving one match (the false ones). Conditions: the text is no longer than memory can hold. -/
import Derived.Test.YtmjlmmfhcabnfaaGreatDoorQFnExactFalseByMovex9
set_option linter.unusedVariables false
set_option linter.unusedSimpArgs false
namespace Go.Proofs.YtmjlmmfhcabnfaaGreatDoor.Pure
open Go.RowKit Go.Proofs.YtmjlmmfhcabnfaaGreatDoor.Q Go.Proofs.YtmjlmmfhcabnfaaGreatDoorW.PrintWords Go.Proofs.YtmjlmmfhcabnfaaGreatDoorW.PrintLast

/-! ### base: wrapping, 'from some number of rounds on', loops -/
theorem w64 {n : Int} (h0 : -9223372036854775808 ≤ n) (h1 : n ≤ 9223372036854775807) : wrap64 n = n := by unfold wrap64; omega
theorem wf64 {x : Int} (h : (Lit.int .i64 x).wf = true) : -9223372036854775808 ≤ x ∧ x ≤ 9223372036854775807 := by
  simp [Lit.wf, IntKind.min, IntKind.max, IntKind.signed, IntKind.bits] at h
  omega
theorem maxLen_le {n : Nat} (h : n ≤ maxLen) : n ≤ 9223372036854775807 := by unfold maxLen at h; omega
theorem Ev.both {α β : Type} {g : Nat → Option α} {f : Nat → Option β} {a : α} {b : β} (h : Ev g a) (k : Ev f b) : ∃ K, ∀ n, K ≤ n → g n = some a ∧ f n = some b := by
  obtain ⟨K, h⟩ := h
  obtain ⟨K', k⟩ := k
  exact ⟨max K K', fun n hn => ⟨h n (by omega), k n (by omega)⟩⟩
theorem Ev.const {α : Type} {x : Option α} {r : α} (h : x = some r) : Ev (fun _ => x) r := ⟨0, fun _ _ => h⟩
/-- A loop from lo on that ends early with 'bad', or runs through. -/
theorem all_ev {β : Type} (g : Nat → Int → Option β) (p : Nat → Bool) (good bad : β) (lo n : Nat)
    (hgood : ∀ i r, lo ≤ i → i < n → p i = true → Ev (fun k => g k ((i + 1 : Nat) : Int)) r → Ev (fun k => g k (i : Int)) r)
    (hbad : ∀ i, lo ≤ i → i < n → p i = false → Ev (fun k => g k (i : Int)) bad)
    (fin : ∀ i, n ≤ i → i ≤ n + lo → Ev (fun k => g k (i : Int)) good) : ∀ d a, n - a = d → lo ≤ a → a ≤ n + lo → Ev (fun k => g k (a : Int)) (if (List.range' a (n - a)).all p = true then good else bad) := by
  intro d
  induction d with
  | zero =>
    intro a ha hlo hle
    rw [ha]
    simpa using fin a (by omega) hle
  | succ d ih =>
    intro a ha hlo hle
    rw [ha, List.range'_succ, List.all_cons]
    cases hp : p a with
    | true =>
      have := ih (a + 1) (by omega) (by omega) (by omega)
      rw [show n - (a + 1) = d by omega] at this
      simp only [Bool.true_and]
      exact hgood a _ hlo (by omega) hp this
    | false =>
      simp only [Bool.false_and]
      exact hbad a hlo (by omega) hp
/-- The same where it answers whether all held. -/
theorem all_evB (g : Nat → Int → Option Bool) (p : Nat → Bool) (lo n : Nat)
    (hgood : ∀ i r, lo ≤ i → i < n → p i = true → Ev (fun k => g k ((i + 1 : Nat) : Int)) r → Ev (fun k => g k (i : Int)) r)
    (hbad : ∀ i, lo ≤ i → i < n → p i = false → Ev (fun k => g k (i : Int)) false)
    (fin : ∀ i, n ≤ i → i ≤ n + lo → Ev (fun k => g k (i : Int)) true) : Ev (fun k => g k (lo : Int)) ((List.range' lo (n - lo)).all p) := by
  have h := all_ev g p true false lo n hgood hbad fin (n - lo) lo rfl (Nat.le_refl _) (by omega)
  cases hb : (List.range' lo (n - lo)).all p <;> simpa [hb] using h
/-- A loop that carries a state s; P: what is known of it. -/
theorem fold_ev {σ β : Type} (g : Nat → σ → Int → Option β) (f : σ → Nat → σ) (h : σ → β) (P : Nat → σ → Prop) (n : Nat)
    (step : ∀ s i r, i < n → P i s → (P (i + 1) (f s i) ∧ (Ev (fun k => g k (f s i) ((i + 1 : Nat) : Int)) r → Ev (fun k => g k s (i : Int)) r)))
    (fin : ∀ s, P n s → Ev (fun k => g k s (n : Int)) (h s)) : ∀ d a s, n - a = d → a ≤ n → P a s → Ev (fun k => g k s (a : Int)) (h ((List.range' a (n - a)).foldl f s)) := by
  intro d
  induction d with
  | zero =>
    intro a s ha hle hP
    obtain rfl : a = n := by omega
    simpa using fin s hP
  | succ d ih =>
    intro a s ha hle hP
    rw [ha, List.range'_succ, List.foldl_cons]
    have := step s a (h ((List.range' (a + 1) d).foldl f (f s a))) (by omega) hP
    refine this.2 ?_
    have h2 := ih (a + 1) (f s a) (by omega) (by omega) this.1
    rw [show n - (a + 1) = d by omega] at h2
    exact h2
theorem rd_nat (l : List Int) (i : Nat) (h : i < l.length) : rd l (i : Int) = l[i] := by unfold rd; rw [Int.toNat_natCast]; simp [List.getD_eq_getElem?_getD, h]
theorem all_range (l : List Int) (q : Int → Bool) : (List.range' 0 l.length).all (fun i => q (rd l (i : Int))) = l.all q := by
  rw [Bool.eq_iff_iff, List.all_eq_true, List.all_eq_true]
  constructor
  · intro h x hx
    obtain ⟨i, hi, rfl⟩ := List.getElem_of_mem hx
    have := h i (by simp; omega)
    rwa [rd_nat l i hi] at this
  · intro h i hi
    have hi : i < l.length := by simp at hi; omega
    rw [rd_nat l i hi]
    exact h _ (List.getElem_mem hi)
/-- Strictly increasing. -/
def incr (l : List Int) : Bool := (List.range' 1 (l.length - 1)).all fun i => decide (rd l (i : Int) > rd l ((i : Int) - 1))
theorem incr_iff (l : List Int) : incr l = true ↔ ∀ i, ∀ h : i + 1 < l.length, l[i] < l[i + 1] := by
  unfold incr
  rw [List.all_eq_true]
  constructor
  · intro h i hi
    have := h (i + 1) (by simp; omega)
    rw [rd_nat l (i + 1) hi, show (((i + 1 : Nat) : Int) - 1) = ((i : Nat) : Int) by omega, rd_nat l i (by omega)] at this
    simpa using this
  · intro h i hi
    obtain ⟨j, rfl⟩ : ∃ j, i = j + 1 := ⟨i - 1, by simp at hi; omega⟩
    have hj : j + 1 < l.length := by simp at hi; omega
    rw [rd_nat l (j + 1) hj, show (((j + 1 : Nat) : Int) - 1) = ((j : Nat) : Int) by omega, rd_nat l j (by omega)]
    simpa using h j hj
theorem incr_ge (l : List Int) (h : incr l = true) (h0 : ∀ x ∈ l, 0 ≤ x) : ∀ i (hi : i < l.length), (i : Int) ≤ l[i] := by
  intro i
  induction i with
  | zero => intro hi; exact h0 _ (List.getElem_mem hi)
  | succ i ih =>
    intro hi
    have := ih (by omega)
    have := (incr_iff l).1 h i hi
    omega
theorem incr_len (l : List Int) (h : incr l = true) (m : Int) (hm : l.all (fun x => decide (0 ≤ x) && decide (x ≤ m)) = true) : (l.length : Int) ≤ m + 1 ∨ l = [] := by
  rw [List.all_eq_true] at hm
  by_cases h0 : l = []
  · exact .inr h0
  · left
    have hp := List.length_pos_iff.2 h0
    have h1 := incr_ge l h (fun x hx => by have := hm x hx; simp at this; omega) (l.length - 1) (by omega)
    have h2 := hm _ (List.getElem_mem (show l.length - 1 < l.length by omega))
    simp at h2
    omega

/-! ### bounds -/
def inB (lo hi : Int) (x : Int) : Bool := decide (lo ≤ x) && decide (x ≤ hi)
theorem inB_iff {lo hi x : Int} : inB lo hi x = true ↔ lo ≤ x ∧ x ≤ hi := by simp [inB]
theorem l1In_is (a lo hi : Int) : spec_l1In.f a lo hi = some (inB lo hi a) := by
  unfold spec_l1In.f inB
  by_cases h : a ≥ lo
  · rw [if_pos h, decide_eq_true (show lo ≤ a from h), Bool.true_and]
  · rw [if_neg h, decide_eq_false (show ¬ lo ≤ a from h), Bool.false_and]
theorem within_is (a lo hi : Int) : impl_within.f a lo hi = some (inB lo hi a) := by
  unfold impl_within.f inB
  by_cases h : lo ≤ a
  · rw [if_pos h, decide_eq_true h, Bool.true_and]
  · rw [if_neg h, decide_eq_false h, Bool.false_and]

/-! ### numerals: the bytes of a text -/
theorem bt_nat (s : ByteArray) (i : Nat) (h : i < s.data.toList.length) : bt s (i : Int) = ((s.data.toList[i].toNat : Nat) : Int) := by
  have hs : i < s.size := by rw [Array.length_toList] at h; exact h
  rw [← bt_at s (i : Int) (by rw [Int.toNat_natCast]; exact hs)]
  rfl
theorem size_list (s : ByteArray) : s.data.toList.length = s.size := by rw [Array.length_toList]; rfl
theorem toList_nil (s : ByteArray) : (s.toList == ([] : List UInt8)) = (s.data.toList).isEmpty := by
  rw [Go.Lib.toList_data]
  cases s.data.toList with
  | nil => rfl
  | cons a l => rfl
def digs : List UInt8 := [48, 49, 50, 51, 52, 53, 54, 55, 56, 57]
def digB (b : UInt8) : Bool := decide (48 ≤ b.toNat) && decide (b.toNat ≤ 57)
theorem digs_all : ((List.range 256).all fun n => decide (digs.contains (UInt8.ofNat n) = digB (UInt8.ofNat n))) = true := by decide +kernel
theorem digs_is (b : UInt8) : digs.contains b = digB b := by
  have h := digs_all
  simp only [List.all_eq_true, List.mem_range, decide_eq_true_eq] at h
  have := h b.toNat b.toNat_lt
  rwa [UInt8.ofNat_toNat] at this
theorem dropWhile_nil {α : Type} (p : α → Bool) : ∀ l : List α, (l.dropWhile p).isEmpty = l.all p
  | [] => rfl
  | x :: l => by
    rw [List.dropWhile_cons, List.all_cons]
    cases h : p x with
    | true => simp [dropWhile_nil p l]
    | false => simp
theorem dropWhile_all {α : Type} (p : α → Bool) : ∀ l : List α, (l.dropWhile p).all p = l.all p
  | [] => rfl
  | x :: l => by
    rw [List.dropWhile_cons, List.all_cons]
    cases h : p x with
    | true => simp [dropWhile_all p l]
    | false => simp [h]
/-- Nothing is left where all go. -/
theorem trim_nil (l cs : List UInt8) : (Go.Lib.trimS l cs).isEmpty = l.all (cs.contains ·) := by
  unfold Go.Lib.trimS Go.Lib.trimLeftS Go.Lib.trimRightS
  rw [dropWhile_nil, List.all_reverse, dropWhile_all, List.all_reverse]
theorem trim_is (s : ByteArray) (hs : s.size ≤ 1000000) : strings_Trim.f s (⟨#[48, 49, 50, 51, 52, 53, 54, 55, 56, 57]⟩ : ByteArray) = some ⟨(Go.Lib.trimS s.data.toList digs).toArray⟩ := by
  unfold strings_Trim.f
  rw [if_pos ⟨by omega, by decide, by decide⟩]
  rfl
theorem isNumeral_is (s : ByteArray) (n : Int) (hn : n ≤ 1000000) : impl_isNumeral.f s n = some (inB 1 n (s.size : Int) && s.data.toList.all digB) := by
  unfold impl_isNumeral.f
  rw [within_is, Option.bind_some]
  cases hi : inB 1 n (s.size : Int) with
  | false => rw [if_neg (by decide), Bool.false_and]
  | true =>
    rw [inB_iff] at hi
    rw [if_pos rfl, trim_is s (by omega), Option.bind_some, toList_nil, Bool.true_and]
    show some (Go.Lib.trimS s.data.toList digs).isEmpty = _
    rw [trim_nil]
    congr 1
    exact congrArg s.data.toList.all (funext digs_is)
theorem digB_iff {b : UInt8} : digB b = true ↔ 48 ≤ b.toNat ∧ b.toNat ≤ 57 := by simp [digB]
theorem nuNumeral_ev (s : ByteArray) (n : Int) (hs : s.size ≤ 1000000) : Ev (fun k => spec_nuNumeral.f k s n) (inB 1 n (s.size : Int) && s.data.toList.all digB) := by
  unfold spec_nuNumeral.f
  rw [l1In_is]
  simp only [Option.bind_some]
  cases hi : inB 1 n (s.size : Int) with
  | false => exact Ev.const (by simp)
  | true =>
    simp only [if_true, Bool.true_and]
    have hz := size_list s
    have h := all_evB (fun k i => spec_nuNumeral.l0 k s i) (fun i => digB (s.data.toList.getD i 0)) 0 s.size
      (fun i r _ hi hp hr => Ev.step (fun k => by
        have hb := bt_nat s i (by omega)
        rw [List.getD_eq_getElem?_getD, List.getElem?_eq_getElem (by omega), Option.getD_some, digB_iff] at hp
        simp only [spec_nuNumeral.l0]
        rw [if_pos (by omega), if_pos (by omega), hb, if_neg (by omega), if_neg (by omega), w64 (by omega) (by omega)]
        rfl) hr)
      (fun i _ hi hp => Ev.step (f := fun _ => some false) (fun k => by
        have hb := bt_nat s i (by omega)
        rw [List.getD_eq_getElem?_getD, List.getElem?_eq_getElem (by omega), Option.getD_some, Bool.eq_false_iff, Ne, digB_iff] at hp
        simp only [spec_nuNumeral.l0]
        rw [if_pos (by omega), if_pos (by omega), hb]
        by_cases h1 : ((s.data.toList[i].toNat : Nat) : Int) < 48
        · rw [if_pos h1]
        · rw [if_neg h1, if_pos (by omega)]) (Ev.now false))
      (fun i hi _ => Ev.step (fun k => by simp only [spec_nuNumeral.l0]; rw [if_neg (by omega)]) (Ev.now true))
    have e : (List.range' 0 (s.size - 0)).all (fun i => digB (s.data.toList.getD i 0)) = s.data.toList.all digB := by
      rw [Nat.sub_zero, Bool.eq_iff_iff, List.all_eq_true, List.all_eq_true]
      constructor
      · intro h x hx
        obtain ⟨i, hi, rfl⟩ := List.getElem_of_mem hx
        have := h i (by simp; omega)
        rwa [List.getD_eq_getElem?_getD, List.getElem?_eq_getElem hi, Option.getD_some] at this
      · intro h i hi
        have hi : i < s.data.toList.length := by simp at hi; omega
        rw [List.getD_eq_getElem?_getD, List.getElem?_eq_getElem hi, Option.getD_some]
        exact h _ (List.getElem_mem hi)
    rw [e] at h
    exact h

/-! ### equations: splitting, cutting -/
def mkB (l : List UInt8) : ByteArray := ⟨l.toArray⟩
theorem mkB_data (l : List UInt8) : (mkB l).data.toList = l := rfl
theorem mkB_of (s : ByteArray) : mkB s.data.toList = s := by cases s; rfl
theorem mkB_size (l : List UInt8) : (mkB l).size = l.length := by rw [← size_list, mkB_data]
theorem ex_mkB (s : ByteArray) (a b : Nat) : s.extract a b = mkB ((s.data.toList.take b).drop a) := by
  rw [← mkB_of (s.extract a b)]
  congr 1
  rw [ByteArray.data_extract, Array.toList_extract, List.extract_eq_take_drop, List.drop_take]
/-- A text split at a byte. -/
def spl (b : UInt8) : List UInt8 → List (List UInt8)
  | [] => [[]]
  | c :: l => if c = b then [] :: spl b l else match spl b l with
    | p :: ps => (c :: p) :: ps
    | [] => [[c]]
theorem spl_cons (b : UInt8) : ∀ l, ∃ p ps, spl b l = p :: ps
  | [] => ⟨[], [], rfl⟩
  | c :: l => by
    obtain ⟨p, ps, h⟩ := spl_cons b l
    simp only [spl, h]
    split
    · exact ⟨_, _, rfl⟩
    · exact ⟨_, _, rfl⟩
theorem spl_app (b : UInt8) (y : List UInt8) : ∀ x, b ∉ x → spl b (x ++ b :: y) = x :: spl b y
  | [], _ => by simp [spl]
  | c :: x, h => by
    have h1 : c ≠ b := fun e => h (by simp [e])
    have ih := spl_app b y x (fun hm => h (by simp [hm]))
    simp only [List.cons_append, spl, ih]
    rw [if_neg h1]
theorem spl_none (b : UInt8) : ∀ x, b ∉ x → spl b x = [x]
  | [], _ => rfl
  | c :: x, h => by
    have h1 : c ≠ b := fun e => h (by simp [e])
    have ih := spl_none b x (fun hm => h (by simp [hm]))
    simp only [spl, ih]
    rw [if_neg h1]
theorem spl_one (b : UInt8) : ∀ l x, spl b l = [x] → l = x
  | [], x, h => by simp [spl] at h; exact h.symm
  | c :: l, x, h => by
    obtain ⟨p, ps, e⟩ := spl_cons b l
    simp only [spl, e] at h
    split at h
    · simp at h
    · simp only [List.cons.injEq] at h
      obtain ⟨h1, rfl⟩ := h
      rw [← h1, spl_one b l p e]
theorem spl_two (b : UInt8) : ∀ l x y, spl b l = [x, y] → l = x ++ b :: y
  | [], x, y, h => by simp [spl] at h
  | c :: l, x, y, h => by
    obtain ⟨p, ps, e⟩ := spl_cons b l
    simp only [spl, e] at h
    split at h
    · rename_i hc
      simp only [List.cons.injEq] at h
      obtain ⟨rfl, h1, rfl⟩ := h
      rw [hc, spl_one b l p e, h1]
      rfl
    · simp only [List.cons.injEq] at h
      obtain ⟨h1, rfl⟩ := h
      rw [← h1, spl_two b l p y e]
      rfl
theorem spl_len (b : UInt8) : ∀ l, (spl b l).length ≤ l.length + 1
  | [] => by simp [spl]
  | c :: l => by
    have ih := spl_len b l
    obtain ⟨p, ps, e⟩ := spl_cons b l
    simp only [spl, e] at ih ⊢
    split
    · simp at ih ⊢; omega
    · simp at ih ⊢; omega
theorem spl_mem (b : UInt8) : ∀ l x, x ∈ spl b l → x.length ≤ l.length
  | [], x, h => by simp [spl] at h; simp [h]
  | c :: l, x, h => by
    have ih := spl_mem b l
    obtain ⟨p, ps, e⟩ := spl_cons b l
    rw [e] at ih
    simp only [spl, e] at h
    split at h
    · rcases List.mem_cons.1 h with rfl | h2
      · simp
      · have := ih x h2; simp; omega
    · rcases List.mem_cons.1 h with rfl | h2
      · have := ih p (by simp); simp; omega
      · have := ih x (by simp [h2]); simp; omega
/-- A piece in front of the first piece. -/
def addF (p : List UInt8) : List (List UInt8) → List (List UInt8)
  | q :: qs => (p ++ q) :: qs
  | [] => [p]
theorem split_ev (s : ByteArray) (b : UInt8) (hs : s.size ≤ 1000000) : Ev (fun k => spec_l1Split.f k s (b.toNat : Int)) ((spl b s.data.toList).map mkB) := by
  have hz := size_list s
  have key : ∀ (d i : Nat) (acc : List ByteArray) (st : Nat), i + d = s.size → st ≤ i → acc.length ≤ i →
      Ev (fun k => spec_l1Split.l0 k s (b.toNat : Int) acc (st : Int) (i : Int)) (acc ++ (addF ((s.data.toList.take i).drop st) (spl b (s.data.toList.drop i))).map mkB) := by
    intro d
    induction d with
    | zero =>
      intro i acc st hi hst ha
      obtain rfl : i = s.size := by omega
      rw [show s.data.toList.drop s.size = [] from List.drop_of_length_le (by omega)]
      refine Ev.step (f := fun _ => some (acc ++ [s.extract st s.size])) (fun k => ?_) (Ev.const ?_)
      · simp only [spec_l1Split.l0]
        rw [if_neg (by omega), if_pos (by omega), if_pos (by omega), if_pos (by omega), Int.toNat_natCast]
      · rw [ex_mkB]
        simp [spl, addF]
    | succ d ih =>
      intro i acc st hi hst ha
      have hlt : i < s.data.toList.length := by omega
      have hb := bt_nat s i hlt
      rw [List.drop_eq_getElem_cons hlt]
      have hu : s.data.toList[i].toNat = b.toNat ↔ s.data.toList[i] = b := ⟨fun h => UInt8.toNat_inj.1 h, fun h => by rw [h]⟩
      by_cases hc : s.data.toList[i] = b
      · have h9 := ih (i + 1) (acc ++ [s.extract st i]) (i + 1) (by omega) (by omega) (by simp; omega)
        have e : acc ++ (addF ((s.data.toList.take i).drop st) (spl b (s.data.toList[i] :: s.data.toList.drop (i + 1)))).map mkB = (acc ++ [s.extract st i]) ++ (addF ((s.data.toList.take (i + 1)).drop (i + 1)) (spl b (s.data.toList.drop (i + 1)))).map mkB := by
          obtain ⟨p, ps, e⟩ := spl_cons b (s.data.toList.drop (i + 1))
          rw [ex_mkB]
          simp only [spl, e, if_pos hc, addF, List.append_nil]
          rw [List.drop_of_length_le (l := s.data.toList.take (i + 1)) (by simp; omega)]
          simp
        rw [e]
        refine Ev.step (fun k => ?_) h9
        simp only [spec_l1Split.l0]
        rw [if_pos (by omega), if_pos (by omega), hb, if_pos (by rw [hc]), if_pos (by omega), if_pos (by omega), if_pos (by omega), if_pos (by omega), Int.toNat_natCast, Int.toNat_natCast, w64 (by omega) (by omega)]
        rfl
      · have h9 := ih (i + 1) acc st (by omega) (by omega) (by omega)
        have e : addF ((s.data.toList.take i).drop st) (spl b (s.data.toList[i] :: s.data.toList.drop (i + 1))) = addF ((s.data.toList.take (i + 1)).drop st) (spl b (s.data.toList.drop (i + 1))) := by
          obtain ⟨p, ps, e⟩ := spl_cons b (s.data.toList.drop (i + 1))
          simp only [spl, e, if_neg hc, addF]
          rw [List.take_add_one, List.getElem?_eq_getElem hlt, Option.toList_some, List.drop_append_of_le_length (by simp; omega)]
          simp
        rw [e]
        refine Ev.step (fun k => ?_) h9
        simp only [spec_l1Split.l0]
        rw [if_pos (by omega), if_pos (by omega), hb, if_neg (by intro h; exact hc (hu.1 (by omega))), w64 (by omega) (by omega)]
        rfl
  have h := key s.size 0 [] 0 (by omega) (by omega) (by simp)
  obtain ⟨p, ps, e⟩ := spl_cons b s.data.toList
  simp only [List.take_zero, List.drop_zero, e, addF, List.drop_nil, List.nil_append] at h
  rw [e]
  exact h
/-- The first byte of some, and what stands ahead of it. -/
theorem any_cases (cs : List UInt8) : ∀ l, (Lib.indexAny l cs = -1 ∧ ∀ b ∈ l, cs.contains b = false) ∨ ∃ x c y, l = x ++ c :: y ∧ cs.contains c = true ∧ (∀ b ∈ x, cs.contains b = false) ∧ Lib.indexAny l cs = (x.length : Int)
  | [] => .inl ⟨rfl, fun _ h => by cases h⟩
  | a :: l => by
    by_cases ha : cs.contains a = true
    · exact .inr ⟨[], a, l, rfl, ha, (fun _ h => by cases h), by simp only [Lib.indexAny]; rw [if_pos ha]; rfl⟩
    · rcases any_cases cs l with ⟨h1, h2⟩ | ⟨x, c, y, h1, h2, h3, h4⟩
      · refine .inl ⟨by simp only [Lib.indexAny]; rw [if_neg ha, h1]; rfl, fun b hb => ?_⟩
        rcases List.mem_cons.1 hb with rfl | hb
        · exact Bool.eq_false_iff.2 ha
        · exact h2 b hb
      · refine .inr ⟨a :: x, c, y, by rw [h1]; rfl, h2, fun b hb => ?_, ?_⟩
        · rcases List.mem_cons.1 hb with rfl | hb
          · exact Bool.eq_false_iff.2 ha
          · exact h3 b hb
        · simp only [Lib.indexAny]
          rw [if_neg ha, h4, if_neg (by simp only [beq_iff_eq]; omega)]
          simp
theorem cut_cases (b : UInt8) (l : List UInt8) : (Lib.cut l [b] = (l, [], false) ∧ b ∉ l) ∨ ∃ x y, l = x ++ b :: y ∧ b ∉ x ∧ Lib.cut l [b] = (x, y, true) := by
  have hi : Lib.index l [b] = Lib.indexAny l [b] := by rw [Lib.index_one, Lib.indexAny_one]
  rcases any_cases [b] l with ⟨h1, h2⟩ | ⟨x, c, y, h1, h2, h3, h4⟩
  · left
    refine ⟨by unfold Lib.cut; rw [hi, h1, if_neg (by decide)], fun hm => ?_⟩
    have := h2 b hm
    simp at this
  · right
    obtain rfl : c = b := by simpa using h2
    refine ⟨x, y, h1, fun hm => by have := h3 c hm; simp at this, ?_⟩
    unfold Lib.cut
    rw [hi, h4, if_pos (by omega), h1]
    simp
/-- A numeral of at most three digits. -/
def numL (l : List UInt8) : Bool := inB 1 3 (l.length : Int) && l.all digB
theorem numL_no (l : List UInt8) (h : numL l = true) (b : UInt8) (hb : digB b = false) : b ∉ l := fun hm => by
  unfold numL at h
  rw [Bool.and_eq_true, List.all_eq_true] at h
  have := h.2 b hm
  rw [hb] at this
  cases this
/-- The texts that are equations. -/
def isForm (l : List UInt8) : Prop := ∃ a c b t, l = (a ++ c :: b) ++ 61 :: t ∧ (c = 43 ∨ c = 45) ∧ numL a = true ∧ numL b = true ∧ numL t = true
theorem idxN_is : ∀ (l : List (List UInt8)) (i : Int), 0 ≤ i → ∃ r, idxN (l.map mkB) i = some r ∧ (!decide (0 ≤ r)) = l.all numL
  | [], i, _ => ⟨-1, rfl, by simp⟩
  | x :: l, i, h => by
    have h1 := isNumeral_is (mkB x) 3 (by omega)
    rw [mkB_size, mkB_data] at h1
    have h2 : impl_isNumeral.f (mkB x) 3 = some (numL x) := h1
    simp only [List.map_cons, idxN, h2, Option.bind_some, List.all_cons]
    cases hx : numL x with
    | true =>
      obtain ⟨r, hr, e⟩ := idxN_is l (i + 1) (by omega)
      exact ⟨r, by rw [if_pos rfl]; exact hr, by rw [e, Bool.true_and]⟩
    | false => exact ⟨i, by rw [if_neg (by decide)], by simp [h]⟩
theorem nuAll_ev : ∀ l : List (List UInt8), (∀ x ∈ l, x.length ≤ 1000000) → Ev (fun k => nuAll k (l.map mkB)) (l.all numL)
  | [], _ => Ev.const rfl
  | x :: l, h => by
    have h1 := nuNumeral_ev (mkB x) 3 (by rw [mkB_size]; exact h x (by simp))
    rw [mkB_size, mkB_data] at h1
    have h2 : Ev (fun k => spec_nuNumeral.f k (mkB x) 3) (numL x) := h1
    simp only [List.map_cons, nuAll]
    refine Ev.bind h2 ?_
    rw [List.all_cons]
    cases numL x with
    | true =>
      simp only [if_true, Bool.true_and]
      exact nuAll_ev l (fun y hy => h y (by simp [hy]))
    | false => exact Ev.const (by simp)
/-- What the program reads. -/
theorem num_is (s : ByteArray) (hs : s.size ≤ 1000000) : (∃ a c b t, s.data.toList = (a ++ c :: b) ++ 61 :: t ∧ (c = 43 ∨ c = 45) ∧ numL a = true ∧ numL b = true ∧ numL t = true ∧ impl_numerals.f s = some ([mkB a, mkB b, mkB t], (c.toNat : Int), true)) ∨ (¬ isForm s.data.toList ∧ ∃ L c, impl_numerals.f s = some (L, c, false)) := by
  unfold impl_numerals.f
  rw [if_pos (by omega)]
  rcases cut_cases 61 s.data.toList with ⟨h1, h2⟩ | ⟨x, y, h1, h2, h3⟩
  · right
    refine ⟨fun ⟨a, c, b, t, e, _⟩ => h2 (by rw [e]; simp), [], 0, ?_⟩
    unfold cutB
    rw [h1, if_neg (by simp)]
  · have eB : cutB s = true := by unfold cutB; rw [h3]
    have eL : cutL s = mkB x := by unfold cutL; rw [h3]; rfl
    have eR : cutR s = mkB y := by unfold cutR; rw [h3]; rfl
    rw [if_pos eB]
    have eS : signAt s = Lib.indexAny x [43, 45] := by unfold signAt; rw [eL, mkB_data]
    rcases any_cases [43, 45] x with ⟨g1, g2⟩ | ⟨a, c, b, g1, g2, g3, g4⟩
    · right
      refine ⟨fun ⟨a, c, b, t, e, hc, ha, hb, ht⟩ => ?_, [], 0, ?_⟩
      · rw [h1] at e
        have e2 : spl 61 (x ++ 61 :: y) = spl 61 ((a ++ c :: b) ++ 61 :: t) := by rw [e]
        rw [spl_app 61 y x h2, spl_app 61 t (a ++ c :: b) (fun hm => by
          rcases List.mem_append.1 hm with hm | hm
          · exact numL_no a ha 61 (by decide) hm
          · rcases List.mem_cons.1 hm with hm | hm
            · rcases hc with rfl | rfl <;> cases hm
            · exact numL_no b hb 61 (by decide) hm)] at e2
        have e3 := (List.cons.inj e2).1
        have := g2 c (by rw [e3]; simp)
        rcases hc with rfl | rfl <;> simp at this
      · rw [eS, g1, if_neg (by decide)]
    · have hc : c = 43 ∨ c = 45 := by simpa using g2
      have hk : signAt s = (a.length : Int) := by rw [eS, g4]
      have hlen : x.length ≤ 1000000 := by
        have := size_list s
        rw [h1] at this
        simp at this
        omega
      have hP : numParts s = [a, b, y].map mkB := by
        have e1 : (mkB x).extract 0 a.length = mkB a := by rw [ex_mkB, mkB_data, g1]; simp
        have e2 : (mkB x).extract (a.length + 1) (mkB x).size = mkB b := by
          rw [ex_mkB, mkB_data, mkB_size, List.take_length, g1, show a ++ c :: b = (a ++ [c]) ++ b from by simp, show a.length + 1 = (a ++ [c]).length from by simp, List.drop_left]
        unfold numParts
        rw [hk, eL, eR, Int.toNat_natCast, e1, e2]
        rfl
      have hbt : bt (cutL s) (signAt s) = (c.toNat : Int) := by
        rw [hk, eL, bt_nat (mkB x) a.length (by rw [mkB_data, g1]; simp)]
        simp [mkB_data, g1]
      obtain ⟨r, hr, e⟩ := idxN_is [a, b, y] 0 (by omega)
      rw [if_pos (by omega), hP, hr, Option.bind_some, hbt, e]
      cases hA : [a, b, y].all numL with
      | true =>
        left
        simp only [List.all_cons, List.all_nil, Bool.and_true, Bool.and_eq_true] at hA
        exact ⟨a, c, b, y, by rw [h1, g1], hc, hA.1, hA.2.1, hA.2.2, rfl⟩
      | false =>
        right
        refine ⟨fun ⟨a', c', b', t', e', hc', ha', hb', ht'⟩ => ?_, _, _, rfl⟩
        rw [h1] at e'
        have e2 : spl 61 (x ++ 61 :: y) = spl 61 ((a' ++ c' :: b') ++ 61 :: t') := by rw [e']
        rw [spl_app 61 y x h2, spl_app 61 t' (a' ++ c' :: b') (fun hm => by
          rcases List.mem_append.1 hm with hm | hm
          · exact numL_no a' ha' 61 (by decide) hm
          · rcases List.mem_cons.1 hm with hm | hm
            · rcases hc' with rfl | rfl <;> cases hm
            · exact numL_no b' hb' 61 (by decide) hm), spl_none 61 t' (numL_no t' ht' 61 (by decide))] at e2
        obtain ⟨e3, e4⟩ := List.cons.inj e2
        obtain rfl := spl_one 61 y t' e4
        rw [g1] at e3
        -- the first sign of both is the same
        have hna : ∀ z, numL z = true → ∀ q ∈ z, ([43, 45] : List UInt8).contains q = false := fun z hz q hq => by
          cases hcq : ([43, 45] : List UInt8).contains q with
          | false => rfl
          | true =>
            have : q = 43 ∨ q = 45 := by simpa using hcq
            exfalso
            rcases this with rfl | rfl
            · exact numL_no z hz 43 (by decide) hq
            · exact numL_no z hz 45 (by decide) hq
        have hcut : ∀ (p p' : List UInt8) (q q' : UInt8) (r r' : List UInt8), p ++ q :: r = p' ++ q' :: r' → (∀ z ∈ p, ([43, 45] : List UInt8).contains z = false) → (∀ z ∈ p', ([43, 45] : List UInt8).contains z = false) → ([43, 45] : List UInt8).contains q = true → ([43, 45] : List UInt8).contains q' = true → p = p' ∧ q = q' ∧ r = r' := by
          intro p
          induction p with
          | nil =>
            intro p' q q' r r' he _ hp' hq _
            cases p' with
            | nil => simp at he; exact ⟨rfl, he.1, he.2⟩
            | cons z p' =>
              simp at he
              have := hp' z (by simp)
              rw [← he.1, hq] at this
              cases this
          | cons z p ih =>
            intro p' q q' r r' he hp hp' hq hq'
            cases p' with
            | nil =>
              simp at he
              have := hp z (by simp)
              rw [he.1, hq'] at this
              cases this
            | cons z' p' =>
              simp only [List.cons_append, List.cons.injEq] at he
              obtain ⟨i1, i2, i3⟩ := ih p' q q' r r' he.2 (fun u hu => hp u (by simp [hu])) (fun u hu => hp' u (by simp [hu])) hq hq'
              exact ⟨by rw [he.1, i1], i2, i3⟩
        obtain ⟨i1, _, i3⟩ := hcut a a' c c' b b' e3 g3 (hna a' ha') g2 (by rcases hc' with rfl | rfl <;> rfl)
        rw [i1, i3] at hA
        simp [ha', hb', ht'] at hA
/-- What the reference reads. -/
theorem read_yes (s : ByteArray) (hs : s.size ≤ 1000000) (a b t : List UInt8) (c : UInt8) (e : s.data.toList = (a ++ c :: b) ++ 61 :: t) (hc : c = 43 ∨ c = 45) (ha : numL a = true) (hb : numL b = true) (ht : numL t = true) :
    Ev (fun k => spec_nuRead.f k s) ([mkB a, mkB b, mkB t], decide (c = 43), true) := by
  have hz := size_list s
  rw [e] at hz
  simp only [List.length_append, List.length_cons] at hz
  have h61 : (61 : UInt8) ∉ a ++ c :: b := fun hm => by
    rcases List.mem_append.1 hm with hm | hm
    · exact numL_no a ha 61 (by decide) hm
    · rcases List.mem_cons.1 hm with hm | hm
      · rcases hc with rfl | rfl <;> cases hm
      · exact numL_no b hb 61 (by decide) hm
  have h1 := split_ev s 61 hs
  rw [e, spl_app 61 t _ h61, spl_none 61 t (numL_no t ht 61 (by decide))] at h1
  have h2 := split_ev (mkB (a ++ c :: b)) 43 (by rw [mkB_size]; simp; omega)
  have h3 := split_ev (mkB (a ++ c :: b)) 45 (by rw [mkB_size]; simp; omega)
  rw [mkB_data] at h2 h3
  have hall := nuAll_ev [a, b, t] (by intro x hx; simp at hx; rcases hx with rfl | rfl | rfl <;> omega)
  have hall2 : [a, b, t].all numL = true := by simp [ha, hb, ht]
  rw [hall2] at hall
  unfold spec_nuRead.f
  refine Ev.bind h1 ?_
  simp only [List.map_cons, List.map_nil, List.length_cons, List.length_nil]
  rcases hc with rfl | rfl
  · rw [spl_app 43 b a (numL_no a ha 43 (by decide)), spl_none 43 b (numL_no b hb 43 (by decide))] at h2
    refine Ev.congr (fun k => if_pos (by first | trivial | simp)) (Ev.bind h2 ?_)
    refine Ev.congr (fun k => if_neg (by simp)) ?_
    unfold nuRest
    refine Ev.congr (fun k => (if_pos (by simp)).trans (if_pos (by simp))) (Ev.bind hall ?_)
    exact Ev.const (by simp [rdOf])
  · have h43 : (43 : UInt8) ∉ a ++ 45 :: b := fun hm => by
      rcases List.mem_append.1 hm with hm | hm
      · exact numL_no a ha 43 (by decide) hm
      · rcases List.mem_cons.1 hm with hm | hm
        · cases hm
        · exact numL_no b hb 43 (by decide) hm
    rw [spl_none 43 _ h43] at h2
    rw [spl_app 45 b a (numL_no a ha 45 (by decide)), spl_none 45 b (numL_no b hb 45 (by decide))] at h3
    refine Ev.congr (fun k => if_pos (by first | trivial | simp)) (Ev.bind h2 ?_)
    refine Ev.congr (fun k => if_pos (by simp)) (Ev.bind h3 ?_)
    unfold nuRest
    refine Ev.congr (fun k => (if_pos (by simp)).trans (if_pos (by simp))) (Ev.bind hall ?_)
    exact Ev.const (by simp [rdOf])
theorem rest_no (qs : List (List UInt8)) (t : List UInt8) (plus : Bool) (h : ∀ x ∈ qs, x.length ≤ 1000000) (ht : t.length ≤ 1000000) (hl : qs.length ≤ 1000001) (hn : ∀ a b, qs = [a, b] → ¬ (numL a = true ∧ numL b = true ∧ numL t = true)) :
    Ev (fun k => nuRest k (qs.map mkB) (mkB t) plus) ([], false, false) := by
  unfold nuRest
  by_cases h3 : qs.length = 2
  · have hall := nuAll_ev (qs ++ [t]) (by intro x hx; rcases List.mem_append.1 hx with hx | hx; exact h x hx; simp at hx; rw [hx]; exact ht)
    have e : (qs ++ [t]).all numL = false := by
      match qs, h3 with
      | [a, b], _ =>
        have := hn a b rfl
        cases ha : numL a <;> cases hb : numL b <;> cases hc : numL t <;> simp_all
    rw [e] at hall
    rw [List.map_append] at hall
    refine Ev.congr (fun k => (if_pos (by simp; omega)).trans (if_pos (by simp; omega))) (Ev.bind hall ?_)
    exact Ev.const (by simp)
  · exact Ev.congr (fun k => (if_pos (by simp; omega)).trans (if_neg (by simp; omega))) (Ev.now _)
theorem read_no (s : ByteArray) (hs : s.size ≤ 1000000) (h : ¬ isForm s.data.toList) : Ev (fun k => spec_nuRead.f k s) ([], false, false) := by
  have hz := size_list s
  unfold spec_nuRead.f
  refine Ev.bind (split_ev s 61 hs) ?_
  by_cases h2 : (spl 61 s.data.toList).length = 2
  · obtain ⟨x, y, e⟩ : ∃ x y, spl 61 s.data.toList = [x, y] := by
      match spl 61 s.data.toList, h2 with
      | [x, y], _ => exact ⟨x, y, rfl⟩
    have e1 := spl_two 61 _ x y e
    have hl := hz
    rw [e1] at hl
    simp only [List.length_append, List.length_cons] at hl
    rw [e]
    simp only [List.map_cons, List.map_nil, List.length_cons, List.length_nil]
    refine Ev.congr (fun k => if_pos (by first | trivial | simp)) (Ev.bind (split_ev (mkB x) 43 (by rw [mkB_size]; omega)) ?_)
    rw [mkB_data]
    by_cases h3 : ((spl 43 x).map mkB).length = 1
    · refine Ev.congr (fun k => if_pos h3) (Ev.bind (split_ev (mkB x) 45 (by rw [mkB_size]; omega)) ?_)
      rw [mkB_data]
      refine rest_no _ y false (fun z hz => by have := spl_mem 45 x z hz; omega) (by omega) (by have := spl_len 45 x; omega) (fun a b eab ⟨ha, hb, ht⟩ => ?_)
      exact h ⟨a, 45, b, y, by rw [e1, spl_two 45 x a b eab], .inr rfl, ha, hb, ht⟩
    · refine Ev.congr (fun k => if_neg h3) ?_
      refine rest_no _ y true (fun z hz => by have := spl_mem 43 x z hz; omega) (by omega) (by have := spl_len 43 x; omega) (fun a b eab ⟨ha, hb, ht⟩ => ?_)
      exact h ⟨a, 43, b, y, by rw [e1, spl_two 43 x a b eab], .inl rfl, ha, hb, ht⟩
  · exact Ev.congr (fun k => if_neg (by simpa using h2)) (Ev.now _)

/-! ### the value of a numeral -/
def valF (acc : Nat) (l : List UInt8) : Nat := l.foldl (fun a b => a * 10 + (b.toNat - 48)) acc
theorem valF_le : ∀ (l : List UInt8) (acc : Nat), l.all digB = true → valF acc l + 1 ≤ (acc + 1) * 10 ^ l.length
  | [], acc, _ => by simp [valF]
  | b :: l, acc, h => by
    rw [List.all_cons, Bool.and_eq_true] at h
    have hb := digB_iff.1 h.1
    have ih := valF_le l (acc * 10 + (b.toNat - 48)) h.2
    have e : valF acc (b :: l) = valF (acc * 10 + (b.toNat - 48)) l := rfl
    rw [e, List.length_cons, Nat.pow_succ, Nat.mul_comm (10 ^ l.length) 10, ← Nat.mul_assoc]
    exact Nat.le_trans ih (Nat.mul_le_mul_right _ (by omega))
theorem decFrom_is : ∀ (l : List UInt8) (acc : Nat), l.all digB = true → Lib.decFrom acc l = some (valF acc l)
  | [], acc, _ => rfl
  | b :: l, acc, h => by
    rw [List.all_cons, Bool.and_eq_true] at h
    have hb := digB_iff.1 h.1
    have e : Lib.digitVal b = some (b.toNat - 48) := by unfold Lib.digitVal; rw [if_pos hb]
    simp only [Lib.decFrom, e]
    exact decFrom_is l _ h.2
theorem atoi_is (l : List UInt8) (h : l.all digB = true) (h0 : l ≠ []) : Lib.atoi l = some (valF 0 l : Int) := by
  cases l with
  | nil => exact absurd rfl h0
  | cons b l =>
    have h2 := h
    rw [List.all_cons, Bool.and_eq_true] at h2
    have hb := digB_iff.1 h2.1
    have n1 : (b == 45) = false := beq_eq_false_iff_ne.2 (fun e => by rw [e] at hb; exact absurd hb (by decide))
    have n2 : (b == 43) = false := beq_eq_false_iff_ne.2 (fun e => by rw [e] at hb; exact absurd hb (by decide))
    have hd : Lib.decNat (b :: l) = some (valF 0 (b :: l)) := by
      unfold Lib.decNat
      rw [List.isEmpty_cons, decFrom_is _ 0 h]
      rfl
    simp only [Lib.atoi, n1, n2, hd]
    rfl
theorem nuValue_ev (l : List UInt8) (h : l.all digB = true) (hn : l.length ≤ 3) : Ev (fun k => spec_nuValue.f k (mkB l)) (valF 0 l : Int) := by
  have key : ∀ (d i acc : Nat), i + d = l.length → acc < 10 ^ i → Ev (fun k => spec_nuValue.l0 k (mkB l) (acc : Int) (i : Int)) (valF acc (l.drop i) : Int) := by
    intro d
    induction d with
    | zero =>
      intro i acc hi ha
      rw [List.drop_of_length_le (by omega)]
      exact Ev.step (f := fun _ => some (acc : Int)) (fun k => by simp only [spec_nuValue.l0]; rw [if_neg (by rw [mkB_size]; omega)]) (Ev.now _)
    | succ d ih =>
      intro i acc hi ha
      have hlt : i < l.length := by omega
      have hb := digB_iff.1 (List.all_eq_true.1 h _ (List.getElem_mem hlt))
      have hbt : bt (mkB l) (i : Int) = ((l[i].toNat : Nat) : Int) := bt_nat (mkB l) i hlt
      have hp : 10 ^ i ≤ 100 := by
        have : i = 0 ∨ i = 1 ∨ i = 2 := by omega
        rcases this with rfl | rfl | rfl <;> decide
      have h9 := ih (i + 1) (acc * 10 + (l[i].toNat - 48)) (by omega) (by rw [Nat.pow_succ]; omega)
      rw [List.drop_eq_getElem_cons hlt]
      refine Ev.step (fun k => ?_) h9
      simp only [spec_nuValue.l0]
      rw [if_pos (by rw [mkB_size]; omega), if_pos (by omega), hbt, w64 (n := 10 * (acc : Int)) (by omega) (by omega), w64 (n := 10 * (acc : Int) + _) (by omega) (by omega), w64 (n := (i : Int) + 1) (by omega) (by omega)]
      rw [show 10 * (acc : Int) + (((l[i].toNat : Nat) : Int) - 48) % 256 = ((acc * 10 + (l[i].toNat - 48) : Nat) : Int) from by omega]
      rfl
  exact key l.length 0 0 (by omega) (by simp)
theorem val3 {l : List UInt8} (h : numL l = true) : l.all digB = true ∧ l ≠ [] ∧ l.length ≤ 3 ∧ valF 0 l < 1000 := by
  unfold numL at h
  rw [Bool.and_eq_true, inB_iff] at h
  have hl := valF_le l 0 h.2
  refine ⟨h.2, fun e => by rw [e] at h; simp at h, by omega, ?_⟩
  have : l.length = 1 ∨ l.length = 2 ∨ l.length = 3 := by omega
  rcases this with e | e | e <;> rw [e] at hl <;> omega
/-- Whether an equation with these numerals is true. -/
def trueEq (c : UInt8) (a b t : List UInt8) : Bool := if c = 43 then decide (valF 0 a + valF 0 b = valF 0 t) else decide ((valF 0 a : Int) - valF 0 b = valF 0 t)
theorem nuTrue_ev (c : UInt8) (a b t : List UInt8) (ha : numL a = true) (hb : numL b = true) (ht : numL t = true) : Ev (fun k => spec_nuTrue.f k [mkB a, mkB b, mkB t] (decide (c = 43))) (trueEq c a b t) := by
  have va := val3 ha; have vb := val3 hb; have vt := val3 ht
  have ea := nuValue_ev a va.1 va.2.2.1
  have eb := nuValue_ev b vb.1 vb.2.2.1
  have et := nuValue_ev t vt.1 vt.2.2.1
  unfold spec_nuTrue.f
  refine Ev.congr (fun k => if_pos (by simp)) (Ev.bind (by exact ea) ?_)
  refine Ev.congr (fun k => if_pos (by simp)) (Ev.bind (by exact eb) ?_)
  refine Ev.congr (fun k => if_pos (by simp)) (Ev.bind (by exact et) ?_)
  rw [w64 (by omega) (by omega), w64 (by omega) (by omega)]
  unfold trueEq
  by_cases hc : c = 43
  · rw [if_pos hc]
    refine Ev.congr (fun k => if_pos (by simp [hc])) (Ev.const ?_)
    congr 1
    rw [Bool.eq_iff_iff, beq_iff_eq, decide_eq_true_eq]
    omega
  · rw [if_neg hc]
    refine Ev.congr (fun k => if_neg (by simp [hc])) (Ev.const ?_)
    congr 1
theorem isTrue_ev (s : ByteArray) (c : UInt8) (a b t : List UInt8) (hc : c = 43 ∨ c = 45) (ha : numL a = true) (hb : numL b = true) (ht : numL t = true) (hn : impl_numerals.f s = some ([mkB a, mkB b, mkB t], (c.toNat : Int), true)) : Ev (fun k => impl_isTrue.f k s) (trueEq c a b t) := by
  have va := val3 ha; have vb := val3 hb; have vt := val3 ht
  have at_ : ∀ l : List UInt8, numL l = true → strconv_Atoi.f (mkB l) = some ((valF 0 l : Int), none) := fun l hl => by
    have v := val3 hl
    unfold strconv_Atoi.f
    rw [if_pos (by rw [mkB_size]; omega), mkB_data, atoi_is l v.1 v.2.1]
    rfl
  have st : ∀ (i : Nat) (p : List UInt8) (acc : List Int) (r : Bool), i < 3 → acc.length ≤ 3 → numL p = true → rdOf ByteArray.empty [mkB a, mkB b, mkB t] (i : Int) = mkB p → Ev (fun k => impl_isTrue.l0 k (c.toNat : Int) (acc ++ [(valF 0 p : Int)]) [mkB a, mkB b, mkB t] 3 ((i + 1 : Nat) : Int)) r →
      Ev (fun k => impl_isTrue.l0 k (c.toNat : Int) acc [mkB a, mkB b, mkB t] 3 (i : Int)) r := by
    intro i p acc r hi hacc hp hr h
    refine Ev.step (fun k => ?_) h
    simp only [impl_isTrue.l0]
    rw [if_pos (by omega), if_pos (by omega), if_pos (by simp; omega), hr, at_ p hp, Option.bind_some, if_pos (by omega), w64 (by omega) (by omega)]
    rfl
  have fin : Ev (fun k => impl_isTrue.l0 k (c.toNat : Int) [(valF 0 a : Int), (valF 0 b : Int), (valF 0 t : Int)] [mkB a, mkB b, mkB t] 3 ((3 : Nat) : Int)) (trueEq c a b t) := by
    refine Ev.step (f := fun _ => some (trueEq c a b t)) (fun k => ?_) (Ev.now _)
    simp only [impl_isTrue.l0]
    rw [if_neg (by omega)]
    have r0 : rd [(valF 0 a : Int), (valF 0 b : Int), (valF 0 t : Int)] 0 = (valF 0 a : Int) := rfl
    have r1 : rd [(valF 0 a : Int), (valF 0 b : Int), (valF 0 t : Int)] 1 = (valF 0 b : Int) := rfl
    have r2 : rd [(valF 0 a : Int), (valF 0 b : Int), (valF 0 t : Int)] 2 = (valF 0 t : Int) := rfl
    unfold trueEq
    rcases hc with rfl | rfl
    · rw [if_pos (by decide), if_pos (by simp), if_pos (by simp), if_pos (by simp), r0, r1, r2, w64 (by omega) (by omega), if_pos rfl]
      congr 1
      rw [Bool.eq_iff_iff, beq_iff_eq, decide_eq_true_eq]
      omega
    · rw [if_neg (by decide), if_pos (by simp), if_pos (by simp), if_pos (by simp), r0, r1, r2, w64 (by omega) (by omega), if_neg (by decide)]
      congr 1
  unfold impl_isTrue.f
  rw [hn]
  simp only [Option.bind_some]
  exact st 0 a [] _ (by omega) (by simp) ha rfl (st 1 b _ _ (by omega) (by simp) hb rfl (st 2 t _ _ (by omega) (by simp) ht rfl fin))

/-! ### moves between equations -/
/-- The matches added where one sign or digit becomes another, as the program counts them. -/
def adO (x y : Int) : Option Int := (impl_places.f y).bind fun p => (impl_places.f x).bind fun q => bits_OnesCount8.f (Go.bits .andNot .u8 p q)
def ad (x y : UInt8) : Int := (adO (x.toNat : Int) (y.toNat : Int)).getD 0
def adOK (d e : Nat) : Bool := decide (adO ((48 + d : Nat) : Int) ((48 + e : Nat) : Int) = some ((adO ((48 + d : Nat) : Int) ((48 + e : Nat) : Int)).getD 0)) && decide (0 ≤ (adO ((48 + d : Nat) : Int) ((48 + e : Nat) : Int)).getD 0) && decide ((adO ((48 + d : Nat) : Int) ((48 + e : Nat) : Int)).getD 0 ≤ 7) &&
  decide (spec_nuChange.f 20 (d : Int) (e : Int) = some ((adO ((48 + d : Nat) : Int) ((48 + e : Nat) : Int)).getD 0, (adO ((48 + e : Nat) : Int) ((48 + d : Nat) : Int)).getD 0))
theorem ad_all : ((List.range 10).all fun d => (List.range 10).all fun e => adOK d e) = true := by decide +kernel
theorem dig_num {b : UInt8} (h : digB b = true) : (((b.toNat : Nat) : Int) - 48) % 256 = ((b.toNat - 48 : Nat) : Int) ∧ b.toNat - 48 < 10 := by
  rw [digB_iff] at h
  omega
theorem ad_at {x y : UInt8} (hx : digB x = true) (hy : digB y = true) : adO (x.toNat : Int) (y.toNat : Int) = some (ad x y) ∧ 0 ≤ ad x y ∧ ad x y ≤ 7 ∧ spec_nuChange.f 20 ((x.toNat - 48 : Nat) : Int) ((y.toNat - 48 : Nat) : Int) = some (ad x y, ad y x) := by
  have H := ad_all
  simp only [List.all_eq_true, List.mem_range] at H
  have H := H _ (dig_num hx).2 _ (dig_num hy).2
  have h1 := digB_iff.1 hx
  have h2 := digB_iff.1 hy
  unfold adOK at H
  rw [show 48 + (x.toNat - 48) = x.toNat by omega, show 48 + (y.toNat - 48) = y.toNat by omega] at H
  simp only [Bool.and_eq_true, decide_eq_true_eq] at H
  exact ⟨H.1.1.1, H.1.1.2, H.1.2, H.2⟩
def sumP (f : UInt8 → UInt8 → Int) : List UInt8 → List UInt8 → Int
  | x :: xs, y :: ys => f x y + sumP f xs ys
  | _, _ => 0
theorem sumP_app (f : UInt8 → UInt8 → Int) (b b' : List UInt8) : ∀ a a' : List UInt8, a.length = a'.length → sumP f (a ++ b) (a' ++ b') = sumP f a a' + sumP f b b'
  | [], [], _ => by simp [sumP]
  | x :: a, y :: a', h => by
    simp only [List.cons_append, sumP]
    rw [sumP_app f b b' a a' (by simpa using h)]
    omega
theorem sumP_le (f : UInt8 → UInt8 → Int) : ∀ a a' : List UInt8, (∀ x ∈ a, ∀ y ∈ a', 0 ≤ f x y ∧ f x y ≤ 7) → 0 ≤ sumP f a a' ∧ sumP f a a' ≤ 7 * a.length
  | [], _, _ => by simp [sumP]
  | _ :: _, [], _ => by simp [sumP]; omega
  | x :: a, y :: a', h => by
    have ih := sumP_le f a a' (fun u hu v hv => h u (by simp [hu]) v (by simp [hv]))
    have := h x (by simp) y (by simp)
    simp only [sumP, List.length_cons]
    omega
theorem numL_digs {l : List UInt8} (h : numL l = true) : (∀ x ∈ l, digB x = true) ∧ l.length ≤ 3 := by
  unfold numL at h
  rw [Bool.and_eq_true, inB_iff, List.all_eq_true] at h
  exact ⟨h.2, by omega⟩
theorem mvIn_ev : ∀ (l m : List UInt8) (a t : Int), l.length = m.length → (∀ x ∈ l, digB x = true) → (∀ x ∈ m, digB x = true) → 0 ≤ a → 0 ≤ t → a + 7 * l.length ≤ 1000000 → t + 7 * l.length ≤ 1000000 →
    Ev (fun k => mvIn k l m a t) (a + sumP ad l m, t + sumP (fun x y => ad y x) l m)
  | [], [], a, t, _, _, _, _, _, _, _ => Ev.const (by simp [mvIn, sumP])
  | x :: l, y :: m, a, t, h, hl, hm, ha, ht, h1, h2 => by
    have hx := hl x (by simp)
    have hy := hm y (by simp)
    have e1 := ad_at hx hy
    have e2 := ad_at hy hx
    have hx2 := digB_iff.1 hx
    simp only [List.length_cons] at h1 h2
    have ih := mvIn_ev l m (a + ad x y) (t + ad y x) (by simpa using h) (fun z hz => hl z (by simp [hz])) (fun z hz => hm z (by simp [hz])) (by omega) (by omega) (by omega) (by omega)
    simp only [mvIn]
    refine Ev.congr (fun k => if_pos (by omega)) (Ev.bind (g := fun k => spec_nuChange.f k (((x.toNat : Int) - 48) % 256) (((y.toNat : Int) - 48) % 256)) (a := (ad x y, ad y x)) ?_ ?_)
    · rw [(dig_num hx).1, (dig_num hy).1]
      exact Ev.of (fun k => spec_nuChange.mono _ _ k) e1.2.2.2
    · simp only []
      rw [w64 (by omega) (by omega), w64 (by omega) (by omega)]
      simp only [sumP]
      rw [← Int.add_assoc, ← Int.add_assoc]
      exact ih
theorem sumP_ad {l m : List UInt8} (hl : ∀ x ∈ l, digB x = true) (hm : ∀ x ∈ m, digB x = true) : (0 ≤ sumP ad l m ∧ sumP ad l m ≤ 7 * l.length) ∧ (0 ≤ sumP (fun x y => ad y x) l m ∧ sumP (fun x y => ad y x) l m ≤ 7 * l.length) :=
  ⟨sumP_le ad l m (fun x hx y hy => (ad_at (hl x hx) (hm y hy)).2 |>.imp id (·.1)), sumP_le _ l m (fun x hx y hy => (ad_at (hm y hy) (hl x hx)).2 |>.imp id (·.1))⟩
/-- All three numerals are as long. -/
def sameLen : List (List UInt8) → List (List UInt8) → Bool
  | a :: l, b :: m => decide (a.length = b.length) && sameLen l m
  | _, _ => true
theorem mvOut_ev : ∀ (l m : List (List UInt8)) (a t : Int), l.length = m.length → (∀ x ∈ l, numL x = true) → (∀ x ∈ m, numL x = true) → 0 ≤ a → 0 ≤ t → a + 21 * l.length ≤ 900000 → t + 21 * l.length ≤ 900000 →
    Ev (fun k => mvOut k (l.map mkB) (m.map mkB) a t) (if sameLen l m = true then (a + sumP ad l.flatten m.flatten, t + sumP (fun x y => ad y x) l.flatten m.flatten, true) else (0, 0, false))
  | [], [], a, t, _, _, _, _, _, _, _ => Ev.const (by simp [mvOut, sumP, sameLen])
  | x :: l, y :: m, a, t, h, hl, hm, ha, ht, h1, h2 => by
    have hx := numL_digs (hl x (by simp))
    have hy := numL_digs (hm y (by simp))
    simp only [List.map_cons, mvOut]
    simp only [List.length_cons] at h1 h2
    by_cases hs : x.length = y.length
    · have hb := sumP_ad hx.1 hy.1
      have e1 := mvIn_ev x y a t hs hx.1 hy.1 ha ht (by omega) (by omega)
      have ih := mvOut_ev l m (a + sumP ad x y) (t + sumP (fun x y => ad y x) x y) (by simpa using h) (fun z hz => hl z (by simp [hz])) (fun z hz => hm z (by simp [hz])) (by omega) (by omega) (by omega) (by omega)
      refine Ev.congr (fun k => if_pos (by rw [mkB_size, mkB_size]; exact hs)) (Ev.bind (by rw [mkB_data, mkB_data]; exact e1) ?_)
      have e : sameLen (x :: l) (y :: m) = sameLen l m := by simp [sameLen, hs]
      rw [e, List.flatten_cons, List.flatten_cons, sumP_app ad _ _ x y hs, sumP_app _ _ _ x y hs, ← Int.add_assoc, ← Int.add_assoc]
      exact ih
    · have e : sameLen (x :: l) (y :: m) = false := by simp [sameLen, hs]
      rw [e, if_neg (by decide)]
      exact Ev.congr (fun k => if_neg (by rw [mkB_size, mkB_size]; exact hs)) (Ev.now _)
theorem pair_sign {c c' : UInt8} (h : c = 43 ∨ c = 45) (h' : c' = 43 ∨ c' = 45) : adO (c.toNat : Int) (c'.toNat : Int) = some (ad c c') ∧ ad c c' = (if decide (c' = 43) = true then (if decide (c = 43) = true then 0 else 1) else 0) := by
  rcases h with rfl | rfl <;> rcases h' with rfl | rfl <;> decide +kernel
theorem pair_eq : adO ((61 : UInt8).toNat : Int) ((61 : UInt8).toNat : Int) = some (ad 61 61) ∧ ad 61 61 = 0 := by decide +kernel
/-- Two signs, two digits, or the sign between the sides twice. -/
def alike (x y : UInt8) : Prop := (digB x = true ∧ digB y = true) ∨ ((x = 43 ∨ x = 45) ∧ (y = 43 ∨ y = 45)) ∨ (x = 61 ∧ y = 61)
theorem alike_ok (x y : UInt8) (h : alike x y) : (adO (x.toNat : Int) (y.toNat : Int) = some (ad x y) ∧ adO (y.toNat : Int) (x.toNat : Int) = some (ad y x)) ∧ (0 ≤ ad x y ∧ ad x y ≤ 7) ∧ (0 ≤ ad y x ∧ ad y x ≤ 7) := by
  rcases h with ⟨h1, h2⟩ | ⟨h1, h2⟩ | ⟨rfl, rfl⟩
  · have e1 := ad_at h1 h2
    have e2 := ad_at h2 h1
    exact ⟨⟨e1.1, e2.1⟩, ⟨e1.2.1, e1.2.2.1⟩, ⟨e2.2.1, e2.2.2.1⟩⟩
  · have e1 := pair_sign h1 h2
    have e2 := pair_sign h2 h1
    refine ⟨⟨e1.1, e2.1⟩, ?_, ?_⟩
    · rw [e1.2]; split <;> (try split) <;> omega
    · rw [e2.2]; split <;> (try split) <;> omega
  · exact ⟨⟨pair_eq.1, pair_eq.1⟩, by rw [pair_eq.2]; omega, by rw [pair_eq.2]; omega⟩
theorem alike_app {P : UInt8 → UInt8 → Prop} : ∀ (a a' b b' : List UInt8), a.length = a'.length → (∀ (i : Nat) (h1 : i < a.length) (h2 : i < a'.length), P a[i] a'[i]) → (∀ (i : Nat) (h1 : i < b.length) (h2 : i < b'.length), P b[i] b'[i]) → ∀ (i : Nat) (h1 : i < (a ++ b).length) (h2 : i < (a' ++ b').length), P (a ++ b)[i] (a' ++ b')[i] := by
  intro a a' b b' hl ha hb i h1 h2
  by_cases hi : i < a.length
  · rw [List.getElem_append_left hi, List.getElem_append_left (by omega)]
    exact ha i hi (by omega)
  · rw [List.getElem_append_right (by omega), List.getElem_append_right (by omega)]
    simp only [List.length_append] at h1 h2
    have := hb (i - a.length) (by omega) (by omega)
    simpa only [hl] using this
theorem alike_cons {P : UInt8 → UInt8 → Prop} (c c' : UInt8) (b b' : List UInt8) (hc : P c c') (hb : ∀ (i : Nat) (h1 : i < b.length) (h2 : i < b'.length), P b[i] b'[i]) : ∀ (i : Nat) (h1 : i < (c :: b).length) (h2 : i < (c' :: b').length), P (c :: b)[i] (c' :: b')[i] := by
  intro i h1 h2
  cases i with
  | zero => exact hc
  | succ i => exact hb i (by simpa using h1) (by simpa using h2)
theorem alike_digs {a a' : List UInt8} (h : ∀ x ∈ a, digB x = true) (h' : ∀ x ∈ a', digB x = true) : ∀ (i : Nat) (h1 : i < a.length) (h2 : i < a'.length), alike a[i] a'[i] := fun i h1 h2 => .inl ⟨h _ (List.getElem_mem h1), h' _ (List.getElem_mem h2)⟩
/-- The whole texts against their numerals and signs. -/
theorem sum_whole (f : UInt8 → UInt8 → Int) (h61 : f 61 61 = 0) (a b t a' b' t' : List UInt8) (c c' : UInt8) (h1 : a.length = a'.length) (h2 : b.length = b'.length) (h3 : t.length = t'.length) :
    sumP f ((a ++ c :: b) ++ 61 :: t) ((a' ++ c' :: b') ++ 61 :: t') = f c c' + sumP f [a, b, t].flatten [a', b', t'].flatten := by
  rw [sumP_app f _ _ _ _ (by simp; omega), sumP_app f _ _ a a' h1]
  simp only [sumP, h61, List.flatten_cons, List.flatten_nil, List.append_nil]
  rw [sumP_app f _ _ a a' h1, sumP_app f _ _ b b' h2]
  omega

/-! ### at most two changes -/
def sumG {α : Type} (f : α → α → Int) : List α → List α → Int
  | x :: xs, y :: ys => f x y + sumG f xs ys
  | _, _ => 0
def likeG {α : Type} (p : α → α → Prop) : List α → List α → Prop
  | [], [] => True
  | x :: xs, y :: ys => p x y ∧ likeG p xs ys
  | _, _ => False
/-- What is added and taken from one thing to another like it, and one change at most of each. -/
structure Steps {α : Type} (p : α → α → Prop) (f g : α → α → Int) (one : α → α → Prop) : Prop where
  pos : ∀ x y, p x y → 0 ≤ f x y ∧ 0 ≤ g x y
  same : ∀ x y, p x y → f x y = 0 → g x y = 0 → x = y
  once : ∀ x y, p x y → f x y + g x y ≤ 1 → x = y ∨ one x y
  twice : ∀ x y, p x y → f x y ≤ 1 → g x y ≤ 1 → x = y ∨ one x y ∨ ∃ z, one x z ∧ one z y
def oneG {α : Type} (one : α → α → Prop) (xs ys : List α) : Prop := ∃ p x y r, xs = p ++ x :: r ∧ ys = p ++ y :: r ∧ one x y
theorem oneG_cons {α : Type} {one : α → α → Prop} {xs ys : List α} (a : α) (h : oneG one xs ys) : oneG one (a :: xs) (a :: ys) := by
  obtain ⟨p, x, y, r, rfl, rfl, h⟩ := h
  exact ⟨a :: p, x, y, r, rfl, rfl, h⟩
theorem oneG_head {α : Type} {one : α → α → Prop} {x y : α} (r : List α) (h : one x y) : oneG one (x :: r) (y :: r) := ⟨[], x, y, r, rfl, rfl, h⟩
section
variable {α : Type} {p : α → α → Prop} {f g : α → α → Int} {one : α → α → Prop}
theorem sumG_pos (S : Steps p f g one) : ∀ xs ys : List α, likeG p xs ys → 0 ≤ sumG f xs ys ∧ 0 ≤ sumG g xs ys
  | [], [], _ => by simp [sumG]
  | [], _ :: _, h => h.elim
  | _ :: _, [], h => h.elim
  | x :: xs, y :: ys, h => by
    have h1 := S.pos x y h.1
    have h2 := sumG_pos S xs ys h.2
    simp only [sumG]
    omega
theorem sumG_same (S : Steps p f g one) : ∀ xs ys : List α, likeG p xs ys → sumG f xs ys = 0 → sumG g xs ys = 0 → xs = ys
  | [], [], _, _, _ => rfl
  | [], _ :: _, h, _, _ => h.elim
  | _ :: _, [], h, _, _ => h.elim
  | x :: xs, y :: ys, h, hf, hg => by
    have h1 := S.pos x y h.1
    have h2 := sumG_pos S xs ys h.2
    simp only [sumG] at hf hg
    rw [S.same x y h.1 (by omega) (by omega), sumG_same S xs ys h.2 (by omega) (by omega)]
theorem sumG_once (S : Steps p f g one) : ∀ xs ys : List α, likeG p xs ys → sumG f xs ys + sumG g xs ys ≤ 1 → xs = ys ∨ oneG one xs ys
  | [], [], _, _ => .inl rfl
  | [], _ :: _, h, _ => h.elim
  | _ :: _, [], h, _ => h.elim
  | x :: xs, y :: ys, h, hs => by
    have h1 := S.pos x y h.1
    have h2 := sumG_pos S xs ys h.2
    simp only [sumG] at hs
    by_cases h0 : f x y + g x y = 0
    · obtain rfl := S.same x y h.1 (by omega) (by omega)
      rcases sumG_once S xs ys h.2 (by omega) with rfl | h3
      · exact .inl rfl
      · exact .inr (oneG_cons x h3)
    · obtain rfl := sumG_same S xs ys h.2 (by omega) (by omega)
      rcases S.once x y h.1 (by omega) with rfl | h3
      · exact .inl rfl
      · exact .inr (oneG_head _ h3)
theorem sumG_twice (S : Steps p f g one) : ∀ xs ys : List α, likeG p xs ys → sumG f xs ys ≤ 1 → sumG g xs ys ≤ 1 → xs = ys ∨ oneG one xs ys ∨ ∃ zs, oneG one xs zs ∧ oneG one zs ys
  | [], [], _, _, _ => .inl rfl
  | [], _ :: _, h, _, _ => h.elim
  | _ :: _, [], h, _, _ => h.elim
  | x :: xs, y :: ys, h, hf, hg => by
    have h1 := S.pos x y h.1
    have h2 := sumG_pos S xs ys h.2
    simp only [sumG] at hf hg
    by_cases h0 : f x y + g x y = 0
    · obtain rfl := S.same x y h.1 (by omega) (by omega)
      rcases sumG_twice S xs ys h.2 (by omega) (by omega) with rfl | h3 | ⟨zs, h3, h4⟩
      · exact .inl rfl
      · exact .inr (.inl (oneG_cons x h3))
      · exact .inr (.inr ⟨x :: zs, oneG_cons x h3, oneG_cons x h4⟩)
    · by_cases h1' : f x y + g x y ≤ 1
      · rcases S.once x y h.1 h1' with rfl | h3
        · rcases sumG_once S xs ys h.2 (by omega) with rfl | h4
          · exact .inl rfl
          · exact .inr (.inl (oneG_cons x h4))
        · rcases sumG_once S xs ys h.2 (by omega) with rfl | h4
          · exact .inr (.inl (oneG_head _ h3))
          · exact .inr (.inr ⟨y :: xs, oneG_head _ h3, oneG_cons y h4⟩)
      · obtain rfl := sumG_same S xs ys h.2 (by omega) (by omega)
        rcases S.twice x y h.1 (by omega) (by omega) with rfl | h3 | ⟨z, h3, h4⟩
        · exact .inl rfl
        · exact .inr (.inl (oneG_head _ h3))
        · exact .inr (.inr ⟨z :: xs, oneG_head _ h3, oneG_head _ h4⟩)
/-- The same for lists of such things. -/
theorem Steps.list (S : Steps p f g one) : Steps (likeG p) (sumG f) (sumG g) (oneG one) := ⟨sumG_pos S, sumG_same S, sumG_once S, sumG_twice S⟩
end
/-! ### lists in order -/
theorem sorted_ext {α : Type} {lt : α → α → Prop} (irr : ∀ x, ¬ lt x x) (asym : ∀ x y, lt x y → ¬ lt y x) : ∀ l m : List α, l.Pairwise lt → m.Pairwise lt → (∀ x, x ∈ l ↔ x ∈ m) → l = m
  | [], [], _, _, _ => rfl
  | [], b :: m, _, _, h => by have := (h b).2 (by simp); cases this
  | a :: l, [], _, _, h => by have := (h a).1 (by simp); cases this
  | a :: l, b :: m, hl, hm, h => by
    rw [List.pairwise_cons] at hl hm
    have hab : a = b := by
      rcases List.mem_cons.1 ((h a).1 (by simp)) with e | ha
      · exact e
      rcases List.mem_cons.1 ((h b).2 (by simp)) with e | hb
      · exact e.symm
      exact absurd (hl.1 b hb) (asym _ _ (hm.1 a ha))
    subst hab
    rw [sorted_ext irr asym l m hl.2 hm.2 (fun x => ?_)]
    constructor
    · intro hx
      rcases List.mem_cons.1 ((h x).1 (by simp [hx])) with rfl | h3
      · exact absurd (hl.1 _ hx) (irr _)
      · exact h3
    · intro hx
      rcases List.mem_cons.1 ((h x).2 (by simp [hx])) with rfl | h3
      · exact absurd (hm.1 _ hx) (irr _)
      · exact h3
/-- One more, laid in behind k. -/
theorem sorted_ins {α : Type} {lt : α → α → Prop} (t : α) (l : List α) (k : Nat) (hl : l.Pairwise lt) (h1 : ∀ x ∈ l.take k, lt x t) (h2 : ∀ x ∈ l.drop k, lt t x) : (l.take k ++ t :: l.drop k).Pairwise lt := by
  rw [List.pairwise_append]
  rw [← List.take_append_drop k l, List.pairwise_append] at hl
  refine ⟨hl.1, List.pairwise_cons.2 ⟨h2, hl.2.1⟩, fun a ha b hb => ?_⟩
  rcases List.mem_cons.1 hb with rfl | hb
  · exact h1 a ha
  · exact hl.2.2 a ha b hb
theorem mem_ins {α : Type} (t : α) (l : List α) (k : Nat) (x : α) : x ∈ l.take k ++ t :: l.drop k ↔ x = t ∨ x ∈ l := by
  have h := List.take_append_drop k l
  constructor
  · intro hx
    rcases List.mem_append.1 hx with h1 | h1
    · exact .inr (List.mem_of_mem_take h1)
    · rcases List.mem_cons.1 h1 with h2 | h2
      · exact .inl h2
      · exact .inr (List.mem_of_mem_drop h2)
  · intro hx
    rcases hx with rfl | hx
    · simp
    · rw [← h] at hx
      rcases List.mem_append.1 hx with h1 | h1
      · exact List.mem_append.2 (.inl h1)
      · exact List.mem_append.2 (.inr (List.mem_cons_of_mem _ h1))
/-- The order of texts. -/
theorem less_irr : ∀ l : List UInt8, Op.bytesLess l l = false
  | [] => rfl
  | a :: x => by
    have h1 : (a < a) = False := by simp
    simp [Op.bytesLess, less_irr x]
theorem less_iff : ∀ a b : UInt8, ∀ x y : List UInt8, Op.bytesLess (a :: x) (b :: y) = true ↔ a.toNat < b.toNat ∨ (a.toNat = b.toNat ∧ Op.bytesLess x y = true) := by
  intro a b x y
  have h1 : (a < b) = (a.toNat < b.toNat) := propext UInt8.lt_iff_toNat_lt
  rcases Nat.lt_trichotomy a.toNat b.toNat with h | h | h
  · simp [Op.bytesLess, h1, h]
  · obtain rfl : a = b := UInt8.toNat_inj.1 h
    simp [Op.bytesLess]
  · have hng : ¬ a.toNat < b.toNat := by omega
    have hne : ¬ a.toNat = b.toNat := by omega
    simp [Op.bytesLess, h1, hng, hne]
    intro e
    exact absurd (by rw [e]) hne
theorem less_asym : ∀ x y : List UInt8, Op.bytesLess x y = true → ¬ Op.bytesLess y x = true
  | [], [], h => by simp [Op.bytesLess] at h
  | [], _ :: _, _ => by simp [Op.bytesLess]
  | _ :: _, [], h => by simp [Op.bytesLess] at h
  | a :: x, b :: y, h => by
    rw [less_iff] at h ⊢
    rcases h with h | ⟨h, h2⟩
    · omega
    · intro h3
      rcases h3 with h3 | ⟨_, h3⟩
      · omega
      · exact less_asym x y h2 h3
theorem less_trans : ∀ x y z : List UInt8, Op.bytesLess x y = true → Op.bytesLess y z = true → Op.bytesLess x z = true
  | [], [], _, h, _ => by simp [Op.bytesLess] at h
  | [], _ :: _, [], _, h => by simp [Op.bytesLess] at h
  | [], _ :: _, _ :: _, _, _ => by simp [Op.bytesLess]
  | _ :: _, [], _, h, _ => by simp [Op.bytesLess] at h
  | _ :: _, _ :: _, [], _, h => by simp [Op.bytesLess] at h
  | a :: x, b :: y, c :: z, h, h' => by
    rw [less_iff] at h h' ⊢
    rcases h with h | ⟨h, h2⟩
    · rcases h' with h3 | ⟨h3, _⟩
      · left; omega
      · left; omega
    · rcases h' with h3 | ⟨h3, h4⟩
      · left; omega
      · exact .inr ⟨by omega, less_trans x y z h2 h4⟩
theorem less_total : ∀ x y : List UInt8, Op.bytesLess x y = true ∨ x = y ∨ Op.bytesLess y x = true
  | [], [] => .inr (.inl rfl)
  | [], _ :: _ => .inl (by simp [Op.bytesLess])
  | _ :: _, [] => .inr (.inr (by simp [Op.bytesLess]))
  | a :: x, b :: y => by
    rw [less_iff, less_iff]
    rcases Nat.lt_trichotomy a.toNat b.toNat with h | h | h
    · exact .inl (.inl h)
    · obtain rfl : a = b := UInt8.toNat_inj.1 h
      rcases less_total x y with h2 | rfl | h2
      · exact .inl (.inr ⟨rfl, h2⟩)
      · exact .inr (.inl rfl)
      · exact .inr (.inr (.inr ⟨rfl, h2⟩))
    · exact .inr (.inr (.inl h))
theorem less_lt : ∀ x y : List UInt8, Op.bytesLess x y = true ↔ x < y
  | [], [] => by simp [Op.bytesLess]
  | [], _ :: _ => by simp [Op.bytesLess]
  | _ :: _, [] => by simp [Op.bytesLess]
  | a :: x, b :: y => by
    rw [less_iff, List.cons_lt_cons_iff, less_lt x y, UInt8.lt_iff_toNat_lt, UInt8.toNat_inj]
/-- The order of the program's sorting. -/
theorem sort_less (l : List (List UInt8)) (hn : l.Nodup) : (l.mergeSort fun x y => decide (x ≤ y)).Pairwise (fun x y => Op.bytesLess x y = true) := by
  have h1 : (l.mergeSort fun x y => decide (x ≤ y)).Pairwise (fun x y => decide (x ≤ y) = true) :=
    List.pairwise_mergeSort (fun a b c h1 h2 => by
      simp only [decide_eq_true_eq] at h1 h2 ⊢
      exact List.le_trans h1 h2) (fun a b => by
      simp only [Bool.or_eq_true, decide_eq_true_eq]
      exact List.le_total a b) l
  have h2 : (l.mergeSort fun x y => decide (x ≤ y)).Nodup := (List.mergeSort_perm l _).nodup_iff.2 hn
  refine (h1.and h2).imp ?_
  intro a b ⟨h3, h4⟩
  simp only [decide_eq_true_eq] at h3
  rcases less_total a b with h | h | h
  · exact h
  · exact absurd h h4
  · exact absurd ((less_lt b a).1 h) (fun h5 => absurd h5 (List.not_lt.2 h3))

/-! ### the texts that the program makes -/
def lkI (x y : Int) : Prop := y ∈ lstR x
def adI (x y : Int) : Int := cntR y x
def tkI (x y : Int) : Int := cntR x y
def factB (x : Int) : Bool := decide (x ∈ lstR x) && decide (cntR x x = 0) && (lstR x).all fun y => decide (0 ≤ cntR y x) && decide (0 ≤ cntR x y) && (decide (x = y) || !decide (cntR y x = 0) || !decide (cntR x y = 0))
theorem fact_all : (sgnsR.all factB) = true := by decide +kernel
theorem fact_self {x : Int} (h : sgnR x = true) : x ∈ lstR x ∧ cntR x x = 0 := by
  have H := List.all_eq_true.1 fact_all x (sgns_mem h)
  simp only [factB, Bool.and_eq_true, decide_eq_true_eq] at H
  exact H.1
theorem fact_at {x y : Int} (h : sgnR x = true) (hy : y ∈ lstR x) : 0 ≤ cntR y x ∧ 0 ≤ cntR x y ∧ (cntR y x = 0 → cntR x y = 0 → x = y) := by
  have H := List.all_eq_true.1 fact_all x (sgns_mem h)
  simp only [factB, Bool.and_eq_true, decide_eq_true_eq, List.all_eq_true, Bool.or_eq_true, Bool.not_eq_true', decide_eq_false_iff_not] at H
  obtain ⟨⟨h1, h2⟩, h3⟩ := H.2 y hy
  refine ⟨h1, h2, fun e1 e2 => ?_⟩
  rcases h3 with (h3 | h3) | h3
  · exact h3
  · exact absurd e1 h3
  · exact absurd e2 h3
theorem like_self : ∀ r : List Int, (∀ x ∈ r, sgnR x = true) → likeG lkI r r ∧ sumG adI r r = 0 ∧ sumG tkI r r = 0
  | [], _ => ⟨trivial, rfl, rfl⟩
  | x :: r, h => by
    have h1 := fact_self (h x (by simp))
    have h2 := like_self r (fun y hy => h y (by simp [hy]))
    refine ⟨⟨h1.1, h2.1⟩, ?_, ?_⟩
    · show cntR x x + sumG adI r r = 0
      omega
    · show cntR x x + sumG tkI r r = 0
      omega
theorem like_pos : ∀ r v : List Int, (∀ x ∈ r, sgnR x = true) → likeG lkI r v → 0 ≤ sumG adI r v ∧ 0 ≤ sumG tkI r v ∧ (sumG adI r v = 0 → sumG tkI r v = 0 → r = v)
  | [], [], _, _ => ⟨Int.le_refl _, Int.le_refl _, fun _ _ => rfl⟩
  | [], _ :: _, _, h => h.elim
  | _ :: _, [], _, h => h.elim
  | x :: r, y :: v, hs, h => by
    have h1 := fact_at (hs x (by simp)) h.1
    have h2 := like_pos r v (fun y hy => hs y (by simp [hy])) h.2
    have e1 : sumG adI (x :: r) (y :: v) = cntR y x + sumG adI r v := rfl
    have e2 : sumG tkI (x :: r) (y :: v) = cntR x y + sumG tkI r v := rfl
    rw [e1, e2]
    refine ⟨by omega, by omega, fun a b => ?_⟩
    rw [h1.2.2 (by omega) (by omega), h2.2.2 (by omega) (by omega)]
theorem mem_chL {x c : Int} {a t : Int} : c ∈ chL x a t ↔ c ∈ lstR x ∧ cntR c x = a ∧ cntR x c = t := by
  unfold chL dropR
  rw [List.mem_filter]
  simp
/-- The texts are those of the form with just so many matches added and taken. -/
theorem mem_chG : ∀ (r pre u : List Int) (A T : Nat), (∀ x ∈ r, sgnR x = true) → (u ∈ chG r pre A T ↔ ∃ v, u = pre ++ v ∧ likeG lkI r v ∧ sumG adI r v = (A : Int) ∧ sumG tkI r v = (T : Int))
  | [], pre, u, A, T, _ => by
    simp only [chG]
    constructor
    · intro h
      by_cases hz : A = 0 ∧ T = 0
      · rw [if_pos hz] at h
        obtain ⟨rfl, rfl⟩ := hz
        exact ⟨[], by simpa using h, trivial, rfl, rfl⟩
      · rw [if_neg hz] at h
        cases h
    · rintro ⟨v, rfl, hl, h1, h2⟩
      cases v with
      | nil =>
        have e1 : (0 : Int) = (A : Int) := h1
        have e2 : (0 : Int) = (T : Int) := h2
        rw [if_pos ⟨by omega, by omega⟩]
        simp
      | cons y v => exact hl.elim
  | x :: r, pre, u, A, T, hs => by
    have hx := hs x (by simp)
    have hr : ∀ y ∈ r, sgnR y = true := fun y hy => hs y (by simp [hy])
    by_cases hz : A = 0 ∧ T = 0
    · obtain ⟨rfl, rfl⟩ := hz
      rw [chG_zero]
      constructor
      · intro h
        have := like_self (x :: r) hs
        exact ⟨x :: r, by simpa using h, this.1, this.2.1, this.2.2⟩
      · rintro ⟨v, rfl, hl, h1, h2⟩
        rw [(like_pos (x :: r) v hs hl).2.2 h1 h2]
        simp
    · rw [chG_step _ _ _ hz, List.mem_append]
      have hA : u ∈ chA (fun c A' T' => chG r (pre ++ [c]) A' T') x A T 0 (A + 1) ↔ ∃ a t : Nat, a ≤ A ∧ t ≤ T ∧ a + t ≠ 0 ∧ ∃ c, c ∈ chL x a t ∧ u ∈ chG r (pre ++ [c]) (A - a) (T - t) := by
        unfold chA chT
        simp only [List.mem_flatMap, List.mem_range'_1]
        constructor
        · rintro ⟨a, ⟨_, ha⟩, t, ⟨_, ht⟩, h⟩
          by_cases h0 : a + t = 0
          · rw [if_pos h0] at h; cases h
          · rw [if_neg h0, List.mem_flatMap] at h
            obtain ⟨c, hc, h⟩ := h
            exact ⟨a, t, by omega, by omega, h0, c, hc, h⟩
        · rintro ⟨a, t, ha, ht, h0, c, hc, h⟩
          refine ⟨a, ⟨by omega, by omega⟩, t, ⟨by omega, by omega⟩, ?_⟩
          rw [if_neg h0, List.mem_flatMap]
          exact ⟨c, hc, h⟩
      rw [hA]
      constructor
      · rintro (⟨a, t, ha, ht, h0, c, hc, h⟩ | h)
        · obtain ⟨v, rfl, hl, h1, h2⟩ := (mem_chG r _ u _ _ hr).1 h
          obtain ⟨c1, c2, c3⟩ := mem_chL.1 hc
          refine ⟨c :: v, by simp, ⟨c1, hl⟩, ?_, ?_⟩
          · show cntR c x + sumG adI r v = (A : Int)
            omega
          · show cntR x c + sumG tkI r v = (T : Int)
            omega
        · obtain ⟨v, rfl, hl, h1, h2⟩ := (mem_chG r _ u _ _ hr).1 h
          have h3 := fact_self hx
          refine ⟨x :: v, by simp, ⟨h3.1, hl⟩, ?_, ?_⟩
          · show cntR x x + sumG adI r v = (A : Int)
            omega
          · show cntR x x + sumG tkI r v = (T : Int)
            omega
      · rintro ⟨v, rfl, hl, h1, h2⟩
        cases v with
        | nil => exact hl.elim
        | cons c v =>
          have h3 := fact_at hx hl.1
          have h4 := like_pos r v hr hl.2
          have e1 : cntR c x + sumG adI r v = (A : Int) := h1
          have e2 : cntR x c + sumG tkI r v = (T : Int) := h2
          by_cases h0 : cntR c x = 0 ∧ cntR x c = 0
          · obtain rfl := h3.2.2 h0.1 h0.2
            right
            exact (mem_chG r _ _ _ _ hr).2 ⟨v, by simp, hl.2, by omega, by omega⟩
          · left
            refine ⟨(cntR c x).toNat, (cntR x c).toNat, by omega, by omega, by omega, c, mem_chL.2 ⟨hl.1, by omega, by omega⟩, ?_⟩
            exact (mem_chG r _ _ _ _ hr).2 ⟨v, by simp, hl.2, by omega, by omega⟩
theorem lst_nodup (c : Int) : (lstR c).Nodup := by
  unfold lstR
  split
  · decide
  · split <;> decide
/-- Each is made once. -/
theorem nodup_chG : ∀ (r pre : List Int) (A T : Nat), (∀ x ∈ r, sgnR x = true) → (chG r pre A T).Pairwise (· ≠ ·)
  | [], pre, A, T, _ => by
    simp only [chG]
    split <;> simp
  | x :: r, pre, A, T, hs => by
    have hx := hs x (by simp)
    have hr : ∀ y ∈ r, sgnR y = true := fun y hy => hs y (by simp [hy])
    by_cases hz : A = 0 ∧ T = 0
    · obtain ⟨rfl, rfl⟩ := hz
      rw [chG_zero]
      simp
    · have key : ∀ (c : Int) (A' T' : Nat) (u : List Int), u ∈ chG r (pre ++ [c]) A' T' → ∃ v, u = pre ++ c :: v := fun c A' T' u h => by
        obtain ⟨v, rfl, _⟩ := (mem_chG r _ u _ _ hr).1 h
        exact ⟨v, by simp⟩
      have hd : ∀ {c c' : Int} {A' T' A2 T2 : Nat} {u u' : List Int}, u ∈ chG r (pre ++ [c]) A' T' → u' ∈ chG r (pre ++ [c']) A2 T2 → c ≠ c' → u ≠ u' := fun {c c' A' T' A2 T2 u u'} h h' hne he => by
        obtain ⟨v, rfl⟩ := key _ _ _ _ h
        obtain ⟨v', rfl⟩ := key _ _ _ _ h'
        have := List.append_cancel_left he
        injection this with h1 h2
        exact hne h1
      have inT : ∀ (a t n : Nat) (u : List Int), u ∈ chT (fun c A' T' => chG r (pre ++ [c]) A' T') x A T a t n → ∃ (c : Int) (t' A2 T2 : Nat), t ≤ t' ∧ c ∈ chL x a t' ∧ a + t' ≠ 0 ∧ u ∈ chG r (pre ++ [c]) A2 T2 := fun a t n u h => by
        unfold chT at h
        simp only [List.mem_flatMap, List.mem_range'_1] at h
        obtain ⟨t', ⟨h1, h2⟩, h⟩ := h
        by_cases h0 : a + t' = 0
        · rw [if_pos h0] at h; cases h
        · rw [if_neg h0, List.mem_flatMap] at h
          obtain ⟨c, hc, h⟩ := h
          exact ⟨c, t', _, _, h1, hc, h0, h⟩
      have inA : ∀ (a n : Nat) (u : List Int), u ∈ chA (fun c A' T' => chG r (pre ++ [c]) A' T') x A T a n → ∃ (c : Int) (a' t' A2 T2 : Nat), a ≤ a' ∧ c ∈ chL x a' t' ∧ a' + t' ≠ 0 ∧ u ∈ chG r (pre ++ [c]) A2 T2 := fun a n u h => by
        unfold chA at h
        simp only [List.mem_flatMap, List.mem_range'_1] at h
        obtain ⟨a', ⟨h1, h2⟩, h⟩ := h
        obtain ⟨c, t', A2, T2, _, hc, h0, h⟩ := inT a' 0 _ u h
        exact ⟨c, a', t', A2, T2, h1, hc, h0, h⟩
      have pT : ∀ (n a t : Nat), (chT (fun c A' T' => chG r (pre ++ [c]) A' T') x A T a t n).Pairwise (· ≠ ·) := by
        intro n
        induction n with
        | zero => intro a t; simp [chT]
        | succ n ih =>
          intro a t
          rw [chT_step, List.pairwise_append]
          refine ⟨?_, ih a (t + 1), ?_⟩
          · by_cases h0 : a + t = 0
            · rw [if_pos h0]; exact List.Pairwise.nil
            · rw [if_neg h0, List.pairwise_flatMap]
              refine ⟨fun c _ => nodup_chG r _ _ _ hr, ?_⟩
              refine List.Pairwise.imp ?_ ((lst_nodup x).filter _)
              intro c c' hne u hu u' hu'
              exact hd hu hu' hne
          · intro u hu u' hu'
            by_cases h0 : a + t = 0
            · rw [if_pos h0] at hu; cases hu
            · rw [if_neg h0, List.mem_flatMap] at hu
              obtain ⟨c, hc, hu⟩ := hu
              obtain ⟨c', t', A2, T2, ht', hc', _, hu'⟩ := inT a (t + 1) n u' hu'
              refine hd hu hu' (fun e => ?_)
              subst e
              have h1 := (mem_chL.1 hc).2.2
              have h2 := (mem_chL.1 hc').2.2
              omega
      have pA : ∀ (n a : Nat), (chA (fun c A' T' => chG r (pre ++ [c]) A' T') x A T a n).Pairwise (· ≠ ·) := by
        intro n
        induction n with
        | zero => intro a; simp [chA]
        | succ n ih =>
          intro a
          rw [chA_step, List.pairwise_append]
          refine ⟨pT _ _ _, ih (a + 1), fun u hu u' hu' => ?_⟩
          obtain ⟨c, t', A2, T2, _, hc, _, hu⟩ := inT a 0 _ u hu
          obtain ⟨c', a', t2, A3, T3, ha', hc', _, hu'⟩ := inA (a + 1) n u' hu'
          refine hd hu hu' (fun e => ?_)
          subst e
          have h1 := (mem_chL.1 hc).2.1
          have h2 := (mem_chL.1 hc').2.1
          omega
      rw [chG_step _ _ _ hz, List.pairwise_append]
      refine ⟨pA _ _, nodup_chG r _ _ _ hr, fun u hu u' hu' => ?_⟩
      obtain ⟨c, a', t', A2, T2, _, hc, h0, hu⟩ := inA 0 _ u hu
      refine hd hu hu' (fun e => ?_)
      subst e
      have h3 := (fact_self hx).2
      have h1 := (mem_chL.1 hc).2
      omega

/-! ### one digit changed -/
theorem mkB_app (a b : List UInt8) : mkB a ++ mkB b = mkB (a ++ b) := by
  apply ByteArray.ext
  rw [ByteArray.data_append]
  simp [mkB]
theorem mkB_inj {a b : List UInt8} (h : mkB a = mkB b) : a = b := by
  have := congrArg (fun s : ByteArray => s.data.toList) h
  simpa [mkB_data] using this
theorem mkB_toList (a : List UInt8) : (mkB a).toList = a := by rw [Go.Lib.toList_data, mkB_data]
def eD (d : Nat) : UInt8 := UInt8.ofNat (48 + d)
theorem eD_nat {d : Nat} (h : d < 10) : (eD d).toNat = 48 + d := by
  unfold eD
  rw [UInt8.toNat_ofNat']
  omega
theorem eD_dig {d : Nat} (h : d < 10) : digB (eD d) = true := by
  rw [digB_iff, eD_nat h]
  omega
theorem eD_of {e : UInt8} (h : digB e = true) : eD (e.toNat - 48) = e := by
  have := digB_iff.1 h
  apply UInt8.toNat_inj.1
  rw [eD_nat (by omega)]
  omega
theorem l1Num_ev (d : Nat) (h : d < 10) : Ev (fun k => spec_l1Num.f k (d : Int)) (mkB [eD d]) := by
  refine Ev.step (f := fun _ => some (mkB [eD d])) (fun k => ?_) (Ev.now _)
  simp only [spec_l1Num.f]
  rw [if_pos (by omega), w64 (by omega) (by omega), show (48 + (d : Int)) % 256 = ((48 + d : Nat) : Int) by omega]
  rfl
theorem change_ev {b : UInt8} (hb : digB b = true) {d : Nat} (hd : d < 10) : Ev (fun k => spec_nuChange.f k (((b.toNat : Int) - 48) % 256) (d : Int)) (ad b (eD d), ad (eD d) b) := by
  have h := (ad_at hb (eD_dig hd)).2.2.2
  rw [eD_nat hd, show 48 + d - 48 = d by omega] at h
  rw [(dig_num hb).1]
  exact Ev.of (fun k => spec_nuChange.mono _ _ k) h
def okD (b : UInt8) (d : Nat) : Bool := decide (ad b (eD d) ≤ 1) && decide (ad (eD d) b ≤ 1) && !decide (ad b (eD d) + ad (eD d) b = 0)
def gD (nums : List (List UInt8)) (i : Nat) (p : List UInt8) (j : Nat) (b : UInt8) (n d : Nat) : List (List (List UInt8)) := ((List.range' d n).filter (okD b)).map fun d => nums.set i (p.set j (eD d))
def gK (nums : List (List UInt8)) (i : Nat) (p : List UInt8) : List UInt8 → Nat → List (List (List UInt8))
  | [], _ => []
  | b :: bs, j => gD nums i p j b 10 0 ++ gK nums i p bs (j + 1)
def gI (nums : List (List UInt8)) : List (List UInt8) → Nat → List (List (List UInt8))
  | [], _ => []
  | p :: ps, i => gK nums i p p 0 ++ gI nums ps (i + 1)
def oneL (nums : List (List UInt8)) : List (List (List UInt8)) := gI nums nums 0
def toS (pl : Bool) (nums : List (List UInt8)) : S31 := ⟨nums.map mkB, pl⟩
theorem gD_len (nums : List (List UInt8)) (i : Nat) (p : List UInt8) (j : Nat) (b : UInt8) (n d : Nat) : (gD nums i p j b n d).length ≤ n := by
  unfold gD
  rw [List.length_map]
  refine Nat.le_trans (List.length_filter_le _ _) ?_
  simp
theorem gK_len (nums : List (List UInt8)) (i : Nat) (p : List UInt8) : ∀ (bs : List UInt8) (j : Nat), (gK nums i p bs j).length ≤ 10 * bs.length
  | [], _ => by simp [gK]
  | b :: bs, j => by
    have := gK_len nums i p bs (j + 1)
    have := gD_len nums i p j b 10 0
    simp only [gK, List.length_append, List.length_cons]
    omega
theorem gI_len (nums : List (List UInt8)) : ∀ (ps : List (List UInt8)) (i : Nat), (∀ p ∈ ps, p.length ≤ 3) → (gI nums ps i).length ≤ 30 * ps.length
  | [], _, _ => by simp [gI]
  | p :: ps, i, h => by
    have h1 := gI_len nums ps (i + 1) (fun q hq => h q (by simp [hq]))
    have h2 := gK_len nums i p p 0
    have h3 := h p (by simp)
    simp only [gI, List.length_append, List.length_cons]
    omega
theorem oneD_ev (nums : List (List UInt8)) (pl : Bool) (i : Nat) (p : List UInt8) (j : Nat) (hj : j < p.length) (b : UInt8) (hb : digB b = true) (hp : p.length ≤ 3) : ∀ (n d : Nat) (acc : List S31), d + n ≤ 10 → acc.length + n ≤ 90000 →
    Ev (fun k => oneD k (nums.map mkB) pl i (mkB p) j (((b.toNat : Int) - 48) % 256) n (d : Int) acc) (acc ++ (gD nums i p j b n d).map (toS pl))
  | 0, d, acc, _, _ => Ev.const (by simp [oneD, gD])
  | n + 1, d, acc, hd, ha => by
    have hc := change_ev hb (show d < 10 by omega)
    have hpos := ad_at hb (eD_dig (show d < 10 by omega))
    have hpos2 := ad_at (eD_dig (show d < 10 by omega)) hb
    simp only [oneD]
    refine Ev.bind hc ?_
    have hg : gD nums i p j b (n + 1) d = (if okD b d = true then [nums.set i (p.set j (eD d))] else []) ++ gD nums i p j b n (d + 1) := by
      unfold gD
      rw [List.range'_succ, List.filter_cons]
      split <;> simp
    rw [hg]
    by_cases hok : okD b d = true
    · rw [if_pos hok]
      unfold okD at hok
      simp only [Bool.and_eq_true, decide_eq_true_eq, Bool.not_eq_true', decide_eq_false_iff_not] at hok
      have ih := oneD_ev nums pl i p j hj b hb hp n (d + 1) (acc ++ [toS pl (nums.set i (p.set j (eD d)))]) (by omega) (by simp; omega)
      refine Ev.congr (fun k => if_neg (by simp only []; rw [w64 (by omega) (by omega)]; omega)) (Ev.bind (l1Num_ev d (by omega)) ?_)
      refine Ev.congr (fun k => if_pos ⟨by omega, by rw [mkB_size]; simp⟩) ?_
      have e : (⟨(nums.map mkB).set i ((mkB p).extract 0 j ++ mkB [eD d] ++ (mkB p).extract (j + 1) (mkB p).size), pl⟩ : S31) = toS pl (nums.set i (p.set j (eD d))) := by
        unfold toS
        rw [ex_mkB, ex_mkB, mkB_data, mkB_size, mkB_app, mkB_app, List.take_length, List.drop_zero, List.map_set]
        congr 3
        rw [List.set_eq_take_append_cons_drop, if_pos hj]
        simp
      rw [e]
      rw [List.append_assoc] at ih
      exact ih
    · rw [if_neg hok]
      have ih := oneD_ev nums pl i p j hj b hb hp n (d + 1) acc (by omega) (by omega)
      unfold okD at hok
      simp only [Bool.and_eq_true, decide_eq_true_eq, Bool.not_eq_true', decide_eq_false_iff_not] at hok
      refine Ev.congr (fun k => if_pos (by simp only []; rw [w64 (by omega) (by omega)]; omega)) ?_
      exact ih
theorem oneK_ev (nums : List (List UInt8)) (pl : Bool) (i : Nat) (p : List UInt8) (hp : p.length ≤ 3) : ∀ (bs : List UInt8) (j : Nat) (acc : List S31), j + bs.length = p.length → (∀ b ∈ bs, digB b = true) → acc.length + 10 * bs.length ≤ 90000 →
    Ev (fun k => oneK k (nums.map mkB) pl i (mkB p) bs j acc) (acc ++ (gK nums i p bs j).map (toS pl))
  | [], _, acc, _, _, _ => Ev.const (by simp [oneK, gK])
  | b :: bs, j, acc, hl, hd, ha => by
    simp only [List.length_cons] at hl ha
    have hb := hd b (by simp)
    have hb2 := digB_iff.1 hb
    have h1 := oneD_ev nums pl i p j (by omega) b hb hp 10 0 acc (by omega) (by omega)
    have hgl := gD_len nums i p j b 10 0
    have ih := oneK_ev nums pl i p hp bs (j + 1) (acc ++ (gD nums i p j b 10 0).map (toS pl)) (by omega) (fun c hc => hd c (by simp [hc])) (by rw [List.length_append, List.length_map]; omega)
    simp only [oneK, gK, List.map_append]
    refine Ev.congr (fun k => if_pos (by omega)) (Ev.bind h1 ?_)
    rw [← List.append_assoc]
    exact ih
theorem oneI_ev (nums : List (List UInt8)) (pl : Bool) : ∀ (ps : List (List UInt8)) (i : Nat) (acc : List S31), (∀ p ∈ ps, numL p = true) → acc.length + 30 * ps.length ≤ 90000 →
    Ev (fun k => oneI k (nums.map mkB) pl (ps.map mkB) i acc) (acc ++ (gI nums ps i).map (toS pl))
  | [], _, acc, _, _ => Ev.const (by simp [oneI, gI])
  | p :: ps, i, acc, hn, ha => by
    simp only [List.length_cons] at ha
    have hp := numL_digs (hn p (by simp))
    have h1 := oneK_ev nums pl i p hp.2 p 0 acc (by omega) hp.1 (by omega)
    have hgl := gK_len nums i p p 0
    have ih := oneI_ev nums pl ps (i + 1) (acc ++ (gK nums i p p 0).map (toS pl)) (fun q hq => hn q (by simp [hq])) (by rw [List.length_append, List.length_map]; omega)
    simp only [oneI, gI, List.map_cons, List.map_append]
    refine Ev.congr (fun k => if_pos (by rw [mkB_size]; omega)) (Ev.bind (by rw [mkB_data]; exact h1) ?_)
    rw [← List.append_assoc]
    exact ih
theorem nuOne_ev (nums : List (List UInt8)) (pl : Bool) (hl : nums.length = 3) (hn : ∀ p ∈ nums, numL p = true) : Ev (fun k => spec_nuOne.f k (nums.map mkB) pl) ((oneL nums).map (toS pl)) := by
  have h := oneI_ev nums pl nums 0 [] hn (by simp; omega)
  unfold spec_nuOne.f
  exact Ev.congr (fun k => if_pos (by simp; omega)) (by rw [List.nil_append] at h; exact h)
/-! which ones -/
def lkB (x y : UInt8) : Prop := digB x = true ∧ digB y = true
def one1 (b e : UInt8) : Prop := digB b = true ∧ digB e = true ∧ ad b e ≤ 1 ∧ ad e b ≤ 1 ∧ ad b e + ad e b ≠ 0
theorem mem_gD {nums : List (List UInt8)} {i : Nat} {p : List UInt8} {j : Nat} {b : UInt8} {y : List (List UInt8)} : y ∈ gD nums i p j b 10 0 ↔ ∃ d, d < 10 ∧ okD b d = true ∧ y = nums.set i (p.set j (eD d)) := by
  unfold gD
  simp only [List.mem_map, List.mem_filter, List.mem_range'_1]
  constructor
  · rintro ⟨d, ⟨h1, h2⟩, rfl⟩
    exact ⟨d, by omega, h2, rfl⟩
  · rintro ⟨d, h1, h2, rfl⟩
    exact ⟨d, ⟨⟨by omega, by omega⟩, h2⟩, rfl⟩
theorem mem_gK {nums : List (List UInt8)} {i : Nat} {p : List UInt8} {y : List (List UInt8)} : ∀ (bs : List UInt8) (j : Nat), y ∈ gK nums i p bs j ↔ ∃ m, ∃ h : m < bs.length, y ∈ gD nums i p (j + m) bs[m] 10 0
  | [], j => by simp [gK]
  | b :: bs, j => by
    simp only [gK, List.mem_append, mem_gK bs (j + 1)]
    constructor
    · rintro (h | ⟨m, hm, h⟩)
      · exact ⟨0, by simp, h⟩
      · exact ⟨m + 1, by simpa using hm, by rw [show j + (m + 1) = j + 1 + m by omega]; exact h⟩
    · rintro ⟨m, hm, h⟩
      cases m with
      | zero => exact .inl h
      | succ m => exact .inr ⟨m, by simpa using hm, by rw [show j + 1 + m = j + (m + 1) by omega]; exact h⟩
theorem mem_gI {nums : List (List UInt8)} {y : List (List UInt8)} : ∀ (ps : List (List UInt8)) (i : Nat), y ∈ gI nums ps i ↔ ∃ m, ∃ h : m < ps.length, y ∈ gK nums (i + m) ps[m] ps[m] 0
  | [], i => by simp [gI]
  | p :: ps, i => by
    simp only [gI, List.mem_append, mem_gI ps (i + 1)]
    constructor
    · rintro (h | ⟨m, hm, h⟩)
      · exact ⟨0, by simp, h⟩
      · exact ⟨m + 1, by simpa using hm, by rw [show i + (m + 1) = i + 1 + m by omega]; exact h⟩
    · rintro ⟨m, hm, h⟩
      cases m with
      | zero => exact .inl h
      | succ m => exact .inr ⟨m, by simpa using hm, by rw [show i + 1 + m = i + (m + 1) by omega]; exact h⟩
theorem mem_oneL {nums y : List (List UInt8)} : y ∈ oneL nums ↔ ∃ i, ∃ hi : i < nums.length, ∃ j, ∃ hj : j < nums[i].length, ∃ d, d < 10 ∧ okD nums[i][j] d = true ∧ y = nums.set i (nums[i].set j (eD d)) := by
  unfold oneL
  rw [mem_gI]
  simp only [mem_gK, mem_gD, Nat.zero_add]
theorem likeG_set {α : Type} {p : α → α → Prop} : ∀ (l : List α) (i : Nat) (q : α), (∀ x ∈ l, p x x) → (∀ h : i < l.length, p l[i] q) → likeG p l (l.set i q)
  | [], _, _, _, _ => trivial
  | x :: l, 0, q, h, hq => ⟨hq (by simp), by
      have : ∀ m : List α, (∀ x ∈ m, p x x) → likeG p m m := fun m => by
        induction m with
        | nil => exact fun _ => trivial
        | cons a m ih => exact fun h => ⟨h a (by simp), ih (fun b hb => h b (by simp [hb]))⟩
      exact this l (fun y hy => h y (by simp [hy]))⟩
  | x :: l, i + 1, q, h, hq => ⟨h x (by simp), likeG_set l i q (fun y hy => h y (by simp [hy])) (fun hi => hq (by simpa using hi))⟩
theorem likeG_refl {α : Type} {p : α → α → Prop} : ∀ m : List α, (∀ x ∈ m, p x x) → likeG p m m
  | [], _ => trivial
  | a :: m, h => ⟨h a (by simp), likeG_refl m (fun b hb => h b (by simp [hb]))⟩
theorem likeG_trans {α : Type} {p : α → α → Prop} (tr : ∀ x y z, p x y → p y z → p x z) : ∀ a b c : List α, likeG p a b → likeG p b c → likeG p a c
  | [], [], [], _, _ => trivial
  | [], [], _ :: _, _, h => h.elim
  | [], _ :: _, _, h, _ => h.elim
  | _ :: _, [], _, h, _ => h.elim
  | _ :: _, _ :: _, [], _, h => h.elim
  | x :: a, y :: b, z :: c, h, k => ⟨tr x y z h.1 k.1, likeG_trans tr a b c h.2 k.2⟩
theorem likeG_len {α : Type} {p : α → α → Prop} : ∀ a b : List α, likeG p a b → a.length = b.length
  | [], [], _ => rfl
  | [], _ :: _, h => h.elim
  | _ :: _, [], h => h.elim
  | _ :: a, _ :: b, h => by rw [List.length_cons, List.length_cons, likeG_len a b h.2]
/-- Numerals of the same form. -/
def lkN : List (List UInt8) → List (List UInt8) → Prop := likeG (likeG lkB)
theorem lk_digs : ∀ a b : List UInt8, likeG lkB a b → ∀ y ∈ b, digB y = true
  | [], [], _, y, h => by cases h
  | [], _ :: _, h, _, _ => h.elim
  | _ :: _, [], h, _, _ => h.elim
  | _ :: a, c :: b, h, y, hy => by
    rcases List.mem_cons.1 hy with rfl | hy
    · exact h.1.2
    · exact lk_digs a b h.2 y hy
theorem lk_num {a b : List UInt8} (h : likeG lkB a b) (ha : numL a = true) : numL b = true := by
  have hd := lk_digs a b h
  have hl := likeG_len a b h
  unfold numL at ha ⊢
  rw [Bool.and_eq_true] at ha ⊢
  exact ⟨by rw [← hl]; exact ha.1, List.all_eq_true.2 hd⟩
theorem lkN_num : ∀ nums y : List (List UInt8), lkN nums y → (∀ p ∈ nums, numL p = true) → ∀ q ∈ y, numL q = true
  | [], [], _, _, q, h => by cases h
  | [], _ :: _, h, _, _, _ => h.elim
  | _ :: _, [], h, _, _, _ => h.elim
  | a :: nums, b :: y, h, hn, q, hq => by
    rcases List.mem_cons.1 hq with rfl | hq
    · exact lk_num h.1 (hn a (by simp))
    · exact lkN_num nums y h.2 (fun p hp => hn p (by simp [hp])) q hq
theorem lkN_refl {nums : List (List UInt8)} (hn : ∀ p ∈ nums, numL p = true) : lkN nums nums := likeG_refl _ (fun p hp => likeG_refl _ (fun b hb => ⟨(numL_digs (hn p hp)).1 b hb, (numL_digs (hn p hp)).1 b hb⟩))
theorem lkN_trans {a b c : List (List UInt8)} (h : lkN a b) (k : lkN b c) : lkN a c := likeG_trans (fun x y z => likeG_trans (fun _ _ _ h k => ⟨h.1, k.2⟩) x y z) a b c h k
theorem oneL_like {nums y : List (List UInt8)} (hn : ∀ p ∈ nums, numL p = true) (h : y ∈ oneL nums) : lkN nums y := by
  obtain ⟨i, hi, j, hj, d, hd, _, rfl⟩ := mem_oneL.1 h
  have hg : ∀ p ∈ nums, ∀ b ∈ p, lkB b b := fun p hp b hb => ⟨(numL_digs (hn p hp)).1 b hb, (numL_digs (hn p hp)).1 b hb⟩
  refine likeG_set nums i _ (fun p hp => likeG_refl p (hg p hp)) (fun _ => ?_)
  exact likeG_set _ j _ (hg _ (List.getElem_mem hi)) (fun _ => ⟨(hg _ (List.getElem_mem hi) _ (List.getElem_mem hj)).1, eD_dig hd⟩)
theorem oneL_of {nums y : List (List UInt8)} (h : oneG (oneG one1) nums y) : y ∈ oneL nums := by
  obtain ⟨P, x, x', R, rfl, rfl, p, b, e, r, rfl, rfl, h1, h2, h3, h4, h5⟩ := h
  rw [mem_oneL]
  have he := digB_iff.1 h2
  refine ⟨P.length, by simp, p.length, by simp, e.toNat - 48, by omega, ?_, ?_⟩
  · have : okD b (e.toNat - 48) = true := by
      unfold okD
      rw [eD_of h2]
      simp [h3, h4, h5]
    simpa using this
  · rw [eD_of h2]
    simp
theorem ad_inj_all : ((List.range 10).all fun d => (List.range 10).all fun e => decide (d = e) || !decide (ad (eD d) (eD e) = 0) || !decide (ad (eD e) (eD d) = 0)) = true := by decide +kernel
theorem ad_inj {x y : UInt8} (hx : digB x = true) (hy : digB y = true) (h1 : ad x y = 0) (h2 : ad y x = 0) : x = y := by
  have H := ad_inj_all
  simp only [List.all_eq_true, List.mem_range] at H
  have hx2 := digB_iff.1 hx
  have hy2 := digB_iff.1 hy
  have H := H (x.toNat - 48) (by omega) (y.toNat - 48) (by omega)
  rw [eD_of hx, eD_of hy] at H
  simp [h1, h2] at H
  exact UInt8.toNat_inj.1 (by omega)
theorem stepsB : Steps lkB ad (fun x y => ad y x) one1 := by
  refine ⟨fun x y h => ⟨(ad_at h.1 h.2).2.1, (ad_at h.2 h.1).2.1⟩, fun x y h => ad_inj h.1 h.2, fun x y h h1 => ?_, fun x y h h1 h2 => ?_⟩
  · by_cases hxy : x = y
    · exact .inl hxy
    · have p1 := (ad_at h.1 h.2).2.1
      have p2 := (ad_at h.2 h.1).2.1
      refine .inr ⟨h.1, h.2, by omega, by omega, fun e => hxy (ad_inj h.1 h.2 (by omega) (by omega))⟩
  · by_cases hxy : x = y
    · exact .inl hxy
    · have p1 := (ad_at h.1 h.2).2.1
      have p2 := (ad_at h.2 h.1).2.1
      exact .inr (.inl ⟨h.1, h.2, h1, h2, fun e => hxy (ad_inj h.1 h.2 (by omega) (by omega))⟩)
theorem stepsN : Steps lkN (sumG (sumG ad)) (sumG (sumG fun x y => ad y x)) (oneG (oneG one1)) := stepsB.list.list
theorem sumP_G (f : UInt8 → UInt8 → Int) : ∀ a b : List UInt8, sumP f a b = sumG f a b
  | [], [] => rfl
  | [], _ :: _ => rfl
  | _ :: _, [] => rfl
  | x :: a, y :: b => by
    show f x y + sumP f a b = f x y + sumG f a b
    rw [sumP_G f a b]
theorem sum_flat (f : UInt8 → UInt8 → Int) : ∀ nums y : List (List UInt8), lkN nums y → sumP f nums.flatten y.flatten = sumG (sumG f) nums y
  | [], [], _ => rfl
  | [], _ :: _, h => h.elim
  | _ :: _, [], h => h.elim
  | a :: nums, b :: y, h => by
    rw [List.flatten_cons, List.flatten_cons, sumP_app f _ _ a b (likeG_len a b h.1), sum_flat f nums y h.2, sumP_G]
    rfl
theorem same_len : ∀ nums y : List (List UInt8), lkN nums y → sameLen nums y = true
  | [], [], _ => rfl
  | [], _ :: _, h => h.elim
  | _ :: _, [], h => h.elim
  | a :: nums, b :: y, h => by
    simp only [sameLen, Bool.and_eq_true, decide_eq_true_eq]
    exact ⟨likeG_len a b h.1, same_len nums y h.2⟩

/-! ### all equations near one -/
def sgB : List UInt8 := [43, 45]
def toQ (q : UInt8 × List (List UInt8)) : S31 := toS (decide (q.1 = 43)) q.2
def near1 (nums : List (List UInt8)) (c : UInt8) : List (UInt8 × List (List UInt8)) := (c, nums) :: ((oneL nums).map (fun z => (c, z)) ++ ((oneL nums).flatMap oneL).map fun z => (c, z))
def nearL (nums : List (List UInt8)) : List (UInt8 × List (List UInt8)) := near1 nums 43 ++ near1 nums 45
theorem oneL_len {nums : List (List UInt8)} (hl : nums.length = 3) (hn : ∀ p ∈ nums, numL p = true) : (oneL nums).length ≤ 90 := by
  have := gI_len nums nums 0 (fun p hp => (numL_digs (hn p hp)).2)
  unfold oneL
  omega
theorem oneL_form {nums z : List (List UInt8)} (hl : nums.length = 3) (hn : ∀ p ∈ nums, numL p = true) (hz : z ∈ oneL nums) : z.length = 3 ∧ (∀ p ∈ z, numL p = true) ∧ lkN nums z := by
  have h := oneL_like hn hz
  exact ⟨by rw [← likeG_len nums z h]; exact hl, lkN_num nums z h hn, h⟩
theorem flat_len (l : List (List (List UInt8))) (h : ∀ z ∈ l, (oneL z).length ≤ 90) : (l.flatMap oneL).length ≤ 90 * l.length := by
  induction l with
  | nil => simp
  | cons a l ih =>
    have h1 := h a (by simp)
    have h2 := ih (fun z hz => h z (by simp [hz]))
    rw [List.flatMap_cons, List.length_append, List.length_cons]
    omega
theorem nearL_len {nums : List (List UInt8)} (hl : nums.length = 3) (hn : ∀ p ∈ nums, numL p = true) : (nearL nums).length ≤ 20000 := by
  have h1 := oneL_len hl hn
  have h2 := flat_len (oneL nums) (fun z hz => oneL_len (oneL_form hl hn hz).1 (oneL_form hl hn hz).2.1)
  simp only [nearL, near1, List.length_append, List.length_cons, List.length_map]
  omega
theorem near_inner (nums : List (List UInt8)) (hl : nums.length = 3) (hn : ∀ p ∈ nums, numL p = true) (x12 : Int) (l0 : List ByteArray) (pb pl : Bool) (r : List S31) :
    ∀ (d i : Nat) (acc : List S31), i + d = (oneL nums).length → acc.length + 90 * d ≤ 100000 →
      Ev (fun k => spec_nuNear.l0 k (acc ++ (((oneL nums).drop i).flatMap oneL).map (toS pl)) [true, false] 2 (wrap64 (x12 + 1)) l0 pb) r →
      Ev (fun k => spec_nuNear.l1 k acc [true, false] 2 x12 ((oneL nums).map (toS pl)) ((oneL nums).length : Int) (i : Int) l0 pb) r := by
  intro d
  induction d with
  | zero =>
    intro i acc hi ha h
    rw [List.drop_of_length_le (by omega)] at h
    refine Ev.step (fun k => ?_) (by simpa using h)
    simp only [spec_nuNear.l1]
    rw [if_neg (by omega)]
  | succ d ih =>
    intro i acc hi ha h
    have hlt : i < (oneL nums).length := by omega
    have hz := oneL_form hl hn (List.getElem_mem hlt)
    have hlen := oneL_len hl hn
    have hzl := oneL_len hz.1 hz.2.1
    rw [List.drop_eq_getElem_cons hlt, List.flatMap_cons, List.map_append, ← List.append_assoc] at h
    have h9 := ih (i + 1) (acc ++ (oneL (oneL nums)[i]).map (toS pl)) (by omega) (by rw [List.length_append, List.length_map]; omega) h
    have h1 := nuOne_ev (oneL nums)[i] pl hz.1 hz.2.1
    have hrd : rd_T31 ((oneL nums).map (toS pl)) (i : Int) = toS pl (oneL nums)[i] := by
      unfold rd_T31
      rw [Int.toNat_natCast, List.getD_eq_getElem?_getD, List.getElem?_map, List.getElem?_eq_getElem hlt]
      rfl
    refine Ev.step (f := fun k => (spec_nuOne.f k ((oneL nums)[i].map mkB) pl).bind fun t199 => if acc.length + t199.length < 4398046511104 then spec_nuNear.l1 k (acc ++ t199) [true, false] 2 x12 ((oneL nums).map (toS pl)) ((oneL nums).length : Int) ((i + 1 : Nat) : Int) l0 pb else none) (fun k => ?_) (Ev.bind h1 ?_)
    · simp only [spec_nuNear.l1]
      rw [if_pos (by omega), if_pos (by omega), if_pos (by rw [List.length_map]; omega), hrd, w64 (n := (i : Int) + 1) (by omega) (by omega)]
      rfl
    · exact Ev.congr (fun k => if_pos (by rw [List.length_map]; omega)) h9
theorem near_outer (nums : List (List UInt8)) (hl : nums.length = 3) (hn : ∀ p ∈ nums, numL p = true) (i : Nat) (c : UInt8) (hc : rdOf false [true, false] (i : Int) = decide (c = 43)) (hi : i < 2) (pb : Bool) (acc r : List S31) (ha : acc.length ≤ 20000)
    (h : Ev (fun k => spec_nuNear.l0 k (acc ++ (near1 nums c).map toQ) [true, false] 2 ((i + 1 : Nat) : Int) (nums.map mkB) pb) r) : Ev (fun k => spec_nuNear.l0 k acc [true, false] 2 (i : Int) (nums.map mkB) pb) r := by
  have hlen := oneL_len hl hn
  have h1 := nuOne_ev nums (decide (c = 43)) hl hn
  have h2 := near_inner nums hl hn (i : Int) (nums.map mkB) pb (decide (c = 43)) r (oneL nums).length 0 (acc ++ [toS (decide (c = 43)) nums] ++ (oneL nums).map (toS (decide (c = 43)))) (by omega) (by simp only [List.length_append, List.length_map, List.length_singleton]; omega) (by
    rw [w64 (by omega) (by omega)]
    have e : acc ++ [toS (decide (c = 43)) nums] ++ (oneL nums).map (toS (decide (c = 43))) ++ (((oneL nums).drop 0).flatMap oneL).map (toS (decide (c = 43))) = acc ++ (near1 nums c).map toQ := by
      simp [near1, toQ, List.map_map, Function.comp_def]
    rw [e]
    exact h)
  refine Ev.step (f := fun k => (spec_nuOne.f k (nums.map mkB) (decide (c = 43))).bind fun t191 => if (acc ++ [toS (decide (c = 43)) nums]).length + t191.length < 4398046511104 then spec_nuNear.l1 k (acc ++ [toS (decide (c = 43)) nums] ++ t191) [true, false] 2 (i : Int) t191 (t191.length : Int) 0 (nums.map mkB) pb else none) (fun k => ?_) (Ev.bind h1 ?_)
  · simp only [spec_nuNear.l0]
    rw [if_pos (by omega), if_pos (by omega), if_pos (by simp; omega), if_pos (by omega), hc]
    rfl
  · rw [List.length_map]
    exact Ev.congr (fun k => if_pos (by simp only [List.length_append, List.length_singleton]; omega)) h2
theorem near_ev (nums : List (List UInt8)) (hl : nums.length = 3) (hn : ∀ p ∈ nums, numL p = true) (pb : Bool) : Ev (fun k => spec_nuNear.f k (nums.map mkB) pb) ((nearL nums).map toQ) := by
  have hlen := nearL_len hl hn
  have hl1 : (near1 nums 43).length ≤ 20000 := by
    have : (near1 nums 43).length ≤ (nearL nums).length := by simp [nearL]
    omega
  have fin : Ev (fun k => spec_nuNear.l0 k ((nearL nums).map toQ) [true, false] 2 ((2 : Nat) : Int) (nums.map mkB) pb) ((nearL nums).map toQ) := Ev.step (f := fun _ => some ((nearL nums).map toQ)) (fun k => by simp only [spec_nuNear.l0]; rw [if_neg (by omega)]) (Ev.now _)
  have h := near_outer nums hl hn 0 43 rfl (by omega) pb [] _ (by simp) (near_outer nums hl hn 1 45 rfl (by omega) pb ([] ++ (near1 nums 43).map toQ) ((nearL nums).map toQ) (by simpa using hl1) (by
    have e : [] ++ (near1 nums 43).map toQ ++ (near1 nums 45).map toQ = (nearL nums).map toQ := by simp [nearL]
    rw [e]
    exact fin))
  unfold spec_nuNear.f
  exact h
/-- Which equations are near. -/
theorem mem_near {nums : List (List UInt8)} {c : UInt8} {y : List (List UInt8)} (hc : c = 43 ∨ c = 45) : (c, y) ∈ nearL nums ↔ y = nums ∨ y ∈ oneL nums ∨ ∃ z, z ∈ oneL nums ∧ y ∈ oneL z := by
  rcases hc with rfl | rfl <;> simp [nearL, near1, List.mem_flatMap]
theorem near_sign {nums : List (List UInt8)} {q : UInt8 × List (List UInt8)} (h : q ∈ nearL nums) : q.1 = 43 ∨ q.1 = 45 := by
  rcases List.mem_append.1 h with h | h
  · left
    simp only [near1, List.mem_cons, List.mem_append, List.mem_map] at h
    rcases h with rfl | ⟨_, _, rfl⟩ | ⟨_, _, rfl⟩ <;> rfl
  · right
    simp only [near1, List.mem_cons, List.mem_append, List.mem_map] at h
    rcases h with rfl | ⟨_, _, rfl⟩ | ⟨_, _, rfl⟩ <;> rfl
theorem near_like {nums : List (List UInt8)} (hl : nums.length = 3) (hn : ∀ p ∈ nums, numL p = true) {q : UInt8 × List (List UInt8)} (h : q ∈ nearL nums) : lkN nums q.2 := by
  obtain ⟨c, y⟩ := q
  rcases (mem_near (near_sign h)).1 h with rfl | h | ⟨z, hz, h⟩
  · exact lkN_refl hn
  · exact oneL_like hn h
  · have hzf := oneL_form hl hn hz
    exact lkN_trans hzf.2.2 (oneL_like hzf.2.1 h)
/-- Every equation of the form with one match added at most, and one taken, is near. -/
theorem near_of {nums y : List (List UInt8)} {c' : UInt8} (hc : c' = 43 ∨ c' = 45) (hy : lkN nums y) (h1 : sumG (sumG ad) nums y ≤ 1) (h2 : sumG (sumG fun x y => ad y x) nums y ≤ 1) : (c', y) ∈ nearL nums := by
  rw [mem_near hc]
  rcases stepsN.twice nums y hy h1 h2 with h | h | ⟨z, h3, h4⟩
  · exact .inl h.symm
  · exact .inr (.inl (oneL_of h))
  · exact .inr (.inr ⟨z, oneL_of h3, oneL_of h4⟩)
/-! ### the reference's list -/
def txtY (q : UInt8 × List (List UInt8)) : List UInt8 := (q.2.getD 0 [] ++ q.1 :: q.2.getD 1 []) ++ 61 :: q.2.getD 2 []
def truY (q : UInt8 × List (List UInt8)) : Bool := trueEq q.1 (q.2.getD 0 []) (q.2.getD 1 []) (q.2.getD 2 [])
def adY (c : UInt8) (nums : List (List UInt8)) (q : UInt8 × List (List UInt8)) : Int := ad c q.1 + sumG (sumG ad) nums q.2
def tkY (c : UInt8) (nums : List (List UInt8)) (q : UInt8 × List (List UInt8)) : Int := ad q.1 c + sumG (sumG fun x y => ad y x) nums q.2
def condY (c : UInt8) (nums : List (List UInt8)) (A T : Int) (is : Bool) (q : UInt8 × List (List UInt8)) : Prop := adY c nums q = A ∧ tkY c nums q = T ∧ truY q = is
theorem three {nums : List (List UInt8)} (h : nums.length = 3) : ∃ a b t, nums = [a, b, t] := by
  match nums, h with
  | [a, b, t], _ => exact ⟨a, b, t, rfl⟩
theorem moves_ev {nums : List (List UInt8)} (hl : nums.length = 3) (hn : ∀ p ∈ nums, numL p = true) {c : UInt8} (hc : c = 43 ∨ c = 45) {q : UInt8 × List (List UInt8)} (hq : q.1 = 43 ∨ q.1 = 45) (hy : lkN nums q.2) :
    Ev (fun k => spec_nuMoves.f k (nums.map mkB) (decide (c = 43)) (q.2.map mkB) (decide (q.1 = 43))) (adY c nums q, tkY c nums q, true) := by
  have sg := pair_sign hc hq
  have sg' := pair_sign hq hc
  have hyl := likeG_len _ _ hy
  have out := mvOut_ev nums q.2 (ad c q.1) (ad q.1 c) hyl hn (lkN_num _ _ hy hn)
    (by rw [sg.2]; split <;> (try split) <;> omega) (by rw [sg'.2]; split <;> (try split) <;> omega) (by rw [sg.2, hl]; split <;> (try split) <;> omega) (by rw [sg'.2, hl]; split <;> (try split) <;> omega)
  rw [if_pos (same_len _ _ hy), sum_flat ad _ _ hy, sum_flat (fun x y => ad y x) _ _ hy] at out
  unfold spec_nuMoves.f
  rw [← sg.2, ← sg'.2]
  exact out
theorem text_is {q : UInt8 × List (List UInt8)} (hl : q.2.length = 3) (hn : ∀ p ∈ q.2, numL p = true) (hq : q.1 = 43 ∨ q.1 = 45) : spec_nuText.f (q.2.map mkB) (decide (q.1 = 43)) = some (mkB (txtY q)) := by
  obtain ⟨c, y⟩ := q
  obtain ⟨a, b, t, rfl⟩ := three hl
  have ha := (numL_digs (hn a (by simp))).2
  have hb := (numL_digs (hn b (by simp))).2
  have ht := (numL_digs (hn t (by simp))).2
  unfold spec_nuText.f
  have r0 : rdOf ByteArray.empty ([a, b, t].map mkB) 0 = mkB a := rfl
  have r1 : rdOf ByteArray.empty ([a, b, t].map mkB) 1 = mkB b := rfl
  have r2 : rdOf ByteArray.empty ([a, b, t].map mkB) 2 = mkB t := rfl
  show (if ([a, b, t].map mkB).length = 3 ∧ (rdOf ByteArray.empty ([a, b, t].map mkB) 0).size ≤ 1000 ∧ (rdOf ByteArray.empty ([a, b, t].map mkB) 1).size ≤ 1000 ∧ (rdOf ByteArray.empty ([a, b, t].map mkB) 2).size ≤ 1000 then some (textL ([a, b, t].map mkB) (decide (c = 43))) else none) = _
  rw [if_pos ⟨rfl, by rw [r0, mkB_size]; omega, by rw [r1, mkB_size]; omega, by rw [r2, mkB_size]; omega⟩]
  congr 1
  unfold textL
  rw [r0, r1, r2]
  have e1 : (⟨#[61]⟩ : ByteArray) = mkB [61] := rfl
  have e2 : (if decide (c = 43) = true then (⟨#[43]⟩ : ByteArray) else (⟨#[45]⟩ : ByteArray)) = mkB [c] := by
    rcases hq with hq | hq
    · have : c = 43 := hq
      subst this; rfl
    · have : c = 45 := hq
      subst this; rfl
  rw [e1, e2, mkB_app, mkB_app, mkB_app, mkB_app]
  simp [txtY]
theorem true_ev {q : UInt8 × List (List UInt8)} (hl : q.2.length = 3) (hn : ∀ p ∈ q.2, numL p = true) : Ev (fun k => spec_nuTrue.f k (q.2.map mkB) (decide (q.1 = 43))) (truY q) := by
  obtain ⟨c, y⟩ := q
  obtain ⟨a, b, t, rfl⟩ := three hl
  exact nuTrue_ev c a b t (hn a (by simp)) (hn b (by simp)) (hn t (by simp))
theorem rd_mk (outs : List (List UInt8)) (i : Nat) (h : i < outs.length) : rdOf ByteArray.empty (outs.map mkB) (i : Int) = mkB outs[i] := by
  unfold rdOf
  rw [Int.toNat_natCast, List.getD_eq_getElem?_getD, List.getElem?_map, List.getElem?_eq_getElem h]
  rfl
theorem has_ev (outs : List (List UInt8)) (t : List UInt8) (hl : outs.length ≤ 100000) : ∃ b, Ev (fun k => spec_l1HasS.f k (outs.map mkB) (mkB t)) b ∧ (b = true ↔ t ∈ outs) := by
  have key : ∀ (d i : Nat), i + d = outs.length → ∃ b, Ev (fun k => spec_l1HasS.l0 k (mkB t) (outs.map mkB) (outs.length : Int) (i : Int)) b ∧ (b = true ↔ t ∈ outs.drop i) := by
    intro d
    induction d with
    | zero =>
      intro i hi
      refine ⟨false, Ev.step (f := fun _ => some false) (fun k => ?_) (Ev.now _), ?_⟩
      · simp only [spec_l1HasS.l0]
        rw [if_neg (by omega)]
      · rw [List.drop_of_length_le (by omega)]
        simp
    | succ d ih =>
      intro i hi
      have hlt : i < outs.length := by omega
      rw [List.drop_eq_getElem_cons hlt]
      by_cases he : outs[i] = t
      · refine ⟨true, Ev.step (f := fun _ => some true) (fun k => ?_) (Ev.now _), by simp [he]⟩
        simp only [spec_l1HasS.l0]
        rw [if_pos (by omega), if_pos (by omega), if_pos (by rw [List.length_map]; omega), rd_mk outs i hlt, mkB_toList, mkB_toList, if_pos he]
      · obtain ⟨b, h1, h2⟩ := ih (i + 1) (by omega)
        refine ⟨b, Ev.step (fun k => ?_) h1, ?_⟩
        · simp only [spec_l1HasS.l0]
          rw [if_pos (by omega), if_pos (by omega), if_pos (by rw [List.length_map]; omega), rd_mk outs i hlt, mkB_toList, mkB_toList, if_neg he, w64 (by omega) (by omega)]
          rfl
        · rw [h2, List.mem_cons]
          constructor
          · exact .inr
          · rintro (h | h)
            · exact absurd h.symm he
            · exact h
  obtain ⟨b, h1, h2⟩ := key outs.length 0 (by omega)
  refine ⟨b, ?_, by simpa using h2⟩
  unfold spec_l1HasS.f
  rw [List.length_map]
  exact h1

/-- Where a text is laid in: scanning from behind. -/
def insK (t : List UInt8) (out : List (List UInt8)) : Nat → Nat
  | 0 => 0
  | k + 1 => if Op.bytesLess t (out.getD k []) = true then insK t out k else k + 1
theorem insK_spec (t : List UInt8) (out : List (List UInt8)) : ∀ k, insK t out k ≤ k ∧ (∀ j, insK t out k ≤ j → j < k → Op.bytesLess t (out.getD j []) = true) ∧ (insK t out k = 0 ∨ ¬ Op.bytesLess t (out.getD (insK t out k - 1) []) = true)
  | 0 => ⟨Nat.le_refl _, fun j _ h => absurd h (Nat.not_lt_zero _), .inl rfl⟩
  | k + 1 => by
    obtain ⟨h1, h2, h3⟩ := insK_spec t out k
    simp only [insK]
    by_cases h : Op.bytesLess t (out.getD k []) = true
    · rw [if_pos h]
      refine ⟨by omega, fun j hj hk => ?_, h3⟩
      by_cases hjk : j = k
      · rw [hjk]; exact h
      · exact h2 j hj (by omega)
    · rw [if_neg h]
      exact ⟨Nat.le_refl _, fun j hj hk => by omega, .inr (by simpa using h)⟩
def insT (t : List UInt8) (out : List (List UInt8)) : List (List UInt8) := out.take (insK t out out.length) ++ t :: out.drop (insK t out out.length)
def lessP (x y : List UInt8) : Prop := Op.bytesLess x y = true
theorem insT_sorted (t : List UInt8) (out : List (List UInt8)) (h : out.Pairwise lessP) (hn : t ∉ out) : (insT t out).Pairwise lessP := by
  obtain ⟨h1, h2, h3⟩ := insK_spec t out out.length
  refine sorted_ins t out _ h (fun x hx => ?_) (fun x hx => ?_)
  · obtain ⟨j, hj, rfl⟩ := List.getElem_of_mem hx
    rw [List.length_take] at hj
    rw [List.getElem_take]
    have hjo : j < out.length := by omega
    rcases h3 with h3 | h3
    · omega
    · generalize hK : insK t out out.length = K at *
      have hk : K - 1 < out.length := by omega
      rw [List.getD_eq_getElem?_getD, List.getElem?_eq_getElem hk, Option.getD_some] at h3
      have hlast : lessP out[K - 1] t := by
        rcases less_total out[K - 1] t with h4 | h4 | h4
        · exact h4
        · exact absurd (h4 ▸ List.getElem_mem hk) hn
        · exact absurd h4 h3
      by_cases hjk : j = K - 1
      · subst hjk; exact hlast
      · exact less_trans _ _ _ (List.pairwise_iff_getElem.1 h j (K - 1) hjo hk (by omega)) hlast
  · obtain ⟨j, hj, rfl⟩ := List.getElem_of_mem hx
    rw [List.length_drop] at hj
    rw [List.getElem_drop]
    have h4 := h2 (insK t out out.length + j) (by omega) (by omega)
    rw [List.getD_eq_getElem?_getD, List.getElem?_eq_getElem (by omega), Option.getD_some] at h4
    exact h4
theorem insT_len (t : List UInt8) (out : List (List UInt8)) : (insT t out).length = out.length + 1 := by
  obtain ⟨h1, _, _⟩ := insK_spec t out out.length
  unfold insT
  rw [List.length_append, List.length_cons, List.length_take, List.length_drop]
  omega
theorem ins_ev (A T : Int) (is : Bool) (outs : List (List UInt8)) (t : List UInt8) (M : List S31) (x30 : Int) (i : Nat) (l0 : List ByteArray) (pb : Bool) (r : List ByteArray × Bool) (hl : outs.length ≤ 100000) (hi : i ≤ 100000)
    (h : Ev (fun k => spec_nuThose.l0 k A T is ((insT t outs).map mkB) M x30 ((i + 1 : Nat) : Int) l0 pb) r) : Ev (fun k => spec_nuThose.l1 k A T is (outs.map mkB) (mkB t) (outs.length : Int) M x30 (i : Int) l0 pb) r := by
  have fin : ∀ K, K ≤ outs.length → outs.take K ++ t :: outs.drop K = insT t outs → ∀ n, n ≤ outs.length → n = K → (n = 0 ∨ ¬ Op.bytesLess t (outs.getD (n - 1) []) = true) → Ev (fun k => spec_nuThose.l1 k A T is (outs.map mkB) (mkB t) (n : Int) M x30 (i : Int) l0 pb) r := by
    intro K hK hins n hn hnK h0
    subst hnK
    have e : ([] ++ (outs.map mkB).take n) ++ [mkB t] ++ (outs.map mkB).drop n = (insT t outs).map mkB := by
      rw [← hins]
      simp [List.map_take, List.map_drop]
    refine Ev.step (fun k => ?_) h
    have hw : wrap64 ((i : Int) + 1) = ((i + 1 : Nat) : Int) := by rw [w64 (by omega) (by omega)]; rfl
    have c1 : (0 : Int) ≤ (n : Int) := by omega
    have c2 : (n : Int) ≤ ((outs.map mkB).length : Int) := by rw [List.length_map]; omega
    have c3 : ([] : List ByteArray).length + ((outs.map mkB).take n).length < 8796093022208 := by simp; omega
    have c4 : ([] ++ (outs.map mkB).take n).length < 8796093022208 := by simp; omega
    have c5 : ([] ++ (outs.map mkB).take n ++ [mkB t]).length + ((outs.map mkB).drop n).length < 8796093022208 := by simp; omega
    by_cases hz : n = 0
    · subst hz
      simp only [spec_nuThose.l1]
      rw [if_neg (by omega)]
      simp only [Option.bind_some, Int.toNat_natCast]
      rw [if_pos c1, if_pos c2, if_pos c3, if_pos c4, if_pos c5, e, hw]
    · have h0' := h0.resolve_left hz
      have hn1 : n - 1 < outs.length := by omega
      have hwn : wrap64 ((n : Int) - 1) = ((n - 1 : Nat) : Int) := by rw [w64 (by omega) (by omega)]; omega
      rw [List.getD_eq_getElem?_getD, List.getElem?_eq_getElem hn1, Option.getD_some] at h0'
      simp only [spec_nuThose.l1]
      rw [if_pos (by omega), hwn, if_pos (by omega), if_pos (by rw [List.length_map]; omega), rd_mk outs (n - 1) hn1, mkB_toList, mkB_toList, if_neg h0']
      simp only [Option.bind_some, Int.toNat_natCast]
      rw [if_pos c1, if_pos c2, if_pos c3, if_pos c4, if_pos c5, e, hw]
  obtain ⟨k1, k2, k3⟩ := insK_spec t outs outs.length
  have step : ∀ d n, n ≤ outs.length → n = insK t outs outs.length + d → Ev (fun k => spec_nuThose.l1 k A T is (outs.map mkB) (mkB t) (n : Int) M x30 (i : Int) l0 pb) r := by
    intro d
    induction d with
    | zero => exact fun n hn hd => fin _ k1 rfl n hn (by omega) (by rw [show n = insK t outs outs.length by omega]; exact k3)
    | succ d ih =>
      intro n hn hd
      have hn1 : n - 1 < outs.length := by omega
      have h4 := k2 (n - 1) (by omega) (by omega)
      rw [List.getD_eq_getElem?_getD, List.getElem?_eq_getElem hn1, Option.getD_some] at h4
      have hwn : wrap64 ((n : Int) - 1) = ((n - 1 : Nat) : Int) := by rw [w64 (by omega) (by omega)]; omega
      refine Ev.step (fun k => ?_) (ih (n - 1) (by omega) (by omega))
      simp only [spec_nuThose.l1]
      rw [if_pos (by omega), hwn, if_pos (by omega), if_pos (by rw [List.length_map]; omega), rd_mk outs (n - 1) hn1, mkB_toList, mkB_toList, if_pos h4]
  exact step (outs.length - insK t outs outs.length) outs.length (Nat.le_refl _) (by omega)
theorem those_ev {nums : List (List UInt8)} (hl : nums.length = 3) (hn : ∀ p ∈ nums, numL p = true) {c : UInt8} (hc : c = 43 ∨ c = 45) (A T : Int) (is : Bool) (M : List (UInt8 × List (List UInt8))) (hM : M.length ≤ 20000) (hq : ∀ q ∈ M, (q.1 = 43 ∨ q.1 = 45) ∧ lkN nums q.2) :
    ∀ (d i : Nat) (outs : List (List UInt8)), i + d = M.length → outs.length ≤ i → outs.Pairwise lessP → (∀ x, x ∈ outs ↔ ∃ q, q ∈ M.take i ∧ condY c nums A T is q ∧ txtY q = x) →
      ∃ res : List (List UInt8), Ev (fun k => spec_nuThose.l0 k A T is (outs.map mkB) (M.map toQ) (M.length : Int) (i : Int) (nums.map mkB) (decide (c = 43))) (res.map mkB, true) ∧ res.length ≤ M.length ∧ res.Pairwise lessP ∧ (∀ x, x ∈ res ↔ ∃ q, q ∈ M ∧ condY c nums A T is q ∧ txtY q = x) := by
  intro d
  induction d with
  | zero =>
    intro i outs hi hol hs hm
    refine ⟨outs, Ev.step (f := fun _ => some (outs.map mkB, true)) (fun k => ?_) (Ev.now _), by omega, hs, fun x => ?_⟩
    · simp only [spec_nuThose.l0]
      rw [if_neg (by omega)]
    · rw [hm x, List.take_of_length_le (by omega)]
  | succ d ih =>
    intro i outs hi hol hs hm
    have hlt : i < M.length := by omega
    have hq1 := hq M[i] (List.getElem_mem hlt)
    have hyl : M[i].2.length = 3 := by rw [← likeG_len _ _ hq1.2]; exact hl
    have hyn := lkN_num _ _ hq1.2 hn
    have hmv := moves_ev hl hn hc hq1.1 hq1.2
    have htx := text_is hyl hyn hq1.1
    have htr := true_ev hyl hyn
    have hrd : rd_T31 (M.map toQ) (i : Int) = toQ M[i] := by
      unfold rd_T31
      rw [Int.toNat_natCast, List.getD_eq_getElem?_getD, List.getElem?_map, List.getElem?_eq_getElem hlt]
      rfl
    have htk : ∀ x, (∃ q, q ∈ M.take (i + 1) ∧ condY c nums A T is q ∧ txtY q = x) ↔ (∃ q, q ∈ M.take i ∧ condY c nums A T is q ∧ txtY q = x) ∨ (condY c nums A T is M[i] ∧ txtY M[i] = x) := fun x => by
      rw [List.take_succ_eq_append_getElem hlt]
      constructor
      · rintro ⟨q, hq, h1, h2⟩
        rcases List.mem_append.1 hq with hq | hq
        · exact .inl ⟨q, hq, h1, h2⟩
        · rw [List.mem_singleton.1 hq] at h1 h2
          exact .inr ⟨h1, h2⟩
      · rintro (⟨q, hq, h1, h2⟩ | ⟨h1, h2⟩)
        · exact ⟨q, List.mem_append.2 (.inl hq), h1, h2⟩
        · exact ⟨M[i], List.mem_append.2 (.inr (List.mem_singleton.2 rfl)), h1, h2⟩
    have skip : (∀ x, x ∈ outs ↔ ∃ q, q ∈ M.take (i + 1) ∧ condY c nums A T is q ∧ txtY q = x) → ∃ res : List (List UInt8), Ev (fun k => spec_nuThose.j1 k A T is (outs.map mkB) (mkB (txtY M[i])) (M.map toQ) (M.length : Int) (i : Int) true (nums.map mkB) (decide (c = 43))) (res.map mkB, true) ∧ res.length ≤ M.length ∧ res.Pairwise lessP ∧ (∀ x, x ∈ res ↔ ∃ q, q ∈ M ∧ condY c nums A T is q ∧ txtY q = x) := fun h => by
      obtain ⟨res, h1, h2⟩ := ih (i + 1) outs (by omega) (by omega) hs h
      refine ⟨res, Ev.step (fun k => ?_) h1, h2⟩
      simp only [spec_nuThose.j1]
      rw [if_pos trivial, w64 (by omega) (by omega)]
      rfl
    have start : ∀ (v : List ByteArray × Bool), Ev (fun k => if adY c nums M[i] = A then (if tkY c nums M[i] = T then ((spec_nuTrue.f k (M[i].2.map mkB) (decide (M[i].1 = 43))).bind fun t228 => (if (t228 != is) = true then (spec_nuThose.j1 k A T is (outs.map mkB) (mkB (txtY M[i])) (M.map toQ) (M.length : Int) (i : Int) true (nums.map mkB) (decide (c = 43))) else ((spec_l1HasS.f k (outs.map mkB) (mkB (txtY M[i]))).bind fun t229 => (spec_nuThose.j1 k A T is (outs.map mkB) (mkB (txtY M[i])) (M.map toQ) (M.length : Int) (i : Int) t229 (nums.map mkB) (decide (c = 43)))))) else (spec_nuThose.j1 k A T is (outs.map mkB) (mkB (txtY M[i])) (M.map toQ) (M.length : Int) (i : Int) true (nums.map mkB) (decide (c = 43)))) else (spec_nuThose.j1 k A T is (outs.map mkB) (mkB (txtY M[i])) (M.map toQ) (M.length : Int) (i : Int) true (nums.map mkB) (decide (c = 43)))) v →
        Ev (fun k => spec_nuThose.l0 k A T is (outs.map mkB) (M.map toQ) (M.length : Int) (i : Int) (nums.map mkB) (decide (c = 43))) v := fun v hv => by
      refine Ev.step (f := fun k => (spec_nuMoves.f k (nums.map mkB) (decide (c = 43)) (M[i].2.map mkB) (decide (M[i].1 = 43))).bind fun bt => (spec_nuText.f (M[i].2.map mkB) (decide (M[i].1 = 43))).bind fun t227 => (if bt.1 = A then (if bt.2.1 = T then ((spec_nuTrue.f k (M[i].2.map mkB) (decide (M[i].1 = 43))).bind fun t228 => (if (t228 != is) = true then (spec_nuThose.j1 k A T is (outs.map mkB) t227 (M.map toQ) (M.length : Int) (i : Int) true (nums.map mkB) (decide (c = 43))) else ((spec_l1HasS.f k (outs.map mkB) t227).bind fun t229 => (spec_nuThose.j1 k A T is (outs.map mkB) t227 (M.map toQ) (M.length : Int) (i : Int) t229 (nums.map mkB) (decide (c = 43)))))) else (spec_nuThose.j1 k A T is (outs.map mkB) t227 (M.map toQ) (M.length : Int) (i : Int) true (nums.map mkB) (decide (c = 43)))) else (spec_nuThose.j1 k A T is (outs.map mkB) t227 (M.map toQ) (M.length : Int) (i : Int) true (nums.map mkB) (decide (c = 43))))) (fun k => ?_) (Ev.bind hmv ?_)
      · simp only [spec_nuThose.l0]
        rw [if_pos (by omega), if_pos (by omega), if_pos (by rw [List.length_map]; omega), hrd]
        rfl
      · rw [htx]
        simp only [Option.bind_some]
        exact hv
    by_cases hA : adY c nums M[i] = A
    · by_cases hT : tkY c nums M[i] = T
      · by_cases hI : truY M[i] = is
        · -- it is one of them
          have hcond : condY c nums A T is M[i] := ⟨hA, hT, hI⟩
          obtain ⟨b, hb1, hb2⟩ := has_ev outs (txtY M[i]) (by omega)
          by_cases hb : b = true
          · have hin := hb2.1 hb
            obtain ⟨res, h1, h2⟩ := skip (fun x => by
              rw [htk x, ← hm x]
              constructor
              · exact .inl
              · rintro (h | ⟨_, h⟩)
                · exact h
                · rw [← h]; exact hin)
            refine ⟨res, start _ ?_, h2⟩
            refine Ev.congr (fun k => (if_pos hA).trans (if_pos hT)) (Ev.bind htr ?_)
            refine Ev.congr (fun k => if_neg (by rw [hI]; simp)) (Ev.bind hb1 ?_)
            rw [hb]
            exact h1
          · have hb' : b = false := by simpa using hb
            have hnin : txtY M[i] ∉ outs := fun h => hb (hb2.2 h)
            obtain ⟨res, h1, h2⟩ := ih (i + 1) (insT (txtY M[i]) outs) (by omega) (by rw [insT_len]; omega) (insT_sorted _ _ hs hnin) (fun x => by
              unfold insT
              rw [mem_ins, htk x, ← hm x]
              constructor
              · rintro (h | h)
                · exact .inr ⟨hcond, h.symm⟩
                · exact .inl h
              · rintro (h | ⟨_, h⟩)
                · exact .inr h
                · exact .inl h.symm)
            have h3 := ins_ev A T is outs (txtY M[i]) (M.map toQ) (M.length : Int) i (nums.map mkB) (decide (c = 43)) _ (by omega) (by omega) h1
            refine ⟨res, start _ ?_, h2⟩
            refine Ev.congr (fun k => (if_pos hA).trans (if_pos hT)) (Ev.bind htr ?_)
            refine Ev.congr (fun k => if_neg (by rw [hI]; simp)) (Ev.bind hb1 ?_)
            rw [hb']
            refine Ev.step (fun k => ?_) h3
            simp only [spec_nuThose.j1]
            rw [if_neg (by simp), List.length_map]
        · obtain ⟨res, h1, h2⟩ := skip (fun x => by rw [htk x, ← hm x]; exact ⟨.inl, fun h => h.elim id (fun h => absurd h.1.2.2 hI)⟩)
          refine ⟨res, start _ ?_, h2⟩
          refine Ev.congr (fun k => (if_pos hA).trans (if_pos hT)) (Ev.bind htr ?_)
          exact Ev.congr (fun k => if_pos (bne_iff_ne.2 hI)) h1
      · obtain ⟨res, h1, h2⟩ := skip (fun x => by rw [htk x, ← hm x]; exact ⟨.inl, fun h => h.elim id (fun h => absurd h.1.2.1 hT)⟩)
        exact ⟨res, start _ (Ev.congr (fun k => (if_pos hA).trans (if_neg hT)) h1), h2⟩
    · obtain ⟨res, h1, h2⟩ := skip (fun x => by rw [htk x, ← hm x]; exact ⟨.inl, fun h => h.elim id (fun h => absurd h.1.1 hA)⟩)
      exact ⟨res, start _ (Ev.congr (fun k => if_neg hA) h1), h2⟩

/-! ### both are the same texts -/
def ints (l : List UInt8) : List Int := l.map fun b => (b.toNat : Int)
theorem strOf_ints (l : List UInt8) : strOfNums (ints l) = mkB l := by
  have e : (l.map fun b : UInt8 => UInt8.ofNat ((b.toNat : Int)).toNat) = l := by
    have : ∀ b ∈ l, UInt8.ofNat ((b.toNat : Int)).toNat = b := fun b _ => by rw [Int.toNat_natCast, UInt8.ofNat_toNat]
    calc (l.map fun b : UInt8 => UInt8.ofNat ((b.toNat : Int)).toNat) = l.map id := List.map_congr_left this
      _ = l := List.map_id l
  unfold strOfNums ints mkB
  rw [List.map_map]
  congr 2
theorem app_like {α : Type} {p : α → α → Prop} : ∀ (a b v : List α), likeG p (a ++ b) v → ∃ v1 v2, v = v1 ++ v2 ∧ likeG p a v1 ∧ likeG p b v2
  | [], b, v, h => ⟨[], v, rfl, trivial, h⟩
  | x :: a, b, [], h => h.elim
  | x :: a, b, y :: v, h => by
    obtain ⟨v1, v2, rfl, h1, h2⟩ := app_like a b v h.2
    exact ⟨y :: v1, v2, rfl, ⟨h.1, h1⟩, h2⟩
theorem like_app {α : Type} {p : α → α → Prop} : ∀ (a b v w : List α), likeG p a v → likeG p b w → likeG p (a ++ b) (v ++ w)
  | [], b, [], w, _, h => h
  | [], _, _ :: _, _, h, _ => h.elim
  | _ :: _, _, [], _, h, _ => h.elim
  | x :: a, b, y :: v, w, h, k => ⟨h.1, like_app a b v w h.2 k⟩
theorem sumG_app {α : Type} (f : α → α → Int) : ∀ (a b v w : List α), a.length = v.length → sumG f (a ++ b) (v ++ w) = sumG f a v + sumG f b w
  | [], b, [], w, _ => by simp [sumG]
  | [], _, _ :: _, _, h => by simp at h
  | _ :: _, _, [], _, h => by simp at h
  | x :: a, b, y :: v, w, h => by
    show f x y + sumG f (a ++ b) (v ++ w) = f x y + sumG f a v + sumG f b w
    rw [sumG_app f a b v w (by simpa using h)]
    omega
theorem dig_sgn {b : UInt8} (h : digB b = true) : sgnR (b.toNat : Int) = true := by
  have := digB_iff.1 h
  unfold sgnR
  simp
  right
  omega
theorem lst_dig {b : UInt8} (h : digB b = true) (y : Int) : y ∈ lstR (b.toNat : Int) ↔ 48 ≤ y ∧ y ≤ 57 := by
  have h2 := digB_iff.1 h
  unfold lstR
  rw [if_neg (by omega), if_neg (by omega)]
  simp only [List.mem_cons, List.not_mem_nil, or_false]
  omega
/-- Digits. -/
theorem digs_like : ∀ (l : List UInt8) (v : List Int), (∀ b ∈ l, digB b = true) → likeG lkI (ints l) v → ∃ l', v = ints l' ∧ likeG lkB l l'
  | [], [], _, _ => ⟨[], rfl, trivial⟩
  | [], _ :: _, _, h => h.elim
  | _ :: _, [], _, h => h.elim
  | b :: l, y :: v, hd, h => by
    obtain ⟨l', rfl, h2⟩ := digs_like l v (fun c hc => hd c (by simp [hc])) h.2
    have hy := (lst_dig (hd b (by simp)) y).1 h.1
    have hn : (UInt8.ofNat y.toNat).toNat = y.toNat := by rw [UInt8.toNat_ofNat']; omega
    refine ⟨UInt8.ofNat y.toNat :: l', ?_, ⟨hd b (by simp), ?_⟩, h2⟩
    · show y :: ints l' = ((UInt8.ofNat y.toNat).toNat : Int) :: ints l'
      rw [hn]
      congr 1
      omega
    · rw [digB_iff, hn]
      omega
theorem like_digs : ∀ (l l' : List UInt8), likeG lkB l l' → likeG lkI (ints l) (ints l')
  | [], [], _ => trivial
  | [], _ :: _, h => h.elim
  | _ :: _, [], h => h.elim
  | b :: l, c :: l', h => by
    have h1 := digB_iff.1 h.1.2
    exact ⟨(lst_dig h.1.1 _).2 (by show (48 : Int) ≤ (c.toNat : Int) ∧ (c.toNat : Int) ≤ 57; omega), like_digs l l' h.2⟩
theorem sum_ints (f : Int → Int → Int) (g : UInt8 → UInt8 → Int) (h : ∀ x y : UInt8, f (x.toNat : Int) (y.toNat : Int) = g x y) : ∀ l l' : List UInt8, sumG f (ints l) (ints l') = sumG g l l'
  | [], [] => rfl
  | [], _ :: _ => rfl
  | _ :: _, [] => rfl
  | x :: l, y :: l' => by
    show f (x.toNat : Int) (y.toNat : Int) + sumG f (ints l) (ints l') = g x y + sumG g l l'
    rw [h, sum_ints f g h l l']
theorem ad_is (x y : UInt8) : adI (x.toNat : Int) (y.toNat : Int) = ad x y := rfl
theorem tk_is (x y : UInt8) : tkI (x.toNat : Int) (y.toNat : Int) = ad y x := rfl
theorem sign_nat {y : Int} (h : y = 43 ∨ y = 45) : ∃ c : UInt8, (c = 43 ∨ c = 45) ∧ y = (c.toNat : Int) := by
  rcases h with rfl | rfl
  · exact ⟨43, .inl rfl, rfl⟩
  · exact ⟨45, .inr rfl, rfl⟩
theorem lst_sign {c : UInt8} (hc : c = 43 ∨ c = 45) (y : Int) : y ∈ lstR (c.toNat : Int) ↔ y = 43 ∨ y = 45 := by
  rcases hc with rfl | rfl <;> (unfold lstR; simp)
/-- The texts of an equation's form. -/
theorem form_like {a b t : List UInt8} {c : UInt8} (ha : ∀ x ∈ a, digB x = true) (hb : ∀ x ∈ b, digB x = true) (ht : ∀ x ∈ t, digB x = true) (hc : c = 43 ∨ c = 45) (v : List Int) (h : likeG lkI (ints ((a ++ c :: b) ++ 61 :: t)) v) :
    ∃ q : UInt8 × List (List UInt8), (q.1 = 43 ∨ q.1 = 45) ∧ lkN [a, b, t] q.2 ∧ v = ints (txtY q) := by
  have e : ints ((a ++ c :: b) ++ 61 :: t) = (ints a ++ ((c.toNat : Int) :: ints b)) ++ ((61 : Int) :: ints t) := by simp [ints]
  rw [e] at h
  obtain ⟨v1, v2, rfl, h1, h2⟩ := app_like _ _ _ h
  obtain ⟨w1, w2, rfl, h3, h4⟩ := app_like _ _ _ h1
  cases v2 with
  | nil => exact h2.elim
  | cons y2 v2 =>
    cases w2 with
    | nil => exact h4.elim
    | cons y1 w2 =>
      obtain ⟨a', rfl, ka⟩ := digs_like a w1 ha h3
      obtain ⟨b', rfl, kb⟩ := digs_like b w2 hb h4.2
      obtain ⟨t', rfl, kt⟩ := digs_like t v2 ht h2.2
      obtain ⟨c', hc', rfl⟩ := sign_nat ((lst_sign hc y1).1 h4.1)
      have h61 : y2 = 61 := by
        have h5 : y2 ∈ lstR 61 := h2.1
        unfold lstR at h5
        simpa using h5
      subst h61
      refine ⟨(c', [a', b', t']), hc', ⟨ka, kb, kt, trivial⟩, ?_⟩
      simp [txtY, ints]
theorem form_of {a b t : List UInt8} {c : UInt8} (hc : c = 43 ∨ c = 45) {q : UInt8 × List (List UInt8)} (hq : q.1 = 43 ∨ q.1 = 45) (h : lkN [a, b, t] q.2) :
    likeG lkI (ints ((a ++ c :: b) ++ 61 :: t)) (ints (txtY q)) ∧ sumG adI (ints ((a ++ c :: b) ++ 61 :: t)) (ints (txtY q)) = adY c [a, b, t] q ∧ sumG tkI (ints ((a ++ c :: b) ++ 61 :: t)) (ints (txtY q)) = tkY c [a, b, t] q := by
  obtain ⟨c', y⟩ := q
  have hl := likeG_len _ _ h
  obtain ⟨a', b', t', rfl⟩ := three (show y.length = 3 from hl.symm)
  obtain ⟨ka, kb, kt, _⟩ := h
  have la := likeG_len _ _ ka
  have lb := likeG_len _ _ kb
  have e1 : ints ((a ++ c :: b) ++ 61 :: t) = (ints a ++ ((c.toNat : Int) :: ints b)) ++ ((61 : Int) :: ints t) := by simp [ints]
  have e2 : ints (txtY (c', [a', b', t'])) = (ints a' ++ ((c'.toNat : Int) :: ints b')) ++ ((61 : Int) :: ints t') := by simp [txtY, ints]
  have hl1 : (ints a ++ ((c.toNat : Int) :: ints b)).length = (ints a' ++ ((c'.toNat : Int) :: ints b')).length := by simp [ints]; omega
  have hl2 : (ints a).length = (ints a').length := by simp [ints]; omega
  rw [e1, e2]
  have h61 : ad 61 61 = 0 := pair_eq.2
  have hcc : (c'.toNat : Int) ∈ lstR (c.toNat : Int) := (lst_sign hc _).2 (by
    have h3 : c' = 43 ∨ c' = 45 := hq
    rcases h3 with rfl | rfl
    · exact .inl rfl
    · exact .inr rfl)
  refine ⟨like_app _ _ _ _ (like_app _ _ _ _ (like_digs a a' ka) ⟨hcc, like_digs b b' kb⟩) ⟨by unfold lkI lstR; simp, like_digs t t' kt⟩, ?_, ?_⟩
  · rw [sumG_app adI _ _ _ _ hl1, sumG_app adI _ _ _ _ hl2]
    have s1 : sumG adI ((c.toNat : Int) :: ints b) ((c'.toNat : Int) :: ints b') = ad c c' + sumG adI (ints b) (ints b') := rfl
    have s2 : sumG adI ((61 : Int) :: ints t) ((61 : Int) :: ints t') = ad 61 61 + sumG adI (ints t) (ints t') := rfl
    have s3 : adY c [a, b, t] (c', [a', b', t']) = ad c c' + (sumG ad a a' + (sumG ad b b' + (sumG ad t t' + 0))) := rfl
    rw [s1, s2, s3, sum_ints adI ad ad_is, sum_ints adI ad ad_is, sum_ints adI ad ad_is]
    omega
  · rw [sumG_app tkI _ _ _ _ hl1, sumG_app tkI _ _ _ _ hl2]
    have s1 : sumG tkI ((c.toNat : Int) :: ints b) ((c'.toNat : Int) :: ints b') = ad c' c + sumG tkI (ints b) (ints b') := rfl
    have s2 : sumG tkI ((61 : Int) :: ints t) ((61 : Int) :: ints t') = ad 61 61 + sumG tkI (ints t) (ints t') := rfl
    have s3 : tkY c [a, b, t] (c', [a', b', t']) = ad c' c + (sumG (fun x y => ad y x) a a' + (sumG (fun x y => ad y x) b b' + (sumG (fun x y => ad y x) t t' + 0))) := rfl
    rw [s1, s2, s3, sum_ints tkI (fun x y => ad y x) tk_is, sum_ints tkI (fun x y => ad y x) tk_is, sum_ints tkI (fun x y => ad y x) tk_is]
    omega
/-- A text is cut in one way alone. -/
theorem cut_uniq : ∀ (p p' : List UInt8) (q q' : UInt8) (r r' : List UInt8), p ++ q :: r = p' ++ q' :: r' → (∀ x ∈ p, digB x = true) → (∀ x ∈ p', digB x = true) → digB q = false → digB q' = false → p = p' ∧ q = q' ∧ r = r'
  | [], [], q, q', r, r', h, _, _, _, _ => by
    injection h with h1 h2
    exact ⟨rfl, h1, h2⟩
  | [], x :: p', q, q', r, r', h, _, h2, h3, _ => by
    injection h with h4 h5
    have := h2 x (by simp)
    rw [← h4, h3] at this
    cases this
  | x :: p, [], q, q', r, r', h, h1, _, _, h4 => by
    injection h with h5 h6
    have := h1 x (by simp)
    rw [h5, h4] at this
    cases this
  | x :: p, y :: p', q, q', r, r', h, h1, h2, h3, h4 => by
    injection h with h5 h6
    obtain ⟨e1, e2, e3⟩ := cut_uniq p p' q q' r r' h6 (fun z hz => h1 z (by simp [hz])) (fun z hz => h2 z (by simp [hz])) h3 h4
    exact ⟨by rw [h5, e1], e2, e3⟩
theorem sign_no {c : UInt8} (h : c = 43 ∨ c = 45) : digB c = false := by rcases h with rfl | rfl <;> decide
theorem prog_true (q : UInt8 × List (List UInt8)) (hq : q.1 = 43 ∨ q.1 = 45) (hl : q.2.length = 3) (hn : ∀ p ∈ q.2, numL p = true) : Ev (fun k => impl_isTrue.f k (mkB (txtY q))) (truY q) := by
  obtain ⟨c, y⟩ := q
  obtain ⟨a, b, t, rfl⟩ := three hl
  have na := hn a (by simp)
  have nb := hn b (by simp)
  have nt := hn t (by simp)
  have da := numL_digs na
  have db := numL_digs nb
  have dt := numL_digs nt
  have hsz : (mkB (txtY (c, [a, b, t]))).size ≤ 1000000 := by
    rw [mkB_size]
    simp only [txtY, List.length_append, List.length_cons, List.getD_cons_zero, List.getD_cons_succ]
    have := da.2; have := db.2; have := dt.2
    omega
  have e : (mkB (txtY (c, [a, b, t]))).data.toList = (a ++ c :: b) ++ 61 :: t := rfl
  rcases num_is _ hsz with ⟨a2, c2, b2, t2, e2, hc2, ha2, hb2, ht2, hnum⟩ | ⟨h1, _⟩
  · have d2 := numL_digs ha2
    have d3 := numL_digs hb2
    have d4 := numL_digs ht2
    rw [e] at e2
    have e3 : a ++ c :: (b ++ 61 :: t) = a2 ++ c2 :: (b2 ++ 61 :: t2) := by simpa using e2
    obtain ⟨rfl, rfl, e4⟩ := cut_uniq _ _ _ _ _ _ e3 da.1 d2.1 (sign_no hq) (sign_no hc2)
    obtain ⟨rfl, _, rfl⟩ := cut_uniq _ _ _ _ _ _ e4 db.1 d3.1 (by decide) (by decide)
    exact isTrue_ev _ c a b t hq na nb nt hnum
  · exact absurd ⟨a, c, b, t, e, hq, na, nb, nt⟩ h1
/-- The texts kept. -/
theorem keep_ev (is : Bool) : ∀ l : List ByteArray, (∀ x ∈ l, ∃ b, Ev (fun k => impl_isTrue.f k x) b) → ∃ r, Ev (fun k => keepTs k is l) r ∧ r.Sublist l ∧ ∀ x, x ∈ r ↔ x ∈ l ∧ Ev (fun k => impl_isTrue.f k x) is
  | [], _ => ⟨[], Ev.const rfl, List.Sublist.refl _, fun x => by simp⟩
  | x :: l, h => by
    obtain ⟨r, h1, h2, h3⟩ := keep_ev is l (fun y hy => h y (by simp [hy]))
    obtain ⟨b, hb⟩ := h x (by simp)
    have uniq : ∀ b', Ev (fun k => impl_isTrue.f k x) b' → b' = b := fun b' hb' => by
      obtain ⟨K, hK⟩ := Ev.both hb hb'
      obtain ⟨e1, e2⟩ := hK K (Nat.le_refl _)
      exact (Option.some.inj (e1.symm.trans e2)).symm
    by_cases hi : b = is
    · subst hi
      refine ⟨x :: r, ?_, h2.cons_cons x, fun y => ?_⟩
      · simp only [keepTs]
        refine Ev.bind hb (Ev.bind h1 ?_)
        exact Ev.const (by rw [if_pos rfl])
      · rw [List.mem_cons, List.mem_cons, h3]
        constructor
        · rintro (rfl | h4)
          · exact ⟨.inl rfl, hb⟩
          · exact ⟨.inr h4.1, h4.2⟩
        · rintro ⟨rfl | h4, h5⟩
          · exact .inl rfl
          · exact .inr ⟨h4, h5⟩
    · refine ⟨r, ?_, h2.cons x, fun y => ?_⟩
      · simp only [keepTs]
        refine Ev.bind hb (Ev.bind h1 ?_)
        exact Ev.const (by rw [if_neg hi])
      · rw [List.mem_cons, h3]
        constructor
        · exact fun h4 => ⟨.inr h4.1, h4.2⟩
        · rintro ⟨rfl | h4, h5⟩
          · exact absurd (uniq is h5).symm hi
          · exact ⟨h4, h5⟩
/-! how many are made -/
theorem chL_ten (x a t : Int) : (chL x a t).length ≤ 10 := by
  refine Nat.le_trans (List.length_filter_le _ _) ?_
  unfold lstR
  split
  · decide
  · split <;> decide
theorem flat_le {α β : Type} (f : α → List β) (n : Nat) : ∀ l : List α, (∀ x ∈ l, (f x).length ≤ n) → (l.flatMap f).length ≤ n * l.length
  | [], _ => by simp
  | x :: l, h => by
    have h1 := h x (by simp)
    have h2 := flat_le f n l (fun y hy => h y (by simp [hy]))
    rw [List.flatMap_cons, List.length_append, List.length_cons, Nat.mul_succ]
    omega
theorem len_zero (r pre : List Int) : (chG r pre 0 0).length = 1 := by rw [chG_zero]; rfl
theorem len_one (A T : Nat) (h : (A = 1 ∧ T = 0) ∨ (A = 0 ∧ T = 1)) : ∀ (r pre : List Int), (chG r pre A T).length ≤ 10 * r.length
  | [], pre => by
    rw [chG_end _ (by omega)]
    simp
  | x :: r, pre => by
    have ih := len_one A T h r (pre ++ [x])
    rw [chG_step _ _ _ (by omega), List.length_append, List.length_cons]
    have : (chA (fun c A' T' => chG r (pre ++ [c]) A' T') x A T 0 (A + 1)).length ≤ 10 := by
      rcases h with ⟨rfl, rfl⟩ | ⟨rfl, rfl⟩
      · have h1 := flat_le (fun c => chG r (pre ++ [c]) 0 0) 1 (chL x 1 0) (fun c _ => by rw [len_zero]; exact Nat.le_refl _)
        have h2 := chL_ten x 1 0
        simp only [chA, chT, List.range'_succ, List.range'_zero, List.flatMap_cons, List.flatMap_nil, List.append_nil, Nat.zero_add, Nat.add_zero]
        simp
        simp at h1
        omega
      · have h1 := flat_le (fun c => chG r (pre ++ [c]) 0 0) 1 (chL x 0 1) (fun c _ => by rw [len_zero]; exact Nat.le_refl _)
        have h2 := chL_ten x 0 1
        simp only [chA, chT, List.range'_succ, List.range'_zero, List.flatMap_cons, List.flatMap_nil, List.append_nil, Nat.zero_add, Nat.add_zero]
        simp
        simp at h1
        omega
    omega
theorem len_two : ∀ (r pre : List Int) (N : Nat), r.length ≤ N → (chG r pre 1 1).length ≤ (200 * N + 10) * r.length
  | [], pre, N, _ => by
    rw [chG_end _ (by omega)]
    simp
  | x :: r, pre, N, hN => by
    simp only [List.length_cons] at hN
    have ih := len_two r (pre ++ [x]) N (by omega)
    rw [chG_step _ _ _ (by omega), List.length_append, List.length_cons, Nat.mul_succ]
    have : (chA (fun c A' T' => chG r (pre ++ [c]) A' T') x 1 1 0 (1 + 1)).length ≤ 200 * N + 10 := by
      have h1 := flat_le (fun c => chG r (pre ++ [c]) 1 0) (10 * N) (chL x 0 1) (fun c _ => Nat.le_trans (len_one 1 0 (.inl ⟨rfl, rfl⟩) r _) (by omega))
      have h2 := flat_le (fun c => chG r (pre ++ [c]) 0 1) (10 * N) (chL x 1 0) (fun c _ => Nat.le_trans (len_one 0 1 (.inr ⟨rfl, rfl⟩) r _) (by omega))
      have h3 := flat_le (fun c => chG r (pre ++ [c]) 0 0) 1 (chL x 1 1) (fun c _ => by rw [len_zero]; exact Nat.le_refl _)
      have g1 := Nat.mul_le_mul_left (10 * N) (chL_ten x 0 1)
      have g2 := Nat.mul_le_mul_left (10 * N) (chL_ten x 1 0)
      have g3 := chL_ten x 1 1
      have e : chA (fun c A' T' => chG r (pre ++ [c]) A' T') x 1 1 0 (1 + 1) = ((chL x 0 1).flatMap fun c => chG r (pre ++ [c]) 1 0) ++ (((chL x 1 0).flatMap fun c => chG r (pre ++ [c]) 0 1) ++ ((chL x 1 1).flatMap fun c => chG r (pre ++ [c]) 0 0)) := by
        simp [chA, chT, List.range'_succ]
      rw [e, List.length_append, List.length_append]
      omega
    omega
theorem len_all (r : List Int) (A T : Nat) (hA : A ≤ 1) (hT : T ≤ 1) (hr : r.length ≤ 11) : (chG r [] A T).length ≤ 1000000 := by
  have hc : (A = 0 ∧ T = 0) ∨ ((A = 1 ∧ T = 0) ∨ (A = 0 ∧ T = 1)) ∨ (A = 1 ∧ T = 1) := by omega
  rcases hc with ⟨rfl, rfl⟩ | h | ⟨rfl, rfl⟩
  · rw [len_zero]; omega
  · have := len_one A T h r []
    omega
  · have h1 := len_two r [] 11 hr
    have h2 : (200 * 11 + 10) * r.length ≤ (200 * 11 + 10) * 11 := Nat.mul_le_mul_left _ hr
    omega

theorem nuThose_no (s : ByteArray) (hs : s.size ≤ 1000000) (h : ¬ isForm s.data.toList) (A T : Int) (is : Bool) : Ev (fun k => spec_nuThose.f k s A T is) ([], false) := by
  unfold spec_nuThose.f
  refine Ev.bind (read_no s hs h) ?_
  exact Ev.const (by simp)
/-- Program and reference find the same. -/
theorem both_repairs (s : ByteArray) (hs : s.size ≤ 1000000) (A T : Nat) (hA : A ≤ 1) (hT : T ≤ 1) (is : Bool) : ∃ (L : List ByteArray) (ok : Bool), L.length ≤ 1000000 ∧ Ev (fun k => spec_nuThose.f k s (A : Int) (T : Int) is) (L, ok) ∧ Ev (fun k => impl_repairs.f k s (A : Int) (T : Int) is) (L, ok) := by
  rcases num_is s hs with ⟨a, c, b, t, e, hc, ha, hb, ht, hnum⟩ | ⟨h1, L, c, h2⟩
  · have da := numL_digs ha
    have db := numL_digs hb
    have dt := numL_digs ht
    have hl : [a, b, t].length = 3 := rfl
    have hn : ∀ p ∈ [a, b, t], numL p = true := by simp [ha, hb, ht]
    -- the reference
    have hread := read_yes s hs a b t c e hc ha hb ht
    have hnear := near_ev [a, b, t] hl hn (decide (c = 43))
    obtain ⟨res, hres, hrl, hrs, hrm⟩ := those_ev hl hn hc (A : Int) (T : Int) is (nearL [a, b, t]) (nearL_len hl hn) (fun q hq => ⟨near_sign hq, near_like hl hn hq⟩) (nearL [a, b, t]).length 0 [] (by omega) (by simp) List.Pairwise.nil (fun x => by simp)
    have hspec : Ev (fun k => spec_nuThose.f k s (A : Int) (T : Int) is) (res.map mkB, true) := by
      unfold spec_nuThose.f
      refine Ev.bind hread ?_
      refine Ev.congr (fun k => if_pos rfl) (Ev.bind hnear ?_)
      rw [List.length_map]
      exact hres
    -- the program
    have hby : bytesOf s = ints ((a ++ c :: b) ++ 61 :: t) := by unfold bytesOf ints; rw [e]
    have hsg : ∀ x ∈ bytesOf s, sgnR x = true := by
      rw [hby]
      intro x hx
      obtain ⟨y, hy, rfl⟩ := List.mem_map.1 hx
      simp only [List.mem_append, List.mem_cons] at hy
      rcases hy with (hy | rfl | hy) | rfl | hy
      · exact dig_sgn (da.1 y hy)
      · rcases hc with rfl | rfl <;> decide
      · exact dig_sgn (db.1 y hy)
      · decide
      · exact dig_sgn (dt.1 y hy)
    have hlen : (bytesOf s).length ≤ 11 := by
      rw [hby]
      simp only [ints, List.length_map, List.length_append, List.length_cons]
      have := da.2; have := db.2; have := dt.2
      omega
    have hszs : s.size ≤ 1000 := by rw [← bytesOf_length]; omega
    have hmade := len_all (bytesOf s) A T hA hT hlen
    have hok : okR s (A : Int) (T : Int) := by
      refine ⟨⟨by omega, by omega, by omega, by omega⟩, hszs, List.all_eq_true.2 hsg, ?_⟩
      simp only [Int.toNat_natCast]
      exact hmade
    -- what is made
    have hmem : ∀ v, v ∈ chG (bytesOf s) [] A T ↔ ∃ q : UInt8 × List (List UInt8), (q.1 = 43 ∨ q.1 = 45) ∧ lkN [a, b, t] q.2 ∧ adY c [a, b, t] q = (A : Int) ∧ tkY c [a, b, t] q = (T : Int) ∧ v = ints (txtY q) := fun v => by
      rw [mem_chG _ _ _ _ _ hsg]
      constructor
      · rintro ⟨v', rfl, h1, h2, h3⟩
        rw [hby] at h1 h2 h3
        obtain ⟨q, hq, hy, rfl⟩ := form_like da.1 db.1 dt.1 hc _ h1
        have hf := form_of hc hq hy
        exact ⟨q, hq, hy, by rw [← hf.2.1]; exact h2, by rw [← hf.2.2]; exact h3, rfl⟩
      · rintro ⟨q, hq, hy, h2, h3, rfl⟩
        have hf := form_of hc hq hy
        rw [hby]
        exact ⟨ints (txtY q), rfl, hf.1, by rw [hf.2.1]; exact h2, by rw [hf.2.2]; exact h3⟩
    obtain ⟨Z, hZ⟩ : ∃ Z, Z = ((chG (bytesOf s) [] A T).map strOfNums).map (fun b => b.data.toList) := ⟨_, rfl⟩
    have hZm : ∀ x, x ∈ Z ↔ ∃ q : UInt8 × List (List UInt8), (q.1 = 43 ∨ q.1 = 45) ∧ lkN [a, b, t] q.2 ∧ adY c [a, b, t] q = (A : Int) ∧ tkY c [a, b, t] q = (T : Int) ∧ x = txtY q := fun x => by
      rw [hZ, List.map_map, List.mem_map]
      constructor
      · rintro ⟨v, hv, rfl⟩
        obtain ⟨q, h1, h2, h3, h4, rfl⟩ := (hmem v).1 hv
        refine ⟨q, h1, h2, h3, h4, ?_⟩
        show (strOfNums (ints (txtY q))).data.toList = txtY q
        rw [strOf_ints, mkB_data]
      · rintro ⟨q, h1, h2, h3, h4, rfl⟩
        refine ⟨ints (txtY q), (hmem _).2 ⟨q, h1, h2, h3, h4, rfl⟩, ?_⟩
        show (strOfNums (ints (txtY q))).data.toList = txtY q
        rw [strOf_ints, mkB_data]
    have hZn : Z.Nodup := by
      rw [hZ, List.map_map]
      have hp := nodup_chG (bytesOf s) [] A T hsg
      refine List.pairwise_map.2 (List.Pairwise.imp_of_mem ?_ hp)
      intro u u' hu hu' hne he
      obtain ⟨q, _, _, _, _, rfl⟩ := (hmem u).1 hu
      obtain ⟨q', _, _, _, _, rfl⟩ := (hmem u').1 hu'
      have he2 : (strOfNums (ints (txtY q))).data.toList = (strOfNums (ints (txtY q'))).data.toList := he
      rw [strOf_ints, strOf_ints, mkB_data, mkB_data] at he2
      exact hne (by rw [he2])
    have hsort := sort_less Z hZn
    have hml : madeL s A T = (Z.mergeSort fun x y => decide (x ≤ y)).map mkB := by rw [hZ]; rfl
    have hq3 : ∀ q : UInt8 × List (List UInt8), lkN [a, b, t] q.2 → q.2.length = 3 ∧ ∀ p ∈ q.2, numL p = true := fun q hy => ⟨(likeG_len _ _ hy).symm, lkN_num _ _ hy hn⟩
    obtain ⟨r, hr1, hr2, hr3⟩ := keep_ev is (madeL s A T) (fun x hx => by
      rw [hml] at hx
      obtain ⟨y, hy, rfl⟩ := List.mem_map.1 hx
      rw [List.mem_mergeSort] at hy
      obtain ⟨q, h1, h2, _, _, rfl⟩ := (hZm y).1 hy
      exact ⟨_, prog_true q h1 (hq3 q h2).1 (hq3 q h2).2⟩)
    have hrr : r = (r.map fun b => b.data.toList).map mkB := by
      rw [List.map_map]
      have : ∀ x ∈ r, (mkB ∘ fun b : ByteArray => b.data.toList) x = x := fun x _ => mkB_of x
      rw [List.map_congr_left this]
      simp
    have hsub : (r.map fun b => b.data.toList).Sublist (Z.mergeSort fun x y => decide (x ≤ y)) := by
      have h := hr2.map (fun b : ByteArray => b.data.toList)
      rw [hml, List.map_map] at h
      have e3 : (Z.mergeSort fun x y => decide (x ≤ y)).map ((fun b : ByteArray => b.data.toList) ∘ mkB) = Z.mergeSort fun x y => decide (x ≤ y) := by
        have : ∀ x ∈ (Z.mergeSort fun x y => decide (x ≤ y)), ((fun b : ByteArray => b.data.toList) ∘ mkB) x = x := fun x _ => mkB_data x
        rw [List.map_congr_left this]
        simp
      rw [e3] at h
      exact h
    have heq : res = r.map fun b => b.data.toList := by
      refine sorted_ext (lt := lessP) (fun x h => by unfold lessP at h; rw [less_irr] at h; cases h) (fun x y => less_asym x y) _ _ hrs (hsort.sublist hsub) (fun x => ?_)
      have sgc : ∀ q : UInt8 × List (List UInt8), (q.1 = 43 ∨ q.1 = 45) → 0 ≤ ad c q.1 ∧ 0 ≤ ad q.1 c := fun q hq => by
        have sg := pair_sign hc hq
        have sg' := pair_sign hq hc
        rw [sg.2, sg'.2]
        constructor <;> (split <;> (try split) <;> omega)
      have trq : ∀ q : UInt8 × List (List UInt8), (q.1 = 43 ∨ q.1 = 45) → lkN [a, b, t] q.2 → (truY q = is ↔ Ev (fun k => impl_isTrue.f k (mkB (txtY q))) is) := fun q hq hy => by
        have hp := prog_true q hq (hq3 q hy).1 (hq3 q hy).2
        constructor
        · intro h; rw [← h]; exact hp
        · intro h
          obtain ⟨K, hK⟩ := Ev.both hp h
          obtain ⟨e1, e2⟩ := hK K (Nat.le_refl _)
          exact Option.some.inj (e1.symm.trans e2)
      rw [hrm x]
      constructor
      · rintro ⟨q, hq, ⟨h1, h2, h3⟩, rfl⟩
        have hsq := near_sign hq
        have hlk := near_like hl hn hq
        refine List.mem_map.2 ⟨mkB (txtY q), (hr3 _).2 ⟨?_, (trq q hsq hlk).1 h3⟩, mkB_data _⟩
        rw [hml]
        refine List.mem_map.2 ⟨txtY q, ?_, rfl⟩
        rw [List.mem_mergeSort]
        exact (hZm _).2 ⟨q, hsq, hlk, h1, h2, rfl⟩
      · intro hx
        obtain ⟨y, hy, rfl⟩ := List.mem_map.1 hx
        obtain ⟨h4, h5⟩ := (hr3 y).1 hy
        rw [hml] at h4
        obtain ⟨z, hz, rfl⟩ := List.mem_map.1 h4
        rw [List.mem_mergeSort] at hz
        obtain ⟨q, hsq, hlk, h1, h2, rfl⟩ := (hZm z).1 hz
        have p0 := sgc q hsq
        have p1 := stepsN.pos _ _ hlk
        refine ⟨q, near_of hsq hlk ?_ ?_, ⟨h1, h2, (trq q hsq hlk).2 h5⟩, (mkB_data _).symm⟩
        · unfold adY at h1
          omega
        · unfold tkY at h2
          have := p1.2
          omega
    refine ⟨res.map mkB, true, ?_, hspec, ?_⟩
    · rw [List.length_map]
      have := nearL_len hl hn
      omega
    · have hIE : impl_IsEquation.f s = some true := by unfold impl_IsEquation.f; rw [hnum]; rfl
      unfold impl_repairs.f
      rw [hIE]
      simp only [Option.bind_some, Int.toNat_natCast]
      refine Ev.congr (fun k => (if_pos trivial).trans (if_pos hok)) (Ev.bind hr1 ?_)
      rw [heq, ← hrr]
      exact Ev.now _
  · refine ⟨[], false, by simp, nuThose_no s hs h1 _ _ _, ?_⟩
    have hIE : impl_IsEquation.f s = some false := by unfold impl_IsEquation.f; rw [h2]; rfl
    unfold impl_repairs.f
    rw [hIE]
    exact Ev.const (by simp)
/-! ### marks -/
def IsMark (m : Nat) (t : ByteArray) : Prop := Ev (fun k => laws_markText.f k (m : Int)) t
theorem mark_loop : ∀ (n m : Nat) (x : ByteArray), m ≤ n → x.size + m ≤ 100000000 → ∃ t, Ev (fun k => laws_markText.l0 k (m : Int) x) t := by
  intro n
  induction n with
  | zero =>
    intro m x hm hx
    obtain rfl : m = 0 := by omega
    refine ⟨(⟨#[109]⟩ : ByteArray) ++ x, Ev.step (f := fun _ => some ((⟨#[109]⟩ : ByteArray) ++ x)) (fun k => ?_) (Ev.now _)⟩
    simp only [laws_markText.l0]
    rw [if_neg (by omega), if_pos (by omega)]
  | succ n ih =>
    intro m x hm hx
    by_cases h0 : m = 0
    · subst h0
      refine ⟨(⟨#[109]⟩ : ByteArray) ++ x, Ev.step (f := fun _ => some ((⟨#[109]⟩ : ByteArray) ++ x)) (fun k => ?_) (Ev.now _)⟩
      simp only [laws_markText.l0]
      rw [if_neg (by omega), if_pos (by omega)]
    · have hsz : ∀ z : Int, (strOfNums [z]).size = 1 := fun z => rfl
      have hd : Int.tdiv (m : Int) 10 = ((m / 10 : Nat) : Int) := by rw [Int.tdiv_eq_ediv_of_nonneg (by omega)]; rfl
      obtain ⟨t, ht⟩ := ih (m / 10) (strOfNums [(wrap64 (48 + (Int.tmod (m : Int) 10))) % 256] ++ x) (by omega) (by rw [ByteArray.size_append, hsz]; omega)
      refine ⟨t, Ev.step (fun k => ?_) ht⟩
      simp only [laws_markText.l0]
      rw [if_pos (by omega)]
      simp only [Option.bind_some]
      rw [if_pos (by rw [hsz]; omega), hd, w64 (n := ((m / 10 : Nat) : Int)) (by omega) (by omega)]
theorem mark_ex (m : Nat) (h0 : 0 < m) (h : m ≤ 10000000) : ∃ t, IsMark m t := by
  obtain ⟨t, ht⟩ := mark_loop m m ⟨#[]⟩ (Nat.le_refl _) (by show 0 + m ≤ 100000000; omega)
  refine ⟨t, ?_⟩
  unfold IsMark laws_markText.f
  exact Ev.congr (fun k => if_neg (by omega)) ht
theorem marks_ev : ∀ (d i m : Nat) (l : List ByteArray), i + d = l.length → 0 < m → m + d ≤ 10000000 → l.length ≤ 1000000 → ∃ l' : List ByteArray, l'.length = l.length ∧ (∀ j (h : j < l'.length), i ≤ j → IsMark (m + (j - i)) l'[j]) ∧ Ev (fun k => laws_markStringS.l0 k l (m : Int) (i : Int)) (((m + d : Nat) : Int), l') := by
  intro d
  induction d with
  | zero =>
    intro i m l hi hm hb hll
    refine ⟨l, rfl, fun j h hj => by omega, Ev.step (f := fun _ => some ((m : Int), l)) (fun k => ?_) (Ev.now _)⟩
    simp only [laws_markStringS.l0]
    rw [if_neg (by omega)]
  | succ d ih =>
    intro i m l hi hm hb hll
    obtain ⟨t, ht⟩ := mark_ex m hm (by omega)
    obtain ⟨l', h1, h2, h3⟩ := ih (i + 1) (m + 1) (l.set i t) (by rw [List.length_set]; omega) (by omega) (by omega) (by rw [List.length_set]; exact hll)
    rw [List.length_set] at h1
    have key : ∀ (d i m : Nat) (l l' : List ByteArray) (z : Int), i + d = l.length → Ev (fun k => laws_markStringS.l0 k l (m : Int) (i : Int)) (z, l') → m + d ≤ 10000000 → 0 < m → l.length ≤ 1000000 → ∀ j (h : j < l.length) (h' : j < l'.length), j < i → l'[j] = l[j] := by
      intro d
      induction d with
      | zero =>
        intro i m l l' z hi he hb hm hll j h h' hj
        obtain ⟨K, hK⟩ := he
        have e1 := hK (K + 1) (by omega)
        simp only [laws_markStringS.l0] at e1
        rw [if_neg (by omega)] at e1
        obtain ⟨_, rfl⟩ := Prod.mk.inj (Option.some.inj e1)
        rfl
      | succ d ih2 =>
        intro i m l l' z hi he hb hm hll j h h' hj
        obtain ⟨t2, ht2⟩ := mark_ex m hm (by omega)
        obtain ⟨K, hK⟩ := Ev.both he ht2
        have he2 : Ev (fun k => laws_markStringS.l0 k (l.set i t2) ((m + 1 : Nat) : Int) ((i + 1 : Nat) : Int)) (z, l') := by
          refine ⟨K, fun n hn => ?_⟩
          have e1 := (hK (n + 1) (by omega)).1
          have e2 := (hK n hn).2
          simp only [laws_markStringS.l0] at e1
          rw [if_pos (by omega), e2, Option.bind_some, if_pos (by omega), Int.toNat_natCast, w64 (by omega) (by omega), w64 (by omega) (by omega)] at e1
          exact e1
        have h9 := ih2 (i + 1) (m + 1) (l.set i t2) l' z (by rw [List.length_set]; omega) he2 (by omega) (by omega) (by rw [List.length_set]; exact hll) j (by rw [List.length_set]; exact h) h' (by omega)
        rw [h9, List.getElem_set_ne (by omega)]
    refine ⟨l', h1, fun j h hj => ?_, ?_⟩
    · by_cases hji : j = i
      · subst hji
        have := key d (j + 1) (m + 1) (l.set j t) l' _ (by rw [List.length_set]; omega) h3 (by omega) (by omega) (by rw [List.length_set]; exact hll) j (by rw [List.length_set]; omega) h (by omega)
        rw [this, List.getElem_set_self, Nat.sub_self]
        exact ht
      · have := h2 j h (by omega)
        rw [show m + 1 + (j - (i + 1)) = m + (j - i) by omega] at this
        exact this
    · rw [show m + (d + 1) = m + 1 + d by omega]
      refine Ev.step (f := fun k => (laws_markText.f k (m : Int)).bind fun t106 => laws_markStringS.l0 k (l.set i t106) ((m + 1 : Nat) : Int) ((i + 1 : Nat) : Int)) (fun k => ?_) (Ev.bind ht h3)
      simp only [laws_markStringS.l0]
      rw [if_pos (by omega)]
      congr 1
      funext t106
      rw [if_pos (by omega), Int.toNat_natCast, w64 (by omega) (by omega), w64 (by omega) (by omega)]
      rfl
theorem held_ev (l : List ByteArray) (m0 : Nat) (h : ∀ j (h : j < l.length), IsMark (m0 + j) l[j]) (hb : m0 + l.length ≤ 10000000) : ∀ (d i : Nat), i + d = l.length → Ev (fun k => laws_heldStringS.l0 k l ((m0 + i : Nat) : Int) (i : Int)) ((m0 + l.length : Nat) : Int) := by
  intro d
  induction d with
  | zero =>
    intro i hi
    refine Ev.step (f := fun _ => some ((m0 + i : Nat) : Int)) (fun k => ?_) (Ev.const (by rw [show i = l.length by omega]))
    simp only [laws_heldStringS.l0]
    rw [if_neg (by omega)]
  | succ d ih =>
    intro i hi
    have hlt : i < l.length := by omega
    have hm := h i hlt
    have hrd : rdOf ByteArray.empty l (i : Int) = l[i] := by
      unfold rdOf
      rw [Int.toNat_natCast, List.getD_eq_getElem?_getD, List.getElem?_eq_getElem hlt]
      rfl
    refine Ev.step (f := fun k => (laws_markText.f k ((m0 + i : Nat) : Int)).bind fun t109 => if l[i].toList = t109.toList then laws_heldStringS.l0 k l ((m0 + (i + 1) : Nat) : Int) ((i + 1 : Nat) : Int) else some (-1)) (fun k => ?_) (Ev.bind hm ?_)
    · simp only [laws_heldStringS.l0]
      rw [if_pos (by omega), if_pos (by omega), hrd, w64 (n := ((m0 + i : Nat) : Int) + 1) (by omega) (by omega), w64 (n := (i : Int) + 1) (by omega) (by omega)]
      rfl
    · exact Ev.congr (fun k => if_pos rfl) (ih (i + 1) (by omega))
/-- The marks laid and found again. -/
theorem marked (l : List ByteArray) (hl : l.length ≤ 1000000) : ∃ l', Ev (fun k => laws_markStringS.f k l 101) (((101 + l.length : Nat) : Int), l') ∧ Ev (fun k => laws_heldStringS.f k l' 101) ((101 + l.length : Nat) : Int) := by
  obtain ⟨l', h1, h2, h3⟩ := marks_ev l.length 0 101 l (by omega) (by omega) (by omega) hl
  refine ⟨l', ?_, ?_⟩
  · unfold laws_markStringS.f
    exact h3
  · have h := held_ev l' 101 (fun j h => by have := h2 j h (by omega); rwa [Nat.sub_zero] at this) (by omega) l'.length 0 (by omega)
    unfold laws_heldStringS.f
    rw [← h1]
    exact h
theorem eqS_ev (l : List ByteArray) (hl : l.length ≤ 1000000) : Ev (fun k => laws_eqStringS.f k l l) true := by
  have key : ∀ (d i : Nat), i + d = l.length → Ev (fun k => laws_eqStringS.l0 k l l (i : Int)) true := by
    intro d
    induction d with
    | zero =>
      intro i hi
      refine Ev.step (f := fun _ => some true) (fun k => ?_) (Ev.now _)
      simp only [laws_eqStringS.l0]
      rw [if_neg (by omega)]
    | succ d ih =>
      intro i hi
      refine Ev.step (fun k => ?_) (ih (i + 1) (by omega))
      simp only [laws_eqStringS.l0]
      rw [if_pos (by omega), if_pos (by omega), if_pos (by omega), if_pos trivial, w64 (by omega) (by omega)]
      rfl
  unfold laws_eqStringS.f
  exact Ev.congr (fun k => if_pos rfl) (key l.length 0 (by omega))

theorem both_FalseByMove (s : ByteArray) (hs : s.size ≤ 1000000) : ∃ (L : List ByteArray) (ok : Bool), L.length ≤ 1000000 ∧ Ev (fun k => spec_FalseByMove.f k s) (L, ok) ∧ Ev (fun k => impl_FalseByMove.f k s) (L, ok) := by
  obtain ⟨L, ok, hl, h1, h2⟩ := both_repairs s hs 1 1 (by omega) (by omega) false
  refine ⟨L, ok, hl, ?_, ?_⟩
  · unfold spec_FalseByMove.f
    exact Ev.bind h1 (Ev.now _)
  · unfold impl_FalseByMove.f
    exact Ev.bind h2 (Ev.now _)
theorem FnExactFalseByMove : laws_FnExactFalseByMove.Pure := by
  intro s _
  by_cases h : (s.size : Int) > 1000000
  · refine ⟨0, ?_⟩
    unfold laws_FnExactFalseByMove.f
    rw [if_pos h]
  · obtain ⟨L, ok, hl, h1, h2⟩ := both_FalseByMove s (by omega)
    obtain ⟨l', h3, h4⟩ := marked L hl
    have h5 := eqS_ev L hl
    have j1 : Ev (fun k => laws_FnExactFalseByMove.j1 k l' ((101 + L.length : Nat) : Int) (ok != ok)) true := by
      refine Ev.step (f := fun k => (laws_heldStringS.f k l' 101).bind fun t => if t < 0 then some false else if t = ((101 + L.length : Nat) : Int) then some true else some false) (fun k => ?_) (Ev.bind h4 ?_)
      · simp only [laws_FnExactFalseByMove.j1]
        rw [if_neg (by simp)]
      · exact Ev.const (by rw [if_neg (by omega), if_pos rfl])
    have j0 : Ev (fun k => laws_FnExactFalseByMove.j0 k s L ok L (ok != ok)) true := by
      refine Ev.step (f := fun k => (laws_markStringS.f k L 101).bind fun bt => (laws_heldStringS.f k bt.2 101).bind fun t321 => if t321 < 0 then some false else if t321 = bt.1 then ((impl_FalseByMove.f k s).bind fun bt2 => (laws_eqStringS.f k bt2.1 L).bind fun t326 => if t326 = true then laws_FnExactFalseByMove.j1 k bt.2 bt.1 (bt2.2 != ok) else laws_FnExactFalseByMove.j1 k bt.2 bt.1 true) else some false) (fun k => ?_) (Ev.bind h3 (Ev.bind h4 ?_))
      · simp only [laws_FnExactFalseByMove.j0]
        rw [if_neg (by simp)]
      · refine Ev.congr (fun k => (if_neg (by omega)).trans (if_pos rfl)) (Ev.bind h2 (Ev.bind h5 ?_))
        exact Ev.congr (fun k => if_pos rfl) j1
    have hf : Ev (fun k => laws_FnExactFalseByMove.f k s) true := by
      unfold laws_FnExactFalseByMove.f
      refine Ev.congr (fun k => if_neg h) (Ev.bind h1 (Ev.bind h2 (Ev.bind h5 ?_)))
      exact Ev.congr (fun k => if_pos rfl) j0
    obtain ⟨K, hK⟩ := hf
    exact ⟨K, hK K (Nat.le_refl _)⟩

end Go.Proofs.YtmjlmmfhcabnfaaGreatDoor.Pure
