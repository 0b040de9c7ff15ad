/- Proved here: the pure statement of FnExactTurnNumeral: program and reference turn the same numerals, into the same ones. Conditions: the text is no longer than memory can hold. -/
import Derived.Test.YtmjlmmfhcabnfaaDoorQFnExactTurnNumeralx2
set_option linter.unusedVariables false
set_option linter.unusedSimpArgs false
namespace Go.Proofs.YtmjlmmfhcabnfaaDoor.Pure
open Go.RowKit Go.Proofs.YtmjlmmfhcabnfaaDoor.Q Go.Proofs.YtmjlmmfhcabnfaaDoorW.PrintWords Go.Proofs.YtmjlmmfhcabnfaaDoorW.PrintLast

/-! ### base: wrapping, 'from some number of rounds on', loops -/
theorem w64 {n : Int} (h0 : -9223372036854775808 ≤ n) (h1 : n ≤ 9223372036854775807) : wrap64 n = n := by unfold wrap64; omega
theorem wf64 {x : Int} (h : (Lit.int .i64 x).wf = true) : -9223372036854775808 ≤ x ∧ x ≤ 9223372036854775807 := by
  simp [Lit.wf, IntKind.min, IntKind.max, IntKind.signed, IntKind.bits] at h
  omega
theorem maxLen_le {n : Nat} (h : n ≤ maxLen) : n ≤ 9223372036854775807 := by unfold maxLen at h; omega
theorem Ev.both {α β : Type} {g : Nat → Option α} {f : Nat → Option β} {a : α} {b : β} (h : Ev g a) (k : Ev f b) : ∃ K, ∀ n, K ≤ n → g n = some a ∧ f n = some b := by
  obtain ⟨K, h⟩ := h
  obtain ⟨K', k⟩ := k
  exact ⟨max K K', fun n hn => ⟨h n (by omega), k n (by omega)⟩⟩
theorem Ev.const {α : Type} {x : Option α} {r : α} (h : x = some r) : Ev (fun _ => x) r := ⟨0, fun _ _ => h⟩
/-- A loop from lo on that ends early with 'bad', or runs through. -/
theorem all_ev {β : Type} (g : Nat → Int → Option β) (p : Nat → Bool) (good bad : β) (lo n : Nat)
    (hgood : ∀ i r, lo ≤ i → i < n → p i = true → Ev (fun k => g k ((i + 1 : Nat) : Int)) r → Ev (fun k => g k (i : Int)) r)
    (hbad : ∀ i, lo ≤ i → i < n → p i = false → Ev (fun k => g k (i : Int)) bad)
    (fin : ∀ i, n ≤ i → i ≤ n + lo → Ev (fun k => g k (i : Int)) good) : ∀ d a, n - a = d → lo ≤ a → a ≤ n + lo → Ev (fun k => g k (a : Int)) (if (List.range' a (n - a)).all p = true then good else bad) := by
  intro d
  induction d with
  | zero =>
    intro a ha hlo hle
    rw [ha]
    simpa using fin a (by omega) hle
  | succ d ih =>
    intro a ha hlo hle
    rw [ha, List.range'_succ, List.all_cons]
    cases hp : p a with
    | true =>
      have := ih (a + 1) (by omega) (by omega) (by omega)
      rw [show n - (a + 1) = d by omega] at this
      simp only [Bool.true_and]
      exact hgood a _ hlo (by omega) hp this
    | false =>
      simp only [Bool.false_and]
      exact hbad a hlo (by omega) hp
/-- The same where it answers whether all held. -/
theorem all_evB (g : Nat → Int → Option Bool) (p : Nat → Bool) (lo n : Nat)
    (hgood : ∀ i r, lo ≤ i → i < n → p i = true → Ev (fun k => g k ((i + 1 : Nat) : Int)) r → Ev (fun k => g k (i : Int)) r)
    (hbad : ∀ i, lo ≤ i → i < n → p i = false → Ev (fun k => g k (i : Int)) false)
    (fin : ∀ i, n ≤ i → i ≤ n + lo → Ev (fun k => g k (i : Int)) true) : Ev (fun k => g k (lo : Int)) ((List.range' lo (n - lo)).all p) := by
  have h := all_ev g p true false lo n hgood hbad fin (n - lo) lo rfl (Nat.le_refl _) (by omega)
  cases hb : (List.range' lo (n - lo)).all p <;> simpa [hb] using h
/-- A loop that carries a state s; P: what is known of it. -/
theorem fold_ev {σ β : Type} (g : Nat → σ → Int → Option β) (f : σ → Nat → σ) (h : σ → β) (P : Nat → σ → Prop) (n : Nat)
    (step : ∀ s i r, i < n → P i s → (P (i + 1) (f s i) ∧ (Ev (fun k => g k (f s i) ((i + 1 : Nat) : Int)) r → Ev (fun k => g k s (i : Int)) r)))
    (fin : ∀ s, P n s → Ev (fun k => g k s (n : Int)) (h s)) : ∀ d a s, n - a = d → a ≤ n → P a s → Ev (fun k => g k s (a : Int)) (h ((List.range' a (n - a)).foldl f s)) := by
  intro d
  induction d with
  | zero =>
    intro a s ha hle hP
    obtain rfl : a = n := by omega
    simpa using fin s hP
  | succ d ih =>
    intro a s ha hle hP
    rw [ha, List.range'_succ, List.foldl_cons]
    have := step s a (h ((List.range' (a + 1) d).foldl f (f s a))) (by omega) hP
    refine this.2 ?_
    have h2 := ih (a + 1) (f s a) (by omega) (by omega) this.1
    rw [show n - (a + 1) = d by omega] at h2
    exact h2
theorem rd_nat (l : List Int) (i : Nat) (h : i < l.length) : rd l (i : Int) = l[i] := by unfold rd; rw [Int.toNat_natCast]; simp [List.getD_eq_getElem?_getD, h]
theorem all_range (l : List Int) (q : Int → Bool) : (List.range' 0 l.length).all (fun i => q (rd l (i : Int))) = l.all q := by
  rw [Bool.eq_iff_iff, List.all_eq_true, List.all_eq_true]
  constructor
  · intro h x hx
    obtain ⟨i, hi, rfl⟩ := List.getElem_of_mem hx
    have := h i (by simp; omega)
    rwa [rd_nat l i hi] at this
  · intro h i hi
    have hi : i < l.length := by simp at hi; omega
    rw [rd_nat l i hi]
    exact h _ (List.getElem_mem hi)
/-- Strictly increasing. -/
def incr (l : List Int) : Bool := (List.range' 1 (l.length - 1)).all fun i => decide (rd l (i : Int) > rd l ((i : Int) - 1))
theorem incr_iff (l : List Int) : incr l = true ↔ ∀ i, ∀ h : i + 1 < l.length, l[i] < l[i + 1] := by
  unfold incr
  rw [List.all_eq_true]
  constructor
  · intro h i hi
    have := h (i + 1) (by simp; omega)
    rw [rd_nat l (i + 1) hi, show (((i + 1 : Nat) : Int) - 1) = ((i : Nat) : Int) by omega, rd_nat l i (by omega)] at this
    simpa using this
  · intro h i hi
    obtain ⟨j, rfl⟩ : ∃ j, i = j + 1 := ⟨i - 1, by simp at hi; omega⟩
    have hj : j + 1 < l.length := by simp at hi; omega
    rw [rd_nat l (j + 1) hj, show (((j + 1 : Nat) : Int) - 1) = ((j : Nat) : Int) by omega, rd_nat l j (by omega)]
    simpa using h j hj
theorem incr_ge (l : List Int) (h : incr l = true) (h0 : ∀ x ∈ l, 0 ≤ x) : ∀ i (hi : i < l.length), (i : Int) ≤ l[i] := by
  intro i
  induction i with
  | zero => intro hi; exact h0 _ (List.getElem_mem hi)
  | succ i ih =>
    intro hi
    have := ih (by omega)
    have := (incr_iff l).1 h i hi
    omega
theorem incr_len (l : List Int) (h : incr l = true) (m : Int) (hm : l.all (fun x => decide (0 ≤ x) && decide (x ≤ m)) = true) : (l.length : Int) ≤ m + 1 ∨ l = [] := by
  rw [List.all_eq_true] at hm
  by_cases h0 : l = []
  · exact .inr h0
  · left
    have hp := List.length_pos_iff.2 h0
    have h1 := incr_ge l h (fun x hx => by have := hm x hx; simp at this; omega) (l.length - 1) (by omega)
    have h2 := hm _ (List.getElem_mem (show l.length - 1 < l.length by omega))
    simp at h2
    omega

/-! ### bounds -/
def inB (lo hi : Int) (x : Int) : Bool := decide (lo ≤ x) && decide (x ≤ hi)
theorem inB_iff {lo hi x : Int} : inB lo hi x = true ↔ lo ≤ x ∧ x ≤ hi := by simp [inB]
theorem l1In_is (a lo hi : Int) : spec_l1In.f a lo hi = some (inB lo hi a) := by
  unfold spec_l1In.f inB
  by_cases h : a ≥ lo
  · rw [if_pos h, decide_eq_true (show lo ≤ a from h), Bool.true_and]
  · rw [if_neg h, decide_eq_false (show ¬ lo ≤ a from h), Bool.false_and]
theorem within_is (a lo hi : Int) : impl_within.f a lo hi = some (inB lo hi a) := by
  unfold impl_within.f inB
  by_cases h : lo ≤ a
  · rw [if_pos h, decide_eq_true h, Bool.true_and]
  · rw [if_neg h, decide_eq_false h, Bool.false_and]

/-! ### numerals: the bytes of a text -/
theorem bt_nat (s : ByteArray) (i : Nat) (h : i < s.data.toList.length) : bt s (i : Int) = ((s.data.toList[i].toNat : Nat) : Int) := by
  have hs : i < s.size := by rw [Array.length_toList] at h; exact h
  rw [← bt_at s (i : Int) (by rw [Int.toNat_natCast]; exact hs)]
  rfl
theorem size_list (s : ByteArray) : s.data.toList.length = s.size := by rw [Array.length_toList]; rfl
theorem toList_nil (s : ByteArray) : (s.toList == ([] : List UInt8)) = (s.data.toList).isEmpty := by
  rw [Go.Lib.toList_data]
  cases s.data.toList with
  | nil => rfl
  | cons a l => rfl
def digs : List UInt8 := [48, 49, 50, 51, 52, 53, 54, 55, 56, 57]
def digB (b : UInt8) : Bool := decide (48 ≤ b.toNat) && decide (b.toNat ≤ 57)
theorem digs_all : ((List.range 256).all fun n => decide (digs.contains (UInt8.ofNat n) = digB (UInt8.ofNat n))) = true := by decide +kernel
theorem digs_is (b : UInt8) : digs.contains b = digB b := by
  have h := digs_all
  simp only [List.all_eq_true, List.mem_range, decide_eq_true_eq] at h
  have := h b.toNat b.toNat_lt
  rwa [UInt8.ofNat_toNat] at this
theorem dropWhile_nil {α : Type} (p : α → Bool) : ∀ l : List α, (l.dropWhile p).isEmpty = l.all p
  | [] => rfl
  | x :: l => by
    rw [List.dropWhile_cons, List.all_cons]
    cases h : p x with
    | true => simp [dropWhile_nil p l]
    | false => simp
theorem dropWhile_all {α : Type} (p : α → Bool) : ∀ l : List α, (l.dropWhile p).all p = l.all p
  | [] => rfl
  | x :: l => by
    rw [List.dropWhile_cons, List.all_cons]
    cases h : p x with
    | true => simp [dropWhile_all p l]
    | false => simp [h]
/-- Nothing is left where all go. -/
theorem trim_nil (l cs : List UInt8) : (Go.Lib.trimS l cs).isEmpty = l.all (cs.contains ·) := by
  unfold Go.Lib.trimS Go.Lib.trimLeftS Go.Lib.trimRightS
  rw [dropWhile_nil, List.all_reverse, dropWhile_all, List.all_reverse]
theorem trim_is (s : ByteArray) (hs : s.size ≤ 1000000) : strings_Trim.f s (⟨#[48, 49, 50, 51, 52, 53, 54, 55, 56, 57]⟩ : ByteArray) = some ⟨(Go.Lib.trimS s.data.toList digs).toArray⟩ := by
  unfold strings_Trim.f
  rw [if_pos ⟨by omega, by decide, by decide⟩]
  rfl
theorem isNumeral_is (s : ByteArray) (n : Int) (hn : n ≤ 1000000) : impl_isNumeral.f s n = some (inB 1 n (s.size : Int) && s.data.toList.all digB) := by
  unfold impl_isNumeral.f
  rw [within_is, Option.bind_some]
  cases hi : inB 1 n (s.size : Int) with
  | false => rw [if_neg (by decide), Bool.false_and]
  | true =>
    rw [inB_iff] at hi
    rw [if_pos rfl, trim_is s (by omega), Option.bind_some, toList_nil, Bool.true_and]
    show some (Go.Lib.trimS s.data.toList digs).isEmpty = _
    rw [trim_nil]
    congr 1
    exact congrArg s.data.toList.all (funext digs_is)
theorem digB_iff {b : UInt8} : digB b = true ↔ 48 ≤ b.toNat ∧ b.toNat ≤ 57 := by simp [digB]
theorem nuNumeral_ev (s : ByteArray) (n : Int) (hs : s.size ≤ 1000000) : Ev (fun k => spec_nuNumeral.f k s n) (inB 1 n (s.size : Int) && s.data.toList.all digB) := by
  unfold spec_nuNumeral.f
  rw [l1In_is]
  simp only [Option.bind_some]
  cases hi : inB 1 n (s.size : Int) with
  | false => exact Ev.const (by simp)
  | true =>
    simp only [if_true, Bool.true_and]
    have hz := size_list s
    have h := all_evB (fun k i => spec_nuNumeral.l0 k s i) (fun i => digB (s.data.toList.getD i 0)) 0 s.size
      (fun i r _ hi hp hr => Ev.step (fun k => by
        have hb := bt_nat s i (by omega)
        rw [List.getD_eq_getElem?_getD, List.getElem?_eq_getElem (by omega), Option.getD_some, digB_iff] at hp
        simp only [spec_nuNumeral.l0]
        rw [if_pos (by omega), if_pos (by omega), hb, if_neg (by omega), if_neg (by omega), w64 (by omega) (by omega)]
        rfl) hr)
      (fun i _ hi hp => Ev.step (f := fun _ => some false) (fun k => by
        have hb := bt_nat s i (by omega)
        rw [List.getD_eq_getElem?_getD, List.getElem?_eq_getElem (by omega), Option.getD_some, Bool.eq_false_iff, Ne, digB_iff] at hp
        simp only [spec_nuNumeral.l0]
        rw [if_pos (by omega), if_pos (by omega), hb]
        by_cases h1 : ((s.data.toList[i].toNat : Nat) : Int) < 48
        · rw [if_pos h1]
        · rw [if_neg h1, if_pos (by omega)]) (Ev.now false))
      (fun i hi _ => Ev.step (fun k => by simp only [spec_nuNumeral.l0]; rw [if_neg (by omega)]) (Ev.now true))
    have e : (List.range' 0 (s.size - 0)).all (fun i => digB (s.data.toList.getD i 0)) = s.data.toList.all digB := by
      rw [Nat.sub_zero, Bool.eq_iff_iff, List.all_eq_true, List.all_eq_true]
      constructor
      · intro h x hx
        obtain ⟨i, hi, rfl⟩ := List.getElem_of_mem hx
        have := h i (by simp; omega)
        rwa [List.getD_eq_getElem?_getD, List.getElem?_eq_getElem hi, Option.getD_some] at this
      · intro h i hi
        have hi : i < s.data.toList.length := by simp at hi; omega
        rw [List.getD_eq_getElem?_getD, List.getElem?_eq_getElem hi, Option.getD_some]
        exact h _ (List.getElem_mem hi)
    rw [e] at h
    exact h

def mkB (l : List UInt8) : ByteArray := ⟨l.toArray⟩
theorem mkB_of (s : ByteArray) : mkB s.data.toList = s := by cases s; rfl
theorem mkB_size (l : List UInt8) : (mkB l).size = l.length := by rw [← size_list]; rfl
theorem mkB_app (s : ByteArray) (a : List UInt8) : s ++ mkB a = mkB (s.data.toList ++ a) := by
  rw [← mkB_of (s ++ mkB a), ByteArray.data_append, Array.toList_append]
  rfl
theorem ex_one (s : ByteArray) (i : Nat) (h : i < s.data.toList.length) : s.extract i (i + 1) = mkB [s.data.toList[i]] := by
  rw [← mkB_of (s.extract i (i + 1))]
  congr 1
  rw [ByteArray.data_extract, Array.toList_extract, List.extract_eq_take_drop, show i + 1 - i = 1 by omega, List.drop_eq_getElem_cons h, List.take_succ_cons, List.take_zero]
/-- A digit turned. -/
def tuB (b : UInt8) : UInt8 := if b = 54 then 57 else if b = 57 then 54 else b
def okB (b : UInt8) : Bool := !([51, 52, 55] : List UInt8).contains b
theorem digs_mem {b : UInt8} (h : digB b = true) : b ∈ digs := by
  rw [← digs_is] at h
  exact List.contains_iff_mem.1 h
/-- The reference's answer behind d digits yet to come. -/
def endT (out : List UInt8) (l : List UInt8) : ByteArray × Bool := if l.all okB = true then (mkB (out ++ l.reverse.map tuB), true) else (⟨#[]⟩, false)
theorem endT_snoc (out l : List UInt8) (b : UInt8) : endT out (l ++ [b]) = if okB b = true then endT (out ++ [tuB b]) l else (⟨#[]⟩, false) := by
  unfold endT
  rw [List.all_append, List.all_cons, List.all_nil, Bool.and_true, List.reverse_append]
  cases okB b with
  | false => simp
  | true => simp
theorem one_ev (s : ByteArray) (out : List UInt8) (d : Nat) (b : UInt8) (hd : d < s.data.toList.length) (he : s.data.toList[d] = b) (hb : digB b = true) (hs : s.size ≤ 1000000) (ho : out.length ≤ 1000000)
    (ih : okB b = true → Ev (fun k => spec_TurnNumeral.l0 k s (mkB (out ++ [tuB b])) ((d : Int) - 1)) (endT (out ++ [tuB b]) (s.data.toList.take d))) :
    Ev (fun k => spec_TurnNumeral.l0 k s (mkB out) (d : Int)) (endT out (s.data.toList.take (d + 1))) := by
  have hz := size_list s
  have hbt := bt_nat s d hd
  rw [he] at hbt
  have hex := ex_one s d hd
  rw [he] at hex
  rw [List.take_succ_eq_append_getElem hd, he, endT_snoc]
  have hw : wrap64 ((d : Int) + 1) = ((d + 1 : Nat) : Int) := by rw [w64 (by omega) (by omega)]; omega
  have hw2 : wrap64 ((d : Int) - 1) = (d : Int) - 1 := w64 (by omega) (by omega)
  have hmo : (mkB out).size = out.length := mkB_size out
  have happ : ∀ x, mkB out ++ mkB [x] = mkB (out ++ [x]) := fun x => mkB_app (mkB out) [x]
  have keep : okB b = true → tuB b = b → (∀ k, spec_TurnNumeral.l0 (k + 1) s (mkB out) (d : Int) = spec_TurnNumeral.j1 k s (mkB out) (d : Int) ((b.toNat : Nat) : Int) true) → Ev (fun k => spec_TurnNumeral.l0 k s (mkB out) (d : Int)) (if okB b = true then endT (out ++ [tuB b]) (s.data.toList.take d) else (⟨#[]⟩, false)) := fun ok ht h0 => by
    rw [if_pos ok]
    refine Ev.step h0 (Ev.step (fun k => ?_) (ih ok))
    simp only [spec_TurnNumeral.j1]
    rw [if_pos trivial, if_pos (by omega), hw, if_pos (by omega), if_pos (by omega), Int.toNat_natCast, Int.toNat_natCast, hex, if_pos (by rw [hmo, mkB_size]; simp; omega), happ, hw2, ht]
  have swap : ∀ y : UInt8, okB b = true → tuB b = y → (∀ k, spec_TurnNumeral.l0 (k + 2) s (mkB out) (d : Int) = spec_TurnNumeral.l0 k s (mkB (out ++ [y])) ((d : Int) - 1)) → Ev (fun k => spec_TurnNumeral.l0 k s (mkB out) (d : Int)) (if okB b = true then endT (out ++ [tuB b]) (s.data.toList.take d) else (⟨#[]⟩, false)) := fun y ok ht h0 => by
    rw [if_pos ok]
    have h9 := ih ok
    rw [ht] at h9 ⊢
    exact Ev.step (f := fun k => spec_TurnNumeral.l0 (k + 1) s (mkB out) (d : Int)) (fun k => rfl) (Ev.step h0 h9)
  have bad : okB b = false → (∀ k, spec_TurnNumeral.l0 (k + 2) s (mkB out) (d : Int) = some (⟨#[]⟩, false)) → Ev (fun k => spec_TurnNumeral.l0 k s (mkB out) (d : Int)) (if okB b = true then endT (out ++ [tuB b]) (s.data.toList.take d) else (⟨#[]⟩, false)) := fun ok h0 => by
    rw [if_neg (by rw [ok]; decide)]
    exact Ev.step (f := fun k => spec_TurnNumeral.l0 (k + 1) s (mkB out) (d : Int)) (fun k => rfl) (Ev.step h0 (Ev.now _))
  have hm := digs_mem hb
  have g0 : (d : Int) ≥ 0 := by omega
  have g1 : (0 : Int) ≤ (d : Int) := by omega
  have g2 : (d : Int) < (s.size : Int) := by omega
  have g3 : out.length + 1 ≤ 9223372036854775807 := by omega
  clear ih hb he hex hd
  have e9 : mkB out ++ (⟨#[57]⟩ : ByteArray) = mkB (out ++ [57]) := happ 57
  have e6 : mkB out ++ (⟨#[54]⟩ : ByteArray) = mkB (out ++ [54]) := happ 54
  simp only [digs, List.mem_cons, List.not_mem_nil, or_false] at hm
  rcases hm with rfl | rfl | rfl | rfl | rfl | rfl | rfl | rfl | rfl | rfl
  · exact keep (by decide) (by decide) fun k => by simp only [spec_TurnNumeral.l0]; rw [if_pos g0, if_pos g1, if_pos g2, hbt]; rfl
  · exact keep (by decide) (by decide) fun k => by simp only [spec_TurnNumeral.l0]; rw [if_pos g0, if_pos g1, if_pos g2, hbt]; rfl
  · exact keep (by decide) (by decide) fun k => by simp only [spec_TurnNumeral.l0]; rw [if_pos g0, if_pos g1, if_pos g2, hbt]; rfl
  · exact bad (by decide) fun k => by simp only [spec_TurnNumeral.l0]; rw [if_pos g0, if_pos g1, if_pos g2, hbt]; rfl
  · exact bad (by decide) fun k => by simp only [spec_TurnNumeral.l0]; rw [if_pos g0, if_pos g1, if_pos g2, hbt]; rfl
  · exact keep (by decide) (by decide) fun k => by simp only [spec_TurnNumeral.l0]; rw [if_pos g0, if_pos g1, if_pos g2, hbt]; rfl
  · exact swap 57 (by decide) (by decide) fun k => by
      simp only [spec_TurnNumeral.l0, spec_TurnNumeral.j1]
      rw [if_pos g0, if_pos g1, if_pos g2, hbt, e9, hw2, hmo]
      exact if_pos g3
  · exact bad (by decide) fun k => by simp only [spec_TurnNumeral.l0]; rw [if_pos g0, if_pos g1, if_pos g2, hbt]; rfl
  · exact keep (by decide) (by decide) fun k => by simp only [spec_TurnNumeral.l0]; rw [if_pos g0, if_pos g1, if_pos g2, hbt]; rfl
  · exact swap 54 (by decide) (by decide) fun k => by
      simp only [spec_TurnNumeral.l0, spec_TurnNumeral.j1]
      rw [if_pos g0, if_pos g1, if_pos g2, hbt, e6, hw2, hmo]
      exact if_pos g3
theorem all_turned (s : ByteArray) (hs : s.size ≤ 1000000) (hd : s.data.toList.all digB = true) : ∀ (d : Nat) (out : List UInt8), d ≤ s.data.toList.length → out.length + d ≤ 1000000 → Ev (fun k => spec_TurnNumeral.l0 k s (mkB out) ((d : Int) - 1)) (endT out (s.data.toList.take d)) := by
  intro d
  induction d with
  | zero =>
    intro out _ _
    have e : endT out (s.data.toList.take 0) = (mkB out, true) := by simp [endT]
    rw [e]
    exact Ev.step (f := fun _ => some (mkB out, true)) (fun k => by simp only [spec_TurnNumeral.l0]; rw [if_neg (by omega)]) (Ev.now _)
  | succ d ih =>
    intro out hl ho
    have h := one_ev s out d _ (by omega) rfl (List.all_eq_true.1 hd _ (List.getElem_mem (by omega))) hs (by omega) (fun _ => ih _ (by omega) (by simp; omega))
    rw [show (((d + 1 : Nat) : Int)) - 1 = (d : Int) by omega]
    exact h
theorem any_is (cs : List UInt8) : ∀ l : List UInt8, Go.Lib.containsAny l cs = l.any (cs.contains ·)
  | [] => rfl
  | b :: l => by
    have ih := any_is cs l
    have hg := Go.Lib.indexAny_ge cs l
    unfold Go.Lib.containsAny at ih ⊢
    rw [List.any_cons, ← ih, Go.Lib.indexAny]
    cases hc : cs.contains b with
    | true => simp
    | false =>
      rw [if_neg (by decide), Bool.false_or]
      by_cases h1 : Go.Lib.indexAny l cs = -1
      · rw [h1]; decide
      · rw [if_neg (by simpa using h1)]
        simp only [decide_eq_decide]
        omega
theorem any_ok (l : List UInt8) : Go.Lib.containsAny l [51, 52, 55] = !l.all okB := by
  rw [any_is, List.all_eq_not_any_not, Bool.not_not]
  congr 1
  funext b
  simp [okB]
theorem strOf_rev (t : ByteArray) : strOfNums (bytesOf t).reverse = mkB t.data.toList.reverse := by
  unfold strOfNums bytesOf mkB
  rw [← List.map_reverse, List.map_map]
  congr 2
  exact (List.map_congr_left fun b _ => by show UInt8.ofNat ((b.toNat : Int)).toNat = b; rw [Int.toNat_natCast, UInt8.ofNat_toNat]).trans (List.map_id _)
theorem tu_all : (digs.all fun b => decide (UInt8.ofNat (turnF b.toNat).toNat = tuB b)) = true := by decide +kernel
theorem strOf_turn (s : ByteArray) (hd : s.data.toList.all digB = true) : strOfNums (turnT turnF s) = mkB (s.data.toList.map tuB) := by
  unfold strOfNums turnT bytesOf mkB
  rw [List.map_map, List.map_map]
  congr 2
  refine List.map_congr_left fun b hb => ?_
  have := List.all_eq_true.1 tu_all b (digs_mem (List.all_eq_true.1 hd b hb))
  rw [← of_decide_eq_true this]
  show UInt8.ofNat (turnF ((b.toNat : Int)).toNat).toNat = _
  rw [Int.toNat_natCast]
theorem FnExactTurnNumeral : laws_FnExactTurnNumeral.Pure := by
  intro s _
  by_cases hs : s.size ≤ 1000000
  · have hmain : ∃ v, Ev (fun k => spec_TurnNumeral.f k s) v ∧ impl_TurnNumeral.f s = some v := by
      unfold spec_TurnNumeral.f impl_TurnNumeral.f
      rw [isNumeral_is s 20 (by omega), Option.bind_some]
      have hn := nuNumeral_ev s 20 hs
      cases hb : (inB 1 20 (s.size : Int) && s.data.toList.all digB) with
      | false =>
        rw [hb] at hn
        exact ⟨(⟨#[]⟩, false), Ev.bind hn (Ev.const (by simp)), by simp⟩
      | true =>
        rw [hb] at hn
        rw [Bool.and_eq_true, inB_iff] at hb
        have hz := size_list s
        have h128 : (s.data.toList.all fun b => decide (b.toNat < 128)) = true := List.all_eq_true.2 fun b hbm => decide_eq_true (by
          have := digB_iff.1 (List.all_eq_true.1 hb.2 b hbm)
          omega)
        have h9 := all_turned s hs hb.2 s.data.toList.length [] (Nat.le_refl _) (by simp; omega)
        rw [List.take_length, hz] at h9
        refine ⟨endT [] s.data.toList, Ev.bind hn ?_, ?_⟩
        · refine Ev.congr (fun k => (if_pos rfl).trans ?_) h9
          rw [w64 (by omega) (by omega)]
          rfl
        · rw [if_pos rfl, if_pos ⟨by omega, by omega, h128⟩, any_ok, strOf_turn s hb.2, strOf_rev]
          unfold endT
          cases s.data.toList.all okB with
          | false => rfl
          | true =>
            rw [if_neg (by decide), if_pos rfl, List.nil_append, List.map_reverse]
            rfl
    obtain ⟨v, ⟨K, hK⟩, hi⟩ := hmain
    have hK0 : spec_TurnNumeral.f K s = some v := hK K (Nat.le_refl _)
    refine ⟨K, ?_⟩
    unfold laws_FnExactTurnNumeral.f
    rw [if_neg (by omega), hK0, Option.bind_some, hi, Option.bind_some, if_pos rfl, if_neg (by simp)]
  · refine ⟨0, ?_⟩
    unfold laws_FnExactTurnNumeral.f
    rw [if_pos (by omega)]

end Go.Proofs.YtmjlmmfhcabnfaaDoor.Pure
