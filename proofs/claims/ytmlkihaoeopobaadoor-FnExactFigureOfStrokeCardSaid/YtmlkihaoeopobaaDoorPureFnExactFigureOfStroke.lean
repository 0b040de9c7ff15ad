/- Proved here: the pure statement of FnExactFigureOfStroke: NOT YET; its parts. -/
import Derived.Test.YtmlkihaoeopobaaDoorQFnExactFigureOfStrokex9
set_option linter.unusedVariables false
set_option linter.unusedSimpArgs false
namespace Go.Proofs.YtmlkihaoeopobaaDoor.Pure
open Go.RowKit Go.Proofs.YtmlkihaoeopobaaDoor.Q Go.Proofs.YtmlkihaoeopobaaDoorW.PrintWords Go.Proofs.YtmlkihaoeopobaaDoorW.PrintLast

theorem w64 {n : Int} (h0 : -9223372036854775808 ≤ n) (h1 : n ≤ 9223372036854775807) : wrap64 n = n := by unfold wrap64; omega
theorem Ev.const {α : Type} {x : Option α} {r : α} (h : x = some r) : Ev (fun _ => x) r := ⟨0, fun _ _ => h⟩
/-- A loop from lo on that ends early with 'bad', or runs through. -/
theorem all_ev {β : Type} (g : Nat → Int → Option β) (p : Nat → Bool) (good bad : β) (lo n : Nat)
    (hgood : ∀ i r, lo ≤ i → i < n → p i = true → Ev (fun k => g k ((i + 1 : Nat) : Int)) r → Ev (fun k => g k (i : Int)) r)
    (hbad : ∀ i, lo ≤ i → i < n → p i = false → Ev (fun k => g k (i : Int)) bad)
    (fin : ∀ i, n ≤ i → i ≤ n + lo → Ev (fun k => g k (i : Int)) good) : ∀ d a, n - a = d → lo ≤ a → a ≤ n + lo → Ev (fun k => g k (a : Int)) (if (List.range' a (n - a)).all p = true then good else bad) := by
  intro d
  induction d with
  | zero =>
    intro a ha hlo hle
    rw [ha]
    simpa using fin a (by omega) hle
  | succ d ih =>
    intro a ha hlo hle
    rw [ha, List.range'_succ, List.all_cons]
    cases hp : p a with
    | true =>
      have := ih (a + 1) (by omega) (by omega) (by omega)
      rw [show n - (a + 1) = d by omega] at this
      simp only [Bool.true_and]
      exact hgood a _ hlo (by omega) hp this
    | false =>
      simp only [Bool.false_and]
      exact hbad a hlo (by omega) hp
/-- The same where it answers whether all held. -/
theorem all_evB (g : Nat → Int → Option Bool) (p : Nat → Bool) (lo n : Nat)
    (hgood : ∀ i r, lo ≤ i → i < n → p i = true → Ev (fun k => g k ((i + 1 : Nat) : Int)) r → Ev (fun k => g k (i : Int)) r)
    (hbad : ∀ i, lo ≤ i → i < n → p i = false → Ev (fun k => g k (i : Int)) false)
    (fin : ∀ i, n ≤ i → i ≤ n + lo → Ev (fun k => g k (i : Int)) true) : Ev (fun k => g k (lo : Int)) ((List.range' lo (n - lo)).all p) := by
  have h := all_ev g p true false lo n hgood hbad fin (n - lo) lo rfl (Nat.le_refl _) (by omega)
  cases hb : (List.range' lo (n - lo)).all p <;> simpa [hb] using h
/-- A loop that carries a state s; P: what is known of it. -/
theorem fold_ev {σ β : Type} (g : Nat → σ → Int → Option β) (f : σ → Nat → σ) (h : σ → β) (P : Nat → σ → Prop) (n : Nat)
    (step : ∀ s i r, i < n → P i s → (P (i + 1) (f s i) ∧ (Ev (fun k => g k (f s i) ((i + 1 : Nat) : Int)) r → Ev (fun k => g k s (i : Int)) r)))
    (fin : ∀ s, P n s → Ev (fun k => g k s (n : Int)) (h s)) : ∀ d a s, n - a = d → a ≤ n → P a s → Ev (fun k => g k s (a : Int)) (h ((List.range' a (n - a)).foldl f s)) := by
  intro d
  induction d with
  | zero =>
    intro a s ha hle hP
    obtain rfl : a = n := by omega
    simpa using fin s hP
  | succ d ih =>
    intro a s ha hle hP
    rw [ha, List.range'_succ, List.foldl_cons]
    have := step s a (h ((List.range' (a + 1) d).foldl f (f s a))) (by omega) hP
    refine this.2 ?_
    have h2 := ih (a + 1) (f s a) (by omega) (by omega) this.1
    rw [show n - (a + 1) = d by omega] at h2
    exact h2
theorem rd_nat (l : List Int) (i : Nat) (h : i < l.length) : rd l (i : Int) = l[i] := by unfold rd; rw [Int.toNat_natCast]; simp [List.getD_eq_getElem?_getD, h]
theorem all_range (l : List Int) (q : Int → Bool) : (List.range' 0 l.length).all (fun i => q (rd l (i : Int))) = l.all q := by
  rw [Bool.eq_iff_iff, List.all_eq_true, List.all_eq_true]
  constructor
  · intro h x hx
    obtain ⟨i, hi, rfl⟩ := List.getElem_of_mem hx
    have := h i (by simp; omega)
    rwa [rd_nat l i hi] at this
  · intro h i hi
    have hi : i < l.length := by simp at hi; omega
    rw [rd_nat l i hi]
    exact h _ (List.getElem_mem hi)
def inB (lo hi : Int) (x : Int) : Bool := decide (lo ≤ x) && decide (x ≤ hi)
theorem inB_iff {lo hi x : Int} : inB lo hi x = true ↔ lo ≤ x ∧ x ≤ hi := by simp [inB]
theorem l1In_is (a lo hi : Int) : spec_l1In.f a lo hi = some (inB lo hi a) := by
  unfold spec_l1In.f inB
  by_cases h : a ≥ lo
  · rw [if_pos h, decide_eq_true (show lo ≤ a from h), Bool.true_and]
  · rw [if_neg h, decide_eq_false (show ¬ lo ≤ a from h), Bool.false_and]
theorem within_is (a lo hi : Int) : impl_within.f a lo hi = some (inB lo hi a) := by
  unfold impl_within.f inB
  by_cases h : lo ≤ a
  · rw [if_pos h, decide_eq_true h, Bool.true_and]
  · rw [if_neg h, decide_eq_false h, Bool.false_and]
theorem fiGrid_is (w h : Int) : spec_fiGrid.f w h = some (inB 1 4 w && inB 1 4 h) := by
  unfold spec_fiGrid.f
  simp only [l1In_is, Option.bind_some]
  cases inB 1 4 w <;> simp
theorem isGrid_is (w h : Int) : impl_isGrid.f w h = some (inB 1 4 w && inB 1 4 h) := by
  unfold impl_isGrid.f
  simp only [within_is, Option.bind_some]
  cases inB 1 4 w <;> simp
theorem grid_bounds {w h : Int} (hw : 1 ≤ w ∧ w ≤ 4) (hh : 1 ≤ h ∧ h ≤ 4) : 2 ≤ w * (h + 1) ∧ w * (h + 1) ≤ 20 ∧ 2 ≤ (w + 1) * h ∧ (w + 1) * h ≤ 20 ∧ 2 ≤ h * (w + 1) ∧ h * (w + 1) ≤ 20 ∧ 1 ≤ w * h ∧ w * h ≤ 16 ∧ h * (w + 1) = (w + 1) * h := by
  have hc : w = 1 ∨ w = 2 ∨ w = 3 ∨ w = 4 := by omega
  rcases hc with rfl | rfl | rfl | rfl <;> omega
theorem levels_is {w h : Int} (hw : 1 ≤ w ∧ w ≤ 4) (hh : 1 ≤ h ∧ h ≤ 4) : impl_grid_levels.f w h = some (w * (h + 1)) := by
  have B := grid_bounds hw hh
  unfold impl_grid_levels.f
  rw [w64 (n := h + 1) (by omega) (by omega), w64 (n := w * (h + 1)) (by omega) (by omega)]
theorem wu64 (n : Int) (h0 : 0 ≤ n) (h1 : n < 2 ^ 63) : IntKind.u64.wrap n = n := by
  simp only [IntKind.wrap, IntKind.bits, IntKind.signed]
  simp
  omega
/-- a without what b has. -/
def andN (a b : Nat) : Nat := a ^^^ (a &&& b)
theorem testBit_andN (a b i : Nat) : (andN a b).testBit i = (a.testBit i && !b.testBit i) := by
  unfold andN
  rw [Nat.testBit_xor, Nat.testBit_and]
  cases a.testBit i <;> cases b.testBit i <;> rfl
theorem andN_le (a b : Nat) : andN a b ≤ a := by
  apply Nat.le_of_testBit
  intro i h
  rw [testBit_andN] at h
  simp at h
  exact h.1
theorem castlt {n : Nat} (h : n < 2 ^ 63) : ((n : Nat) : Int) < 2 ^ 63 := by exact_mod_cast h
section
variable (k : IntKind) (hk : ∀ n : Int, 0 ≤ n → n < 2 ^ 63 → k.wrap n = n) (hb : k.bits = 64) (a b : Nat) (ha : a < 2 ^ 63) (hbb : b < 2 ^ 63)
include hk hb ha hbb
theorem bits_or : Go.bits .or k a b = ((a ||| b : Nat) : Int) := (bits_nat k 63 (by omega) hk a b ha hbb).2
theorem bits_and : Go.bits .and k a b = ((a &&& b : Nat) : Int) := (bits_nat k 63 (by omega) hk a b ha hbb).1
end
theorem oru (a b : Nat) (ha : a < 2 ^ 63) (hb : b < 2 ^ 63) : Go.bits .or .u64 a b = ((a ||| b : Nat) : Int) := bits_or .u64 wu64 rfl a b ha hb
theorem andu (a b : Nat) (ha : a < 2 ^ 63) (hb : b < 2 ^ 63) : Go.bits .and .u64 a b = ((a &&& b : Nat) : Int) := bits_and .u64 wu64 rfl a b ha hb
theorem shl_one (k : IntKind) (hk : ∀ n : Int, 0 ≤ n → n < 2 ^ 63 → k.wrap n = n) (hb : k.bits = 64) (e : Int) (h0 : 0 ≤ e) (h1 : e < 63) : Go.Proofs.YtmlkihaoeopobaaDoorW.PrintWords.shl k 1 e = ((2 ^ e.toNat : Nat) : Int) := by
  obtain ⟨n, rfl⟩ := Int.eq_ofNat_of_zero_le h0
  unfold Go.Proofs.YtmlkihaoeopobaaDoorW.PrintWords.shl
  rw [Int.toNat_natCast, Nat.min_eq_left (by rw [hb]; omega), Int.one_mul]
  have hp : 2 ^ n < 2 ^ 63 := Nat.pow_lt_pow_right (by decide) (by omega)
  have hc : ((2 : Int) ^ n) = ((2 ^ n : Nat) : Int) := by simp
  rw [hc]
  exact hk _ (Int.natCast_nonneg _) (castlt hp)
theorem shlu (e : Int) (h0 : 0 ≤ e) (h1 : e < 63) : Go.Proofs.YtmlkihaoeopobaaDoorW.PrintWords.shl .u64 1 e = ((2 ^ e.toNat : Nat) : Int) := shl_one .u64 wu64 rfl e h0 h1
theorem testBit_pow (e j : Nat) : (2 ^ e).testBit j = decide (e = j) := Nat.testBit_two_pow
theorem pow_lt63 {e : Nat} (h : e < 63) : 2 ^ e < 2 ^ 63 := Nat.pow_lt_pow_right (by decide) h
theorem and_pow_ne (m e : Nat) : (m &&& 2 ^ e ≠ 0) ↔ m.testBit e = true := by
  constructor
  · intro h
    cases hb : m.testBit e with
    | true => rfl
    | false =>
      exfalso
      apply h
      apply Nat.eq_of_testBit_eq
      intro i
      rw [Nat.testBit_and, testBit_pow, Nat.zero_testBit]
      by_cases hi : e = i
      · subst hi; simp [hb]
      · simp [hi]
  · intro h h0
    have := congrArg (fun n => n.testBit e) h0
    simp [Nat.testBit_and, testBit_pow, h] at this

def edges (w h : Int) (a b : List Int) : List Int := a ++ b.map (fun x => w * (h + 1) + x)
theorem range_foldlG {α σ : Type} (l : List α) (rdx : Int → α) (hrd : ∀ i, ∀ h : i < l.length, rdx ((i : Nat) : Int) = l[i]) (f : σ → α → σ) : ∀ s, (List.range' 0 l.length).foldl (fun s (i : Nat) => f s (rdx (i : Int))) s = l.foldl f s := by
  have key : ∀ (d a : Nat) (s : σ), a + d = l.length → (List.range' a d).foldl (fun s (i : Nat) => f s (rdx (i : Int))) s = (l.drop a).foldl f s := by
    intro d
    induction d with
    | zero => intro a s h; rw [List.drop_of_length_le (by omega)]; rfl
    | succ d ih =>
      intro a s h
      have ha : a < l.length := by omega
      rw [List.range'_succ, List.foldl_cons, ih (a + 1) _ (by omega), List.drop_eq_getElem_cons ha, List.foldl_cons, hrd a ha]
  intro s
  have := key l.length 0 s (by omega)
  simpa using this
theorem foldl_filter {α β : Type} (p : α → Bool) (g : α → β) : ∀ (l : List α) (s : List β), l.foldl (fun s x => if p x = true then s ++ [g x] else s) s = s ++ (l.filter p).map g
  | [], s => by simp
  | x :: l, s => by
    rw [List.foldl_cons, foldl_filter p g l, List.filter_cons]
    by_cases h : p x = true
    · rw [if_pos h, if_pos h, List.map_cons, List.append_assoc]
      rfl
    · rw [if_neg h, if_neg h]
theorem foldl_filter_le {α β : Type} (p : α → Bool) (g : α → β) (l : List α) (s : List β) (i : Nat) (h : s.length ≤ i) (x : α) : (if p x = true then s ++ [g x] else s).length ≤ i + 1 := by
  split
  · simp
    omega
  · omega

theorem l1Has_ev (l : List Int) (hl : l.length ≤ 9223372036854775807) (n : Int) : Ev (fun k => spec_l1Has.f k l n) (l.any (fun x => decide (x = n))) := by
  have h := all_ev (fun k i => spec_l1Has.l0 k n l (l.length : Int) i) (fun i => !decide (rd l (i : Int) = n)) false true 0 l.length
    (fun i r _ hi hp hr => Ev.step (fun k => by simp only [spec_l1Has.l0]; rw [if_pos (by omega), if_pos (by omega), if_pos (by omega), if_neg (by simpa using hp), w64 (by omega) (by omega)]; rfl) hr)
    (fun i _ hi hp => Ev.step (fun k => by simp only [spec_l1Has.l0]; rw [if_pos (by omega), if_pos (by omega), if_pos (by omega), if_pos (by simpa using hp)]) (Ev.now true))
    (fun i hi _ => Ev.step (fun k => by simp only [spec_l1Has.l0]; rw [if_neg (by omega)]) (Ev.now false)) l.length 0 (by omega) (by omega) (by omega)
  rw [Nat.sub_zero, all_range l (fun x => !decide (x = n))] at h
  have e : (l.all fun x => !decide (x = n)) = !(l.any fun x => decide (x = n)) := by rw [List.any_eq_not_all_not]; simp
  rw [e] at h
  cases ha : (l.any fun x => decide (x = n)) <;> (rw [ha] at h; exact h)

theorem fiThose_ev (a c : List Int) (ha : a.length ≤ 1000000) (hc : c.length ≤ 9223372036854775807) (b : Bool) : Ev (fun k => spec_fiThose.f k a c b) (a.filter (fun x => (c.any (fun z => decide (z = x))) == b)) := by
  have h0 := fold_ev (fun k (s : List Int) i => spec_fiThose.l0 k c b s a (a.length : Int) i) (fun s i => if ((c.any (fun z => decide (z = rd a (i : Int)))) == b) = true then s ++ [rd a (i : Int)] else s) (fun s => s) (fun i s => s.length ≤ i) a.length
    (fun s i r hi hs => by
      refine ⟨foldl_filter_le (fun x : Int => (c.any (fun z => decide (z = x))) == b) (fun x => x) a s i hs (rd a (i : Int)), fun hr => ?_⟩
      refine Ev.step (f := fun k => (spec_l1Has.f k c (rd a (i : Int))).bind fun t147 => (if (t147 == b) = true then (if s.length < 17592186044416 then (spec_fiThose.l0 k c b (s ++ [rd a (i : Int)]) a (a.length : Int) (wrap64 ((i : Int) + 1))) else (none)) else (spec_fiThose.l0 k c b s a (a.length : Int) (wrap64 ((i : Int) + 1))))) (fun k => by simp only [spec_fiThose.l0]; rw [if_pos (by omega), if_pos (by omega), if_pos (by omega)]) ?_
      refine Ev.bind (l1Has_ev c hc _) ?_
      rw [w64 (by omega) (by omega)]
      cases hq : ((c.any (fun z => decide (z = rd a (i : Int)))) == b) with
      | true =>
        rw [hq, if_pos rfl] at hr
        refine Ev.congr (fun k => ?_) hr
        rw [if_pos rfl, if_pos (by omega)]
        rfl
      | false =>
        rw [hq, if_neg (by simp)] at hr
        refine Ev.congr (fun k => ?_) hr
        rw [if_neg (by simp)]
        rfl)
    (fun s hs => Ev.step (fun k => by simp only [spec_fiThose.l0]; rw [if_neg (by omega)]) (Ev.now _)) a.length 0 [] (by omega) (by omega) (by simp)
  rw [Nat.sub_zero, range_foldlG a (fun i => rd a i) (fun i hi => rd_nat a i hi) (fun s x => if ((c.any (fun z => decide (z = x))) == b) = true then s ++ [x] else s), foldl_filter (fun x : Int => (c.any (fun z => decide (z = x))) == b) (fun x => x), List.nil_append, List.map_id'] at h0
  exact h0
def edgeIn (w h : Int) (u : Bool) (x y : Int) : Bool := if u = true then inB 0 w x && inB 0 (h - 1) y else inB 0 (w - 1) x && inB 0 h y
def edgeNo (w : Int) (u : Bool) (x y : Int) : Int := if u = true then y * (w + 1) + x else y * w + x
def edgeOff (w h : Int) (u : Bool) : Int := if u = true then w * (h + 1) else 0
theorem edge_bounds {w h : Int} (hw : 1 ≤ w ∧ w ≤ 4) (hh : 1 ≤ h ∧ h ≤ 4) {u : Bool} {x y : Int} (hi : edgeIn w h u x y = true) : 0 ≤ edgeNo w u x y ∧ edgeNo w u x y < (if u = true then (w + 1) * h else w * (h + 1)) ∧ 0 ≤ x ∧ x ≤ 4 ∧ 0 ≤ y ∧ y ≤ 4 ∧ y * (w + 1) ≤ 20 ∧ 0 ≤ y * (w + 1) ∧ y * w ≤ 20 ∧ 0 ≤ y * w := by
  have hc : w = 1 ∨ w = 2 ∨ w = 3 ∨ w = 4 := by omega
  unfold edgeIn at hi
  unfold edgeNo
  cases u with
  | true =>
    simp only [if_true, Bool.and_eq_true, inB_iff] at hi ⊢
    rcases hc with rfl | rfl | rfl | rfl <;> omega
  | false =>
    simp only [Bool.false_eq_true, if_false, Bool.and_eq_true, inB_iff] at hi ⊢
    rcases hc with rfl | rfl | rfl | rfl <;> omega
theorem fiEdge_is {w h : Int} (hw : 1 ≤ w ∧ w ≤ 4) (hh : 1 ≤ h ∧ h ≤ 4) (a b : List Int) {u : Bool} {x y : Int} (hi : edgeIn w h u x y = true) : spec_fiEdge.f w h a b u x y = some (edgeNo w u x y, true) := by
  have B := edge_bounds hw hh hi
  unfold edgeIn at hi
  unfold spec_fiEdge.f edgeNo
  cases u with
  | true =>
    simp only [if_true, Bool.and_eq_true] at hi ⊢
    rw [l1In_is, hi.1, Option.bind_some, if_pos rfl, w64 (n := h - 1) (by omega) (by omega), l1In_is, hi.2, Option.bind_some, w64 (n := w + 1) (by omega) (by omega), w64 (n := y * (w + 1)) (by omega) (by omega), w64 (by omega) (by omega)]
  | false =>
    simp only [Bool.false_eq_true, if_false, Bool.and_eq_true] at hi ⊢
    rw [w64 (n := w - 1) (by omega) (by omega), l1In_is, hi.1, Option.bind_some, if_pos rfl, l1In_is, hi.2, Option.bind_some, w64 (n := y * w) (by omega) (by omega), w64 (by omega) (by omega)]
def hasE (w : Int) (a b : List Int) (u : Bool) (x y : Int) : Bool := (if u = true then b else a).any (fun z => decide (z = edgeNo w u x y))
theorem fiHas_ev {w h : Int} (hw : 1 ≤ w ∧ w ≤ 4) (hh : 1 ≤ h ∧ h ≤ 4) (a b : List Int) (ha : a.length ≤ 9223372036854775807) (hb : b.length ≤ 9223372036854775807) {u : Bool} {x y : Int} (hi : edgeIn w h u x y = true) : Ev (fun k => spec_fiHas.f k w h a b u x y) (hasE w a b u x y) := by
  unfold spec_fiHas.f hasE
  rw [fiEdge_is hw hh a b hi]
  simp only [Option.bind_some]
  cases u with
  | true =>
    simp only [if_true]
    exact Ev.bind (l1Has_ev b hb _) (Ev.now _)
  | false =>
    simp only [Bool.false_eq_true, if_false]
    exact Ev.bind (l1Has_ev a ha _) (Ev.now _)
theorem upright_is {w h : Int} (hw : 1 ≤ w ∧ w ≤ 4) (hh : 1 ≤ h ∧ h ≤ 4) {x y : Int} (hi : edgeIn w h true x y = true) : impl_grid_upright.f w h x y = some ((2 ^ (edgeOff w h true + edgeNo w true x y).toNat : Nat) : Int) := by
  have B := edge_bounds hw hh hi
  have G := grid_bounds hw hh
  unfold impl_grid_upright.f
  unfold edgeNo edgeOff at *
  simp only [if_true] at B ⊢
  rw [levels_is hw hh, Option.bind_some, w64 (n := w + 1) (by omega) (by omega), w64 (n := y * (w + 1)) (by omega) (by omega), w64 (n := w * (h + 1) + y * (w + 1)) (by omega) (by omega), w64 (n := w * (h + 1) + y * (w + 1) + x) (by omega) (by omega), if_pos (by omega), shlu _ (by omega) (by omega), Int.add_assoc]
theorem level_is {w h : Int} (hw : 1 ≤ w ∧ w ≤ 4) (hh : 1 ≤ h ∧ h ≤ 4) {x y : Int} (hi : edgeIn w h false x y = true) : impl_grid_level.f w h x y = some ((2 ^ (edgeOff w h false + edgeNo w false x y).toNat : Nat) : Int) := by
  have B := edge_bounds hw hh hi
  unfold impl_grid_level.f
  unfold edgeNo edgeOff at *
  simp only [Bool.false_eq_true, if_false] at B ⊢
  rw [w64 (n := y * w) (by omega) (by omega), w64 (by omega) (by omega), if_pos (by omega), shlu _ (by omega) (by omega), Int.zero_add]
def dU (d : Nat) : Bool := d == 0 || d == 2
def dX (d : Nat) (x : Int) : Int := if d = 3 then x - 1 else x
def dY (d : Nat) (y : Int) : Int := if d = 0 then y - 1 else y
def meetB (w h : Int) (a b : List Int) (x y : Int) (d : Nat) : Bool := edgeIn w h (dU d) (dX d x) (dY d y) && hasE w a b (dU d) (dX d x) (dY d y)
/-- The corner where a way ends. -/
def nX (d : Nat) (x : Int) : Int := if d = 1 then x + 1 else if d = 3 then x - 1 else x
def nY (d : Nat) (y : Int) : Int := if d = 2 then y + 1 else if d = 0 then y - 1 else y
def cornIn (w h x y : Int) : Bool := inB 0 w x && inB 0 h y
theorem dcases {d : Nat} (hd : d < 4) : d = 0 ∨ d = 1 ∨ d = 2 ∨ d = 3 := by omega
theorem liNext_ev {w h : Int} (hw : 1 ≤ w ∧ w ≤ 4) (hh : 1 ≤ h ∧ h ≤ 4) (a b : List Int) (ha : a.length ≤ 9223372036854775807) (hb : b.length ≤ 9223372036854775807) {x y : Int} (hc : cornIn w h x y = true) (d : Nat) (hd : d < 4) :
    Ev (fun k => spec_liNext.f k w h a b x y (d : Int)) (nX d x, nY d y, meetB w h a b x y d) := by
  unfold cornIn at hc
  simp only [Bool.and_eq_true, inB_iff] at hc
  obtain ⟨⟨x0, x1⟩, y0, y1⟩ := hc
  unfold spec_liNext.f meetB
  rcases dcases hd with rfl | rfl | rfl | rfl
  · simp only [show (((0 : Nat) : Int) = 0) = True by simp, if_true, show dU 0 = true from rfl, show nX 0 x = x from rfl, show nY 0 y = y - 1 from rfl, show dX 0 x = x from rfl, show dY 0 y = y - 1 from rfl, w64 (n := y - 1) (by omega) (by omega)]
    by_cases c : y > 0
    · have hi : edgeIn w h true x (y - 1) = true := by simp only [edgeIn, if_true, Bool.and_eq_true, inB_iff]; omega
      simp only [if_pos c, hi, Bool.true_and]
      exact Ev.bind (fiHas_ev hw hh a b ha hb hi) (Ev.now _)
    · have hi : edgeIn w h true x (y - 1) = false := by rw [Bool.eq_false_iff]; intro hh'; simp only [edgeIn, if_true, Bool.and_eq_true, inB_iff] at hh'; omega
      simp only [if_neg c, hi, Bool.false_and]
      exact Ev.now _
  · simp only [show (((1 : Nat) : Int) = 0) = False by simp, show (((1 : Nat) : Int) = 1) = True by simp, if_true, if_false, show dU 1 = false from rfl, show nX 1 x = x + 1 from rfl, show nY 1 y = y from rfl, show dX 1 x = x from rfl, show dY 1 y = y from rfl, w64 (n := x + 1) (by omega) (by omega)]
    by_cases c : x < w
    · have hi : edgeIn w h false x y = true := by simp only [edgeIn, Bool.false_eq_true, if_false, Bool.and_eq_true, inB_iff]; omega
      simp only [if_pos c, hi, Bool.true_and]
      exact Ev.bind (fiHas_ev hw hh a b ha hb hi) (Ev.now _)
    · have hi : edgeIn w h false x y = false := by rw [Bool.eq_false_iff]; intro hh'; simp only [edgeIn, Bool.false_eq_true, if_false, Bool.and_eq_true, inB_iff] at hh'; omega
      simp only [if_neg c, hi, Bool.false_and]
      exact Ev.now _
  · simp only [show (((2 : Nat) : Int) = 0) = False by simp, show (((2 : Nat) : Int) = 1) = False by simp, show (((2 : Nat) : Int) = 2) = True by simp, if_true, if_false, show dU 2 = true from rfl, show nX 2 x = x from rfl, show nY 2 y = y + 1 from rfl, show dX 2 x = x from rfl, show dY 2 y = y from rfl, w64 (n := y + 1) (by omega) (by omega)]
    by_cases c : y < h
    · have hi : edgeIn w h true x y = true := by simp only [edgeIn, if_true, Bool.and_eq_true, inB_iff]; omega
      simp only [if_pos c, hi, Bool.true_and]
      exact Ev.bind (fiHas_ev hw hh a b ha hb hi) (Ev.now _)
    · have hi : edgeIn w h true x y = false := by rw [Bool.eq_false_iff]; intro hh'; simp only [edgeIn, if_true, Bool.and_eq_true, inB_iff] at hh'; omega
      simp only [if_neg c, hi, Bool.false_and]
      exact Ev.now _
  · simp only [show (((3 : Nat) : Int) = 0) = False by simp, show (((3 : Nat) : Int) = 1) = False by simp, show (((3 : Nat) : Int) = 2) = False by simp, if_false, show dU 3 = false from rfl, show nX 3 x = x - 1 from rfl, show nY 3 y = y from rfl, show dX 3 x = x - 1 from rfl, show dY 3 y = y from rfl, w64 (n := x - 1) (by omega) (by omega)]
    by_cases c : x > 0
    · have hi : edgeIn w h false (x - 1) y = true := by simp only [edgeIn, Bool.false_eq_true, if_false, Bool.and_eq_true, inB_iff]; omega
      simp only [if_pos c, hi, Bool.true_and]
      exact Ev.bind (fiHas_ev hw hh a b ha hb hi) (Ev.now _)
    · have hi : edgeIn w h false (x - 1) y = false := by rw [Bool.eq_false_iff]; intro hh'; simp only [edgeIn, Bool.false_eq_true, if_false, Bool.and_eq_true, inB_iff] at hh'; omega
      simp only [if_neg c, hi, Bool.false_and]
      exact Ev.now _
/-- The letter of a way. -/
def dL (d : Nat) : Int := rd [110, 101, 115, 119] (d : Int)
theorem next_is (x y : Int) (x0 : 0 ≤ x ∧ x ≤ 4) (y0 : 0 ≤ y ∧ y ≤ 4) (d : Nat) (hd : d < 4) : impl_Corner_next.f x y (dL d) = some (if d = 1 then x + 1 else dX d x, if d = 2 then y + 1 else dY d y) := by
  unfold impl_Corner_next.f
  rcases dcases hd with rfl | rfl | rfl | rfl
  · simp only [show dL 0 = 110 from rfl, if_true, show dX 0 x = x from rfl, show dY 0 y = y - 1 from rfl, w64 (n := y - 1) (by omega) (by omega)]; simp
  · simp only [show dL 1 = 101 from rfl, show dX 1 x = x from rfl, show dY 1 y = y from rfl, w64 (n := x + 1) (by omega) (by omega)]; simp
  · simp only [show dL 2 = 115 from rfl, show dX 2 x = x from rfl, show dY 2 y = y from rfl, w64 (n := y + 1) (by omega) (by omega)]; simp
  · simp only [show dL 3 = 119 from rfl, show dX 3 x = x - 1 from rfl, show dY 3 y = y from rfl, w64 (n := x - 1) (by omega) (by omega)]; simp
def edgeBit (w h : Int) (x y : Int) (d : Nat) : Nat := if edgeIn w h (dU d) (dX d x) (dY d y) = true then 2 ^ (edgeOff w h (dU d) + edgeNo w (dU d) (dX d x) (dY d y)).toNat else 0
theorem isCorner_is (w h x y : Int) : impl_grid_isCorner.f w h x y = some (cornIn w h x y) := by
  unfold impl_grid_isCorner.f cornIn
  rw [within_is, Option.bind_some]
  cases inB 0 w x with
  | false => simp
  | true => simp [within_is]
theorem between_ev {w h : Int} (hw : 1 ≤ w ∧ w ≤ 4) (hh : 1 ≤ h ∧ h ≤ 4) {x y : Int} (hc : cornIn w h x y = true) (d : Nat) (hd : d < 4) :
    Ev (fun k => impl_grid_between.f k w h x y (dL d)) ((edgeBit w h x y d : Nat) : Int) := by
  have hc' := hc
  unfold cornIn at hc
  simp only [Bool.and_eq_true, inB_iff] at hc
  obtain ⟨⟨x0, x1⟩, y0, y1⟩ := hc
  unfold impl_grid_between.f edgeBit
  simp only [next_is x y ⟨by omega, by omega⟩ ⟨by omega, by omega⟩ d hd, isCorner_is, hc', Option.bind_some, if_true]
  have hce : cornIn w h (if d = 1 then x + 1 else dX d x) (if d = 2 then y + 1 else dY d y) = edgeIn w h (dU d) (dX d x) (dY d y) := by
    rw [Bool.eq_iff_iff]
    rcases dcases hd with rfl | rfl | rfl | rfl
    · simp only [cornIn, edgeIn, show dU 0 = true from rfl, show dX 0 x = x from rfl, show dY 0 y = y - 1 from rfl, Bool.and_eq_true, inB_iff, if_true, show ((0 : Nat) = 1) = False by simp, show ((0 : Nat) = 2) = False by simp, if_false]; omega
    · simp only [cornIn, edgeIn, show dU 1 = false from rfl, show dX 1 x = x from rfl, show dY 1 y = y from rfl, Bool.and_eq_true, inB_iff, if_true, show ((1 : Nat) = 2) = False by simp, Bool.false_eq_true, if_false]; omega
    · simp only [cornIn, edgeIn, show dU 2 = true from rfl, show dX 2 x = x from rfl, show dY 2 y = y from rfl, Bool.and_eq_true, inB_iff, if_true, show ((2 : Nat) = 1) = False by simp, if_false]; omega
    · simp only [cornIn, edgeIn, show dU 3 = false from rfl, show dX 3 x = x - 1 from rfl, show dY 3 y = y from rfl, Bool.and_eq_true, inB_iff, Bool.false_eq_true, show ((3 : Nat) = 1) = False by simp, show ((3 : Nat) = 2) = False by simp, if_false]; omega
  rw [hce]
  cases he : edgeIn w h (dU d) (dX d x) (dY d y) with
  | false => exact Ev.step (f := fun _ => some (0 : Int)) (fun k => by simp [impl_grid_between.j0]) (Ev.now _)
  | true =>
    simp only [if_true]
    refine Ev.step (f := fun _ => some (((2 ^ (edgeOff w h (dU d) + edgeNo w (dU d) (dX d x) (dY d y)).toNat : Nat) : Int))) (fun k => ?_) (Ev.now _)
    simp only [impl_grid_between.j0]
    rw [if_neg (by simp)]
    rcases dcases hd with rfl | rfl | rfl | rfl
    · have he : edgeIn w h true x (y - 1) = true := he
      simp only [show dU 0 = true from rfl, show dX 0 x = x from rfl, show dY 0 y = y - 1 from rfl, show ((0 : Nat) = 1) = False by simp, show ((0 : Nat) = 2) = False by simp, if_false]
      rw [if_neg (by omega), show mn y (y - 1) = y - 1 by unfold mn; rw [if_pos (by omega)], upright_is hw hh he]
      rfl
    · have he : edgeIn w h false x y = true := he
      simp only [show dU 1 = false from rfl, show dX 1 x = x from rfl, show dY 1 y = y from rfl, show ((1 : Nat) = 2) = False by simp, if_true, if_false]
      rw [show mn x (x + 1) = x by unfold mn; rw [if_neg (by omega)], level_is hw hh he]
      rfl
    · have he : edgeIn w h true x y = true := he
      simp only [show dU 2 = true from rfl, show dX 2 x = x from rfl, show dY 2 y = y from rfl, show ((2 : Nat) = 1) = False by simp, if_true, if_false]
      rw [if_neg (by omega), show mn y (y + 1) = y by unfold mn; rw [if_neg (by omega)], upright_is hw hh he]
      rfl
    · have he : edgeIn w h false (x - 1) y = true := he
      simp only [show dU 3 = false from rfl, show dX 3 x = x - 1 from rfl, show dY 3 y = y from rfl, show ((3 : Nat) = 1) = False by simp, show ((3 : Nat) = 2) = False by simp, if_true, if_false]
      rw [show mn x (x - 1) = x - 1 by unfold mn; rw [if_pos (by omega)], level_is hw hh he]
      rfl

theorem and_div2' (a b : Nat) : (a &&& b) / 2 = a / 2 &&& b / 2 := by
  apply Nat.eq_of_testBit_eq
  intro i
  simp [Nat.testBit_div_two, Nat.testBit_and]
theorem and_odd' (a b : Nat) : ((a &&& b) % 2 = 1) ↔ (a % 2 = 1 ∧ b % 2 = 1) := by
  have h := Nat.testBit_and a b 0
  rw [Nat.testBit_zero, Nat.testBit_zero, Nat.testBit_zero, ← Bool.decide_and, decide_eq_decide] at h
  exact h
theorem andN_odd' (a b : Nat) : ((andN a b) % 2 = 1) ↔ (a % 2 = 1 ∧ ¬ b % 2 = 1) := by
  have h := testBit_andN a b 0
  rw [Nat.testBit_zero, Nat.testBit_zero, Nat.testBit_zero, ← decide_not, ← Bool.decide_and, decide_eq_decide] at h
  exact h
theorem andN_div2 (a b : Nat) : (andN a b) / 2 = andN (a / 2) (b / 2) := by
  apply Nat.eq_of_testBit_eq
  intro i
  rw [Nat.testBit_div_two, testBit_andN, testBit_andN, Nat.testBit_div_two, Nat.testBit_div_two]
/-- Where the lowest bit is. -/
def low : Nat → Nat → Nat
  | 0, _ => 0
  | f + 1, s => if s % 2 = 1 then 0 else 1 + low f (s / 2)
theorem low_lt : ∀ f s, s < 2 ^ f → s ≠ 0 → low f s < f := by
  intro f
  induction f with
  | zero => intro s h h0; simp at h; omega
  | succ f ih =>
    intro s h h0
    unfold low
    rw [Nat.pow_succ] at h
    by_cases ho : s % 2 = 1
    · rw [if_pos ho]; omega
    · rw [if_neg ho]
      have := ih (s / 2) (by omega) (by omega)
      omega
theorem low_is : ∀ f s, s < 2 ^ f → s ≠ 0 → andN s (s - 1) = 2 ^ low f s := by
  intro f
  induction f with
  | zero => intro s h h0; simp at h; omega
  | succ f ih =>
    intro s h h0
    unfold low
    rw [Nat.pow_succ] at h
    have h1 := andN_div2 s (s - 1)
    have h2 := andN_odd' s (s - 1)
    by_cases ho : s % 2 = 1
    · rw [if_pos ho]
      have := h2.2 ⟨ho, by omega⟩
      have h3 : andN (s / 2) (s / 2) = 0 := by unfold andN; simp
      rw [show (s - 1) / 2 = s / 2 by omega, h3] at h1
      simp only [Nat.pow_zero]
      omega
    · rw [if_neg ho]
      have h3 := ih (s / 2) (by omega) (by omega)
      rw [show (s - 1) / 2 = s / 2 - 1 by omega, h3] at h1
      have : ¬ (andN s (s - 1)) % 2 = 1 := fun h => ho (h2.1 h).1
      rw [Nat.add_comm, Nat.pow_succ]
      omega
/-- The bits that are set, counted from o. -/
def bl : Nat → Nat → Nat → List Nat
  | 0, _, _ => []
  | f + 1, o, s => if s % 2 = 1 then o :: bl f (o + 1) (s / 2) else bl f (o + 1) (s / 2)
theorem bl_zero : ∀ f o, bl f o 0 = [] := by
  intro f
  induction f with
  | zero => intro o; rfl
  | succ f ih => intro o; unfold bl; rw [if_neg (by decide), Nat.zero_div, ih]
theorem bl_low : ∀ f o s, s < 2 ^ f → s ≠ 0 → bl f o s = (o + low f s) :: bl f o (s &&& (s - 1)) := by
  intro f
  induction f with
  | zero => intro o s h h0; simp at h; omega
  | succ f ih =>
    intro o s h h0
    rw [Nat.pow_succ] at h
    have h2 := and_odd' s (s - 1)
    unfold bl low
    rw [and_div2']
    by_cases ho : s % 2 = 1
    · have : ¬ (s &&& (s - 1)) % 2 = 1 := fun h => by have := (h2.1 h).2; omega
      rw [if_pos ho, if_pos ho, if_neg this, show (s - 1) / 2 = s / 2 by omega, Nat.and_self]
      rfl
    · have : ¬ (s &&& (s - 1)) % 2 = 1 := fun h => ho (h2.1 h).1
      rw [if_neg ho, if_neg ho, if_neg this, show (s - 1) / 2 = s / 2 - 1 by omega, ih (o + 1) (s / 2) (by omega) (by omega), Nat.add_assoc]
theorem bl_len : ∀ f o s, (bl f o s).length ≤ f := by
  intro f
  induction f with
  | zero => intro o s; simp [bl]
  | succ f ih =>
    intro o s
    have := ih (o + 1) (s / 2)
    unfold bl
    split <;> simp <;> omega
theorem bl_filter : ∀ f o s, bl f o s = (List.range' o f).filter (fun i => s.testBit (i - o)) := by
  intro f
  induction f with
  | zero => intro o s; rfl
  | succ f ih =>
    intro o s
    have e : (List.range' (o + 1) f).filter (fun i => s.testBit (i - o)) = bl f (o + 1) (s / 2) := by
      rw [ih (o + 1) (s / 2)]
      apply List.filter_congr
      intro i hi
      rw [List.mem_range'_1] at hi
      rw [Nat.testBit_div_two, show i - (o + 1) + 1 = i - o by omega]
    unfold bl
    rw [List.range'_succ, List.filter_cons, e, Nat.sub_self, Nat.testBit_zero]
    by_cases ho : s % 2 = 1
    · rw [if_pos ho, if_pos (by simpa using ho)]
    · rw [if_neg ho, if_neg (by simpa using ho)]
theorem deB_all : ((List.range 64).all fun t => decide (deBr.getD (IntKind.u64.wrap (((2 ^ t : Nat) : Int) * 285870213051353865) / 288230376151711744).toNat 0 = (t : Int))) = true := by decide +kernel
theorem neg_and (s : Nat) (h : s < 2 ^ 62) (h0 : s ≠ 0) : Go.bits BinOp.and IntKind.u64 (s : Int) (IntKind.u64.wrap (-(s : Int))) = ((andN s (s - 1) : Nat) : Int) := by
  have hw : IntKind.u64.wrap (-(s : Int)) = ((2 ^ 64 - s : Nat) : Int) := by
    simp only [IntKind.wrap, IntKind.bits, IntKind.signed]
    simp
    omega
  have e : s &&& (2 ^ 64 - s) = andN s (s - 1) := by
    apply Nat.eq_of_testBit_eq
    intro i
    rw [Nat.testBit_and, testBit_andN, show 2 ^ 64 - s = 2 ^ 64 - ((s - 1) + 1) by omega, Nat.testBit_two_pow_sub_succ (by omega)]
    by_cases hi : i < 64
    · simp [hi]
    · have : s.testBit i = false := Nat.testBit_lt_two_pow (Nat.lt_of_lt_of_le h (Nat.pow_le_pow_right (by decide) (by omega)))
      simp [this]
  rw [hw]
  have hb : IntKind.u64.bits = 64 := rfl
  have h1 : s % 2 ^ IntKind.u64.bits = s := Nat.mod_eq_of_lt (by rw [hb]; omega)
  have h2 : (2 ^ 64 - s) % 2 ^ IntKind.u64.bits = 2 ^ 64 - s := Nat.mod_eq_of_lt (by rw [hb]; omega)
  simp only [Go.bits, BitVec.ofInt_natCast, BitVec.toNat_and, BitVec.toNat_ofNat, h1, h2, e]
  exact wu64 _ (Int.natCast_nonneg _) (castlt (Nat.lt_of_le_of_lt (andN_le s (s - 1)) (by omega)))
theorem tz_is (s : Nat) (h : s < 2 ^ 62) (h0 : s ≠ 0) : bits_TrailingZeros64.f (s : Int) = some ((low 62 s : Nat) : Int) := by
  unfold bits_TrailingZeros64.f tzIx
  rw [if_neg (by omega), neg_and s h h0, low_is 62 s h h0]
  have hl := low_lt 62 s h h0
  have H := deB_all
  simp only [List.all_eq_true, List.mem_range, decide_eq_true_eq] at H
  rw [H _ (by omega)]
def asInts (l : List Nat) : List Int := l.map (fun (n : Nat) => (n : Int))
theorem listed_ev (s : Nat) (h : s < 2 ^ 62) : Ev (fun k => impl_set_listed.f k (s : Int)) (asInts (bl 62 0 s)) := by
  have key : ∀ n (s : Nat) (acc : List Int), (bl 62 0 s).length = n → s < 2 ^ 62 → acc.length + n ≤ 62 → Ev (fun k => impl_set_listed.l0 k (s : Int) acc) (acc ++ asInts (bl 62 0 s)) := by
    intro n
    induction n with
    | zero =>
      intro s acc hn hs ha
      by_cases h0 : s = 0
      · subst h0
        rw [bl_zero]
        exact Ev.step (fun k => by simp only [impl_set_listed.l0]; rw [if_neg (by omega)]) (Ev.const (by simp [asInts]))
      · rw [bl_low 62 0 s hs h0] at hn
        simp at hn
    | succ n ih =>
      intro s acc hn hs ha
      have h0 : s ≠ 0 := fun h0 => by rw [h0, bl_zero] at hn; simp at hn
      have hb := bl_low 62 0 s hs h0
      rw [hb] at hn ⊢
      have hle := Nat.and_le_left (n := s) (m := s - 1)
      have h1 := ih (s &&& (s - 1)) (acc ++ [((low 62 s : Nat) : Int)]) (by simpa using hn) (by omega) (by simp; omega)
      refine Ev.step (f := fun k => impl_set_listed.l0 k ((s &&& (s - 1) : Nat) : Int) (acc ++ [((low 62 s : Nat) : Int)])) (fun k => ?_) (by rw [List.append_assoc] at h1; simpa [asInts] using h1)
      simp only [impl_set_listed.l0]
      rw [if_pos (by omega), tz_is s hs h0, Option.bind_some, if_pos (by omega), show (s : Int) - 1 = ((s - 1 : Nat) : Int) by omega, wu64 _ (by omega) (by omega), andu _ _ (by omega) (by omega)]
  have := key _ s [] rfl h (by simpa using bl_len 62 0 s)
  rw [List.nil_append] at this
  exact this
/-- A figure's lists, out of its set: the level edges, and the upright ones. -/
def listA (L m : Nat) : List Int := asInts ((List.range L).filter (fun i => m.testBit i))
def listB (L U m : Nat) : List Int := asInts ((List.range U).filter (fun i => m.testBit (L + i)))
theorem filter_range (n N : Nat) (h : n ≤ N) (p : Nat → Bool) : (List.range N).filter (fun i => p i && decide (i < n)) = (List.range n).filter p := by
  obtain ⟨d, rfl⟩ : ∃ d, N = n + d := ⟨N - n, by omega⟩
  rw [List.range_add, List.filter_append]
  have e1 : (List.range n).filter (fun i => p i && decide (i < n)) = (List.range n).filter p := List.filter_congr (fun i hi => by rw [decide_eq_true (List.mem_range.1 hi), Bool.and_true])
  have e2 : ((List.range d).map (n + ·)).filter (fun i => p i && decide (i < n)) = [] := by
    rw [List.filter_eq_nil_iff]
    intro i hi
    obtain ⟨j, _, rfl⟩ := List.mem_map.1 hi
    simp
  rw [e1, e2, List.append_nil]
theorem listed_A (L m : Nat) (hL : L ≤ 62) : asInts (bl 62 0 (m &&& (2 ^ L - 1))) = listA L m := by
  unfold listA
  rw [bl_filter, ← List.range_eq_range', ← filter_range L 62 hL (fun i => m.testBit i)]
  congr 1
  apply List.filter_congr
  intro i _
  rw [Nat.sub_zero, Nat.testBit_and, Nat.testBit_two_pow_sub_one]
theorem listed_B (L U m : Nat) (hU : U ≤ 62) (hm : m < 2 ^ (L + U)) : asInts (bl 62 0 (m >>> L)) = listB L U m := by
  unfold listB
  rw [bl_filter, ← List.range_eq_range', ← filter_range U 62 hU (fun i => m.testBit (L + i))]
  congr 1
  apply List.filter_congr
  intro i _
  rw [Nat.sub_zero, Nat.testBit_shiftRight]
  by_cases hi : i < U
  · simp [hi]
  · have : m.testBit (L + i) = false := Nat.testBit_lt_two_pow (Nat.lt_of_lt_of_le hm (Nat.pow_le_pow_right (by decide) (by omega)))
    simp [this]
theorem shr_is (m L : Nat) (hm : m < 2 ^ 63) (hL : L < 64) : Go.Proofs.YtmlkihaoeopobaaDoorW.PrintWords.shr .u64 (m : Int) (L : Int) = ((m >>> L : Nat) : Int) := by
  unfold Go.Proofs.YtmlkihaoeopobaaDoorW.PrintWords.shr
  rw [Int.toNat_natCast, Nat.shiftRight_eq_div_pow]
  rw [Nat.min_eq_left (by show L ≤ 64; omega)]
  simp

theorem asInts_len (l : List Nat) : (asInts l).length = l.length := by simp [asInts]
theorem listA_len (L m : Nat) : (listA L m).length ≤ L := by
  unfold listA
  rw [asInts_len]
  exact Nat.le_trans (List.length_filter_le _ _) (by simp)
theorem listB_len (L U m : Nat) : (listB L U m).length ≤ U := by
  unfold listB
  rw [asInts_len]
  exact Nat.le_trans (List.length_filter_le _ _) (by simp)

theorem figure_ev (W H m : Nat) (hW : 1 ≤ W ∧ W ≤ 4) (hH : 1 ≤ H ∧ H ≤ 4) (hm : m < 2 ^ (W * (H + 1) + (W + 1) * H)) : Ev (fun k => impl_grid_figure.f k W H (m : Int)) ((W : Int), (H : Int), listA (W * (H + 1)) m, listB (W * (H + 1)) ((W + 1) * H) m) := by
  have B := grid_bounds (w := W) (h := H) (by omega) (by omega)
  have hl := levels_is (w := W) (h := H) (by omega) (by omega)
  have eL : (W : Int) * ((H : Int) + 1) = ((W * (H + 1) : Nat) : Int) := by simp
  have eU : ((W : Int) + 1) * (H : Int) = (((W + 1) * H : Nat) : Int) := by simp
  rw [eL] at hl
  rw [eL, eU] at B
  have hp : 2 ^ (W * (H + 1) + (W + 1) * H) ≤ 2 ^ 40 := Nat.pow_le_pow_right (by decide) (by omega)
  have hpL : 2 ^ (W * (H + 1)) ≤ 2 ^ 20 := Nat.pow_le_pow_right (by decide) (by omega)
  have hpp : 0 < 2 ^ (W * (H + 1)) := Nat.two_pow_pos _
  unfold impl_grid_figure.f
  obtain ⟨L, hLd⟩ : ∃ L, W * (H + 1) = L := ⟨_, rfl⟩
  obtain ⟨U, hUd⟩ : ∃ U, (W + 1) * H = U := ⟨_, rfl⟩
  rw [hLd] at hl hp hpL hpp hm B ⊢
  rw [hUd] at hp hm B ⊢
  have hs : Go.Proofs.YtmlkihaoeopobaaDoorW.PrintWords.shl .u64 1 (L : Int) = ((2 ^ L : Nat) : Int) := by rw [shlu _ (by omega) (by omega), Int.toNat_natCast]
  refine Ev.bind (Ev.const hl) (Ev.congr (fun k => if_pos (by omega)) ?_)
  rw [hs, show ((2 ^ L : Nat) : Int) - 1 = ((2 ^ L - 1 : Nat) : Int) by omega, wu64 _ (by omega) (by omega), andu _ _ (by omega) (by omega)]
  have hle := Nat.and_le_left (n := m) (m := 2 ^ L - 1)
  have ea := listed_ev (m &&& (2 ^ L - 1)) (by omega)
  rw [listed_A L m (by omega)] at ea
  refine Ev.bind ea (Ev.bind (Ev.const hl) (Ev.congr (fun k => if_pos (by omega)) ?_))
  rw [shr_is m L (by omega) (by omega)]
  have hsr : m >>> L ≤ m := by rw [Nat.shiftRight_eq_div_pow]; exact Nat.div_le_self _ _
  have eb := listed_ev (m >>> L) (by omega)
  rw [listed_B L U m (by omega) hm] at eb
  exact Ev.bind eb (Ev.now _)

theorem upTo_ev (n : Nat) (h : n ≤ 1000) : Ev (fun k => spec_fiUpTo.f k (n : Int)) (asInts (List.range n)) := by
  have key : ∀ d i, n - i = d → i ≤ n → Ev (fun k => spec_fiUpTo.l0 k (n : Int) (asInts (List.range i)) (i : Int)) (asInts (List.range n)) := by
    intro d
    induction d with
    | zero =>
      intro i hd hi
      obtain rfl : i = n := by omega
      exact Ev.step (fun k => by simp only [spec_fiUpTo.l0]; rw [if_neg (by omega)]) (Ev.now _)
    | succ d ih =>
      intro i hd hi
      refine Ev.step (fun k => ?_) (ih (i + 1) (by omega) (by omega))
      simp only [spec_fiUpTo.l0]
      rw [if_pos (by omega), if_pos (by simp [asInts]; omega), w64 (by omega) (by omega), List.range_succ]
      simp [asInts]
  exact key n 0 (by omega) (by omega)
theorem fiFull_ev (W H : Nat) (hW : 1 ≤ W ∧ W ≤ 4) (hH : 1 ≤ H ∧ H ≤ 4) : Ev (fun k => spec_fiFull.f k W H) ((W : Int), (H : Int), asInts (List.range (W * (H + 1))), asInts (List.range ((W + 1) * H))) := by
  have B := grid_bounds (w := W) (h := H) (by omega) (by omega)
  have eL : (W : Int) * ((H : Int) + 1) = ((W * (H + 1) : Nat) : Int) := by simp
  have eU : ((W : Int) + 1) * (H : Int) = (((W + 1) * H : Nat) : Int) := by simp
  unfold spec_fiFull.f
  have e1 : wrap64 ((W : Int) * wrap64 ((H : Int) + 1)) = ((W * (H + 1) : Nat) : Int) := by
    rw [w64 (n := (H : Int) + 1) (by omega) (by omega), w64 (n := (W : Int) * ((H : Int) + 1)) (by omega) (by omega), eL]
  have e2 : wrap64 (wrap64 ((W : Int) + 1) * (H : Int)) = (((W + 1) * H : Nat) : Int) := by
    rw [w64 (n := (W : Int) + 1) (by omega) (by omega), w64 (n := ((W : Int) + 1) * (H : Int)) (by omega) (by omega), eU]
  rw [e1, e2]
  exact Ev.bind (upTo_ev _ (by omega)) (Ev.bind (upTo_ev _ (by omega)) (Ev.now _))
theorem asInts_filter (p : Int → Bool) (l : List Nat) : (asInts l).filter p = asInts (l.filter (fun i => p (i : Int))) := by
  unfold asInts
  rw [List.filter_map]
  rfl
theorem range_split (L n : Nat) (hn : n < L) : List.range L = List.range n ++ (n :: List.range' (n + 1) (L - (n + 1))) := by
  have h := List.range'_append_1 (s := 0) (m := n) (n := L - n)
  rw [List.range_eq_range', List.range_eq_range', ← List.range'_succ, show L - (n + 1) + 1 = L - n by omega, show L = n + (L - n) by omega, ← h]
  simp
theorem l1Put_ev (L n : Nat) (p : Nat → Bool) (hL : L ≤ 1000) (hn : n < L) (hp : p n = false) : Ev (fun k => spec_l1Put.f k (asInts ((List.range L).filter p)) (n : Int)) (asInts ((List.range L).filter (fun i => p i || decide (n = i)))) := by
  obtain ⟨A, hA⟩ : ∃ A, (List.range n).filter p = A := ⟨_, rfl⟩
  obtain ⟨B, hB⟩ : ∃ B, (List.range' (n + 1) (L - (n + 1))).filter p = B := ⟨_, rfl⟩
  have e1 : (List.range L).filter p = A ++ B := by
    rw [range_split L n hn, List.filter_append, List.filter_cons, if_neg (by simp [hp]), hA, hB]
  have e2 : (List.range L).filter (fun i => p i || decide (n = i)) = A ++ n :: B := by
    rw [range_split L n hn, List.filter_append, List.filter_cons, if_pos (by simp), ← hA, ← hB]
    congr 1
    · exact List.filter_congr (fun i hi => by have := List.mem_range.1 hi; rw [decide_eq_false (by omega), Bool.or_false])
    · congr 1
      exact List.filter_congr (fun i hi => by rw [List.mem_range'_1] at hi; rw [decide_eq_false (by omega), Bool.or_false])
  have hlA : A.length ≤ n := by rw [← hA]; exact Nat.le_trans (List.length_filter_le _ _) (by simp)
  have hlB : B.length ≤ L := by rw [← hB]; exact Nat.le_trans (List.length_filter_le _ _) (by simp)
  have lo : ∀ i (h : i < A.length), A[i] < n := fun i h => by
    have h2 : A[i] ∈ (List.range n).filter p := by rw [hA]; exact List.getElem_mem h
    exact List.mem_range.1 (List.mem_filter.1 h2).1
  have hi : ∀ x ∈ B, n < x := fun x h => by
    rw [← hB] at h
    have h3 := (List.mem_filter.1 h).1
    rw [List.mem_range'_1] at h3
    omega
  rw [e1, e2]
  have hc : asInts (A ++ B) = asInts A ++ asInts B := by simp [asInts]
  have hc2 : asInts (A ++ n :: B) = asInts A ++ [(n : Int)] ++ asInts B := by simp [asInts]
  rw [hc, hc2]
  have la : (asInts A).length = A.length := by simp [asInts]
  have lb : (asInts B).length = B.length := by simp [asInts]
  have t : (asInts A ++ asInts B).take A.length = asInts A := by rw [← la, List.take_left]
  have dr : (asInts A ++ asInts B).drop A.length = asInts B := by rw [← la, List.drop_left]
  have key : ∀ d j, A.length - j = d → j ≤ A.length → Ev (fun k => spec_l1Put.l0 k (asInts A ++ asInts B) (n : Int) (j : Int)) (asInts A ++ [(n : Int)] ++ asInts B) := by
    intro d
    induction d with
    | zero =>
      intro j h1 h2
      obtain rfl : j = A.length := by omega
      refine Ev.step (f := fun _ => some (asInts A ++ [(n : Int)] ++ asInts B)) (fun k => ?_) (Ev.now _)
      simp only [spec_l1Put.l0, Int.toNat_natCast, t, dr, Option.bind_some, List.nil_append, List.length_append, List.length_nil, List.length_cons, la, lb]
      cases hBc : B with
      | nil =>
        rw [hBc] at hlB
        rw [if_neg (by simp), if_pos (by omega), if_pos (by simp), if_pos (by omega), if_pos (by omega), if_pos (by simp; omega)]
      | cons x B' =>
        have hx := hi x (by rw [hBc]; simp)
        have hr : rd (asInts A ++ asInts (x :: B')) (A.length : Int) = (x : Int) := by
          unfold rd
          rw [Int.toNat_natCast, List.getD_eq_getElem?_getD, ← la, List.getElem?_append_right (by omega)]
          simp [asInts]
        rw [hBc] at hlB
        rw [hr, if_pos (by simp; omega), if_pos (by omega), if_neg (by omega), if_neg (by omega), if_pos (by simp; omega), if_pos (by omega), if_pos (by omega), if_pos (by omega)]
    | succ d ih =>
      intro j h1 h2
      refine Ev.step (fun k => ?_) (ih (j + 1) (by omega) (by omega))
      have hj : j < A.length := by omega
      have hr : rd (asInts A ++ asInts B) (j : Int) = (A[j] : Int) := by
        unfold rd
        rw [Int.toNat_natCast, List.getD_eq_getElem?_getD, List.getElem?_append_left (by omega)]
        simp [asInts, hj]
      have := lo j hj
      simp only [spec_l1Put.l0]
      rw [hr, if_pos (by rw [List.length_append, la, lb]; omega), if_pos (by omega), if_pos (by omega), w64 (by omega) (by omega)]
      rfl
  have := key A.length 0 (by omega) (by omega)
  exact this
theorem fiOwn_is (w h : Int) (a b : List Int) (ha : a.length ≤ 1000000) (hb : b.length ≤ 1000000) : spec_fiOwn.f w h a b = some (w, h, a, b) := by
  unfold spec_fiOwn.f spec_l1Own.f
  simp only [Option.bind_some, List.nil_append, List.length_nil]
  rw [if_pos (by omega), Option.bind_some, if_pos (by omega), Option.bind_some]
theorem any_range (L : Nat) (p : Nat → Bool) (n : Nat) (h : n < L) : (asInts ((List.range L).filter p)).any (fun z => decide (z = (n : Int))) = p n := by
  rw [Bool.eq_iff_iff, List.any_eq_true]
  unfold asInts
  constructor
  · rintro ⟨z, hz, he⟩
    obtain ⟨i, hi, rfl⟩ := List.mem_map.1 hz
    have := (List.mem_filter.1 hi).2
    have e : i = n := by have := of_decide_eq_true he; omega
    rwa [e] at this
  · intro hp
    exact ⟨_, List.mem_map.2 ⟨n, List.mem_filter.2 ⟨List.mem_range.2 h, hp⟩, rfl⟩, by simp⟩
theorem or_pow_same (M e : Nat) (h : M.testBit e = true) : M ||| 2 ^ e = M := by
  apply Nat.eq_of_testBit_eq
  intro i
  rw [Nat.testBit_or, testBit_pow]
  by_cases he : e = i
  · subst he; simp [h]
  · simp [he]
theorem fiPut_ev (W H M : Nat) (hW : 1 ≤ W ∧ W ≤ 4) (hH : 1 ≤ H ∧ H ≤ 4) (u : Bool) (x y : Int) (hi : edgeIn W H u x y = true) : Ev (fun k => spec_fiPut.f k W H (listA (W * (H + 1)) M) (listB (W * (H + 1)) ((W + 1) * H) M) u x y) ((W : Int), (H : Int), listA (W * (H + 1)) (M ||| 2 ^ (edgeOff W H u + edgeNo W u x y).toNat), listB (W * (H + 1)) ((W + 1) * H) (M ||| 2 ^ (edgeOff W H u + edgeNo W u x y).toNat)) := by
  have hw : (1 : Int) ≤ W ∧ (W : Int) ≤ 4 := by omega
  have hh : (1 : Int) ≤ H ∧ (H : Int) ≤ 4 := by omega
  have B := grid_bounds hw hh
  have eb := edge_bounds hw hh hi
  have eL : (W : Int) * ((H : Int) + 1) = ((W * (H + 1) : Nat) : Int) := by simp
  have eU : ((W : Int) + 1) * (H : Int) = (((W + 1) * H : Nat) : Int) := by simp
  have lA := listA_len (W * (H + 1)) M
  have lB := listB_len (W * (H + 1)) ((W + 1) * H) M
  unfold edgeOff
  rw [eL] at B ⊢
  rw [eL, eU] at eb
  rw [eU] at B
  obtain ⟨n, hn⟩ := Int.eq_ofNat_of_zero_le eb.1
  unfold spec_fiPut.f
  refine Ev.bind (Ev.const (fiOwn_is W H _ _ (by omega) (by omega))) (Ev.bind (Ev.const (fiEdge_is hw hh _ _ hi)) (Ev.bind (fiHas_ev hw hh _ _ (by omega) (by omega) hi) ?_))
  unfold hasE
  rw [hn] at eb ⊢
  obtain ⟨L, hLd⟩ : ∃ L, W * (H + 1) = L := ⟨_, rfl⟩
  obtain ⟨U, hUd⟩ : ∃ U, (W + 1) * H = U := ⟨_, rfl⟩
  rw [hLd] at eb lA lB B ⊢
  rw [hUd] at eb lB B ⊢
  cases u with
  | true =>
    simp only [if_true] at eb ⊢
    have hnU : n < U := by omega
    rw [show ((L : Int) + (n : Int)).toNat = L + n by omega]
    unfold listB
    rw [any_range U _ n hnU]
    have eA : listA L (M ||| 2 ^ (L + n)) = listA L M := by
      unfold listA
      congr 1
      exact List.filter_congr (fun i hi => by have := List.mem_range.1 hi; rw [Nat.testBit_or, testBit_pow, decide_eq_false (by omega), Bool.or_false])
    have eB : (List.range U).filter (fun i => (M ||| 2 ^ (L + n)).testBit (L + i)) = (List.range U).filter (fun i => M.testBit (L + i) || decide (n = i)) :=
      List.filter_congr (fun i hi => by rw [Nat.testBit_or, testBit_pow]; congr 1; rw [decide_eq_decide]; omega)
    rw [eA]
    cases hp : M.testBit (L + n) with
    | true =>
      rw [or_pow_same M _ hp]
      exact Ev.now _
    | false =>
      rw [eB]
      simp only [Bool.false_eq_true, if_false]
      exact Ev.bind (l1Put_ev U n (fun i => M.testBit (L + i)) (by omega) hnU hp) (Ev.now _)
  | false =>
    simp only [Bool.false_eq_true, if_false] at eb ⊢
    have hnL : n < L := by omega
    rw [show ((0 : Int) + (n : Int)).toNat = n by omega]
    have eA : (List.range L).filter (fun i => (M ||| 2 ^ n).testBit i) = (List.range L).filter (fun i => M.testBit i || decide (n = i)) :=
      List.filter_congr (fun i hi => by rw [Nat.testBit_or, testBit_pow])
    have eB : listB L U (M ||| 2 ^ n) = listB L U M := by
      unfold listB
      congr 1
      exact List.filter_congr (fun i hi => by rw [Nat.testBit_or, testBit_pow, decide_eq_false (by omega), Bool.or_false])
    rw [eB]
    unfold listA
    rw [any_range L _ n hnL]
    cases hp : M.testBit n with
    | true =>
      rw [or_pow_same M _ hp]
      exact Ev.now _
    | false =>
      rw [eA]
      simp only [Bool.false_eq_true, if_false]
      exact Ev.bind (l1Put_ev L n (fun i => M.testBit i) (by omega) hnL hp) (Ev.now _)
section
variable (EA EB : Nat → Nat → Nat)
end

theorem eqIntS_ev (l : List Int) (hl : l.length ≤ 1000000) : Ev (fun k => laws_eqIntS.f k l l) true := by
  unfold laws_eqIntS.f
  simp only [if_true]
  exact (all_evB (fun k i => laws_eqIntS.l0 k l l i) (fun _ => true) 0 l.length
    (fun i r _ hi _ hr => Ev.step (fun k => by simp only [laws_eqIntS.l0]; rw [if_pos (by omega), if_pos (by omega), if_pos (by omega), if_pos trivial, w64 (by omega) (by omega)]; rfl) hr)
    (fun i _ hi hp => by simp at hp)
    (fun i hi _ => Ev.step (fun k => by simp only [laws_eqIntS.l0]; rw [if_neg (by omega)]) (Ev.now true))) |> fun h => by
      have e : ((List.range' 0 (l.length - 0)).all fun _ => true) = true := by simp
      rw [e] at h
      exact h
/-- The first i cells written. -/
def inked (l : List Int) (a : Int) (i : Nat) : List Int := (List.range l.length).map (fun j => if j < i then a + (j : Int) else rd l (j : Int))
theorem inked_len (l a i) : (inked l a i).length = l.length := by simp [inked]
theorem inked_get (l : List Int) (a : Int) (i j : Nat) (h : j < (inked l a i).length) : (inked l a i)[j] = if j < i then a + (j : Int) else rd l (j : Int) := by simp [inked]
theorem inked_set (l : List Int) (a : Int) (i : Nat) : (inked l a i).set i (a + (i : Int)) = inked l a (i + 1) := by
  apply List.ext_getElem
  · rw [List.length_set, inked_len, inked_len]
  · intro j h1 h2
    rw [List.getElem_set, inked_get, inked_get]
    by_cases hj : i = j
    · subst hj
      rw [if_pos rfl, if_pos (by omega)]
    · rw [if_neg hj]
      by_cases hji : j < i
      · rw [if_pos hji, if_pos (by omega)]
      · rw [if_neg hji, if_neg (by omega)]
theorem inked_zero (l : List Int) (a : Int) : inked l a 0 = l := by
  apply List.ext_getElem
  · rw [inked_len]
  · intro j h1 h2
    rw [inked_get, if_neg (by omega), rd_nat l j h2]
theorem markIntS_ev (l : List Int) (a : Int) (hl : l.length ≤ 1000000) (h0 : 0 ≤ a) (h1 : a ≤ 10000000) : Ev (fun k => laws_markIntS.f k l a) (a + (l.length : Int), inked l a l.length) := by
  have key : ∀ d i, l.length - i = d → i ≤ l.length → Ev (fun k => laws_markIntS.l0 k (inked l a i) (a + (i : Int)) (i : Int)) (a + (l.length : Int), inked l a l.length) := by
    intro d
    induction d with
    | zero =>
      intro i h hi
      obtain rfl : i = l.length := by omega
      exact Ev.step (fun k => by simp only [laws_markIntS.l0]; rw [inked_len, if_neg (by omega)]) (Ev.now _)
    | succ d ih =>
      intro i h hi
      refine Ev.step (fun k => ?_) (ih (i + 1) (by omega) (by omega))
      simp only [laws_markIntS.l0]
      rw [inked_len, if_pos (by omega), if_pos (by omega), Int.toNat_natCast, inked_set, w64 (by omega) (by omega), w64 (by omega) (by omega), Int.add_assoc]
      rfl
  have := key l.length 0 (by omega) (by omega)
  rw [inked_zero] at this
  unfold laws_markIntS.f
  simpa using this
theorem heldIntS_ev (l : List Int) (a : Int) (hl : l.length ≤ 1000000) (h0 : 0 ≤ a) (h1 : a ≤ 10000000) : Ev (fun k => laws_heldIntS.f k (inked l a l.length) a) (a + (l.length : Int)) := by
  have key : ∀ d i, l.length - i = d → i ≤ l.length → Ev (fun k => laws_heldIntS.l0 k (inked l a l.length) (a + (i : Int)) (i : Int)) (a + (l.length : Int)) := by
    intro d
    induction d with
    | zero =>
      intro i h hi
      obtain rfl : i = l.length := by omega
      exact Ev.step (fun k => by simp only [laws_heldIntS.l0]; rw [inked_len, if_neg (by omega)]) (Ev.now _)
    | succ d ih =>
      intro i h hi
      refine Ev.step (fun k => ?_) (ih (i + 1) (by omega) (by omega))
      have hr : rd (inked l a l.length) (i : Int) = a + (i : Int) := by
        rw [rd_nat _ i (by rw [inked_len]; omega), inked_get, if_pos (by omega)]
      simp only [laws_heldIntS.l0]
      rw [inked_len, if_pos (by omega), if_pos (by omega), if_pos hr, w64 (by omega) (by omega), w64 (by omega) (by omega), Int.add_assoc]
      rfl
  have := key l.length 0 (by omega) (by omega)
  unfold laws_heldIntS.f
  simpa using this

theorem eqFigure_ev (w h : Int) (a b : List Int) (ha : a.length ≤ 1000000) (hb : b.length ≤ 1000000) : Ev (fun k => laws_eqFigure.f k w h a b w h a b) true := by
  unfold laws_eqFigure.f
  simp only [if_true]
  exact Ev.bind (eqIntS_ev a ha) (Ev.congr (fun k => if_pos rfl) (Ev.bind (eqIntS_ev b hb) (Ev.const rfl)))
theorem markFigure_is (w h : Int) (a b : List Int) (ha : a.length ≤ 1000000) (hb : b.length ≤ 1000000) : Ev (fun k => laws_markFigure.f k w h a b 101) ((101 + (a.length : Int) + (b.length : Int)), inked a 101 a.length, inked b (101 + (a.length : Int)) b.length) := by
  unfold laws_markFigure.f
  exact Ev.bind (markIntS_ev a 101 ha (by omega) (by omega)) (Ev.bind (markIntS_ev b (101 + (a.length : Int)) hb (by omega) (by omega)) (Ev.now _))
theorem heldFigure_ev (w h : Int) (a b : List Int) (ha : a.length ≤ 1000000) (hb : b.length ≤ 1000000) : Ev (fun k => laws_heldFigure.f k w h (inked a 101 a.length) (inked b (101 + (a.length : Int)) b.length) 101) (101 + (a.length : Int) + (b.length : Int)) := by
  unfold laws_heldFigure.f
  refine Ev.bind (heldIntS_ev a 101 ha (by omega) (by omega)) (Ev.congr (fun k => if_neg (by omega)) (Ev.bind (heldIntS_ev b (101 + (a.length : Int)) hb (by omega) (by omega)) (Ev.const ?_)))
  rw [if_neg (by omega)]

theorem next_nat (x y : Int) (x0 : 0 ≤ x ∧ x ≤ 4) (y0 : 0 ≤ y ∧ y ≤ 4) (d : Nat) (hd : d < 4) : impl_Corner_next.f x y (dL d) = some (nX d x, nY d y) := by
  rw [next_is x y x0 y0 d hd]
  rcases dcases hd with rfl | rfl | rfl | rfl <;> rfl
def setA (L : Nat) (p : Nat → Bool) : List Int := asInts ((List.range L).filter p)
theorem setA_len (L : Nat) (p : Nat → Bool) : (setA L p).length ≤ L := by
  unfold setA
  rw [asInts_len]
  exact Nat.le_trans (List.length_filter_le _ _) (by simp)
theorem setA_congr {L : Nat} {p q : Nat → Bool} (h : ∀ i, i < L → p i = q i) : setA L p = setA L q := by
  unfold setA
  congr 1
  exact List.filter_congr (fun i hi => h i (List.mem_range.1 hi))
theorem setA_all (L : Nat) : asInts (List.range L) = setA L (fun _ => true) := by
  unfold setA
  rw [List.filter_eq_self.2 (fun _ _ => rfl)]
theorem those_ev (L : Nat) (hL : L ≤ 1000) (p q : Nat → Bool) : Ev (fun k => spec_fiThose.f k (setA L p) (setA L q) false) (setA L (fun i => p i && !q i)) := by
  have h1 := setA_len L p
  have h2 := setA_len L q
  have h := fiThose_ev (setA L p) (setA L q) (by omega) (by omega) false
  have e : (setA L p).filter (fun x => ((setA L q).any (fun z => decide (z = x))) == false) = setA L (fun i => p i && !q i) := by
    unfold setA
    rw [asInts_filter, List.filter_filter]
    congr 1
    apply List.filter_congr
    intro i hi
    rw [any_range L q i (List.mem_range.1 hi), Bool.and_comm]
    cases q i <;> rfl
  rw [e] at h
  exact h
theorem less_ev (W H L U : Nat) (hL : L ≤ 1000) (hU : U ≤ 1000) (p q p' q' : Nat → Bool) : Ev (fun k => spec_fiLess.f k W H (setA L p) (setA U q) W H (setA L p') (setA U q')) ((W : Int), (H : Int), setA L (fun i => p i && !p' i), setA U (fun i => q i && !q' i)) := by
  unfold spec_fiLess.f
  exact Ev.bind (those_ev L hL p p') (Ev.bind (those_ev U hU q q') (Ev.now _))
theorem missing_ev (W H : Nat) (hW : 1 ≤ W ∧ W ≤ 4) (hH : 1 ≤ H ∧ H ≤ 4) (p q : Nat → Bool) : Ev (fun k => spec_fiMissing.f k W H (setA (W * (H + 1)) p) (setA ((W + 1) * H) q)) ((W : Int), (H : Int), setA (W * (H + 1)) (fun i => !p i), setA ((W + 1) * H) (fun i => !q i)) := by
  have B := grid_bounds (w := (W : Int)) (h := (H : Int)) (by omega) (by omega)
  have eL : (W : Int) * ((H : Int) + 1) = ((W * (H + 1) : Nat) : Int) := by simp
  have eU : ((W : Int) + 1) * (H : Int) = (((W + 1) * H : Nat) : Int) := by simp
  rw [eL, eU] at B
  unfold spec_fiMissing.f
  have h := fiFull_ev W H hW hH
  rw [setA_all, setA_all] at h
  refine Ev.bind h ?_
  refine Ev.bind (less_ev W H _ _ (by omega) (by omega) _ _ _ _) (Ev.const ?_)
  simp only [Bool.true_and]
theorem full_ev (W H : Nat) (hW : 1 ≤ W ∧ W ≤ 4) (hH : 1 ≤ H ∧ H ≤ 4) : Ev (fun k => spec_fiFull.f k W H) ((W : Int), (H : Int), setA (W * (H + 1)) (fun _ => true), setA ((W + 1) * H) (fun _ => true)) := by
  have h := fiFull_ev W H hW hH
  rw [setA_all, setA_all] at h
  exact h
theorem listA_set (L m : Nat) : listA L m = setA L (fun i => m.testBit i) := rfl
theorem listB_set (L U m : Nat) : listB L U m = setA U (fun i => m.testBit (L + i)) := rfl
theorem hasE_set {W H : Nat} (hW : 1 ≤ W ∧ W ≤ 4) (hH : 1 ≤ H ∧ H ≤ 4) (p q : Nat → Bool) {u : Bool} {x y : Int} (hi : edgeIn W H u x y = true) : hasE W (setA (W * (H + 1)) p) (setA ((W + 1) * H) q) u x y = (if u = true then q else p) (edgeNo W u x y).toNat := by
  have B := edge_bounds (w := (W : Int)) (h := (H : Int)) (by omega) (by omega) hi
  have eL : (W : Int) * ((H : Int) + 1) = ((W * (H + 1) : Nat) : Int) := by simp
  have eU : ((W : Int) + 1) * (H : Int) = (((W + 1) * H : Nat) : Int) := by simp
  rw [eL, eU] at B
  obtain ⟨n, hn⟩ := Int.eq_ofNat_of_zero_le B.1
  unfold hasE
  rw [hn] at B ⊢
  rw [Int.toNat_natCast]
  cases u with
  | true =>
    simp only [if_true] at B ⊢
    exact any_range _ q n (by omega)
  | false =>
    simp only [Bool.false_eq_true, if_false] at B ⊢
    exact any_range _ p n (by omega)
def eNo (W H : Nat) (x y : Int) (d : Nat) : Nat := (edgeOff W H (dU d) + edgeNo W (dU d) (dX d x) (dY d y)).toNat
theorem meet_full {W H : Nat} (hW : 1 ≤ W ∧ W ≤ 4) (hH : 1 ≤ H ∧ H ≤ 4) (x y : Int) (d : Nat) : meetB W H (setA (W * (H + 1)) (fun _ => true)) (setA ((W + 1) * H) (fun _ => true)) x y d = edgeIn W H (dU d) (dX d x) (dY d y) := by
  unfold meetB
  cases he : edgeIn W H (dU d) (dX d x) (dY d y) with
  | false => rfl
  | true =>
    rw [hasE_set hW hH _ _ he]
    cases dU d <;> rfl
theorem meet_set {W H : Nat} (hW : 1 ≤ W ∧ W ≤ 4) (hH : 1 ≤ H ∧ H ≤ 4) (m : Nat) (x y : Int) (d : Nat) (he : edgeIn W H (dU d) (dX d x) (dY d y) = true) : meetB W H (listA (W * (H + 1)) m) (listB (W * (H + 1)) ((W + 1) * H) m) x y d = m.testBit (eNo W H x y d) := by
  have B := edge_bounds (w := (W : Int)) (h := (H : Int)) (by omega) (by omega) he
  unfold meetB
  rw [he, Bool.true_and, listA_set, listB_set, hasE_set hW hH _ _ he]
  unfold eNo edgeOff
  have eL : (W : Int) * ((H : Int) + 1) = ((W * (H + 1) : Nat) : Int) := by simp
  cases hu : dU d with
  | true =>
    rw [hu] at B
    simp only [if_true]
    congr 1
    rw [eL]
    have h0 : 0 ≤ ((W * (H + 1) : Nat) : Int) := Int.natCast_nonneg _
    generalize ((W * (H + 1) : Nat)) = z at *
    omega
  | false => simp
theorem edge_lt {W H : Nat} (hW : 1 ≤ W ∧ W ≤ 4) (hH : 1 ≤ H ∧ H ≤ 4) {x y : Int} {d : Nat} (he : edgeIn W H (dU d) (dX d x) (dY d y) = true) : eNo W H x y d < W * (H + 1) + (W + 1) * H := by
  have B := edge_bounds (w := (W : Int)) (h := (H : Int)) (by omega) (by omega) he
  have eL : (W : Int) * ((H : Int) + 1) = ((W * (H + 1) : Nat) : Int) := by simp
  have eU : ((W : Int) + 1) * (H : Int) = (((W + 1) * H : Nat) : Int) := by simp
  rw [eL, eU] at B
  unfold eNo edgeOff
  rw [eL]
  generalize ((W * (H + 1) : Nat)) = z at *
  generalize (((W + 1) * H : Nat)) = z2 at *
  cases hu : dU d with
  | true =>
    rw [hu] at B
    simp only [if_true] at B ⊢
    omega
  | false =>
    rw [hu] at B
    simp only [Bool.false_eq_true, if_false] at B ⊢
    omega
theorem list_zero (L U : Nat) : listA L 0 = [] ∧ listB L U 0 = [] := by
  unfold listA listB asInts
  simp
theorem liEdge_ev {W H : Nat} (hW : 1 ≤ W ∧ W ≤ 4) (hH : 1 ≤ H ∧ H ≤ 4) (l2 l3 : List Int) {x y : Int} (hc : cornIn W H x y = true) {d : Nat} (hd : d < 4) (he : edgeIn W H (dU d) (dX d x) (dY d y) = true) :
    Ev (fun k => spec_liEdge.f k W H l2 l3 x y (d : Int)) ((W : Int), (H : Int), listA (W * (H + 1)) (2 ^ eNo W H x y d), listB (W * (H + 1)) ((W + 1) * H) (2 ^ eNo W H x y d)) := by
  have h := fiPut_ev W H 0 hW hH (dU d) (dX d x) (dY d y) he
  rw [(list_zero _ ((W + 1) * H)).1, (list_zero _ _).2, Nat.zero_or] at h
  unfold cornIn at hc
  simp only [Bool.and_eq_true, inB_iff] at hc
  unfold spec_liEdge.f
  rcases dcases hd with rfl | rfl | rfl | rfl
  · simp only [show (((0 : Nat) : Int) = 0) = True by simp, if_true, w64 (n := y - 1) (by omega) (by omega)]
    exact Ev.bind h (Ev.now _)
  · simp only [show (((1 : Nat) : Int) = 0) = False by simp, show (((1 : Nat) : Int) = 1) = True by simp, if_true, if_false]
    exact Ev.bind h (Ev.now _)
  · simp only [show (((2 : Nat) : Int) = 0) = False by simp, show (((2 : Nat) : Int) = 1) = False by simp, show (((2 : Nat) : Int) = 2) = True by simp, if_true, if_false]
    exact Ev.bind h (Ev.now _)
  · simp only [show (((3 : Nat) : Int) = 0) = False by simp, show (((3 : Nat) : Int) = 1) = False by simp, show (((3 : Nat) : Int) = 2) = False by simp, if_false, w64 (n := x - 1) (by omega) (by omega)]
    exact Ev.bind h (Ev.now _)
def dirOf (b : UInt8) : Option Nat := if b.toNat = 110 then some 0 else if b.toNat = 101 then some 1 else if b.toNat = 115 then some 2 else if b.toNat = 119 then some 3 else none
def walkV (W H : Nat) : List UInt8 → Nat → Int → Int → Option Nat
  | [], m, _, _ => some m
  | b :: bs, m, x, y => match dirOf b with
    | none => none
    | some d => if (edgeIn W H (dU d) (dX d x) (dY d y) && !m.testBit (eNo W H x y d)) = true then walkV W H bs (m ||| 2 ^ eNo W H x y d) (nX d x) (nY d y) else none
theorem dir_lt {b : UInt8} {d : Nat} (h : dirOf b = some d) : d < 4 ∧ (b.toNat : Int) = dL d := by
  unfold dirOf at h
  split at h
  · obtain rfl := Option.some.inj h
    exact ⟨by decide, by rw [show dL 0 = 110 from rfl]; omega⟩
  · split at h
    · obtain rfl := Option.some.inj h
      exact ⟨by decide, by rw [show dL 1 = 101 from rfl]; omega⟩
    · split at h
      · obtain rfl := Option.some.inj h
        exact ⟨by decide, by rw [show dL 2 = 115 from rfl]; omega⟩
      · split at h
        · obtain rfl := Option.some.inj h
          exact ⟨by decide, by rw [show dL 3 = 119 from rfl]; omega⟩
        · cases h
theorem corn_next {W H : Nat} {x y : Int} (hc : cornIn W H x y = true) {d : Nat} (hd : d < 4) (he : edgeIn W H (dU d) (dX d x) (dY d y) = true) : cornIn W H (nX d x) (nY d y) = true := by
  unfold cornIn at hc ⊢
  unfold edgeIn at he
  rcases dcases hd with rfl | rfl | rfl | rfl
  · simp only [show dU 0 = true from rfl, show dX 0 x = x from rfl, show dY 0 y = y - 1 from rfl, show nX 0 x = x from rfl, show nY 0 y = y - 1 from rfl, if_true, Bool.and_eq_true, inB_iff] at *
    omega
  · simp only [show dU 1 = false from rfl, show dX 1 x = x from rfl, show dY 1 y = y from rfl, show nX 1 x = x + 1 from rfl, show nY 1 y = y from rfl, Bool.false_eq_true, if_false, Bool.and_eq_true, inB_iff] at *
    omega
  · simp only [show dU 2 = true from rfl, show dX 2 x = x from rfl, show dY 2 y = y from rfl, show nX 2 x = x from rfl, show nY 2 y = y + 1 from rfl, if_true, Bool.and_eq_true, inB_iff] at *
    omega
  · simp only [show dU 3 = false from rfl, show dX 3 x = x - 1 from rfl, show dY 3 y = y from rfl, show nX 3 x = x - 1 from rfl, show nY 3 y = y from rfl, Bool.false_eq_true, if_false, Bool.and_eq_true, inB_iff] at *
    omega
/-- The program's walk over steps. -/
theorem strokeL_ev {W H : Nat} (hW : 1 ≤ W ∧ W ≤ 4) (hH : 1 ≤ H ∧ H ≤ 4) : ∀ (l : List UInt8) (m : Nat) (x y : Int), (∀ b ∈ l, ∃ d, dirOf b = some d) → m < 2 ^ (W * (H + 1) + (W + 1) * H) → cornIn W H x y = true →
    Ev (fun k => strokeL k W H l (m : Int) x y) (match walkV W H l m x y with | some m' => ((m' : Int), true) | none => (0, false))
  | [], m, x, y, _, _, _ => Ev.now _
  | b :: bs, m, x, y, hl, hm, hc => by
    obtain ⟨d, hdir⟩ := hl b List.mem_cons_self
    obtain ⟨hd, hb⟩ := dir_lt hdir
    have B := grid_bounds (w := (W : Int)) (h := (H : Int)) (by omega) (by omega)
    have eL : (W : Int) * ((H : Int) + 1) = ((W * (H + 1) : Nat) : Int) := by simp
    have eU : ((W : Int) + 1) * (H : Int) = (((W + 1) * H : Nat) : Int) := by simp
    rw [eL, eU] at B
    have hm63 : m < 2 ^ 63 := Nat.lt_of_lt_of_le hm (Nat.pow_le_pow_right (by decide) (by omega))
    unfold walkV
    rw [hdir]
    simp only [strokeL, hb]
    refine Ev.bind (between_ev (w := (W : Int)) (h := (H : Int)) (by omega) (by omega) hc d hd) ?_
    unfold edgeBit
    cases he : edgeIn W H (dU d) (dX d x) (dY d y) with
    | false =>
      simp only [Bool.false_eq_true, if_false, Bool.false_and]
      exact Ev.now _
    | true =>
      have hlt := edge_lt hW hH he
      have hcn := corn_next hc hd he
      have hx : (0 ≤ x ∧ x ≤ 4) ∧ 0 ≤ y ∧ y ≤ 4 := by unfold cornIn at hc; simp only [Bool.and_eq_true, inB_iff] at hc; omega
      simp only [if_true, Bool.true_and]
      change Ev (fun k => if ((2 ^ eNo W H x y d : Nat) : Int) = 0 then some (0, false) else if Go.bits .and .u64 (m : Int) ((2 ^ eNo W H x y d : Nat) : Int) = 0 then _ else _) _
      have hp : (2 ^ eNo W H x y d : Nat) ≠ 0 := Nat.pos_iff_ne_zero.1 (Nat.two_pow_pos _)
      have hp63 : (2 ^ eNo W H x y d : Nat) < 2 ^ 63 := pow_lt63 (by omega)
      refine Ev.congr (fun k => if_neg (by omega)) ?_
      rw [andu _ _ hm63 hp63]
      have hbit := and_pow_ne m (eNo W H x y d)
      cases ht : m.testBit (eNo W H x y d) with
      | true =>
        have := hbit.2 ht
        simp only [Bool.not_true, Bool.false_eq_true, if_false]
        exact Ev.congr (fun k => if_neg (by omega)) (Ev.now _)
      | false =>
        have h0 : m &&& 2 ^ eNo W H x y d = 0 := by
          apply Classical.byContradiction
          intro hne
          rw [hbit.1 hne] at ht
          exact absurd ht (by simp)
        simp only [Bool.not_false, if_true]
        refine Ev.congr (fun k => if_pos (by rw [h0]; rfl)) ?_
        rw [next_nat x y hx.1 hx.2 d hd]
        simp only [Option.bind_some]
        have hor : Go.bits .or .u64 (m : Int) ((2 ^ (edgeOff W H (dU d) + edgeNo W (dU d) (dX d x) (dY d y)).toNat : Nat) : Int) = ((m ||| 2 ^ eNo W H x y d : Nat) : Int) := oru _ _ hm63 hp63
        rw [hor]
        exact strokeL_ev hW hH bs _ _ _ (fun b hb => hl b (List.mem_cons_of_mem _ hb)) (Nat.or_lt_two_pow hm (Nat.pow_lt_pow_right (by decide) hlt)) hcn
theorem bt_nat (s : ByteArray) (i : Nat) (h : i < s.data.toList.length) : bt s (i : Int) = ((s.data.toList[i].toNat : Nat) : Int) := by
  have hs : i < s.size := by rw [Array.length_toList] at h; exact h
  rw [← bt_at s (i : Int) (by rw [Int.toNat_natCast]; exact hs)]
  rfl
theorem size_list (s : ByteArray) : s.data.toList.length = s.size := by rw [Array.length_toList]; rfl
theorem dirs_at (j : Nat) (hj : j < 4) : bt (⟨#[110, 101, 115, 119]⟩ : ByteArray) (j : Int) = dL j := by
  rcases dcases hj with rfl | rfl | rfl | rfl <;> decide
theorem l1_round (s : ByteArray) (i j : Nat) (hi : i < s.size) (hj : j < 4) (c : Int) (k : Nat) (x y p0 p1 : Int) (p2 p3 : List Int) (q0 q1 : Int) (q2 q3 : List Int) (hs : s.size ≤ 1000000) :
    spec_liDraw.l1 (k + 1) s i c j x y p0 p1 p2 p3 q0 q1 q2 q3 = spec_liDraw.l1 k s i (if bt s i = dL j then (j : Int) else c) ((j + 1 : Nat) : Int) x y p0 p1 p2 p3 q0 q1 q2 q3 := by
  have hsz : ((⟨#[110, 101, 115, 119]⟩ : ByteArray).size : Int) = 4 := rfl
  rw [spec_liDraw.l1]
  unfold spec_liDirs.f
  rw [if_pos (by omega), if_pos (by omega), if_pos (by omega), Option.bind_some, if_pos (by omega), if_pos (by rw [hsz]; omega), dirs_at j hj, w64 (n := (j : Int) + 1) (by omega) (by omega)]
  by_cases h : bt s i = dL j
  · rw [if_pos h, if_pos h]
    rfl
  · rw [if_neg h, if_neg h]
    rfl
def zeroF : Int × Int × List Int × List Int × Bool := (0, 0, [], [], false)
def walkF (W H : Nat) (o : Option Nat) : Int × Int × List Int × List Int × Bool := match o with
  | some m => ((W : Int), (H : Int), listA (W * (H + 1)) m, listB (W * (H + 1)) ((W + 1) * H) m, true)
  | none => zeroF
theorem dirs_fold (v : Int) (b : UInt8) (hv : v = (b.toNat : Int)) : (if v = dL 3 then ((3 : Nat) : Int) else if v = dL 2 then ((2 : Nat) : Int) else if v = dL 1 then ((1 : Nat) : Int) else if v = dL 0 then ((0 : Nat) : Int) else -1) = (match dirOf b with | some d => ((d : Nat) : Int) | none => -1) := by
  subst hv
  simp only [show dL 0 = 110 from rfl, show dL 1 = 101 from rfl, show dL 2 = 115 from rfl, show dL 3 = 119 from rfl]
  unfold dirOf
  by_cases h0 : b.toNat = 110
  · rw [if_neg (by omega), if_neg (by omega), if_neg (by omega), if_pos (by omega), if_pos h0]
  · by_cases h1 : b.toNat = 101
    · rw [if_neg (by omega), if_neg (by omega), if_pos (by omega), if_neg h0, if_pos h1]
    · by_cases h2 : b.toNat = 115
      · rw [if_neg (by omega), if_pos (by omega), if_neg h0, if_neg h1, if_pos h2]
      · by_cases h3 : b.toNat = 119
        · rw [if_pos (by omega), if_neg h0, if_neg h1, if_neg h2, if_pos h3]
        · rw [if_neg (by omega), if_neg (by omega), if_neg (by omega), if_neg (by omega), if_neg h0, if_neg h1, if_neg h2, if_neg h3]
theorem draw_ev {W H : Nat} (hW : 1 ≤ W ∧ W ≤ 4) (hH : 1 ≤ H ∧ H ≤ 4) (s : ByteArray) (hs : s.size ≤ 1000000) : ∀ (d a m : Nat) (x y : Int), a + d = s.size → m < 2 ^ (W * (H + 1) + (W + 1) * H) → cornIn W H x y = true →
    Ev (fun k => spec_liDraw.l0 k s (a : Int) x y W H (setA (W * (H + 1)) (fun _ => true)) (setA ((W + 1) * H) (fun _ => true)) W H (listA (W * (H + 1)) m) (listB (W * (H + 1)) ((W + 1) * H) m)) (walkF W H (walkV W H (s.data.toList.drop a) m x y)) := by
  have hz := size_list s
  have B := grid_bounds (w := (W : Int)) (h := (H : Int)) (by omega) (by omega)
  have eL : (W : Int) * ((H : Int) + 1) = ((W * (H + 1) : Nat) : Int) := by simp
  have eU : ((W : Int) + 1) * (H : Int) = (((W + 1) * H : Nat) : Int) := by simp
  rw [eL, eU] at B
  intro d
  induction d with
  | zero =>
    intro a m x y ha _ _
    rw [List.drop_of_length_le (by omega)]
    exact Ev.step (f := fun _ => some (walkF W H (some m))) (fun k => by rw [spec_liDraw.l0]; rw [if_neg (by omega)]; rfl) (Ev.now _)
  | succ d ih =>
    intro a m x y ha hm hc
    have hlt : a < s.data.toList.length := by omega
    have hb := bt_nat s a hlt
    rw [List.drop_eq_getElem_cons hlt]
    obtain ⟨b, hbb⟩ : ∃ b, s.data.toList[a] = b := ⟨_, rfl⟩
    rw [hbb] at hb ⊢
    have hf := dirs_fold (bt s (a : Int)) b hb
    refine Ev.step (f := fun k => spec_liDraw.l1 k s (a : Int) (-1) ((0 : Nat) : Int) x y W H (setA (W * (H + 1)) (fun _ => true)) (setA ((W + 1) * H) (fun _ => true)) W H (listA (W * (H + 1)) m) (listB (W * (H + 1)) ((W + 1) * H) m)) (fun k => by rw [spec_liDraw.l0]; rw [if_pos (by omega)]; rfl) ?_
    refine Ev.step (fun k => l1_round s a 0 (by omega) (by decide) _ k x y W H _ _ W H _ _ hs) ?_
    refine Ev.step (fun k => l1_round s a 1 (by omega) (by decide) _ k x y W H _ _ W H _ _ hs) ?_
    refine Ev.step (fun k => l1_round s a 2 (by omega) (by decide) _ k x y W H _ _ W H _ _ hs) ?_
    refine Ev.step (fun k => l1_round s a 3 (by omega) (by decide) _ k x y W H _ _ W H _ _ hs) ?_
    rw [hf]
    unfold walkV
    cases hdir : dirOf b with
    | none => exact Ev.step (f := fun _ => some zeroF) (fun k => by rw [spec_liDraw.l1]; rw [if_neg (by decide), if_pos (by decide)]; rfl) (Ev.now _)
    | some e =>
      obtain ⟨he4, _⟩ := dir_lt hdir
      have la := setA_len (W * (H + 1)) (fun _ => true)
      have lb := setA_len ((W + 1) * H) (fun _ => true)
      have la2 := listA_len (W * (H + 1)) m
      have lb2 := listB_len (W * (H + 1)) ((W + 1) * H) m
      have n1 := liNext_ev (w := (W : Int)) (h := (H : Int)) (by omega) (by omega) (setA (W * (H + 1)) (fun _ => true)) (setA ((W + 1) * H) (fun _ => true)) (by omega) (by omega) hc e he4
      have n2 := liNext_ev (w := (W : Int)) (h := (H : Int)) (by omega) (by omega) (listA (W * (H + 1)) m) (listB (W * (H + 1)) ((W + 1) * H) m) (by omega) (by omega) hc e he4
      rw [meet_full hW hH] at n1
      refine Ev.step (fun k => by rw [spec_liDraw.l1]; rw [if_neg (by decide), if_neg (by simp)]) (Ev.bind n1 ?_)
      simp only
      cases he : edgeIn W H (dU e) (dX e x) (dY e y) with
      | false =>
        simp only [Bool.false_and, Bool.false_eq_true, if_false]
        exact Ev.now _
      | true =>
        rw [meet_set hW hH m x y e he] at n2
        simp only [Bool.true_and, if_true]
        refine Ev.bind n2 ?_
        simp only
        cases ht : m.testBit (eNo W H x y e) with
        | true =>
          simp only [Bool.not_true, Bool.false_eq_true, if_true, if_false]
          exact Ev.now _
        | false =>
          have hlt2 := edge_lt hW hH he
          simp only [Bool.not_false, Bool.false_eq_true, if_true, if_false]
          have i1 := missing_ev W H hW hH (fun i => m.testBit i) (fun i => m.testBit (W * (H + 1) + i))
          refine Ev.bind i1 (Ev.bind (liEdge_ev hW hH _ _ hc he4 he) (Ev.bind (less_ev W H _ _ (by omega) (by omega) _ _ (fun i => (2 ^ eNo W H x y e).testBit i) (fun i => (2 ^ eNo W H x y e).testBit (W * (H + 1) + i))) (Ev.bind (missing_ev W H hW hH _ _) ?_)))
          have q1 : setA (W * (H + 1)) (fun i => !(!m.testBit i && !(2 ^ eNo W H x y e).testBit i)) = listA (W * (H + 1)) (m ||| 2 ^ eNo W H x y e) := setA_congr (fun i _ => by rw [Nat.testBit_or]; cases m.testBit i <;> cases (2 ^ eNo W H x y e).testBit i <;> rfl)
          have q2 : setA ((W + 1) * H) (fun i => !(!m.testBit (W * (H + 1) + i) && !(2 ^ eNo W H x y e).testBit (W * (H + 1) + i))) = listB (W * (H + 1)) ((W + 1) * H) (m ||| 2 ^ eNo W H x y e) := setA_congr (fun i _ => by rw [Nat.testBit_or]; cases m.testBit (W * (H + 1) + i) <;> cases (2 ^ eNo W H x y e).testBit (W * (H + 1) + i) <;> rfl)
          rw [q1, q2, w64 (n := (a : Int) + 1) (by omega) (by omega)]
          exact ih (a + 1) _ _ _ (by omega) (Nat.or_lt_two_pow hm (Nat.pow_lt_pow_right (by decide) hlt2)) (corn_next hc he4 he)
def stepsL : List UInt8 := [110, 101, 115, 119]
def isDir (b : UInt8) : Bool := (dirOf b).isSome
theorem steps_all : ((List.range 256).all fun n => decide (stepsL.contains (UInt8.ofNat n) = isDir (UInt8.ofNat n))) = true := by decide +kernel
theorem steps_is (b : UInt8) : stepsL.contains b = isDir b := by
  have h := steps_all
  simp only [List.all_eq_true, List.mem_range, decide_eq_true_eq] at h
  have := h b.toNat b.toNat_lt
  rwa [UInt8.ofNat_toNat] at this
theorem dropWhile_nil {α : Type} (p : α → Bool) : ∀ l : List α, (l.dropWhile p).isEmpty = l.all p
  | [] => rfl
  | x :: l => by
    rw [List.dropWhile_cons, List.all_cons]
    cases h : p x with
    | true => simp [dropWhile_nil p l]
    | false => simp
theorem dropWhile_all {α : Type} (p : α → Bool) : ∀ l : List α, (l.dropWhile p).all p = l.all p
  | [] => rfl
  | x :: l => by
    rw [List.dropWhile_cons, List.all_cons]
    cases h : p x with
    | true => simp [dropWhile_all p l]
    | false => simp [h]
theorem trim_nil (l cs : List UInt8) : (Go.Lib.trimS l cs).isEmpty = l.all (cs.contains ·) := by
  unfold Go.Lib.trimS Go.Lib.trimLeftS Go.Lib.trimRightS
  rw [dropWhile_nil, List.all_reverse, dropWhile_all, List.all_reverse]
theorem toList_nil (s : ByteArray) : (s.toList == ([] : List UInt8)) = (s.data.toList).isEmpty := by
  rw [Go.Lib.toList_data]
  cases s.data.toList with
  | nil => rfl
  | cons a l => rfl
theorem areSteps_is (s : ByteArray) (hs : s.size ≤ 1000000) : impl_areSteps.f s = some (decide ((s.size : Int) ≤ 40) && s.data.toList.all isDir) := by
  unfold impl_areSteps.f
  by_cases h : (s.size : Int) ≤ 40
  · have ht : strings_Trim.f s (⟨#[110, 101, 115, 119]⟩ : ByteArray) = some ⟨(Go.Lib.trimS s.data.toList stepsL).toArray⟩ := by
      unfold strings_Trim.f
      rw [if_pos ⟨by omega, by decide, by decide⟩]
      rfl
    rw [if_pos h, ht, Option.bind_some, toList_nil, decide_eq_true h, Bool.true_and]
    show some (Go.Lib.trimS s.data.toList stepsL).isEmpty = _
    rw [trim_nil]
    congr 1
    exact congrArg s.data.toList.all (funext steps_is)
  · rw [if_neg h, decide_eq_false h, Bool.false_and]
theorem walk_bad (W H : Nat) : ∀ (l : List UInt8) (m : Nat) (x y : Int), l.all isDir = false → walkV W H l m x y = none
  | [], _, _, _, h => by simp at h
  | b :: bs, m, x, y, h => by
    unfold walkV
    cases hd : dirOf b with
    | none => rfl
    | some d =>
      have hb : isDir b = true := by unfold isDir; rw [hd]; rfl
      rw [List.all_cons, hb, Bool.true_and] at h
      simp only
      split
      · exact walk_bad W H bs _ _ _ h
      · rfl
theorem walk_lt {W H : Nat} (hW : 1 ≤ W ∧ W ≤ 4) (hH : 1 ≤ H ∧ H ≤ 4) : ∀ (l : List UInt8) (m : Nat) (x y : Int) (m' : Nat), m < 2 ^ (W * (H + 1) + (W + 1) * H) → walkV W H l m x y = some m' → m' < 2 ^ (W * (H + 1) + (W + 1) * H)
  | [], m, _, _, m', hm, h => by obtain rfl := Option.some.inj h; exact hm
  | b :: bs, m, x, y, m', hm, h => by
    unfold walkV at h
    cases hd : dirOf b with
    | none => rw [hd] at h; cases h
    | some d =>
      rw [hd] at h
      simp only at h
      split at h
      · rename_i hc
        rw [Bool.and_eq_true] at hc
        exact walk_lt hW hH bs _ _ _ _ (Nat.or_lt_two_pow hm (Nat.pow_lt_pow_right (by decide) (edge_lt hW hH hc.1))) h
      · cases h
theorem corner_both {W H : Nat} (x y : Int) : spec_liCorner.f W H [] [] x y = some (cornIn W H x y) ∧ impl_grid_isCorner.f W H x y = some (cornIn W H x y) := by
  refine ⟨?_, isCorner_is _ _ _ _⟩
  unfold spec_liCorner.f cornIn
  rw [l1In_is, Option.bind_some]
  cases inB 0 (W : Int) x with
  | false => simp
  | true => simp [l1In_is]
theorem both_FigureOfStroke (w h x y : Int) (s : ByteArray) (hs : s.size ≤ 1000000) : ∃ W H A B t, A.length ≤ 1000000 ∧ B.length ≤ 1000000 ∧ Ev (fun k => spec_FigureOfStroke.f k w h x y s) (W, H, A, B, t) ∧ Ev (fun k => impl_FigureOfStroke.f k w h x y s) (W, H, A, B, t) := by
  have jt : Ev (fun k => impl_FigureOfStroke.j0 k s true x y w h) zeroF := Ev.step (f := fun _ => some zeroF) (fun k => by rw [impl_FigureOfStroke.j0]; rw [if_pos rfl]; rfl) (Ev.now _)
  have none_ : ∀ {p q : Nat → Option (Int × Int × List Int × List Int × Bool)}, Ev p zeroF → Ev q zeroF → ∃ W H A B t, A.length ≤ 1000000 ∧ B.length ≤ 1000000 ∧ Ev p (W, H, A, B, t) ∧ Ev q (W, H, A, B, t) := fun h1 h2 => ⟨0, 0, [], [], false, by simp, by simp, h1, h2⟩
  unfold spec_FigureOfStroke.f impl_FigureOfStroke.f
  rw [fiGrid_is, isGrid_is]
  simp only [Option.bind_some]
  cases hg : (inB 1 4 w && inB 1 4 h) with
  | false => exact none_ (Ev.congr (fun k => if_neg (by decide)) (Ev.now _)) (Ev.congr (fun k => if_neg (by decide)) jt)
  | true =>
    simp only [Bool.and_eq_true, inB_iff] at hg
    obtain ⟨W, rfl⟩ := Int.eq_ofNat_of_zero_le (show 0 ≤ w by omega)
    obtain ⟨H, rfl⟩ := Int.eq_ofNat_of_zero_le (show 0 ≤ h by omega)
    have hW : 1 ≤ W ∧ W ≤ 4 := by omega
    have hH : 1 ≤ H ∧ H ≤ 4 := by omega
    rw [(corner_both x y).1, (corner_both x y).2]
    simp only [if_true, Option.bind_some]
    cases hc : cornIn (W : Int) H x y with
    | false => exact none_ (Ev.congr (fun k => if_neg (by decide)) (Ev.now _)) (Ev.congr (fun k => if_neg (by decide)) jt)
    | true =>
      simp only [if_true]
      rw [areSteps_is s hs]
      simp only [Option.bind_some]
      by_cases h40 : (s.size : Int) ≤ 40
      · have hz : ∀ (L U : Nat), listA L 0 = [] ∧ listB L U 0 = [] := list_zero
        have dv := draw_ev hW hH s hs s.size 0 0 x y (by omega) (Nat.two_pow_pos _) hc
        rw [List.drop_zero, (list_zero _ ((W + 1) * H)).1, (list_zero _ _).2] at dv
        have sp : Ev (fun k => if (s.size : Int) > 40 then some (0, 0, [], [], false) else (spec_liDraw.f k W H x y s).bind fun bt352 => some (bt352.1, bt352.2.1, bt352.2.2.1, bt352.2.2.2.1, bt352.2.2.2.2)) (walkF W H (walkV W H s.data.toList 0 x y)) := by
          refine Ev.congr (fun k => if_neg (by omega)) ?_
          refine Ev.bind (a := walkF W H (walkV W H s.data.toList 0 x y)) ?_ (Ev.now _)
          unfold spec_liDraw.f
          exact Ev.bind (full_ev W H hW hH) dv
        rw [decide_eq_true h40, Bool.true_and]
        cases hall : s.data.toList.all isDir with
        | false =>
          rw [walk_bad W H _ _ _ _ hall] at sp
          exact none_ sp jt
        | true =>
          have hl : ∀ b ∈ s.data.toList, ∃ d, dirOf b = some d := fun b hb => Option.isSome_iff_exists.1 (List.all_eq_true.1 hall b hb)
          have st := strokeL_ev hW hH s.data.toList 0 x y hl (Nat.two_pow_pos _) hc
          have jf : ∀ k, impl_FigureOfStroke.j0 (k + 1) s (!true) x y W H = (strokeL k W H s.data.toList ((0 : Nat) : Int) x y).bind fun bt => if bt.2 = true then (impl_grid_figure.f k W H bt.1).bind fun q => some (q.1, q.2.1, q.2.2.1, q.2.2.2, true) else some (0, 0, [], [], false) := fun k => by
            rw [impl_FigureOfStroke.j0, if_neg (by decide)]
            unfold impl_grid_stroke.f
            rw [if_pos hs]
            rfl
          cases hv : walkV W H s.data.toList 0 x y with
          | none =>
            rw [hv] at sp st
            refine none_ sp (Ev.step jf (Ev.bind st ?_))
            exact Ev.congr (fun k => if_neg (by decide)) (Ev.now _)
          | some m =>
            rw [hv] at sp st
            have hm := walk_lt hW hH _ _ _ _ _ (Nat.two_pow_pos _) hv
            have la := listA_len (W * (H + 1)) m
            have lb := listB_len (W * (H + 1)) ((W + 1) * H) m
            have B := grid_bounds (w := (W : Int)) (h := (H : Int)) (by omega) (by omega)
            have eL : (W : Int) * ((H : Int) + 1) = ((W * (H + 1) : Nat) : Int) := by simp
            have eU : ((W : Int) + 1) * (H : Int) = (((W + 1) * H : Nat) : Int) := by simp
            rw [eL, eU] at B
            refine ⟨W, H, listA (W * (H + 1)) m, listB (W * (H + 1)) ((W + 1) * H) m, true, by omega, by omega, sp, ?_⟩
            refine Ev.step jf (Ev.bind st ?_)
            exact Ev.congr (fun k => if_pos rfl) (Ev.bind (figure_ev W H m hW hH hm) (Ev.now _))
      · rw [decide_eq_false h40, Bool.false_and]
        exact none_ (Ev.congr (fun k => if_pos (by omega)) (Ev.now _)) jt
theorem FnExactFigureOfStroke : laws_FnExactFigureOfStroke.Pure := by
  intro w h x y s _ _ _ _ _
  by_cases hs : s.size ≤ 1000000
  · obtain ⟨W, H, A, B, t, hA, hB, hsp, hi⟩ := both_FigureOfStroke w h x y s hs
    have all : Ev (fun k => laws_FnExactFigureOfStroke.f k w h x y s) true := by
      unfold laws_FnExactFigureOfStroke.f laws_toCorner.f
      refine Ev.congr (fun k => if_neg (by omega)) ?_
      simp only [Option.bind_some]
      refine Ev.bind hsp (Ev.bind hi (Ev.bind (eqFigure_ev W H A B hA hB) ?_))
      simp only [if_true, bne_self_eq_false]
      refine Ev.step (fun k => by simp only [laws_FnExactFigureOfStroke.j0, laws_toCorner.f, Option.bind_some, Bool.false_eq_true, if_false]; rfl) ?_
      refine Ev.bind (markFigure_is W H A B hA hB) (Ev.bind (heldFigure_ev W H A B hA hB) ?_)
      refine Ev.congr (fun k => (if_neg (by omega)).trans (if_pos rfl)) ?_
      refine Ev.bind hi (Ev.bind (eqFigure_ev W H A B hA hB) ?_)
      simp only [if_true, bne_self_eq_false]
      refine Ev.step (fun k => by simp only [laws_FnExactFigureOfStroke.j1, Bool.false_eq_true, if_false]; rfl) ?_
      refine Ev.bind (heldFigure_ev W H A B hA hB) ?_
      refine Ev.congr (fun k => (if_neg (by omega)).trans (if_pos rfl)) (Ev.now _)
    obtain ⟨K, hK⟩ := all
    exact ⟨K, hK K (Nat.le_refl _)⟩
  · refine ⟨0, ?_⟩
    unfold laws_FnExactFigureOfStroke.f
    rw [if_pos (by omega)]

end Go.Proofs.YtmlkihaoeopobaaDoor.Pure
