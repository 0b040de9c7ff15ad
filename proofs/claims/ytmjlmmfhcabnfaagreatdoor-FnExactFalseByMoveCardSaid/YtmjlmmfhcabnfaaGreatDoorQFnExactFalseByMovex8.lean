-- written by a program of this session, pm.py, for this claim
-- half the indentation
import Derived.Test.YtmjlmmfhcabnfaaGreatDoorQFnExactFalseByMovex0
import Derived.Test.YtmjlmmfhcabnfaaGreatDoorQFnExactFalseByMovex6
import Derived.Test.YtmjlmmfhcabnfaaGreatDoorQFnExactFalseByMovex7
namespace Go.Proofs.YtmjlmmfhcabnfaaGreatDoor.Q
open Go.RowKit Go.Proofs.YtmjlmmfhcabnfaaGreatDoorW.PrintWords Go.Proofs.YtmjlmmfhcabnfaaGreatDoorW.PrintLast Go.Proofs.YtmjlmmfhcabnfaaGreatDoorW.PrintMore
attribute [local go_sem] max2_int min2_int max_two min_two max_three min_three max_four min_four   -- for this text's walks alone
set_option linter.unusedVariables false
set_option linter.unusedSimpArgs false

/-! ### impl_repairs: function 19 -/
/-- A row of one-cell elements in a block, whatever the block's mark. -/
def RowB {α : Type} (enc : α → Value) (e : Nat) (W : World) (g c : Nat) (m : Nat × Nat) (xs : List α) : Prop := ∃ cur, W.heap[g]? = some (.cells cur e m) ∧ cur.size = c ∧ xs.length ≤ c ∧ cur.toList.take xs.length = xs.map enc ∧ (m = (0, 0) ∨ c ≤ m.1)
section
variable {α : Type} {enc : α → Value} {e g c : Nat} {m : Nat × Nat} {xs : List α} {W W1 : World}
theorem RowB.block (h : RowB enc e W g c m xs) (hb : W1.heap[g]? = W.heap[g]?) : RowB enc e W1 g c m xs := by
 obtain ⟨cur, h1, r⟩ := h
 exact ⟨cur, hb.trans h1, r⟩
theorem RowB.lt (h : RowB enc e W g c m xs) : g < W.heap.size := by
 obtain ⟨cur, h1, _⟩ := h
 exact (Array.getElem?_eq_some_iff.1 h1).1
theorem RowB.below (h : RowB enc e W g c m xs) (hb : Below W.heap.size W W1) : RowB enc e W1 g c m xs := h.block (hb.block g h.lt)
theorem RowB.len (h : RowB enc e W g c m xs) : xs.length ≤ c := by
 obtain ⟨_, _, _, h3, _⟩ := h
 exact h3
theorem RowB.cell (h : RowB enc e W g c m xs) {j : Nat} (hj : j < xs.length) : W.cell? ⟨g, j, none⟩ = some (enc xs[j]) := by
 obtain ⟨cur, h1, h2, h3, h4, _⟩ := h
 rw [cell_of_row W g j cur e m h1]
 have h5 : cur.toList[j]? = (cur.toList.take xs.length)[j]? := by rw [List.getElem?_take_of_lt hj]
 rw [← Array.getElem?_toList, h5, h4]
 simp [hj]
theorem RowB.there (h : RowB enc e W g c m xs) {j : Nat} (hj : j < c) : (W.cell? ⟨g, j, none⟩).isSome = true := by
 obtain ⟨cur, h1, h2, _⟩ := h
 rw [cell_of_row W g j cur e m h1]
 simp
 omega
theorem RowB.soft (h : RowB enc e W g c m xs) {j : Nat} (hj : j < c) : W.frozen? ⟨g, j, none⟩ = false := by
 obtain ⟨cur, h1, h2, h3, h4, h5⟩ := h
 obtain ⟨lo, hi⟩ := m
 simp only [World.frozen?, h1]
 rcases h5 with h5 | h5
 ·injection h5 with h6 h7
  subst h6; subst h7
  simp
 ·have : ¬ lo ≤ j := by show ¬ lo ≤ j; have h6 : c ≤ lo := h5; omega
  simp [this]
theorem RowB.put (h : RowB enc e W g c m xs) (j : Nat) (x : α) : RowB enc e (W.setCell ⟨g, j, none⟩ (enc x)) g c m (xs.set j x) := by
 obtain ⟨cur, h1, h2, h3, h4, h5⟩ := h
 refine ⟨cur.setIfInBounds j (enc x), ?_, by simpa using h2, by simpa using h3, ?_, h5⟩
 ·simp [World.setCell, Array.getElem?_modify, h1]
 ·rw [Array.toList_setIfInBounds, List.length_set, List.take_set, h4, List.map_set]
theorem RowB.far (h : RowB enc e W g c m xs) {j : Nat} (hj : xs.length ≤ j) (v : Value) : RowB enc e (W.setCell ⟨g, j, none⟩ v) g c m xs := by
 obtain ⟨cur, h1, h2, h3, h4, h5⟩ := h
 refine ⟨cur.setIfInBounds j v, ?_, by simpa using h2, h3, ?_, h5⟩
 ·simp [World.setCell, Array.getElem?_modify, h1]
 ·rw [Array.toList_setIfInBounds, List.take_set_of_le hj, h4]
theorem RowB.take (h : RowB enc e W g c m xs) {i : Nat} (hi : i ≤ xs.length) : RowB enc e W g c m (xs.take i) := by
 obtain ⟨cur, h1, h2, h3, h4, h5⟩ := h
 refine ⟨cur, h1, h2, by rw [List.length_take]; omega, ?_, h5⟩
 have := congrArg (List.take i) h4
 rw [List.take_take, Nat.min_eq_left hi, ← List.map_take] at this
 rw [List.length_take, Nat.min_eq_left hi]
 exact this
theorem RowB.over (i : Nat) : ∀ (seg : List Value) (o : Nat) (W : World), RowB enc e W g c m xs → xs.length ≤ o → RowB enc e (W.setCells g o seg) g c m xs
 | [], _, _, h, _ => h
 | v :: r, o, W, h, ho => RowB.over i r (o + 1) _ (h.far ho v) (by omega)
theorem RowB.of_R {h1 : ∀ x, (enc x).oneCell' = true} {base n : Nat} {ok : Nat → Prop} (h : (Kd.scalar enc h1).R e W base ok (.slice (some ⟨g, 0, none⟩) n c) xs) : RowB enc e W g c (0, 0) xs ∧ base ≤ g ∧ c ≤ maxLen ∧ n = xs.length := by
 have hn := (Kd.R_reads' h).1
 subst hn
 have ho := Kd.own_of_R h
 rcases ho.2 with ⟨hv, _⟩ | ⟨g', cap, cur, hv, hb, hh, hl, hm, hc, ht⟩
 ·cases hv
 ·injection hv with ha _ hc'
  injection ha with ha
  injection ha with hg'
  subst hg'; subst hc'
  exact ⟨⟨cur, hh, by omega, hl, by simpa [encs] using ht, .inl rfl⟩, hb, hm, rfl⟩
theorem RowB.to_R {h1 : ∀ x, (enc x).oneCell' = true} {base : Nat} (h : RowB enc e W g c (0, 0) xs) (hb : base ≤ g) (hm : c ≤ maxLen) : (Kd.scalar enc h1).R e W base (fun _ => True) (.slice (some ⟨g, 0, none⟩) xs.length c) xs := by
 obtain ⟨cur, a1, a2, a3, a4, _⟩ := h
 exact Kd.R_of_own ⟨by simp [encs], .inr ⟨g, c, cur, rfl, hb, a1, a3, hm, by omega, by simpa [encs] using a4⟩⟩ (fun _ _ => trivial)
end
/-- clear at elements of several cells. -/
theorem run_clear_k {P : Program} (w : World) (t e ty : TypeId) (z : Value) (ht : P.underlying t = some (.slice e)) (hv : ∀ w, (zeroValue e).run P w = .ok z w) (b o n c : Nat) (hn : 0 < n) (h1 : ∀ v ∈ (Builtin.zeroCells z.cells n).toList, v.oneCell' = true)
  (hc : ∀ j, j < (Builtin.zeroCells z.cells n).toList.length → (w.cell? ⟨b, o + j, none⟩).isSome = true) (hf : ∀ j, j < (Builtin.zeroCells z.cells n).toList.length → w.frozen? ⟨b, o + j, none⟩ = false) :
  (Builtin.clear_ #[t] ty #[.slice (some ⟨b, o, none⟩) n c]).run P w = .ok (.tuple #[]) (w.setCells b o (Builtin.zeroCells z.cells n).toList) := by
 have hst := run_storeCells_cells (P := P) b o (Builtin.zeroCells z.cells n).toList 0 w (by simpa using hc) (by simpa using hf) h1
 simp only [Nat.add_zero] at hst
 obtain ⟨m, rfl⟩ : ∃ m, n = m + 1 := ⟨n - 1, by omega⟩
 simp [Builtin.clear_, run_underlying ht, hv, hst]
theorem below_setCells {B g : Nat} {w W : World} (h : Below B w W) (hg : B ≤ g) : ∀ (vs : List Value) (o : Nat), Below B w (W.setCells g o vs) := by
 intro vs
 induction vs generalizing W with
 | nil => intro o; exact h
 | cons v r ih => intro o; exact ih (h.setCell (p := ⟨g, o, none⟩) hg v) (o + 1)
/-- Where p holds first, counted from i; -1: nowhere. -/
def idxB (p : Int → Bool) : List Int → Int → Int
 | [], _ => -1
 | x :: xs, i => if p x = true then i else idxB p xs (i + 1)
theorem idxB_spec (p : Int → Bool) : ∀ (l : List Int) (i : Int), 0 ≤ i → (idxB p l i = -1 ∧ l.filter (fun x => !p x) = l) ∨ ∃ k, k < l.length ∧ idxB p l i = i + (k : Int) ∧ (∃ h : k < l.length, p l[k] = true) ∧ (l.take k).filter (fun x => !p x) = l.take k
 | [], i, _ => .inl ⟨rfl, rfl⟩
 | x :: xs, i, hi => by
  by_cases hp : p x = true
  ·exact .inr ⟨0, by simp, by simp [idxB, hp], ⟨by simp, by simpa using hp⟩, rfl⟩
  ·have hp' : p x = false := by simpa using hp
   rcases idxB_spec p xs (i + 1) (by omega) with ⟨h1, h2⟩ | ⟨k, h1, h2, ⟨h3, h4⟩, h5⟩
   ·exact .inl ⟨by simp [idxB, hp', h1], by simp [hp', h2]⟩
   ·refine .inr ⟨k + 1, by simpa using h1, by simp only [idxB, hp']; rw [if_neg (by decide), h2]; omega, ⟨by simpa using h1, by simpa using h4⟩, by simp [hp', h5]⟩
set_option maxHeartbeats 8000000 in
set_option maxRecDepth 100000 in
theorem IndexFuncB (lb : Array Value) (p : Int → Bool) (Ok : World → Prop) (w : World) (g c : Nat) (m : Nat × Nat) (l : List Int) (hr : RowB (Value.int .u8) 5 w g c m l) (hl : l.length ≤ 1000000) (hok : Ok w) (hob : ∀ W W', Ok W → Below W.heap.size W W' → Ok W')
  (hp : ∀ x ∈ l, ∀ W, Ok W → Calls Tryz.prog 54 (#[Value.int .u8 x] ++ lb) W fun e w' => e = .returned (.bool (p x)) ∧ Below W.heap.size W w') :
  Calls Tryz.prog 69 #[.slice (some ⟨g, 0, none⟩) l.length c, .func (.func 54) #[] lb] w fun e w' => e = .returned (.int .i64 (idxB p l 0)) ∧ Below w.heap.size w w' ∧ Ok w' := by
 have eg : ∀ args w, (callFunc 54 args).run Tryz.prog w = .ok (.enter 54 args) w := enters_of Tryz.func54 (by kernel_rfl) rfl
 have HR := Aside0.mk hr
 have HP := Aside0.mk hp
 have HOB := Aside0.mk hob
 have HOK := Aside0.mk hok
 clear hr hp hob hok
 go_enter Tryz.func69, Tryz.ntmps69
 go_wp2
 go_loopg [5, 8] l.length (fun gg _ s8 wr => ∃ kk : Nat, kk ≤ l.length ∧ l.length - kk ≤ gg ∧ s8 = .int .i64 kk ∧ Aside0 (Below w.heap.size w wr) ∧ Aside0 (Ok wr) ∧ Aside0 (idxB p l 0 = idxB p (l.drop kk) kk))
 case atStart => exact ⟨0, Nat.zero_le _, by omega, rfl, ⟨Below.refl _ _⟩, HOK, ⟨by simp⟩⟩
 case round =>
  clear HOK
  obtain ⟨kk, hkk, hg, rfl, HB, HOK, HI⟩ := hrel
  by_cases hlt : kk < l.length
  ·have hltz : (kk : Int) < (l.length : Int) := by omega
   have h0 := (HR.out.below HB.out).cell hlt
   have HD := HI.out
   have hmem := List.getElem_mem hlt
   rw [List.drop_eq_getElem_cons hlt] at HD
   simp only [idxB] at HD
   clear HI
   generalize l[kk] = y at *
   have HC := Aside0.mk (fun W hb => HP.out y hmem W hb)
   clear hmem
   cases hq : p y with
   | true =>
    rw [hq, if_pos rfl] at HD
    have HE := Aside0.mk HD
    have HQ := Aside0.mk hq
    clear HD hq
    go_wp2_with (go_at_fn 54; (with_reducible refine (HC.out _ HOK.out).mono ?_); rw [HQ.out]; rintro e w' ⟨rfl, hb⟩)
    go_ret
    exact ⟨by rw [HE.out] <;> rfl, HB.out.trans (hb.mono HB.out.size), HOB.out _ _ HOK.out hb⟩
   | false =>
    rw [hq, if_neg (by decide)] at HD
    have HE := Aside0.mk HD
    have HQ := Aside0.mk hq
    clear HD hq
    go_wp2_with (go_at_fn 54; (with_reducible refine (HC.out _ HOK.out).mono ?_); rw [HQ.out]; rintro e w' ⟨rfl, hb⟩)
    go_roundg (l.length - (kk + 1))
    case measure => omega
    case rel => exact ⟨kk + 1, by omega, by omega, by go_num, ⟨HB.out.trans (hb.mono HB.out.size)⟩, ⟨HOB.out _ _ HOK.out hb⟩, ⟨HE.out⟩⟩
  ·have hltz : ¬ (kk : Int) < (l.length : Int) := by omega
   have HE : Aside0 (idxB p l 0 = -1) := ⟨HI.out.trans (by rw [List.drop_of_length_le (by omega)] <;> rfl)⟩
   clear HI
   go_wp2
   go_ret
   exact ⟨by rw [HE.out] <;> rfl, HB.out, HOK.out⟩
theorem take_snocB {p : Int → Bool} {l : List Int} {j : Nat} (hj : j < l.length) : (l.take (j + 1)).filter p = (l.take j).filter p ++ (if p l[j] = true then [l[j]] else []) := by
 rw [List.take_succ_eq_append_getElem hj, List.filter_append]
 congr 1
 by_cases h : p l[j] = true
 ·simp [h]
 ·simp [h]
def inB (p : Int → Bool) (l xs : List Int) (i j : Nat) : Prop := xs.length = l.length ∧ xs.take i = (l.take j).filter (fun q => !p q) ∧ xs.drop j = l.drop j
theorem inB_get {p : Int → Bool} {l xs : List Int} {i j : Nat} (h : inB p l xs i j) (hj : j < l.length) : ∃ h' : j < xs.length, xs[j] = l[j] := by
 obtain ⟨h1, _, h3⟩ := h
 have hj' : j < xs.length := by omega
 rw [List.drop_eq_getElem_cons hj', List.drop_eq_getElem_cons hj] at h3
 exact ⟨hj', (List.cons.inj h3).1⟩
theorem inB_skip {p : Int → Bool} {l xs : List Int} {i j : Nat} (h : inB p l xs i j) (hj : j < l.length) (hp : p l[j] = true) : inB p l xs i (j + 1) := by
 obtain ⟨h1, h2, h3⟩ := h
 refine ⟨h1, ?_, ?_⟩
 ·rw [h2, take_snocB hj, if_neg (by simp [hp]), List.append_nil]
 ·have := congrArg (List.drop 1) h3
  rwa [List.drop_drop, List.drop_drop] at this
theorem inB_keep {p : Int → Bool} {l xs : List Int} {i j : Nat} (h : inB p l xs i j) (hj : j < l.length) (hij : i < j) (hp : p l[j] = false) : inB p l (xs.set i l[j]) (i + 1) (j + 1) := by
 obtain ⟨h1, h2, h3⟩ := h
 refine ⟨by rw [List.length_set, h1], ?_, ?_⟩
 ·rw [take_snocB hj, if_pos (by simp [hp]), ← h2, List.take_succ_eq_append_getElem (by rw [List.length_set]; omega), List.take_set_of_le (Nat.le_refl _), List.getElem_set_self]
 ·rw [List.drop_set_of_lt (by omega)]
  have := congrArg (List.drop 1) h3
  rwa [List.drop_drop, List.drop_drop] at this
theorem inB_start {p : Int → Bool} {l : List Int} {k : Nat} (hk : k < l.length) (hp : p l[k] = true) (hf : (l.take k).filter (fun q => !p q) = l.take k) : inB p l l k (k + 1) := by
 refine ⟨rfl, ?_, rfl⟩
 rw [take_snocB hk, if_neg (by simp [hp]), List.append_nil, hf]
set_option maxHeartbeats 8000000 in
set_option maxRecDepth 100000 in
theorem DeleteFuncB (lb : Array Value) (p : Int → Bool) (Ok : World → Prop) (B : Nat) (w : World) (g c : Nat) (m : Nat × Nat) (l : List Int) (hl : l.length ≤ 1000000) (hR : RowB (Value.int .u8) 5 w g c m l) (hBg : B ≤ g) (hok : Ok w) (hob : ∀ W W', Ok W → Below W.heap.size W W' → Ok W')
  (hos : ∀ W i v, Ok W → Ok (W.setCell ⟨g, i, none⟩ v)) (hp : ∀ x ∈ l, ∀ W, Ok W → Calls Tryz.prog 54 (#[Value.int .u8 x] ++ lb) W fun e w' => e = .returned (.bool (p x)) ∧ Below W.heap.size W w') :
  Calls Tryz.prog 53 #[.slice (some ⟨g, 0, none⟩) l.length c, .func (.func 54) #[] lb] w fun e w' => e = .returned (.slice (some ⟨g, 0, none⟩) (l.filter (fun x => !p x)).length c) ∧ RowB (Value.int .u8) 5 w' g c m (l.filter (fun x => !p x)) ∧ Below B w w' := by
 have eg : ∀ args w, (callFunc 54 args).run Tryz.prog w = .ok (.enter 54 args) w := enters_of Tryz.func54 (by kernel_rfl) rfl
 have hIF := IndexFuncB lb p Ok w g c m l hR hl hok hob hp
 have hB : B ≤ w.heap.size := Nat.le_trans hBg (Nat.le_of_lt hR.lt)
 have HP := Aside0.mk hp
 have HOB := Aside0.mk hob
 clear hp hok hob
 rcases idxB_spec p l 0 (by omega) with ⟨h1, h2⟩ | ⟨k0, h1, h2, ⟨h3, h4⟩, h5⟩
 ·rw [h1] at hIF
  rw [h2]
  have HI := Aside0.mk hIF
  have HR := Aside0.mk hR
  clear hIF hR h1 h2 hos
  go_enter Tryz.func53, Tryz.ntmps53
  go_wp2_with (go_at_call 69; (with_reducible refine HI.out.mono ?_); rintro e w' ⟨rfl, hb, ho⟩)
  go_ret
  exact ⟨rfl, HR.out.below hb, hb.mono hB⟩
 ·rw [h2] at hIF
  rw [show (0 : Int) + (k0 : Int) = (k0 : Int) by omega] at hIF
  have hD := inB_start h3 h4 h5
  have HOS := Aside0.mk hos
  have HI := Aside0.mk hIF
  have HR := Aside0.mk hR
  have HD := Aside0.mk hD
  have hc1 := hR.len
  have hne1 : ((k0 : Int) == -1) = false := beq_eq_false_iff_ne.2 (by omega)
  clear hIF hR h2 h3 h4 h5 hD hos
  go_enter Tryz.func53, Tryz.ntmps53
  go_wp2_with (go_at_call 69; (with_reducible refine HI.out.mono ?_); rintro e w' ⟨rfl, hb, ho⟩)
  go_loopg [5, 6, 7] l.length (fun gg s5 s6 _ wr => ∃ (i j : Nat) (xs : List Int), s5 = .int .i64 i ∧ s6 = .int .i64 j ∧ j ≤ l.length ∧ l.length - j ≤ gg ∧ i < j ∧ Aside0 (Below B w wr) ∧ Aside0 (RowB (Value.int .u8) 5 wr g c m xs) ∧ Aside0 (Ok wr) ∧ Aside0 (inB p l xs i j))
  case atStart => exact ⟨k0, k0 + 1, l, rfl, by go_num, by omega, by omega, by omega, ⟨hb.mono hB⟩, ⟨HR.out.below hb⟩, ⟨ho⟩, HD⟩
  case round =>
   clear HI HR HD hb ho hne1
   obtain ⟨i, j, xs, rfl, rfl, hj, hgg, hij, HB, HR, HOK, HD⟩ := hrel
   have hxl : xs.length = l.length := HD.out.1
   by_cases hlt : j < l.length
   ·have hltz : (j : Int) < (l.length : Int) := by omega
    obtain ⟨hj', hxj⟩ := inB_get HD.out hlt
    have h0 := HR.out.cell hj'
    rw [hxj] at h0
    have hci := HR.out.cell (j := i) (by omega)
    have hfi := HR.out.soft (j := i) (by omega)
    have hkeep := fun hq => inB_keep (p := p) HD.out hlt hij hq
    have hskip := fun hq => inB_skip (p := p) HD.out hlt hq
    have hmem := List.getElem_mem hlt
    clear hxj
    generalize l[j] = y at *
    have HK := Aside0.mk hkeep
    have HS := Aside0.mk hskip
    have HCC := Aside0.mk (fun W hb => HP.out y hmem W hb)
    clear hkeep hskip hmem
    cases hq : p y with
    | true =>
     have HQ := Aside0.mk hq
     clear hq
     go_wp2_with (go_at_fn 54; (with_reducible refine (HCC.out _ HOK.out).mono ?_); rw [HQ.out]; rintro e w1 ⟨rfl, hb⟩)
     go_roundg (l.length - (j + 1))
     case measure => omega
     case rel =>
      have hs1 := HB.out.size
      exact ⟨i, j + 1, xs, rfl, by go_num, by omega, by omega, by omega, ⟨HB.out.trans (hb.mono (by omega))⟩, ⟨HR.out.below hb⟩, ⟨HOB.out _ _ HOK.out hb⟩, ⟨HS.out HQ.out⟩⟩
    | false =>
     have HQ := Aside0.mk hq
     clear hq
     go_wp2_with (go_at_fn 54; (with_reducible refine (HCC.out _ HOK.out).mono ?_); rw [HQ.out]; rintro e w1 ⟨rfl, hb⟩; have hc2 := (hb.cell (p := ⟨g, i, none⟩) (World.block_lt_of_cell? _ _ hci)).trans hci; have hf2 := (hb.frozen (p := ⟨g, i, none⟩) (World.block_lt_of_cell? _ _ hci)).trans hfi)
     have hs1 := HB.out.size
     have HP2 := Aside0.mk ((HR.out.below hb).put i y)
     go_roundg (l.length - (j + 1))
     case measure => omega
     case rel => exact ⟨i + 1, j + 1, xs.set i y, by go_num, by go_num, by omega, by omega, by omega, ⟨(HB.out.trans (hb.mono (by omega))).setCell (p := ⟨g, i, none⟩) hBg _⟩, HP2, ⟨HOS.out _ i _ (HOB.out _ _ HOK.out hb)⟩, ⟨HK.out HQ.out⟩⟩
   ·have hje : j = l.length := by omega
    subst hje
    have hltz : ¬ (l.length : Int) < (l.length : Int) := by omega
    have hlen : (Builtin.zeroCells (.int .u8 0 : Value).cells (l.length - i)).toList.length = l.length - i := by simp [Builtin.zeroCells, Value.cells]
    have hone : ∀ v ∈ (Builtin.zeroCells (.int .u8 0 : Value).cells (l.length - i)).toList, v.oneCell' = true := by
     intro v hv
     simp [Builtin.zeroCells, Value.cells] at hv
     obtain ⟨_, _, rfl⟩ := hv
     simp only [Nat.mod_one]
     rfl
    have hclr : ∀ ty, (Builtin.clear_ #[43] ty #[.slice (some ⟨g, i, none⟩) (l.length - i) (c - i)]).run Tryz.prog wr = .ok (.tuple #[]) (wr.setCells g i (Builtin.zeroCells (.int .u8 0 : Value).cells (l.length - i)).toList) :=
     fun ty => run_clear_k wr 43 5 ty _ Tryz.underlying43 (fun w => by kernel_rfl) g i _ _ (by omega) hone (fun j hj => by rw [hlen] at hj; exact HR.out.there (by omega)) (fun j hj => by rw [hlen] at hj; exact HR.out.soft (by omega))
    generalize hz : (Builtin.zeroCells (.int .u8 0 : Value).cells (l.length - i)).toList = seg at *
    have hc1' := hc1
    clear hz hlen hone
    have hfil : l.filter (fun q => !p q) = xs.take i := by
     have := HD.out.2.1
     rw [List.take_length] at this
     exact this.symm
    have hfl : (l.filter (fun q => !p q)).length = i := by rw [hfil, List.length_take]; omega
    have HF := Aside0.mk (And.intro hfil hfl)
    clear hfil hfl
    go_wp2
    go_ret
    rw [HF.out.2, HF.out.1]
    exact ⟨rfl, RowB.over i _ _ _ (HR.out.take (by omega)) (by rw [List.length_take]; omega), below_setCells HB.out hBg _ _⟩
/-! ### impl_repairs_two: texts -/
/-- Where p holds first, counted from i; -1: nowhere. -/
def idxT (p : ByteArray → Bool) : List ByteArray → Int → Int
 | [], _ => -1
 | x :: xs, i => if p x = true then i else idxT p xs (i + 1)
theorem idxT_spec (p : ByteArray → Bool) : ∀ (l : List ByteArray) (i : Int), 0 ≤ i → (idxT p l i = -1 ∧ l.filter (fun x => !p x) = l) ∨ ∃ k, k < l.length ∧ idxT p l i = i + (k : Int) ∧ (∃ h : k < l.length, p l[k] = true) ∧ (l.take k).filter (fun x => !p x) = l.take k
 | [], i, _ => .inl ⟨rfl, rfl⟩
 | x :: xs, i, hi => by
  by_cases hp : p x = true
  ·exact .inr ⟨0, by simp, by simp [idxT, hp], ⟨by simp, by simpa using hp⟩, rfl⟩
  ·have hp' : p x = false := by simpa using hp
   rcases idxT_spec p xs (i + 1) (by omega) with ⟨h1, h2⟩ | ⟨k, h1, h2, ⟨h3, h4⟩, h5⟩
   ·exact .inl ⟨by simp [idxT, hp', h1], by simp [hp', h2]⟩
   ·refine .inr ⟨k + 1, by simpa using h1, by simp only [idxT, hp']; rw [if_neg (by decide), h2]; omega, ⟨by simpa using h1, by simpa using h4⟩, by simp [hp', h5]⟩
set_option maxHeartbeats 8000000 in
set_option maxRecDepth 100000 in
theorem IndexFuncT (lb : Array Value) (p : ByteArray → Bool) (Ok : World → Prop) (w : World) (g c : Nat) (m : Nat × Nat) (l : List ByteArray) (hr : RowB (Value.string) 9 w g c m l) (hl : l.length ≤ 1000000) (hok : Ok w) (hob : ∀ W W', Ok W → Below W.heap.size W W' → Ok W')
  (hp : ∀ x ∈ l, ∀ W, Ok W → Calls Tryz.prog 30 (#[Value.string x] ++ lb) W fun e w' => e = .returned (.bool (p x)) ∧ Below W.heap.size W w') :
  Calls Tryz.prog 38 #[.slice (some ⟨g, 0, none⟩) l.length c, .func (.func 30) #[] lb] w fun e w' => e = .returned (.int .i64 (idxT p l 0)) ∧ Below w.heap.size w w' ∧ Ok w' := by
 have eg : ∀ args w, (callFunc 30 args).run Tryz.prog w = .ok (.enter 30 args) w := enters_of Tryz.func30 (by kernel_rfl) rfl
 have HR := Aside0.mk hr
 have HP := Aside0.mk hp
 have HOB := Aside0.mk hob
 have HOK := Aside0.mk hok
 clear hr hp hob hok
 go_enter Tryz.func38, Tryz.ntmps38
 go_wp2
 go_loopg [5, 8] l.length (fun gg _ s8 wr => ∃ kk : Nat, kk ≤ l.length ∧ l.length - kk ≤ gg ∧ s8 = .int .i64 kk ∧ Aside0 (Below w.heap.size w wr) ∧ Aside0 (Ok wr) ∧ Aside0 (idxT p l 0 = idxT p (l.drop kk) kk))
 case atStart => exact ⟨0, Nat.zero_le _, by omega, rfl, ⟨Below.refl _ _⟩, HOK, ⟨by simp⟩⟩
 case round =>
  clear HOK
  obtain ⟨kk, hkk, hg, rfl, HB, HOK, HI⟩ := hrel
  by_cases hlt : kk < l.length
  ·have hltz : (kk : Int) < (l.length : Int) := by omega
   have h0 := (HR.out.below HB.out).cell hlt
   have HD := HI.out
   have hmem := List.getElem_mem hlt
   rw [List.drop_eq_getElem_cons hlt] at HD
   simp only [idxT] at HD
   clear HI
   generalize l[kk] = y at *
   have HC := Aside0.mk (fun W hb => HP.out y hmem W hb)
   clear hmem
   cases hq : p y with
   | true =>
    rw [hq, if_pos rfl] at HD
    have HE := Aside0.mk HD
    have HQ := Aside0.mk hq
    clear HD hq
    go_wp2_with (go_at_fn 30; (with_reducible refine (HC.out _ HOK.out).mono ?_); rw [HQ.out]; rintro e w' ⟨rfl, hb⟩)
    go_ret
    exact ⟨by rw [HE.out] <;> rfl, HB.out.trans (hb.mono HB.out.size), HOB.out _ _ HOK.out hb⟩
   | false =>
    rw [hq, if_neg (by decide)] at HD
    have HE := Aside0.mk HD
    have HQ := Aside0.mk hq
    clear HD hq
    go_wp2_with (go_at_fn 30; (with_reducible refine (HC.out _ HOK.out).mono ?_); rw [HQ.out]; rintro e w' ⟨rfl, hb⟩)
    go_roundg (l.length - (kk + 1))
    case measure => omega
    case rel => exact ⟨kk + 1, by omega, by omega, by go_num, ⟨HB.out.trans (hb.mono HB.out.size)⟩, ⟨HOB.out _ _ HOK.out hb⟩, ⟨HE.out⟩⟩
  ·have hltz : ¬ (kk : Int) < (l.length : Int) := by omega
   have HE : Aside0 (idxT p l 0 = -1) := ⟨HI.out.trans (by rw [List.drop_of_length_le (by omega)] <;> rfl)⟩
   clear HI
   go_wp2
   go_ret
   exact ⟨by rw [HE.out] <;> rfl, HB.out, HOK.out⟩
theorem take_snocT {p : ByteArray → Bool} {l : List ByteArray} {j : Nat} (hj : j < l.length) : (l.take (j + 1)).filter p = (l.take j).filter p ++ (if p l[j] = true then [l[j]] else []) := by
 rw [List.take_succ_eq_append_getElem hj, List.filter_append]
 congr 1
 by_cases h : p l[j] = true
 ·simp [h]
 ·simp [h]
def inT (p : ByteArray → Bool) (l xs : List ByteArray) (i j : Nat) : Prop := xs.length = l.length ∧ xs.take i = (l.take j).filter (fun q => !p q) ∧ xs.drop j = l.drop j
theorem inT_get {p : ByteArray → Bool} {l xs : List ByteArray} {i j : Nat} (h : inT p l xs i j) (hj : j < l.length) : ∃ h' : j < xs.length, xs[j] = l[j] := by
 obtain ⟨h1, _, h3⟩ := h
 have hj' : j < xs.length := by omega
 rw [List.drop_eq_getElem_cons hj', List.drop_eq_getElem_cons hj] at h3
 exact ⟨hj', (List.cons.inj h3).1⟩
theorem inT_skip {p : ByteArray → Bool} {l xs : List ByteArray} {i j : Nat} (h : inT p l xs i j) (hj : j < l.length) (hp : p l[j] = true) : inT p l xs i (j + 1) := by
 obtain ⟨h1, h2, h3⟩ := h
 refine ⟨h1, ?_, ?_⟩
 ·rw [h2, take_snocT hj, if_neg (by simp [hp]), List.append_nil]
 ·have := congrArg (List.drop 1) h3
  rwa [List.drop_drop, List.drop_drop] at this
theorem inT_keep {p : ByteArray → Bool} {l xs : List ByteArray} {i j : Nat} (h : inT p l xs i j) (hj : j < l.length) (hij : i < j) (hp : p l[j] = false) : inT p l (xs.set i l[j]) (i + 1) (j + 1) := by
 obtain ⟨h1, h2, h3⟩ := h
 refine ⟨by rw [List.length_set, h1], ?_, ?_⟩
 ·rw [take_snocT hj, if_pos (by simp [hp]), ← h2, List.take_succ_eq_append_getElem (by rw [List.length_set]; omega), List.take_set_of_le (Nat.le_refl _), List.getElem_set_self]
 ·rw [List.drop_set_of_lt (by omega)]
  have := congrArg (List.drop 1) h3
  rwa [List.drop_drop, List.drop_drop] at this
theorem inT_start {p : ByteArray → Bool} {l : List ByteArray} {k : Nat} (hk : k < l.length) (hp : p l[k] = true) (hf : (l.take k).filter (fun q => !p q) = l.take k) : inT p l l k (k + 1) := by
 refine ⟨rfl, ?_, rfl⟩
 rw [take_snocT hk, if_neg (by simp [hp]), List.append_nil, hf]
set_option maxHeartbeats 8000000 in
set_option maxRecDepth 100000 in
theorem DeleteFuncT (lb : Array Value) (p : ByteArray → Bool) (Ok : World → Prop) (B : Nat) (w : World) (g c : Nat) (m : Nat × Nat) (l : List ByteArray) (hl : l.length ≤ 1000000) (hR : RowB (Value.string) 9 w g c m l) (hBg : B ≤ g) (hok : Ok w) (hob : ∀ W W', Ok W → Below W.heap.size W W' → Ok W')
  (hos : ∀ W i v, Ok W → Ok (W.setCell ⟨g, i, none⟩ v)) (hp : ∀ x ∈ l, ∀ W, Ok W → Calls Tryz.prog 30 (#[Value.string x] ++ lb) W fun e w' => e = .returned (.bool (p x)) ∧ Below W.heap.size W w') :
  Calls Tryz.prog 28 #[.slice (some ⟨g, 0, none⟩) l.length c, .func (.func 30) #[] lb] w fun e w' => e = .returned (.slice (some ⟨g, 0, none⟩) (l.filter (fun x => !p x)).length c) ∧ RowB (Value.string) 9 w' g c m (l.filter (fun x => !p x)) ∧ Below B w w' := by
 have eg : ∀ args w, (callFunc 30 args).run Tryz.prog w = .ok (.enter 30 args) w := enters_of Tryz.func30 (by kernel_rfl) rfl
 have hIF := IndexFuncT lb p Ok w g c m l hR hl hok hob hp
 have hB : B ≤ w.heap.size := Nat.le_trans hBg (Nat.le_of_lt hR.lt)
 have HP := Aside0.mk hp
 have HOB := Aside0.mk hob
 clear hp hok hob
 rcases idxT_spec p l 0 (by omega) with ⟨h1, h2⟩ | ⟨k0, h1, h2, ⟨h3, h4⟩, h5⟩
 ·rw [h1] at hIF
  rw [h2]
  have HI := Aside0.mk hIF
  have HR := Aside0.mk hR
  clear hIF hR h1 h2 hos
  go_enter Tryz.func28, Tryz.ntmps28
  go_wp2_with (go_at_call 38; (with_reducible refine HI.out.mono ?_); rintro e w' ⟨rfl, hb, ho⟩)
  go_ret
  exact ⟨rfl, HR.out.below hb, hb.mono hB⟩
 ·rw [h2] at hIF
  rw [show (0 : Int) + (k0 : Int) = (k0 : Int) by omega] at hIF
  have hD := inT_start h3 h4 h5
  have HOS := Aside0.mk hos
  have HI := Aside0.mk hIF
  have HR := Aside0.mk hR
  have HD := Aside0.mk hD
  have hc1 := hR.len
  have hne1 : ((k0 : Int) == -1) = false := beq_eq_false_iff_ne.2 (by omega)
  clear hIF hR h2 h3 h4 h5 hD hos
  go_enter Tryz.func28, Tryz.ntmps28
  go_wp2_with (go_at_call 38; (with_reducible refine HI.out.mono ?_); rintro e w' ⟨rfl, hb, ho⟩)
  go_loopg [5, 6, 7] l.length (fun gg s5 s6 _ wr => ∃ (i j : Nat) (xs : List ByteArray), s5 = .int .i64 i ∧ s6 = .int .i64 j ∧ j ≤ l.length ∧ l.length - j ≤ gg ∧ i < j ∧ Aside0 (Below B w wr) ∧ Aside0 (RowB (Value.string) 9 wr g c m xs) ∧ Aside0 (Ok wr) ∧ Aside0 (inT p l xs i j))
  case atStart => exact ⟨k0, k0 + 1, l, rfl, by go_num, by omega, by omega, by omega, ⟨hb.mono hB⟩, ⟨HR.out.below hb⟩, ⟨ho⟩, HD⟩
  case round =>
   clear HI HR HD hb ho hne1
   obtain ⟨i, j, xs, rfl, rfl, hj, hgg, hij, HB, HR, HOK, HD⟩ := hrel
   have hxl : xs.length = l.length := HD.out.1
   by_cases hlt : j < l.length
   ·have hltz : (j : Int) < (l.length : Int) := by omega
    obtain ⟨hj', hxj⟩ := inT_get HD.out hlt
    have h0 := HR.out.cell hj'
    rw [hxj] at h0
    have hci := HR.out.cell (j := i) (by omega)
    have hfi := HR.out.soft (j := i) (by omega)
    have hkeep := fun hq => inT_keep (p := p) HD.out hlt hij hq
    have hskip := fun hq => inT_skip (p := p) HD.out hlt hq
    have hmem := List.getElem_mem hlt
    clear hxj
    generalize l[j] = y at *
    have HK := Aside0.mk hkeep
    have HS := Aside0.mk hskip
    have HCC := Aside0.mk (fun W hb => HP.out y hmem W hb)
    clear hkeep hskip hmem
    cases hq : p y with
    | true =>
     have HQ := Aside0.mk hq
     clear hq
     go_wp2_with (go_at_fn 30; (with_reducible refine (HCC.out _ HOK.out).mono ?_); rw [HQ.out]; rintro e w1 ⟨rfl, hb⟩)
     go_roundg (l.length - (j + 1))
     case measure => omega
     case rel =>
      have hs1 := HB.out.size
      exact ⟨i, j + 1, xs, rfl, by go_num, by omega, by omega, by omega, ⟨HB.out.trans (hb.mono (by omega))⟩, ⟨HR.out.below hb⟩, ⟨HOB.out _ _ HOK.out hb⟩, ⟨HS.out HQ.out⟩⟩
    | false =>
     have HQ := Aside0.mk hq
     clear hq
     go_wp2_with (go_at_fn 30; (with_reducible refine (HCC.out _ HOK.out).mono ?_); rw [HQ.out]; rintro e w1 ⟨rfl, hb⟩; have hc2 := (hb.cell (p := ⟨g, i, none⟩) (World.block_lt_of_cell? _ _ hci)).trans hci; have hf2 := (hb.frozen (p := ⟨g, i, none⟩) (World.block_lt_of_cell? _ _ hci)).trans hfi)
     have hs1 := HB.out.size
     have HP2 := Aside0.mk ((HR.out.below hb).put i y)
     go_roundg (l.length - (j + 1))
     case measure => omega
     case rel => exact ⟨i + 1, j + 1, xs.set i y, by go_num, by go_num, by omega, by omega, by omega, ⟨(HB.out.trans (hb.mono (by omega))).setCell (p := ⟨g, i, none⟩) hBg _⟩, HP2, ⟨HOS.out _ i _ (HOB.out _ _ HOK.out hb)⟩, ⟨HK.out HQ.out⟩⟩
   ·have hje : j = l.length := by omega
    subst hje
    have hltz : ¬ (l.length : Int) < (l.length : Int) := by omega
    have hlen : (Builtin.zeroCells (.string ByteArray.empty : Value).cells (l.length - i)).toList.length = l.length - i := by simp [Builtin.zeroCells, Value.cells]
    have hone : ∀ v ∈ (Builtin.zeroCells (.string ByteArray.empty : Value).cells (l.length - i)).toList, v.oneCell' = true := by
     intro v hv
     simp [Builtin.zeroCells, Value.cells] at hv
     obtain ⟨_, _, rfl⟩ := hv
     simp only [Nat.mod_one]
     rfl
    have hclr : ∀ ty, (Builtin.clear_ #[22] ty #[.slice (some ⟨g, i, none⟩) (l.length - i) (c - i)]).run Tryz.prog wr = .ok (.tuple #[]) (wr.setCells g i (Builtin.zeroCells (.string ByteArray.empty : Value).cells (l.length - i)).toList) :=
     fun ty => run_clear_k wr 22 9 ty _ Tryz.underlying22 (fun w => by kernel_rfl) g i _ _ (by omega) hone (fun j hj => by rw [hlen] at hj; exact HR.out.there (by omega)) (fun j hj => by rw [hlen] at hj; exact HR.out.soft (by omega))
    generalize hz : (Builtin.zeroCells (.string ByteArray.empty : Value).cells (l.length - i)).toList = seg at *
    have hc1' := hc1
    clear hz hlen hone
    have hfil : l.filter (fun q => !p q) = xs.take i := by
     have := HD.out.2.1
     rw [List.take_length] at this
     exact this.symm
    have hfl : (l.filter (fun q => !p q)).length = i := by rw [hfil, List.length_take]; omega
    have HF := Aside0.mk (And.intro hfil hfl)
    clear hfil hfl
    go_wp2
    go_ret
    rw [HF.out.2, HF.out.1]
    exact ⟨rfl, RowB.over i _ _ _ (HR.out.take (by omega)) (by rw [List.length_take]; omega), below_setCells HB.out hBg _ _⟩
/-! ### impl_repairs_three: signs -/
theorem quiet_take {P : Program} {ops : Array Oper} {C : World → Prop} {Q : Act → Prop} {o : Oper} {rest : List Oper} {a : Act} (v : Value) (hw : Region.wanted o (yielded ops a.tmps) = true) (hv : ∀ W, C W → o.quietAt P a C W v) (h : wpQuiet P ops C Q rest (a.put o.dst v)) : wpQuiet P ops C Q (o :: rest) a := by
 unfold wpQuiet
 rw [if_pos hw]
 exact ⟨v, hv, h⟩
theorem quiet_skip {P : Program} {ops : Array Oper} {C : World → Prop} {Q : Act → Prop} {o : Oper} {rest : List Oper} {a : Act} (hw : Region.wanted o (yielded ops a.tmps) = false) (h : wpQuiet P ops C Q rest (a.put o.dst undef)) : wpQuiet P ops C Q (o :: rest) a := by
 unfold wpQuiet
 rw [if_neg (by rw [hw]; decide)]
 exact h
/-- A region that draws its order, its operations quiet in a class of worlds. -/
theorem wp_region_quietC {P : Program} {id : Nat} {Q : Exit → Act → World → Prop} {a : Act} {w : World} {l : List Oper} (C : World → Prop) (hm : P.follows .mixedOrders = true) (hB : Region.lexB .any l.toArray = true) (hC : C { w with drawn := w.drawn + 1 })
  (h : wpQuiet P l.toArray C (fun a' => ∀ w', C w' → Q .normal a' w') l a) : (Code.region id l.toArray true).wp P Q a w :=
 wp_region_quiet hm hB hC (by simpa using h)
theorem cell_keepP {wc w1 : World} {p : Addr} {v : Value} (h : wc.cell? p = some v) (hb : Below wc.heap.size wc w1) : w1.cell? p = some v := (hb.cell (World.block_lt_of_cell? _ _ h)).trans h
/-- A sign or a digit. -/
def sgnR (x : Int) : Bool := x == 43 || x == 45 || x == 61 || (decide (48 ≤ x) && decide (x ≤ 57))
/-- The matches added where y becomes x. -/
def cntO (x y : Int) : Option Int := (impl_places.f x).bind fun p => (impl_places.f y).bind fun q => bits_OnesCount8.f (Go.bits .andNot .u8 p q)
def cntR (x y : Int) : Int := (cntO x y).getD 0
def sgnsR : List Int := [43, 45, 61, 48, 49, 50, 51, 52, 53, 54, 55, 56, 57]
theorem sgns_mem {x : Int} (h : sgnR x = true) : x ∈ sgnsR := by
 simp only [sgnR, Bool.or_eq_true, Bool.and_eq_true, beq_iff_eq, decide_eq_true_eq] at h
 have : x = 43 ∨ x = 45 ∨ x = 61 ∨ x = 48 ∨ x = 49 ∨ x = 50 ∨ x = 51 ∨ x = 52 ∨ x = 53 ∨ x = 54 ∨ x = 55 ∨ x = 56 ∨ x = 57 := by omega
 simp only [sgnsR, List.mem_cons, List.not_mem_nil, or_false]
 exact this
theorem cnt_all : (sgnsR.all fun x => sgnsR.all fun y => decide (cntO x y = some (cntR x y))) = true := by decide +kernel
theorem cnt_at {x y : Int} (hx : sgnR x = true) (hy : sgnR y = true) : ∃ p q, impl_places.f x = some p ∧ impl_places.f y = some q ∧ bits_OnesCount8.f (Go.bits .andNot .u8 p q) = some (cntR x y) := by
 have h := of_decide_eq_true (List.all_eq_true.1 (List.all_eq_true.1 cnt_all x (sgns_mem hx)) y (sgns_mem hy))
 unfold cntO at h
 obtain ⟨p, hp, h⟩ := Option.bind_eq_some_iff.1 h
 obtain ⟨q, hq, h⟩ := Option.bind_eq_some_iff.1 h
 exact ⟨p, q, hp, hq, h⟩
/-- Whether a sign is dropped. -/
def dropR (c a t d : Int) : Bool := (cntR d c != a) || (cntR c d != t)
/-- What the closure reads. -/
def OkD (gc ga gt : Nat) (c a t : Int) (W : World) : Prop := LaidG W ∧ W.cell? ⟨gc, 0, none⟩ = some (.int .u8 c) ∧ W.cell? ⟨ga, 0, none⟩ = some (.int .i64 a) ∧ W.cell? ⟨gt, 0, none⟩ = some (.int .i64 t)
theorem OkD.on {gc ga gt : Nat} {c a t : Int} {W W1 : World} (h : OkD gc ga gt c a t W) (hb : Below W.heap.size W W1) : OkD gc ga gt c a t W1 := ⟨LaidG_below h.1 hb, cell_keepP h.2.1 hb, cell_keepP h.2.2.1 hb, cell_keepP h.2.2.2 hb⟩
theorem OkD.on2 {gc ga gt : Nat} {c a t : Int} {W W1 W2 : World} (h : Below W.heap.size W W1 ∧ OkD gc ga gt c a t W1) (hb : Drawn0 W1 W2) : Below W.heap.size W W2 ∧ OkD gc ga gt c a t W2 := ⟨h.1.trans ((Drawn0.below hb).mono h.1.size), h.2.on (Drawn0.below hb)⟩
set_option maxHeartbeats 8000000 in
set_option maxRecDepth 100000 in
theorem drop_at (d c a t : Int) (gc ga gt : Nat) (w : World) (hd : sgnR d = true) (hc : sgnR c = true) (hok : OkD gc ga gt c a t w) :
  Calls Tryz.prog 54 #[.int .u8 d, .pointer (some ⟨gc, 0, none⟩), .pointer (some ⟨ga, 0, none⟩), .pointer (some ⟨gt, 0, none⟩)] w fun e w' => e = .returned (.bool (dropR c a t d)) ∧ Below w.heap.size w w' := by
 obtain ⟨p, q, hp, hq, hm⟩ := cnt_at hd hc
 obtain ⟨q', p', hq', hp', hm'⟩ := cnt_at hc hd
 have HP := Aside0.mk hp
 have HQ := Aside0.mk hq
 have HM := Aside0.mk hm
 have HP' := Aside0.mk hp'
 have HQ' := Aside0.mk hq'
 have HM' := Aside0.mk hm'
 have hd' : dropR c a t d = ((cntR d c != a) || (cntR c d != t)) := rfl
 generalize cntR d c = m at *
 generalize cntR c d = m' at *
 have HD := Aside0.mk hd'
 clear hp hq hm hp' hq' hm' hd hc hd'
 have HOK := Aside0.mk hok
 clear hok
 by_cases hc : m = a
 ·subst hc
  have hcz : (m != m) = false := by simp
  rw [hcz, Bool.false_or] at HD
  go_enter Tryz.func54, Tryz.ntmps54
  go_wp2
  refine wp_region_quietC (fun w' => Below w.heap.size w w' ∧ OkD gc ga gt c m t w') (by kernel_rfl) (by kernel_rfl) ⟨below_drew (Below.refl _ _), HOK.out.on (below_drew (Below.refl _ _))⟩ ?_
  refine quiet_take (Value.int .u8 d) (by kernel_rfl) (fun W hW => by go_simp) ?_
  simp only [Act.put, List.setIfInBounds_toArray, List.set_cons_zero, List.set_cons_succ]
  refine quiet_take (Value.int .u8 p) (by kernel_rfl) (fun W hW => by go_simp; exact (impl_places.calls d p W hW.2.1 HP.out).mono fun e w1 h1 => ⟨h1.1, OkD.on2 hW h1.2⟩) ?_
  simp only [Act.put, List.setIfInBounds_toArray, List.set_cons_zero, List.set_cons_succ]
  refine quiet_take (Value.int .u8 c) (by kernel_rfl) (fun W hW => by obtain ⟨h0, h1, h2, h3, h4⟩ := hW; go_simp) ?_
  simp only [Act.put, List.setIfInBounds_toArray, List.set_cons_zero, List.set_cons_succ]
  refine quiet_take (Value.int .u8 q) (by kernel_rfl) (fun W hW => by go_simp; exact (impl_places.calls c q W hW.2.1 HQ.out).mono fun e w1 h1 => ⟨h1.1, OkD.on2 hW h1.2⟩) ?_
  simp only [Act.put, List.setIfInBounds_toArray, List.set_cons_zero, List.set_cons_succ]
  refine quiet_take (Value.int .u8 (Go.bits .andNot .u8 p q)) (by kernel_rfl) (fun W hW => by go_simp) ?_
  simp only [Act.put, List.setIfInBounds_toArray, List.set_cons_zero, List.set_cons_succ]
  refine quiet_take (Value.int .i64 m) (by kernel_rfl) (fun W hW => by go_simp; exact (bits_OnesCount8.calls (Go.bits .andNot .u8 p q) m W HM.out).mono fun e w1 h1 => ⟨h1.1, OkD.on2 hW h1.2⟩) ?_
  simp only [Act.put, List.setIfInBounds_toArray, List.set_cons_zero, List.set_cons_succ]
  refine quiet_take (Value.int .i64 m) (by kernel_rfl) (fun W hW => by obtain ⟨h0, h1, h2, h3, h4⟩ := hW; go_simp) ?_
  simp only [Act.put, List.setIfInBounds_toArray, List.set_cons_zero, List.set_cons_succ]
  refine quiet_take (Value.bool false) (by kernel_rfl) (fun W hW => by go_simp) ?_
  simp only [Act.put, List.setIfInBounds_toArray, List.set_cons_zero, List.set_cons_succ]
  refine quiet_take (Value.bool false) (by kernel_rfl) (fun W hW => by go_simp) ?_
  simp only [Act.put, List.setIfInBounds_toArray, List.set_cons_zero, List.set_cons_succ]
  refine quiet_take (Value.int .u8 c) (by kernel_rfl) (fun W hW => by obtain ⟨h0, h1, h2, h3, h4⟩ := hW; go_simp) ?_
  simp only [Act.put, List.setIfInBounds_toArray, List.set_cons_zero, List.set_cons_succ]
  refine quiet_take (Value.int .u8 q') (by kernel_rfl) (fun W hW => by go_simp; exact (impl_places.calls c q' W hW.2.1 HQ'.out).mono fun e w1 h1 => ⟨h1.1, OkD.on2 hW h1.2⟩) ?_
  simp only [Act.put, List.setIfInBounds_toArray, List.set_cons_zero, List.set_cons_succ]
  refine quiet_take (Value.int .u8 d) (by kernel_rfl) (fun W hW => by go_simp) ?_
  simp only [Act.put, List.setIfInBounds_toArray, List.set_cons_zero, List.set_cons_succ]
  refine quiet_take (Value.int .u8 p') (by kernel_rfl) (fun W hW => by go_simp; exact (impl_places.calls d p' W hW.2.1 HP'.out).mono fun e w1 h1 => ⟨h1.1, OkD.on2 hW h1.2⟩) ?_
  simp only [Act.put, List.setIfInBounds_toArray, List.set_cons_zero, List.set_cons_succ]
  refine quiet_take (Value.int .u8 (Go.bits .andNot .u8 q' p')) (by kernel_rfl) (fun W hW => by go_simp) ?_
  simp only [Act.put, List.setIfInBounds_toArray, List.set_cons_zero, List.set_cons_succ]
  refine quiet_take (Value.int .i64 m') (by kernel_rfl) (fun W hW => by go_simp; exact (bits_OnesCount8.calls (Go.bits .andNot .u8 q' p') m' W HM'.out).mono fun e w1 h1 => ⟨h1.1, OkD.on2 hW h1.2⟩) ?_
  simp only [Act.put, List.setIfInBounds_toArray, List.set_cons_zero, List.set_cons_succ]
  refine quiet_take (Value.int .i64 t) (by kernel_rfl) (fun W hW => by obtain ⟨h0, h1, h2, h3, h4⟩ := hW; go_simp) ?_
  simp only [Act.put, List.setIfInBounds_toArray, List.set_cons_zero, List.set_cons_succ]
  refine quiet_take (Value.bool (m' != t)) (by kernel_rfl) (fun W hW => by go_simp) ?_
  simp only [Act.put, List.setIfInBounds_toArray, List.set_cons_zero, List.set_cons_succ]
  refine quiet_take (Value.bool (m' != t)) (by kernel_rfl) (fun W hW => by go_simp) ?_
  simp only [Act.put, List.setIfInBounds_toArray, List.set_cons_zero, List.set_cons_succ]
  refine quiet_take (Value.bool (m' != t)) (by kernel_rfl) (fun W hW => by go_simp) ?_
  simp only [Act.put, List.setIfInBounds_toArray, List.set_cons_zero, List.set_cons_succ]
  refine wpQuiet_nil ?_
  intro w1 hS1
  go_wp2
  go_ret
  exact ⟨by rw [HD.out] <;> rfl, hS1.1⟩
 ·have hcz : (m != a) = true := by simpa using hc
  rw [hcz, Bool.true_or] at HD
  go_enter Tryz.func54, Tryz.ntmps54
  go_wp2
  refine wp_region_quietC (fun w' => Below w.heap.size w w' ∧ OkD gc ga gt c a t w') (by kernel_rfl) (by kernel_rfl) ⟨below_drew (Below.refl _ _), HOK.out.on (below_drew (Below.refl _ _))⟩ ?_
  refine quiet_take (Value.int .u8 d) (by kernel_rfl) (fun W hW => by go_simp) ?_
  simp only [Act.put, List.setIfInBounds_toArray, List.set_cons_zero, List.set_cons_succ]
  refine quiet_take (Value.int .u8 p) (by kernel_rfl) (fun W hW => by go_simp; exact (impl_places.calls d p W hW.2.1 HP.out).mono fun e w1 h1 => ⟨h1.1, OkD.on2 hW h1.2⟩) ?_
  simp only [Act.put, List.setIfInBounds_toArray, List.set_cons_zero, List.set_cons_succ]
  refine quiet_take (Value.int .u8 c) (by kernel_rfl) (fun W hW => by obtain ⟨h0, h1, h2, h3, h4⟩ := hW; go_simp) ?_
  simp only [Act.put, List.setIfInBounds_toArray, List.set_cons_zero, List.set_cons_succ]
  refine quiet_take (Value.int .u8 q) (by kernel_rfl) (fun W hW => by go_simp; exact (impl_places.calls c q W hW.2.1 HQ.out).mono fun e w1 h1 => ⟨h1.1, OkD.on2 hW h1.2⟩) ?_
  simp only [Act.put, List.setIfInBounds_toArray, List.set_cons_zero, List.set_cons_succ]
  refine quiet_take (Value.int .u8 (Go.bits .andNot .u8 p q)) (by kernel_rfl) (fun W hW => by go_simp) ?_
  simp only [Act.put, List.setIfInBounds_toArray, List.set_cons_zero, List.set_cons_succ]
  refine quiet_take (Value.int .i64 m) (by kernel_rfl) (fun W hW => by go_simp; exact (bits_OnesCount8.calls (Go.bits .andNot .u8 p q) m W HM.out).mono fun e w1 h1 => ⟨h1.1, OkD.on2 hW h1.2⟩) ?_
  simp only [Act.put, List.setIfInBounds_toArray, List.set_cons_zero, List.set_cons_succ]
  refine quiet_take (Value.int .i64 a) (by kernel_rfl) (fun W hW => by obtain ⟨h0, h1, h2, h3, h4⟩ := hW; go_simp) ?_
  simp only [Act.put, List.setIfInBounds_toArray, List.set_cons_zero, List.set_cons_succ]
  refine quiet_take (Value.bool true) (by kernel_rfl) (fun W hW => by go_simp) ?_
  simp only [Act.put, List.setIfInBounds_toArray, List.set_cons_zero, List.set_cons_succ]
  refine quiet_take (Value.bool true) (by kernel_rfl) (fun W hW => by go_simp) ?_
  simp only [Act.put, List.setIfInBounds_toArray, List.set_cons_zero, List.set_cons_succ]
  refine quiet_skip (by kernel_rfl) ?_
  simp only [Act.put, List.setIfInBounds_toArray, List.set_cons_zero, List.set_cons_succ]
  refine quiet_skip (by kernel_rfl) ?_
  simp only [Act.put, List.setIfInBounds_toArray, List.set_cons_zero, List.set_cons_succ]
  refine quiet_skip (by kernel_rfl) ?_
  simp only [Act.put, List.setIfInBounds_toArray, List.set_cons_zero, List.set_cons_succ]
  refine quiet_skip (by kernel_rfl) ?_
  simp only [Act.put, List.setIfInBounds_toArray, List.set_cons_zero, List.set_cons_succ]
  refine quiet_skip (by kernel_rfl) ?_
  simp only [Act.put, List.setIfInBounds_toArray, List.set_cons_zero, List.set_cons_succ]
  refine quiet_skip (by kernel_rfl) ?_
  simp only [Act.put, List.setIfInBounds_toArray, List.set_cons_zero, List.set_cons_succ]
  refine quiet_skip (by kernel_rfl) ?_
  simp only [Act.put, List.setIfInBounds_toArray, List.set_cons_zero, List.set_cons_succ]
  refine quiet_skip (by kernel_rfl) ?_
  simp only [Act.put, List.setIfInBounds_toArray, List.set_cons_zero, List.set_cons_succ]
  refine quiet_take (Value.bool true) (by kernel_rfl) (fun W hW => by go_simp) ?_
  simp only [Act.put, List.setIfInBounds_toArray, List.set_cons_zero, List.set_cons_succ]
  refine quiet_take (Value.bool true) (by kernel_rfl) (fun W hW => by go_simp) ?_
  simp only [Act.put, List.setIfInBounds_toArray, List.set_cons_zero, List.set_cons_succ]
  refine wpQuiet_nil ?_
  intro w1 hS1
  go_wp2
  go_ret
  exact ⟨by rw [HD.out] <;> rfl, hS1.1⟩
/-- The signs that one becomes. -/
def lstR (c : Int) : List Int := if c = 43 ∨ c = 45 then [43, 45] else if c = 61 then [61] else [48, 49, 50, 51, 52, 53, 54, 55, 56, 57]
def chL (c a t : Int) : List Int := (lstR c).filter fun d => !dropR c a t d
theorem lst_sgn {c d : Int} (h : d ∈ lstR c) : sgnR d = true := by
 have h2 : ∀ d ∈ [(43 : Int), 45], sgnR d = true := by decide
 have h3 : ∀ d ∈ [(61 : Int)], sgnR d = true := by decide
 have h4 : ∀ d ∈ [(48 : Int), 49, 50, 51, 52, 53, 54, 55, 56, 57], sgnR d = true := by decide
 unfold lstR at h
 split at h
 ·exact h2 d h
 ·split at h
  ·exact h3 d h
  ·exact h4 d h
/-! ### impl_repairs_four: the signs that one becomes -/
theorem ok_set {gc ga gt : Nat} {c a t : Int} {B g : Nat} {w W : World} (hw : Below B w W) (hg : B ≤ g) (hG : LaidG w) (hB : B = w.heap.size) (h : OkD gc ga gt c a t W) (h1 : g ≠ gc) (h2 : g ≠ ga) (h3 : g ≠ gt) (i : Nat) (v : Value) : OkD gc ga gt c a t (W.setCell ⟨g, i, none⟩ v) := by
 subst hB
 have hf : ∀ k, k ≠ g → (W.setCell ⟨g, i, none⟩ v).heap[k]? = W.heap[k]? := fun k hk => Below.heap_setCell W ⟨g, i, none⟩ v k hk
 have hcell : ∀ k u, k ≠ g → W.cell? ⟨k, 0, none⟩ = some u → (W.setCell ⟨g, i, none⟩ v).cell? ⟨k, 0, none⟩ = some u := fun k u hk hc => (World.cell?_of_block (hf k hk)).trans hc
 exact ⟨LaidG_below hG (hw.setCell (p := ⟨g, i, none⟩) hg v), hcell _ _ (Ne.symm h1) h.2.1, hcell _ _ (Ne.symm h2) h.2.2.1, hcell _ _ (Ne.symm h3) h.2.2.2⟩
theorem start_row (w : World) (l : List Int) (vs : Array Value) (hv : vs.toList = l.map (Value.int .u8)) : RowB (Value.int .u8) 5 (w.alloc (.cells vs 5 (vs.size, vs.size + 1))) w.heap.size l.length (vs.size, vs.size + 1) l := by
 have hs : vs.size = l.length := by rw [← Array.length_toList, hv, List.length_map]
 exact ⟨vs, heap_alloc_new w _, hs, Nat.le_refl _, by rw [hv, ← List.length_map (f := Value.int .u8), List.take_length], .inr (by rw [hs]; exact Nat.le_refl _)⟩
/-- The closure's class of worlds, behind the boxes and the row. -/
def OkC (w0 : World) (c a t : Int) (W : World) : Prop := Below w0.heap.size w0 W ∧ OkD w0.heap.size (w0.heap.size + 1) (w0.heap.size + 1 + 1) c a t W
set_option maxHeartbeats 8000000 in
set_option maxRecDepth 100000 in
theorem drops_at (c a t : Int) (w0 w : World) (g : Nat) (l : List Int) (m : Nat × Nat) (hl : ∀ d ∈ l, sgnR d = true) (hlen : l.length ≤ 1000) (hc : sgnR c = true) (hG : LaidG w0) (hB : Below w0.heap.size w0 w) (hg : w0.heap.size + 1 + 1 + 1 ≤ g)
  (hok : OkD w0.heap.size (w0.heap.size + 1) (w0.heap.size + 1 + 1) c a t w) (hr : RowB (Value.int .u8) 5 w g l.length m l) :
  Calls Tryz.prog 53 #[.slice (some ⟨g, 0, none⟩) l.length l.length, .func (.func 54) #[] #[.pointer (some ⟨w0.heap.size, 0, none⟩), .pointer (some ⟨w0.heap.size + 1, 0, none⟩), .pointer (some ⟨w0.heap.size + 1 + 1, 0, none⟩)]] w fun e w' => e = .returned (.slice (some ⟨g, 0, none⟩) (l.filter (fun d => !dropR c a t d)).length l.length) ∧ RowB (Value.int .u8) 5 w' g l.length m (l.filter (fun d => !dropR c a t d)) ∧ Below w0.heap.size w w' := by
 refine (DeleteFuncB #[.pointer (some ⟨w0.heap.size, 0, none⟩), .pointer (some ⟨w0.heap.size + 1, 0, none⟩), .pointer (some ⟨w0.heap.size + 1 + 1, 0, none⟩)] (dropR c a t) (OkC w0 c a t) w0.heap.size w g l.length m l (by omega) hr (by omega) ⟨hB, hok⟩ ?_ ?_ ?_)
 ·exact fun W W' h hb => ⟨h.1.trans (hb.mono h.1.size), h.2.on hb⟩
 ·exact fun W i v h => ⟨h.1.setCell (p := ⟨g, i, none⟩) (show w0.heap.size ≤ g by omega) v, ok_set h.1 (by omega) hG rfl h.2 (by omega) (by omega) (by omega) i v⟩
 ·intro x hx W hW
  exact drop_at x c a t _ _ _ W (hl x hx) hc hW.2
theorem chL_len (c a t : Int) : (chL c a t).length ≤ 10 := by
 refine Nat.le_trans (List.length_filter_le _ _) ?_
 unfold lstR
 split
 ·decide
 ·split <;> decide
theorem ok_start (w : World) (c a t : Int) (hG : LaidG w) (l : List Int) (vs : Array Value) (hv : vs.toList = l.map (Value.int .u8)) (W : World) (hW : W = (((w.alloc (.cells #[.int .u8 c] 5)).alloc (.cells #[.int .i64 a] 3)).alloc (.cells #[.int .i64 t] 3)).alloc (.cells vs 5 (vs.size, vs.size + 1))) :
  OkD w.heap.size (w.heap.size + 1) (w.heap.size + 1 + 1) c a t W ∧ RowB (Value.int .u8) 5 W (w.heap.size + 1 + 1 + 1) l.length (vs.size, vs.size + 1) l ∧ Below w.heap.size w W ∧ W.heap.size = w.heap.size + 1 + 1 + 1 + 1 := by
 subst hW
 have s1 : ∀ o1 : Obj, (w.alloc o1).heap.size = w.heap.size + 1 := by intro o1; simp
 have s2 : ∀ o1 o2 : Obj, ((w.alloc o1).alloc o2).heap.size = w.heap.size + 1 + 1 := by intro o1 o2; simp
 have s3 : ∀ o1 o2 o3 : Obj, (((w.alloc o1).alloc o2).alloc o3).heap.size = w.heap.size + 1 + 1 + 1 := by intro o1 o2 o3; simp
 refine ⟨⟨LaidG_alloc (LaidG_alloc (LaidG_alloc (LaidG_alloc hG _) _) _) _, ?_, ?_, ?_⟩, ?_, ?_, by simp⟩
 ·exact Go.Lib.cell?_alloc_some _ (Go.Lib.cell?_alloc_some _ (Go.Lib.cell?_alloc_some _ (by rw [World.cell?_alloc_at _ _ _ _ rfl]; rfl)))
 ·exact Go.Lib.cell?_alloc_some _ (Go.Lib.cell?_alloc_some _ (by rw [World.cell?_alloc_at _ _ _ _ (s1 _).symm]; rfl))
 ·exact Go.Lib.cell?_alloc_some _ (by rw [World.cell?_alloc_at _ _ _ _ (s2 _ _).symm]; rfl)
 ·have h := start_row (((w.alloc (.cells #[.int .u8 c] 5)).alloc (.cells #[.int .i64 a] 3)).alloc (.cells #[.int .i64 t] 3)) l vs hv
  rw [s3] at h
  exact h
 ·exact below_alloc (below_alloc (below_alloc (below_alloc (Below.refl _ _) _) _) _) _
set_option maxHeartbeats 8000000 in
set_option maxRecDepth 100000 in
/-- The signs that one becomes, in memory of the call's own. -/
theorem changed_at (c a t : Int) (w : World) (hG : LaidG w) (hc : sgnR c = true) : Calls Tryz.prog 40 #[.int .u8 c, .int .i64 a, .int .i64 t] w fun e w' => ∃ g cp cr m, e = .returned (.slice (some ⟨g, 0, none⟩) (chL c a t).length cp) ∧ RowB (Value.int .u8) 5 w' g cr m (chL c a t) ∧ w.heap.size ≤ g ∧ Below w.heap.size w w' := by
 have hk : c = 43 ∨ c = 45 ∨ c = 61 ∨ (c ≠ 43 ∧ c ≠ 45 ∧ c ≠ 61) := by omega
 have HG := Aside0.mk hG
 have HC := Aside0.mk hc
 have kc : ∀ (C : Array Value) (n c : Nat) (o1 o2 o3 : Obj), (convert 43 43 (.slice (some ⟨w.heap.size + 1 + 1 + 1, 0, none⟩) n c)).run Tryz.prog ((((w.alloc o1).alloc o2).alloc o3).alloc (.cells C 5)) = .ok (.slice (some ⟨w.heap.size + 1 + 1 + 1, 0, none⟩) n c) ((((w.alloc o1).alloc o2).alloc o3).alloc (.cells C 5 (C.size, C.size + 1))) := fun C n c o1 o2 o3 => by
  have hs : (((w.alloc o1).alloc o2).alloc o3).heap.size = w.heap.size + 1 + 1 + 1 := by simp
  have := Go.Lib.run_convert_bytes_const (P := Tryz.prog) (((w.alloc o1).alloc o2).alloc o3) 43 5 C n c Tryz.underlying43 Tryz.underlying5
  rw [hs] at this
  exact this
 have hs0 : ∀ d ∈ [(48 : Int), 49, 50, 51, 52, 53, 54, 55, 56, 57], sgnR d = true := by decide
 have hs1 : ∀ d ∈ [(43 : Int), 45], sgnR d = true := by decide
 have hs2 : ∀ d ∈ [(61 : Int)], sgnR d = true := by decide
 clear hG hc
 go_enter Tryz.func40, Tryz.ntmps40
 go_upto_region 2 with (fail)
 obtain ⟨W, hW⟩ : ∃ W, W = (((w.alloc (.cells #[.int .u8 c] 5)).alloc (.cells #[.int .i64 a] 3)).alloc (.cells #[.int .i64 t] 3)).alloc (.cells #[.int .u8 48, .int .u8 49, .int .u8 50, .int .u8 51, .int .u8 52, .int .u8 53, .int .u8 54, .int .u8 55, .int .u8 56, .int .u8 57] 5 (10, 11)) := ⟨_, rfl⟩
 have hst := ok_start w c a t HG.out [48, 49, 50, 51, 52, 53, 54, 55, 56, 57] #[.int .u8 48, .int .u8 49, .int .u8 50, .int .u8 51, .int .u8 52, .int .u8 53, .int .u8 54, .int .u8 55, .int .u8 56, .int .u8 57] rfl W hW
 rw [← hW]
 clear hW kc
 obtain ⟨hok, hrow, hB, hsz⟩ := hst
 have HSZ := Aside0.mk hsz
 clear hsz
 have hc0 := hok.2.1
 have kc2 : ∀ (C : Array Value) (n c : Nat), (convert 43 43 (.slice (some ⟨W.heap.size, 0, none⟩) n c)).run Tryz.prog (W.alloc (.cells C 5)) = .ok (.slice (some ⟨W.heap.size, 0, none⟩) n c) (W.alloc (.cells C 5 (C.size, C.size + 1))) := fun C n c => Go.Lib.run_convert_bytes_const (P := Tryz.prog) W 43 5 C n c Tryz.underlying43 Tryz.underlying5
 have eL : ∀ l, l = lstR c → chL c a t = l.filter fun d => !dropR c a t d := fun l hl => by rw [hl]; rfl
 rcases hk with hk | hk | hk | hk
 ·subst hk
  have hD := drops_at 43 a t w (W.alloc (.cells #[.int .u8 43, .int .u8 45] 5 (2, 3))) W.heap.size [43, 45] (2, 3) hs1 (by decide) HC.out HG.out (below_alloc hB _) (by have := HSZ.out; omega) (hok.on (below_alloc (Below.refl _ _) _)) (start_row W [43, 45] #[.int .u8 43, .int .u8 45] rfl)
  rw [← eL [43, 45] rfl] at hD
  have HD : Aside0 (Calls Tryz.prog 53 #[.slice (some ⟨W.heap.size, 0, none⟩) 2 2, .func (.func 54) #[] #[.pointer (some ⟨w.heap.size, 0, none⟩), .pointer (some ⟨w.heap.size + 1, 0, none⟩), .pointer (some ⟨w.heap.size + 1 + 1, 0, none⟩)]] _ _) := ⟨hD⟩
  have HB := Aside0.mk hB
  clear hD hok hrow hB eL
  go_wp2_with (go_at_call 53; (with_reducible refine HD.out.mono ?_); rintro e w2 ⟨rfl, hr2, hb2⟩)
  go_ret
  exact ⟨_, _, _, _, rfl, hr2, by have := HSZ.out; omega, ((below_alloc HB.out _).trans hb2)⟩
 ·subst hk
  have hD := drops_at 45 a t w (W.alloc (.cells #[.int .u8 43, .int .u8 45] 5 (2, 3))) W.heap.size [43, 45] (2, 3) hs1 (by decide) HC.out HG.out (below_alloc hB _) (by have := HSZ.out; omega) (hok.on (below_alloc (Below.refl _ _) _)) (start_row W [43, 45] #[.int .u8 43, .int .u8 45] rfl)
  rw [← eL [43, 45] rfl] at hD
  have HD : Aside0 (Calls Tryz.prog 53 #[.slice (some ⟨W.heap.size, 0, none⟩) 2 2, .func (.func 54) #[] #[.pointer (some ⟨w.heap.size, 0, none⟩), .pointer (some ⟨w.heap.size + 1, 0, none⟩), .pointer (some ⟨w.heap.size + 1 + 1, 0, none⟩)]] _ _) := ⟨hD⟩
  have HB := Aside0.mk hB
  clear hD hok hrow hB eL
  go_wp2_with (go_at_call 53; (with_reducible refine HD.out.mono ?_); rintro e w2 ⟨rfl, hr2, hb2⟩)
  go_ret
  exact ⟨_, _, _, _, rfl, hr2, by have := HSZ.out; omega, ((below_alloc HB.out _).trans hb2)⟩
 ·subst hk
  have hD := drops_at 61 a t w (W.alloc (.cells #[.int .u8 61] 5 (1, 2))) W.heap.size [61] (1, 2) hs2 (by decide) HC.out HG.out (below_alloc hB _) (by have := HSZ.out; omega) (hok.on (below_alloc (Below.refl _ _) _)) (start_row W [61] #[.int .u8 61] rfl)
  rw [← eL [61] rfl] at hD
  have HD : Aside0 (Calls Tryz.prog 53 #[.slice (some ⟨W.heap.size, 0, none⟩) 1 1, .func (.func 54) #[] #[.pointer (some ⟨w.heap.size, 0, none⟩), .pointer (some ⟨w.heap.size + 1, 0, none⟩), .pointer (some ⟨w.heap.size + 1 + 1, 0, none⟩)]] _ _) := ⟨hD⟩
  have HB := Aside0.mk hB
  clear hD hok hrow hB eL
  go_wp2_with (go_at_call 53; (with_reducible refine HD.out.mono ?_); rintro e w2 ⟨rfl, hr2, hb2⟩)
  go_ret
  exact ⟨_, _, _, _, rfl, hr2, by have := HSZ.out; omega, ((below_alloc HB.out _).trans hb2)⟩
 ·have hD := drops_at c a t w W (w.heap.size + 1 + 1 + 1) [48, 49, 50, 51, 52, 53, 54, 55, 56, 57] (10, 11) hs0 (by decide) HC.out HG.out hB (by omega) hok hrow
  rw [← eL [48, 49, 50, 51, 52, 53, 54, 55, 56, 57] (by unfold lstR; rw [if_neg (by omega), if_neg (by omega)])] at hD
  have HD : Aside0 (Calls Tryz.prog 53 #[.slice (some ⟨w.heap.size + 1 + 1 + 1, 0, none⟩) 10 10, .func (.func 54) #[] #[.pointer (some ⟨w.heap.size, 0, none⟩), .pointer (some ⟨w.heap.size + 1, 0, none⟩), .pointer (some ⟨w.heap.size + 1 + 1, 0, none⟩)]] _ _) := ⟨hD⟩
  have HB := Aside0.mk hB
  clear hD hok hrow hB eL
  have q1 : (c == 43) = false := beq_eq_false_iff_ne.2 hk.1
  have q2 : (c == 45) = false := beq_eq_false_iff_ne.2 hk.2.1
  have q3 : (c == 61) = false := beq_eq_false_iff_ne.2 hk.2.2
  go_wp2_with (go_at_call 53; (with_reducible refine HD.out.mono ?_); rintro e w2 ⟨rfl, hr2, hb2⟩)
  go_ret
  exact ⟨_, _, _, _, rfl, hr2, by omega, HB.out.trans hb2⟩
/-! ### impl_repairs_fivehead: the recursion's words -/
/-- The texts that are made from a place on: so many matches added, so many taken. -/
def chT (F : Int → Nat → Nat → List (List Int)) (x : Int) (A T a t n : Nat) : List (List Int) := (List.range' t n).flatMap fun t => if a + t = 0 then [] else (chL x a t).flatMap fun c => F c (A - a) (T - t)
def chA (F : Int → Nat → Nat → List (List Int)) (x : Int) (A T a n : Nat) : List (List Int) := (List.range' a n).flatMap fun a => chT F x A T a 0 (T + 1)
def chG : List Int → List Int → Nat → Nat → List (List Int)
 | [], pre, A, T => if A = 0 ∧ T = 0 then [pre] else []
 | x :: r, pre, A, T => if A = 0 ∧ T = 0 then [pre ++ x :: r] else chA (fun c A' T' => chG r (pre ++ [c]) A' T') x A T 0 (A + 1) ++ chG r (pre ++ [x]) A T
theorem chT_step (F : Int → Nat → Nat → List (List Int)) (x : Int) (A T a t n : Nat) : chT F x A T a t (n + 1) = (if a + t = 0 then [] else (chL x a t).flatMap fun c => F c (A - a) (T - t)) ++ chT F x A T a (t + 1) n := by simp only [chT, List.range'_succ, List.flatMap_cons]
theorem chA_step (F : Int → Nat → Nat → List (List Int)) (x : Int) (A T a n : Nat) : chA F x A T a (n + 1) = chT F x A T a 0 (T + 1) ++ chA F x A T (a + 1) n := by simp only [chA, List.range'_succ, List.flatMap_cons]
theorem chG_zero (rest pre : List Int) : chG rest pre 0 0 = [pre ++ rest] := by cases rest <;> simp [chG]
theorem chG_step (x : Int) (r pre : List Int) {A T : Nat} (h : ¬ (A = 0 ∧ T = 0)) : chG (x :: r) pre A T = chA (fun c A' T' => chG r (pre ++ [c]) A' T') x A T 0 (A + 1) ++ chG r (pre ++ [x]) A T := by simp only [chG]; rw [if_neg h]
theorem chG_end (pre : List Int) {A T : Nat} (h : ¬ (A = 0 ∧ T = 0)) : chG [] pre A T = [] := by simp only [chG]; rw [if_neg h]
/-- What the recursion reads, and the list that it makes. -/
def StM (gs go gc B : Nat) (s : ByteArray) (v : Value) (xs : List ByteArray) (W : World) : Prop := W.cell? ⟨gs, 0, none⟩ = some (.string s) ∧ W.heap[go]? = some (.cells #[v] 22 (0, 0)) ∧ W.cell? ⟨gc, 0, none⟩ = some (.func (.func 39) #[] #[.pointer (some ⟨go, 0, none⟩), .pointer (some ⟨gs, 0, none⟩), .pointer (some ⟨gc, 0, none⟩)]) ∧ Kd.R Kd.string 9 W B (fun k => k ≠ gs ∧ k ≠ go ∧ k ≠ gc) v xs ∧ v.ownBlock ≠ none
theorem StM.below {gs go gc B : Nat} {s : ByteArray} {v : Value} {xs : List ByteArray} {W W1 : World} (h : StM gs go gc B s v xs W) (hb : Below W.heap.size W W1) : StM gs go gc B s v xs W1 := ⟨cell_keepP h.1 hb, blk_below h.2.1 hb, cell_keepP h.2.2.1 hb, Kd.R_below h.2.2.2.1 hb, h.2.2.2.2⟩
/-- From W0 on (the list lying at v0 there): what is still to be made is L. -/
def InvM (w0 W0 : World) (gs go gc : Nat) (s : ByteArray) (v0 : Value) (total : List ByteArray) (L : List (List Int)) (wr : World) : Prop := ∃ v ys, StM gs go gc w0.heap.size s v ys wr ∧ Below w0.heap.size w0 wr ∧ Kept W0 wr (fun k => k = go ∨ some k = v0.ownBlock) ∧ (v.ownBlock = v0.ownBlock ∨ ∃ b, v.ownBlock = some b ∧ W0.heap.size ≤ b) ∧ ys ++ L.map strOfNums = total
section
variable {w0 W0 Wc wr w1 : World} {gs go gc : Nat} {s : ByteArray} {v v0 : Value} {ys total : List ByteArray} {L : List (List Int)}
theorem InvM.start (h : StM gs go gc w0.heap.size s v ys wr) (hb : Below w0.heap.size w0 wr) (ht : ys ++ L.map strOfNums = total) : InvM w0 wr gs go gc s v total L wr := ⟨v, ys, h, hb, Kept.refl _ _, .inl rfl, ht⟩
theorem InvM.below (h : InvM w0 W0 gs go gc s v0 total L wr) (hb : Below wr.heap.size wr w1) : InvM w0 W0 gs go gc s v0 total L w1 := by
 obtain ⟨v, ys, h1, h2, h3, h4, h5⟩ := h
 exact ⟨v, ys, h1.below hb, h2.trans (hb.mono h2.size), h3.below hb, h4, h5⟩
theorem InvM.then_ (hK : Kept W0 Wc (fun k => k = go ∨ some k = v0.ownBlock)) (ho : v.ownBlock = v0.ownBlock ∨ ∃ b, v.ownBlock = some b ∧ W0.heap.size ≤ b) (h : InvM w0 Wc gs go gc s v total L wr) : InvM w0 W0 gs go gc s v0 total L wr := by
 obtain ⟨v2, ys2, h1, h2, h3, h4, h5⟩ := h
 refine ⟨v2, ys2, h1, h2, hK.then_ h3 (fun k hk => ?_), ?_, h5⟩
 ·rcases hk with hk | hk
  ·exact .inl (.inl hk)
  ·rcases ho with ho | ⟨b, ho, hb⟩
   ·exact .inl (.inr (hk.trans ho))
   ·rw [ho] at hk
    injection hk with hk
    exact .inr (by omega)
 ·rcases h4 with h4 | ⟨b, h4, hb⟩
  ·rcases ho with ho | ⟨b, ho, hb⟩
   ·exact .inl (h4.trans ho)
   ·exact .inr ⟨b, h4.trans ho, hb⟩
  ·exact .inr ⟨b, h4, Nat.le_trans hK.1 hb⟩
theorem InvM.row {α : Type} {enc : α → Value} {e g c : Nat} {m : Nat × Nat} {l : List α} (h : InvM w0 W0 gs go gc s v0 total L wr) (hr : RowB enc e W0 g c m l) (h1 : g ≠ go) (h2 : some g ≠ v0.ownBlock) : RowB enc e wr g c m l := by
 obtain ⟨v, ys, _, _, h3, _, _⟩ := h
 exact hr.block (h3.2 g hr.lt (fun h => h.elim h1 h2))
end
theorem RowB.reads {α : Type} {enc : α → Value} {h1 : ∀ x, (enc x).oneCell' = true} {e g c : Nat} {m : Nat × Nat} {xs : List α} {W : World} (d : α) (h : RowB enc e W g c m xs) (hl : xs.length ≤ 1000000) : (Kd.scalar enc h1).C W (some ⟨g, 0, none⟩) xs.length xs := by
 refine Kd.C_of_reads (d := d) ⟨rfl, by omega, fun _ => ⟨_, rfl, fun j hj => ?_⟩⟩
 have := h.cell hj
 rw [Addr.add_lit, Nat.zero_add, this]
 simp [List.getD_eq_getElem?_getD, hj]
/-! ### impl_repairs_five: a copy of bytes -/
set_option maxHeartbeats 8000000 in
set_option maxRecDepth 100000 in
/-- slices.Clone over bytes. -/
theorem CloneB (w : World) (g cr c : Nat) (m : Nat × Nat) (l : List Int) (hr : RowB (Value.int .u8) 5 w g cr m l) (hl : l.length ≤ 1000000) (hpos : 0 < l.length) :
  Calls Tryz.prog 41 #[.slice (some ⟨g, 0, none⟩) l.length c] w fun e w' => ∃ gx cx, e = .returned (.slice (some ⟨gx, 0, none⟩) l.length cx) ∧ RowB (Value.int .u8) 5 w' gx cx (0, 0) l ∧ w.heap.size ≤ gx ∧ Below w.heap.size w w' := by
 have q : ∀ (w : World) (a : Option Addr) (n c n' c' : Nat), (binOp .eql 43 (.slice a n c) (.slice none n' c')).run Tryz.prog w = .ok (.bool a.isNone) w := fun w a n c n' c' => Go.Lib.run_eql_slice_nil w _ _ a n c n' c' Tryz.underlying43
 have hC : (Kd.int .u8).C w (some ⟨g, 0, none⟩) l.length l := hr.reads (0 : Int) hl
 have HR := Aside0.mk hC
 clear hr hC
 go_enter Tryz.func41, Tryz.ntmps41
 go_wp2_with (at_builtin; (refine Kd.R_append_rows (Kd.int .u8) (w0 := w) w.heap.size rfl (.tmp 5) (.tmp 6) 43 5 (.int .u8 0) 1 rfl Tryz.underlying43 info5 rfl (by decide) (by omega) (.slice (some ⟨w.heap.size, 0, none⟩) 0 0) [] l _ _ _ (fun _ => True) (fun _ => False) rfl rfl ?aO ?aR (fun _ _ h => h) (fun _ h => h.elim) ?aF ?aB ?aS ?aL ?_))
 case aO => exact ⟨fun _ _ => trivial, [], ⟨by simp, .inr ⟨w.heap.size, 0, #[], rfl, Nat.le_refl _, heap_alloc_new w _, Nat.le_refl _, Nat.zero_le _, rfl, rfl⟩⟩, by simp, fun j q hq => by simp at hq⟩
 case aR => exact Kd.C_alloc HR.out _
 case aF => exact fun _ _ => trivial
 case aB => exact (Below.refl _ _).alloc (Nat.le_refl _) _
 case aS => simp
 case aL => simp; omega
 intro v1 w1 hR hB _ _
 obtain ⟨gx, cx, rfl, hgx, hgl, -⟩ := Kd.R_form hR hpos
 have hrow := RowB.of_R hR
 have HQ := Aside0.mk (And.intro hrow.1 hB)
 clear hR hB hrow
 go_wp2
 go_ret
 exact ⟨gx, cx, rfl, HQ.out.1, hgx, HQ.out.2⟩
set_option maxHeartbeats 8000000 in
set_option maxRecDepth 100000 in
/-- Nothing is left to be added or taken. -/
theorem change_base (w0 : World) (gs go gc : Nat) (s : ByteArray) (hgo : w0.heap.size ≤ go) (h1 : gs ≠ go) (h2 : gc ≠ go) (i : Nat) (now : List Int) (gn cr cn : Nat) (m : Nat × Nat) (v : Value) (xs : List ByteArray) (W : World) (hr : RowB (Value.int .u8) 5 W gn cr m now) (hl : now.length ≤ 1000)
  (hd : now.drop i = (bytesOf s).drop i) (hS : StM gs go gc w0.heap.size s v xs W) (hB : Below w0.heap.size w0 W) (hn : xs.length + (chG ((bytesOf s).drop i) (now.take i) 0 0).length ≤ 1000000) :
  Calls Tryz.prog 39 #[.slice (some ⟨gn, 0, none⟩) now.length cn, .int .i64 (i : Int), .int .i64 ((0 : Nat) : Int), .int .i64 ((0 : Nat) : Int), .pointer (some ⟨go, 0, none⟩), .pointer (some ⟨gs, 0, none⟩), .pointer (some ⟨gc, 0, none⟩)] W
   fun e w' => e = .returned (.tuple #[]) ∧ InvM w0 W gs go gc s v (xs ++ (chG ((bytesOf s).drop i) (now.take i) 0 0).map strOfNums) [] w' := by
 have hz : chG ((bytesOf s).drop i) (now.take i) 0 0 = [now] := by rw [chG_zero, ← hd, List.take_append_drop]
 rw [hz] at hn ⊢
 have hC : (Kd.int .u8).C W (some ⟨gn, 0, none⟩) now.length now := hr.reads (0 : Int) (by omega)
 have kc : (convert 43 9 (.slice (some ⟨gn, 0, none⟩) now.length cn)).run Tryz.prog W = .ok (.string (strOfNums now)) W := Kd.C_string Tryz.underlying43 Tryz.underlying5 Tryz.underlying9 hC
 obtain ⟨a1, a2, a3, a4, a5⟩ := hS
 have lgs := World.block_lt_of_cell? _ _ a1
 have lgc := World.block_lt_of_cell? _ _ a3
 have lgo := blk_lt a2
 have b2 := blk_cell a2 0
 have hgv : some go ≠ v.ownBlock := fun he => (a4.1 go he.symm).2.1 rfl
 have hxl : xs.length + 1 ≤ 1000000 := by simpa using hn
 have HQ := Aside0.mk (And.intro hB (And.intro a4 (And.intro a2 (And.intro a1 (And.intro a3 a5)))))
 clear hr hd hC hB a1 a2 a3 a4 a5 hn hz
 go_enter Tryz.func39, Tryz.ntmps39
 go_wp2_with ((with_reducible refine gate_builtin (b := .append) (xs := #[.tmp 23, .tmp 26]) rfl ?_); at_builtin; refine Kd.R_append Kd.string (w0 := w0) w0.heap.size rfl (.tmp 23) (.tmp 26) 22 9 (.string ⟨#[]⟩) 16 rfl Tryz.underlying22 info9 rfl (by decide) (by omega) v xs (strOfNums now) [.string (strOfNums now)] (fun k => k ≠ gs ∧ k ≠ go ∧ k ≠ gc) (fun _ => False) rfl rfl ?aP (fun _ hk => hk.elim) ?aF ?aO ?aB ?aS ?aL ?_)
 case aP => exact rfl
 case aF => exact fun k hk => ⟨by omega, by omega, by omega⟩
 case aO => exact HQ.out.2.1
 case aB => exact HQ.out.1
 case aS => exact HQ.out.1.size
 case aL => omega
 intro v1 w1 hR1 hb1 hg1 hat1
 obtain ⟨A1, c1, rfl⟩ := Kd.R_slice hR1
 simp only [List.length_append, List.length_cons, List.length_nil, Nat.zero_add] at hR1 hat1
 have kg := blk_grown HQ.out.2.2.1 hg1 hgv
 have kg1 := blk_cell kg 0
 have kg2 := blk_frozen kg 0
 have HR1 := Aside0.mk hR1
 have HG1 := Aside0.mk (And.intro hb1 (And.intro hg1 hat1))
 have HK := Aside0.mk kg
 clear hR1 hb1 hg1 hat1 kg
 go_wp2
 (try simp only [Exit.inBlock, Exit.then])
 refine bodyPost_ret (results_none rfl _ _ _) rfl ?_
 obtain ⟨_, _, _, a1, a3, a5⟩ := HQ.out
 obtain ⟨hb1, hg1, hat1⟩ := HG1.out
 have hK1 : Kept W (w1.setCell ⟨go, 0, none⟩ (.slice A1 (xs.length + 1) c1)) (fun k => k = go ∨ some k = v.ownBlock) := (Kept.of_grown hg1 (Kept.refl W _) (fun k hk => .inl (.inr hk.symm))).setCell (.inl (.inl rfl)) _
 have n1 : ∀ k, gs = k ∨ gc = k → ¬ (k = go ∨ some k = v.ownBlock) := fun k hk he => by
  rcases hk with rfl | rfl
  ·exact he.elim h1 (fun h => (HQ.out.2.1.1 _ h.symm).1 rfl)
  ·exact he.elim h2 (fun h => (HQ.out.2.1.1 _ h.symm).2.2 rfl)
 refine ⟨rfl, _, xs ++ [strOfNums now], ⟨cell_kept a1 hK1 (n1 _ (.inl rfl)), ?_, cell_kept a3 hK1 (n1 _ (.inr rfl)), Kd.R_far HR1.out (fun k hk => hk.2.1) _, ?_⟩, hb1.setCell (p := ⟨go, 0, none⟩) hgo _, hK1, hat1, by simp⟩
 ·exact blk_put (cs := #[v]) HK.out 0 _ rfl
 ·rcases hat1 with h | ⟨b, h, _⟩
  ·rw [h]; exact a5
  ·rw [h]; simp
/-! ### impl_repairs_six: the recursion -/
theorem InvM.more {w0 W0 wr : World} {gs go gc : Nat} {s : ByteArray} {v0 : Value} {total : List ByteArray} (L : List (List Int)) (h : InvM w0 W0 gs go gc s v0 total [] wr) : InvM w0 W0 gs go gc s v0 (total ++ L.map strOfNums) L wr := by
 obtain ⟨v, ys, h1, h2, h3, h4, h5⟩ := h
 exact ⟨v, ys, h1, h2, h3, h4, by rw [← h5]; simp⟩
theorem InvM.as {w0 W0 wr : World} {gs go gc : Nat} {s : ByteArray} {v0 : Value} {total : List ByteArray} {L L' : List (List Int)} (h : InvM w0 W0 gs go gc s v0 total L wr) (e : L = L') : InvM w0 W0 gs go gc s v0 total L' wr := e ▸ h
/-- The recursion's contract. -/
def ChangeOK (w0 : World) (gs go gc : Nat) (s : ByteArray) (n : Nat) : Prop := ∀ (i A T : Nat) (now : List Int) (gn cr cn : Nat) (m : Nat × Nat) (v : Value) (xs : List ByteArray) (W : World), A + T ≤ n → A ≤ 1 → T ≤ 1 → i ≤ s.size → RowB (Value.int .u8) 5 W gn cr m now → now.length = s.size → now.drop i = (bytesOf s).drop i → gn ≠ go → some gn ≠ v.ownBlock →
 StM gs go gc w0.heap.size s v xs W → Below w0.heap.size w0 W → xs.length + (chG ((bytesOf s).drop i) (now.take i) A T).length ≤ 1000000 →
  Calls Tryz.prog 39 #[.slice (some ⟨gn, 0, none⟩) s.size cn, .int .i64 (i : Int), .int .i64 (A : Int), .int .i64 (T : Int), .pointer (some ⟨go, 0, none⟩), .pointer (some ⟨gs, 0, none⟩), .pointer (some ⟨gc, 0, none⟩)] W
   fun e w' => e = .returned (.tuple #[]) ∧ InvM w0 W gs go gc s v (xs ++ (chG ((bytesOf s).drop i) (now.take i) A T).map strOfNums) [] w'
theorem bytes_drop (s : ByteArray) {i : Nat} (h : i < s.size) : (bytesOf s).drop i = bt s (i : Int) :: (bytesOf s).drop (i + 1) := by
 have hl : i < (bytesOf s).length := by rw [bytesOf_length]; exact h
 rw [List.drop_eq_getElem_cons hl]
 congr 1
 have := rd_bytesOf s (i : Int)
 rw [← this]
 unfold rd
 simp [List.getD_eq_getElem?_getD, hl]
theorem now_take {now : List Int} {s : ByteArray} {i : Nat} (h : i < s.size) (hl : now.length = s.size) (hd : now.drop i = (bytesOf s).drop i) : now.take (i + 1) = now.take i ++ [bt s (i : Int)] ∧ now.drop (i + 1) = (bytesOf s).drop (i + 1) := by
 have hn : i < now.length := by omega
 rw [List.drop_eq_getElem_cons hn, bytes_drop s h] at hd
 obtain ⟨h1, h2⟩ := List.cons.inj hd
 exact ⟨by rw [List.take_succ_eq_append_getElem hn, h1], h2⟩
theorem next_at {now : List Int} {s : ByteArray} {i : Nat} (c : Int) (h : i < s.size) (hl : now.length = s.size) (hd : now.drop i = (bytesOf s).drop i) : (now.set i c).take (i + 1) = now.take i ++ [c] ∧ (now.set i c).drop (i + 1) = (bytesOf s).drop (i + 1) ∧ (now.set i c).length = s.size := by
 have hn : i < now.length := by omega
 refine ⟨?_, ?_, by rw [List.length_set]; exact hl⟩
 ·rw [List.take_succ_eq_append_getElem (by rw [List.length_set]; exact hn), List.take_set_of_le (Nat.le_refl _), List.getElem_set_self]
 ·rw [List.drop_set_of_lt (by omega)]
  exact (now_take h hl hd).2
theorem wr_nat {n : Nat} (h : n ≤ 2000000) : IntKind.i64.wrap ((n : Nat) : Int) = (n : Int) := by
 unfold IntKind.wrap
 dsimp only
 split
 ·rename_i h
  simp [IntKind.bits, IntKind.signed] at h
  omega
 ·simp [IntKind.bits]
  omega
set_option maxHeartbeats 8000000 in
set_option maxRecDepth 100000 in
theorem change_step (w0 : World) (gs go gc : Nat) (s : ByteArray) (hG : LaidG w0) (hgo : w0.heap.size ≤ go) (h1 : gs ≠ go) (h2 : gc ≠ go) (hs : s.size ≤ 1000) (hsg : ∀ x ∈ bytesOf s, sgnR x = true) (n : Nat) (IH : ChangeOK w0 gs go gc s n) (i0 A T : Nat) (now : List Int) (gn cr cn : Nat) (m : Nat × Nat) (v0 : Value) (xs : List ByteArray) (W0 : World)
  (hn : A + T ≤ n + 1) (hA : A ≤ 1) (hT : T ≤ 1) (hnz : ¬ (A = 0 ∧ T = 0)) (hi0 : i0 ≤ s.size) (hr : RowB (Value.int .u8) 5 W0 gn cr m now) (hl : now.length = s.size) (hd : now.drop i0 = (bytesOf s).drop i0) (hgn : gn ≠ go) (hgv : some gn ≠ v0.ownBlock) (hS : StM gs go gc w0.heap.size s v0 xs W0) (hB : Below w0.heap.size w0 W0) (hx : xs.length + (chG ((bytesOf s).drop i0) (now.take i0) A T).length ≤ 1000000) :
  Calls Tryz.prog 39 #[.slice (some ⟨gn, 0, none⟩) s.size cn, .int .i64 (i0 : Int), .int .i64 (A : Int), .int .i64 (T : Int), .pointer (some ⟨go, 0, none⟩), .pointer (some ⟨gs, 0, none⟩), .pointer (some ⟨gc, 0, none⟩)] W0
   fun e w' => e = .returned (.tuple #[]) ∧ InvM w0 W0 gs go gc s v0 (xs ++ (chG ((bytesOf s).drop i0) (now.take i0) A T).map strOfNums) [] w' := by
 have eg : ∀ args w, (callFunc 39 args).run Tryz.prog w = .ok (.enter 39 args) w := enters_of Tryz.func39 (by kernel_rfl) rfl
 obtain ⟨total, htot⟩ : ∃ total, total = xs ++ (chG ((bytesOf s).drop i0) (now.take i0) A T).map strOfNums := ⟨_, rfl⟩
 have HT : Aside0 (total.length ≤ 1000000) := ⟨by rw [htot]; simp; omega⟩
 rw [← htot]
 have HI0 : Aside0 (InvM w0 W0 gs go gc s v0 total (chG ((bytesOf s).drop i0) (now.take i0) A T) W0) := ⟨InvM.start hS hB htot.symm⟩
 have HR := Aside0.mk hr
 have HSG := Aside0.mk hsg
 have HIH := Aside0.mk IH
 have HG := Aside0.mk hG
 have HD0 := Aside0.mk hd
 clear hr hS hB hx htot hsg IH hG hd
 have wA : IntKind.i64.wrap ((A : Int) + 1) = ((A + 1 : Nat) : Int) := wr_nat (n := A + 1) (by omega)
 have wT : IntKind.i64.wrap ((T : Int) + 1) = ((T + 1 : Nat) : Int) := wr_nat (n := T + 1) (by omega)
 have hAT : (A : Int) = 0 → ((T : Int) == 0) = false := fun h => beq_eq_false_iff_ne.2 (by omega)
 have hcase : (((A : Int) == 0) = true ∧ ((T : Int) == 0) = false) ∨ ((A : Int) == 0) = false := by
  by_cases hA0 : A = 0
  ·exact .inl ⟨by rw [hA0]; rfl, beq_eq_false_iff_ne.2 (by omega)⟩
  ·exact .inr (beq_eq_false_iff_ne.2 (by omega))
 clear hAT
 rcases hcase with ⟨hAz, hTz⟩ | hAz
 all_goals
  go_enter Tryz.func39, Tryz.ntmps39
  go_wp2
  go_loopg [11] s.size (fun gg v11 wr => ∃ i : Nat, v11 = .int .i64 i ∧ i ≤ s.size ∧ s.size - i ≤ gg ∧ Aside0 (now.drop i = (bytesOf s).drop i) ∧ Aside0 (InvM w0 W0 gs go gc s v0 total (chG ((bytesOf s).drop i) (now.take i) A T) wr))
  case atStart => exact ⟨i0, rfl, hi0, by omega, HD0, HI0⟩
  case round =>
   clear HI0 HD0
   obtain ⟨i, rfl, hi, hg, HD, HI⟩ := hrel
   have hgs : wr.cell? ⟨gs, 0, none⟩ = some (.string s) := by obtain ⟨v, ys, hS, _⟩ := HI.out; exact hS.1
   by_cases hlt : i < s.size
   ·have hltz : (i : Int) < (s.size : Int) := by omega
    have hst := bytes_drop s hlt
    have hnt := now_take hlt hl HD.out
    obtain ⟨x, hx⟩ : ∃ x, x = bt s (i : Int) := ⟨_, rfl⟩
    obtain ⟨F, hF⟩ : ∃ F : Int → Nat → Nat → List (List Int), F = fun c A' T' => chG ((bytesOf s).drop (i + 1)) (now.take i ++ [c]) A' T' := ⟨_, rfl⟩
    obtain ⟨K, hK⟩ : ∃ K, K = chG ((bytesOf s).drop (i + 1)) (now.take (i + 1)) A T := ⟨_, rfl⟩
    have HI1 : Aside0 (InvM w0 W0 gs go gc s v0 total (chA F x A T 0 (A + 1) ++ K) wr) := ⟨HI.out.as (by rw [hst, chG_step _ _ _ hnz, ← hnt.1, ← hF, ← hK, ← hx])⟩
    have hxs : sgnR x = true := HSG.out x (by rw [hx, ← List.take_append_drop i (bytesOf s), hst]; simp)
    have HX := Aside0.mk (And.intro hx (And.intro hxs (And.intro hF (And.intro hK hnt))))
    clear hst hnt hxs hF hK hx HI
    go_wp2
    go_loopg [37] (A + 1) (fun gg v37 wx => ∃ a : Nat, v37 = .int .i64 a ∧ a ≤ A + 1 ∧ A + 1 - a ≤ gg ∧ Aside0 (InvM w0 W0 gs go gc s v0 total (chA F x A T a (A + 1 - a) ++ K) wx))
    case atStart => exact ⟨0, rfl, by omega, by omega, HI1⟩
    case round =>
     clear HI1 hgs
     obtain ⟨a, rfl, ha, hga, HIa⟩ := hrel
     by_cases hla : a < A + 1
     ·have hlaz : (a : Int) < (A : Int) + 1 := by omega
      obtain ⟨K2, hK2⟩ : ∃ K2, K2 = chA F x A T (a + 1) (A + 1 - (a + 1)) ++ K := ⟨_, rfl⟩
      have HI2 : Aside0 (InvM w0 W0 gs go gc s v0 total (chT F x A T a 0 (T + 1) ++ K2) wr) := ⟨HIa.out.as (by rw [show A + 1 - a = (A + 1 - (a + 1)) + 1 by omega, chA_step, List.append_assoc, ← hK2])⟩
      have HK2 := Aside0.mk hK2
      clear HIa hK2
      go_wp2
      go_loopg [42] (T + 1) (fun gg v42 wy => ∃ t : Nat, v42 = .int .i64 t ∧ t ≤ T + 1 ∧ T + 1 - t ≤ gg ∧ Aside0 (InvM w0 W0 gs go gc s v0 total (chT F x A T a t (T + 1 - t) ++ K2) wy))
      case atStart => exact ⟨0, rfl, by omega, by omega, HI2⟩
      case round =>
       clear HI2
       obtain ⟨t, rfl, ht, hgt, HIt⟩ := hrel
       by_cases hltt : t < T + 1
       ·have hlttz : (t : Int) < (T : Int) + 1 := by omega
        have wat : IntKind.i64.wrap ((a : Int) + (t : Int)) = ((a + t : Nat) : Int) := wr_nat (n := a + t) (by omega)
        obtain ⟨K3, hK3⟩ : ∃ K3, K3 = chT F x A T a (t + 1) (T + 1 - (t + 1)) ++ K2 := ⟨_, rfl⟩
        have HI3 : Aside0 (InvM w0 W0 gs go gc s v0 total ((if a + t = 0 then [] else (chL x a t).flatMap fun c => F c (A - a) (T - t)) ++ K3) wr) := ⟨HIt.out.as (by rw [show T + 1 - t = (T + 1 - (t + 1)) + 1 by omega, chT_step, List.append_assoc, ← hK3])⟩
        have HK3 := Aside0.mk hK3
        clear HIt hK3
        by_cases h0 : a + t = 0
        ·have h0z : (((a + t : Nat) : Int) == 0) = true := by rw [h0]; rfl
         have HI4 : Aside0 (InvM w0 W0 gs go gc s v0 total K3 wr) := ⟨HI3.out.as (by rw [if_pos h0, List.nil_append])⟩
         clear HI3
         go_wp2
         go_roundg (T + 1 - (t + 1))
         case measure => omega
         case rel => exact ⟨t + 1, by go_num, by omega, by omega, ⟨HI4.out.as HK3.out⟩⟩
        ·have h0z : (((a + t : Nat) : Int) == 0) = false := beq_eq_false_iff_ne.2 (by omega)
         have HI4 : Aside0 (InvM w0 W0 gs go gc s v0 total (((chL x a t).flatMap fun c => F c (A - a) (T - t)) ++ K3) wr) := ⟨HI3.out.as (by rw [if_neg h0])⟩
         clear HI3
         obtain ⟨v, ys, hS, hB, hKp, ho, htt⟩ := HI4.out
         have hgs := hS.1
         have HRy := Aside0.mk (HI4.out.row HR.out hgn hgv)
         have p5 : (0 : Int) ≤ (i : Int) := by omega
         have hx5 : ∀ h : i < s.size, ((s[i]'h).toNat : Int) = x := fun h => by rw [HX.out.1]; unfold bt; simp [h]
         have q5 := hltz
         replace p5 := eq_true p5
         replace q5 := eq_true q5
         have hCH := changed_at x (a : Int) (t : Int) wr (LaidG_below HG.out hB) HX.out.2.1
         have hvlt : ∀ k, v.ownBlock = some k → k < wr.heap.size := Kd.R_lt hS.2.2.2.1
         have hgov : some go ≠ v.ownBlock := fun he => (hS.2.2.2.1.1 go he.symm).2.1 rfl
         have hgolt := blk_lt hS.2.1
         have hgnv : some gn ≠ v.ownBlock := fun he => by
          rcases ho with ho | ⟨b, ho, hb⟩
          ·exact hgv (he.trans ho)
          ·rw [ho] at he
           have := HR.out.lt
           have := Option.some.inj he
           omega
         have HCH := Aside0.mk hCH
         have HSt := Aside0.mk (And.intro hS (And.intro hB (And.intro hKp (And.intro ho htt))))
         clear HI4 hS hB hKp ho htt hCH
         go_wp2_with (go_at_call 40; (with_reducible refine HCH.out.mono ?_); rintro e w1 ⟨gl, cl, crl, ml, rfl, hrl, hgl, hbl⟩)
         obtain ⟨hS, hB, hKp, ho, htt⟩ := HSt.out
         have hls : gl ≠ go := by omega
         have hlv : some gl ≠ v.ownBlock := fun he => by have := hvlt gl he.symm; omega
         have HIc : Aside0 (InvM w0 w1 gs go gc s v total (((chL x a t).drop 0).flatMap (fun c => F c (A - a) (T - t)) ++ K3) w1) := ⟨InvM.start (hS.below hbl) (hB.trans (hbl.mono hB.size)) htt⟩
         have HL := Aside0.mk hrl
         have HNW := Aside0.mk (HRy.out.below hbl)
         have hlen := chL_len x a t
         have HBack := Aside0.mk (And.intro (hKp.below hbl) ho)
         clear HSt hS hB hKp ho htt hrl hbl hx5 p5 q5 hgs HCH HRy hvlt
         go_loopg [56] (chL x a t).length (fun gg v56 wz => ∃ k : Nat, v56 = .int .i64 k ∧ k ≤ (chL x a t).length ∧ (chL x a t).length - k ≤ gg ∧ Aside0 (InvM w0 w1 gs go gc s v total (((chL x a t).drop k).flatMap (fun c => F c (A - a) (T - t)) ++ K3) wz))
         case atStart => exact ⟨0, rfl, by omega, by omega, HIc⟩
         case round =>
          clear HIc
          obtain ⟨k, rfl, hk, hgk, HIk⟩ := hrel
          by_cases hlk : k < (chL x a t).length
          ·have hlkz : (k : Int) < ((chL x a t).length : Int) := by omega
           have hcell := (HIk.out.row HL.out hls hlv).cell hlk
           have hnow := HIk.out.row HNW.out hgn hgnv
           have hdr := List.drop_eq_getElem_cons hlk
           generalize (chL x a t)[k] = c at *
           have HI4 : Aside0 (InvM w0 w1 gs go gc s v total (F c (A - a) (T - t) ++ (((chL x a t).drop (k + 1)).flatMap (fun c => F c (A - a) (T - t)) ++ K3)) wr) := ⟨HIk.out.as (by rw [hdr, List.flatMap_cons, List.append_assoc])⟩
           clear HIk hdr
           have HCL := Aside0.mk (CloneB wr gn cr cn m now hnow (by omega) (by omega))
           rw [hl] at HCL
           clear hnow
           go_upto_region 17 with (go_at_call 41; (with_reducible refine HCL.out.mono ?_); rintro e w2 ⟨gx, cx, rfl, hrx, hgx, hbx⟩; have hcx := hrx.cell (j := i) (by omega); have hfx := hrx.soft (j := i) (Nat.lt_of_lt_of_le (show i < now.length by omega) hrx.len))
           obtain ⟨v2, ys2, hS2, hB2, hK2, ho2, ht2⟩ := HI4.out
           have hb3 : Below wr.heap.size wr (w2.setCell ⟨gx, i, none⟩ (.int .u8 c)) := hbx.setCell (p := ⟨gx, i, none⟩) hgx _
           have hr3 := hrx.put i c
           generalize w2.setCell ⟨gx, i, none⟩ (.int .u8 c) = w3 at *
           have hS3 := hS2.below hb3
           have hB3 := hB2.trans (hb3.mono hB2.size)
           have hK3 := hK2.below hb3
           have hgc3 := hS3.2.2.1
           have hnx := next_at c hlt hl HD.out
           have hFc : chG ((bytesOf s).drop (i + 1)) ((now.set i c).take (i + 1)) (A - a) (T - t) = F c (A - a) (T - t) := by rw [hnx.1, HX.out.2.2.1]
           have hgo2 := blk_lt hS2.2.1
           have hv2 : ∀ k, v2.ownBlock = some k → k < wr.heap.size := Kd.R_lt hS2.2.2.2.1
           have hcall := HIH.out (i + 1) (A - a) (T - t) (now.set i c) gx cx cx (0, 0) v2 ys2 w3 (by omega) (by omega) (by omega) (by omega) hr3 hnx.2.2 hnx.2.1 (by omega) (fun he => by have := hv2 gx he.symm; omega) hS3 hB3 (by rw [hFc]; have h9 := congrArg List.length ht2; simp only [List.length_append, List.length_map] at h9; have := HT.out; omega)
           rw [hFc, show ((i + 1 : Nat) : Int) = (i : Int) + 1 by omega] at hcall
           have HC := Aside0.mk hcall
           have HE := Aside0.mk (And.intro hK3 (And.intro ho2 ht2))
           have wi : IntKind.i64.wrap ((i : Int) + 1) = ((i + 1 : Nat) : Int) := wr_nat (n := i + 1) (by omega)
           have wAa : IntKind.i64.wrap ((A : Int) - (a : Int)) = ((A - a : Nat) : Int) := by rw [← wr_nat (n := A - a) (by omega), show ((A - a : Nat) : Int) = (A : Int) - (a : Int) by omega]
           have wTt : IntKind.i64.wrap ((T : Int) - (t : Int)) = ((T - t : Nat) : Int) := by rw [← wr_nat (n := T - t) (by omega), show ((T - t : Nat) : Int) = (T : Int) - (t : Int) by omega]
           clear HI4 hS2 hB2 hK2 ho2 ht2 hb3 hr3 hS3 hB3 hK3 hcall hrx hgx hbx hcx hfx hFc hnx hcell hgo2 hv2 HCL
           go_wp2_with (go_at_fn 39; (with_reducible refine HC.out.mono ?_); rintro e w4 ⟨rfl, hI4⟩)
           have HI6 : Aside0 (InvM w0 w1 gs go gc s v total ((((chL x a t).drop (k + 1)).flatMap (fun c => F c (A - a) (T - t))) ++ K3) w4) := ⟨InvM.then_ HE.out.1 HE.out.2.1 (by have h := hI4.more ((((chL x a t).drop (k + 1)).flatMap (fun c => F c (A - a) (T - t))) ++ K3); rw [List.append_assoc, ← List.map_append, HE.out.2.2] at h; exact h)⟩
           clear hI4 HE
           go_roundg ((chL x a t).length - (k + 1))
           case measure => omega
           case rel => exact ⟨k + 1, by go_num, by omega, by omega, HI6⟩
          ·have hlkz : ¬ (k : Int) < ((chL x a t).length : Int) := by omega
           have HI5 : Aside0 (InvM w0 W0 gs go gc s v0 total K3 wr) := ⟨(InvM.then_ HBack.out.1 HBack.out.2 HIk.out).as (by rw [List.drop_of_length_le (by omega)]; rfl)⟩
           clear HIk
           go_wp2
           go_roundg (T + 1 - (t + 1))
           case measure => omega
           case rel => exact ⟨t + 1, by go_num, by omega, by omega, ⟨HI5.out.as HK3.out⟩⟩
       ·have hlttz : ¬ (t : Int) < (T : Int) + 1 := by omega
        obtain rfl : t = T + 1 := by omega
        have HI3 : Aside0 (InvM w0 W0 gs go gc s v0 total K2 wr) := ⟨HIt.out.as (by rw [Nat.sub_self]; rfl)⟩
        clear HIt
        go_wp2
        go_roundg (A + 1 - (a + 1))
        case measure => omega
        case rel => exact ⟨a + 1, by go_num, by omega, by omega, ⟨HI3.out.as HK2.out⟩⟩
     ·have hlaz : ¬ (a : Int) < (A : Int) + 1 := by omega
      obtain rfl : a = A + 1 := by omega
      have HI2 : Aside0 (InvM w0 W0 gs go gc s v0 total K wr) := ⟨HIa.out.as (by rw [Nat.sub_self]; rfl)⟩
      clear HIa
      go_wp2
      go_roundg (s.size - (i + 1))
      case measure => omega
      case rel => exact ⟨i + 1, by go_num, by omega, by omega, ⟨HX.out.2.2.2.2.2⟩, ⟨HI2.out.as HX.out.2.2.2.1⟩⟩
   ·have hltz : ¬ (i : Int) < (s.size : Int) := by omega
    have HI1 : Aside0 (InvM w0 W0 gs go gc s v0 total [] wr) := ⟨HI.out.as (by rw [List.drop_of_length_le (by rw [bytesOf_length]; omega), chG_end _ hnz])⟩
    clear HI
    go_wp2
    go_end0
    exact ⟨rfl, HI1.out⟩
set_option maxHeartbeats 8000000 in
set_option maxRecDepth 100000 in
theorem change_at (w0 : World) (gs go gc : Nat) (s : ByteArray) (hG : LaidG w0) (hgo : w0.heap.size ≤ go) (h1 : gs ≠ go) (h2 : gc ≠ go) (hs : s.size ≤ 1000) (hsg : ∀ x ∈ bytesOf s, sgnR x = true) : ∀ n, ChangeOK w0 gs go gc s n
 | 0 => fun i A T now gn cr cn m v xs W hn hA hT hi hr hl hd hgn hgv hS hB hx => by
  obtain rfl : A = 0 := by omega
  obtain rfl : T = 0 := by omega
  rw [← hl]
  exact change_base w0 gs go gc s hgo h1 h2 i now gn cr cn m v xs W hr (by omega) hd hS hB hx
 | n + 1 => fun i A T now gn cr cn m v xs W hn hA hT hi hr hl hd hgn hgv hS hB hx => by
  by_cases hz : A = 0 ∧ T = 0
  ·obtain ⟨rfl, rfl⟩ := hz
   rw [← hl]
   exact change_base w0 gs go gc s hgo h1 h2 i now gn cr cn m v xs W hr (by omega) hd hS hB hx
  ·exact change_step w0 gs go gc s hG hgo h1 h2 hs hsg n (change_at w0 gs go gc s hG hgo h1 h2 hs hsg n) i A T now gn cr cn m v xs W hn hA hT hz hi hr hl hd hgn hgv hS hB hx
/-! ### impl_repairs_seven: made -/
open Go.Shelf in
def Tryz.lays190_ren : Go.Shelf.Ren := ⟨fun | 190 => 42 | 125 => 58 | 258 => 57 | 128 => 79 | 129 => 80 | 302 => 70 | 303 => 71 | 304 => 72 | 305 => 73 | 306 => 74 | 307 => 75 | 308 => 76 | 309 => 77 | 310 => 78 | 333 => 97 | 329 => 98 | 330 => 99 | 334 => 100 | 335 => 101 | 336 => 102 | 344 => 112 | n => n, fun | 31 => 22 | 9 => 9 | 3 => 3 | 46 => 75 | 0 => 0 | 51 => 98 | 53 => 100 | 4 => 4 | 183 => 90 | 182 => 89 | 131 => 95 | 5 => 5 | 218 => 113 | 222 => 117 | 228 => 128 | 229 => 47 | n => n, fun | n => n⟩
open Go.Shelf in
theorem Tryz.lays190 : Go.Proofs.Lays.n190 Tryz.prog Tryz.lays190_ren := {
 mixed := by kernel_rfl,
 f125 := Tryz.func58.trans (congrArg some (by kernel_rfl)),
 f128 := Tryz.func79.trans (congrArg some (by kernel_rfl)),
 f129 := Tryz.func80.trans (congrArg some (by kernel_rfl)),
 f190 := Tryz.func42.trans (congrArg some (by kernel_rfl)),
 f258 := Tryz.func57.trans (congrArg some (by kernel_rfl)),
 f302 := Tryz.func70.trans (congrArg some (by kernel_rfl)),
 f303 := Tryz.func71.trans (congrArg some (by kernel_rfl)),
 f304 := Tryz.func72.trans (congrArg some (by kernel_rfl)),
 f305 := Tryz.func73.trans (congrArg some (by kernel_rfl)),
 f306 := Tryz.func74.trans (congrArg some (by kernel_rfl)),
 f307 := Tryz.func75.trans (congrArg some (by kernel_rfl)),
 f308 := Tryz.func76.trans (congrArg some (by kernel_rfl)),
 f309 := Tryz.func77.trans (congrArg some (by kernel_rfl)),
 f310 := Tryz.func78.trans (congrArg some (by kernel_rfl)),
 f329 := Tryz.func98.trans (congrArg some (by kernel_rfl)),
 f330 := Tryz.func99.trans (congrArg some (by kernel_rfl)),
 f333 := Tryz.func97.trans (congrArg some (by kernel_rfl)),
 f334 := Tryz.func100.trans (congrArg some (by kernel_rfl)),
 f335 := Tryz.func101.trans (congrArg some (by kernel_rfl)),
 f336 := Tryz.func102.trans (congrArg some (by kernel_rfl)),
 f344 := Tryz.func112.trans (congrArg some (by kernel_rfl)),
 t0 := Tryz.underlying0,
 a0 := Tryz.isAgg0,
 z0 := Tryz.sizeOf0,
 v0 := Tryz.zeroValue0,
 t3 := Tryz.underlying3,
 a3 := Tryz.isAgg3,
 z3 := Tryz.sizeOf3,
 v3 := Tryz.zeroValue3,
 t4 := Tryz.underlying4,
 a4 := Tryz.isAgg4,
 z4 := Tryz.sizeOf4,
 v4 := Tryz.zeroValue4,
 t5 := Tryz.underlying5,
 a5 := Tryz.isAgg5,
 z5 := Tryz.sizeOf5,
 v5 := Tryz.zeroValue5,
 t9 := Tryz.underlying9,
 a9 := Tryz.isAgg9,
 z9 := Tryz.sizeOf9,
 v9 := Tryz.zeroValue9,
 t31 := Tryz.underlying22,
 a31 := Tryz.isAgg22,
 z31 := Tryz.sizeOf22,
 v31 := Tryz.zeroValue22,
 t46 := Tryz.underlying75,
 a46 := Tryz.isAgg75,
 z46 := Tryz.sizeOf75,
 v46 := Tryz.zeroValue75,
 t51 := Tryz.underlying98,
 a51 := Tryz.isAgg98,
 z51 := Tryz.sizeOf98,
 v51 := Tryz.zeroValue98,
 t53 := Tryz.underlying100,
 a53 := Tryz.isAgg100,
 z53 := Tryz.sizeOf100,
 v53 := Tryz.zeroValue100,
 t131 := Tryz.underlying95,
 a131 := Tryz.isAgg95,
 z131 := Tryz.sizeOf95,
 v131 := Tryz.zeroValue95,
 t182 := Tryz.underlying89,
 a182 := Tryz.isAgg89,
 z182 := Tryz.sizeOf89,
 v182 := Tryz.zeroValue89,
 t183 := Tryz.underlying90,
 a183 := Tryz.isAgg90,
 z183 := Tryz.sizeOf90,
 v183 := Tryz.zeroValue90,
 t218 := Tryz.underlying113,
 a218 := Tryz.isAgg113,
 z218 := Tryz.sizeOf113,
 v218 := Tryz.zeroValue113,
 t222 := Tryz.underlying117,
 a222 := Tryz.isAgg117,
 z222 := Tryz.sizeOf117,
 v222 := Tryz.zeroValue117,
 t228 := Tryz.underlying128,
 a228 := Tryz.isAgg128,
 z228 := Tryz.sizeOf128,
 v228 := Tryz.zeroValue128,
 t229 := Tryz.underlying47,
 a229 := Tryz.isAgg47,
 z229 := Tryz.sizeOf47,
 v229 := Tryz.zeroValue47 }
/-- All texts that are made, in the order of texts. -/
def madeL (s : ByteArray) (A T : Nat) : List ByteArray := ((((chG (bytesOf s) [] A T).map strOfNums).map (fun b => b.data.toList)).mergeSort fun x y => decide (x ≤ y)).map fun l => ⟨l.toArray⟩
theorem madeL_len (s : ByteArray) (A T : Nat) : (madeL s A T).length = (chG (bytesOf s) [] A T).length := by simp [madeL]
theorem made_start (w : World) (s : ByteArray) (W : World) (hW : W = (((w.alloc (.cells #[.string s] 9)).alloc (.cells #[] 9)).alloc (.cells #[.slice (some ⟨w.heap.size + 1, 0, none⟩) 0 0] 22)).alloc (.cells #[.func (.func 39) #[] #[.pointer (some ⟨w.heap.size + 1 + 1, 0, none⟩), .pointer (some ⟨w.heap.size, 0, none⟩), .pointer (some ⟨w.heap.size + 1 + 1 + 1, 0, none⟩)]] 53)) :
  Below w.heap.size w W ∧ StM w.heap.size (w.heap.size + 1 + 1) (w.heap.size + 1 + 1 + 1) w.heap.size s (.slice (some ⟨w.heap.size + 1, 0, none⟩) 0 0) [] W ∧ W.heap.size = w.heap.size + 1 + 1 + 1 + 1 := by
 have s1 : ∀ o1 : Obj, (w.alloc o1).heap.size = w.heap.size + 1 := by intro o1; simp
 have s2 : ∀ o1 o2 : Obj, ((w.alloc o1).alloc o2).heap.size = w.heap.size + 1 + 1 := by intro o1 o2; simp
 have s3 : ∀ o1 o2 o3 : Obj, (((w.alloc o1).alloc o2).alloc o3).heap.size = w.heap.size + 1 + 1 + 1 := by intro o1 o2 o3; simp
 have b0 := blk_alloc (blk_alloc (blk_alloc (blk_new w (.cells #[.string s] 9)) (.cells #[] 9)) (.cells #[.slice (some ⟨w.heap.size + 1, 0, none⟩) 0 0] 22)) (.cells #[.func (.func 39) #[] #[.pointer (some ⟨w.heap.size + 1 + 1, 0, none⟩), .pointer (some ⟨w.heap.size, 0, none⟩), .pointer (some ⟨w.heap.size + 1 + 1 + 1, 0, none⟩)]] 53)
 have b1 := blk_alloc (blk_alloc (blk_new (w.alloc (.cells #[.string s] 9)) (.cells #[] 9)) (.cells #[.slice (some ⟨w.heap.size + 1, 0, none⟩) 0 0] 22)) (.cells #[.func (.func 39) #[] #[.pointer (some ⟨w.heap.size + 1 + 1, 0, none⟩), .pointer (some ⟨w.heap.size, 0, none⟩), .pointer (some ⟨w.heap.size + 1 + 1 + 1, 0, none⟩)]] 53)
 have b2 := blk_alloc (blk_new ((w.alloc (.cells #[.string s] 9)).alloc (.cells #[] 9)) (.cells #[.slice (some ⟨w.heap.size + 1, 0, none⟩) 0 0] 22)) (.cells #[.func (.func 39) #[] #[.pointer (some ⟨w.heap.size + 1 + 1, 0, none⟩), .pointer (some ⟨w.heap.size, 0, none⟩), .pointer (some ⟨w.heap.size + 1 + 1 + 1, 0, none⟩)]] 53)
 have b3 := blk_new (((w.alloc (.cells #[.string s] 9)).alloc (.cells #[] 9)).alloc (.cells #[.slice (some ⟨w.heap.size + 1, 0, none⟩) 0 0] 22)) (.cells #[.func (.func 39) #[] #[.pointer (some ⟨w.heap.size + 1 + 1, 0, none⟩), .pointer (some ⟨w.heap.size, 0, none⟩), .pointer (some ⟨w.heap.size + 1 + 1 + 1, 0, none⟩)]] 53)
 rw [s1] at b1
 rw [s2] at b2
 rw [s3] at b3
 have hb := below_alloc (below_alloc (below_alloc (below_alloc (Below.refl w.heap.size w) (.cells #[.string s] 9)) (.cells #[] 9)) (.cells #[.slice (some ⟨w.heap.size + 1, 0, none⟩) 0 0] 22)) (.cells #[.func (.func 39) #[] #[.pointer (some ⟨w.heap.size + 1 + 1, 0, none⟩), .pointer (some ⟨w.heap.size, 0, none⟩), .pointer (some ⟨w.heap.size + 1 + 1 + 1, 0, none⟩)]] 53)
 have hz : W.heap.size = w.heap.size + 1 + 1 + 1 + 1 := by rw [hW]; simp
 rw [← hW] at b0 b1 b2 b3 hb
 clear hW
 refine ⟨hb, ⟨blk_cell b0 0, b2, blk_cell b3 0, ⟨fun k hk => ?_, [], ⟨by simp, .inr ⟨w.heap.size + 1, 0, #[], rfl, by omega, b1, Nat.le_refl _, Nat.zero_le _, rfl, rfl⟩⟩, by simp, fun j q hq => by simp at hq⟩, by simp [Value.ownBlock]⟩, hz⟩
 simp only [Value.ownBlock] at hk
 have := Option.some.inj hk
 omega
theorem below_sorted {w W W2 : World} {g : Nat} (h : Below w.heap.size w W) (hg : W.grownBy W2 (some g)) (hge : w.heap.size ≤ g) : Below w.heap.size w W2 :=
 ⟨hg.os.trans h.os, hg.tape.trans h.tape, hg.output.trans h.output, Nat.le_trans h.size hg.size, fun k hk => (hg.block k (Nat.lt_of_lt_of_le hk h.size) (fun e => by have := Option.some.inj e; omega)).trans (h.block k hk)⟩
theorem bytes_row (W : World) (s : ByteArray) : RowB (Value.int .u8) 5 (Go.Lib.bytesWorld W 5 s) W.heap.size (Go.Lib.bytesCells W 5 s).size ((Go.Lib.bytesCells W 5 s).size, (Go.Lib.bytesCells W 5 s).size + 1) (bytesOf s) := by
 have hd : s.data.size = s.size := rfl
 refine ⟨_, Go.Lib.bytesWorld_at_new W 5 s, rfl, ?_, ?_, .inr (Nat.le_refl _)⟩
 ·rw [bytesOf_length]
  unfold Go.Lib.bytesCells
  simp only [Array.size_append, Array.size_map, Array.size_replicate]
  omega
 ·rw [bytesOf_length]
  unfold Go.Lib.bytesCells
  rw [Array.toList_append, Array.toList_map, List.take_left' (by rw [List.length_map, data_length])]
  simp only [bytesOf, List.map_map]
  rfl
set_option maxHeartbeats 8000000 in
set_option maxRecDepth 100000 in
theorem made_at (s : ByteArray) (A T : Nat) (hA : A ≤ 1) (hT : T ≤ 1) (hs : s.size ≤ 1000) (hsg : ∀ x ∈ bytesOf s, sgnR x = true) (hlen : (chG (bytesOf s) [] A T).length ≤ 1000000) (w : World) (hG : LaidG w) :
  Calls Tryz.prog 29 #[.string s, .int .i64 (A : Int), .int .i64 (T : Int)] w fun e w' => ∃ g c, e = .returned (.slice (some ⟨g, 0, none⟩) (madeL s A T).length c) ∧ RowB Value.string 9 w' g c (0, 0) (madeL s A T) ∧ c ≤ maxLen ∧ w.heap.size ≤ g ∧ Below w.heap.size w w' := by
 have eg : ∀ args w, (callFunc 39 args).run Tryz.prog w = .ok (.enter 39 args) w := enters_of Tryz.func39 (by kernel_rfl) rfl
 have HH := Aside0.mk (And.intro hsg (And.intro hlen hG))
 clear hsg hlen hG
 have hst : ∀ o1 o2 o3 : Obj, (store ⟨w.heap.size + 1 + 1 + 1, 0, none⟩ (.func (.func 39) #[] #[.pointer (some ⟨w.heap.size + 1 + 1, 0, none⟩), .pointer (some ⟨w.heap.size, 0, none⟩), .pointer (some ⟨w.heap.size + 1 + 1 + 1, 0, none⟩)])).run Tryz.prog ((((w.alloc o1).alloc o2).alloc o3).alloc (.cells #[.nilFunc] 53)) = .ok () (((((w.alloc o1).alloc o2).alloc o3).alloc (.cells #[.nilFunc] 53)).setCell ⟨w.heap.size + 1 + 1 + 1, 0, none⟩ (.func (.func 39) #[] #[.pointer (some ⟨w.heap.size + 1 + 1, 0, none⟩), .pointer (some ⟨w.heap.size, 0, none⟩), .pointer (some ⟨w.heap.size + 1 + 1 + 1, 0, none⟩)])) := fun o1 o2 o3 => by
  have hs : (((w.alloc o1).alloc o2).alloc o3).heap.size = w.heap.size + 1 + 1 + 1 := by simp
  have hb := blk_new (((w.alloc o1).alloc o2).alloc o3) (.cells #[.nilFunc] 53)
  rw [hs] at hb
  rw [run_store _ _ _ _ _ rfl, blk_cell hb 0, blk_frozen hb 0]
  rfl
 go_enter Tryz.func29, Tryz.ntmps29
 go_upto_region 4 with (fail)
 obtain ⟨W, hW⟩ : ∃ W, W = (((w.alloc (.cells #[.string s] 9)).alloc (.cells #[] 9)).alloc (.cells #[.slice (some ⟨w.heap.size + 1, 0, none⟩) 0 0] 22)).alloc (.cells #[.func (.func 39) #[] #[.pointer (some ⟨w.heap.size + 1 + 1, 0, none⟩), .pointer (some ⟨w.heap.size, 0, none⟩), .pointer (some ⟨w.heap.size + 1 + 1 + 1, 0, none⟩)]] 53) := ⟨_, rfl⟩
 rw [← hW]
 have hstart := made_start w s W hW
 clear hst hW
 obtain ⟨hB, hS, hsz⟩ := hstart
 have kc := Go.Lib.run_convert_string_bytes (P := Tryz.prog) W 9 43 5 s Tryz.underlying9 Tryz.underlying43 Tryz.underlying5
 have hc1 := hS.1
 have hc2 := hS.2.2.1
 have hrow := bytes_row W s
 have hbw : Below W.heap.size W (Go.Lib.bytesWorld W 5 s) := ⟨rfl, rfl, rfl, by rw [Go.Lib.bytesWorld_size]; omega, fun i hi => Go.Lib.bytesWorld_at_old W 5 s i (by omega)⟩
 have hcall := change_at w w.heap.size (w.heap.size + 1 + 1) (w.heap.size + 1 + 1 + 1) s HH.out.2.2 (by omega) (by omega) (by omega) hs HH.out.1 (A + T) 0 A T (bytesOf s) W.heap.size _ (grownCap W s.size 0 5) _ _ [] _ (Nat.le_refl _) hA hT (Nat.zero_le _) hrow (bytesOf_length s) rfl (by omega) (by simp only [Value.ownBlock]; intro he; have := Option.some.inj he; omega) (hS.below hbw) (hB.trans (hbw.mono hB.size)) (by simpa using HH.out.2.1)
 simp only [List.drop_zero, List.take_zero, List.nil_append] at hcall
 rw [show ((0 : Nat) : Int) = 0 from rfl] at hcall
 have HC := Aside0.mk hcall
 have HSZ := Aside0.mk hsz
 clear hcall hrow hbw hS hB hsz
 go_upto_region 5 with (go_at_fn 39; (with_reducible refine HC.out.mono ?_); rintro e w1 ⟨rfl, hI⟩)
 obtain ⟨v, ys, hS, hB, _, _, hys⟩ := hI
 rw [List.map_nil, List.append_nil] at hys
 have hnl := hS.2.2.2.2
 have hvs := hS.2.1
 have hrw : ∃ g c, v = .slice (some ⟨g, 0, none⟩) ys.length c ∧ RowB Value.string 9 w1 g c (0, 0) ys ∧ w.heap.size ≤ g ∧ c ≤ maxLen := by
  obtain ⟨A1, c1, rfl⟩ := Kd.R_slice hS.2.2.2.1
  have ho := Kd.own_of_R hS.2.2.2.1
  rcases ho.2 with ⟨hv, _⟩ | ⟨g', cap, cur, hv, hb, hh, hl', hm, hc, ht⟩
  ·rw [hv] at hnl
   exact absurd rfl hnl
  ·injection hv with ha hb' hc'
   subst ha; subst hc'
   exact ⟨g', c1, rfl, ⟨cur, hh, by omega, hl', by simpa [encs] using ht, .inl rfl⟩, hb, hm⟩
 obtain ⟨g, c, rfl, hrow, hg, hcm⟩ := hrw
 have hgo : g ≠ w.heap.size + 1 + 1 := fun he => by subst he; exact (hS.2.2.2.1.1 _ rfl).2.1 rfl
 obtain ⟨ss, hss⟩ : ∃ ss, ss = ys.map (fun b => b.data.toList) := ⟨_, rfl⟩
 have hyl : ys.length = ss.length := by rw [hss, List.length_map]
 have henc : ys.map Value.string = ss.map Go.Proofs.encStr := by rw [hss, List.map_map]; exact List.map_congr_left (fun b _ => rfl)
 obtain ⟨cur, h1, h2, h3, h4, _⟩ := hrow
 rw [hyl, henc] at h4
 rw [hyl] at h3 hvs
 have hlen2 : ss.length ≤ 1000000 := by rw [← hyl, hys, List.length_map]; exact HH.out.2.1
 have hsort : Calls Tryz.prog 42 #[.slice (some ⟨g, 0, none⟩) ss.length c] w1 fun e w' => e = .returned (.tuple #[]) ∧ ∃ n os, w' = Go.Sort.grow (Go.Sort.putRow Go.Proofs.encStr (Go.Sort.ahead w1 n) g 0 (ss.mergeSort fun x y => decide (x ≤ y)).toArray) os := Any.slices_Sort_string Tryz.lays190 g 0 c ss w1 (holds_of_block h1 h4) (blk_lt h1) (by omega)
 have HSo := Aside0.mk hsort
 have hls : (ss.mergeSort fun x y => decide (x ≤ y)).length = ss.length := by simp
 have hres : madeL s A T = (ss.mergeSort fun x y => decide (x ≤ y)).map fun l => ⟨l.toArray⟩ := by rw [hss, hys]; rfl
 have HV := Aside0.mk hvs
 have HQ := Aside0.mk (And.intro hB (And.intro h1 (And.intro h2 (And.intro h3 (And.intro hls hres)))))
 have hvc := blk_cell hvs 0
 clear hS hB hys hnl h1 h2 h3 h4 hsort hls hres hyl henc hss HC hvs
 go_wp2_with (go_at_call 42; (with_reducible refine HSo.out.mono ?_); rintro e w2 ⟨rfl, nn, os, rfl⟩; have hgr := grownBy_sorted (w := w1) (g := g) (n := nn) (os := os) (ss.mergeSort fun x y => decide (x ≤ y)).toArray; have hv2 := blk_cell (blk_grown HV.out hgr (fun he => hgo (Option.some.inj he).symm)) 0; have hhs := heap_sorted (n := nn) (os := os) (ss.mergeSort fun x y => decide (x ≤ y)).toArray HQ.out.2.1; generalize Go.Sort.grow (Go.Sort.putRow Go.Proofs.encStr (Go.Sort.ahead w1 nn) g 0 (ss.mergeSort fun x y => decide (x ≤ y)).toArray) os = w2 at *)
 go_ret
 obtain ⟨hB, h1, h2, h3, hls, hres⟩ := HQ.out
 have hml : (madeL s A T).length = ss.length := by rw [hres, List.length_map, hls]
 refine ⟨g, c, by rw [hml]; rfl, ?_, hcm, hg, below_sorted hB hgr hg⟩
 refine ⟨_, hhs, by rw [← h2]; simp [Go.Sort.putCells], by rw [hml]; exact h3, ?_, .inl rfl⟩
 rw [hml, ← hls, take_putCells _ _ (by rw [hls, h2]; exact h3), hres, List.map_map]
 exact List.map_congr_left (fun b _ => rfl)
/-! ### impl_repairs_eight: the repairs -/
/-- The texts that are kept. -/
def keepTs (k : Nat) (b : Bool) : List ByteArray → Option (List ByteArray)
 | [] => some []
 | x :: xs => (impl_isTrue.f k x).bind fun t => (keepTs k b xs).bind fun r => some (if t = b then x :: r else r)
def dropTs (k : Nat) (b : Bool) (x : ByteArray) : Bool := (impl_isTrue.f k x).getD false != b
theorem keepTs_is (k : Nat) (b : Bool) : ∀ (l r : List ByteArray), keepTs k b l = some r → (∀ x ∈ l, ∃ t, impl_isTrue.f k x = some t) ∧ r = l.filter fun x => !dropTs k b x
 | [], r, h => by
  obtain rfl := Option.some.inj h
  exact ⟨fun x hx => (List.not_mem_nil hx).elim, rfl⟩
 | x :: xs, r, h => by
  simp only [keepTs] at h
  obtain ⟨t, ht, h⟩ := Option.bind_eq_some_iff.1 h
  obtain ⟨r', hr, h⟩ := Option.bind_eq_some_iff.1 h
  obtain rfl := Option.some.inj h
  obtain ⟨h1, h2⟩ := keepTs_is k b xs r' hr
  refine ⟨fun y hy => ?_, ?_⟩
  ·rcases List.mem_cons.1 hy with rfl | hy
   ·exact ⟨t, ht⟩
   ·exact h1 y hy
  ·rw [List.filter_cons, ← h2]
   have : dropTs k b x = (t != b) := by unfold dropTs; rw [ht]; rfl
   rw [this]
   by_cases hb : t = b
   ·subst hb; simp
   ·have hb' : (t != b) = true := bne_iff_ne.2 hb
    simp [hb, hb']
theorem keepTs_mono (b : Bool) : ∀ (l : List ByteArray) (k : Nat), LeO (keepTs k b l) (keepTs (k + 1) b l)
 | [], _ => LeO.refl _
 | x :: xs, k => by
  simp only [keepTs]
  exact LeO.bind (impl_isTrue.mono x k) (fun _ => LeO.bind (keepTs_mono b xs k) (fun _ => LeO.refl _))
/-- What is asked: one match at most is added, and one taken. -/
def okR (a0 : ByteArray) (a1 a2 : Int) : Prop := (0 ≤ a1 ∧ a1 ≤ 1 ∧ 0 ≤ a2 ∧ a2 ≤ 1) ∧ a0.size ≤ 1000 ∧ (bytesOf a0).all sgnR = true ∧ (chG (bytesOf a0) [] a1.toNat a2.toNat).length ≤ 1000000
instance (a0 : ByteArray) (a1 a2 : Int) : Decidable (okR a0 a1 a2) := by unfold okR; infer_instance
def impl_repairs.f (k : Nat) (a0 : ByteArray) (a1 a2 : Int) (a3 : Bool) : Option (List ByteArray × Bool) :=
 (impl_IsEquation.f a0).bind fun t => if t = true then (if okR a0 a1 a2 then (keepTs k a3 (madeL a0 a1.toNat a2.toNat)).bind fun r => some (r, true) else none) else some ([], false)
theorem impl_repairs.mono : ∀ a0 a1 a2 a3 k, LeO (impl_repairs.f k a0 a1 a2 a3) (impl_repairs.f (k + 1) a0 a1 a2 a3) := by
 intro a0 a1 a2 a3 k
 unfold impl_repairs.f
 refine LeO.bind (LeO.refl _) (fun t => ?_)
 refine LeO.ite ?_ (LeO.refl _)
 refine LeO.ite ?_ (LeO.none _)
 exact LeO.bind (keepTs_mono a3 _ k) (fun _ => LeO.refl _)
set_option maxHeartbeats 8000000 in
set_option maxRecDepth 100000 in
theorem keep_at (k : Nat) (t : ByteArray) (b r : Bool) (gb : Nat) (w : World) (hc : w.cell? ⟨gb, 0, none⟩ = some (.bool b)) (h : impl_isTrue.f k t = some r) :
  Calls Tryz.prog 30 #[.string t, .pointer (some ⟨gb, 0, none⟩)] w fun e w' => e = .returned (.bool (r != b)) ∧ Below w.heap.size w w' := by
 have HC := Aside0.mk hc
 have HT := Aside0.mk h
 clear hc h
 go_enter Tryz.func30, Tryz.ntmps30
 go_wp2
 refine wp_region_quietC (fun w' => Below w.heap.size w w' ∧ w'.cell? ⟨gb, 0, none⟩ = some (.bool b)) (by kernel_rfl) (by kernel_rfl) ⟨below_drew (Below.refl _ _), cell_keepP HC.out (below_drew (Below.refl _ _))⟩ ?_
 refine quiet_take (.string t) (by kernel_rfl) (fun W hW => by go_simp) ?_
 simp only [Act.put, List.setIfInBounds_toArray, List.set_cons_zero, List.set_cons_succ]
 refine quiet_take (.bool r) (by kernel_rfl) (fun W hW => by go_simp; exact (impl_isTrue.calls k t r W HT.out).mono fun e w1 h1 => ⟨h1.1, hW.1.trans (h1.2.mono hW.1.size), cell_keepP hW.2 h1.2⟩) ?_
 simp only [Act.put, List.setIfInBounds_toArray, List.set_cons_zero, List.set_cons_succ]
 refine quiet_take (.bool b) (by kernel_rfl) (fun W hW => by obtain ⟨h0, h1⟩ := hW; go_simp) ?_
 simp only [Act.put, List.setIfInBounds_toArray, List.set_cons_zero, List.set_cons_succ]
 refine quiet_take (.bool (r != b)) (by kernel_rfl) (fun W hW => by go_simp; simp [bne]) ?_
 simp only [Act.put, List.setIfInBounds_toArray, List.set_cons_zero, List.set_cons_succ]
 refine quiet_take (.bool (r != b)) (by kernel_rfl) (fun W hW => by go_simp) ?_
 simp only [Act.put, List.setIfInBounds_toArray, List.set_cons_zero, List.set_cons_succ]
 refine wpQuiet_nil ?_
 intro w1 hS1
 go_wp2
 go_ret
 exact ⟨rfl, hS1.1⟩
set_option maxHeartbeats 8000000 in
set_option maxRecDepth 100000 in
theorem impl_repairs.calls (k : Nat) (a0 : ByteArray) (a1 : Int) (a2 : Int) (a3 : Bool) (r1 : List ByteArray) (r2 : Bool) (w : World) (hG : LaidG w) (h : impl_repairs.f k a0 a1 a2 a3 = some (r1, r2)) :
  Calls Tryz.prog 19 #[.string a0, .int .i64 a1, .int .i64 a2, .bool a3] w fun e w' => ∃ v0_ : Value, e = .returned (.tuple #[v0_, .bool r2]) ∧ Kd.R Kd.string 9 w' w.heap.size (fun _ => True) v0_ r1 ∧ Below w.heap.size w w' := by
 unfold impl_repairs.f at h
 obtain ⟨t, ht, h⟩ := Option.bind_eq_some_iff.mp h
 have hIE := fun W => impl_IsEquation.calls a0 t W ht
 have HIE := Aside0.mk hIE
 have HG := Aside0.mk hG
 clear hIE ht hG
 cases t with
 | false =>
  rw [if_neg (by decide)] at h
  obtain ⟨rfl, rfl⟩ := Prod.mk.inj (Option.some.inj h)
  clear h
  go_enter Tryz.func19, Tryz.ntmps19
  go_wp2_with (go_at_call 27; refine (HIE.out _).mono ?_; rintro e w1 ⟨rfl, hb⟩)
  go_ret2
  exact ⟨_, rfl, Kd.R_nil _ _ _ _ _, (below_alloc (Below.refl _ _) _).trans (hb.mono (by simp))⟩
 | true =>
  rw [if_pos rfl] at h
  by_cases hok : okR a0 a1 a2
  ·rw [if_pos hok] at h
   obtain ⟨l, hk, h⟩ := Option.bind_eq_some_iff.mp h
   obtain ⟨rfl, rfl⟩ := Prod.mk.inj (Option.some.inj h)
   clear h
   obtain ⟨⟨p1, p2, p3, p4⟩, hsz, hsg, hlen⟩ := hok
   obtain ⟨A, rfl⟩ := Int.eq_ofNat_of_zero_le p1
   obtain ⟨T, rfl⟩ := Int.eq_ofNat_of_zero_le p3
   simp only [Int.toNat_natCast] at hlen hk
   obtain ⟨h1, rfl⟩ := keepTs_is k a3 _ l hk
   clear hk
   have hmade := fun W hW => made_at a0 A T (by omega) (by omega) hsz (fun x hx => List.all_eq_true.1 hsg x hx) hlen W hW
   have hml : (madeL a0 A T).length ≤ 1000000 := by rw [madeL_len]; exact hlen
   have HM := Aside0.mk hmade
   generalize madeL a0 A T = L at *
   have H1 := Aside0.mk h1
   clear hmade h1 hlen hsg
   have b0 := blk_new w (.cells #[.bool a3] 4)
   have HB0 := Aside0.mk b0
   clear b0
   go_enter Tryz.func19, Tryz.ntmps19
   go_upto_region 3 with (go_at_call 27; refine (HIE.out _).mono ?_; rintro e w1 ⟨rfl, hb⟩)
   have hb1 : Below w.heap.size w w1 := (below_alloc (Below.refl _ _) _).trans (hb.mono (by simp))
   have hc1 : w1.cell? ⟨w.heap.size, 0, none⟩ = some (.bool a3) := blk_cell (blk_below HB0.out hb) 0
   have hw1 : w.heap.size < w1.heap.size := Nat.lt_of_lt_of_le (by simp) hb.size
   have HX := Aside0.mk (And.intro hb1 hc1)
   clear hb1 hc1 hb
   have HD : Aside0 (∀ (w2 : World) (g c : Nat), RowB Value.string 9 w2 g c (0, 0) L → w1.heap.size ≤ g → Below w1.heap.size w1 w2 → Calls Tryz.prog 28 #[.slice (some ⟨g, 0, none⟩) L.length c, .func (.func 30) #[] #[.pointer (some ⟨w.heap.size, 0, none⟩)]] w2 fun e w' => e = .returned (.slice (some ⟨g, 0, none⟩) (L.filter (fun x => !dropTs k a3 x)).length c) ∧ RowB Value.string 9 w' g c (0, 0) (L.filter (fun x => !dropTs k a3 x)) ∧ Below (w.heap.size + 1) w2 w') := ⟨fun w2 g c hr2 hg2 hb2 => by
    refine DeleteFuncT #[.pointer (some ⟨w.heap.size, 0, none⟩)] (dropTs k a3) (fun W => W.cell? ⟨w.heap.size, 0, none⟩ = some (.bool a3)) (w.heap.size + 1) w2 g c (0, 0) L hml hr2 (Nat.le_trans hw1 hg2) (cell_keepP HX.out.2 hb2) ?_ ?_ ?_
    ·exact fun W W' h hb => cell_keepP h hb
    ·intro W i v h
     have hf := Below.heap_setCell W ⟨g, i, none⟩ v w.heap.size (by show w.heap.size ≠ g; omega)
     exact (World.cell?_of_block hf).trans h
    ·intro x hx W hW
     obtain ⟨t, ht⟩ := H1.out x hx
     have h := keep_at k x a3 t w.heap.size W hW ht
     have e : dropTs k a3 x = (t != a3) := by unfold dropTs; rw [ht]; rfl
     rw [e]
     exact h⟩
   go_wp2_with (first
    | (go_at_call 29; (with_reducible refine (HM.out _ (LaidG_below HG.out HX.out.1)).mono ?_); rintro e w2 ⟨g, c, rfl, hr2, hcm, hg2, hb2⟩; have HR2 := Aside0.mk (And.intro hr2 (And.intro hg2 hb2)); clear hr2 hg2 hb2)
    | (go_at_call 28; (with_reducible refine (HD.out w2 g c HR2.out.1 HR2.out.2.1 HR2.out.2.2).mono ?_); rintro e w3 ⟨rfl, hr3, hb3⟩))
   go_ret2
   have hg := HR2.out.2.1
   refine ⟨_, rfl, hr3.to_R (by omega) hcm, (HX.out.1.trans (HR2.out.2.2.mono (by omega))).trans (hb3.mono (by omega))⟩
  ·rw [if_neg hok] at h; cases h

end Go.Proofs.YtmjlmmfhcabnfaaGreatDoor.Q
