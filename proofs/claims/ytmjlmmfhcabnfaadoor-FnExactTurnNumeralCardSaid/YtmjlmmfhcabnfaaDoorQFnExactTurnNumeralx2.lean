-- written by a program of this session, pm.py, for this claim
-- half the indentation
import Derived.Test.YtmjlmmfhcabnfaaDoorQFnExactTurnNumeralx0
import Derived.Test.YtmjlmmfhcabnfaaDoorQFnExactTurnNumeralx1
namespace Go.Proofs.YtmjlmmfhcabnfaaDoor.Q
open Go.RowKit Go.Proofs.YtmjlmmfhcabnfaaDoorW.PrintWords Go.Proofs.YtmjlmmfhcabnfaaDoorW.PrintLast Go.Proofs.YtmjlmmfhcabnfaaDoorW.PrintMore
attribute [local go_sem] max2_int min2_int max_two min_two max_three min_three max_four min_four   -- for this text's walks alone
set_option linter.unusedVariables false
set_option linter.unusedSimpArgs false

/-! ### impl_TurnNumeral: function 5 -/
/-- A row of one-cell elements in a block, whatever the block's mark. -/
def RowB {α : Type} (enc : α → Value) (e : Nat) (W : World) (g c : Nat) (m : Nat × Nat) (xs : List α) : Prop := ∃ cur, W.heap[g]? = some (.cells cur e m) ∧ cur.size = c ∧ xs.length ≤ c ∧ cur.toList.take xs.length = xs.map enc ∧ (m = (0, 0) ∨ c ≤ m.1)
section
variable {α : Type} {enc : α → Value} {e g c : Nat} {m : Nat × Nat} {xs : List α} {W W1 : World}
theorem RowB.block (h : RowB enc e W g c m xs) (hb : W1.heap[g]? = W.heap[g]?) : RowB enc e W1 g c m xs := by
 obtain ⟨cur, h1, r⟩ := h
 exact ⟨cur, hb.trans h1, r⟩
theorem RowB.lt (h : RowB enc e W g c m xs) : g < W.heap.size := by
 obtain ⟨cur, h1, _⟩ := h
 exact (Array.getElem?_eq_some_iff.1 h1).1
theorem RowB.below (h : RowB enc e W g c m xs) (hb : Below W.heap.size W W1) : RowB enc e W1 g c m xs := h.block (hb.block g h.lt)
theorem RowB.len (h : RowB enc e W g c m xs) : xs.length ≤ c := by
 obtain ⟨_, _, _, h3, _⟩ := h
 exact h3
theorem RowB.cell (h : RowB enc e W g c m xs) {j : Nat} (hj : j < xs.length) : W.cell? ⟨g, j, none⟩ = some (enc xs[j]) := by
 obtain ⟨cur, h1, h2, h3, h4, _⟩ := h
 rw [cell_of_row W g j cur e m h1]
 have h5 : cur.toList[j]? = (cur.toList.take xs.length)[j]? := by rw [List.getElem?_take_of_lt hj]
 rw [← Array.getElem?_toList, h5, h4]
 simp [hj]
theorem RowB.there (h : RowB enc e W g c m xs) {j : Nat} (hj : j < c) : (W.cell? ⟨g, j, none⟩).isSome = true := by
 obtain ⟨cur, h1, h2, _⟩ := h
 rw [cell_of_row W g j cur e m h1]
 simp
 omega
theorem RowB.soft (h : RowB enc e W g c m xs) {j : Nat} (hj : j < c) : W.frozen? ⟨g, j, none⟩ = false := by
 obtain ⟨cur, h1, h2, h3, h4, h5⟩ := h
 obtain ⟨lo, hi⟩ := m
 simp only [World.frozen?, h1]
 rcases h5 with h5 | h5
 ·injection h5 with h6 h7
  subst h6; subst h7
  simp
 ·have : ¬ lo ≤ j := by show ¬ lo ≤ j; have h6 : c ≤ lo := h5; omega
  simp [this]
theorem RowB.put (h : RowB enc e W g c m xs) (j : Nat) (x : α) : RowB enc e (W.setCell ⟨g, j, none⟩ (enc x)) g c m (xs.set j x) := by
 obtain ⟨cur, h1, h2, h3, h4, h5⟩ := h
 refine ⟨cur.setIfInBounds j (enc x), ?_, by simpa using h2, by simpa using h3, ?_, h5⟩
 ·simp [World.setCell, Array.getElem?_modify, h1]
 ·rw [Array.toList_setIfInBounds, List.length_set, List.take_set, h4, List.map_set]
theorem RowB.far (h : RowB enc e W g c m xs) {j : Nat} (hj : xs.length ≤ j) (v : Value) : RowB enc e (W.setCell ⟨g, j, none⟩ v) g c m xs := by
 obtain ⟨cur, h1, h2, h3, h4, h5⟩ := h
 refine ⟨cur.setIfInBounds j v, ?_, by simpa using h2, h3, ?_, h5⟩
 ·simp [World.setCell, Array.getElem?_modify, h1]
 ·rw [Array.toList_setIfInBounds, List.take_set_of_le hj, h4]
theorem RowB.take (h : RowB enc e W g c m xs) {i : Nat} (hi : i ≤ xs.length) : RowB enc e W g c m (xs.take i) := by
 obtain ⟨cur, h1, h2, h3, h4, h5⟩ := h
 refine ⟨cur, h1, h2, by rw [List.length_take]; omega, ?_, h5⟩
 have := congrArg (List.take i) h4
 rw [List.take_take, Nat.min_eq_left hi, ← List.map_take] at this
 rw [List.length_take, Nat.min_eq_left hi]
 exact this
theorem RowB.over (i : Nat) : ∀ (seg : List Value) (o : Nat) (W : World), RowB enc e W g c m xs → xs.length ≤ o → RowB enc e (W.setCells g o seg) g c m xs
 | [], _, _, h, _ => h
 | v :: r, o, W, h, ho => RowB.over i r (o + 1) _ (h.far ho v) (by omega)
theorem RowB.of_R {h1 : ∀ x, (enc x).oneCell' = true} {base n : Nat} {ok : Nat → Prop} (h : (Kd.scalar enc h1).R e W base ok (.slice (some ⟨g, 0, none⟩) n c) xs) : RowB enc e W g c (0, 0) xs ∧ base ≤ g ∧ c ≤ maxLen ∧ n = xs.length := by
 have hn := (Kd.R_reads' h).1
 subst hn
 have ho := Kd.own_of_R h
 rcases ho.2 with ⟨hv, _⟩ | ⟨g', cap, cur, hv, hb, hh, hl, hm, hc, ht⟩
 ·cases hv
 ·injection hv with ha _ hc'
  injection ha with ha
  injection ha with hg'
  subst hg'; subst hc'
  exact ⟨⟨cur, hh, by omega, hl, by simpa [encs] using ht, .inl rfl⟩, hb, hm, rfl⟩
theorem RowB.to_R {h1 : ∀ x, (enc x).oneCell' = true} {base : Nat} (h : RowB enc e W g c (0, 0) xs) (hb : base ≤ g) (hm : c ≤ maxLen) : (Kd.scalar enc h1).R e W base (fun _ => True) (.slice (some ⟨g, 0, none⟩) xs.length c) xs := by
 obtain ⟨cur, a1, a2, a3, a4, _⟩ := h
 exact Kd.R_of_own ⟨by simp [encs], .inr ⟨g, c, cur, rfl, hb, a1, a3, hm, by omega, by simpa [encs] using a4⟩⟩ (fun _ _ => trivial)
end
/-- clear at elements of several cells. -/
theorem run_clear_k {P : Program} (w : World) (t e ty : TypeId) (z : Value) (ht : P.underlying t = some (.slice e)) (hv : ∀ w, (zeroValue e).run P w = .ok z w) (b o n c : Nat) (hn : 0 < n) (h1 : ∀ v ∈ (Builtin.zeroCells z.cells n).toList, v.oneCell' = true)
  (hc : ∀ j, j < (Builtin.zeroCells z.cells n).toList.length → (w.cell? ⟨b, o + j, none⟩).isSome = true) (hf : ∀ j, j < (Builtin.zeroCells z.cells n).toList.length → w.frozen? ⟨b, o + j, none⟩ = false) :
  (Builtin.clear_ #[t] ty #[.slice (some ⟨b, o, none⟩) n c]).run P w = .ok (.tuple #[]) (w.setCells b o (Builtin.zeroCells z.cells n).toList) := by
 have hst := run_storeCells_cells (P := P) b o (Builtin.zeroCells z.cells n).toList 0 w (by simpa using hc) (by simpa using hf) h1
 simp only [Nat.add_zero] at hst
 obtain ⟨m, rfl⟩ : ∃ m, n = m + 1 := ⟨n - 1, by omega⟩
 simp [Builtin.clear_, run_underlying ht, hv, hst]
theorem below_setCells {B g : Nat} {w W : World} (h : Below B w W) (hg : B ≤ g) : ∀ (vs : List Value) (o : Nat), Below B w (W.setCells g o vs) := by
 intro vs
 induction vs generalizing W with
 | nil => intro o; exact h
 | cons v r ih => intro o; exact ih (h.setCell (p := ⟨g, o, none⟩) hg v) (o + 1)
/-! ### impl_TurnNumeral_one: the lock, the calls put off -/
theorem once_disable (w : World) : (callFunc 54 #[]).run Tryd.prog w = .ok (.value (.tuple #[])) w := run_call_mark0 Tryd.func54 (by kernel_rfl) (by kernel_rfl) (by kernel_rfl) .disable (by kernel_rfl) w
theorem once_enable (w : World) : (callFunc 56 #[]).run Tryd.prog w = .ok (.value (.tuple #[])) w := run_call_mark0 Tryd.func56 (by kernel_rfl) (by kernel_rfl) (by kernel_rfl) .enable (by kernel_rfl) w
theorem once_acquire (a : Addr) (w : World) : (callFunc 57 #[.pointer (some a)]).run Tryd.prog w = .ok (.value (.tuple #[])) w := run_call_marked Tryd.func57 (by kernel_rfl) (by kernel_rfl) (by kernel_rfl) .acquire (by kernel_rfl) a w
theorem once_release (a : Addr) (w : World) : (callFunc 59 #[.pointer (some a)]).run Tryd.prog w = .ok (.value (.tuple #[])) w := run_call_marked Tryd.func59 (by kernel_rfl) (by kernel_rfl) (by kernel_rfl) .releaseMerge (by kernel_rfl) a w
theorem once_store (a : Addr) (x : Value) (u : FrameMode) (w : World) (hc : w.cell? a = some x) (hz : w.frozen? a = false) :
  CallsD Tryd.prog 41 #[.pointer (some a), .bool true] u w fun e u' w' => u' = u ∧ (e = .returned (.tuple #[]) ∧ w' = w.drew.setCell a (.int .u32 1)) := by
 have hc' : w.drew.cell? a = some x := by go_simp
 have hz' : w.drew.frozen? a = false := by go_simp
 have hst := run_call_store (P := Tryd.prog) Tryd.func49 (by kernel_rfl) (by kernel_rfl) (by kernel_rfl) (by kernel_rfl) (k := .u32) (y := 1) hc' hz'
 go_enter_d Tryd.func41, Tryd.ntmps41
 go_wp2
 go_region_calls
 all_goals (go_end0; exact ⟨rfl, rfl⟩)
set_option maxRecDepth 100000 in
theorem once_unlock (a : Addr) (u : FrameMode) (w : World) (hc : w.cell? a = some (.int .i32 1)) (hz : w.frozen? a = false) :
  CallsD Tryd.prog 40 #[.pointer (some a)] u w fun e u' w' => u' = u ∧ (e = .returned (.tuple #[]) ∧ w' = w.setCell a (.int .i32 0)) := by
 have hd := once_disable
 have he := once_enable
 have hr := once_release
 have hadd := run_call_add (P := Tryd.prog) Tryd.func60 (by kernel_rfl) (by kernel_rfl) (by kernel_rfl) .i32 (by kernel_rfl) (y := -1) (s := 0) hc hz (by simp [go_sem]; rfl)
 have hcv := run_convert_to_unsafe (P := Tryd.prog) (src := 105) (dst := 109) Tryd.underlying105 Tryd.underlying109 (by kernel_rfl) hc
 go_enter_d Tryd.func40, Tryd.ntmps40
 go_wp2
 go_end0
 go_wp2
 go_end0
 exact ⟨rfl, rfl⟩
set_option maxRecDepth 100000 in
theorem once_lock (a : Addr) (w : World) (hc : w.cell? a = some (.int .i32 0)) (hz : w.frozen? a = false) :
  Calls Tryd.prog 39 #[.pointer (some a)] w fun e w' => e = .returned (.tuple #[]) ∧ w' = w.setCell a (.int .i32 1) := by
 have hd := once_disable
 have he := once_enable
 have ha := once_acquire
 have hcas := run_call_cas_hit (P := Tryd.prog) Tryd.func55 (by kernel_rfl) (by kernel_rfl) (by kernel_rfl) .i32 (by kernel_rfl) (y := 1) hc hz
 have hc' : (w.setCell a (.int .i32 1)).cell? a = some (.int .i32 1) := World.cell?_setCell_same w a _ hc
 have hcv := run_convert_to_unsafe (P := Tryd.prog) (src := 105) (dst := 109) Tryd.underlying105 Tryd.underlying109 (by kernel_rfl) hc'
 go_enter Tryd.func39, Tryd.ntmps39
 go_wp2
 first | go_end0 | (simp only [Exit.inBlock, Exit.then]; refine bodyPost_ret (results_none rfl _ _ _) rfl ?_) | refine bodyPost_ret (results_none rfl _ _ _) rfl ?_
 go_wp2
 go_end0
 exact ⟨rfl, rfl⟩
/-! ### impl_TurnNumeral_two: sync.Once, not yet done -/
set_option maxRecDepth 100000 in
theorem once_load (a : Addr) (w : World) (hc : w.cell? a = some (.int .u32 0)) : Calls Tryd.prog 28 #[.pointer (some a)] w fun e w' => e = .returned (.bool false) ∧ w' = w := by
 have hl := run_call_load (P := Tryd.prog) Tryd.func38 (by kernel_rfl) (by kernel_rfl) (by kernel_rfl) .u32 (by kernel_rfl) (w := w) (a := a) (x := 0) hc
 go_enter Tryd.func28, Tryd.ntmps28
 go_wp2
 go_ret
 exact ⟨rfl, rfl⟩
set_option maxRecDepth 100000 in
set_option maxHeartbeats 8000000 in
theorem once_slow (b : Nat) (w : World) (Post : World → Prop) (h0 : w.cell? ⟨b, 0, none⟩ = some (.int .u32 0)) (h1 : w.cell? ⟨b, 1, none⟩ = some (.int .i32 0)) (f1 : w.frozen? ⟨b, 1, none⟩ = false)
  (hF : Calls Tryd.prog 17 #[.pointer (some ⟨b, 0, none⟩)] (w.setCell ⟨b, 1, none⟩ (.int .i32 1)) fun e w' => e = .returned (.tuple #[]) ∧ Post w')
  (hP : ∀ w', Post w' → w'.cell? ⟨b, 0, none⟩ = some (.int .u32 0) ∧ w'.frozen? ⟨b, 0, none⟩ = false ∧ w'.cell? ⟨b, 1, none⟩ = some (.int .i32 1) ∧ w'.frozen? ⟨b, 1, none⟩ = false) :
  Calls Tryd.prog 29 #[.pointer (some ⟨b, 0, none⟩), .func (.func 17) #[.pointer (some ⟨b, 0, none⟩)] #[]] w fun e w'' => e = .returned (.tuple #[]) ∧ ∃ w', Post w' ∧ w'' = (w'.drew.setCell ⟨b, 0, none⟩ (.int .u32 1)).setCell ⟨b, 1, none⟩ (.int .i32 0) := by
 have eg : ∀ args w, (callFunc 17 args).run Tryd.prog w = .ok (.enter 17 args) w := enters_of Tryd.func17 (by kernel_rfl) rfl
 have hl := once_load ⟨b, 0, none⟩ (w.setCell ⟨b, 1, none⟩ (.int .i32 1)) ((World.cell?_setCell_other _ ⟨b, 1, none⟩ ⟨b, 0, none⟩ _ (by simp)).trans h0)
 have hnot : ∀ (x : Bool) (w : World), (Op.unary .not (.bool x)).run Tryd.prog w = .ok (.bool (!x)) w := fun _ _ => rfl
 have HF := Aside0.mk hF
 have HP := Aside0.mk hP
 clear hF hP
 go_enter_defers Tryd.func29, Tryd.ntmps29
 go_wp2_with (go_at_call 39; refine (once_lock ⟨b, 1, none⟩ _ (by go_simp) (by go_simp)).mono ?_; rintro e w' ⟨rfl, rfl⟩)
 have HL := Aside0.mk hl
 clear hl
 go_wp2_with (first | (go_at_call 28; (with_reducible refine HL.out.mono ?_); rintro e w' ⟨rfl, rfl⟩) | (go_at_fn 17; (with_reducible refine HF.out.mono ?_); rintro e w' ⟨rfl, hp⟩))
 obtain ⟨p0, q0, p1, q1⟩ := HP.out _ hp
 refine leaves_cons (f := 41) (args := #[.pointer (some ⟨b, 0, none⟩), .bool true]) (by simp) (by simp [go_sem]) ?_
 refine (once_store ⟨b, 0, none⟩ (.int .u32 0) .returning _ p0 q0).mono ?_
 rintro e u' w'' ⟨rfl, rfl, rfl⟩
 refine leaves_cons (f := 40) (args := #[.pointer (some ⟨b, 1, none⟩)]) (by simp [settle]) (by simp [go_sem]) ?_
 refine (once_unlock ⟨b, 1, none⟩ _ _ ?_ (by simp [q1])).mono ?_
 ·exact (World.cell?_setCell_other _ ⟨b, 0, none⟩ ⟨b, 1, none⟩ _ (by simp)).trans p1
 rintro e u' w'' ⟨rfl, rfl, rfl⟩
 have hex : ∃ w0, Post w0 ∧ (w'.drew.setCell ⟨b, 0, none⟩ (.int .u32 1)).setCell ⟨b, 1, none⟩ (.int .i32 0) = (w0.drew.setCell ⟨b, 0, none⟩ (.int .u32 1)).setCell ⟨b, 1, none⟩ (.int .i32 0) := ⟨w', hp, rfl⟩
 simpa [Leaves, settle, results, Tryd.results29] using hex
set_option maxRecDepth 100000 in
set_option maxHeartbeats 8000000 in
theorem once_do (b : Nat) (w : World) (Post : World → Prop) (h0 : w.cell? ⟨b, 0, none⟩ = some (.int .u32 0)) (h1 : w.cell? ⟨b, 1, none⟩ = some (.int .i32 0)) (f1 : w.frozen? ⟨b, 1, none⟩ = false)
  (hF : Calls Tryd.prog 17 #[.pointer (some ⟨b, 0, none⟩)] (w.setCell ⟨b, 1, none⟩ (.int .i32 1)) fun e w' => e = .returned (.tuple #[]) ∧ Post w')
  (hP : ∀ w', Post w' → w'.cell? ⟨b, 0, none⟩ = some (.int .u32 0) ∧ w'.frozen? ⟨b, 0, none⟩ = false ∧ w'.cell? ⟨b, 1, none⟩ = some (.int .i32 1) ∧ w'.frozen? ⟨b, 1, none⟩ = false) :
  Calls Tryd.prog 16 #[.pointer (some ⟨b, 0, none⟩), .func (.func 17) #[.pointer (some ⟨b, 0, none⟩)] #[]] w fun e w'' => e = .returned (.tuple #[]) ∧ ∃ w', Post w' ∧ w'' = (w'.drew.setCell ⟨b, 0, none⟩ (.int .u32 1)).setCell ⟨b, 1, none⟩ (.int .i32 0) := by
 have hnot : ∀ (x : Bool) (w : World), (Op.unary .not (.bool x)).run Tryd.prog w = .ok (.bool (!x)) w := fun _ _ => rfl
 have HL := Aside0.mk (once_load ⟨b, 0, none⟩ w h0)
 have HS := Aside0.mk (once_slow b w Post h0 h1 f1 hF hP)
 clear hF hP
 go_enter Tryd.func16, Tryd.ntmps16
 go_wp2_with (first | (go_at_call 28; (with_reducible refine HL.out.mono ?_); rintro e w' ⟨rfl, rfl⟩) | (go_at_call 29; (with_reducible refine HS.out.mono ?_); rintro e w'' ⟨rfl, hex⟩))
 go_end0
 exact ⟨rfl, hex⟩
/-! ### impl_TurnNumeral_three: a text with its bytes turned by a table -/
theorem cell_keepP {wc w1 : World} {p : Addr} {v : Value} (h : wc.cell? p = some v) (hb : Below wc.heap.size wc w1) : w1.cell? p = some v := (hb.cell (World.block_lt_of_cell? _ _ h)).trans h
theorem bytes_row (W : World) (s : ByteArray) : RowB (Value.int .u8) 5 (Go.Lib.bytesWorld W 5 s) W.heap.size (Go.Lib.bytesCells W 5 s).size ((Go.Lib.bytesCells W 5 s).size, (Go.Lib.bytesCells W 5 s).size + 1) (bytesOf s) := by
 have hd : s.data.size = s.size := rfl
 refine ⟨_, Go.Lib.bytesWorld_at_new W 5 s, rfl, ?_, ?_, .inr (Nat.le_refl _)⟩
 ·rw [bytesOf_length]
  unfold Go.Lib.bytesCells
  simp only [Array.size_append, Array.size_map, Array.size_replicate]
  omega
 ·rw [bytesOf_length]
  unfold Go.Lib.bytesCells
  rw [Array.toList_append, Array.toList_map, List.take_left' (by rw [List.length_map, data_length])]
  simp only [bytesOf, List.map_map]
  rfl
theorem bytes_below (W : World) (s : ByteArray) : Below W.heap.size W (Go.Lib.bytesWorld W 5 s) := ⟨rfl, rfl, rfl, by rw [Go.Lib.bytesWorld_size]; omega, fun i hi => Go.Lib.bytesWorld_at_old W 5 s i (by omega)⟩
theorem RowB.reads {α : Type} {enc : α → Value} {h1 : ∀ x, (enc x).oneCell' = true} {e g c : Nat} {m : Nat × Nat} {xs : List α} {W : World} (d : α) (h : RowB enc e W g c m xs) (hl : xs.length ≤ 1000000) : (Kd.scalar enc h1).C W (some ⟨g, 0, none⟩) xs.length xs := by
 refine Kd.C_of_reads (d := d) ⟨rfl, by omega, fun _ => ⟨_, rfl, fun j hj => ?_⟩⟩
 have := h.cell hj
 rw [Addr.add_lit, Nat.zero_add, this]
 simp [List.getD_eq_getElem?_getD, hj]
/-- A table of 256 bytes. -/
def TabAt (r : Nat) (f : Nat → Int) (W : World) : Prop := ∀ j, j < 256 → W.cell? ⟨r, j, none⟩ = some (.int .u8 (f j))
theorem TabAt.below {r : Nat} {f : Nat → Int} {W W1 : World} (h : TabAt r f W) (hb : Below W.heap.size W W1) : TabAt r f W1 := fun j hj => cell_keepP (h j hj) hb
/-- The bytes turned. -/
def turnT (f : Nat → Int) (s : ByteArray) : List Int := (bytesOf s).map fun x => f x.toNat
theorem bt_drop (s : ByteArray) {i : Nat} (h : i < s.size) : ∃ hl : i < (bytesOf s).length, (bytesOf s)[i] = bt s (i : Int) := by
 have hl : i < (bytesOf s).length := by rw [bytesOf_length]; exact h
 refine ⟨hl, ?_⟩
 rw [← rd_bytesOf s (i : Int)]
 unfold rd
 simp [List.getD_eq_getElem?_getD, hl]
/-- What has come of the text at a place. -/
def midT (f : Nat → Int) (s : ByteArray) (i : Nat) : List Int := ((bytesOf s).take i).map (fun x => f x.toNat) ++ (bytesOf s).drop i
theorem midT_len (f : Nat → Int) (s : ByteArray) (i : Nat) : (midT f s i).length = s.size := by
 unfold midT
 rw [List.length_append, List.length_map, List.length_take, List.length_drop, bytesOf_length]
 omega
theorem midT_next (f : Nat → Int) (s : ByteArray) {i : Nat} (h : i < s.size) : midT f s (i + 1) = (midT f s i).set i (f (bt s (i : Int)).toNat) := by
 obtain ⟨hl, hb⟩ := bt_drop s h
 have ht : (((bytesOf s).take i).map (fun x => f x.toNat)).length = i := by rw [List.length_map, List.length_take]; omega
 unfold midT
 rw [List.take_succ_eq_append_getElem hl, hb, List.map_append, List.drop_eq_getElem_cons hl, List.set_append_right _ _ (by rw [ht]; exact Nat.le_refl _), ht, Nat.sub_self, List.set_cons_zero]
 simp
theorem midT_same (f : Nat → Int) (s : ByteArray) {i : Nat} (h : i < s.size) (hs : f (bt s (i : Int)).toNat = bt s (i : Int)) : midT f s (i + 1) = midT f s i := by
 obtain ⟨hl, hb⟩ := bt_drop s h
 unfold midT
 rw [List.take_succ_eq_append_getElem hl, hb, List.map_append, List.drop_eq_getElem_cons hl, hb]
 simp [hs]
theorem strOf_bytes (s : ByteArray) : strOfNums (bytesOf s) = s := by
 have e : (s.data.toList.map fun b : UInt8 => UInt8.ofNat ((b.toNat : Int)).toNat) = s.data.toList := by
  have : ∀ b ∈ s.data.toList, UInt8.ofNat ((b.toNat : Int)).toNat = b := fun b _ => by rw [Int.toNat_natCast, UInt8.ofNat_toNat]
  calc (s.data.toList.map fun b : UInt8 => UInt8.ofNat ((b.toNat : Int)).toNat) = s.data.toList.map id := List.map_congr_left this
   _ = s.data.toList := List.map_id _
 apply ByteArray.ext
 unfold strOfNums bytesOf
 rw [List.map_map]
 show (s.data.toList.map fun b : UInt8 => UInt8.ofNat ((b.toNat : Int)).toNat).toArray = s.data
 rw [e]
set_option maxHeartbeats 8000000 in
set_option maxRecDepth 100000 in
theorem turn_bytes (r : Nat) (f : Nat → Int) (s : ByteArray) (W : World) (hT : TabAt r f W) (hs : s.size ≤ 1000) :
  Calls Tryd.prog 101 #[.pointer (some ⟨r, 0, none⟩), .string s] W fun e w' => e = .returned (.string (strOfNums (turnT f s))) ∧ Below W.heap.size W w' := by
 have HT := Aside0.mk hT
 have qb : ∀ (w : World) (a : Option Addr) (n c n' c' : Nat), (binOp .eql 27 (.slice a n c) (.slice none n' c')).run Tryd.prog w = .ok (.bool a.isNone) w := fun w a n c n' c' => Go.Lib.run_eql_slice_nil w _ _ a n c n' c' Tryd.underlying27
 clear hT
 go_enter Tryd.func101, Tryd.ntmps101
 go_wp2
 go_loopg [5, 6] s.size (fun gg v5 v6 wr => ∃ i : Nat, v6 = .int .i64 i ∧ i ≤ s.size ∧ s.size - i ≤ gg ∧ Aside0 (Below W.heap.size W wr) ∧ ((v5 = .slice none 0 0 ∧ Aside0 (midT f s i = bytesOf s)) ∨ ∃ g c cr m, v5 = .slice (some ⟨g, 0, none⟩) s.size c ∧ Aside0 (RowB (Value.int .u8) 5 wr g cr m (midT f s i) ∧ W.heap.size ≤ g)))
 case atStart => exact ⟨0, rfl, Nat.zero_le _, by omega, ⟨Below.refl _ _⟩, .inl ⟨rfl, ⟨by simp [midT]⟩⟩⟩
 case round =>
  obtain ⟨i, rfl, hi, hg, HB, HV⟩ := hrel
  by_cases hlt : i < s.size
  ·have hltz : (i : Int) < (s.size : Int) := by omega
   obtain ⟨X, hX, hX2⟩ : ∃ X : Nat, bt s (i : Int) = (X : Int) ∧ X < 256 := by
    have := bt_range s (i : Int)
    exact ⟨(bt s (i : Int)).toNat, by omega, by omega⟩
   have p5 : (0 : Int) ≤ (i : Int) := by omega
   have q5 := hltz
   replace p5 := eq_true p5
   replace q5 := eq_true q5
   have hx5 : ∀ h : i < s.size, ((s[i]'h).toNat : Int) = (X : Int) := fun h => by rw [← hX]; unfold bt; simp [h]
   have hcell := (HT.out.below HB.out) X hX2
   have hXz : (X : Int) < 256 := by omega
   have hX0 : (0 : Int) ≤ (X : Int) := by omega
   have hsame := midT_same f s hlt
   have hnext := midT_next f s hlt
   rw [hX, Int.toNat_natCast] at hsame hnext
   have HN := Aside0.mk (And.intro hsame hnext)
   clear hsame hnext hX
   by_cases he : f X = (X : Int)
   ·have hez : (f X != (X : Int)) = false := by rw [he]; simp
    go_wp2
    go_roundg (s.size - (i + 1))
    case measure => omega
    case rel =>
     refine ⟨i + 1, by go_num, by omega, by omega, HB, ?_⟩
     rcases HV with ⟨h1, h2⟩ | ⟨g, c, cr, m, h1, h2⟩
     ·exact .inl ⟨h1, ⟨by rw [HN.out.1 he]; exact h2.out⟩⟩
     ·exact .inr ⟨g, c, cr, m, h1, ⟨by rw [HN.out.1 he]; exact h2.out⟩⟩
   ·have hez : (f X != (X : Int)) = true := by simpa using he
    rcases HV with ⟨rfl, h2⟩ | ⟨g, c, cr, m, rfl, h2⟩
    ·have kc := Go.Lib.run_convert_string_bytes (P := Tryd.prog) wr 9 27 5 s Tryd.underlying9 Tryd.underlying27 Tryd.underlying5
     have hrow := bytes_row wr s
     have hbw := bytes_below wr s
     have hcx := hrow.cell (j := i) (by rw [bytesOf_length]; exact hlt)
     have hfx := hrow.soft (j := i) (Nat.lt_of_lt_of_le (by rw [bytesOf_length]; exact hlt) hrow.len)
     have hcell2 := cell_keepP hcell hbw
     have hput := hrow.put i (f X)
     have HP := Aside0.mk (And.intro hput hbw)
     clear hrow hbw hput
     go_wp2
     go_roundg (s.size - (i + 1))
     case measure => omega
     case rel =>
      have hsz := HB.out.size
      have hR := HP.out.1
      rw [← h2.out, ← HN.out.2] at hR
      exact ⟨i + 1, by go_num, by omega, by omega, ⟨(HB.out.trans (HP.out.2.mono hsz)).setCell (p := ⟨wr.heap.size, i, none⟩) hsz _⟩, .inr ⟨_, _, _, _, rfl, ⟨hR, hsz⟩⟩⟩
    ·have hrow := h2.out.1
     have hml := midT_len f s i
     have hcx := hrow.cell (j := i) (by rw [hml]; exact hlt)
     have hfx := hrow.soft (j := i) (Nat.lt_of_lt_of_le (by rw [hml]; exact hlt) hrow.len)
     have hput := hrow.put i (f X)
     have HP := Aside0.mk hput
     clear hrow hput
     go_wp2
     go_roundg (s.size - (i + 1))
     case measure => omega
     case rel =>
      have hR := HP.out
      rw [← HN.out.2] at hR
      exact ⟨i + 1, by go_num, by omega, by omega, ⟨HB.out.setCell (p := ⟨g, i, none⟩) h2.out.2 _⟩, .inr ⟨_, _, _, _, rfl, ⟨hR, h2.out.2⟩⟩⟩
  ·have hltz : ¬ (i : Int) < (s.size : Int) := by omega
   obtain rfl : i = s.size := by omega
   have hend : midT f s s.size = turnT f s := by
    unfold midT turnT
    rw [List.take_of_length_le (by rw [bytesOf_length]; exact Nat.le_refl _), List.drop_of_length_le (by rw [bytesOf_length]; exact Nat.le_refl _), List.append_nil]
   rcases HV with ⟨rfl, h2⟩ | ⟨g, c, cr, m, rfl, h2⟩
   ·have hs2 : strOfNums (turnT f s) = s := by rw [← hend, h2.out]; exact strOf_bytes s
    have HS := Aside0.mk hs2
    clear hs2 hend
    go_wp2
    go_ret
    exact ⟨by rw [HS.out]; rfl, HB.out⟩
   ·have hrow := h2.out.1
    have hml := midT_len f s s.size
    have kc : (convert 27 9 (.slice (some ⟨g, 0, none⟩) (midT f s s.size).length c)).run Tryd.prog wr = .ok (.string (strOfNums (midT f s s.size))) wr := Kd.C_string Tryd.underlying27 Tryd.underlying5 Tryd.underlying9 (hrow.reads (0 : Int) (by rw [hml]; omega))
    rw [hml] at kc
    have HE := Aside0.mk hend
    clear hrow hml hend
    go_wp2
    go_ret
    exact ⟨by rw [HE.out]; rfl, HB.out⟩
/-! ### impl_TurnNumeral_four: the table is built -/
/-- The table of the numerals that turn. -/
def turnF (j : Nat) : Int := if j = 54 then 57 else if j = 57 then 54 else (j : Int)
/-- A table of 256 bytes, as its block has it. -/
def TabH (r T : Nat) (f : Nat → Int) (W : World) : Prop := ∃ cur : Array Value, W.heap[r]? = some (.cells cur T (0, 0)) ∧ cur.size = 256 ∧ ∀ i, i < 256 → cur[i]? = some (.int .u8 (f i))
theorem TabH.at_ {r T : Nat} {f : Nat → Int} {W : World} (h : TabH r T f W) {j : Nat} (hj : j < 256) : W.cell? ⟨r, j, none⟩ = some (.int .u8 (f j)) ∧ W.frozen? ⟨r, j, none⟩ = false := by
 obtain ⟨cur, h1, h2, h3⟩ := h
 exact ⟨(blk_cell h1 j).trans (h3 j hj), blk_frozen h1 j⟩
theorem TabH.tab {r T : Nat} {f : Nat → Int} {W : World} (h : TabH r T f W) : TabAt r f W := fun j hj => (h.at_ hj).1
theorem TabH.put {r T : Nat} {f : Nat → Int} {W : World} (h : TabH r T f W) {j : Nat} (x : Int) (hj : j < 256) : TabH r T (fun i => if i = j then x else f i) (W.setCell ⟨r, j, none⟩ (.int .u8 x)) := by
 obtain ⟨cur, h1, h2, h3⟩ := h
 refine ⟨cur.setIfInBounds j (.int .u8 x), blk_put h1 j _ rfl, by rw [Array.size_setIfInBounds]; exact h2, fun i hi => ?_⟩
 by_cases hij : j = i
 ·subst hij
  rw [Array.getElem?_setIfInBounds_self_of_lt (by omega)]
  simp
 ·rw [Array.getElem?_setIfInBounds_ne hij, h3 i hi]
  have hne : ¬ i = j := fun e => hij e.symm
  simp [hne]
theorem TabH.same {r T : Nat} {f g : Nat → Int} {W : World} (h : TabH r T f W) (e : ∀ i, i < 256 → f i = g i) : TabH r T g W := by
 obtain ⟨cur, h1, h2, h3⟩ := h
 exact ⟨cur, h1, h2, fun i hi => by rw [← e i hi]; exact h3 i hi⟩
set_option maxHeartbeats 8000000 in
set_option maxRecDepth 100000 in
theorem build_at (b ao c : Nat) (W : World) (h4 : W.cell? ⟨b, 4, none⟩ = some (.slice (some ⟨ao, 0, none⟩) 4 c)) (s0 : W.cell? ⟨ao, 0, none⟩ = some (.string ⟨#[54]⟩)) (s1 : W.cell? ⟨ao, 1, none⟩ = some (.string ⟨#[57]⟩)) (s2 : W.cell? ⟨ao, 2, none⟩ = some (.string ⟨#[57]⟩)) (s3 : W.cell? ⟨ao, 3, none⟩ = some (.string ⟨#[54]⟩)) :
  Calls Tryd.prog 30 #[.pointer (some ⟨b, 0, none⟩)] W fun e w' => ∃ r, e = .returned (.iface 83 (.pointer (some ⟨r, 0, none⟩))) ∧ TabAt r turnF w' ∧ W.heap.size ≤ r ∧ Below W.heap.size W w' := by
 go_enter Tryd.func30, Tryd.ntmps30
 go_wp2
 go_loopg [4, 5] 4 (fun gg v4 v5 wr => v4 = .bool true ∧ Aside0 (wr = W) ∧ ((v5 = .int .i64 0 ∧ 2 ≤ gg) ∨ (v5 = .int .i64 2 ∧ 1 ≤ gg) ∨ v5 = .int .i64 4))
 case atStart => exact ⟨rfl, ⟨rfl⟩, .inl ⟨rfl, by omega⟩⟩
 case round =>
  obtain ⟨rfl, hw, hv⟩ := hrel
  have hw2 : W = wr := hw.out.symm
  subst hw2
  clear hw
  rcases hv with ⟨rfl, hg⟩ | ⟨rfl, hg⟩ | rfl
  ·go_wp2
   go_roundg 1
   case measure => omega
   case rel => exact ⟨rfl, ⟨rfl⟩, .inr (.inl ⟨rfl, by omega⟩)⟩
  ·go_wp2
   go_roundg 0
   case measure => omega
   case rel => exact ⟨rfl, ⟨rfl⟩, .inr (.inr rfl)⟩
  ·have hst := run_storeCells_new (P := Tryd.prog) W 82 Tryd.zeroCells82 Tryd.zeroCells82 (by kernel_rfl) rfl (by kernel_rfl)
   have hzs : Tryd.zeroCells82.size = 256 := by kernel_rfl
   go_upto_region 14 with (fail)
   have hnew := blk_new W (.cells Tryd.zeroCells82 82)
   have hb0 := below_alloc (Below.refl W.heap.size W) (.cells Tryd.zeroCells82 82)
   have hr : W.heap.size < (W.alloc (.cells Tryd.zeroCells82 82)).heap.size := by simp
   generalize W.alloc (.cells Tryd.zeroCells82 82) = W1 at *
   generalize Tryd.zeroCells82 = Z at *
   have HW := Aside0.mk (And.intro hb0 (And.intro hr (And.intro hnew hzs)))
   clear hst hnew hb0 hr hzs
   go_wp2
   go_loopg [61] 256 (fun gg v61 wx => ∃ j : Nat, v61 = .int .i64 j ∧ j ≤ 256 ∧ 256 - j ≤ gg ∧ ∃ cur : Array Value, Aside0 (wx.heap[W.heap.size]? = some (.cells cur 82 (0, 0)) ∧ cur.size = 256 ∧ (∀ i, i < j → cur[i]? = some (.int .u8 (i : Int))) ∧ Below W.heap.size W wx))
   case atStart => exact ⟨0, rfl, Nat.zero_le _, by omega, Z, ⟨HW.out.2.2.1, HW.out.2.2.2, fun i hi => absurd hi (Nat.not_lt_zero _), HW.out.1⟩⟩
   case round =>
    obtain ⟨j, rfl, hj, hgj, cur, HC⟩ := hrel
    by_cases hlt : j < 256
    ·have hltz : (j : Int) < 256 := by omega
     have hwr : IntKind.u8.wrap (j : Int) = (j : Int) := by
      simp [IntKind.wrap, IntKind.bits, IntKind.signed]
      omega
     have hsz : j < cur.size := by rw [HC.out.2.1]; exact hlt
     have hc0 := (blk_cell HC.out.1 j).trans (Array.getElem?_eq_getElem hsz)
     have hf0 := blk_frozen HC.out.1 j
     generalize cur[j] = old at hc0
     go_wp2
     go_roundg (256 - (j + 1))
     case measure => omega
     case rel =>
      refine ⟨j + 1, by go_num, by omega, by omega, cur.setIfInBounds j (.int .u8 (j : Int)), ⟨blk_put HC.out.1 j _ rfl, by rw [Array.size_setIfInBounds]; exact HC.out.2.1, fun i hi => ?_, HC.out.2.2.2.setCell (p := ⟨_, j, none⟩) (Nat.le_refl _) _⟩⟩
      by_cases hij : j = i
      ·subst hij
       rw [Array.getElem?_setIfInBounds_self_of_lt hsz]
      ·rw [Array.getElem?_setIfInBounds_ne hij]
       exact HC.out.2.2.1 i (by omega)
    ·have hltz : ¬ (j : Int) < 256 := by omega
     obtain rfl : j = 256 := by omega
     have HS := Aside0.mk (And.intro s0 (And.intro s1 (And.intro s2 s3)))
     have HB0 : Aside0 (TabH W.heap.size 82 (fun i => (i : Int)) wr ∧ Below W.heap.size W wr) := ⟨⟨cur, HC.out.1, HC.out.2.1, HC.out.2.2.1⟩, HC.out.2.2.2⟩
     have e57 : ∀ h : 0 < (⟨#[57]⟩ : ByteArray).size, (((⟨#[57]⟩ : ByteArray)[0]'h).toNat : Int) = 57 := fun _ => rfl
     have e54 : ∀ h : 0 < (⟨#[54]⟩ : ByteArray).size, (((⟨#[54]⟩ : ByteArray)[0]'h).toNat : Int) = 54 := fun _ => rfl
     clear s0 s1 s2 s3 HC HW h4
     go_wp2
     go_loopg [8] 4 (fun gg v8 wy => (v8 = .int .i64 2 ∧ 2 ≤ gg ∧ Aside0 (TabH W.heap.size 82 (fun i => (i : Int)) wy ∧ Below W.heap.size W wy)) ∨ (v8 = .int .i64 0 ∧ 1 ≤ gg ∧ Aside0 (TabH W.heap.size 82 (fun i => if i = 57 then 54 else (i : Int)) wy ∧ Below W.heap.size W wy)) ∨ (v8 = .int .i64 (-2) ∧ Aside0 (TabH W.heap.size 82 turnF wy ∧ Below W.heap.size W wy)))
     case atStart => exact .inl ⟨rfl, by omega, HB0⟩
     case round =>
      clear HB0
      rcases hrel with ⟨rfl, hg, HH⟩ | ⟨rfl, hg, HH⟩ | ⟨rfl, HH⟩
      ·have c2 := cell_keepP HS.out.2.2.1 HH.out.2
       have c3 := cell_keepP HS.out.2.2.2 HH.out.2
       obtain ⟨k0, k1⟩ := HH.out.1.at_ (j := 57) (by omega)
       have kp := Aside0.mk (HH.out.1.put (j := 57) 54 (by omega))
       go_wp2
       go_roundg 1
       case measure => omega
       case rel => exact .inr (.inl ⟨rfl, by omega, ⟨kp.out, HH.out.2.setCell (p := ⟨_, 57, none⟩) (Nat.le_refl _) _⟩⟩)
      ·have c2 := cell_keepP HS.out.1 HH.out.2
       have c3 := cell_keepP HS.out.2.1 HH.out.2
       obtain ⟨k0, k1⟩ := HH.out.1.at_ (j := 54) (by omega)
       have kp := Aside0.mk (HH.out.1.put (j := 54) 57 (by omega))
       go_wp2
       go_roundg 0
       case measure => omega
       case rel => exact .inr (.inr ⟨rfl, ⟨kp.out.same (fun _ _ => rfl), HH.out.2.setCell (p := ⟨_, 54, none⟩) (Nat.le_refl _) _⟩⟩)
      ·go_wp2
       go_ret
       exact ⟨_, rfl, HH.out.1.tab, Nat.le_refl _, HH.out.2⟩
/-! ### impl_TurnNumeral_five: the replacer -/
/-- A replacer's cells. -/
def RepH (b : Nat) (d m : Int) (x3 x4 : Value) (W : World) : Prop := W.heap[b]? = some (.cells #[.int .u32 d, .int .i32 m, .int .u32 0, x3, x4] 51 (0, 0))
theorem TabAt.far {r : Nat} {f : Nat → Int} {W : World} (h : TabAt r f W) {b : Nat} (hb : r ≠ b) (i : Nat) (v : Value) : TabAt r f (W.setCell ⟨b, i, none⟩ v) := fun j hj => (World.cell?_setCell_other W ⟨b, i, none⟩ ⟨r, j, none⟩ v (fun e => hb (by injection e with e1; exact e1.symm))).trans (h j hj)
/-- Behind the building. -/
def PostB (b B : Nat) (W0 : World) (W : World) : Prop := ∃ r, RepH b 0 1 (.iface 83 (.pointer (some ⟨r, 0, none⟩))) (.slice none 0 0) W ∧ TabAt r turnF W ∧ r ≠ b ∧ Below B W0 W
set_option maxHeartbeats 8000000 in
set_option maxRecDepth 100000 in
theorem once_build (b ao c B : Nat) (W0 W : World) (hb : B ≤ b) (hB0 : Below B W0 W) (hW0 : B ≤ W0.heap.size) (h : RepH b 0 1 .nilIface (.slice (some ⟨ao, 0, none⟩) 4 c) W) (s0 : W.cell? ⟨ao, 0, none⟩ = some (.string ⟨#[54]⟩)) (s1 : W.cell? ⟨ao, 1, none⟩ = some (.string ⟨#[57]⟩)) (s2 : W.cell? ⟨ao, 2, none⟩ = some (.string ⟨#[57]⟩)) (s3 : W.cell? ⟨ao, 3, none⟩ = some (.string ⟨#[54]⟩)) :
  Calls Tryd.prog 17 #[.pointer (some ⟨b, 0, none⟩)] W fun e w' => e = .returned (.tuple #[]) ∧ PostB b B W0 w' := by
 have HBu := Aside0.mk (build_at b ao c W (blk_cell h 4) s0 s1 s2 s3)
 have H := Aside0.mk (And.intro h hB0)
 have hlt := blk_lt h
 clear h s0 s1 s2 s3 hB0
 go_enter Tryd.func17, Tryd.ntmps17
 go_upto_region 1 with (go_at_call 30; (with_reducible refine HBu.out.mono ?_); rintro e w1 ⟨r, rfl, hT, hr, hb1⟩; have k1 := blk_below H.out.1 hb1; have k3 := blk_cell k1 3; have f3 := blk_frozen k1 3)
 have k5 : (w1.setCell ⟨b, 3, none⟩ (.iface 83 (.pointer (some ⟨r, 0, none⟩)))).heap[b]? = some (.cells #[.int .u32 0, .int .i32 1, .int .u32 0, .iface 83 (.pointer (some ⟨r, 0, none⟩)), .slice (some ⟨ao, 0, none⟩) 4 c] 51 (0, 0)) := blk_put k1 3 _ rfl
 have hB1 := (H.out.2.trans (hb1.mono (Nat.le_trans hW0 H.out.2.size))).setCell (p := ⟨b, 3, none⟩) hb (.iface 83 (.pointer (some ⟨r, 0, none⟩)))
 have hrb : r ≠ b := by omega
 have hT1 := hT.far hrb 3 (.iface 83 (.pointer (some ⟨r, 0, none⟩)))
 generalize w1.setCell ⟨b, 3, none⟩ (.iface 83 (.pointer (some ⟨r, 0, none⟩))) = w2 at *
 have k4 := blk_cell k5 4
 have f4 := blk_frozen k5 4
 have HE := Aside0.mk (And.intro k5 (And.intro hB1 hT1))
 clear k1 k3 f3 k5 hB1 hT1 hT hr hb1
 go_wp2
 go_end0
 obtain ⟨k5, hB1, hT1⟩ := HE.out
 exact ⟨rfl, r, blk_put k5 4 _ rfl, hT1.far hrb 4 _, hrb, hB1.setCell (p := ⟨b, 4, none⟩) hb _⟩
set_option maxHeartbeats 8000000 in
set_option maxRecDepth 100000 in
theorem new_replacer (a0 c0 : Nat) (W : World) (s0 : W.cell? ⟨a0, 0, none⟩ = some (.string ⟨#[54]⟩)) (s1 : W.cell? ⟨a0, 1, none⟩ = some (.string ⟨#[57]⟩)) (s2 : W.cell? ⟨a0, 2, none⟩ = some (.string ⟨#[57]⟩)) (s3 : W.cell? ⟨a0, 3, none⟩ = some (.string ⟨#[54]⟩)) :
  Calls Tryd.prog 9 #[.slice (some ⟨a0, 0, none⟩) 4 c0] W fun e w' => ∃ b ao c, e = .returned (.pointer (some ⟨b, 0, none⟩)) ∧ RepH b 0 0 .nilIface (.slice (some ⟨ao, 0, none⟩) 4 c) w' ∧ (w'.cell? ⟨ao, 0, none⟩ = some (.string ⟨#[54]⟩) ∧ w'.cell? ⟨ao, 1, none⟩ = some (.string ⟨#[57]⟩) ∧ w'.cell? ⟨ao, 2, none⟩ = some (.string ⟨#[57]⟩) ∧ w'.cell? ⟨ao, 3, none⟩ = some (.string ⟨#[54]⟩)) ∧ W.heap.size ≤ b ∧ ao ≠ b ∧ Below W.heap.size W w' := by
 go_enter Tryd.func9, Tryd.ntmps9
 go_wp2
 go_ret
 generalize Builtin.zeroCells #[Value.string ⟨#[]⟩] ((Question.appendCap 4 0 9).cut (W.tape W.drawn (Question.appendCap 4 0 9)) - 4) = Z
 generalize (Question.appendCap 4 0 9).cut (W.tape W.drawn (Question.appendCap 4 0 9)) = cp
 have b1 := blk_alloc (blk_new W (.cells (#[.string ⟨#[54]⟩, .string ⟨#[57]⟩, .string ⟨#[57]⟩, .string ⟨#[54]⟩] ++ Z) 9)) (.cells #[.int .u32 0, .int .i32 0, .int .u32 0, .nilIface, .slice (some ⟨W.heap.size, 0, none⟩) 4 cp] 51)
 have b2 := blk_new (W.alloc (.cells (#[.string ⟨#[54]⟩, .string ⟨#[57]⟩, .string ⟨#[57]⟩, .string ⟨#[54]⟩] ++ Z) 9)) (.cells #[.int .u32 0, .int .i32 0, .int .u32 0, .nilIface, .slice (some ⟨W.heap.size, 0, none⟩) 4 cp] 51)
 rw [show (W.alloc (.cells (#[.string ⟨#[54]⟩, .string ⟨#[57]⟩, .string ⟨#[57]⟩, .string ⟨#[54]⟩] ++ Z) 9)).heap.size = W.heap.size + 1 by simp] at b2
 have e : ∀ j, j < 4 → (#[Value.string ⟨#[54]⟩, .string ⟨#[57]⟩, .string ⟨#[57]⟩, .string ⟨#[54]⟩] ++ Z)[j]? = (#[Value.string ⟨#[54]⟩, .string ⟨#[57]⟩, .string ⟨#[57]⟩, .string ⟨#[54]⟩] : Array Value)[j]? := fun j hj => Array.getElem?_append_left (by simpa using hj)
 refine ⟨W.heap.size + 1, W.heap.size, cp, rfl, b2, ⟨(blk_cell b1 0).trans (e 0 (by omega)), (blk_cell b1 1).trans (e 1 (by omega)), (blk_cell b1 2).trans (e 2 (by omega)), (blk_cell b1 3).trans (e 3 (by omega))⟩, by omega, by omega, below_drew (below_alloc (below_alloc (Below.refl _ _) _) _)⟩
set_option maxHeartbeats 8000000 in
set_option maxRecDepth 100000 in
theorem replace_at (b ao c : Nat) (W0 W : World) (s : ByteArray) (hs : s.size ≤ 1000) (hb : W0.heap.size ≤ b) (hB0 : Below W0.heap.size W0 W) (h : RepH b 0 0 .nilIface (.slice (some ⟨ao, 0, none⟩) 4 c) W) (hne : ao ≠ b) (s0 : W.cell? ⟨ao, 0, none⟩ = some (.string ⟨#[54]⟩)) (s1 : W.cell? ⟨ao, 1, none⟩ = some (.string ⟨#[57]⟩)) (s2 : W.cell? ⟨ao, 2, none⟩ = some (.string ⟨#[57]⟩)) (s3 : W.cell? ⟨ao, 3, none⟩ = some (.string ⟨#[54]⟩)) :
  Calls Tryd.prog 10 #[.pointer (some ⟨b, 0, none⟩), .string s] W fun e w' => e = .returned (.string (strOfNums (turnT turnF s))) ∧ Below W0.heap.size W0 w' := by
 have k1 : (W.setCell ⟨b, 1, none⟩ (.int .i32 1)).heap[b]? = some (.cells #[.int .u32 0, .int .i32 1, .int .u32 0, .nilIface, .slice (some ⟨ao, 0, none⟩) 4 c] 51 (0, 0)) := blk_put h 1 _ rfl
 have hfar : ∀ j v, W.cell? ⟨ao, j, none⟩ = some v → (W.setCell ⟨b, 1, none⟩ (.int .i32 1)).cell? ⟨ao, j, none⟩ = some v := fun j v hv => (World.cell?_setCell_other W ⟨b, 1, none⟩ ⟨ao, j, none⟩ _ (fun e => hne (by injection e with e1; exact e1.symm))).trans hv
 have hbu := once_build b ao c W0.heap.size W0 (W.setCell ⟨b, 1, none⟩ (.int .i32 1)) hb (hB0.setCell (p := ⟨b, 1, none⟩) hb _) (Nat.le_refl _) k1 (hfar 0 _ s0) (hfar 1 _ s1) (hfar 2 _ s2) (hfar 3 _ s3)
 have hdo := once_do b W (PostB b W0.heap.size W0) (blk_cell h 0) (blk_cell h 1) (blk_frozen h 1) hbu (fun w' hp => by
  obtain ⟨r, k, _⟩ := hp
  exact ⟨blk_cell k 0, blk_frozen k 0, blk_cell k 1, blk_frozen k 1⟩)
 have HD := Aside0.mk hdo
 clear hbu hdo hfar k1
 go_enter Tryd.func10, Tryd.ntmps10
 go_upto_region 2 with (go_at_call 16; (with_reducible refine HD.out.mono ?_); rintro e w2 ⟨rfl, w1, hp, rfl⟩)
 obtain ⟨r, kr, hT, hrb, hB1⟩ := hp
 have k2 : (((w1.setCell ⟨b, 0, none⟩ (.int .u32 1)).setCell ⟨b, 1, none⟩ (.int .i32 0)).drew).heap[b]? = some (.cells #[.int .u32 1, .int .i32 0, .int .u32 0, .iface 83 (.pointer (some ⟨r, 0, none⟩)), .slice none 0 0] 51 (0, 0)) := blk_put (blk_put kr 0 _ rfl) 1 _ rfl
 have hT2 : TabAt r turnF (((w1.setCell ⟨b, 0, none⟩ (.int .u32 1)).setCell ⟨b, 1, none⟩ (.int .i32 0)).drew) := (hT.far hrb 0 _).far hrb 1 _
 have hB2 : Below W0.heap.size W0 (((w1.setCell ⟨b, 0, none⟩ (.int .u32 1)).setCell ⟨b, 1, none⟩ (.int .i32 0)).drew) := below_drew ((hB1.setCell (p := ⟨b, 0, none⟩) hb _).setCell (p := ⟨b, 1, none⟩) hb _)
 generalize ((w1.setCell ⟨b, 0, none⟩ (.int .u32 1)).setCell ⟨b, 1, none⟩ (.int .i32 0)).drew = W2 at *
 have kc := blk_cell k2 3
 have HTB := Aside0.mk (turn_bytes r turnF s W2 hT2 hs)
 have HB2 := Aside0.mk hB2
 have hm : ∀ w, (method 261 83 (.pointer (some ⟨r, 0, none⟩)) "Replace").run Tryd.prog w = .ok (101, .pointer (some ⟨r, 0, none⟩)) w := fun _ => by kernel_rfl
 clear kr hT hB1 k2 hT2 hB2
 go_wp2_with (go_at_call 101; (with_reducible refine HTB.out.mono ?_); rintro e w3 ⟨rfl, hb3⟩)
 go_ret
 exact ⟨rfl, HB2.out.trans (hb3.mono HB2.out.size)⟩
/-! ### impl_TurnNumeral_six: the bytes turned round -/
/-- What has come of the row after i rounds from both ends. -/
def RevAt (xs ys : List Int) (i : Nat) : Prop := ys.length = xs.length ∧ ∀ k, k < xs.length → ys.getD k 0 = if k < i ∨ xs.length ≤ k + i then xs.getD (xs.length - 1 - k) 0 else xs.getD k 0
theorem revAt_start (xs : List Int) : RevAt xs xs 0 := ⟨rfl, fun k hk => by rw [if_neg (by omega)]⟩
theorem getD_set (ys : List Int) (i k : Nat) (v : Int) (hi : i < ys.length) : (ys.set i v).getD k 0 = if k = i then v else ys.getD k 0 := by
 simp only [List.getD_eq_getElem?_getD, List.getElem?_set]
 by_cases h : i = k
 ·subst h; simp [hi]
 ·rw [if_neg h, if_neg (fun e => h e.symm)]
theorem revAt_next {xs ys : List Int} {i : Nat} (h : RevAt xs ys i) (hi : 2 * i + 1 < xs.length) : RevAt xs ((ys.set i (ys.getD (xs.length - 1 - i) 0)).set (xs.length - 1 - i) (ys.getD i 0)) (i + 1) := by
 obtain ⟨hl, hk⟩ := h
 have e1 := hk i (by omega)
 have e2 := hk (xs.length - 1 - i) (by omega)
 rw [if_neg (by omega)] at e1 e2
 refine ⟨by simp [hl], fun k hkl => ?_⟩
 rw [getD_set _ _ _ _ (by simp [hl]; omega), getD_set _ _ _ _ (by omega), e1, e2]
 by_cases c1 : k = xs.length - 1 - i
 ·subst c1
  rw [if_pos rfl, if_pos (by omega), show xs.length - 1 - (xs.length - 1 - i) = i by omega]
 ·rw [if_neg c1]
  by_cases c2 : k = i
  ·subst c2
   rw [if_pos rfl, if_pos (by omega)]
  ·rw [if_neg c2, hk k hkl]
   by_cases c3 : k < i ∨ xs.length ≤ k + i
   ·rw [if_pos c3, if_pos (by omega)]
   ·rw [if_neg c3, if_neg (by omega)]
theorem revAt_end {xs ys : List Int} {i : Nat} (h : RevAt xs ys i) (hi : xs.length ≤ 2 * i + 1) : ys = xs.reverse := by
 obtain ⟨hl, hk⟩ := h
 refine List.ext_getElem (by rw [List.length_reverse, hl]) fun k h1 h2 => ?_
 have := hk k (by omega)
 rw [List.getD_eq_getElem?_getD, List.getElem?_eq_getElem h1, Option.getD_some] at this
 rw [this, List.getElem_reverse]
 by_cases c : k < i ∨ xs.length ≤ k + i
 ·rw [if_pos c, List.getD_eq_getElem?_getD, List.getElem?_eq_getElem (by omega), Option.getD_some]
 ·rw [if_neg c]
  have e : xs.length - 1 - k = k := by omega
  simp only [e]
  rw [List.getD_eq_getElem?_getD, List.getElem?_eq_getElem (by omega), Option.getD_some]
set_option maxHeartbeats 8000000 in
set_option maxRecDepth 100000 in
theorem reverse_at (g c cr : Nat) (m : Nat × Nat) (xs : List Int) (n : Nat) (hn : xs.length = n) (W : World) (h : RowB (Value.int .u8) 5 W g cr m xs) (h1 : 1 ≤ n) (hl : n ≤ 1000) :
  Calls Tryd.prog 11 #[.slice (some ⟨g, 0, none⟩) n c] W fun e w' => e = .returned (.tuple #[]) ∧ RowB (Value.int .u8) 5 w' g cr m xs.reverse ∧ Below g W w' := by
 have HR0 := Aside0.mk h
 clear h
 go_enter Tryd.func11, Tryd.ntmps11
 go_wp2
 go_loopg [2, 3] n (fun gg v2 v3 wr => ∃ (i : Nat) (j : Int), v2 = .int .i64 i ∧ v3 = .int .i64 j ∧ j = (n : Int) - 1 - i ∧ i ≤ n ∧ n - i ≤ gg ∧ Aside0 (Below g W wr ∧ ∃ ys, RevAt xs ys i ∧ RowB (Value.int .u8) 5 wr g cr m ys))
 case atStart => exact ⟨0, (n : Int) - 1, rfl, by go_num, by omega, Nat.zero_le _, by omega, ⟨Below.refl _ _, xs, revAt_start xs, HR0.out⟩⟩
 case round =>
  obtain ⟨i, j, rfl, rfl, hj, hi, hg, HA⟩ := hrel
  by_cases hlt : (i : Int) < j
  ·have hb := HA.out.1
   obtain ⟨ys, hrv, hrow⟩ := HA.out.2
   have hyl := hrv.1
   have ci := hrow.cell (j := i) (by omega)
   have cj := hrow.cell (j := n - 1 - i) (by omega)
   have fi := hrow.soft (j := i) (Nat.lt_of_lt_of_le (by omega) hrow.len)
   have fj := hrow.soft (j := n - 1 - i) (Nat.lt_of_lt_of_le (by omega) hrow.len)
   have hput := (hrow.put i (ys.getD (n - 1 - i) 0)).put (n - 1 - i) (ys.getD i 0)
   have hnx := revAt_next hrv (by omega)
   rw [hn] at hnx
   rw [show ys.getD (n - 1 - i) 0 = ys[n - 1 - i]'(by omega) by rw [List.getD_eq_getElem?_getD, List.getElem?_eq_getElem (by omega), Option.getD_some], show ys.getD i 0 = ys[i]'(by omega) by rw [List.getD_eq_getElem?_getD, List.getElem?_eq_getElem (by omega), Option.getD_some]] at hput hnx
   generalize ys[i]'(by omega) = x at *
   generalize ys[n - 1 - i]'(by omega) = y at *
   obtain ⟨jn, rfl, hjn⟩ : ∃ jn : Nat, j = (jn : Int) ∧ n - 1 - i = jn := ⟨n - 1 - i, by omega, rfl⟩
   rw [hjn] at cj fj hput hnx
   have HP := Aside0.mk (And.intro hput (And.intro hnx hb))
   clear hput hnx hb hrow hrv hyl HA
   go_wp2_with fail
   go_region
   go_wp2
   go_roundg (n - (i + 1))
   case measure => omega
   case rel => exact ⟨i + 1, _, by go_num, rfl, by go_num, by omega, by omega, ⟨below_drew ((HP.out.2.2.setCell (p := ⟨g, i, none⟩) (Nat.le_refl _) _).setCell (p := ⟨g, jn, none⟩) (Nat.le_refl _) _), _, HP.out.2.1, HP.out.1.block rfl⟩⟩
  ·obtain ⟨ys, hrv, hrow⟩ := HA.out.2
   have e := revAt_end hrv (by omega)
   have HE := Aside0.mk (And.intro e (And.intro hrow HA.out.1))
   clear hrv hrow HA e
   go_wp2
   go_end0
   obtain ⟨e, hrow, hb⟩ := HE.out
   exact ⟨rfl, e ▸ hrow, hb⟩
/-! ### impl_TurnNumeral_seven: strings.ContainsAny at the three digits -/
open Go.Shelf in
def Tryd.lays150_ren : Go.Shelf.Ren := ⟨fun | 150 => 8 | 153 => 15 | 152 => 25 | 226 => 26 | 227 => 20 | 228 => 27 | 137 => 34 | 119 => 35 | 224 => 36 | 225 => 37 | 217 => 46 | 266 => 53 | n => n, fun | 9 => 9 | 4 => 4 | 3 => 3 | 5 => 5 | 21 => 21 | 117 => 56 | 116 => 55 | 0 => 0 | 46 => 72 | 124 => 59 | n => n, fun | n => n⟩
open Go.Shelf in
theorem Tryd.lays150 : Go.Proofs.Lays.n150 Tryd.prog Tryd.lays150_ren := {
 mixed := by kernel_rfl,
 f119 := Tryd.func35.trans (congrArg some (by kernel_rfl)),
 f137 := Tryd.func34.trans (congrArg some (by kernel_rfl)),
 f150 := Tryd.func8.trans (congrArg some (by kernel_rfl)),
 f152 := Tryd.func25.trans (congrArg some (by kernel_rfl)),
 f153 := Tryd.func15.trans (congrArg some (by kernel_rfl)),
 f217 := Tryd.func46.trans (congrArg some (by kernel_rfl)),
 f224 := Tryd.func36.trans (congrArg some (by kernel_rfl)),
 f225 := Tryd.func37.trans (congrArg some (by kernel_rfl)),
 f226 := Tryd.func26.trans (congrArg some (by kernel_rfl)),
 f227 := Tryd.func20.trans (congrArg some (by kernel_rfl)),
 f228 := Tryd.func27.trans (congrArg some (by kernel_rfl)),
 f266 := Tryd.func53.trans (congrArg some (by kernel_rfl)),
 t0 := Tryd.underlying0,
 a0 := Tryd.isAgg0,
 z0 := Tryd.sizeOf0,
 v0 := Tryd.zeroValue0,
 t3 := Tryd.underlying3,
 a3 := Tryd.isAgg3,
 z3 := Tryd.sizeOf3,
 v3 := Tryd.zeroValue3,
 t4 := Tryd.underlying4,
 a4 := Tryd.isAgg4,
 z4 := Tryd.sizeOf4,
 v4 := Tryd.zeroValue4,
 t5 := Tryd.underlying5,
 a5 := Tryd.isAgg5,
 z5 := Tryd.sizeOf5,
 v5 := Tryd.zeroValue5,
 t9 := Tryd.underlying9,
 a9 := Tryd.isAgg9,
 z9 := Tryd.sizeOf9,
 v9 := Tryd.zeroValue9,
 t21 := Tryd.underlying21,
 a21 := Tryd.isAgg21,
 z21 := Tryd.sizeOf21,
 v21 := Tryd.zeroValue21,
 t46 := Tryd.underlying72,
 a46 := Tryd.isAgg72,
 z46 := Tryd.sizeOf72,
 v46 := Tryd.zeroValue72,
 t116 := Tryd.underlying55,
 a116 := Tryd.isAgg55,
 z116 := Tryd.sizeOf55,
 t117 := Tryd.underlying56,
 a117 := Tryd.isAgg56,
 z117 := Tryd.sizeOf56,
 v117 := Tryd.zeroValue56,
 t124 := Tryd.underlying59,
 a124 := Tryd.isAgg59,
 z124 := Tryd.sizeOf59,
 v124 := Tryd.zeroValue59 }

theorem contains_at (s : ByteArray) (w : World) (hs : s.size ≤ 1000) (ha : (s.data.toList.all fun b => decide (b.toNat < 128)) = true) :
  Calls Tryd.prog 8 #[.string s, .string ⟨#[51, 52, 55]⟩] w fun e w' => e = .returned (.bool (Go.Lib.containsAny s.data.toList [51, 52, 55])) ∧ Below w.heap.size w w' :=
 Go.Proofs.Any.strings_ContainsAny_laid Tryd.lays150 (by kernel_rfl) s ⟨#[51, 52, 55]⟩ w (by omega) (by decide) (fun j b hb => of_decide_eq_true (List.all_eq_true.1 ha b (List.mem_of_getElem? hb))) (fun j b hb => of_decide_eq_true (List.all_eq_true.1 (show ([51, 52, 55] : List UInt8).all (fun b => decide (b.toNat < 128)) = true from by decide) b (List.mem_of_getElem? hb)))
/-! ### impl_TurnNumeral_eight: the turned numeral -/
theorem turn_size (f : Nat → Int) (s : ByteArray) : (strOfNums (turnT f s)).size = s.size := by
 unfold strOfNums turnT
 show (((bytesOf s).map _).map _).toArray.size = s.size
 rw [List.size_toArray, List.length_map, List.length_map, bytesOf_length]
theorem back_at (g cr c : Nat) (m : Nat × Nat) (s : ByteArray) (W : World) (h : RowB (Value.int .u8) 5 W g cr m (bytesOf s).reverse) (hs : s.size ≤ 1000) :
  (convert 27 9 (.slice (some ⟨g, 0, none⟩) s.size c)).run Tryd.prog W = .ok (.string (strOfNums (bytesOf s).reverse)) W := by
 have kc : (convert 27 9 (.slice (some ⟨g, 0, none⟩) (bytesOf s).reverse.length c)).run Tryd.prog W = .ok (.string (strOfNums (bytesOf s).reverse)) W := Kd.C_string Tryd.underlying27 Tryd.underlying5 Tryd.underlying9 (h.reads (0 : Int) (by rw [List.length_reverse, bytesOf_length]; omega))
 rwa [List.length_reverse, bytesOf_length] at kc
def impl_TurnNumeral.f (a0 : ByteArray) : Option (ByteArray × Bool) := (impl_isNumeral.f a0 20).bind fun t => if t = true then (if 1 ≤ a0.size ∧ a0.size ≤ 1000 ∧ (a0.data.toList.all fun b => decide (b.toNat < 128)) = true then (if Go.Lib.containsAny a0.data.toList [51, 52, 55] = true then some (⟨#[]⟩, false) else some (strOfNums (bytesOf (strOfNums (turnT turnF a0))).reverse, true)) else none) else some (⟨#[]⟩, false)
set_option maxHeartbeats 8000000 in
set_option maxRecDepth 100000 in
theorem impl_TurnNumeral.calls (a0 : ByteArray) (r1 : ByteArray) (r2 : Bool) (w : World) (h : impl_TurnNumeral.f a0 = some (r1, r2)) :
  Calls Tryd.prog 5 #[.string a0] w fun e w' => e = .returned (.tuple #[.string r1, .bool r2]) ∧ Below w.heap.size w w' := by
 unfold impl_TurnNumeral.f at h
 obtain ⟨t, ht, h⟩ := Option.bind_eq_some_iff.mp h
 have HT := Aside0.mk ht
 clear ht
 cases t with
 | false =>
  rw [if_neg (by decide)] at h
  obtain ⟨rfl, rfl⟩ := Prod.mk.inj (Option.some.inj h)
  clear h
  go_enter Tryd.func5, Tryd.ntmps5
  go_wp2_with (go_at_call 7; (with_reducible refine (impl_isNumeral.calls a0 20 _ _ HT.out).mono ?_); rintro e w1 ⟨rfl, hb⟩)
  go_ret2
  exact ⟨rfl, hb⟩
 | true =>
  rw [if_pos rfl] at h
  by_cases hc : 1 ≤ a0.size ∧ a0.size ≤ 1000 ∧ (a0.data.toList.all fun b => decide (b.toNat < 128)) = true
  ·rw [if_pos hc] at h
   have HC := Aside0.mk hc
   clear hc
   cases hq : Go.Lib.containsAny a0.data.toList [51, 52, 55] with
   | true =>
    rw [hq, if_pos rfl] at h
    obtain ⟨rfl, rfl⟩ := Prod.mk.inj (Option.some.inj h)
    have HQ := Aside0.mk hq
    clear h hq
    go_enter Tryd.func5, Tryd.ntmps5
    go_wp2_with (first
     | (go_at_call 7; (with_reducible refine (impl_isNumeral.calls a0 20 _ _ HT.out).mono ?_); rintro e w1 ⟨rfl, hb1⟩)
     | (go_at_call 8; (with_reducible refine (contains_at a0 _ HC.out.2.1 HC.out.2.2).mono ?_); rintro e w2 ⟨rfl, hb2⟩; rw [HQ.out]))
    go_ret2
    exact ⟨rfl, hb1.trans (hb2.mono hb1.size)⟩
   | false =>
    rw [hq, if_neg (by decide)] at h
    obtain ⟨rfl, rfl⟩ := Prod.mk.inj (Option.some.inj h)
    have HQ := Aside0.mk hq
    clear h hq
    have hz : (strOfNums (turnT turnF a0)).size = a0.size := by rw [turn_size]
    obtain ⟨s2, hs2⟩ : ∃ s2, s2 = strOfNums (turnT turnF a0) := ⟨_, rfl⟩
    rw [← hs2] at hz ⊢
    have kc := fun (w : World) => Go.Lib.run_convert_string_bytes (P := Tryd.prog) w 9 27 5 s2 Tryd.underlying9 Tryd.underlying27 Tryd.underlying5
    have HZ := Aside0.mk (And.intro hz hs2)
    clear hz hs2
    go_enter Tryd.func5, Tryd.ntmps5
    go_wp2_with (first
     | (go_at_call 7; (with_reducible refine (impl_isNumeral.calls a0 20 _ _ HT.out).mono ?_); rintro e w1 ⟨rfl, hb1⟩)
     | (go_at_call 8; (with_reducible refine (contains_at a0 _ HC.out.2.1 HC.out.2.2).mono ?_); rintro e w2 ⟨rfl, hb2⟩; rw [HQ.out])
     | (go_at_call 9; (with_reducible refine (new_replacer w2.heap.size 4 _ (blk_cell (blk_new w2 _) 0) (blk_cell (blk_new w2 _) 1) (blk_cell (blk_new w2 _) 2) (blk_cell (blk_new w2 _) 3)).mono ?_); rintro e w3 ⟨b, ao, cp, rfl, hr, ⟨t0, t1, t2, t3⟩, hgb, hne, hB⟩; have HR := Aside0.mk (replace_at b ao cp _ w3 a0 HC.out.2.1 hgb hB hr hne t0 t1 t2 t3); clear hr t0 t1 t2 t3 hB hne hgb)
     | (go_at_call 10; (with_reducible refine HR.out.mono ?_); rintro e w4 ⟨rfl, hb4⟩; rw [← HZ.out.2])
     | (go_at_call 11; (with_reducible refine (reverse_at _ _ _ _ (bytesOf s2) s2.size (bytesOf_length s2) _ (bytes_row _ s2) (by have := HZ.out.1; have := HC.out.1; omega) (by have := HZ.out.1; have := HC.out.2.1; omega)).mono ?_); rintro e w5 ⟨rfl, hrow, hb5⟩; have kd := fun c => back_at _ _ c _ s2 _ hrow (by have := HZ.out.1; have := HC.out.2.1; omega)))
    go_ret2
    have hA := below_alloc (hb1.trans (hb2.mono hb1.size)) (.cells #[.string ⟨#[54]⟩, .string ⟨#[57]⟩, .string ⟨#[57]⟩, .string ⟨#[54]⟩] 9)
    have hD := hA.trans (hb4.mono hA.size)
    exact ⟨rfl, (hD.trans ((bytes_below w4 s2).mono hD.size)).trans (hb5.mono hD.size)⟩
  ·rw [if_neg hc] at h; cases h

/-! ### laws_FnExactTurnNumeral: function 3 -/
def laws_FnExactTurnNumeral.f (k : Nat) (a0 : ByteArray) : Option (Bool) := if (a0.size : Int) > 1000000 then (some true) else ((spec_TurnNumeral.f k a0).bind fun bt105 => ((impl_TurnNumeral.f a0).bind fun bt107 => (if bt107.1.toList = bt105.1.toList then (if (bt107.2 != bt105.2) = true then (some false) else (some true)) else (some false))))
theorem laws_FnExactTurnNumeral.mono : ∀ a0 k, LeO (laws_FnExactTurnNumeral.f k a0) (laws_FnExactTurnNumeral.f (k + 1) a0) := by
 intro a0 k
 unfold laws_FnExactTurnNumeral.f
 repeat' first
   | (with_reducible exact spec_TurnNumeral.mono _ _)
   | (with_reducible exact LeO.refl _)
   | (with_reducible exact LeO.none _)
   | (with_reducible refine LeO.ite ?_ ?_)
   | (with_reducible refine LeO.bind ?_ (fun _ => ?_))
   | exact spec_TurnNumeral.mono _ _
   | exact LeO.none _
   | refine LeO.ite ?_ ?_
   | refine LeO.bind ?_ (fun _ => ?_)
set_option maxHeartbeats 8000000 in
set_option maxRecDepth 100000 in
theorem laws_FnExactTurnNumeral.calls (k : Nat) (a0 : ByteArray) (r : Bool) (w : World) (hr_ : r = true) (h : laws_FnExactTurnNumeral.f k a0 = some r) :
  Calls Tryd.prog 3 #[.string a0] w fun e w' => e = .returned (.bool r) ∧ Below w.heap.size w w' := by
 have HR_ := Aside0.mk hr_
 clear hr_
 have HB := Aside0.mk (Below.refl w.heap.size w)
 have H : (if (a0.size : Int) > 1000000 then (some true) else ((spec_TurnNumeral.f k a0).bind fun bt105 => ((impl_TurnNumeral.f a0).bind fun bt107 => (if bt107.1.toList = bt105.1.toList then (if (bt107.2 != bt105.2) = true then (some false) else (some true)) else (some false))))) = some r := h
 clear h
 by_cases c2 : (a0.size : Int) > 1000000
 ·rw [if_pos c2] at H
  have c2b0 : decide (1000000 < (a0.size : Int)) = true := decide_eq_true c2
  have c2b1 : decide (1000000 < a0.size) = true := decide_eq_true (by omega)
  clear c2
  obtain rfl := Option.some.inj H
  go_enter Tryd.func3, Tryd.ntmps3
  go_wp2
  go_ret
  exact ⟨by first | rfl | (simp [errW_none, errW_some] <;> rfl) | (simp [*, errW_none, errW_some] <;> rfl), by repeat (first | (with_reducible first | exact HB.out | apply below_alloc | apply pw_below_drewN | apply below_drew1) | exact HB.out)⟩
 ·rw [if_neg c2] at H
  have c2b0 : decide (1000000 < (a0.size : Int)) = false := decide_eq_false c2
  have c2b1 : decide (1000000 < a0.size) = false := decide_eq_false (by omega)
  clear c2
  replace H := Option.bind_eq_some_iff.mp H
  obtain ⟨⟨t105, t106⟩, A30, H⟩ := H
  replace H : ((impl_TurnNumeral.f a0).bind fun bt107 => (if bt107.1.toList = t105.toList then (if (bt107.2 != t106) = true then (some false) else (some true)) else (some false))) = some r := H
  have A3 := Aside0.mk A30
  clear A30
  replace H := Option.bind_eq_some_iff.mp H
  obtain ⟨⟨t107, t108⟩, A40, H⟩ := H
  replace H : (if t107.toList = t105.toList then (if (t108 != t106) = true then (some false) else (some true)) else (some false)) = some r := H
  have A4 := Aside0.mk A40
  clear A40
  by_cases c5 : t107.toList = t105.toList
  ·rw [if_pos c5] at H
   have c5b0 : (t107.toList == t105.toList) = true := beq_iff_eq.mpr c5
   have c5b1 : (t107.toList != t105.toList) = false := bne_eq_false_iff_eq.mpr c5
   clear c5
   by_cases c6 : (t108 != t106) = true
   ·rw [if_pos c6] at H
    have c6b0 : (t108 != t106) = true := c6
    (try (have c6b1 : decide (t108 = t106) = false := by simpa using c6))
    (try (have c6b2 : (t108 == t106) = false := by simpa using c6))
    (try (have c6b3 : ¬ (t108 = t106) := by simpa using c6))
    clear c6
    exact absurd ((Option.some.inj H).trans HR_.out) Bool.false_ne_true
   ·rw [if_neg c6] at H
    have c6b0 : (t108 != t106) = false := by simpa using c6
    (try (have c6b1 : decide (t108 = t106) = true := by simpa using c6))
    (try (have c6b2 : (t108 == t106) = true := by simpa using c6))
    clear c6
    obtain rfl := Option.some.inj H
    go_enter Tryd.func3, Tryd.ntmps3
    go_wp2_with (first | ((with_reducible refine gate_callee (f := 4) rfl ?_); refine goesL_ (some 12) rfl rfl Tryd.func4 (by kernel_rfl) rfl #[.string a0] rfl (by (try simp only [List.map_toArray, List.map_cons, List.map_nil]); first | done | rfl | (simp only [List.length_drop, List.length_take]; rfl)) ?_; (with_reducible refine (spec_TurnNumeral.calls k a0 t105 t106 _ A3.out).mono ?_); rintro e w' ⟨rfl, ⟨nd, rfl⟩⟩; refine ⟨_, rfl, ?_⟩) | ((with_reducible refine gate_callee (f := 5) rfl ?_); refine goesL_ (some 17) rfl rfl Tryd.func5 (by kernel_rfl) rfl #[.string a0] rfl (by (try simp only [List.map_toArray, List.map_cons, List.map_nil]); first | done | rfl | (simp only [List.length_drop, List.length_take]; rfl)) ?_; (with_reducible refine (impl_TurnNumeral.calls a0 t107 t108 _ A4.out).mono ?_); rintro e w7 ⟨rfl, hb⟩; refine ⟨_, rfl, ?_⟩; have n0_ := Aside0.mk (below_step (by repeat (first | (with_reducible first | exact HB.out | apply below_alloc | apply pw_below_drewN | apply below_drew1) | exact HB.out)) hb); clear HB; have HB := n0_; clear n0_; (try clear hb); (try clear hb2); (try clear hk); (try clear hi)))
    go_ret
    exact ⟨by first | rfl | (simp [errW_none, errW_some] <;> rfl) | (simp [*, errW_none, errW_some] <;> rfl), by repeat (first | (with_reducible first | exact HB.out | apply below_alloc | apply pw_below_drewN | apply below_drew1) | exact HB.out)⟩
  ·rw [if_neg c5] at H
   have c5b0 : (t107.toList == t105.toList) = false := beq_eq_false_iff_ne.mpr c5
   have c5b1 : (t107.toList != t105.toList) = true := bne_iff_ne.mpr c5
   exact absurd ((Option.some.inj H).trans HR_.out) Bool.false_ne_true

/-- THE ONE PURE STATEMENT of laws_FnExactTurnNumeral. -/
def laws_FnExactTurnNumeral.Pure : Prop := ∀ (a0 : ByteArray), a0.size ≤ 140737488351232 → ∃ k, laws_FnExactTurnNumeral.f k a0 = some true

end Go.Proofs.YtmjlmmfhcabnfaaDoor.Q
