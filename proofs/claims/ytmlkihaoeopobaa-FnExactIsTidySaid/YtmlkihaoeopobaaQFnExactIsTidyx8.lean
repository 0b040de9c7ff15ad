-- written by a program of this session, pm.py, for this claim
-- half the indentation
import Derived.Test.YtmlkihaoeopobaaQFnExactIsTidyx0
import Derived.Test.YtmlkihaoeopobaaQFnExactIsTidyx4
import Derived.Test.YtmlkihaoeopobaaQFnExactIsTidyx5
import Derived.Test.YtmlkihaoeopobaaQFnExactIsTidyx7
namespace Go.Proofs.Ytmlkihaoeopobaa.Q
open Go.RowKit Go.Proofs.YtmlkihaoeopobaaW.PrintWords Go.Proofs.YtmlkihaoeopobaaW.PrintLast Go.Proofs.YtmlkihaoeopobaaW.PrintMore
attribute [local go_sem] max2_int min2_int max_two min_two max_three min_three max_four min_four   -- for this text's walks alone
set_option linter.unusedVariables false
set_option linter.unusedSimpArgs false

/-! ### impl_of: function 68 -/
/-- The four cells of a square. -/
def encQ (q : S71) : List Value := [.int .i64 q.f0, .int .i64 q.f1, .int .i64 q.f2, .int .u64 q.f3]
def aggQ (q : S71) : Value := .agg #[.int .i64 q.f0, .int .i64 q.f1, .int .i64 q.f2, .int .u64 q.f3]
/-- Where p holds first, counted from i; -1: nowhere. -/
def idxQ (p : S71 → Bool) : List S71 → Int → Int
 | [], _ => -1
 | x :: xs, i => if p x = true then i else idxQ p xs (i + 1)
theorem idxQ_spec (p : S71 → Bool) : ∀ (l : List S71) (i : Int), 0 ≤ i → (idxQ p l i = -1 ∧ l.filter (fun x => !p x) = l) ∨ ∃ k, k < l.length ∧ idxQ p l i = i + (k : Int) ∧ (∃ h : k < l.length, p l[k] = true) ∧ (l.take k).filter (fun x => !p x) = l.take k
 | [], i, _ => .inl ⟨rfl, rfl⟩
 | x :: xs, i, hi => by
  by_cases hp : p x = true
  ·exact .inr ⟨0, by simp, by simp [idxQ, hp], ⟨by simp, by simpa using hp⟩, rfl⟩
  ·have hp' : p x = false := by simpa using hp
   rcases idxQ_spec p xs (i + 1) (by omega) with ⟨h1, h2⟩ | ⟨k, h1, h2, ⟨h3, h4⟩, h5⟩
   ·exact .inl ⟨by simp [idxQ, hp', h1], by simp [hp', h2]⟩
   ·refine .inr ⟨k + 1, by simpa using h1, by simp only [idxQ, hp']; rw [if_neg (by decide), h2]; omega, ⟨by simpa using h1, by simpa using h4⟩, by simp [hp', h5]⟩
/-- A row is cut, and what lies behind is written over. -/
theorem R_cutover {α : Type} {d : Kd α} {e base g n cap i : Nat} {ok : Nat → Prop} {W : World} {xs : List α} (h : d.R e W base ok (.slice (some ⟨g, 0, none⟩) n cap) xs) (hi : i ≤ n) (seg : List Value) (hs : i * d.sz + seg.length ≤ n * d.sz) :
  d.R e (W.setCells g (i * d.sz) seg) base ok (.slice (some ⟨g, 0, none⟩) i cap) (xs.take i) := by
 obtain ⟨hn, hnc, _⟩ := Kd.R_reads' h
 obtain ⟨hok, inner, ho, hr⟩ := Kd.R_take h (show i ≤ xs.length by omega)
 obtain ⟨ho1, ho2⟩ := ho
 refine ⟨hok, inner, ⟨ho1, ?_⟩, hr.imp_ (fun _ _ hp => d.M_move (fun k hk => setCells_far seg _ k (fun he => hk.2 (by rw [he]; simp [Value.ownBlock]))) hp)⟩
 rcases ho2 with ⟨hv, _⟩ | ⟨g', cap', cur, hv, hb, hh, hnc', hcm, hcs, ht⟩
 ·cases hv
 injection hv with ha hl hc
 injection ha with ha
 injection ha with hg
 subst hg; subst hc
 have hfit : i * d.sz + seg.length ≤ cur.size := by
  have : n * d.sz ≤ cap * d.sz := Nat.mul_le_mul_right _ hnc
  omega
 obtain ⟨cur', h3, h4, h5⟩ := setCells_row seg (i * d.sz) W cur hh hfit
 refine .inr ⟨g, cap, cur', by rw [← hl], hb, h3, hnc', hcm, by rw [h4, hcs], ?_⟩
 have hle : (xs.take i).length * d.sz = i * d.sz := by rw [List.length_take, Nat.min_eq_left (by omega)]
 rw [hle] at ht ⊢
 have hcl : cur.toList.length = cur.size := by simp
 rw [h5, List.append_assoc, List.take_append_of_le_length (by rw [List.length_take]; omega), List.take_take, Nat.min_self]
 exact ht
set_option maxHeartbeats 8000000 in
set_option maxRecDepth 100000 in
theorem of_closure (q : S71) (s : Int) (b0 : Nat) (W : World) (hc : W.cell? ⟨b0, 0, none⟩ = some (.int .u64 s)) :
  Calls Try.prog 79 #[aggQ q, .pointer (some ⟨b0, 0, none⟩)] W fun e w' => e = .returned (.bool (Go.bits .andNot .u64 q.f3 s != 0)) ∧ Below W.heap.size W w' := by
 have hb0 : b0 < W.heap.size := World.block_lt_of_cell? W _ hc
 have hne : b0 ≠ W.heap.size := by omega
 obtain ⟨x, y, z, u⟩ := q
 unfold aggQ
 show Calls Try.prog 79 #[.agg #[.int .i64 x, .int .i64 y, .int .i64 z, .int .u64 u], .pointer (some ⟨b0, 0, none⟩)] W _
 go_enter Try.func79, Try.ntmps79
 go_wp2
 go_ret
 exact ⟨rfl, (Below.refl _ _).alloc (Nat.le_refl _) _⟩
set_option maxHeartbeats 8000000 in
set_option maxRecDepth 100000 in
theorem IndexFuncQ (lb : Array Value) (p : S71 → Bool) (w : World) (A : Option Addr) (c : Nat) (l : List S71) (hr : Kd.C k71 w A l.length l) (hl : l.length ≤ 1000000)
  (hp : ∀ (q : S71) (W : World), Below w.heap.size w W → Calls Try.prog 79 (#[aggQ q] ++ lb) W fun e w' => e = .returned (.bool (p q)) ∧ Below W.heap.size W w') :
  Calls Try.prog 83 #[.slice A l.length c, .func (.func 79) #[] lb] w fun e w' => e = .returned (.int .i64 (idxQ p l 0)) ∧ Below w.heap.size w w' := by
 have eg : ∀ args w, (callFunc 79 args).run Try.prog w = .ok (.enter 79 args) w := enters_of Try.func79 (by kernel_rfl) rfl
 have HR := Aside0.mk hr
 have HP := Aside0.mk hp
 clear hr hp
 go_enter Try.func83, Try.ntmps83
 go_wp2
 go_loopg [5, 8] l.length (fun gg _ s8 wr => ∃ kk : Nat, kk ≤ l.length ∧ l.length - kk ≤ gg ∧ s8 = .int .i64 kk ∧ Aside0 (Below w.heap.size w wr) ∧ Aside0 (idxQ p l 0 = idxQ p (l.drop kk) kk))
 case atStart => exact ⟨0, Nat.zero_le _, by omega, rfl, ⟨Below.refl _ _⟩, ⟨by simp⟩⟩
 case round =>
  obtain ⟨kk, hkk, hg, rfl, HB, HI⟩ := hrel
  by_cases hlt : kk < l.length
  ·have hltz : (kk : Int) < (l.length : Int) := by omega
   obtain ⟨ad, hA, h0, h1, h2, h3⟩ := at_T71 (Kd.C_below HR.out HB.out) (kk : Int) (by omega) (by omega)
   rw [Int.toNat_natCast] at h0 h1 h2 h3
   subst hA
   have hx : rd_T71 l (kk : Int) = l[kk] := by unfold rd_T71; rw [Int.toNat_natCast]; simp [List.getD_eq_getElem?_getD, hlt]
   rw [hx] at h0 h1 h2 h3
   have HD := HI.out
   rw [List.drop_eq_getElem_cons hlt] at HD
   simp only [idxQ] at HD
   clear HI hx
   generalize l[kk] = y at *
   have hcall := fun W hb => HP.out y W hb
   unfold aggQ at hcall
   have HC := Aside0.mk hcall
   clear hcall
   cases hq : p y with
   | true =>
    rw [hq, if_pos rfl] at HD
    have HE := Aside0.mk HD
    have HQ := Aside0.mk hq
    clear HD hq
    go_wp2_with (go_at_fn 79; (with_reducible refine (HC.out _ (by repeat (first | exact HB.out | apply pw_below_drewN | apply below_drew))).mono ?_); rw [HQ.out]; rintro e w' ⟨rfl, hb⟩)
    go_ret
    exact ⟨by rw [HE.out] <;> rfl, HB.out.trans (hb.mono HB.out.size)⟩
   | false =>
    rw [hq, if_neg (by decide)] at HD
    have HE := Aside0.mk HD
    have HQ := Aside0.mk hq
    clear HD hq
    go_wp2_with (go_at_fn 79; (with_reducible refine (HC.out _ (by repeat (first | exact HB.out | apply pw_below_drewN | apply below_drew))).mono ?_); rw [HQ.out]; rintro e w' ⟨rfl, hb⟩)
    go_roundg (l.length - (kk + 1))
    case measure => omega
    case rel => exact ⟨kk + 1, by omega, by omega, by go_num, ⟨HB.out.trans (hb.mono HB.out.size)⟩, ⟨HE.out⟩⟩
  ·have hltz : ¬ (kk : Int) < (l.length : Int) := by omega
   have HE : Aside0 (idxQ p l 0 = -1) := ⟨HI.out.trans (by rw [List.drop_of_length_le (by omega)] <;> rfl)⟩
   clear HI
   go_wp2
   go_ret
   exact ⟨by rw [HE.out] <;> rfl, HB.out⟩
/-- Clone: a row of the call's own that holds the same. -/
theorem own_start (d : Kd S71) (e : Nat) (w : World) : d.R e (w.alloc (.cells #[] e)) w.heap.size (fun _ => True) (.slice (some ⟨w.heap.size, 0, none⟩) 0 0) [] :=
 ⟨fun _ _ => trivial, [], World.ownsRow_made w #[] 0 (Nat.le_refl _) (Nat.zero_le _) (by simp), ⟨by simp, fun j x hj => by simp at hj⟩⟩
set_option maxHeartbeats 8000000 in
set_option maxRecDepth 100000 in
theorem CloneQ (w : World) (A : Option Addr) (c : Nat) (l : List S71) (hr : Kd.C k71 w A l.length l) (hl : l.length ≤ 1000000) :
  Calls Try.prog 78 #[.slice A l.length c] w fun e w' => ∃ v, e = .returned v ∧ Kd.R k71 71 w' w.heap.size (fun _ => True) v l ∧ Below w.heap.size w w' := by
 have q : ∀ (w : World) (a : Option Addr) (n c n' c' : Nat), (binOp .eql 63 (.slice a n c) (.slice none n' c')).run Try.prog w = .ok (.bool a.isNone) w := fun w a n c n' c' => Go.Lib.run_eql_slice_nil w _ _ a n c n' c' Try.underlying63
 cases A with
 | none =>
  have h0 : l = [] := by
   rcases Nat.eq_zero_or_pos l.length with h0 | h0
   ·exact List.eq_nil_of_length_eq_zero h0
   ·obtain ⟨ad, h, _⟩ := hr.2.2 h0
    cases h
  subst h0
  go_enter Try.func78, Try.ntmps78
  go_wp2
  go_ret
  exact ⟨_, rfl, Kd.R_nil _ _ _ _ _, Below.refl _ _⟩
 | some ad =>
  have HR := Aside0.mk hr
  clear hr
  go_enter Try.func78, Try.ntmps78
  go_wp2_with (at_builtin; (refine Kd.R_append_rows k71 (w0 := w) w.heap.size rfl (.tmp 5) (.tmp 6) 63 71 (.agg #[.int .i64 0, .int .i64 0, .int .i64 0, .int .u64 0]) 32 rfl Try.underlying63 info71 rfl (by decide) (by omega) (.slice (some ⟨w.heap.size, 0, none⟩) 0 0) [] l _ _ _ (fun _ => True) (fun _ => False) rfl rfl ?aO ?aR (fun _ _ h => h) (fun _ h => h.elim) ?aF ?aB ?aS ?aL ?_))
  case aO => exact own_start _ _ _
  case aR => exact Kd.C_alloc HR.out _
  case aF => exact fun _ _ => trivial
  case aB => exact (Below.refl _ _).alloc (Nat.le_refl _) _
  case aS => simp
  case aL => simp; omega
  intro v1 w1 hR hB _ _
  go_wp2
  go_ret
  exact ⟨_, rfl, hR, hB⟩
/-- clear at elements of several cells. -/
theorem run_clear_k {P : Program} (w : World) (t e ty : TypeId) (z : Value) (ht : P.underlying t = some (.slice e)) (hv : ∀ w, (zeroValue e).run P w = .ok z w) (b o n c : Nat) (hn : 0 < n) (h1 : ∀ v ∈ (Builtin.zeroCells z.cells n).toList, v.oneCell' = true)
  (hc : ∀ j, j < (Builtin.zeroCells z.cells n).toList.length → (w.cell? ⟨b, o + j, none⟩).isSome = true) (hf : ∀ j, j < (Builtin.zeroCells z.cells n).toList.length → w.frozen? ⟨b, o + j, none⟩ = false) :
  (Builtin.clear_ #[t] ty #[.slice (some ⟨b, o, none⟩) n c]).run P w = .ok (.tuple #[]) (w.setCells b o (Builtin.zeroCells z.cells n).toList) := by
 have hst := run_storeCells_cells (P := P) b o (Builtin.zeroCells z.cells n).toList 0 w (by simpa using hc) (by simpa using hf) h1
 simp only [Nat.add_zero] at hst
 obtain ⟨m, rfl⟩ : ∃ m, n = m + 1 := ⟨n - 1, by omega⟩
 simp [Builtin.clear_, run_underlying ht, hv, hst]
theorem below_setCells {B g : Nat} {w W : World} (h : Below B w W) (hg : B ≤ g) : ∀ (vs : List Value) (o : Nat), Below B w (W.setCells g o vs) := by
 intro vs
 induction vs generalizing W with
 | nil => intro o; exact h
 | cons v r ih => intro o; exact ih (h.setCell (p := ⟨g, o, none⟩) hg v) (o + 1)
theorem zero_one (n : Nat) : ∀ v ∈ (Builtin.zeroCells (Value.agg #[.int .i64 0, .int .i64 0, .int .i64 0, .int .u64 0]).cells n).toList, v.oneCell' = true := by
 intro v hv
 simp only [Builtin.zeroCells, Value.cells, Array.toList_map, List.mem_map] at hv
 obtain ⟨k, _, rfl⟩ := hv
 have hk : k % 4 = 0 ∨ k % 4 = 1 ∨ k % 4 = 2 ∨ k % 4 = 3 := by omega
 show (#[Value.int .i64 0, .int .i64 0, .int .i64 0, .int .u64 0][k % 4]!).oneCell' = true
 rcases hk with h | h | h | h <;> rw [h] <;> rfl
theorem take_snoc_f {p : S71 → Bool} {l : List S71} {j : Nat} (hj : j < l.length) : (l.take (j + 1)).filter p = (l.take j).filter p ++ (if p l[j] = true then [l[j]] else []) := by
 rw [List.take_succ_eq_append_getElem hj, List.filter_append]
 congr 1
 by_cases h : p l[j] = true
 ·simp [h]
 ·simp [h]
def inD (p : S71 → Bool) (l xs : List S71) (i j : Nat) : Prop := xs.length = l.length ∧ xs.take i = (l.take j).filter (fun q => !p q) ∧ xs.drop j = l.drop j
theorem inD_get {p : S71 → Bool} {l xs : List S71} {i j : Nat} (h : inD p l xs i j) (hj : j < l.length) : rd_T71 xs (j : Int) = l[j] := by
 obtain ⟨h1, _, h3⟩ := h
 have hj' : j < xs.length := by omega
 rw [List.drop_eq_getElem_cons hj', List.drop_eq_getElem_cons hj] at h3
 unfold rd_T71
 rw [Int.toNat_natCast, List.getD_eq_getElem?_getD, List.getElem?_eq_getElem hj']
 exact (List.cons.inj h3).1
theorem inD_skip {p : S71 → Bool} {l xs : List S71} {i j : Nat} (h : inD p l xs i j) (hj : j < l.length) (hp : p l[j] = true) : inD p l xs i (j + 1) := by
 obtain ⟨h1, h2, h3⟩ := h
 refine ⟨h1, ?_, ?_⟩
 ·rw [h2, take_snoc_f hj, if_neg (by simp [hp]), List.append_nil]
 ·have := congrArg (List.drop 1) h3
  rwa [List.drop_drop, List.drop_drop] at this
theorem inD_keep {p : S71 → Bool} {l xs : List S71} {i j : Nat} (h : inD p l xs i j) (hj : j < l.length) (hij : i < j) (hp : p l[j] = false) : inD p l (xs.set i l[j]) (i + 1) (j + 1) := by
 obtain ⟨h1, h2, h3⟩ := h
 refine ⟨by rw [List.length_set, h1], ?_, ?_⟩
 ·rw [take_snoc_f hj, if_pos (by simp [hp]), ← h2, List.take_succ_eq_append_getElem (by rw [List.length_set]; omega), List.take_set_of_le (Nat.le_refl _), List.getElem_set_self]
 ·rw [List.drop_set_of_lt (by omega)]
  have := congrArg (List.drop 1) h3
  rwa [List.drop_drop, List.drop_drop] at this
theorem inD_start {p : S71 → Bool} {l : List S71} {k : Nat} (hk : k < l.length) (hp : p l[k] = true) (hf : (l.take k).filter (fun q => !p q) = l.take k) : inD p l l k (k + 1) := by
 refine ⟨rfl, ?_, rfl⟩
 rw [take_snoc_f hk, if_neg (by simp [hp]), List.append_nil, hf]
set_option maxHeartbeats 8000000 in
set_option maxRecDepth 100000 in
theorem DeleteFuncQ (s : Int) (b0 B : Nat) (w : World) (A : Option Addr) (c : Nat) (l : List S71) (hl : l.length ≤ 1000000) (hR : Kd.R k71 71 w B (fun _ => True) (.slice A l.length c) l) (hB : B ≤ w.heap.size)
  (hb0 : w.cell? ⟨b0, 0, none⟩ = some (.int .u64 s)) (hne : (Value.slice A l.length c).ownBlock ≠ some b0) :
  Calls Try.prog 77 #[.slice A l.length c, .func (.func 79) #[] #[.pointer (some ⟨b0, 0, none⟩)]] w fun e w' => ∃ v, e = .returned v ∧ Kd.R k71 71 w' B (fun _ => True) v (l.filter (fun q => !(Go.bits .andNot .u64 q.f3 s != 0))) ∧ Below B w w' := by
 obtain ⟨p, hp⟩ : ∃ p : S71 → Bool, p = fun q => Go.bits .andNot .u64 q.f3 s != 0 := ⟨_, rfl⟩
 have hblt : b0 < w.heap.size := World.block_lt_of_cell? w _ hb0
 have eg : ∀ args w, (callFunc 79 args).run Try.prog w = .ok (.enter 79 args) w := enters_of Try.func79 (by kernel_rfl) rfl
 have hcl : ∀ (q : S71) (W : World), W.cell? ⟨b0, 0, none⟩ = some (.int .u64 s) → Calls Try.prog 79 #[aggQ q, .pointer (some ⟨b0, 0, none⟩)] W fun e w' => e = .returned (.bool (p q)) ∧ Below W.heap.size W w' := fun q W hc => by
  rw [hp]
  exact of_closure q s b0 W hc
 have hIF := IndexFuncQ #[.pointer (some ⟨b0, 0, none⟩)] p w A c l (Kd.R_reads' hR).2.2 hl (fun q W hb => hcl q W ((hb.cell (p := ⟨b0, 0, none⟩) hblt).trans hb0))
 rw [show (fun q : S71 => !(Go.bits .andNot .u64 q.f3 s != 0)) = (fun q => !p q) by rw [hp]]
 clear hp
 have HC := Aside0.mk hcl
 clear hcl
 rcases idxQ_spec p l 0 (by omega) with ⟨h1, h2⟩ | ⟨k0, h1, h2, ⟨h3, h4⟩, h5⟩
 ·rw [h1] at hIF
  rw [h2]
  have HI := Aside0.mk hIF
  have HR := Aside0.mk hR
  clear hIF hR hb0 h1 h2 hne
  go_enter Try.func77, Try.ntmps77
  go_wp2_with (go_at_call 83; (with_reducible refine HI.out.mono ?_); rintro e w' ⟨rfl, hb⟩)
  go_ret
  exact ⟨_, rfl, Kd.R_below HR.out hb, hb.mono hB⟩
 ·rw [h2] at hIF
  rw [show (0 : Int) + (k0 : Int) = (k0 : Int) by omega] at hIF
  have hnil : l.length ≠ 0 := by omega
  have hg : ∃ g, A = some ⟨g, 0, none⟩ ∧ B ≤ g := by
   obtain ⟨inner, ho⟩ := Kd.R_own hR
   rcases ho.2 with ⟨hv, h0⟩ | ⟨g, cap, cur, hv, hb, _⟩
   ·exact absurd h0 hnil
   ·injection hv with ha
    exact ⟨g, ha, hb⟩
  obtain ⟨g, rfl, hBg⟩ := hg
  have hgb : g ≠ b0 := fun he => hne (by rw [he]; rfl)
  have hD := inD_start h3 h4 h5
  have hglt : g < w.heap.size := Kd.R_lt hR g rfl
  have HI := Aside0.mk hIF
  have HR := Aside0.mk hR
  have H0 := Aside0.mk hb0
  have HD := Aside0.mk hD
  have hc1 := (Kd.R_reads' hR).2.1
  have hne1 : ((k0 : Int) == -1) = false := beq_eq_false_iff_ne.2 (by omega)
  clear hIF hR hb0 h2 h3 h4 h5 hne hD
  go_enter Try.func77, Try.ntmps77
  go_wp2_with (go_at_call 83; (with_reducible refine HI.out.mono ?_); rintro e w' ⟨rfl, hb⟩)
  go_loopg [5, 6, 7] l.length (fun gg s5 s6 _ wr => ∃ (i j : Nat) (xs : List S71), s5 = .int .i64 i ∧ s6 = .int .i64 j ∧ j ≤ l.length ∧ l.length - j ≤ gg ∧ i < j ∧ Aside0 (Below B w wr) ∧ Aside0 (Kd.R k71 71 wr B (fun _ => True) (.slice (some ⟨g, 0, none⟩) l.length c) xs) ∧ Aside0 (wr.cell? ⟨b0, 0, none⟩ = some (.int .u64 s)) ∧ Aside0 (inD p l xs i j))
  case atStart => exact ⟨k0, k0 + 1, l, rfl, by go_num, by omega, by omega, by omega, ⟨hb.mono hB⟩, ⟨Kd.R_below HR.out hb⟩, ⟨(hb.cell (p := ⟨b0, 0, none⟩) hblt).trans H0.out⟩, HD⟩
  case round =>
   clear HI HR H0 HD hb hne1
   obtain ⟨i, j, xs, rfl, rfl, hj, hgg, hij, HB, HR, H0, HD⟩ := hrel
   have hxl : xs.length = l.length := HD.out.1
   by_cases hlt : j < l.length
   ·have hltz : (j : Int) < (l.length : Int) := by omega
    obtain ⟨ad, hA, h0, h1, h2, h3⟩ := at_T71 (Kd.R_reads' HR.out).2.2 (j : Int) (by omega) (by omega)
    rw [Int.toNat_natCast] at h0 h1 h2 h3
    injection hA with hA
    subst hA
    rw [inD_get HD.out hlt] at h0 h1 h2 h3
    have hkeep := fun hq => inD_keep (p := p) HD.out hlt hij hq
    have hskip := fun hq => inD_skip (p := p) HD.out hlt hq
    generalize l[j] = y at *
    have HK := Aside0.mk hkeep
    have HS := Aside0.mk hskip
    clear hkeep hskip
    simp only [add_plain] at h0 h1 h2 h3
    have hcall := fun W hb => HC.out y W hb
    unfold aggQ at hcall
    have HCC := Aside0.mk hcall
    clear hcall
    cases hq : p y with
    | true =>
     have HQ := Aside0.mk hq
     clear hq
     go_wp2_with (go_at_fn 79; (with_reducible refine (HCC.out _ (by first | exact H0.out | exact Go.Lib.cell?_alloc_some _ H0.out)).mono ?_); rw [HQ.out]; rintro e w1 ⟨rfl, hb⟩)
     go_roundg (l.length - (j + 1))
     case measure => omega
     case rel =>
      have hs1 := HB.out.size
      have hs2 := hb.size
      have hlt0 := World.block_lt_of_cell? wr _ H0.out
      exact ⟨i, j + 1, xs, rfl, by go_num, by omega, by omega, by omega, ⟨(HB.out.alloc (by omega) _).trans (hb.mono (by simp; omega))⟩, ⟨Kd.R_below (Kd.R_alloc HR.out _) hb⟩, ⟨(hb.cell (p := ⟨b0, 0, none⟩) (by simp; omega)).trans (Go.Lib.cell?_alloc_some _ H0.out)⟩, ⟨HS.out HQ.out⟩⟩
    | false =>
     have HQ := Aside0.mk hq
     clear hq
     go_wp2_with (first | (go_at_fn 79; (with_reducible refine (HCC.out _ (by first | exact H0.out | exact Go.Lib.cell?_alloc_some _ H0.out)).mono ?_); rw [HQ.out]; rintro e w1 ⟨rfl, hb⟩; have hv0 : w1.cell? ⟨wr.heap.size, 0, none⟩ = some (.int .i64 y.f0) := (hb.cell (p := ⟨wr.heap.size, 0, none⟩) (by simp)).trans (by rw [World.cell?_alloc_at _ _ _ _ rfl]; rfl); have hv1 : w1.cell? ⟨wr.heap.size, 1, none⟩ = some (.int .i64 y.f1) := (hb.cell (p := ⟨wr.heap.size, 1, none⟩) (by simp)).trans (by rw [World.cell?_alloc_at _ _ _ _ rfl]; rfl); have hv2 : w1.cell? ⟨wr.heap.size, 2, none⟩ = some (.int .i64 y.f2) := (hb.cell (p := ⟨wr.heap.size, 2, none⟩) (by simp)).trans (by rw [World.cell?_alloc_at _ _ _ _ rfl]; rfl); have hv3 : w1.cell? ⟨wr.heap.size, 3, none⟩ = some (.int .u64 y.f3) := (hb.cell (p := ⟨wr.heap.size, 3, none⟩) (by simp)).trans (by rw [World.cell?_alloc_at _ _ _ _ rfl]; rfl)) | ((with_reducible refine gate_ (.store 71 (.tmp 33) (.tmp 32)) rfl ?_); obtain ⟨cc, hcc, _, hccc, _⟩ := Kd.R_elem (Kd.R_below (Kd.R_alloc HR.out (.cells #[.int .i64 y.f0, .int .i64 y.f1, .int .i64 y.f2, .int .u64 y.f3] 71)) hb) z71 (i : Int) (by omega) (by omega); (refine Kd.R_store k71 (w0 := w) B rfl rfl 71 (.tmp 33) (.tmp 32) rfl 71 (i : Int) 0 xs y (.agg #[.int .i64 y.f0, .int .i64 y.f1, .int .i64 y.f2, .int .u64 y.f3]) [.int .i64 y.f0, .int .i64 y.f1, .int .i64 y.f2, .int .u64 y.f3] cc (fun _ => True) (fun _ => False) rfl ?so rfl rfl ?st ?s1 (Kd.R_below (Kd.R_alloc HR.out _) hb) (by omega) (by omega) hcc hccc ?sj ?sM (fun _ h => h.elim) ?sB ?_)))
     case so => show i * 4 = (i : Int).toNat * 4 + 0; omega
     case st => kernel_rfl
     case s1 =>
      intro q hq
      simp only [List.mem_cons, List.not_mem_nil, or_false] at hq
      rcases hq with rfl | rfl | rfl | rfl <;> rfl
     case sj => exact Nat.le_refl 4
     case sM =>
      have hd : cc.drop (0 + 4) = [] := List.drop_eq_nil_of_le (by rw [hcc]; exact Nat.le_refl 4)
      show Kd.M k71 _ _ _ _ (cc.take 0 ++ [.int .i64 y.f0, .int .i64 y.f1, .int .i64 y.f2, .int .u64 y.f3] ++ cc.drop (0 + 4))
      rw [hd]
      exact k71_mkM _ _ _ _
     case sB =>
      have hs1 := HB.out.size
      exact (HB.out.alloc (by omega) _).trans (hb.mono (by simp; omega))
     intro w2 hR2 hB2 hg2
     have hs1 := HB.out.size
     have hs2 := hb.size
     have hlt0 := World.block_lt_of_cell? wr _ H0.out
     have hc2 : w2.cell? ⟨b0, 0, none⟩ = some (.int .u64 s) := by
      have hc := (hb.cell (p := ⟨b0, 0, none⟩) (by simp; omega)).trans (Go.Lib.cell?_alloc_some _ H0.out)
      have h := hg2.block b0 (World.block_lt_of_cell? _ _ hc) (by intro he; injection he with he; exact hgb he.symm)
      simpa [World.cell?, h] using hc
     have H2 := Aside0.mk hc2
     have HR2 := Aside0.mk hR2
     have HB2 := Aside0.mk hB2
     clear hc2 hR2 hB2 hg2 hv0 hv1 hv2 hv3 h0 h1 h2 h3 hcc hccc
     go_wp2
     go_roundg (l.length - (j + 1))
     case measure => omega
     case rel => exact ⟨i + 1, j + 1, xs.set i y, by go_num, by go_num, by omega, by omega, by omega, HB2, HR2, H2, ⟨HK.out HQ.out⟩⟩
   ·have hje : j = l.length := by omega
    subst hje
    have hltz : ¬ (l.length : Int) < (l.length : Int) := by omega
    obtain ⟨inner, ho⟩ := Kd.R_own HR.out
    have hcells : ∃ cur, wr.heap[g]? = some (.cells cur 71 (0, 0)) ∧ cur.size = c * 4 := by
     rcases ho.2 with ⟨hv, h0⟩ | ⟨g', cap, cur, hv, hb, hh, _, _, hcs, _⟩
     ·cases hv
     ·injection hv with ha _ hc
      injection ha with ha
      injection ha with hg'
      subst hg'; subst hc
      exact ⟨cur, hh, hcs⟩
    obtain ⟨cur, hh, hcs⟩ := hcells
    have hlen : (Builtin.zeroCells (Value.agg #[.int .i64 0, .int .i64 0, .int .i64 0, .int .u64 0]).cells (l.length - i)).toList.length = (l.length - i) * 4 := by simp [Builtin.zeroCells, Value.cells]
    have hclr : ∀ ty, (Builtin.clear_ #[63] ty #[.slice (some ⟨g, i * 4, none⟩) (l.length - i) (c - i)]).run Try.prog wr = .ok (.tuple #[]) (wr.setCells g (i * 4) (Builtin.zeroCells (Value.agg #[.int .i64 0, .int .i64 0, .int .i64 0, .int .u64 0]).cells (l.length - i)).toList) :=
     fun ty => run_clear_k wr 63 71 ty _ Try.underlying63 (fun w => by kernel_rfl) g (i * 4) _ _ (by omega) (zero_one _) (fun j hj => by rw [hlen] at hj; rw [cell_of_row wr g _ cur 71 (0, 0) hh]; simp; omega) (fun j _ => blk_frozen hh _)
    generalize hz : (Builtin.zeroCells (Value.agg #[.int .i64 0, .int .i64 0, .int .i64 0, .int .u64 0]).cells (l.length - i)).toList = seg at *
    have HZ := Aside0.mk hlen
    have hc1' := hc1
    clear hz hlen hh hcs ho
    go_wp2
    go_ret
    have hfil : l.filter (fun q => !p q) = xs.take i := by
     have := HD.out.2.1
     rw [List.take_length] at this
     exact this.symm
    rw [hfil]
    exact ⟨_, rfl, R_cutover HR.out (by omega) seg (by rw [HZ.out]; show i * 4 + (l.length - i) * 4 ≤ l.length * 4; omega), below_setCells HB.out hBg _ _⟩
/-- Those squares all of whose edges a set has. -/
def keepQ (s : Int) (q : S71) : Bool := !(Go.bits .andNot .u64 q.f3 s != 0)
def impl_of.f (l0 : List S71) (a1 : Int) : Option (List S71) := if l0.length ≤ 1000000 then some (l0.filter (keepQ a1)) else none
set_option maxHeartbeats 8000000 in
set_option maxRecDepth 100000 in
theorem impl_of.calls (A0 : Option Addr) (c0 : Nat) (l0 : List (S71)) (a1 : Int) (r : List (S71)) (w : World) (hr0 : Kd.C k71 w A0 l0.length l0) (hc0 : l0.length ≤ c0) (h : impl_of.f l0 a1 = some r) :
  Calls Try.prog 68 #[.slice A0 l0.length c0, .int .u64 a1] w fun e w' => ∃ v0_ : Value, e = .returned (v0_) ∧ Kd.R k71 71 w' w.heap.size (fun _ => True) v0_ r ∧ Below w.heap.size w w' := by
 unfold impl_of.f at h
 by_cases hl : l0.length ≤ 1000000
 ·rw [if_pos hl] at h
  obtain rfl := Option.some.inj h
  clear h
  have hmf : ∀ (fn : Fn) (first cap : Array Value) (w : World), (Instr.makeFunc fn first cap).run Try.prog w = .ok (.func fn first cap) w := fun _ _ _ _ => rfl
  have hclone := CloneQ (w.alloc (.cells #[.int .u64 a1] 55)) A0 c0 l0 (Kd.C_alloc hr0 _) hl
  have HC := Aside0.mk hclone
  have HL := Aside0.mk hl
  clear hclone hr0 hc0 hl
  have hkq : l0.filter (keepQ a1) = l0.filter (fun q => !(Go.bits .andNot .u64 q.f3 a1 != 0)) := rfl
  have HK := Aside0.mk hkq
  clear hkq
  generalize l0.filter (keepQ a1) = res at *
  go_enter Try.func68, Try.ntmps68
  go_wp2_with (first
   | (go_at_call 78; (with_reducible refine HC.out.mono ?_); rintro e w1 ⟨v1, rfl, hR1, hB1⟩; obtain ⟨A1, c1, rfl⟩ := Kd.R_slice hR1; have h01 : w1.cell? ⟨w.heap.size, 0, none⟩ = some (.int .u64 a1) := (hB1.cell (p := ⟨w.heap.size, 0, none⟩) (by simp)).trans (by rw [World.cell?_alloc_at _ _ _ _ rfl]; rfl); have HR1 := Aside0.mk hR1; have HB1 := Aside0.mk hB1; have H01 := Aside0.mk h01; clear hR1 hB1 h01)
   | (go_at_call 77; (with_reducible refine (DeleteFuncQ a1 w.heap.size (w.alloc (.cells #[.int .u64 a1] 55)).heap.size _ A1 c1 l0 HL.out HR1.out HB1.out.size H01.out (fun he => by have := Kd.R_base HR1.out _ he; simp at this; omega)).mono ?_); rintro e w2 ⟨v2, rfl, hR2, hB2⟩))
  go_ret
  refine ⟨_, rfl, ?_, ?_⟩
  ·rw [HK.out]
   exact Kd.R_lower hR2 (by simp)
  ·exact (((Below.refl _ w).alloc (Nat.le_refl _) _).trans (HB1.out.mono (by simp))).trans (hB2.mono (by simp))
 ·rw [if_neg hl] at h; cases h

/-! ### impl_needless: function 42 -/
def impl_needless.l0 : Nat → Int → List (S71) → Int → Int → Option (Int)
 | 0, _, _, _, _ => none
 | k + 1, x5, x11, x12, x13 => if x13 < x12 then (if 0 ≤ x13 then (if x13 < (x11.length : Int) then (impl_needless.l0 k (Go.bits .andNot .u64 x5 ((rd_T71 x11 x13).f3)) x11 x12 (wrap64 (x13 + 1))) else (none)) else (none)) else (some x5)
def impl_needless.f (k : Nat) (l0 : List (S71)) (a1 : Int) : Option (Int) := (impl_of.f l0 a1).bind fun t204 => (impl_needless.l0 k a1 t204 (t204.length : Int) 0)
theorem impl_needless.mono_l : ∀ k, (∀ y0 y1 y2 y3, LeO (impl_needless.l0 k y0 y1 y2 y3) (impl_needless.l0 (k + 1) y0 y1 y2 y3))
 | 0 => fun _ _ _ _ r h => by simp [impl_needless.l0] at h
 | k + 1 => by
  have ih0 := impl_needless.mono_l k
  ·intro y0 y1 y2 y3
   unfold impl_needless.l0
   repeat' first
   | (with_reducible exact ih0 _ _ _ _)
   | (with_reducible exact LeO.refl _)
   | (with_reducible exact LeO.none _)
   | (with_reducible refine LeO.ite ?_ ?_)
   | (with_reducible refine LeO.bind ?_ (fun _ => ?_))
   | exact ih0 _ _ _ _
   | exact LeO.none _
   | refine LeO.ite ?_ ?_
   | refine LeO.bind ?_ (fun _ => ?_)
theorem impl_needless.mono : ∀ a0 a1 k, LeO (impl_needless.f k a0 a1) (impl_needless.f (k + 1) a0 a1) := by
 intro a0 a1 k
 have ih0 := impl_needless.mono_l k
 unfold impl_needless.f
 repeat' first
   | (with_reducible exact ih0 _ _ _ _)
   | (with_reducible exact LeO.refl _)
   | (with_reducible exact LeO.none _)
   | (with_reducible refine LeO.ite ?_ ?_)
   | (with_reducible refine LeO.bind ?_ (fun _ => ?_))
   | exact ih0 _ _ _ _
   | exact LeO.none _
   | refine LeO.ite ?_ ?_
   | refine LeO.bind ?_ (fun _ => ?_)
set_option maxHeartbeats 8000000 in
set_option maxRecDepth 100000 in
theorem impl_needless.calls (k : Nat) (A0 : Option Addr) (c0 : Nat) (l0 : List (S71)) (a1 : Int) (r : Int) (w : World) (hr0 : Kd.C k71 w A0 l0.length l0) (hc0 : l0.length ≤ c0) (h : impl_needless.f k l0 a1 = some r) :
  Calls Try.prog 42 #[.slice A0 l0.length c0, .int .u64 a1] w fun e w' => e = .returned (.int .u64 r) ∧ Below w.heap.size w w' := by
 have hu71 := Try.underlying71
 have HR0 := Aside0.mk hr0
 have HC0 := Aside0.mk hc0
 clear hr0 hc0
 have HB := Aside0.mk (Below.refl w.heap.size w)
 have H : ((impl_of.f l0 a1).bind fun t204 => (impl_needless.l0 k a1 t204 (t204.length : Int) 0)) = some r := h
 clear h
 replace H := Option.bind_eq_some_iff.mp H
 obtain ⟨t204, A30, H⟩ := H
 replace H : (impl_needless.l0 k a1 t204 (t204.length : Int) 0) = some r := H
 have A3 := Aside0.mk A30
 clear A30
 have H' := Aside0.mk H
 clear H
 go_enter Try.func42, Try.ntmps42
 go_wp2_with (first | ((with_reducible refine gate_callee (f := 68) rfl ?_); refine goesL_ (some 11) rfl rfl Try.func68 (by kernel_rfl) rfl #[.slice A0 l0.length c0, .int .u64 a1] rfl (by (try simp only [List.map_toArray, List.map_cons, List.map_nil]); first | done | rfl | (simp only [List.length_drop, List.length_take]; rfl)) ?_; (with_reducible refine (impl_of.calls _ _ l0 a1 t204 _ ?side1 ?side2 A3.out).mono ?_); (case side1 => repeat (first | exact HR0.out | (with_reducible refine Kd.C_alloc ?_ _) | (with_reducible refine Kd.C_drewN ?_ _) | (with_reducible refine Kd.C_drew ?_))); (case side2 => exact HC0.out); rintro e w4 ⟨v205, rfl, ho0, hb⟩; refine ⟨_, rfl, ?_⟩; have n0_ := Aside0.mk (Kd.R_lower ho0 (below_size (by repeat (first | (with_reducible first | exact HB.out | apply below_alloc | apply pw_below_drewN | apply below_drew1) | exact HB.out)))); have n1_ := Aside0.mk (below_step (by repeat (first | (with_reducible first | exact HB.out | apply below_alloc | apply pw_below_drewN | apply below_drew1) | exact HB.out)) hb); clear HB; have HO206 := n0_; have HB := n1_; clear n0_ n1_; (try clear hb); (try clear hb2); (try clear hk); (try clear hi); (try clear ho0); obtain ⟨Ao5, co5, eo5⟩ := Kd.R_slice HO206.out; subst eo5))
 go_loopg [5, 13] k (fun kq v5 v13 w' => ∃ (x5_1 : Int) (x13_1 : Int), v5 = .int .u64 x5_1 ∧ v13 = .int .i64 x13_1 ∧ Aside0 (impl_needless.l0 kq x5_1 t204 (t204.length : Int) x13_1 = some r) ∧ Aside0 (kq ≤ k) ∧ Aside0 (Kd.R k71 71 w' w.heap.size (fun _ => True) (.slice Ao5 t204.length co5) t204) ∧ Aside0 (Below w.heap.size w w'))
 case atStart => exact ⟨(a1), (0), (by first | rfl | (simp; done) | (simp [*]; done)), (by first | rfl | (simp; done) | (simp [*]; done)), H', ⟨Nat.le_refl _⟩, ⟨by (with_reducible repeat (first | apply Kd.R_alloc | apply Kd.R_drewN | apply Kd.R_drew)); exact HO206.out⟩, ⟨by repeat (first | (with_reducible first | exact HB.out | apply below_alloc | apply pw_below_drewN | apply below_drew1) | exact HB.out)⟩⟩
 case round =>
  clear H'
  try clear p2
  try clear c4
  obtain ⟨x5_1, x13_1, rfl, rfl, HA, HK1, HO_11, HB⟩ := hrel
  cases gk with
  | zero => exact absurd HA.out (by simp [impl_needless.l0])
  | succ k1 =>
   have H := HA.out
   clear HA
   simp only [impl_needless.l0] at H
   by_cases c6 : x13_1 < (t204.length : Int)
   ·rw [if_pos c6] at H
    have c6b0 : decide (x13_1 < (t204.length : Int)) = true := decide_eq_true c6
    clear c6
    by_cases c7 : 0 ≤ x13_1
    ·rw [if_pos c7] at H
     have c7b0 : decide (0 ≤ x13_1) = true := decide_eq_true c7
     clear c7
     by_cases c8 : x13_1 < (t204.length : Int)
     ·rw [if_pos c8] at H
      have c8b0 : decide (x13_1 < (t204.length : Int)) = true := decide_eq_true c8
      clear c8
      have H' := Aside0.mk H
      clear H
      have p207 : 0 ≤ (x13_1 : Int) := of_decide_eq_true (by first | (with_reducible assumption) | assumption)
      have q207 : x13_1 < (t204.length : Int) := of_decide_eq_true (by first | (with_reducible assumption) | assumption)
      obtain ⟨ad207, e207, hx207_0, hx207_1, hx207_2, hx207_3⟩ := at_T71 (Kd.R_reads' HO_11.out).2.2 x13_1 p207 q207
      cases e207
      replace p207 := eq_true p207
      replace q207 := eq_true q207
      go_wp2_with (first | ((with_reducible refine gate_dst (N := 7) rfl ?_); refine box_event ?hg (N := 7) ?hd (cs := #[.int .i64 0, .int .i64 0, .int .i64 0, .int .u64 0]) (t := 71) ?hr ?_; (case hd => rfl); (case hg => rfl); (case hr => first | (go_simp; done) | (go_simp; rfl)); intro gb208 hg w9 hbox hb; have n0_ := Aside0.mk (Kd.R_below (Kd.R_elderB (by (with_reducible repeat (first | apply Kd.R_alloc | apply Kd.R_drewN | apply Kd.R_drew)); exact HO_11.out) gb208 (Nat.le_of_eq hg.symm)) hb); have n1_ := Aside0.mk (below_step (by repeat (first | (with_reducible first | exact HB.out | apply below_alloc | apply pw_below_drewN | apply below_drew1) | exact HB.out)) hb); have n2_ := Aside0.mk (hbox); have n3_ := Aside0.mk ((by rw [hg]; exact (below_size (by repeat (first | (with_reducible first | exact HB.out | apply below_alloc | apply pw_below_drewN | apply below_drew1) | exact HB.out))) : w.heap.size ≤ gb208)); have n4_ := Aside0.mk ((by rw [hg]; exact (below_size (by repeat (first | (with_reducible first | exact HB.out | apply below_alloc | apply pw_below_drewN | apply below_drew1) | exact HB.out))) : w.heap.size ≤ gb208)); clear HO_11; clear HB; have HO_11 := n0_; have HB := n1_; have BK208 := n2_; have GW208 := n3_; have GE208 := n4_; clear n0_ n1_ n2_ n3_ n4_; clear hb hbox hg; have hcz10_0 : w9.cell? ⟨gb208, 0, none⟩ = some (.int .i64 0) := (blk_cell BK208.out 0).trans rfl; have hcz10_1 : w9.cell? ⟨gb208, 1, none⟩ = some (.int .i64 0) := (blk_cell BK208.out 1).trans rfl; have hcz10_2 : w9.cell? ⟨gb208, 2, none⟩ = some (.int .i64 0) := (blk_cell BK208.out 2).trans rfl; have hcz10_3 : w9.cell? ⟨gb208, 3, none⟩ = some (.int .u64 0) := (blk_cell BK208.out 3).trans rfl; have hfz10_0 := blk_frozen BK208.out 0; have hfz10_1 := blk_frozen BK208.out 1; have hfz10_2 := blk_frozen BK208.out 2; have hfz10_3 := blk_frozen BK208.out 3))
      go_roundg k1
      case measure => have := HK1.out; omega
      case rel => exact ⟨(Go.bits .andNot .u64 x5_1 ((rd_T71 t204 x13_1).f3)), (wrap64 (x13_1 + 1)), (by first | rfl | (simp; done) | (simp [*]; done)), (by first | rfl | (simp; done) | (simp [*]; done)), H', ⟨by have := HK1.out; omega⟩, ⟨by (with_reducible repeat (first | apply Kd.R_alloc | apply Kd.R_drewN | apply Kd.R_drew)); exact Kd.R_mono (Kd.R_far (p := ⟨gb208, 3, none⟩) (Kd.R_far (p := ⟨gb208, 2, none⟩) (Kd.R_far (p := ⟨gb208, 1, none⟩) (Kd.R_far (p := ⟨gb208, 0, none⟩) (Kd.R_mono HO_11.out (fun k_ hk => (⟨hk, hk.2⟩ : _ ∧ k_ ≠ gb208))) (fun _ hk => hk.2) (.int .i64 ((rd_T71 t204 x13_1).f0))) (fun _ hk => hk.2) (.int .i64 ((rd_T71 t204 x13_1).f1))) (fun _ hk => hk.2) (.int .i64 ((rd_T71 t204 x13_1).f2))) (fun _ hk => hk.2) (.int .u64 ((rd_T71 t204 x13_1).f3))) (fun _ hk => trivial)⟩, ⟨by repeat (first | (with_reducible first | exact HB.out | apply below_alloc | apply pw_below_drewN | apply below_drew1 | refine below_set ?_ GE208.out) | exact HB.out)⟩⟩
     ·rw [if_neg c8] at H
      exact absurd H (by simp)
    ·rw [if_neg c7] at H
     exact absurd H (by simp)
   ·rw [if_neg c6] at H
    have c6b0 : decide (x13_1 < (t204.length : Int)) = false := decide_eq_false c6
    clear c6
    obtain rfl := Option.some.inj H
    go_wp2
    go_ret
    exact ⟨by first | rfl | (simp [errW_none, errW_some] <;> rfl) | (simp [*, errW_none, errW_some] <;> rfl), by repeat (first | (with_reducible first | exact HB.out | apply below_alloc | apply pw_below_drewN | apply below_drew1) | exact HB.out)⟩

/-! ### impl_IsTidy: function 17 -/
def impl_IsTidy.f (k : Nat) (a0_0 : Int) (a0_1 : Int) (l0_2 : List Int) (l0_3 : List Int) : Option (Bool × Bool) := (impl_IsFigure.f k a0_0 a0_1 l0_2 l0_3).bind fun t210 => (if t210 = true then ((impl_Figure_grid.f a0_0 a0_1 l0_2 l0_3).bind fun bt211 => ((impl_grid_squares.f k bt211.1 bt211.2).bind fun t213 => ((impl_Figure_set.f k a0_0 a0_1 l0_2 l0_3).bind fun t216 => ((impl_needless.f k t213 t216).bind fun t217 => (some ((t217 == 0), true)))))) else (some (false, false)))
theorem impl_IsTidy.mono : ∀ a0 a1 a2 a3 k, LeO (impl_IsTidy.f k a0 a1 a2 a3) (impl_IsTidy.f (k + 1) a0 a1 a2 a3) := by
 intro a0 a1 a2 a3 k
 unfold impl_IsTidy.f
 repeat' first
   | (with_reducible exact impl_Figure_set.mono _ _ _ _ _)
   | (with_reducible exact impl_IsFigure.mono _ _ _ _ _)
   | (with_reducible exact impl_grid_squares.mono _ _ _)
   | (with_reducible exact impl_needless.mono _ _ _)
   | (with_reducible exact LeO.refl _)
   | (with_reducible exact LeO.none _)
   | (with_reducible refine LeO.ite ?_ ?_)
   | (with_reducible refine LeO.bind ?_ (fun _ => ?_))
   | exact impl_Figure_set.mono _ _ _ _ _
   | exact impl_IsFigure.mono _ _ _ _ _
   | exact impl_grid_squares.mono _ _ _
   | exact impl_needless.mono _ _ _
   | exact LeO.none _
   | refine LeO.ite ?_ ?_
   | refine LeO.bind ?_ (fun _ => ?_)
def impl_IsTidy.T3 : Bool × List (List Nat × List Nat) := (true, [([], []), ([0], [0]), ([1, 1], [1]), ([], []), ([3, 2], [3]), ([2, 4, 4], [2, 4]), ([5], [5]), ([6, 5, 0, 1, 2, 3, 4, 5, 6], [6]), ([7, 0, 1, 2, 3, 4, 5, 6, 7], [])])
def impl_IsTidy.B3 : List Nat := [0, 1, 3, 0, 15, 31, 63, 127, 255]
theorem impl_IsTidy.tab3 : rtab .any (opsOf Try.f17 3) = impl_IsTidy.T3 := by kernel_rfl
theorem impl_IsTidy.bits3 : waitsOk impl_IsTidy.T3.2 impl_IsTidy.B3 = true := by kernel_rfl
set_option maxHeartbeats 8000000 in
set_option maxRecDepth 100000 in
theorem impl_IsTidy.calls (k : Nat) (a0_0 : Int) (a0_1 : Int) (A0_2 : Option Addr) (c0_2 : Nat) (l0_2 : List Int) (A0_3 : Option Addr) (c0_3 : Nat) (l0_3 : List Int) (r1 : Bool) (r2 : Bool) (w : World) (hr0_2 : Kd.C (Kd.int .i64) w A0_2 l0_2.length l0_2) (hc0_2 : l0_2.length ≤ c0_2) (hr0_3 : Kd.C (Kd.int .i64) w A0_3 l0_3.length l0_3) (hc0_3 : l0_3.length ≤ c0_3) (h : impl_IsTidy.f k a0_0 a0_1 l0_2 l0_3 = some (r1, r2)) :
  Calls Try.prog 17 #[.agg #[.int .i64 a0_0, .int .i64 a0_1, .slice A0_2 l0_2.length c0_2, .slice A0_3 l0_3.length c0_3]] w fun e w' => e = .returned (.tuple #[.bool r1, .bool r2]) ∧ Below w.heap.size w w' := by
 have hu30 := Try.underlying30
 have HR0_2 := Aside0.mk hr0_2
 have HC0_2 := Aside0.mk hc0_2
 clear hr0_2 hc0_2
 have HR0_3 := Aside0.mk hr0_3
 have HC0_3 := Aside0.mk hc0_3
 clear hr0_3 hc0_3
 have HB := Aside0.mk (Below.refl w.heap.size w)
 have H : ((impl_IsFigure.f k a0_0 a0_1 l0_2 l0_3).bind fun t210 => (if t210 = true then ((impl_Figure_grid.f a0_0 a0_1 l0_2 l0_3).bind fun bt211 => ((impl_grid_squares.f k bt211.1 bt211.2).bind fun t213 => ((impl_Figure_set.f k a0_0 a0_1 l0_2 l0_3).bind fun t216 => ((impl_needless.f k t213 t216).bind fun t217 => (some ((t217 == 0), true)))))) else (some (false, false)))) = some (r1, r2) := h
 clear h
 replace H := Option.bind_eq_some_iff.mp H
 obtain ⟨t210, A20, H⟩ := H
 replace H : (if t210 = true then ((impl_Figure_grid.f a0_0 a0_1 l0_2 l0_3).bind fun bt211 => ((impl_grid_squares.f k bt211.1 bt211.2).bind fun t213 => ((impl_Figure_set.f k a0_0 a0_1 l0_2 l0_3).bind fun t216 => ((impl_needless.f k t213 t216).bind fun t217 => (some ((t217 == 0), true)))))) else (some (false, false))) = some (r1, r2) := H
 have A2 := Aside0.mk A20
 clear A20
 by_cases c3 : t210 = true
 ·subst c3
  have H1 : ((impl_Figure_grid.f a0_0 a0_1 l0_2 l0_3).bind fun bt211 => ((impl_grid_squares.f k bt211.1 bt211.2).bind fun t213 => ((impl_Figure_set.f k a0_0 a0_1 l0_2 l0_3).bind fun t216 => ((impl_needless.f k t213 t216).bind fun t217 => (some ((t217 == 0), true)))))) = some (r1, r2) := by rw [if_pos rfl] at H; exact H
  clear H
  have H := H1
  clear H1
  replace H := Option.bind_eq_some_iff.mp H
  obtain ⟨⟨t211, t212⟩, A40, H⟩ := H
  replace H : ((impl_grid_squares.f k t211 t212).bind fun t213 => ((impl_Figure_set.f k a0_0 a0_1 l0_2 l0_3).bind fun t216 => ((impl_needless.f k t213 t216).bind fun t217 => (some ((t217 == 0), true))))) = some (r1, r2) := H
  have A4 := Aside0.mk A40
  clear A40
  replace H := Option.bind_eq_some_iff.mp H
  obtain ⟨t213, A50, H⟩ := H
  replace H : ((impl_Figure_set.f k a0_0 a0_1 l0_2 l0_3).bind fun t216 => ((impl_needless.f k t213 t216).bind fun t217 => (some ((t217 == 0), true)))) = some (r1, r2) := H
  have A5 := Aside0.mk A50
  clear A50
  replace H := Option.bind_eq_some_iff.mp H
  obtain ⟨t216, A60, H⟩ := H
  replace H : ((impl_needless.f k t213 t216).bind fun t217 => (some ((t217 == 0), true))) = some (r1, r2) := H
  have A6 := Aside0.mk A60
  clear A60
  replace H := Option.bind_eq_some_iff.mp H
  obtain ⟨t217, A70, H⟩ := H
  replace H : (some ((t217 == 0), true)) = some (r1, r2) := H
  have A7 := Aside0.mk A70
  clear A70
  simp only [Option.some.injEq, Prod.mk.injEq] at H
  obtain ⟨rfl, rfl⟩ := H
  go_enter Try.func17, Try.ntmps17
  try go_wp2_with (first | ((with_reducible refine gate_dst (N := 1) rfl ?_); refine box_event ?hg (N := 1) ?hd (cs := #[.int .i64 a0_0, .int .i64 a0_1, .slice A0_2 l0_2.length c0_2, .slice A0_3 l0_3.length c0_3]) (t := 30) ?hr ?_; (case hd => rfl); (case hg => rfl); (case hr => first | (go_simp; done) | (go_simp; rfl)); intro gb209 hg w8 hbox hb; have n0_ := Aside0.mk (below_step (by repeat (first | (with_reducible first | exact HB.out | apply below_alloc | apply pw_below_drewN | apply below_drew1) | exact HB.out)) hb); have n1_ := Aside0.mk (hbox); have n2_ := Aside0.mk ((by rw [hg]; exact (below_size (by repeat (first | (with_reducible first | exact HB.out | apply below_alloc | apply pw_below_drewN | apply below_drew1) | exact HB.out))) : w.heap.size ≤ gb209)); have n3_ := Aside0.mk ((by rw [hg]; exact (below_size (by repeat (first | (with_reducible first | exact HB.out | apply below_alloc | apply pw_below_drewN | apply below_drew1) | exact HB.out))) : w.heap.size ≤ gb209)); clear HB; have HB := n0_; have BK209 := n1_; have GW209 := n2_; have GE209 := n3_; clear n0_ n1_ n2_ n3_; clear hb hbox hg; have hcz9_0 : w8.cell? ⟨gb209, 0, none⟩ = some (.int .i64 a0_0) := (blk_cell BK209.out 0).trans rfl; have hcz9_1 : w8.cell? ⟨gb209, 1, none⟩ = some (.int .i64 a0_1) := (blk_cell BK209.out 1).trans rfl; have hcz9_2 : w8.cell? ⟨gb209, 2, none⟩ = some (.slice A0_2 l0_2.length c0_2) := (blk_cell BK209.out 2).trans rfl; have hcz9_3 : w8.cell? ⟨gb209, 3, none⟩ = some (.slice A0_3 l0_3.length c0_3) := (blk_cell BK209.out 3).trans rfl; have hfz9_0 := blk_frozen BK209.out 0; have hfz9_1 := blk_frozen BK209.out 1; have hfz9_2 := blk_frozen BK209.out 2; have hfz9_3 := blk_frozen BK209.out 3) | ((with_reducible refine gate_callee (f := 41) rfl ?_); refine goesL_ (some 5) rfl rfl Try.func41 (by kernel_rfl) rfl #[.agg #[.int .i64 a0_0, .int .i64 a0_1, .slice A0_2 l0_2.length c0_2, .slice A0_3 l0_3.length c0_3]] rfl (by (try simp only [List.map_toArray, List.map_cons, List.map_nil]); first | done | rfl | (simp only [List.length_drop, List.length_take]; rfl)) ?_; (with_reducible refine (impl_IsFigure.calls k a0_0 a0_1 _ _ l0_2 _ _ l0_3 true _ ?side1 ?side2 ?side3 ?side4 A2.out).mono ?_); (case side1 => repeat (first | exact (Kd.C_below HR0_2.out HB.out) | (with_reducible refine Kd.C_alloc ?_ _) | (with_reducible refine Kd.C_drewN ?_ _) | (with_reducible refine Kd.C_drew ?_))); (case side2 => exact HC0_2.out); (case side3 => repeat (first | exact (Kd.C_below HR0_3.out HB.out) | (with_reducible refine Kd.C_alloc ?_ _) | (with_reducible refine Kd.C_drewN ?_ _) | (with_reducible refine Kd.C_drew ?_))); (case side4 => exact HC0_3.out); rintro e w10 ⟨rfl, hb⟩; refine ⟨_, rfl, ?_⟩; have n0_ := Aside0.mk (blk_below (g := gb209) (o := .cells #[.int .i64 a0_0, .int .i64 a0_1, .slice A0_2 l0_2.length c0_2, .slice A0_3 l0_3.length c0_3] 30 (0, 0)) (by (with_reducible repeat (first | refine blk_drewN ?_ _ | refine blk_drew ?_ | refine blk_alloc ?_ _)); exact BK209.out) hb); have n1_ := Aside0.mk (below_step (by repeat (first | (with_reducible first | exact HB.out | apply below_alloc | apply pw_below_drewN | apply below_drew1 | refine below_set ?_ GE209.out) | exact HB.out)) hb); clear BK209; clear HB; have BK209 := n0_; have HB := n1_; clear n0_ n1_; (try clear hb); (try clear hb2); (try clear hk); (try clear hi)))
  have n0_ := Aside0.mk (blk_drew BK209.out)
  have n1_ := Aside0.mk (below_drew1 HB.out)
  clear BK209
  clear HB
  have BK209 := n0_
  have HB := n1_
  clear n0_ n1_
  refine start_ (n := 9) (S := fun w' => w'.cell? ⟨gb209, 0, none⟩ = some (.int .i64 a0_0) ∧ w'.cell? ⟨gb209, 1, none⟩ = some (.int .i64 a0_1) ∧ w'.cell? ⟨gb209, 2, none⟩ = some (.slice A0_2 l0_2.length c0_2) ∧ w'.cell? ⟨gb209, 3, none⟩ = some (.slice A0_3 l0_3.length c0_3)) (ds := []) #[false, false, false, false, false, false, false, false, false] (by kernel_rfl) rfl rfl ⟨(blk_cell BK209.out 0).trans rfl, (blk_cell BK209.out 1).trans rfl, (blk_cell BK209.out 2).trans rfl, (blk_cell BK209.out 3).trans rfl⟩ (fun hHeld => ?_); refine with_tabW impl_IsTidy.tab3 impl_IsTidy.bits3 (fun HT_ HW_ => ?_)
  generalize w10.drew = w11 at BK209 HB hHeld ⊢
  refine take_ (i := 0) (N := some 7) (v := ?_) (a' := ?_) #[true, false, false, false, false, false, false, false, false] rfl rfl (take_ofW HT_.out HW_.out (by kernel_rfl)) (fun _ _ _ h => h) (Or.inl ⟨by rfl, ?_⟩) hHeld ?_ ?_
  rotate_left
  ·rintro w' ⟨s0, s1, s2, s3⟩
   go_simp
   with_reducible rfl
  rotate_left
  ·simp only [Act.put, List.setIfInBounds_toArray, List.set_cons_zero, List.set_cons_succ, i64_w, i32_w]
   rfl
  refine take_ (i := 3) (N := some 10) (v := ?_) (a' := ?_) #[true, false, false, true, false, false, false, false, false] rfl rfl (take_ofW HT_.out HW_.out (by kernel_rfl)) (fun _ _ _ h => h) (Or.inl ⟨by rfl, ?_⟩) hHeld ?_ ?_
  rotate_left
  ·rintro w' ⟨s0, s1, s2, s3⟩
   go_simp
   with_reducible rfl
  rotate_left
  ·simp only [Act.put, List.setIfInBounds_toArray, List.set_cons_zero, List.set_cons_succ, i64_w, i32_w]
   rfl
  refine one_ (i := 1) (N := some 8) #[true, true, false, true, false, false, false, false, false] rfl rfl (one_of HT_.out (by kernel_rfl)) (by decide) (fun K hK => ?_)
  refine goes_ Try.func28 (by kernel_rfl) rfl #[.agg #[.int .i64 a0_0, .int .i64 a0_1, .slice A0_2 l0_2.length c0_2, .slice A0_3 l0_3.length c0_3]] (by rfl) rfl rfl (by (try simp only [List.map_toArray, List.map_cons, List.map_nil]); first | done | rfl | (simp only [List.length_drop, List.length_take]; rfl)) ?_
  with_reducible refine (impl_Figure_grid.calls a0_0 a0_1 _ _ l0_2 _ _ l0_3 t211 t212 _ ?side1 ?side2 ?side3 ?side4 A4.out).mono ?_
  (case side1 => repeat (first | exact (Kd.C_below HR0_2.out HB.out) | (with_reducible refine Kd.C_alloc ?_ _) | (with_reducible refine Kd.C_drewN ?_ _) | (with_reducible refine Kd.C_drew ?_)))
  (case side2 => exact HC0_2.out)
  (case side3 => repeat (first | exact (Kd.C_below HR0_3.out HB.out) | (with_reducible refine Kd.C_alloc ?_ _) | (with_reducible refine Kd.C_drewN ?_ _) | (with_reducible refine Kd.C_drew ?_)))
  (case side4 => exact HC0_3.out)
  rintro e w12 ⟨rfl, hb⟩
  refine ⟨_, rfl, ?_⟩
  have n0_ := Aside0.mk (blk_below (g := gb209) (o := .cells #[.int .i64 a0_0, .int .i64 a0_1, .slice A0_2 l0_2.length c0_2, .slice A0_3 l0_3.length c0_3] 30 (0, 0)) (by (with_reducible repeat (first | refine blk_drewN ?_ _ | refine blk_drew ?_ | refine blk_alloc ?_ _)); exact BK209.out) hb)
  have n1_ := Aside0.mk (below_step (by repeat (first | (with_reducible first | exact HB.out | apply below_alloc | apply pw_below_drewN | apply below_drew1 | refine below_set ?_ GE209.out) | exact HB.out)) hb)
  clear BK209
  clear HB
  have BK209 := n0_
  have HB := n1_
  clear n0_ n1_
  (try clear hb)
  (try clear hb2)
  (try clear hk)
  (try clear hi)
  refine hK.out _ _ ⟨(blk_cell BK209.out 0).trans rfl, (blk_cell BK209.out 1).trans rfl, (blk_cell BK209.out 2).trans rfl, (blk_cell BK209.out 3).trans rfl⟩ (fun hHeld => ?_)
  clear hK K
  refine norm_ (a' := ?_) ?_ ?_
  rotate_left
  ·show Act.put _ (some 8) _ = _
   simp only [Act.put, List.setIfInBounds_toArray, List.set_cons_zero, List.set_cons_succ, i64_w, i32_w]
   rfl
  refine one_ (i := 2) (N := some 9) #[true, true, true, true, false, false, false, false, false] rfl rfl (one_of HT_.out (by kernel_rfl)) (by decide) (fun K hK => ?_)
  refine goes_ Try.func39 (by kernel_rfl) rfl #[.agg #[.int .i64 t211, .int .i64 t212]] (by rfl) rfl rfl (by (try simp only [List.map_toArray, List.map_cons, List.map_nil]); first | done | rfl | (simp only [List.length_drop, List.length_take]; rfl)) ?_
  with_reducible refine (impl_grid_squares.calls k t211 t212 t213 _ A5.out).mono ?_
  rintro e w13 ⟨v214, rfl, ho0, hb⟩
  refine ⟨_, rfl, ?_⟩
  have n0_ := Aside0.mk (Kd.R_lower ho0 (below_size (by repeat (first | (with_reducible first | exact HB.out | apply below_alloc | apply pw_below_drewN | apply below_drew1 | refine below_set ?_ GE209.out) | exact HB.out))))
  have n1_ := Aside0.mk (blk_below (g := gb209) (o := .cells #[.int .i64 a0_0, .int .i64 a0_1, .slice A0_2 l0_2.length c0_2, .slice A0_3 l0_3.length c0_3] 30 (0, 0)) (by (with_reducible repeat (first | refine blk_drewN ?_ _ | refine blk_drew ?_ | refine blk_alloc ?_ _)); exact BK209.out) hb)
  have n2_ := Aside0.mk (below_step (by repeat (first | (with_reducible first | exact HB.out | apply below_alloc | apply pw_below_drewN | apply below_drew1 | refine below_set ?_ GE209.out) | exact HB.out)) hb)
  clear BK209
  clear HB
  have HO215 := n0_
  have BK209 := n1_
  have HB := n2_
  clear n0_ n1_ n2_
  (try clear hb)
  (try clear hb2)
  (try clear hk)
  (try clear hi)
  (try clear ho0)
  refine hK.out _ _ ⟨(blk_cell BK209.out 0).trans rfl, (blk_cell BK209.out 1).trans rfl, (blk_cell BK209.out 2).trans rfl, (blk_cell BK209.out 3).trans rfl⟩ (fun hHeld => ?_)
  clear hK K
  refine norm_ (a' := ?_) ?_ ?_
  rotate_left
  ·show Act.put _ (some 9) _ = _
   simp only [Act.put, List.setIfInBounds_toArray, List.set_cons_zero, List.set_cons_succ, i64_w, i32_w]
   rfl
  refine one_ (i := 4) (N := some 11) #[true, true, true, true, true, false, false, false, false] rfl rfl (one_of HT_.out (by kernel_rfl)) (by decide) (fun K hK => ?_)
  refine goes_ Try.func30 (by kernel_rfl) rfl #[.agg #[.int .i64 a0_0, .int .i64 a0_1, .slice A0_2 l0_2.length c0_2, .slice A0_3 l0_3.length c0_3]] (by rfl) rfl rfl (by (try simp only [List.map_toArray, List.map_cons, List.map_nil]); first | done | rfl | (simp only [List.length_drop, List.length_take]; rfl)) ?_
  with_reducible refine (impl_Figure_set.calls k a0_0 a0_1 _ _ l0_2 _ _ l0_3 t216 _ ?side1 ?side2 ?side3 ?side4 A6.out).mono ?_
  (case side1 => repeat (first | exact (Kd.C_below HR0_2.out HB.out) | (with_reducible refine Kd.C_alloc ?_ _) | (with_reducible refine Kd.C_drewN ?_ _) | (with_reducible refine Kd.C_drew ?_)))
  (case side2 => exact HC0_2.out)
  (case side3 => repeat (first | exact (Kd.C_below HR0_3.out HB.out) | (with_reducible refine Kd.C_alloc ?_ _) | (with_reducible refine Kd.C_drewN ?_ _) | (with_reducible refine Kd.C_drew ?_)))
  (case side4 => exact HC0_3.out)
  rintro e w14 ⟨rfl, hb⟩
  refine ⟨_, rfl, ?_⟩
  have n0_ := Aside0.mk (Kd.R_below (by (with_reducible repeat (first | apply Kd.R_alloc | apply Kd.R_drewN | apply Kd.R_drew)); exact HO215.out) hb)
  have n1_ := Aside0.mk (blk_below (g := gb209) (o := .cells #[.int .i64 a0_0, .int .i64 a0_1, .slice A0_2 l0_2.length c0_2, .slice A0_3 l0_3.length c0_3] 30 (0, 0)) (by (with_reducible repeat (first | refine blk_drewN ?_ _ | refine blk_drew ?_ | refine blk_alloc ?_ _)); exact BK209.out) hb)
  have n2_ := Aside0.mk (below_step (by repeat (first | (with_reducible first | exact HB.out | apply below_alloc | apply pw_below_drewN | apply below_drew1 | refine below_set ?_ GE209.out) | exact HB.out)) hb)
  clear HO215
  clear BK209
  clear HB
  have HO215 := n0_
  have BK209 := n1_
  have HB := n2_
  clear n0_ n1_ n2_
  (try clear hb)
  (try clear hb2)
  (try clear hk)
  (try clear hi)
  obtain ⟨Ao15, co15, eo15⟩ := Kd.R_slice HO215.out
  (first | subst eo15 | (injection eo15 with f1_ f2_ f3_; have f4_ := f1_.symm; have f5_ := f3_.symm; clear f1_ f2_ f3_; subst f4_; subst f5_))
  refine hK.out _ _ ⟨(blk_cell BK209.out 0).trans rfl, (blk_cell BK209.out 1).trans rfl, (blk_cell BK209.out 2).trans rfl, (blk_cell BK209.out 3).trans rfl⟩ (fun hHeld => ?_)
  clear hK K
  refine norm_ (a' := ?_) ?_ ?_
  rotate_left
  ·show Act.put _ (some 11) _ = _
   simp only [Act.put, List.setIfInBounds_toArray, List.set_cons_zero, List.set_cons_succ, i64_w, i32_w]
   rfl
  refine one_ (i := 5) (N := some 12) #[true, true, true, true, true, true, false, false, false] rfl rfl (one_of HT_.out (by kernel_rfl)) (by decide) (fun K hK => ?_)
  refine goes_ Try.func42 (by kernel_rfl) rfl #[.slice Ao15 t213.length co15, .int .u64 t216] (by rfl) rfl rfl (by (try simp only [List.map_toArray, List.map_cons, List.map_nil]); first | done | rfl | (simp only [List.length_drop, List.length_take]; rfl)) ?_
  with_reducible refine (impl_needless.calls k _ _ t213 t216 t217 _ ?side1 ?side2 A7.out).mono ?_
  (case side1 => repeat (first | exact (Kd.R_reads' HO215.out).2.2 | (with_reducible refine Kd.C_alloc ?_ _) | (with_reducible refine Kd.C_drewN ?_ _) | (with_reducible refine Kd.C_drew ?_)))
  (case side2 => exact (Kd.R_reads' HO215.out).2.1)
  rintro e w16 ⟨rfl, hb⟩
  refine ⟨_, rfl, ?_⟩
  have n0_ := Aside0.mk (Kd.R_below (by (with_reducible repeat (first | apply Kd.R_alloc | apply Kd.R_drewN | apply Kd.R_drew)); exact HO215.out) hb)
  have n1_ := Aside0.mk (blk_below (g := gb209) (o := .cells #[.int .i64 a0_0, .int .i64 a0_1, .slice A0_2 l0_2.length c0_2, .slice A0_3 l0_3.length c0_3] 30 (0, 0)) (by (with_reducible repeat (first | refine blk_drewN ?_ _ | refine blk_drew ?_ | refine blk_alloc ?_ _)); exact BK209.out) hb)
  have n2_ := Aside0.mk (below_step (by repeat (first | (with_reducible first | exact HB.out | apply below_alloc | apply pw_below_drewN | apply below_drew1 | refine below_set ?_ GE209.out) | exact HB.out)) hb)
  clear HO215
  clear BK209
  clear HB
  have HO215 := n0_
  have BK209 := n1_
  have HB := n2_
  clear n0_ n1_ n2_
  (try clear hb)
  (try clear hb2)
  (try clear hk)
  (try clear hi)
  refine hK.out _ _ ⟨(blk_cell BK209.out 0).trans rfl, (blk_cell BK209.out 1).trans rfl, (blk_cell BK209.out 2).trans rfl, (blk_cell BK209.out 3).trans rfl⟩ (fun hHeld => ?_)
  clear hK K
  refine norm_ (a' := ?_) ?_ ?_
  rotate_left
  ·show Act.put _ (some 12) _ = _
   simp only [Act.put, List.setIfInBounds_toArray, List.set_cons_zero, List.set_cons_succ, i64_w, i32_w]
   rfl
  refine pure_ (i := 6) (N := some 13) (v := ?_) (a' := ?_) #[true, true, true, true, true, true, true, false, false] rfl rfl (any_of HT_.out (by kernel_rfl)) (fun _ _ _ h => h) (Or.inl ⟨by rfl, ?_⟩) ?_ ?_
  rotate_left
  ·intro w'
   go_simp
   with_reducible rfl
  rotate_left
  ·simp only [Act.put, List.setIfInBounds_toArray, List.set_cons_zero, List.set_cons_succ, i64_w, i32_w]
   rfl
  refine pure_ (i := 7) (N := some 2) (v := ?_) (a' := ?_) #[true, true, true, true, true, true, true, true, false] rfl rfl (any_of HT_.out (by kernel_rfl)) (fun _ _ _ h => h) (Or.inl ⟨by rfl, ?_⟩) ?_ ?_
  rotate_left
  ·intro w'
   go_simp
   with_reducible rfl
  rotate_left
  ·simp only [Act.put, List.setIfInBounds_toArray, List.set_cons_zero, List.set_cons_succ, i64_w, i32_w]
   rfl
  refine pure_ (i := 8) (N := some 3) (v := ?_) (a' := ?_) #[true, true, true, true, true, true, true, true, true] rfl rfl (any_of HT_.out (by kernel_rfl)) (fun _ _ _ h => h) (Or.inl ⟨by rfl, ?_⟩) ?_ ?_
  rotate_left
  ·intro w'
   go_simp
   with_reducible rfl
  rotate_left
  ·simp only [Act.put, List.setIfInBounds_toArray, List.set_cons_zero, List.set_cons_succ, i64_w, i32_w]
   rfl
  refine done_ (done_of HT_.out (by kernel_rfl)) ?_
  try go_wp2
  go_ret2
  exact ⟨by first | rfl | (simp [errW_none, errW_some] <;> rfl) | (simp [*, errW_none, errW_some] <;> rfl), by repeat (first | (with_reducible first | exact HB.out | apply below_alloc | apply pw_below_drewN | apply below_drew1 | refine below_set ?_ GE209.out) | exact HB.out)⟩
 ·replace c3 := Bool.eq_false_iff.mpr c3
  subst c3
  have H1 : (some (false, false)) = some (r1, r2) := by rw [if_neg (show ¬ (false = true) by decide)] at H; exact H
  clear H
  have H := H1
  clear H1
  simp only [Option.some.injEq, Prod.mk.injEq] at H
  obtain ⟨rfl, rfl⟩ := H
  go_enter Try.func17, Try.ntmps17
  go_wp2_with (first | ((with_reducible refine gate_dst (N := 1) rfl ?_); refine box_event ?hg (N := 1) ?hd (cs := #[.int .i64 a0_0, .int .i64 a0_1, .slice A0_2 l0_2.length c0_2, .slice A0_3 l0_3.length c0_3]) (t := 30) ?hr ?_; (case hd => rfl); (case hg => rfl); (case hr => first | (go_simp; done) | (go_simp; rfl)); intro gb209 hg w17 hbox hb; have n0_ := Aside0.mk (below_step (by repeat (first | (with_reducible first | exact HB.out | apply below_alloc | apply pw_below_drewN | apply below_drew1) | exact HB.out)) hb); have n1_ := Aside0.mk (hbox); have n2_ := Aside0.mk ((by rw [hg]; exact (below_size (by repeat (first | (with_reducible first | exact HB.out | apply below_alloc | apply pw_below_drewN | apply below_drew1) | exact HB.out))) : w.heap.size ≤ gb209)); have n3_ := Aside0.mk ((by rw [hg]; exact (below_size (by repeat (first | (with_reducible first | exact HB.out | apply below_alloc | apply pw_below_drewN | apply below_drew1) | exact HB.out))) : w.heap.size ≤ gb209)); clear HB; have HB := n0_; have BK209 := n1_; have GW209 := n2_; have GE209 := n3_; clear n0_ n1_ n2_ n3_; clear hb hbox hg; have hcz18_0 : w17.cell? ⟨gb209, 0, none⟩ = some (.int .i64 a0_0) := (blk_cell BK209.out 0).trans rfl; have hcz18_1 : w17.cell? ⟨gb209, 1, none⟩ = some (.int .i64 a0_1) := (blk_cell BK209.out 1).trans rfl; have hcz18_2 : w17.cell? ⟨gb209, 2, none⟩ = some (.slice A0_2 l0_2.length c0_2) := (blk_cell BK209.out 2).trans rfl; have hcz18_3 : w17.cell? ⟨gb209, 3, none⟩ = some (.slice A0_3 l0_3.length c0_3) := (blk_cell BK209.out 3).trans rfl; have hfz18_0 := blk_frozen BK209.out 0; have hfz18_1 := blk_frozen BK209.out 1; have hfz18_2 := blk_frozen BK209.out 2; have hfz18_3 := blk_frozen BK209.out 3) | ((with_reducible refine gate_callee (f := 41) rfl ?_); refine goesL_ (some 5) rfl rfl Try.func41 (by kernel_rfl) rfl #[.agg #[.int .i64 a0_0, .int .i64 a0_1, .slice A0_2 l0_2.length c0_2, .slice A0_3 l0_3.length c0_3]] rfl (by (try simp only [List.map_toArray, List.map_cons, List.map_nil]); first | done | rfl | (simp only [List.length_drop, List.length_take]; rfl)) ?_; (with_reducible refine (impl_IsFigure.calls k a0_0 a0_1 _ _ l0_2 _ _ l0_3 false _ ?side1 ?side2 ?side3 ?side4 A2.out).mono ?_); (case side1 => repeat (first | exact (Kd.C_below HR0_2.out HB.out) | (with_reducible refine Kd.C_alloc ?_ _) | (with_reducible refine Kd.C_drewN ?_ _) | (with_reducible refine Kd.C_drew ?_))); (case side2 => exact HC0_2.out); (case side3 => repeat (first | exact (Kd.C_below HR0_3.out HB.out) | (with_reducible refine Kd.C_alloc ?_ _) | (with_reducible refine Kd.C_drewN ?_ _) | (with_reducible refine Kd.C_drew ?_))); (case side4 => exact HC0_3.out); rintro e w19 ⟨rfl, hb⟩; refine ⟨_, rfl, ?_⟩; have n0_ := Aside0.mk (blk_below (g := gb209) (o := .cells #[.int .i64 a0_0, .int .i64 a0_1, .slice A0_2 l0_2.length c0_2, .slice A0_3 l0_3.length c0_3] 30 (0, 0)) (by (with_reducible repeat (first | refine blk_drewN ?_ _ | refine blk_drew ?_ | refine blk_alloc ?_ _)); exact BK209.out) hb); have n1_ := Aside0.mk (below_step (by repeat (first | (with_reducible first | exact HB.out | apply below_alloc | apply pw_below_drewN | apply below_drew1 | refine below_set ?_ GE209.out) | exact HB.out)) hb); clear BK209; clear HB; have BK209 := n0_; have HB := n1_; clear n0_ n1_; (try clear hb); (try clear hb2); (try clear hk); (try clear hi)))
  go_ret2
  exact ⟨by first | rfl | (simp [errW_none, errW_some] <;> rfl) | (simp [*, errW_none, errW_some] <;> rfl), by repeat (first | (with_reducible first | exact HB.out | apply below_alloc | apply pw_below_drewN | apply below_drew1 | refine below_set ?_ GE209.out) | exact HB.out)⟩

end Go.Proofs.Ytmlkihaoeopobaa.Q
