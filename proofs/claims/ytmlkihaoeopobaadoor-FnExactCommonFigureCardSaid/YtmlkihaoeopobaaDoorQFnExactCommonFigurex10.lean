-- written by a program of this session, pm.py, for this claim
-- half the indentation
import Derived.Test.YtmlkihaoeopobaaDoorQFnExactCommonFigurex0
import Derived.Test.YtmlkihaoeopobaaDoorQFnExactCommonFigurex2
import Derived.Test.YtmlkihaoeopobaaDoorQFnExactCommonFigurex3
import Derived.Test.YtmlkihaoeopobaaDoorQFnExactCommonFigurex5
import Derived.Test.YtmlkihaoeopobaaDoorQFnExactCommonFigurex8
import Derived.Test.YtmlkihaoeopobaaDoorQFnExactCommonFigurex9
namespace Go.Proofs.YtmlkihaoeopobaaDoor.Q
open Go.RowKit Go.Proofs.YtmlkihaoeopobaaDoorW.PrintWords Go.Proofs.YtmlkihaoeopobaaDoorW.PrintLast Go.Proofs.YtmlkihaoeopobaaDoorW.PrintMore
attribute [local go_sem] max2_int min2_int max_two min_two max_three min_three max_four min_four   -- for this text's walks alone
set_option linter.unusedVariables false
set_option linter.unusedSimpArgs false

/-! ### laws_FnExactCommonFigure: function 5 -/
/-- What the law asks of two figures that are not too large. -/
def laws_FnExactCommonFigure.rest (k : Nat) (a0_0 a0_1 : Int) (l0_2 l0_3 : List Int) (a1_0 a1_1 : Int) (l1_2 l1_3 : List Int) : Option Bool :=
 (spec_CommonFigure.f k a0_0 a0_1 l0_2 l0_3 a1_0 a1_1 l1_2 l1_3).bind fun s => (laws_markFigure.f k a0_0 a0_1 l0_2 l0_3 101).bind fun m1 => (laws_markFigure.f k a1_0 a1_1 l1_2 l1_3 m1.1).bind fun m2 => (laws_markFigure.f k s.1 s.2.1 s.2.2.1 s.2.2.2.1 101).bind fun m3 =>
 if impl_CommonFigure.f k a0_0 a0_1 l0_2 l0_3 a1_0 a1_1 l1_2 l1_3 = some s then if laws_toFigure.f a0_0 a0_1 l0_2 l0_3 false = some (a0_0, a0_1, l0_2, l0_3) then if laws_toFigure.f a0_0 a0_1 l0_2 l0_3 true = some (a0_0, a0_1, l0_2, l0_3) then if laws_toFigure.f a1_0 a1_1 l1_2 l1_3 false = some (a1_0, a1_1, l1_2, l1_3) then if laws_toFigure.f a1_0 a1_1 l1_2 l1_3 true = some (a1_0, a1_1, l1_2, l1_3) then if laws_eqFigure.f k s.1 s.2.1 s.2.2.1 s.2.2.2.1 s.1 s.2.1 s.2.2.1 s.2.2.2.1 = some true then if laws_intactFigure.f a0_0 a0_1 l0_2 l0_3 a0_0 a0_1 l0_2 l0_3 = some true then if laws_intactFigure.f a1_0 a1_1 l1_2 l1_3 a1_0 a1_1 l1_2 l1_3 = some true then if laws_heldFigure.f k s.1 s.2.1 m3.2.1 m3.2.2 101 = some m3.1 then if 0 ≤ m2.1 then if 0 ≤ m3.1 then some true else none else none else none else none else none else none else none else none else none else none else none
def laws_FnExactCommonFigure.f (k : Nat) (a0_0 a0_1 : Int) (l0_2 l0_3 : List Int) (a1_0 a1_1 : Int) (l1_2 l1_3 : List Int) : Option Bool :=
 (laws_szFigure.f a0_0 a0_1 l0_2 l0_3 1000000).bind fun t => if t < 0 then some true else (laws_szFigure.f a1_0 a1_1 l1_2 l1_3 t).bind fun t' => if t' < 0 then some true else laws_FnExactCommonFigure.rest k a0_0 a0_1 l0_2 l0_3 a1_0 a1_1 l1_2 l1_3
theorem need_of {c : Prop} [Decidable c] {α : Type} {x : Option α} {r : α} (h : (if c then x else none) = some r) : c ∧ x = some r := by
 by_cases hc : c
 ·exact ⟨hc, (if_pos hc).symm.trans h⟩
 ·rw [if_neg hc] at h; cases h
theorem laws_FnExactCommonFigure.parts {k : Nat} {a0_0 a0_1 : Int} {l0_2 l0_3 : List Int} {a1_0 a1_1 : Int} {l1_2 l1_3 : List Int} {r : Bool} (H1 : laws_FnExactCommonFigure.rest k a0_0 a0_1 l0_2 l0_3 a1_0 a1_1 l1_2 l1_3 = some r) :
  r = true ∧ ∃ s1 s2 s3 s4 s5 m1 f3 f4 m2 g3 g4 m3 t3 t4, Aside0 (spec_CommonFigure.f k a0_0 a0_1 l0_2 l0_3 a1_0 a1_1 l1_2 l1_3 = some (s1, s2, s3, s4, s5)) ∧ Aside0 (impl_CommonFigure.f k a0_0 a0_1 l0_2 l0_3 a1_0 a1_1 l1_2 l1_3 = some (s1, s2, s3, s4, s5)) ∧
  Aside0 (laws_markFigure.f k a0_0 a0_1 l0_2 l0_3 101 = some (m1, f3, f4)) ∧ Aside0 (laws_markFigure.f k a1_0 a1_1 l1_2 l1_3 m1 = some (m2, g3, g4)) ∧ Aside0 (laws_markFigure.f k s1 s2 s3 s4 101 = some (m3, t3, t4)) ∧
  Aside0 (laws_toFigure.f a0_0 a0_1 l0_2 l0_3 false = some (a0_0, a0_1, l0_2, l0_3)) ∧ Aside0 (laws_toFigure.f a0_0 a0_1 l0_2 l0_3 true = some (a0_0, a0_1, l0_2, l0_3)) ∧ Aside0 (laws_toFigure.f a1_0 a1_1 l1_2 l1_3 false = some (a1_0, a1_1, l1_2, l1_3)) ∧ Aside0 (laws_toFigure.f a1_0 a1_1 l1_2 l1_3 true = some (a1_0, a1_1, l1_2, l1_3)) ∧
  Aside0 (laws_eqFigure.f k s1 s2 s3 s4 s1 s2 s3 s4 = some true) ∧ Aside0 (laws_intactFigure.f a0_0 a0_1 l0_2 l0_3 a0_0 a0_1 l0_2 l0_3 = some true) ∧ Aside0 (laws_intactFigure.f a1_0 a1_1 l1_2 l1_3 a1_0 a1_1 l1_2 l1_3 = some true) ∧ Aside0 (laws_heldFigure.f k s1 s2 t3 t4 101 = some m3) ∧ Aside0 (0 ≤ m2) ∧ Aside0 (0 ≤ m3) := by
 unfold laws_FnExactCommonFigure.rest at H1
 obtain ⟨⟨s1, s2, s3, s4, s5⟩, hs, H1⟩ := Option.bind_eq_some_iff.mp H1
 obtain ⟨⟨m1, f3, f4⟩, hm1, H1⟩ := Option.bind_eq_some_iff.mp H1
 obtain ⟨⟨m2, g3, g4⟩, hm2, H1⟩ := Option.bind_eq_some_iff.mp H1
 obtain ⟨⟨m3, t3, t4⟩, hm3, H1⟩ := Option.bind_eq_some_iff.mp H1
 obtain ⟨hi, H1⟩ := need_of H1
 obtain ⟨hf0, H1⟩ := need_of H1
 obtain ⟨hf1, H1⟩ := need_of H1
 obtain ⟨hg0, H1⟩ := need_of H1
 obtain ⟨hg1, H1⟩ := need_of H1
 obtain ⟨he, H1⟩ := need_of H1
 obtain ⟨hx0, H1⟩ := need_of H1
 obtain ⟨hx1, H1⟩ := need_of H1
 obtain ⟨hh, H1⟩ := need_of H1
 obtain ⟨h2, H1⟩ := need_of H1
 obtain ⟨h3, H1⟩ := need_of H1
 exact ⟨(Option.some.inj H1).symm, s1, s2, s3, s4, s5, m1, f3, f4, m2, g3, g4, m3, t3, t4, ⟨hs⟩, ⟨hi⟩, ⟨hm1⟩, ⟨hm2⟩, ⟨hm3⟩, ⟨hf0⟩, ⟨hf1⟩, ⟨hg0⟩, ⟨hg1⟩, ⟨he⟩, ⟨hx0⟩, ⟨hx1⟩, ⟨hh⟩, ⟨h2⟩, ⟨h3⟩⟩
/-- A figure's two rows: of the call's own, apart, in the blocks from lo to hi. -/
def FigAt (b : Bool) (w : World) (e lo hi : Nat) (u v : Value) (A B : List Int) : Prop :=
 Kd.PB b (Kd.int .i64) 3 w e (fun k => some k = u.ownBlock) u A ∧ Kd.PB b (Kd.int .i64) 3 w e (fun k => some k = v.ownBlock) v B ∧ (∀ k, some k = u.ownBlock → some k ≠ v.ownBlock) ∧ (∀ k, some k = u.ownBlock ∨ some k = v.ownBlock → lo ≤ k ∧ k < hi)
section
variable {b b' : Bool} {w w0 w1 : World} {e e' lo hi lo' hi' g t : Nat} {u v u' v' : Value} {A B A' B' : List Int} {ok ok' : Nat → Prop} {cs : Array Value}
theorem FigAt.of (hu : Kd.PB b (Kd.int .i64) 3 w lo (fun k => some k ≠ v.ownBlock) u A) (hv : Kd.PB b (Kd.int .i64) 3 w lo (fun k => some k ≠ u.ownBlock) v B) (he : e ≤ lo) : FigAt b w e lo w.heap.size u v A B :=
 ⟨Kd.PB_lower (Kd.PB_tight rfl hu) he, Kd.PB_lower (Kd.PB_tight rfl hv) he, fun k hk => hu.1.1 k hk.symm, fun k hk => hk.elim (fun h => ⟨Kd.PB_base hu k h.symm, Kd.PB_lt hu k h.symm⟩) (fun h => ⟨Kd.PB_base hv k h.symm, Kd.PB_lt hv k h.symm⟩)⟩
theorem FigAt.ofR (hu : Kd.R (Kd.int .i64) 3 w lo (fun k => some k ≠ v.ownBlock) u A) (hv : Kd.R (Kd.int .i64) 3 w lo (fun k => some k ≠ u.ownBlock) v B) (he : e ≤ lo) : FigAt true w e lo w.heap.size u v A B :=
 FigAt.of ⟨hu, fun h => nomatch h⟩ ⟨hv, fun h => nomatch h⟩ he
theorem FigAt.below (h : FigAt b w e lo hi u v A B) (hb : Below w.heap.size w w1) : FigAt b w1 e lo hi u v A B :=
 ⟨Kd.PB_below h.1 hb, Kd.PB_below h.2.1 hb, h.2.2⟩
theorem FigAt.kept (h : FigAt b w e lo hi u v A B) (h' : FigAt b' w e' lo' hi' u' v' A' B') (hk : Kept w w1 (fun k => some k = u'.ownBlock ∨ some k = v'.ownBlock)) (hd : hi ≤ lo' ∨ hi' ≤ lo) : FigAt b w1 e lo hi u v A B :=
 have far : ∀ k, some k = u.ownBlock ∨ some k = v.ownBlock → ¬ (some k = u'.ownBlock ∨ some k = v'.ownBlock) := fun k h1 h2 => by
  have := h.2.2.2 k h1
  have := h'.2.2.2 k h2
  omega
 ⟨Kd.PB_mono (Kd.PB_keptB h.1 hk (fun k h1 => far k (.inl h1))) (fun _ h1 => h1.1), Kd.PB_mono (Kd.PB_keptB h.2.1 hk (fun k h1 => far k (.inr h1))) (fun _ h1 => h1.1), h.2.2⟩
theorem FigAt.blk (h' : FigAt b' w e' lo' hi' u' v' A' B') (hb : w.heap[g]? = some (.cells cs t (0, 0))) (ht : 3 ≠ t) (hk : Kept w w1 (fun k => some k = u'.ownBlock ∨ some k = v'.ownBlock)) : w1.heap[g]? = some (.cells cs t (0, 0)) :=
 blk_kept hb hk (fun h => h.elim (fun h1 => Kd.PB_ne h'.1 hb ht h1) (fun h1 => Kd.PB_ne h'.2.1 hb ht h1))
theorem FigAt.mark (h : FigAt b w e lo hi u v A B) (hu : Kd.R (Kd.int .i64) 3 w1 e ok u A') (hv : Kd.R (Kd.int .i64) 3 w1 e ok' v B') : FigAt true w1 e lo hi u v A' B' :=
 ⟨⟨Kd.R_tight rfl hu, fun h => nomatch h⟩, ⟨Kd.R_tight rfl hv, fun h => nomatch h⟩, h.2.2⟩
theorem FigAt.slices (h : FigAt b w e lo hi u v A B) : ∃ P c P' c', u = .slice P A.length c ∧ v = .slice P' B.length c' := by
 obtain ⟨P, c, h1⟩ := Kd.PB_slice h.1
 obtain ⟨P', c', h2⟩ := Kd.PB_slice h.2.1
 exact ⟨P, c, P', c', h1, h2⟩
theorem FigAt.c0 {P P' : Option Addr} {n n' c c' : Nat} (h : FigAt b w e lo hi (.slice P n c) (.slice P' n' c') A B) : Kd.C (Kd.int .i64) w P A.length A := (Kd.PB_reads' h.1).2.2
theorem FigAt.c1 {P P' : Option Addr} {n n' c c' : Nat} (h : FigAt b w e lo hi (.slice P n c) (.slice P' n' c') A B) : Kd.C (Kd.int .i64) w P' B.length B := (Kd.PB_reads' h.2.1).2.2
theorem FigAt.l0 {P P' : Option Addr} {n n' c c' : Nat} (h : FigAt b w e lo hi (.slice P n c) (.slice P' n' c') A B) : A.length ≤ c := by have := Kd.PB_reads' h.1; omega
theorem FigAt.l1 {P P' : Option Addr} {n n' c c' : Nat} (h : FigAt b w e lo hi (.slice P n c) (.slice P' n' c') A B) : B.length ≤ c' := by have := Kd.PB_reads' h.2.1; omega
theorem FigAt.s0 {P P' : Option Addr} {n n' c c' : Nat} (h : FigAt false w e lo hi (.slice P n c) (.slice P' n' c') A B) : Kd.Sp w P c A := Kd.PB_sp h.1
theorem FigAt.s1 {P P' : Option Addr} {n n' c c' : Nat} (h : FigAt false w e lo hi (.slice P n c) (.slice P' n' c') A B) : Kd.Sp w P' c' B := Kd.PB_sp h.2.1
theorem FigAt.set (h : FigAt b w e lo hi u v A B) {p : Addr} (hg : p.block < lo ∨ hi ≤ p.block) (x : Value) : FigAt b (w.setCell p x) e lo hi u v A B :=
 ⟨Kd.PB_far h.1 (fun k hk => by have := h.2.2.2 k (.inl hk); omega) x, Kd.PB_far h.2.1 (fun k hk => by have := h.2.2.2 k (.inr hk); omega) x, h.2.2⟩
theorem FigAt.set4 (h : FigAt b w e lo hi u v A B) (hg : g < lo ∨ hi ≤ g) (x0 x1 x2 x3 : Value) : FigAt b ((((w.setCell ⟨g, 0, none⟩ x0).setCell ⟨g, 1, none⟩ x1).setCell ⟨g, 2, none⟩ x2).setCell ⟨g, 3, none⟩ x3) e lo hi u v A B :=
 (((h.set (p := ⟨g, 0, none⟩) hg x0).set (p := ⟨g, 1, none⟩) hg x1).set (p := ⟨g, 2, none⟩) hg x2).set (p := ⟨g, 3, none⟩) hg x3
theorem via {W w' : World} {P : Prop} (hB : Below w.heap.size w W) (h : Below W.heap.size W w' ∧ P) : Below w.heap.size w w' := hB.trans (h.1.mono hB.size)
theorem new_below {o : Obj} (hb : Below (w.alloc o).heap.size (w.alloc o) w1) : w1.heap[w.heap.size]? = some o := blk_below (blk_new w o) hb
theorem new_belowD {o : Obj} (hb : Below (w.alloc o).drew.heap.size (w.alloc o).drew w1) : w1.heap[w.heap.size]? = some o := blk_below (blk_drew (blk_new w o)) hb
theorem cells4 {y0 y1 y2 y3 : Value} (h : w.heap[g]? = some (.cells #[y0, y1, y2, y3] t (0, 0))) : (w.cell? ⟨g, 0, none⟩ = some y0 ∧ w.cell? ⟨g, 1, none⟩ = some y1 ∧ w.cell? ⟨g, 2, none⟩ = some y2 ∧ w.cell? ⟨g, 3, none⟩ = some y3) ∧ (w.frozen? ⟨g, 0, none⟩ = false ∧ w.frozen? ⟨g, 1, none⟩ = false ∧ w.frozen? ⟨g, 2, none⟩ = false ∧ w.frozen? ⟨g, 3, none⟩ = false) :=
 ⟨⟨blk_cell h 0, blk_cell h 1, blk_cell h 2, blk_cell h 3⟩, blk_frozen h 0, blk_frozen h 1, blk_frozen h 2, blk_frozen h 3⟩
theorem box4 {y0 y1 y2 y3 : Value} (h : w.heap[g]? = some (.cells #[y0, y1, y2, y3] t (0, 0))) (x0 x1 x2 x3 : Value) : ((((w.setCell ⟨g, 0, none⟩ x0).setCell ⟨g, 1, none⟩ x1).setCell ⟨g, 2, none⟩ x2).setCell ⟨g, 3, none⟩ x3).heap[g]? = some (.cells #[x0, x1, x2, x3] t (0, 0)) :=
 blk_put (blk_put (blk_put (blk_put h 0 x0 rfl) 1 x1 rfl) 2 x2 rfl) 3 x3 rfl
theorem size4 (x0 x1 x2 x3 : Value) : ((((w.setCell ⟨g, 0, none⟩ x0).setCell ⟨g, 1, none⟩ x1).setCell ⟨g, 2, none⟩ x2).setCell ⟨g, 3, none⟩ x3).heap.size = w.heap.size := by simp [World.setCell]
theorem below4 (h : Below w.heap.size w w1) (hg : w.heap.size ≤ g) (x0 x1 x2 x3 : Value) : Below w.heap.size w ((((w1.setCell ⟨g, 0, none⟩ x0).setCell ⟨g, 1, none⟩ x1).setCell ⟨g, 2, none⟩ x2).setCell ⟨g, 3, none⟩ x3) :=
 below_set (below_set (below_set (below_set h hg) hg) hg) hg
theorem two_of {W w' : World} {g g' : Nat} {x0 x1 x2 x3 y0 y1 y2 y3 : Value} {t t' : Nat} (h : W.heap[g]? = some (.cells #[x0, x1, x2, x3] t (0, 0))) (h' : W.heap[g']? = some (.cells #[y0, y1, y2, y3] t' (0, 0))) (hb : Below W.heap.size W w') :
  Below W.heap.size W w' ∧ w'.cell? ⟨g, 0, none⟩ = some x0 ∧ w'.cell? ⟨g, 1, none⟩ = some x1 ∧ w'.cell? ⟨g, 2, none⟩ = some x2 ∧ w'.cell? ⟨g, 3, none⟩ = some x3 ∧ w'.cell? ⟨g', 0, none⟩ = some y0 ∧ w'.cell? ⟨g', 1, none⟩ = some y1 ∧ w'.cell? ⟨g', 2, none⟩ = some y2 ∧ w'.cell? ⟨g', 3, none⟩ = some y3 :=
 have q := blk_below h hb
 have q' := blk_below h' hb
 ⟨hb, blk_cell q 0, blk_cell q 1, blk_cell q 2, blk_cell q 3, blk_cell q' 0, blk_cell q' 1, blk_cell q' 2, blk_cell q' 3⟩
end

/-- THE ONE PURE STATEMENT of laws_FnExactCommonFigure. -/
def laws_FnExactCommonFigure.Pure : Prop := ∀ (a0_0 : Int) (a0_1 : Int) (l0_2 : List Int) (l0_3 : List Int) (a1_0 : Int) (a1_1 : Int) (l1_2 : List Int) (l1_3 : List Int), (Lit.int .i64 a0_0).wf = true → (Lit.int .i64 a0_1).wf = true → l0_2.length ≤ maxLen → (∀ x ∈ l0_2, (Lit.int .i64 x).wf = true) → l0_3.length ≤ maxLen → (∀ x ∈ l0_3, (Lit.int .i64 x).wf = true) → (Lit.int .i64 a1_0).wf = true → (Lit.int .i64 a1_1).wf = true → l1_2.length ≤ maxLen → (∀ x ∈ l1_2, (Lit.int .i64 x).wf = true) → l1_3.length ≤ maxLen → (∀ x ∈ l1_3, (Lit.int .i64 x).wf = true) → ∃ k, laws_FnExactCommonFigure.f k a0_0 a0_1 l0_2 l0_3 a1_0 a1_1 l1_2 l1_3 = some true
set_option maxHeartbeats 8000000 in
set_option maxRecDepth 100000 in
theorem laws_FnExactCommonFigure.calls (k : Nat) (a0_0 : Int) (a0_1 : Int) (A0_2 : Option Addr) (c0_2 : Nat) (l0_2 : List Int) (A0_3 : Option Addr) (c0_3 : Nat) (l0_3 : List Int) (a1_0 : Int) (a1_1 : Int) (A1_2 : Option Addr) (c1_2 : Nat) (l1_2 : List Int) (A1_3 : Option Addr) (c1_3 : Nat) (l1_3 : List Int) (r : Bool) (w : World) (hr0_2 : Kd.C (Kd.int .i64) w A0_2 l0_2.length l0_2) (hc0_2 : l0_2.length ≤ c0_2) (hr0_3 : Kd.C (Kd.int .i64) w A0_3 l0_3.length l0_3) (hc0_3 : l0_3.length ≤ c0_3) (hr1_2 : Kd.C (Kd.int .i64) w A1_2 l1_2.length l1_2) (hc1_2 : l1_2.length ≤ c1_2) (hr1_3 : Kd.C (Kd.int .i64) w A1_3 l1_3.length l1_3) (hc1_3 : l1_3.length ≤ c1_3) (hG : LaidG w) (hr_ : r = true) (h : laws_FnExactCommonFigure.f k a0_0 a0_1 l0_2 l0_3 a1_0 a1_1 l1_2 l1_3 = some r) :
  Calls Tryd.prog 5 #[.agg #[.int .i64 a0_0, .int .i64 a0_1, .slice A0_2 l0_2.length c0_2, .slice A0_3 l0_3.length c0_3], .agg #[.int .i64 a1_0, .int .i64 a1_1, .slice A1_2 l1_2.length c1_2, .slice A1_3 l1_3.length c1_3]] w fun e w' => e = .returned (.bool r) ∧ Below w.heap.size w w' := by
 clear hr_
 unfold laws_FnExactCommonFigure.f at h
 obtain ⟨z1, hz1, h⟩ := Option.bind_eq_some_iff.mp h
 have H := Aside0.mk h
 have Z1 := Aside0.mk hz1
 have R0 := Aside0.mk hr0_2
 have R1 := Aside0.mk hr0_3
 have R2 := Aside0.mk hr1_2
 have R3 := Aside0.mk hr1_3
 have N0 := Aside0.mk hc0_2
 have N1 := Aside0.mk hc0_3
 have N2 := Aside0.mk hc1_2
 have N3 := Aside0.mk hc1_3
 have HG := Aside0.mk hG
 clear h hz1 hr0_2 hr0_3 hr1_2 hr1_3 hc0_2 hc0_3 hc1_2 hc1_3 hG
 go_enter Tryd.func5, Tryd.ntmps5
 go_upto_region 2 with (fail)
 have hE := blk_alloc (blk_new w (.cells #[.int .i64 a0_0, .int .i64 a0_1, .slice A0_2 l0_2.length c0_2, .slice A0_3 l0_3.length c0_3] 24)) (.cells #[.int .i64 a1_0, .int .i64 a1_1, .slice A1_2 l1_2.length c1_2, .slice A1_3 l1_3.length c1_3] 24)
 have hF := blk_new (w.alloc (.cells #[.int .i64 a0_0, .int .i64 a0_1, .slice A0_2 l0_2.length c0_2, .slice A0_3 l0_3.length c0_3] 24)) (.cells #[.int .i64 a1_0, .int .i64 a1_1, .slice A1_2 l1_2.length c1_2, .slice A1_3 l1_3.length c1_3] 24)
 have hB := below_alloc (below_alloc (Below.refl w.heap.size w) (.cells #[.int .i64 a0_0, .int .i64 a0_1, .slice A0_2 l0_2.length c0_2, .slice A0_3 l0_3.length c0_3] 24)) (.cells #[.int .i64 a1_0, .int .i64 a1_1, .slice A1_2 l1_2.length c1_2, .slice A1_3 l1_3.length c1_3] 24)
 rw [show (w.alloc (.cells #[.int .i64 a0_0, .int .i64 a0_1, .slice A0_2 l0_2.length c0_2, .slice A0_3 l0_3.length c0_3] 24)).heap.size = w.heap.size + 1 by simp] at hF
 generalize (w.alloc (.cells #[.int .i64 a0_0, .int .i64 a0_1, .slice A0_2 l0_2.length c0_2, .slice A0_3 l0_3.length c0_3] 24)).alloc (.cells #[.int .i64 a1_0, .int .i64 a1_1, .slice A1_2 l1_2.length c1_2, .slice A1_3 l1_3.length c1_3] 24) = W0 at *
 have BF := Aside0.mk hE
 have BG := Aside0.mk hF
 have HB := Aside0.mk hB
 have hz0 := (blk_cell hE 0).trans rfl
 have hz1 := (blk_cell hE 1).trans rfl
 have hz2 := (blk_cell hE 2).trans rfl
 have hz3 := (blk_cell hE 3).trans rfl
 clear hE hF hB
 go_upto_region 3 with (go_at_call 10; refine (laws_szFigure.calls _ _ _ _ l0_2 _ _ l0_3 1000000 z1 _ (Kd.C_below R0.out HB.out) N0.out (Kd.C_below R1.out HB.out) N1.out Z1.out).mono ?_; rintro e w1 ⟨rfl, hb⟩)
 clear hz0 hz1 hz2 hz3 h
 have BF1 := Aside0.mk (blk_below BF.out hb)
 have BG1 := Aside0.mk (blk_below BG.out hb)
 have HB1 := Aside0.mk (HB.out.trans (hb.mono HB.out.size))
 clear BF BG HB hb W0
 have H1 := H.out
 clear H
 by_cases c1 : z1 < 0
 ·rw [if_pos c1] at H1
  obtain rfl := Option.some.inj H1
  have c2 : decide (z1 < 0) = true := decide_eq_true c1
  clear c1 H1
  go_wp2
  go_ret
  exact ⟨rfl, HB1.out⟩
 rw [if_neg c1] at H1
 have c2 : decide (z1 < 0) = false := decide_eq_false c1
 obtain ⟨z2, hz2, H1⟩ := Option.bind_eq_some_iff.mp H1
 have H := Aside0.mk H1
 have Z2 := Aside0.mk hz2
 clear c1 H1 hz2
 have hz0 := (blk_cell BG1.out 0).trans rfl
 have hz1 := (blk_cell BG1.out 1).trans rfl
 have hz2 := (blk_cell BG1.out 2).trans rfl
 have hz3 := (blk_cell BG1.out 3).trans rfl
 go_upto_region 6 with (go_at_call 10; refine (laws_szFigure.calls _ _ _ _ l1_2 _ _ l1_3 z1 z2 _ (Kd.C_below R2.out HB1.out) N2.out (Kd.C_below R3.out HB1.out) N3.out Z2.out).mono ?_; rintro e w2 ⟨rfl, hb⟩)
 clear hz0 hz1 hz2 hz3
 have BF := Aside0.mk (blk_below BF1.out hb)
 have BG := Aside0.mk (blk_below BG1.out hb)
 have HB := Aside0.mk (HB1.out.trans (hb.mono HB1.out.size))
 clear BF1 BG1 HB1 hb c2 Z1 Z2
 have H1 := H.out
 clear H
 by_cases c1 : z2 < 0
 ·rw [if_pos c1] at H1
  obtain rfl := Option.some.inj H1
  have c2 : decide (z2 < 0) = true := decide_eq_true c1
  clear c1 H1
  go_wp2
  go_ret
  exact ⟨rfl, HB.out⟩
 rw [if_neg c1] at H1
 have c2 : decide (z2 < 0) = false := decide_eq_false c1
 clear c1
 obtain ⟨rfl, s1, s2, s3, s4, s5, m1, f3, f4, m2, g3, g4, m3, t3, t4, PS, PI, PM1, PM2, PM3, PF0, PF1, PG0, PG1, PE, PX0, PX1, PH, P2, P3⟩ := laws_FnExactCommonFigure.parts H1
 clear H1
 go_upto_region 8 with (fail)
 clear c2
 go_cut [6, 7] (fun v6 v7 wc => ∃ (g lo hi : Nat) (u v : Value), v6 = .pointer (some ⟨g, 0, none⟩) ∧ v7 = .bool s5 ∧ Aside0 (wc.heap[g]? = some (.cells #[.int .i64 s1, .int .i64 s2, u, v] 26 (0, 0))) ∧ Aside0 (FigAt true wc w.heap.size lo hi u v s3 s4) ∧ Aside0 (w2.heap.size ≤ lo ∧ hi ≤ wc.heap.size) ∧ Aside0 (Below w2.heap.size w2 wc))
 · -- SLOW 1
  go_region_held3 (fun w' => Below w2.heap.size w2 w' ∧ w'.cell? ⟨w.heap.size, 0, none⟩ = some (.int .i64 a0_0) ∧ w'.cell? ⟨w.heap.size, 1, none⟩ = some (.int .i64 a0_1) ∧ w'.cell? ⟨w.heap.size, 2, none⟩ = some (.slice A0_2 l0_2.length c0_2) ∧ w'.cell? ⟨w.heap.size, 3, none⟩ = some (.slice A0_3 l0_3.length c0_3) ∧ w'.cell? ⟨w.heap.size + 1, 0, none⟩ = some (.int .i64 a1_0) ∧ w'.cell? ⟨w.heap.size + 1, 1, none⟩ = some (.int .i64 a1_1) ∧ w'.cell? ⟨w.heap.size + 1, 2, none⟩ = some (.slice A1_2 l1_2.length c1_2) ∧ w'.cell? ⟨w.heap.size + 1, 3, none⟩ = some (.slice A1_3 l1_3.length c1_3))
   (exact two_of BF.out BG.out (by first | exact below_drew1 (Below.refl _ _) | exact And.left (by assumption) | (repeat first | exact Below.refl _ _ | exact below_drew1 (Below.refl _ _) | assumption | apply below_alloc | apply pw_below_drewN | apply below_drew1 | refine below4 ?_ (by first | exact Nat.le_refl _ | exact HS3.size | exact HS4.size) _ _ _ _)))
   (first
    | (go_at_call 12; with_reducible refine (laws_toFigure.calls a0_0 a0_1 _ _ l0_2 _ _ l0_3 false a0_0 a0_1 l0_2 l0_3 _ (Kd.C_below R0.out (via HB.out (by assumption))) N0.out (Kd.C_below R1.out (via HB.out (by assumption))) N1.out PF0.out).mono ?_; rintro e w3 ⟨u0, u1, rfl, ho0, ho1, hb3⟩; have HS3 : Below w2.heap.size w2 w3 := (via (Below.refl w2.heap.size w2) (by assumption : Below w2.heap.size w2 _ ∧ _)).trans (hb3.mono (via (Below.refl w2.heap.size w2) (by assumption : Below w2.heap.size w2 _ ∧ _)).size); have T0 := Aside0.mk (FigAt.of ho0 ho1 (Nat.zero_le _)); obtain ⟨P0, d0, P1, d1, rfl, rfl⟩ := T0.out.slices; clear ho0 ho1; (first | (have hn3 := new_belowD (o := (.cells #[.int .i64 0, .int .i64 0, .slice none 0 0, .slice none 0 0] 26)) hb3) | (have hn3 := new_below (o := (.cells #[.int .i64 0, .int .i64 0, .slice none 0 0, .slice none 0 0] 26)) hb3) | skip))
    | (go_at_call 12; with_reducible refine (laws_toFigure.calls a1_0 a1_1 _ _ l1_2 _ _ l1_3 false a1_0 a1_1 l1_2 l1_3 _ (Kd.C_below R2.out (via HB.out (by assumption))) N2.out (Kd.C_below R3.out (via HB.out (by assumption))) N3.out PG0.out).mono ?_; rintro e w4 ⟨v0, v1, rfl, ho0, ho1, hb4⟩; have HS4 : Below w2.heap.size w2 w4 := (via (Below.refl w2.heap.size w2) (by assumption : Below w2.heap.size w2 _ ∧ _)).trans (hb4.mono (via (Below.refl w2.heap.size w2) (by assumption : Below w2.heap.size w2 _ ∧ _)).size); have T1 := Aside0.mk (FigAt.of ho0 ho1 (Nat.zero_le _)); obtain ⟨Q0, q0, Q1, q1, rfl, rfl⟩ := T1.out.slices; have T2 := Aside0.mk (FigAt.below (FigAt.below T0.out (by repeat first | exact Below.refl _ _ | apply below_alloc | apply pw_below_drewN | apply below_drew1)) hb4); clear ho0 ho1; (first | (have hn4 := new_below (o := (.cells #[.int .i64 0, .int .i64 0, .slice none 0 0, .slice none 0 0] 26)) hb4) | skip); (first | (have hn4 := blk_below hn3 hb4) | skip))
    | (go_at_call 20; with_reducible refine (spec_CommonFigure.calls k _ _ _ _ l0_2 _ _ l0_3 _ _ _ _ l1_2 _ _ l1_3 s1 s2 s3 s4 s5 _ (FigAt.c0 (FigAt.below T2.out (by repeat first | exact Below.refl _ _ | apply below_alloc | apply pw_below_drewN | apply below_drew1))) T2.out.l0 (FigAt.c1 (FigAt.below T2.out (by repeat first | exact Below.refl _ _ | apply below_alloc | apply pw_below_drewN | apply below_drew1))) T2.out.l1 (FigAt.c0 (FigAt.below T1.out (by repeat first | exact Below.refl _ _ | apply below_alloc | apply pw_below_drewN | apply below_drew1))) T1.out.l0 (FigAt.c1 (FigAt.below T1.out (by repeat first | exact Below.refl _ _ | apply below_alloc | apply pw_below_drewN | apply below_drew1))) T1.out.l1 PS.out).mono ?_; rintro e w5 ⟨x0, x1, rfl, ho0, ho1, hb5⟩; have HS5 : Below w2.heap.size w2 w5 := (via (Below.refl w2.heap.size w2) (by assumption : Below w2.heap.size w2 _ ∧ _)).trans (hb5.mono (via (Below.refl w2.heap.size w2) (by assumption : Below w2.heap.size w2 _ ∧ _)).size); have T3 := Aside0.mk (FigAt.ofR ho0 ho1 (via HB.out (by assumption : Below w2.heap.size w2 _ ∧ _)).size); obtain ⟨U0, y0, U1, y1, rfl, rfl⟩ := T3.out.slices; clear ho0 ho1; (first | (have hn5 := new_below (o := (.cells #[.int .i64 0, .int .i64 0, .slice none 0 0, .slice none 0 0] 26)) hb5) | skip); (first | (have hn5 := blk_below hn4 hb5) | skip); (first | (have hq5 := cells4 hn5; obtain ⟨⟨k0, k1, k2, k3⟩, n0, n1, n2, n3⟩ := hq5) | skip)))
  all_goals
   have hBz := And.left (by assumption : Below w2.heap.size w2 _ ∧ _)
   go_wp2
   go_meet
   case rel => first
    | exact ⟨_, _, _, _, _, rfl, rfl, ⟨blk_new w5 _⟩, ⟨T3.out.below (below_alloc (Below.refl _ _) _)⟩, ⟨HS4.size, Nat.le_of_lt (blk_lt (blk_new _ _))⟩, ⟨hBz⟩⟩
    | exact ⟨_, _, _, _, _, rfl, rfl, ⟨box4 hn5 _ _ _ _⟩, ⟨T3.out.set4 (.inl (blk_lt hn4)) _ _ _ _⟩, ⟨HS4.size, Nat.le_of_eq (size4 _ _ _ _).symm⟩, ⟨hBz⟩⟩
    | exact ⟨_, _, _, _, _, rfl, rfl, ⟨box4 hn5 _ _ _ _⟩, ⟨T3.out.set4 (.inl (blk_lt (blk_new _ _))) _ _ _ _⟩, ⟨Nat.le_trans HS4.size (Nat.le_of_lt (blk_lt (blk_new _ _))), Nat.le_of_eq (size4 _ _ _ _).symm⟩, ⟨hBz⟩⟩
 -- END 1
 obtain ⟨gS, loS, hiS, uS, vS, rfl, rfl, BS0, TS0, LS, HBc⟩ := hcut
 obtain ⟨U0, y0, U1, y1, rfl, rfl⟩ := TS0.out.slices
 have BF3 := Aside0.mk (blk_below BF.out HBc.out)
 have BG3 := Aside0.mk (blk_below BG.out HBc.out)
 have HB3 := Aside0.mk (HB.out.trans (HBc.out.mono HB.out.size))
 clear BF BG HB HBc
 -- x0
 have hz0 := (blk_cell BF3.out 0).trans rfl
 have hz1 := (blk_cell BF3.out 1).trans rfl
 have hz2 := (blk_cell BF3.out 2).trans rfl
 have hz3 := (blk_cell BF3.out 3).trans rfl
 go_upto_region 10 with (go_at_call 12; with_reducible refine (laws_toFigure.calls a0_0 a0_1 _ _ l0_2 _ _ l0_3 false a0_0 a0_1 l0_2 l0_3 _ (Kd.C_below R0.out HB3.out) N0.out (Kd.C_below R1.out HB3.out) N1.out PF0.out).mono ?_; rintro e w3 ⟨u0, u1, rfl, ho0, ho1, hb3⟩; have T0 := Aside0.mk (FigAt.of ho0 ho1 HB3.out.size); obtain ⟨P0, d0, P1, d1, rfl, rfl⟩ := T0.out.slices; clear ho0 ho1)
 clear hz0 hz1 hz2 hz3
 have hb := below_alloc hb3 (.cells #[.int .i64 a0_0, .int .i64 a0_1, .slice P0 l0_2.length d0, .slice P1 l0_3.length d1] 26)
 have hb4 := below_alloc (Below.refl w3.heap.size w3) (.cells #[.int .i64 a0_0, .int .i64 a0_1, .slice P0 l0_2.length d0, .slice P1 l0_3.length d1] 26)
 have B8 := Aside0.mk (blk_new w3 (.cells #[.int .i64 a0_0, .int .i64 a0_1, .slice P0 l0_2.length d0, .slice P1 l0_3.length d1] 26))
 generalize hg8 : w3.heap.size = g8 at hb4 B8 T0 ⊢
 generalize w3.alloc (.cells #[.int .i64 a0_0, .int .i64 a0_1, .slice P0 l0_2.length d0, .slice P1 l0_3.length d1] 26) = w6 at hb hb4 B8 ⊢
 have BF := Aside0.mk (blk_below BF3.out hb)
 have BG := Aside0.mk (blk_below BG3.out hb)
 have BS1 := Aside0.mk (blk_below BS0.out hb)
 have TS1 := Aside0.mk (TS0.out.below hb)
 have X0 := Aside0.mk (T0.out.below (hg8 ▸ hb4))
 have HB := Aside0.mk (HB3.out.trans (hb.mono HB3.out.size))
 have L8 := Aside0.mk (show wc.heap.size ≤ g8 ∧ g8 ≤ w6.heap.size ∧ hiS ≤ wc.heap.size from ⟨hg8 ▸ hb3.size, Nat.le_of_lt (blk_lt B8.out), LS.out.2⟩)
 clear BF3 BG3 HB3 BS0 TS0 LS T0 hb3 hb4 hb hg8
 -- x1
 have hz0 := (blk_cell BG.out 0).trans rfl
 have hz1 := (blk_cell BG.out 1).trans rfl
 have hz2 := (blk_cell BG.out 2).trans rfl
 have hz3 := (blk_cell BG.out 3).trans rfl
 go_upto_region 11 with (go_at_call 12; with_reducible refine (laws_toFigure.calls a1_0 a1_1 _ _ l1_2 _ _ l1_3 false a1_0 a1_1 l1_2 l1_3 _ (Kd.C_below R2.out HB.out) N2.out (Kd.C_below R3.out HB.out) N3.out PG0.out).mono ?_; rintro e w7 ⟨u0, u1, rfl, ho0, ho1, hb3⟩; have T0 := Aside0.mk (FigAt.of ho0 ho1 HB.out.size); obtain ⟨Q0, q0, Q1, q1, rfl, rfl⟩ := T0.out.slices; clear ho0 ho1)
 clear hz0 hz1 hz2 hz3
 have hb := below_alloc hb3 (.cells #[.int .i64 a1_0, .int .i64 a1_1, .slice Q0 l1_2.length q0, .slice Q1 l1_3.length q1] 26)
 have hb4 := below_alloc (Below.refl w7.heap.size w7) (.cells #[.int .i64 a1_0, .int .i64 a1_1, .slice Q0 l1_2.length q0, .slice Q1 l1_3.length q1] 26)
 have B9 := Aside0.mk (blk_new w7 (.cells #[.int .i64 a1_0, .int .i64 a1_1, .slice Q0 l1_2.length q0, .slice Q1 l1_3.length q1] 26))
 generalize hg9 : w7.heap.size = g9 at hb4 B9 T0 ⊢
 generalize w7.alloc (.cells #[.int .i64 a1_0, .int .i64 a1_1, .slice Q0 l1_2.length q0, .slice Q1 l1_3.length q1] 26) = w8 at hb hb4 B9 ⊢
 have BF3 := Aside0.mk (blk_below BF.out hb)
 have BG3 := Aside0.mk (blk_below BG.out hb)
 have BS0 := Aside0.mk (blk_below BS1.out hb)
 have TS0 := Aside0.mk (TS1.out.below hb)
 have B8a := Aside0.mk (blk_below B8.out hb)
 have X0a := Aside0.mk (X0.out.below hb)
 have X1 := Aside0.mk (T0.out.below (hg9 ▸ hb4))
 have HB3 := Aside0.mk (HB.out.trans (hb.mono HB.out.size))
 have L9 := Aside0.mk (show w6.heap.size ≤ g9 ∧ g9 ≤ w8.heap.size from ⟨hg9 ▸ hb3.size, Nat.le_of_lt (blk_lt B9.out)⟩)
 clear BF BG BS1 TS1 B8 X0 HB T0 hb3 hb4 hb hg9
 -- g0, g1
 have hz0 := (blk_cell B8a.out 0).trans rfl
 have hz1 := (blk_cell B8a.out 1).trans rfl
 have hz2 := (blk_cell B8a.out 2).trans rfl
 have hz3 := (blk_cell B8a.out 3).trans rfl
 have hy0 := (blk_cell B9.out 0).trans rfl
 have hy1 := (blk_cell B9.out 1).trans rfl
 have hy2 := (blk_cell B9.out 2).trans rfl
 have hy3 := (blk_cell B9.out 3).trans rfl
 go_upto_region 12 with (go_at_call 21; with_reducible refine (impl_CommonFigure.calls k _ _ _ _ l0_2 _ _ l0_3 _ _ _ _ l1_2 _ _ l1_3 s1 s2 s3 s4 s5 _ X0a.out.c0 X0a.out.l0 X0a.out.c1 X0a.out.l1 X1.out.c0 X1.out.l0 X1.out.c1 X1.out.l1 (LaidG_below HG.out HB3.out) PI.out).mono ?_; rintro e w9 ⟨u0, u1, rfl, ho0, ho1, hb3⟩; have T0 := Aside0.mk (FigAt.ofR ho0 ho1 HB3.out.size); obtain ⟨V0, v0, V1, v1, rfl, rfl⟩ := T0.out.slices; clear ho0 ho1)
 clear hz0 hz1 hz2 hz3 hy0 hy1 hy2 hy3
 have hb := below_alloc hb3 (.cells #[.int .i64 s1, .int .i64 s2, .slice V0 s3.length v0, .slice V1 s4.length v1] 26)
 have hb4 := below_alloc (Below.refl w9.heap.size w9) (.cells #[.int .i64 s1, .int .i64 s2, .slice V0 s3.length v0, .slice V1 s4.length v1] 26)
 have B10 := Aside0.mk (blk_new w9 (.cells #[.int .i64 s1, .int .i64 s2, .slice V0 s3.length v0, .slice V1 s4.length v1] 26))
 generalize hg10 : w9.heap.size = g10 at hb4 B10 T0 ⊢
 generalize w9.alloc (.cells #[.int .i64 s1, .int .i64 s2, .slice V0 s3.length v0, .slice V1 s4.length v1] 26) = w10 at hb hb4 B10 ⊢
 have BF := Aside0.mk (blk_below BF3.out hb)
 have BG := Aside0.mk (blk_below BG3.out hb)
 have BS := Aside0.mk (blk_below BS0.out hb)
 have TS := Aside0.mk (TS0.out.below hb)
 have B8 := Aside0.mk (blk_below B8a.out hb)
 have X0 := Aside0.mk (X0a.out.below hb)
 have B9a := Aside0.mk (blk_below B9.out hb)
 have X1a := Aside0.mk (X1.out.below hb)
 have TG := Aside0.mk (T0.out.below (hg10 ▸ hb4))
 have HB := Aside0.mk (HB3.out.trans (hb.mono HB3.out.size))
 have L10 := Aside0.mk (show w8.heap.size ≤ g10 ∧ g10 ≤ w10.heap.size from ⟨hg10 ▸ hb3.size, Nat.le_of_lt (blk_lt B10.out)⟩)
 clear BF3 BG3 BS0 TS0 B8a X0a B9 X1 HB3 T0 hb3 hb4 hb hg10
 -- the first comparison
 have hz0 := (blk_cell B10.out 0).trans rfl
 have hz1 := (blk_cell B10.out 1).trans rfl
 have hz2 := (blk_cell B10.out 2).trans rfl
 have hz3 := (blk_cell B10.out 3).trans rfl
 have hy0 := (blk_cell BS.out 0).trans rfl
 have hy1 := (blk_cell BS.out 1).trans rfl
 have hy2 := (blk_cell BS.out 2).trans rfl
 have hy3 := (blk_cell BS.out 3).trans rfl
 have hne : (s5 != s5) = false := bne_self_eq_false s5
 go_upto_region 14 with (go_at_call 14; with_reducible refine (laws_eqFigure.calls k _ _ _ _ s3 _ _ s4 _ _ _ _ s3 _ _ s4 true _ TG.out.c0 TG.out.l0 TG.out.c1 TG.out.l1 TS.out.c0 TS.out.l0 TS.out.c1 TS.out.l1 PE.out).mono ?_; rintro e w11 ⟨rfl, hb⟩)
 clear hz0 hz1 hz2 hz3 hy0 hy1 hy2 hy3
 have BF0 := Aside0.mk (blk_below BF.out hb)
 have BG0 := Aside0.mk (blk_below BG.out hb)
 have BS0 := Aside0.mk (blk_below BS.out hb)
 have TS0 := Aside0.mk (TS.out.below hb)
 have B80 := Aside0.mk (blk_below B8.out hb)
 have X00 := Aside0.mk (X0.out.below hb)
 have B90 := Aside0.mk (blk_below B9a.out hb)
 have X10 := Aside0.mk (X1a.out.below hb)
 have B100 := Aside0.mk (blk_below B10.out hb)
 have TG0 := Aside0.mk (TG.out.below hb)
 have HB0 := Aside0.mk (HB.out.trans (hb.mono HB.out.size))
 clear BF BG BS TS B8 X0 B9a X1a B10 TG HB hb
 have HB := HB0
 go_cut [58] (fun v wc => v = .bool false ∧ Aside0 (Below w11.heap.size w11 wc))
 · -- SLOW 2
  go_region_held3 (fun w' => Below w11.heap.size w11 w' ∧ w'.cell? ⟨g8, 0, none⟩ = some (.int .i64 a0_0) ∧ w'.cell? ⟨g8, 1, none⟩ = some (.int .i64 a0_1) ∧ w'.cell? ⟨g8, 2, none⟩ = some (.slice P0 l0_2.length d0) ∧ w'.cell? ⟨g8, 3, none⟩ = some (.slice P1 l0_3.length d1) ∧ w'.cell? ⟨w.heap.size, 0, none⟩ = some (.int .i64 a0_0) ∧ w'.cell? ⟨w.heap.size, 1, none⟩ = some (.int .i64 a0_1) ∧ w'.cell? ⟨w.heap.size, 2, none⟩ = some (.slice A0_2 l0_2.length c0_2) ∧ w'.cell? ⟨w.heap.size, 3, none⟩ = some (.slice A0_3 l0_3.length c0_3))
   (exact two_of B80.out BF0.out (by first | exact below_drew1 (Below.refl _ _) | exact And.left (by assumption) | (repeat first | exact Below.refl _ _ | assumption | apply below_alloc | apply pw_below_drewN | apply below_drew1)))
   (first
    | (go_at_call 12; with_reducible refine (laws_toFigure.calls a0_0 a0_1 _ _ l0_2 _ _ l0_3 false a0_0 a0_1 l0_2 l0_3 _ (Kd.C_below R0.out (via HB.out (by assumption))) N0.out (Kd.C_below R1.out (via HB.out (by assumption))) N1.out PF0.out).mono ?_; rintro e w3 ⟨u0, u1, rfl, ho0, ho1, hb3⟩; have HS3 : Below w11.heap.size w11 w3 := (via (Below.refl w11.heap.size w11) (by assumption : Below w11.heap.size w11 _ ∧ _)).trans (hb3.mono (via (Below.refl w11.heap.size w11) (by assumption : Below w11.heap.size w11 _ ∧ _)).size); have T0 := Aside0.mk (FigAt.of ho0 ho1 (Nat.zero_le _)); obtain ⟨J0, j0, J1, j1, rfl, rfl⟩ := T0.out.slices; clear ho0 ho1)
    | (go_at_call 15; with_reducible refine (laws_intactFigure.calls _ _ _ _ l0_2 _ _ l0_3 _ _ _ _ l0_2 _ _ l0_3 true _ (FigAt.c0 (X00.out.below (And.left (by assumption : Below w11.heap.size w11 _ ∧ _)))) X00.out.l0 (FigAt.s0 (X00.out.below (And.left (by assumption : Below w11.heap.size w11 _ ∧ _)))) (FigAt.c1 (X00.out.below (And.left (by assumption : Below w11.heap.size w11 _ ∧ _)))) X00.out.l1 (FigAt.s1 (X00.out.below (And.left (by assumption : Below w11.heap.size w11 _ ∧ _)))) (FigAt.c0 (T0.out.below (by repeat first | exact Below.refl _ _ | apply below_alloc | apply pw_below_drewN | apply below_drew1))) T0.out.l0 (FigAt.s0 (T0.out.below (by repeat first | exact Below.refl _ _ | apply below_alloc | apply pw_below_drewN | apply below_drew1))) (FigAt.c1 (T0.out.below (by repeat first | exact Below.refl _ _ | apply below_alloc | apply pw_below_drewN | apply below_drew1))) T0.out.l1 (FigAt.s1 (T0.out.below (by repeat first | exact Below.refl _ _ | apply below_alloc | apply pw_below_drewN | apply below_drew1))) PX0.out).mono ?_; rintro e w4 ⟨rfl, hb4⟩; have HS4 : Below w11.heap.size w11 w4 := (via (Below.refl w11.heap.size w11) (by assumption : Below w11.heap.size w11 _ ∧ _)).trans (hb4.mono (via (Below.refl w11.heap.size w11) (by assumption : Below w11.heap.size w11 _ ∧ _)).size)))
  all_goals
   have hBz := And.left (by assumption : Below w11.heap.size w11 _ ∧ _)
   go_wp2
   go_meet
   case rel => exact ⟨rfl, ⟨hBz⟩⟩
 -- END 2
 obtain ⟨rfl, HBc⟩ := hcut
 have HB1 := Aside0.mk (HB0.out.trans (HBc.out.mono HB0.out.size))
 clear HB HB0
 have HB := HB1
 generalize wc = w12 at HBc HB HB1 ⊢
 have BF := Aside0.mk (blk_below BF0.out HBc.out)
 have BG := Aside0.mk (blk_below BG0.out HBc.out)
 have BS := Aside0.mk (blk_below BS0.out HBc.out)
 have TS := Aside0.mk (TS0.out.below HBc.out)
 have B8 := Aside0.mk (blk_below B80.out HBc.out)
 have X0 := Aside0.mk (X00.out.below HBc.out)
 have B9 := Aside0.mk (blk_below B90.out HBc.out)
 have X1 := Aside0.mk (X10.out.below HBc.out)
 have B10 := Aside0.mk (blk_below B100.out HBc.out)
 have TG := Aside0.mk (TG0.out.below HBc.out)
 clear BF0 BG0 BS0 TS0 B80 X00 B90 X10 B100 TG0 HBc HB1
 go_upto_region 16 with (fail)
 go_cut [63] (fun v wc => v = .bool false ∧ Aside0 (Below w12.heap.size w12 wc))
 · -- SLOW 3
  go_region_held3 (fun w' => Below w12.heap.size w12 w' ∧ w'.cell? ⟨g9, 0, none⟩ = some (.int .i64 a1_0) ∧ w'.cell? ⟨g9, 1, none⟩ = some (.int .i64 a1_1) ∧ w'.cell? ⟨g9, 2, none⟩ = some (.slice Q0 l1_2.length q0) ∧ w'.cell? ⟨g9, 3, none⟩ = some (.slice Q1 l1_3.length q1) ∧ w'.cell? ⟨w.heap.size + 1, 0, none⟩ = some (.int .i64 a1_0) ∧ w'.cell? ⟨w.heap.size + 1, 1, none⟩ = some (.int .i64 a1_1) ∧ w'.cell? ⟨w.heap.size + 1, 2, none⟩ = some (.slice A1_2 l1_2.length c1_2) ∧ w'.cell? ⟨w.heap.size + 1, 3, none⟩ = some (.slice A1_3 l1_3.length c1_3))
   (exact two_of B9.out BG.out (by first | exact below_drew1 (Below.refl _ _) | exact And.left (by assumption) | (repeat first | exact Below.refl _ _ | assumption | apply below_alloc | apply pw_below_drewN | apply below_drew1)))
   (first
    | (go_at_call 12; with_reducible refine (laws_toFigure.calls a1_0 a1_1 _ _ l1_2 _ _ l1_3 false a1_0 a1_1 l1_2 l1_3 _ (Kd.C_below R2.out (via HB.out (by assumption))) N2.out (Kd.C_below R3.out (via HB.out (by assumption))) N3.out PG0.out).mono ?_; rintro e w3 ⟨u0, u1, rfl, ho0, ho1, hb3⟩; have HS3 : Below w12.heap.size w12 w3 := (via (Below.refl w12.heap.size w12) (by assumption : Below w12.heap.size w12 _ ∧ _)).trans (hb3.mono (via (Below.refl w12.heap.size w12) (by assumption : Below w12.heap.size w12 _ ∧ _)).size); have T0 := Aside0.mk (FigAt.of ho0 ho1 (Nat.zero_le _)); obtain ⟨J0, j0, J1, j1, rfl, rfl⟩ := T0.out.slices; clear ho0 ho1)
    | (go_at_call 15; with_reducible refine (laws_intactFigure.calls _ _ _ _ l1_2 _ _ l1_3 _ _ _ _ l1_2 _ _ l1_3 true _ (FigAt.c0 (X1.out.below (And.left (by assumption : Below w12.heap.size w12 _ ∧ _)))) X1.out.l0 (FigAt.s0 (X1.out.below (And.left (by assumption : Below w12.heap.size w12 _ ∧ _)))) (FigAt.c1 (X1.out.below (And.left (by assumption : Below w12.heap.size w12 _ ∧ _)))) X1.out.l1 (FigAt.s1 (X1.out.below (And.left (by assumption : Below w12.heap.size w12 _ ∧ _)))) (FigAt.c0 (T0.out.below (by repeat first | exact Below.refl _ _ | apply below_alloc | apply pw_below_drewN | apply below_drew1))) T0.out.l0 (FigAt.s0 (T0.out.below (by repeat first | exact Below.refl _ _ | apply below_alloc | apply pw_below_drewN | apply below_drew1))) (FigAt.c1 (T0.out.below (by repeat first | exact Below.refl _ _ | apply below_alloc | apply pw_below_drewN | apply below_drew1))) T0.out.l1 (FigAt.s1 (T0.out.below (by repeat first | exact Below.refl _ _ | apply below_alloc | apply pw_below_drewN | apply below_drew1))) PX1.out).mono ?_; rintro e w4 ⟨rfl, hb4⟩; have HS4 : Below w12.heap.size w12 w4 := (via (Below.refl w12.heap.size w12) (by assumption : Below w12.heap.size w12 _ ∧ _)).trans (hb4.mono (via (Below.refl w12.heap.size w12) (by assumption : Below w12.heap.size w12 _ ∧ _)).size)))
  all_goals
   have hBz := And.left (by assumption : Below w12.heap.size w12 _ ∧ _)
   go_wp2
   go_meet
   case rel => exact ⟨rfl, ⟨hBz⟩⟩
 -- END 3
 obtain ⟨rfl, HBc⟩ := hcut
 have HB1 := Aside0.mk (HB.out.trans (HBc.out.mono HB.out.size))
 clear HB
 generalize wc = w13 at HBc HB1 ⊢
 have BF0 := Aside0.mk (blk_below BF.out HBc.out)
 have BG0 := Aside0.mk (blk_below BG.out HBc.out)
 have BS0 := Aside0.mk (blk_below BS.out HBc.out)
 have TS0 := Aside0.mk (TS.out.below HBc.out)
 have B80 := Aside0.mk (blk_below B8.out HBc.out)
 have X00 := Aside0.mk (X0.out.below HBc.out)
 have B90 := Aside0.mk (blk_below B9.out HBc.out)
 have X10 := Aside0.mk (X1.out.below HBc.out)
 have B100 := Aside0.mk (blk_below B10.out HBc.out)
 have TG0 := Aside0.mk (TG.out.below HBc.out)
 clear BF BG BS TS B8 X0 B9 X1 B10 TG HBc
 go_upto_region 19 with (fail)
 have hz0 := (blk_cell B80.out 0).trans rfl
 have hz1 := (blk_cell B80.out 1).trans rfl
 have hz2 := (blk_cell B80.out 2).trans rfl
 have hz3 := (blk_cell B80.out 3).trans rfl
 have HC := Aside0.mk (laws_markFigure.calls k a0_0 a0_1 _ _ l0_2 _ _ l0_3 101 m1 f3 f4 w w13 HB1.out X00.out.1.1 X00.out.2.2.1 X00.out.2.1.1 (fun k_ h3 h2 => X00.out.2.2.1 k_ h2 h3) PM1.out)
 go_upto_region 20 with (go_at_call 16; refine HC.out.mono ?_; rintro e w14 ⟨rfl, ho0, ho1, hB2, hk⟩)
 clear HC
 clear hz0 hz1 hz2 hz3
 have BF := Aside0.mk (X00.out.blk BF0.out (by decide) hk)
 have BG := Aside0.mk (X00.out.blk BG0.out (by decide) hk)
 have BS := Aside0.mk (X00.out.blk BS0.out (by decide) hk)
 have TS := Aside0.mk (TS0.out.kept X00.out hk (by have := L8.out; have := L9.out; have := L10.out; omega))
 have B9 := Aside0.mk (X00.out.blk B90.out (by decide) hk)
 have X1 := Aside0.mk (X10.out.kept X00.out hk (by have := L8.out; have := L9.out; have := L10.out; omega))
 have B10 := Aside0.mk (X00.out.blk B100.out (by decide) hk)
 have TG := Aside0.mk (TG0.out.kept X00.out hk (by have := L8.out; have := L9.out; have := L10.out; omega))
 have HB := Aside0.mk (hB2)
 clear BF0 BG0 BS0 TS0 B80 X00 B90 X10 B100 TG0 HB1 ho0 ho1 hB2 hk
 have hz0 := (blk_cell B9.out 0).trans rfl
 have hz1 := (blk_cell B9.out 1).trans rfl
 have hz2 := (blk_cell B9.out 2).trans rfl
 have hz3 := (blk_cell B9.out 3).trans rfl
 have HC := Aside0.mk (laws_markFigure.calls k a1_0 a1_1 _ _ l1_2 _ _ l1_3 m1 m2 g3 g4 w w14 HB.out X1.out.1.1 X1.out.2.2.1 X1.out.2.1.1 (fun k_ h3 h2 => X1.out.2.2.1 k_ h2 h3) PM2.out)
 go_upto_region 21 with (go_at_call 16; refine HC.out.mono ?_; rintro e w15 ⟨rfl, ho0, ho1, hB2, hk⟩)
 clear HC
 clear hz0 hz1 hz2 hz3
 have BF0 := Aside0.mk (X1.out.blk BF.out (by decide) hk)
 have BG0 := Aside0.mk (X1.out.blk BG.out (by decide) hk)
 have BS0 := Aside0.mk (X1.out.blk BS.out (by decide) hk)
 have TS0 := Aside0.mk (TS.out.kept X1.out hk (by have := L8.out; have := L9.out; have := L10.out; omega))
 have B100 := Aside0.mk (X1.out.blk B10.out (by decide) hk)
 have TG0 := Aside0.mk (TG.out.kept X1.out hk (by have := L8.out; have := L9.out; have := L10.out; omega))
 have HB1 := Aside0.mk (hB2)
 clear BF BG BS TS B9 X1 B10 TG HB ho0 ho1 hB2 hk
 have hz0 := (blk_cell B100.out 0).trans rfl
 have hz1 := (blk_cell B100.out 1).trans rfl
 have hz2 := (blk_cell B100.out 2).trans rfl
 have hz3 := (blk_cell B100.out 3).trans rfl
 have hy0 := (blk_cell BS0.out 0).trans rfl
 have hy1 := (blk_cell BS0.out 1).trans rfl
 have hy2 := (blk_cell BS0.out 2).trans rfl
 have hy3 := (blk_cell BS0.out 3).trans rfl
 have hm2 : decide (m2 < 0) = false := decide_eq_false (by have := P2.out; omega)
 go_upto_region 23 with (go_at_call 14; with_reducible refine (laws_eqFigure.calls k _ _ _ _ s3 _ _ s4 _ _ _ _ s3 _ _ s4 true _ TG0.out.c0 TG0.out.l0 TG0.out.c1 TG0.out.l1 TS0.out.c0 TS0.out.l0 TS0.out.c1 TS0.out.l1 PE.out).mono ?_; rintro e w16 ⟨rfl, hb⟩)
 clear hz0 hz1 hz2 hz3 hy0 hy1 hy2 hy3
 have BF := Aside0.mk (blk_below BF0.out hb)
 have BG := Aside0.mk (blk_below BG0.out hb)
 have BS := Aside0.mk (blk_below BS0.out hb)
 have TS := Aside0.mk (TS0.out.below hb)
 have B10 := Aside0.mk (blk_below B100.out hb)
 have TG := Aside0.mk (TG0.out.below hb)
 have HB := Aside0.mk (HB1.out.trans (hb.mono HB1.out.size))
 clear BF0 BG0 BS0 TS0 B100 TG0 HB1 hb
 go_upto_region 24 with (fail)
 have hz0 := (blk_cell B10.out 0).trans rfl
 have hz1 := (blk_cell B10.out 1).trans rfl
 have hz2 := (blk_cell B10.out 2).trans rfl
 have hz3 := (blk_cell B10.out 3).trans rfl
 have HC := Aside0.mk (laws_markFigure.calls k s1 s2 _ _ s3 _ _ s4 101 m3 t3 t4 w w16 HB.out TG.out.1.1 TG.out.2.2.1 TG.out.2.1.1 (fun k_ h3 h2 => TG.out.2.2.1 k_ h2 h3) PM3.out)
 go_upto_region 25 with (go_at_call 16; refine HC.out.mono ?_; rintro e w17 ⟨rfl, ho0, ho1, hB2, hk⟩)
 clear HC
 clear hz0 hz1 hz2 hz3
 have BF0 := Aside0.mk (TG.out.blk BF.out (by decide) hk)
 have BG0 := Aside0.mk (TG.out.blk BG.out (by decide) hk)
 have BS0 := Aside0.mk (TG.out.blk BS.out (by decide) hk)
 have TS0 := Aside0.mk (TS.out.kept TG.out hk (by have := L8.out; have := L9.out; have := L10.out; omega))
 have B100 := Aside0.mk (TG.out.blk B10.out (by decide) hk)
 have TG1 := Aside0.mk (TG.out.mark ho0 ho1)
 have HB1 := Aside0.mk (hB2)
 have e3 := (Kd.PB_reads' TG1.out.1).1
 have e4 := (Kd.PB_reads' TG1.out.2.1).1
 have B101 : Aside0 (w17.heap[g10]? = some (.cells #[.int .i64 s1, .int .i64 s2, .slice V0 t3.length v0, .slice V1 t4.length v1] 26 (0, 0))) := ⟨e3 ▸ e4 ▸ B100.out⟩
 have TG0 : Aside0 (FigAt true w17 w.heap.size w8.heap.size g10 (.slice V0 t3.length v0) (.slice V1 t4.length v1) t3 t4) := ⟨e3 ▸ e4 ▸ TG1.out⟩
 clear BF BG BS TS B10 TG HB ho0 ho1 hB2 hk TG1 B100 e3 e4
 go_upto_region 26 with (fail)
 have hz0 := (blk_cell B101.out 0).trans rfl
 have hz1 := (blk_cell B101.out 1).trans rfl
 have hz2 := (blk_cell B101.out 2).trans rfl
 have hz3 := (blk_cell B101.out 3).trans rfl
 have hm3 : decide (m3 < 0) = false := decide_eq_false (by have := P3.out; omega)
 have hmm : (m3 != m3) = false := bne_self_eq_false m3
 go_upto_region 31 with (go_at_call 17; with_reducible refine (laws_heldFigure.calls k _ _ _ _ t3 _ _ t4 101 m3 _ TG0.out.c0 TG0.out.l0 TG0.out.c1 TG0.out.l1 PH.out).mono ?_; rintro e w18 ⟨rfl, hb⟩)
 clear hz0 hz1 hz2 hz3
 have BF := Aside0.mk (blk_below BF0.out hb)
 have BG := Aside0.mk (blk_below BG0.out hb)
 have BS := Aside0.mk (blk_below BS0.out hb)
 have TS := Aside0.mk (TS0.out.below hb)
 have B10 := Aside0.mk (blk_below B101.out hb)
 have TG := Aside0.mk (TG0.out.below hb)
 have HB := Aside0.mk (HB1.out.trans (hb.mono HB1.out.size))
 clear BF0 BG0 BS0 TS0 B101 TG0 HB1 hb
 go_cut [15, 16] (fun v15 v16 wc => ∃ (g lo hi : Nat) (u v : Value), v15 = .pointer (some ⟨g, 0, none⟩) ∧ v16 = .bool s5 ∧ Aside0 (wc.heap[g]? = some (.cells #[.int .i64 s1, .int .i64 s2, u, v] 26 (0, 0))) ∧ Aside0 (FigAt true wc w.heap.size lo hi u v s3 s4) ∧ Aside0 (w18.heap.size ≤ lo ∧ hi ≤ wc.heap.size) ∧ Aside0 (Below w18.heap.size w18 wc))
 · -- SLOW 64
  go_region_held3 (fun w' => Below w18.heap.size w18 w' ∧ w'.cell? ⟨w.heap.size, 0, none⟩ = some (.int .i64 a0_0) ∧ w'.cell? ⟨w.heap.size, 1, none⟩ = some (.int .i64 a0_1) ∧ w'.cell? ⟨w.heap.size, 2, none⟩ = some (.slice A0_2 l0_2.length c0_2) ∧ w'.cell? ⟨w.heap.size, 3, none⟩ = some (.slice A0_3 l0_3.length c0_3) ∧ w'.cell? ⟨w.heap.size + 1, 0, none⟩ = some (.int .i64 a1_0) ∧ w'.cell? ⟨w.heap.size + 1, 1, none⟩ = some (.int .i64 a1_1) ∧ w'.cell? ⟨w.heap.size + 1, 2, none⟩ = some (.slice A1_2 l1_2.length c1_2) ∧ w'.cell? ⟨w.heap.size + 1, 3, none⟩ = some (.slice A1_3 l1_3.length c1_3))
   (exact two_of BF.out BG.out (by first | exact below_drew1 (Below.refl _ _) | exact And.left (by assumption) | (repeat first | exact Below.refl _ _ | exact below_drew1 (Below.refl _ _) | assumption | apply below_alloc | apply pw_below_drewN | apply below_drew1 | refine below4 ?_ (by first | exact Nat.le_refl _ | exact HS3.size | exact HS4.size) _ _ _ _)))
   (first
    | (go_at_call 12; with_reducible refine (laws_toFigure.calls a0_0 a0_1 _ _ l0_2 _ _ l0_3 true a0_0 a0_1 l0_2 l0_3 _ (Kd.C_below R0.out (via HB.out (by assumption))) N0.out (Kd.C_below R1.out (via HB.out (by assumption))) N1.out PF1.out).mono ?_; rintro e w3 ⟨u0, u1, rfl, ho0, ho1, hb3⟩; have HS3 : Below w18.heap.size w18 w3 := (via (Below.refl w18.heap.size w18) (by assumption : Below w18.heap.size w18 _ ∧ _)).trans (hb3.mono (via (Below.refl w18.heap.size w18) (by assumption : Below w18.heap.size w18 _ ∧ _)).size); have T0 := Aside0.mk (FigAt.of ho0 ho1 (Nat.zero_le _)); obtain ⟨P0, d0, P1, d1, rfl, rfl⟩ := T0.out.slices; clear ho0 ho1; (first | (have hn3 := new_belowD (o := (.cells #[.int .i64 0, .int .i64 0, .slice none 0 0, .slice none 0 0] 26)) hb3) | (have hn3 := new_below (o := (.cells #[.int .i64 0, .int .i64 0, .slice none 0 0, .slice none 0 0] 26)) hb3) | skip))
    | (go_at_call 12; with_reducible refine (laws_toFigure.calls a1_0 a1_1 _ _ l1_2 _ _ l1_3 true a1_0 a1_1 l1_2 l1_3 _ (Kd.C_below R2.out (via HB.out (by assumption))) N2.out (Kd.C_below R3.out (via HB.out (by assumption))) N3.out PG1.out).mono ?_; rintro e w4 ⟨v0, v1, rfl, ho0, ho1, hb4⟩; have HS4 : Below w18.heap.size w18 w4 := (via (Below.refl w18.heap.size w18) (by assumption : Below w18.heap.size w18 _ ∧ _)).trans (hb4.mono (via (Below.refl w18.heap.size w18) (by assumption : Below w18.heap.size w18 _ ∧ _)).size); have T1 := Aside0.mk (FigAt.of ho0 ho1 (Nat.zero_le _)); obtain ⟨Q0, q0, Q1, q1, rfl, rfl⟩ := T1.out.slices; have T2 := Aside0.mk (FigAt.below (FigAt.below T0.out (by repeat first | exact Below.refl _ _ | apply below_alloc | apply pw_below_drewN | apply below_drew1)) hb4); clear ho0 ho1; (first | (have hn4 := new_below (o := (.cells #[.int .i64 0, .int .i64 0, .slice none 0 0, .slice none 0 0] 26)) hb4) | skip); (first | (have hn4 := blk_below hn3 hb4) | skip))
    | (go_at_call 21; with_reducible refine (impl_CommonFigure.calls k _ _ _ _ l0_2 _ _ l0_3 _ _ _ _ l1_2 _ _ l1_3 s1 s2 s3 s4 s5 _ (FigAt.c0 (FigAt.below T2.out (by repeat first | exact Below.refl _ _ | apply below_alloc | apply pw_below_drewN | apply below_drew1))) T2.out.l0 (FigAt.c1 (FigAt.below T2.out (by repeat first | exact Below.refl _ _ | apply below_alloc | apply pw_below_drewN | apply below_drew1))) T2.out.l1 (FigAt.c0 (FigAt.below T1.out (by repeat first | exact Below.refl _ _ | apply below_alloc | apply pw_below_drewN | apply below_drew1))) T1.out.l0 (FigAt.c1 (FigAt.below T1.out (by repeat first | exact Below.refl _ _ | apply below_alloc | apply pw_below_drewN | apply below_drew1))) T1.out.l1 (LaidG_below HG.out (via HB.out (by assumption))) PI.out).mono ?_; rintro e w5 ⟨x0, x1, rfl, ho0, ho1, hb5⟩; have HS5 : Below w18.heap.size w18 w5 := (via (Below.refl w18.heap.size w18) (by assumption : Below w18.heap.size w18 _ ∧ _)).trans (hb5.mono (via (Below.refl w18.heap.size w18) (by assumption : Below w18.heap.size w18 _ ∧ _)).size); have T3 := Aside0.mk (FigAt.ofR ho0 ho1 (via HB.out (by assumption : Below w18.heap.size w18 _ ∧ _)).size); obtain ⟨U0, y0, U1, y1, rfl, rfl⟩ := T3.out.slices; clear ho0 ho1; (first | (have hn5 := new_below (o := (.cells #[.int .i64 0, .int .i64 0, .slice none 0 0, .slice none 0 0] 26)) hb5) | skip); (first | (have hn5 := blk_below hn4 hb5) | skip); (first | (have hq5 := cells4 hn5; obtain ⟨⟨k0, k1, k2, k3⟩, n0, n1, n2, n3⟩ := hq5) | skip)))
  all_goals
   have hBz := And.left (by assumption : Below w18.heap.size w18 _ ∧ _)
   go_wp2
   go_meet
   case rel => first
    | exact ⟨_, _, _, _, _, rfl, rfl, ⟨blk_new w5 _⟩, ⟨T3.out.below (below_alloc (Below.refl _ _) _)⟩, ⟨HS4.size, Nat.le_of_lt (blk_lt (blk_new _ _))⟩, ⟨hBz⟩⟩
    | exact ⟨_, _, _, _, _, rfl, rfl, ⟨box4 hn5 _ _ _ _⟩, ⟨T3.out.set4 (.inl (blk_lt hn4)) _ _ _ _⟩, ⟨HS4.size, Nat.le_of_eq (size4 _ _ _ _).symm⟩, ⟨hBz⟩⟩
    | exact ⟨_, _, _, _, _, rfl, rfl, ⟨box4 hn5 _ _ _ _⟩, ⟨T3.out.set4 (.inl (blk_lt (blk_new _ _))) _ _ _ _⟩, ⟨Nat.le_trans HS4.size (Nat.le_of_lt (blk_lt (blk_new _ _))), Nat.le_of_eq (size4 _ _ _ _).symm⟩, ⟨hBz⟩⟩
 -- END 64
 obtain ⟨gH, loH, hiH, uH, vH, rfl, rfl, BH, TH, LH, HBc⟩ := hcut
 obtain ⟨J0, j0, J1, j1, rfl, rfl⟩ := TH.out.slices
 have BS0 := Aside0.mk (blk_below BS.out HBc.out)
 have TS0 := Aside0.mk (TS.out.below HBc.out)
 have B100 := Aside0.mk (blk_below B10.out HBc.out)
 have TG0 := Aside0.mk (TG.out.below HBc.out)
 have HB1 := Aside0.mk (HB.out.trans (HBc.out.mono HB.out.size))
 clear BF BG BS TS B10 TG HB HBc
 have hz0 := (blk_cell BH.out 0).trans rfl
 have hz1 := (blk_cell BH.out 1).trans rfl
 have hz2 := (blk_cell BH.out 2).trans rfl
 have hz3 := (blk_cell BH.out 3).trans rfl
 have hy0 := (blk_cell BS0.out 0).trans rfl
 have hy1 := (blk_cell BS0.out 1).trans rfl
 have hy2 := (blk_cell BS0.out 2).trans rfl
 have hy3 := (blk_cell BS0.out 3).trans rfl
 go_upto_region 34 with (go_at_call 14; with_reducible refine (laws_eqFigure.calls k _ _ _ _ s3 _ _ s4 _ _ _ _ s3 _ _ s4 true _ TH.out.c0 TH.out.l0 TH.out.c1 TH.out.l1 TS0.out.c0 TS0.out.l0 TS0.out.c1 TS0.out.l1 PE.out).mono ?_; rintro e w19 ⟨rfl, hb⟩)
 clear hz0 hz1 hz2 hz3 hy0 hy1 hy2 hy3
 have B10 := Aside0.mk (blk_below B100.out hb)
 have TG := Aside0.mk (TG0.out.below hb)
 have HB := Aside0.mk (HB1.out.trans (hb.mono HB1.out.size))
 clear BS0 TS0 B100 TG0 HB1 hb BH TH LH
 have hz0 := (blk_cell B10.out 0).trans rfl
 have hz1 := (blk_cell B10.out 1).trans rfl
 have hz2 := (blk_cell B10.out 2).trans rfl
 have hz3 := (blk_cell B10.out 3).trans rfl
 go_wp2_with (go_at_call 17; with_reducible refine (laws_heldFigure.calls k _ _ _ _ t3 _ _ t4 101 m3 _ TG.out.c0 TG.out.l0 TG.out.c1 TG.out.l1 PH.out).mono ?_; rintro e w20 ⟨rfl, hb⟩)
 go_ret
 exact ⟨rfl, HB.out.trans (hb.mono HB.out.size)⟩

end Go.Proofs.YtmlkihaoeopobaaDoor.Q
