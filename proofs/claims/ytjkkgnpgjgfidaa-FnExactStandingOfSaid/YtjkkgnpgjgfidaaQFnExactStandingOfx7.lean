-- written by a program of this session, pm.py, for this claim
-- half the indentation
import Derived.Test.YtjkkgnpgjgfidaaQFnExactStandingOfx0
import Derived.Test.YtjkkgnpgjgfidaaQFnExactStandingOfx1
import Derived.Test.YtjkkgnpgjgfidaaQFnExactStandingOfx2
import Derived.Test.YtjkkgnpgjgfidaaQFnExactStandingOfx4
import Derived.Test.YtjkkgnpgjgfidaaQFnExactStandingOfx6
namespace Go.Proofs.Ytjkkgnpgjgfidaa.Q
open Go.RowKit Go.Proofs.YtjkkgnpgjgfidaaW.PrintWords Go.Proofs.YtjkkgnpgjgfidaaW.PrintLast Go.Proofs.YtjkkgnpgjgfidaaW.PrintMore
attribute [local go_sem] max2_int min2_int max_two min_two max_three min_three max_four min_four   -- for this text's walks alone
set_option linter.unusedVariables false
set_option linter.unusedSimpArgs false

/-! ### laws_FnExactStandingOf: function 5 -/
/-- What the law asks of a figure that is not too large. -/
def laws_FnExactStandingOf.rest (k : Nat) (a0_0 : Int) (l0_1 : List Int) : Option Bool :=
 (spec_StandingOf.f k a0_0 l0_1).bind fun s => (laws_markTri.f k a0_0 l0_1 101).bind fun m1 => (laws_markIntSS.f k s.1 101).bind fun m3 =>
 if impl_StandingOf.f k a0_0 l0_1 = some s then if laws_toTri.f a0_0 l0_1 false = some (a0_0, l0_1) then if laws_toTri.f a0_0 l0_1 true = some (a0_0, l0_1) then if laws_eqIntSS.f k s.1 s.1 = some true then if laws_intactTri.f a0_0 l0_1 a0_0 l0_1 = some true then if laws_heldIntSS.f k m3.2 101 = some m3.1 then if 0 ≤ m1.1 then if 0 ≤ m3.1 then if m3.2.length = s.1.length then some true else none else none else none else none else none else none else none else none else none
def laws_FnExactStandingOf.f (k : Nat) (a0_0 : Int) (l0_1 : List Int) : Option Bool :=
 (laws_szTri.f a0_0 l0_1 1000000).bind fun t => if t < 0 then some true else laws_FnExactStandingOf.rest k a0_0 l0_1
theorem need_of {c : Prop} [Decidable c] {α : Type} {x : Option α} {r : α} (h : (if c then x else none) = some r) : c ∧ x = some r := by
 by_cases hc : c
 ·exact ⟨hc, (if_pos hc).symm.trans h⟩
 ·rw [if_neg hc] at h; cases h
theorem laws_FnExactStandingOf.parts {k : Nat} {a0_0 : Int} {l0_1 : List Int} {r : Bool} (H1 : laws_FnExactStandingOf.rest k a0_0 l0_1 = some r) :
  r = true ∧ ∃ s1 s2 m1 f1 m3 t3, Aside0 (spec_StandingOf.f k a0_0 l0_1 = some (s1, s2)) ∧ Aside0 (impl_StandingOf.f k a0_0 l0_1 = some (s1, s2)) ∧ Aside0 (laws_markTri.f k a0_0 l0_1 101 = some (m1, f1)) ∧ Aside0 (laws_markIntSS.f k s1 101 = some (m3, t3)) ∧
  Aside0 (laws_toTri.f a0_0 l0_1 false = some (a0_0, l0_1)) ∧ Aside0 (laws_toTri.f a0_0 l0_1 true = some (a0_0, l0_1)) ∧ Aside0 (laws_eqIntSS.f k s1 s1 = some true) ∧ Aside0 (laws_intactTri.f a0_0 l0_1 a0_0 l0_1 = some true) ∧ Aside0 (laws_heldIntSS.f k t3 101 = some m3) ∧ Aside0 (0 ≤ m1) ∧ Aside0 (0 ≤ m3) ∧ Aside0 (t3.length = s1.length) := by
 unfold laws_FnExactStandingOf.rest at H1
 obtain ⟨⟨s1, s2⟩, hs, H1⟩ := Option.bind_eq_some_iff.mp H1
 obtain ⟨⟨m1, f1⟩, hm1, H1⟩ := Option.bind_eq_some_iff.mp H1
 obtain ⟨⟨m3, t3⟩, hm3, H1⟩ := Option.bind_eq_some_iff.mp H1
 obtain ⟨hi, H1⟩ := need_of H1
 obtain ⟨hf0, H1⟩ := need_of H1
 obtain ⟨hf1, H1⟩ := need_of H1
 obtain ⟨he, H1⟩ := need_of H1
 obtain ⟨hx0, H1⟩ := need_of H1
 obtain ⟨hh, H1⟩ := need_of H1
 obtain ⟨h1, H1⟩ := need_of H1
 obtain ⟨h3, H1⟩ := need_of H1
 obtain ⟨hl, H1⟩ := need_of H1
 exact ⟨(Option.some.inj H1).symm, s1, s2, m1, f1, m3, t3, ⟨hs⟩, ⟨hi⟩, ⟨hm1⟩, ⟨hm3⟩, ⟨hf0⟩, ⟨hf1⟩, ⟨he⟩, ⟨hx0⟩, ⟨hh⟩, ⟨h1⟩, ⟨h3⟩, ⟨hl⟩⟩
/-- A row of the call's own, in the blocks from lo to hi. -/
def TriAt (b : Bool) (w : World) (e lo hi : Nat) (v : Value) (B : List Int) : Prop := Kd.PB b (Kd.int .i64) 3 w e (fun k => some k = v.ownBlock) v B ∧ ∀ k, some k = v.ownBlock → lo ≤ k ∧ k < hi
/-- Rows apart, in the blocks from lo to hi. -/
def RowsAt (w : World) (e lo hi : Nat) (v : Value) (X : List (List Int)) : Prop := Kd.S (Kd.slice 3 (Kd.int .i64)) 22 w e (fun k => lo ≤ k ∧ k < hi) v X
section
variable {b : Bool} {w w1 : World} {e lo hi n c : Nat} {v : Value} {B : List Int} {X : List (List Int)} {P : Option Addr} {Sx : Nat → Prop}
theorem TriAt.of (h : Kd.PB b (Kd.int .i64) 3 w lo (fun _ => True) v B) (he : e ≤ lo) : TriAt b w e lo w.heap.size v B := ⟨Kd.PB_lower (Kd.PB_tight rfl h) he, fun k hk => ⟨Kd.PB_base h k hk.symm, Kd.PB_lt h k hk.symm⟩⟩
theorem TriAt.below (h : TriAt b w e lo hi v B) (hb : Below w.heap.size w w1) : TriAt b w1 e lo hi v B := ⟨Kd.PB_below h.1 hb, h.2⟩
theorem TriAt.slice (h : TriAt b w e lo hi v B) : ∃ P c, v = .slice P B.length c := Kd.PB_slice h.1
theorem TriAt.cc (h : TriAt b w e lo hi (.slice P n c) B) : Kd.C (Kd.int .i64) w P B.length B := (Kd.PB_reads' h.1).2.2
theorem TriAt.l (h : TriAt b w e lo hi (.slice P n c) B) : B.length ≤ c := by have := Kd.PB_reads' h.1; omega
theorem TriAt.s (h : TriAt false w e lo hi (.slice P n c) B) : Kd.Sp w P c B := Kd.PB_sp h.1
theorem RowsAt.of (h : Kd.S (Kd.slice 3 (Kd.int .i64)) 22 w lo (fun _ => True) v X) (he : e ≤ lo) : RowsAt w e lo w.heap.size v X := Kd.S_lower (Kd.S_mono (Kd.S_bound h) (fun k hk => ⟨hk.2.1, hk.2.2.1⟩)) he
theorem RowsAt.below (h : RowsAt w e lo hi v X) (hb : Below w.heap.size w w1) : RowsAt w1 e lo hi v X := Kd.S_below h hb
theorem RowsAt.kept (h : RowsAt w e lo hi v X) (hk : Kept w w1 Sx) (hd : ∀ k, lo ≤ k → k < hi → ¬ Sx k) : RowsAt w1 e lo hi v X := Kd.S_kept h hk (fun k hk2 => hd k hk2.1 hk2.2)
theorem RowsAt.slice (h : RowsAt w e lo hi v X) : ∃ P c, v = .slice P X.length c := Kd.S_slice h
theorem RowsAt.cc (h : RowsAt w e lo hi (.slice P n c) X) : Kd.C (Kd.slice 3 (Kd.int .i64)) w P X.length X := by have := (Kd.S_reads' h).1; subst this; exact (Kd.S_reads' h).2.2
theorem RowsAt.l (h : RowsAt w e lo hi (.slice P n c) X) : X.length ≤ c := by have := Kd.S_reads' h; omega
theorem RowsAt.m (h : RowsAt w e lo hi (.slice P n c) X) : X.length ≤ 9223372036854775807 := by
 obtain ⟨inner, ho⟩ := Kd.S_own h
 rcases ho.2 with ⟨_, h0⟩ | ⟨g, cap, cur, _, _, _, h1, h2, _⟩
 ·omega
 ·unfold maxLen at h2
  omega
theorem keep4L {W wc w1 : World} {p0 p1 p2 p3 : Addr} {v0 v1 v2 v3 : Value} (h : Below W.heap.size W wc ∧ wc.cell? p0 = some v0 ∧ wc.cell? p1 = some v1 ∧ wc.cell? p2 = some v2 ∧ wc.cell? p3 = some v3) (hb : Below wc.heap.size wc w1) : Below W.heap.size W w1 ∧ w1.cell? p0 = some v0 ∧ w1.cell? p1 = some v1 ∧ w1.cell? p2 = some v2 ∧ w1.cell? p3 = some v3 := ⟨h.1.trans (hb.mono h.1.size), cell_keepT h.2.1 hb, cell_keepT h.2.2.1 hb, cell_keepT h.2.2.2.1 hb, cell_keepT h.2.2.2.2 hb⟩
theorem on (hB : Below w.heap.size w w1) {w2 : World} (hb : Below w1.heap.size w1 w2) : Below w.heap.size w w2 := hB.trans (hb.mono hB.size)
end

/-- THE ONE PURE STATEMENT of laws_FnExactStandingOf. -/
def laws_FnExactStandingOf.Pure : Prop := ∀ (a0_0 : Int) (l0_1 : List Int), (Lit.int .i64 a0_0).wf = true → l0_1.length ≤ maxLen → (∀ x ∈ l0_1, (Lit.int .i64 x).wf = true) → ∃ k, laws_FnExactStandingOf.f k a0_0 l0_1 = some true
set_option maxHeartbeats 8000000 in
set_option maxRecDepth 100000 in
theorem laws_FnExactStandingOf.calls (k : Nat) (a0_0 : Int) (A0_1 : Option Addr) (c0_1 : Nat) (l0_1 : List Int) (r : Bool) (w : World) (hr0_1 : Kd.C (Kd.int .i64) w A0_1 l0_1.length l0_1) (hc0_1 : l0_1.length ≤ c0_1) (hr_ : r = true) (h : laws_FnExactStandingOf.f k a0_0 l0_1 = some r) :
  Calls Try.prog 5 #[.agg #[.int .i64 a0_0, .slice A0_1 l0_1.length c0_1]] w fun e w' => e = .returned (.bool r) ∧ Below w.heap.size w w' := by
 clear hr_
 unfold laws_FnExactStandingOf.f at h
 obtain ⟨z1, hz1, h⟩ := Option.bind_eq_some_iff.mp h
 have H := Aside0.mk h
 have Z1 := Aside0.mk hz1
 have R0 := Aside0.mk hr0_1
 have N0 := Aside0.mk hc0_1
 clear h hz1 hr0_1 hc0_1
 go_enter Try.func5, Try.ntmps5
 go_upto_region 2 with (fail)
 have BF0 := Aside0.mk (blk_new w (.cells #[.int .i64 a0_0, .slice A0_1 l0_1.length c0_1] 24))
 have HB0 := Aside0.mk (below_alloc (Below.refl w.heap.size w) (.cells #[.int .i64 a0_0, .slice A0_1 l0_1.length c0_1] 24))
 generalize w.alloc (.cells #[.int .i64 a0_0, .slice A0_1 l0_1.length c0_1] 24) = W0 at BF0 HB0 ⊢
 have hz0 := (blk_cell BF0.out 0).trans rfl
 have hz1 := (blk_cell BF0.out 1).trans rfl
 go_upto_region 3 with (go_at_call 8; with_reducible refine (laws_szTri.calls _ _ _ l0_1 1000000 z1 _ (Kd.C_below R0.out HB0.out) N0.out Z1.out).mono ?_; rintro e w1 ⟨rfl, hb⟩)
 clear hz0 hz1
 have BF := Aside0.mk (blk_below BF0.out hb)
 have HB := Aside0.mk (on HB0.out hb)
 clear BF0 HB0 hb W0
 have H1 := H.out
 clear H
 by_cases c1 : z1 < 0
 ·rw [if_pos c1] at H1
  obtain rfl := Option.some.inj H1
  have c2 : decide (z1 < 0) = true := decide_eq_true c1
  clear c1 H1
  go_wp2
  go_ret
  exact ⟨rfl, HB.out⟩
 rw [if_neg c1] at H1
 have c2 : decide (z1 < 0) = false := decide_eq_false c1
 obtain ⟨rfl, s1, s2, m1, f1, m3, t3, PS, PI, PM1, PM3, PF0, PF1, PE, PX, PH, P1, P3, PL⟩ := laws_FnExactStandingOf.parts H1
 clear c1 H1
 have hz0 := (blk_cell BF.out 0).trans rfl
 have hz1 := (blk_cell BF.out 1).trans rfl
 go_upto_region 6 with (first
  | (go_at_call 10; with_reducible refine (laws_toTri.calls a0_0 _ _ l0_1 false a0_0 l0_1 _ (Kd.C_below R0.out HB.out) N0.out PF0.out).mono ?_; rintro e w2 ⟨u2, rfl, ho2, hb2⟩; have T2 := Aside0.mk (TriAt.of ho2 (Nat.zero_le _)); obtain ⟨P2, d2, rfl⟩ := T2.out.slice; clear ho2; have HB2 := Aside0.mk (on HB.out hb2))
  | (go_at_call 19; with_reducible refine (spec_StandingOf.calls k a0_0 _ _ l0_1 s1 s2 _ T2.out.cc T2.out.l PS.out).mono ?_; rintro e w3 ⟨u3, rfl, ho3, hb3⟩; have TS3 := Aside0.mk (RowsAt.of ho3 HB2.out.size); obtain ⟨U3, d3, rfl⟩ := TS3.out.slice; clear ho3; have HB3 := Aside0.mk (on HB2.out hb3); have BF3 := Aside0.mk (blk_below (blk_below BF.out hb2) hb3)))
 clear hz0 hz1 c2 BF HB hb2 hb3
 have hz0 := (blk_cell BF3.out 0).trans rfl
 have hz1 := (blk_cell BF3.out 1).trans rfl
 -- x0
 go_upto_region 7 with (go_at_call 10; with_reducible refine (laws_toTri.calls a0_0 _ _ l0_1 false a0_0 l0_1 _ (Kd.C_below R0.out HB3.out) N0.out PF0.out).mono ?_; rintro e w4 ⟨u4, rfl, ho4, hb4⟩; have T4 := Aside0.mk (TriAt.of ho4 HB3.out.size); obtain ⟨P4, d4, rfl⟩ := T4.out.slice; clear ho4)
 clear hz0 hz1
 have BX5 := Aside0.mk (blk_new w4 (.cells #[.int .i64 a0_0, .slice P4 l0_1.length d4] 28))
 have hb5 := below_alloc hb4 (.cells #[.int .i64 a0_0, .slice P4 l0_1.length d4] 28)
 have X5 := Aside0.mk (T4.out.below (below_alloc (Below.refl w4.heap.size w4) (.cells #[.int .i64 a0_0, .slice P4 l0_1.length d4] 28)))
 have L5 := Aside0.mk hb4.size
 generalize w4.alloc (.cells #[.int .i64 a0_0, .slice P4 l0_1.length d4] 28) = w5 at BX5 hb5 X5 ⊢
 have L6 := Aside0.mk (blk_lt BX5.out)
 generalize w4.heap.size = g4 at BX5 X5 L5 L6 ⊢
 have BF5 := Aside0.mk (blk_below BF3.out hb5)
 have TS5 := Aside0.mk (TS3.out.below hb5)
 have HB5 := Aside0.mk (on HB3.out hb5)
 have L3 := Aside0.mk HB3.out.size
 clear BF3 TS3 HB3 hb4 hb5 T4 T2 HB2
 -- g0
 have hz0 := (blk_cell BX5.out 0).trans rfl
 have hz1 := (blk_cell BX5.out 1).trans rfl
 go_upto_region 8 with (go_at_call 20; with_reducible refine (impl_StandingOf.calls k a0_0 _ _ l0_1 s1 s2 _ X5.out.cc X5.out.l PI.out).mono ?_; rintro e w6 ⟨u6, rfl, ho6, hb6⟩; have TG6 := Aside0.mk (RowsAt.of ho6 HB5.out.size); obtain ⟨G6, d6, rfl⟩ := TG6.out.slice; clear ho6)
 clear hz0 hz1
 have BF6 := Aside0.mk (blk_below BF5.out hb6)
 have BX6 := Aside0.mk (blk_below BX5.out hb6)
 have X6 := Aside0.mk (X5.out.below hb6)
 have TS6 := Aside0.mk (TS5.out.below hb6)
 have HB6 := Aside0.mk (on HB5.out hb6)
 clear BF5 BX5 X5 TS5 HB5 hb6
 -- the first comparison
 have hne : (s2 != s2) = false := bne_self_eq_false s2
 go_upto_region 10 with (go_at_call 15; with_reducible refine (laws_eqIntSS.calls k _ _ s1 _ _ s1 true _ TG6.out.cc TG6.out.l TS6.out.cc TS6.out.l PE.out).mono ?_; rintro e w7 ⟨rfl, hd7⟩)
 have hb7 := Drawn0.below hd7
 have BF7 := Aside0.mk (blk_below BF6.out hb7)
 have BX7 := Aside0.mk (blk_below BX6.out hb7)
 have X7 := Aside0.mk (X6.out.below hb7)
 have TS7 := Aside0.mk (TS6.out.below hb7)
 have TG7 := Aside0.mk (TG6.out.below hb7)
 have HB7 := Aside0.mk (on HB6.out hb7)
 clear BF6 BX6 X6 TS6 TG6 hb7 hd7
 -- intact
 have hz0 := (blk_cell BX7.out 0).trans rfl
 have hz1 := (blk_cell BX7.out 1).trans rfl
 have hy0 := (blk_cell BF7.out 0).trans rfl
 have hy1 := (blk_cell BF7.out 1).trans rfl
 go_cut [45] (fun v wc => v = .bool false ∧ Aside0 (Below w7.heap.size w7 wc))
 ·go_region_held3 (fun w' => Below w7.heap.size w7 w' ∧ w'.cell? ⟨g4, 0, none⟩ = some (.int .i64 a0_0) ∧ w'.cell? ⟨g4, 1, none⟩ = some (.slice P4 l0_1.length d4) ∧ w'.cell? ⟨w.heap.size, 0, none⟩ = some (.int .i64 a0_0) ∧ w'.cell? ⟨w.heap.size, 1, none⟩ = some (.slice A0_1 l0_1.length c0_1))
   (first | exact ⟨below_drew (Below.refl _ _), hz0, hz1, hy0, hy1⟩ | exact keep4L (by assumption) hb9 | exact keep4L (by assumption) hb8)
   (first
    | (go_at_call 10; with_reducible refine (laws_toTri.calls a0_0 _ _ l0_1 false a0_0 l0_1 _ (Kd.C_below R0.out (on HB7.out (And.left (by assumption : Below w7.heap.size w7 _ ∧ _)))) N0.out PF0.out).mono ?_; rintro e w8 ⟨u8, rfl, ho8, hb8⟩; have T8 := Aside0.mk (TriAt.of ho8 (Nat.zero_le _)); obtain ⟨P8, d8, rfl⟩ := T8.out.slice; clear ho8)
    | (go_at_call 12; with_reducible refine (laws_intactTri.calls _ _ _ l0_1 _ _ _ l0_1 true _ (TriAt.cc (X7.out.below (And.left (by assumption : Below w7.heap.size w7 _ ∧ _)))) X7.out.l (TriAt.s (X7.out.below (And.left (by assumption : Below w7.heap.size w7 _ ∧ _)))) T8.out.cc T8.out.l T8.out.s PX.out).mono ?_; rintro e w9 ⟨rfl, hb9⟩))
  all_goals
   have hBz := And.left (by assumption : Below w7.heap.size w7 _ ∧ _)
   go_wp2
   go_meet
   case rel => exact ⟨rfl, ⟨hBz⟩⟩
 obtain ⟨rfl, HBc⟩ := hcut
 have BF8 := Aside0.mk (blk_below BF7.out HBc.out)
 have BX8 := Aside0.mk (blk_below BX7.out HBc.out)
 have X8 := Aside0.mk (X7.out.below HBc.out)
 have TS8 := Aside0.mk (TS7.out.below HBc.out)
 have TG8 := Aside0.mk (TG7.out.below HBc.out)
 have HB8 := Aside0.mk (on HB7.out HBc.out)
 clear BF7 BX7 X7 TS7 TG7 HBc hz0 hz1 hy0 hy1 hne
 generalize wc = w8 at BF8 BX8 X8 TS8 TG8 HB8 ⊢
 -- x0 is written
 have hz0 := (blk_cell BX8.out 0).trans rfl
 have hz1 := (blk_cell BX8.out 1).trans rfl
 have HC := Aside0.mk (laws_markTri.calls k a0_0 _ _ l0_1 101 m1 f1 w w8 HB8.out X8.out.1.1 PM1.out)
 go_upto_region 14 with (go_at_call 16; refine HC.out.mono ?_; rintro e w10 ⟨rfl, ho10, hb10, hk10⟩)
 clear HC hz0 hz1
 have BF10 := Aside0.mk (blk_kept BF8.out hk10 (fun h => Kd.PB_ne X8.out.1 BF8.out (by decide) h))
 have TS10 := Aside0.mk (TS8.out.kept hk10 (fun k h1 h2 h3 => by have := X8.out.2 k h3; omega))
 have TG10 := Aside0.mk (TG8.out.kept hk10 (fun k h1 h2 h3 => by have := X8.out.2 k h3; have := L6.out; omega))
 have HB10 := Aside0.mk hb10
 clear BF8 BX8 X8 TS8 TG8 HB8 ho10 hb10 hk10
 have hm1 : decide (m1 < 0) = false := decide_eq_false (by have := P1.out; omega)
 have hne : (s2 != s2) = false := bne_self_eq_false s2
 go_upto_region 16 with (go_at_call 15; with_reducible refine (laws_eqIntSS.calls k _ _ s1 _ _ s1 true _ TG10.out.cc TG10.out.l TS10.out.cc TS10.out.l PE.out).mono ?_; rintro e w11 ⟨rfl, hd⟩)
 have hb := Drawn0.below hd
 have BF11 := Aside0.mk (blk_below BF10.out hb)
 have TS11 := Aside0.mk (TS10.out.below hb)
 have TG11 := Aside0.mk (TG10.out.below hb)
 have HB11 := Aside0.mk (on HB10.out hb)
 clear BF10 TS10 TG10 HB10 hb hd hm1
 -- g0 is written
 go_upto_region 17 with (fail)
 have HC := Aside0.mk (laws_markIntSS.calls k _ _ _ s1 101 m3 t3 w w11 HB11.out TG11.out TG11.out.m PM3.out)
 go_upto_region 18 with (go_at_call 17; refine HC.out.mono ?_; rintro e w12 ⟨rfl, ho, hb, hk⟩)
 have BF12 := Aside0.mk (blk_kept BF11.out hk (fun h => by have := L3.out; have := L5.out; have := L6.out; omega))
 have TS12 := Aside0.mk (TS11.out.kept hk (fun k h1 h2 h3 => by have := L5.out; have := L6.out; omega))
 have TG12 : Aside0 (RowsAt w12 w.heap.size w5.heap.size w6.heap.size (.slice G6 s1.length d6) t3) := ⟨ho⟩
 have HB12 := Aside0.mk hb
 clear HC BF11 TS11 TG11 HB11 ho hb hk
 have hm3 : decide (m3 < 0) = false := decide_eq_false (by have := P3.out; omega)
 have hmm : (m3 != m3) = false := bne_self_eq_false m3
 have HD := Aside0.mk (fun (W : World) (h : RowsAt W w.heap.size w5.heap.size w6.heap.size (.slice G6 s1.length d6) t3) => show Calls Try.prog 18 #[.slice G6 s1.length d6, .int .i64 101] W _ from PL.out ▸ laws_heldIntSS.calls k G6 d6 t3 101 m3 W h.cc (by have := h.l; omega) PH.out)
 go_upto_region 24 with (go_at_call 18; refine (HD.out _ TG12.out).mono ?_; rintro e w13 ⟨rfl, hd⟩)
 have hb := Drawn0.below hd
 have BF13 := Aside0.mk (blk_below BF12.out hb)
 have TS13 := Aside0.mk (TS12.out.below hb)
 have TG13 := Aside0.mk (TG12.out.below hb)
 have HB13 := Aside0.mk (on HB12.out hb)
 clear BF12 TS12 TG12 HB12 hb hd
 -- h0
 have hz0 := (blk_cell BF13.out 0).trans rfl
 have hz1 := (blk_cell BF13.out 1).trans rfl
 go_upto_region 25 with (first
  | (go_at_call 10; with_reducible refine (laws_toTri.calls a0_0 _ _ l0_1 true a0_0 l0_1 _ (Kd.C_below R0.out HB13.out) N0.out PF1.out).mono ?_; rintro e w14 ⟨u14, rfl, ho14, hb14⟩; have T14 := Aside0.mk (TriAt.of ho14 (Nat.zero_le _)); obtain ⟨P14, d14, rfl⟩ := T14.out.slice; clear ho14; have HB14 := Aside0.mk (on HB13.out hb14))
  | (go_at_call 20; with_reducible refine (impl_StandingOf.calls k a0_0 _ _ l0_1 s1 s2 _ T14.out.cc T14.out.l PI.out).mono ?_; rintro e w15 ⟨u15, rfl, ho15, hb15⟩; have TH15 := Aside0.mk (RowsAt.of ho15 HB14.out.size); obtain ⟨G15, d15, rfl⟩ := TH15.out.slice; clear ho15; have HB15 := Aside0.mk (on HB14.out hb15); have TS15 := Aside0.mk ((TS13.out.below hb14).below hb15); have TG15 := Aside0.mk ((TG13.out.below hb14).below hb15)))
 clear hz0 hz1 BF13 TS13 TG13 HB13 HB14 T14 hb14 hb15
 go_upto_region 28 with (go_at_call 15; with_reducible refine (laws_eqIntSS.calls k _ _ s1 _ _ s1 true _ TH15.out.cc TH15.out.l TS15.out.cc TS15.out.l PE.out).mono ?_; rintro e w16 ⟨rfl, hd⟩)
 have hb := Drawn0.below hd
 have TG16 := Aside0.mk (TG15.out.below hb)
 have HB16 := Aside0.mk (on HB15.out hb)
 clear TS15 TG15 TH15 HB15 hb hd
 go_wp2_with (go_at_call 18; refine (HD.out _ TG16.out).mono ?_; rintro e w17 ⟨rfl, hd⟩)
 go_ret
 exact ⟨rfl, on HB16.out (Drawn0.below hd)⟩

end Go.Proofs.Ytjkkgnpgjgfidaa.Q
