-- written by a program of this session, pm.py, for this claim
-- half the indentation
import Derived.Test.YtnmngpgjkokdaaaQFnExactIsMoveOfx0
import Derived.Test.YtnmngpgjkokdaaaQFnExactIsMoveOfx2
import Derived.Test.YtnmngpgjkokdaaaQFnExactIsMoveOfx3
import Derived.Test.YtnmngpgjkokdaaaQFnExactIsMoveOfx5
import Derived.Test.YtnmngpgjkokdaaaQFnExactIsMoveOfx10
namespace Go.Proofs.Ytnmngpgjkokdaaa.Q
open Go.RowKit Go.Proofs.YtnmngpgjkokdaaaW.PrintWords Go.Proofs.YtnmngpgjkokdaaaW.PrintLast Go.Proofs.YtnmngpgjkokdaaaW.PrintMore
attribute [local go_sem] max2_int min2_int max_two min_two max_three min_three max_four min_four   -- for this text's walks alone
set_option linter.unusedVariables false
set_option linter.unusedSimpArgs false

/-! ### laws_FnExactIsMoveOf: function 4 -/
def laws_FnExactIsMoveOf.j0 : Nat → Int → Bool → Bool → Bool → Int → Int → List Int → List Int → Int → Int → List Int → List Int → Int → Int → List Int → List Int → Int → Int → List Int → List Int → Option (Bool)
 | 0, _, _, _, _, _, _, _, _, _, _, _, _, _, _, _, _, _, _, _, _ => none
 | k + 1, x2, x8, x9, x53, x211000, x211001, x211002, x211003, x212000, x212001, x212002, x212003, x241000, x241001, x241002, x241003, x250000, x250001, x250002, x250003 => if x53 = true then (some false) else ((laws_toFigure.f x211000 x211001 x211002 x211003 false).bind fun bt252 => ((laws_intactFigure.f x241000 x241001 x241002 x241003 bt252.1 bt252.2.1 bt252.2.2.1 bt252.2.2.2).bind fun t260 => (if t260 = true then ((laws_toFigure.f x212000 x212001 x212002 x212003 false).bind fun bt261 => ((laws_intactFigure.f x250000 x250001 x250002 x250003 bt261.1 bt261.2.1 bt261.2.2.1 bt261.2.2.2).bind fun t269 => (if t269 = true then ((laws_toFigure.f x211000 x211001 x211002 x211003 true).bind fun bt270 => ((laws_toFigure.f x212000 x212001 x212002 x212003 true).bind fun bt278 => ((impl_IsMoveOf.f k bt270.1 bt270.2.1 bt270.2.2.1 bt270.2.2.2 bt278.1 bt278.2.1 bt278.2.2.1 bt278.2.2.2 x2).bind fun bt286 => (if (bt286.1 != x8) = true then (some false) else (if (bt286.2 != x9) = true then (some false) else (some true)))))) else (some false)))) else (some false))))
def laws_FnExactIsMoveOf.f (k : Nat) (a0_0 : Int) (a0_1 : Int) (l0_2 : List Int) (l0_3 : List Int) (a1_0 : Int) (a1_1 : Int) (l1_2 : List Int) (l1_3 : List Int) (a2 : Int) : Option (Bool) := (laws_szFigure.f a0_0 a0_1 l0_2 l0_3 1000000).bind fun t212 => (if t212 < 0 then (some true) else ((laws_szFigure.f a1_0 a1_1 l1_2 l1_3 t212).bind fun t213 => (if t213 < 0 then (some true) else ((laws_toFigure.f a0_0 a0_1 l0_2 l0_3 false).bind fun bt214 => ((laws_toFigure.f a1_0 a1_1 l1_2 l1_3 false).bind fun bt222 => ((spec_IsMoveOf.f k bt214.1 bt214.2.1 bt214.2.2.1 bt214.2.2.2 bt222.1 bt222.2.1 bt222.2.2.1 bt222.2.2.2 a2).bind fun bt230 => ((laws_toFigure.f a0_0 a0_1 l0_2 l0_3 false).bind fun bt232 => ((laws_toFigure.f a1_0 a1_1 l1_2 l1_3 false).bind fun bt241 => ((impl_IsMoveOf.f k bt232.1 bt232.2.1 bt232.2.2.1 bt232.2.2.2 bt241.1 bt241.2.1 bt241.2.2.1 bt241.2.2.2 a2).bind fun bt250 => (if (bt250.1 != bt230.1) = true then (laws_FnExactIsMoveOf.j0 k a2 bt230.1 bt230.2 true a0_0 a0_1 l0_2 l0_3 a1_0 a1_1 l1_2 l1_3 bt232.1 bt232.2.1 bt232.2.2.1 bt232.2.2.2 bt241.1 bt241.2.1 bt241.2.2.1 bt241.2.2.2) else (laws_FnExactIsMoveOf.j0 k a2 bt230.1 bt230.2 (bt250.2 != bt230.2) a0_0 a0_1 l0_2 l0_3 a1_0 a1_1 l1_2 l1_3 bt232.1 bt232.2.1 bt232.2.2.1 bt232.2.2.2 bt241.1 bt241.2.1 bt241.2.2.1 bt241.2.2.2)))))))))))
theorem laws_FnExactIsMoveOf.mono_l : ∀ k, (∀ y0 y1 y2 y3 y4 y5 y6 y7 y8 y9 y10 y11 y12 y13 y14 y15 y16 y17 y18 y19, LeO (laws_FnExactIsMoveOf.j0 k y0 y1 y2 y3 y4 y5 y6 y7 y8 y9 y10 y11 y12 y13 y14 y15 y16 y17 y18 y19) (laws_FnExactIsMoveOf.j0 (k + 1) y0 y1 y2 y3 y4 y5 y6 y7 y8 y9 y10 y11 y12 y13 y14 y15 y16 y17 y18 y19))
 | 0 => fun _ _ _ _ _ _ _ _ _ _ _ _ _ _ _ _ _ _ _ _ r h => by simp [laws_FnExactIsMoveOf.j0] at h
 | k + 1 => by
  have ih0 := laws_FnExactIsMoveOf.mono_l k
  ·intro y0 y1 y2 y3 y4 y5 y6 y7 y8 y9 y10 y11 y12 y13 y14 y15 y16 y17 y18 y19
   unfold laws_FnExactIsMoveOf.j0
   repeat' first
   | (with_reducible exact ih0 _ _ _ _ _ _ _ _ _ _ _ _ _ _ _ _ _ _ _ _)
   | (with_reducible exact impl_IsMoveOf.mono _ _ _ _ _ _ _ _ _ _)
   | (with_reducible exact spec_IsMoveOf.mono _ _ _ _ _ _ _ _ _ _)
   | (with_reducible exact LeO.refl _)
   | (with_reducible exact LeO.none _)
   | (with_reducible refine LeO.ite ?_ ?_)
   | (with_reducible refine LeO.bind ?_ (fun _ => ?_))
   | exact ih0 _ _ _ _ _ _ _ _ _ _ _ _ _ _ _ _ _ _ _ _
   | exact impl_IsMoveOf.mono _ _ _ _ _ _ _ _ _ _
   | exact spec_IsMoveOf.mono _ _ _ _ _ _ _ _ _ _
   | exact LeO.none _
   | refine LeO.ite ?_ ?_
   | refine LeO.bind ?_ (fun _ => ?_)
theorem laws_FnExactIsMoveOf.mono : ∀ a0 a1 a2 a3 a4 a5 a6 a7 a8 k, LeO (laws_FnExactIsMoveOf.f k a0 a1 a2 a3 a4 a5 a6 a7 a8) (laws_FnExactIsMoveOf.f (k + 1) a0 a1 a2 a3 a4 a5 a6 a7 a8) := by
 intro a0 a1 a2 a3 a4 a5 a6 a7 a8 k
 have ih0 := laws_FnExactIsMoveOf.mono_l k
 unfold laws_FnExactIsMoveOf.f
 repeat' first
   | (with_reducible exact ih0 _ _ _ _ _ _ _ _ _ _ _ _ _ _ _ _ _ _ _ _)
   | (with_reducible exact impl_IsMoveOf.mono _ _ _ _ _ _ _ _ _ _)
   | (with_reducible exact spec_IsMoveOf.mono _ _ _ _ _ _ _ _ _ _)
   | (with_reducible exact LeO.refl _)
   | (with_reducible exact LeO.none _)
   | (with_reducible refine LeO.ite ?_ ?_)
   | (with_reducible refine LeO.bind ?_ (fun _ => ?_))
   | exact ih0 _ _ _ _ _ _ _ _ _ _ _ _ _ _ _ _ _ _ _ _
   | exact impl_IsMoveOf.mono _ _ _ _ _ _ _ _ _ _
   | exact spec_IsMoveOf.mono _ _ _ _ _ _ _ _ _ _
   | exact LeO.none _
   | refine LeO.ite ?_ ?_
   | refine LeO.bind ?_ (fun _ => ?_)
def laws_FnExactIsMoveOf.T8 : Bool × List (List Nat × List Nat) := (true, [([], []), ([0], [0]), ([], []), ([2, 1], [2]), ([], []), ([1, 3, 4, 3], [1, 3, 4]), ([5], [5]), ([6], [6]), ([6], [6]), ([7, 5, 0, 1, 2, 3, 4, 5, 6, 7], [7]), ([8, 9, 0, 1, 2, 3, 4, 5, 6, 7, 8, 9], [8])])
def laws_FnExactIsMoveOf.B8 : List Nat := [0, 1, 0, 7, 0, 31, 63, 127, 127, 255, 1023]
theorem laws_FnExactIsMoveOf.tab8 : rtab .any (opsOf Try.f4 8) = laws_FnExactIsMoveOf.T8 := by kernel_rfl
theorem laws_FnExactIsMoveOf.bits8 : waitsOk laws_FnExactIsMoveOf.T8.2 laws_FnExactIsMoveOf.B8 = true := by kernel_rfl
def laws_FnExactIsMoveOf.T18 : Bool × List (List Nat × List Nat) := (true, [([], []), ([0], [0]), ([], []), ([2, 1], [2]), ([], []), ([1, 3, 4, 3], [1, 3, 4]), ([5], [5]), ([6], [6]), ([6], [6]), ([7, 5, 0, 1, 2, 3, 4, 5, 6, 7], [7]), ([8, 9, 0, 1, 2, 3, 4, 5, 6, 7, 8, 9], [8])])
def laws_FnExactIsMoveOf.B18 : List Nat := [0, 1, 0, 7, 0, 31, 63, 127, 127, 255, 1023]
theorem laws_FnExactIsMoveOf.tab18 : rtab .any (opsOf Try.f4 18) = laws_FnExactIsMoveOf.T18 := by kernel_rfl
theorem laws_FnExactIsMoveOf.bits18 : waitsOk laws_FnExactIsMoveOf.T18.2 laws_FnExactIsMoveOf.B18 = true := by kernel_rfl
set_option maxHeartbeats 8000000 in
set_option maxRecDepth 100000 in
theorem laws_FnExactIsMoveOf.calls (k : Nat) (a0_0 : Int) (a0_1 : Int) (A0_2 : Option Addr) (c0_2 : Nat) (l0_2 : List Int) (A0_3 : Option Addr) (c0_3 : Nat) (l0_3 : List Int) (a1_0 : Int) (a1_1 : Int) (A1_2 : Option Addr) (c1_2 : Nat) (l1_2 : List Int) (A1_3 : Option Addr) (c1_3 : Nat) (l1_3 : List Int) (a2 : Int) (r : Bool) (w : World) (hr0_2 : Kd.C (Kd.int .i64) w A0_2 l0_2.length l0_2) (hc0_2 : l0_2.length ≤ c0_2) (hr0_3 : Kd.C (Kd.int .i64) w A0_3 l0_3.length l0_3) (hc0_3 : l0_3.length ≤ c0_3) (hr1_2 : Kd.C (Kd.int .i64) w A1_2 l1_2.length l1_2) (hc1_2 : l1_2.length ≤ c1_2) (hr1_3 : Kd.C (Kd.int .i64) w A1_3 l1_3.length l1_3) (hc1_3 : l1_3.length ≤ c1_3) (hr_ : r = true) (h : laws_FnExactIsMoveOf.f k a0_0 a0_1 l0_2 l0_3 a1_0 a1_1 l1_2 l1_3 a2 = some r) :
  Calls Try.prog 4 #[.agg #[.int .i64 a0_0, .int .i64 a0_1, .slice A0_2 l0_2.length c0_2, .slice A0_3 l0_3.length c0_3], .agg #[.int .i64 a1_0, .int .i64 a1_1, .slice A1_2 l1_2.length c1_2, .slice A1_3 l1_3.length c1_3], .int .i64 a2] w fun e w' => e = .returned (.bool r) ∧ Below w.heap.size w w' := by
 have hu24 := Try.underlying24
 have hu28 := Try.underlying28
 have HR0_2 := Aside0.mk hr0_2
 have HC0_2 := Aside0.mk hc0_2
 clear hr0_2 hc0_2
 have HR0_3 := Aside0.mk hr0_3
 have HC0_3 := Aside0.mk hc0_3
 clear hr0_3 hc0_3
 have HR1_2 := Aside0.mk hr1_2
 have HC1_2 := Aside0.mk hc1_2
 clear hr1_2 hc1_2
 have HR1_3 := Aside0.mk hr1_3
 have HC1_3 := Aside0.mk hc1_3
 clear hr1_3 hc1_3
 have HR_ := Aside0.mk hr_
 clear hr_
 have HB := Aside0.mk (Below.refl w.heap.size w)
 have H : ((laws_szFigure.f a0_0 a0_1 l0_2 l0_3 1000000).bind fun t212 => (if t212 < 0 then (some true) else ((laws_szFigure.f a1_0 a1_1 l1_2 l1_3 t212).bind fun t213 => (if t213 < 0 then (some true) else ((laws_toFigure.f a0_0 a0_1 l0_2 l0_3 false).bind fun bt214 => ((laws_toFigure.f a1_0 a1_1 l1_2 l1_3 false).bind fun bt222 => ((spec_IsMoveOf.f k bt214.1 bt214.2.1 bt214.2.2.1 bt214.2.2.2 bt222.1 bt222.2.1 bt222.2.2.1 bt222.2.2.2 a2).bind fun bt230 => ((laws_toFigure.f a0_0 a0_1 l0_2 l0_3 false).bind fun bt232 => ((laws_toFigure.f a1_0 a1_1 l1_2 l1_3 false).bind fun bt241 => ((impl_IsMoveOf.f k bt232.1 bt232.2.1 bt232.2.2.1 bt232.2.2.2 bt241.1 bt241.2.1 bt241.2.2.1 bt241.2.2.2 a2).bind fun bt250 => (if (bt250.1 != bt230.1) = true then (laws_FnExactIsMoveOf.j0 k a2 bt230.1 bt230.2 true a0_0 a0_1 l0_2 l0_3 a1_0 a1_1 l1_2 l1_3 bt232.1 bt232.2.1 bt232.2.2.1 bt232.2.2.2 bt241.1 bt241.2.1 bt241.2.2.1 bt241.2.2.2) else (laws_FnExactIsMoveOf.j0 k a2 bt230.1 bt230.2 (bt250.2 != bt230.2) a0_0 a0_1 l0_2 l0_3 a1_0 a1_1 l1_2 l1_3 bt232.1 bt232.2.1 bt232.2.2.1 bt232.2.2.2 bt241.1 bt241.2.1 bt241.2.2.1 bt241.2.2.2)))))))))))) = some r := h
 clear h
 replace H := Option.bind_eq_some_iff.mp H
 obtain ⟨t212, A40, H⟩ := H
 replace H : (if t212 < 0 then (some true) else ((laws_szFigure.f a1_0 a1_1 l1_2 l1_3 t212).bind fun t213 => (if t213 < 0 then (some true) else ((laws_toFigure.f a0_0 a0_1 l0_2 l0_3 false).bind fun bt214 => ((laws_toFigure.f a1_0 a1_1 l1_2 l1_3 false).bind fun bt222 => ((spec_IsMoveOf.f k bt214.1 bt214.2.1 bt214.2.2.1 bt214.2.2.2 bt222.1 bt222.2.1 bt222.2.2.1 bt222.2.2.2 a2).bind fun bt230 => ((laws_toFigure.f a0_0 a0_1 l0_2 l0_3 false).bind fun bt232 => ((laws_toFigure.f a1_0 a1_1 l1_2 l1_3 false).bind fun bt241 => ((impl_IsMoveOf.f k bt232.1 bt232.2.1 bt232.2.2.1 bt232.2.2.2 bt241.1 bt241.2.1 bt241.2.2.1 bt241.2.2.2 a2).bind fun bt250 => (if (bt250.1 != bt230.1) = true then (laws_FnExactIsMoveOf.j0 k a2 bt230.1 bt230.2 true a0_0 a0_1 l0_2 l0_3 a1_0 a1_1 l1_2 l1_3 bt232.1 bt232.2.1 bt232.2.2.1 bt232.2.2.2 bt241.1 bt241.2.1 bt241.2.2.1 bt241.2.2.2) else (laws_FnExactIsMoveOf.j0 k a2 bt230.1 bt230.2 (bt250.2 != bt230.2) a0_0 a0_1 l0_2 l0_3 a1_0 a1_1 l1_2 l1_3 bt232.1 bt232.2.1 bt232.2.2.1 bt232.2.2.2 bt241.1 bt241.2.1 bt241.2.2.1 bt241.2.2.2))))))))))) = some r := H
 have A4 := Aside0.mk A40
 clear A40
 by_cases c5 : t212 < 0
 ·rw [if_pos c5] at H
  have c5b0 : decide (t212 < 0) = true := decide_eq_true c5
  clear c5
  obtain rfl := Option.some.inj H
  go_enter Try.func4, Try.ntmps4
  go_wp2_with (first | ((with_reducible refine gate_dst (N := 3) rfl ?_); refine box_event ?hg (N := 3) ?hd (cs := #[.int .i64 a0_0, .int .i64 a0_1, .slice A0_2 l0_2.length c0_2, .slice A0_3 l0_3.length c0_3]) (t := 24) ?hr ?_; (case hd => rfl); (case hg => rfl); (case hr => first | (go_simp; done) | (go_simp; rfl)); intro gb210 hg w6 hbox hb; have n0_ := Aside0.mk (below_step (by repeat (first | (with_reducible first | exact HB.out | apply below_alloc | apply pw_below_drewN | apply below_drew1) | exact HB.out)) hb); have n1_ := Aside0.mk (hbox); have n2_ := Aside0.mk ((by rw [hg]; exact (below_size (by repeat (first | (with_reducible first | exact HB.out | apply below_alloc | apply pw_below_drewN | apply below_drew1) | exact HB.out))) : w.heap.size ≤ gb210)); have n3_ := Aside0.mk ((by rw [hg]; exact (below_size (by repeat (first | (with_reducible first | exact HB.out | apply below_alloc | apply pw_below_drewN | apply below_drew1) | exact HB.out))) : w.heap.size ≤ gb210)); clear HB; have HB := n0_; have BK210 := n1_; have GW210 := n2_; have GE210 := n3_; clear n0_ n1_ n2_ n3_; clear hb hbox hg) | ((with_reducible refine gate_dst (N := 4) rfl ?_); refine box_event ?hg (N := 4) ?hd (cs := #[.int .i64 a1_0, .int .i64 a1_1, .slice A1_2 l1_2.length c1_2, .slice A1_3 l1_3.length c1_3]) (t := 24) ?hr ?_; (case hd => rfl); (case hg => rfl); (case hr => first | (go_simp; done) | (go_simp; rfl)); intro gb211 hg w7 hbox hb; have n0_ := Aside0.mk (blk_below (g := gb210) (o := .cells #[.int .i64 a0_0, .int .i64 a0_1, .slice A0_2 l0_2.length c0_2, .slice A0_3 l0_3.length c0_3] 24 (0, 0)) (by (with_reducible repeat (first | refine blk_drewN ?_ _ | refine blk_drew ?_ | refine blk_alloc ?_ _)); exact BK210.out) hb); have n1_ := Aside0.mk (below_step (by repeat (first | (with_reducible first | exact HB.out | apply below_alloc | apply pw_below_drewN | apply below_drew1 | refine below_set ?_ GE210.out) | exact HB.out)) hb); have n2_ := Aside0.mk (hbox); have n3_ := Aside0.mk ((by rw [hg]; exact (below_size (by repeat (first | (with_reducible first | exact HB.out | apply below_alloc | apply pw_below_drewN | apply below_drew1 | refine below_set ?_ GE210.out) | exact HB.out))) : w.heap.size ≤ gb211)); have n4_ := Aside0.mk ((by rw [hg]; exact (below_size (by repeat (first | (with_reducible first | exact HB.out | apply below_alloc | apply pw_below_drewN | apply below_drew1 | refine below_set ?_ GE210.out) | exact HB.out))) : w.heap.size ≤ gb211)); have n5_ := Aside0.mk ((by rw [hg]; exact Nat.ne_of_lt (blk_lt (g := gb210) (o := .cells #[.int .i64 a0_0, .int .i64 a0_1, .slice A0_2 l0_2.length c0_2, .slice A0_3 l0_3.length c0_3] 24 (0, 0)) (by (with_reducible repeat (first | refine blk_drewN ?_ _ | refine blk_drew ?_ | refine blk_alloc ?_ _)); exact BK210.out)) : gb210 ≠ gb211)); have n6_ := Aside0.mk ((by rw [hg]; exact Nat.ne_of_gt (blk_lt (g := gb210) (o := .cells #[.int .i64 a0_0, .int .i64 a0_1, .slice A0_2 l0_2.length c0_2, .slice A0_3 l0_3.length c0_3] 24 (0, 0)) (by (with_reducible repeat (first | refine blk_drewN ?_ _ | refine blk_drew ?_ | refine blk_alloc ?_ _)); exact BK210.out)) : gb211 ≠ gb210)); clear BK210; clear HB; have BK210 := n0_; have HB := n1_; have BK211 := n2_; have GW211 := n3_; have GE211 := n4_; have NB210_211 := n5_; have NB211_210 := n6_; clear n0_ n1_ n2_ n3_ n4_ n5_ n6_; clear hb hbox hg; have hnb8 := NB210_211.out; have hnc8 := NB211_210.out; have hcz9_0 : w7.cell? ⟨gb210, 0, none⟩ = some (.int .i64 a0_0) := (blk_cell BK210.out 0).trans rfl; have hcz9_1 : w7.cell? ⟨gb210, 1, none⟩ = some (.int .i64 a0_1) := (blk_cell BK210.out 1).trans rfl; have hcz9_2 : w7.cell? ⟨gb210, 2, none⟩ = some (.slice A0_2 l0_2.length c0_2) := (blk_cell BK210.out 2).trans rfl; have hcz9_3 : w7.cell? ⟨gb210, 3, none⟩ = some (.slice A0_3 l0_3.length c0_3) := (blk_cell BK210.out 3).trans rfl; have hfz9_0 := blk_frozen BK210.out 0; have hfz9_1 := blk_frozen BK210.out 1; have hfz9_2 := blk_frozen BK210.out 2; have hfz9_3 := blk_frozen BK210.out 3) | ((with_reducible refine gate_callee (f := 6) rfl ?_); refine goesL_ (some 18) rfl rfl Try.func6 (by kernel_rfl) rfl #[.agg #[.int .i64 a0_0, .int .i64 a0_1, .slice A0_2 l0_2.length c0_2, .slice A0_3 l0_3.length c0_3], .int .i64 1000000] rfl (by (try simp only [List.map_toArray, List.map_cons, List.map_nil]); first | done | rfl | (simp only [List.length_drop, List.length_take]; rfl)) ?_; (with_reducible refine (laws_szFigure.calls a0_0 a0_1 _ _ l0_2 _ _ l0_3 1000000 t212 _ ?side1 ?side2 ?side3 ?side4 A4.out).mono ?_); (case side1 => repeat (first | exact (Kd.C_below HR0_2.out HB.out) | (with_reducible refine Kd.C_alloc ?_ _) | (with_reducible refine Kd.C_drewN ?_ _) | (with_reducible refine Kd.C_drew ?_))); (case side2 => exact HC0_2.out); (case side3 => repeat (first | exact (Kd.C_below HR0_3.out HB.out) | (with_reducible refine Kd.C_alloc ?_ _) | (with_reducible refine Kd.C_drewN ?_ _) | (with_reducible refine Kd.C_drew ?_))); (case side4 => exact HC0_3.out); rintro e w10 ⟨rfl, hb⟩; refine ⟨_, rfl, ?_⟩; have n0_ := Aside0.mk (blk_below (g := gb210) (o := .cells #[.int .i64 a0_0, .int .i64 a0_1, .slice A0_2 l0_2.length c0_2, .slice A0_3 l0_3.length c0_3] 24 (0, 0)) (by (with_reducible repeat (first | refine blk_drewN ?_ _ | refine blk_drew ?_ | refine blk_alloc ?_ _)); exact BK210.out) hb); have n1_ := Aside0.mk (blk_below (g := gb211) (o := .cells #[.int .i64 a1_0, .int .i64 a1_1, .slice A1_2 l1_2.length c1_2, .slice A1_3 l1_3.length c1_3] 24 (0, 0)) (by (with_reducible repeat (first | refine blk_drewN ?_ _ | refine blk_drew ?_ | refine blk_alloc ?_ _)); exact BK211.out) hb); have n2_ := Aside0.mk (below_step (by repeat (first | (with_reducible first | exact HB.out | apply below_alloc | apply pw_below_drewN | apply below_drew1 | refine below_set ?_ GE210.out | refine below_set ?_ GE211.out) | exact HB.out)) hb); clear BK210; clear BK211; clear HB; have BK210 := n0_; have BK211 := n1_; have HB := n2_; clear n0_ n1_ n2_; (try clear hb); (try clear hb2); (try clear hk); (try clear hi)))
  go_ret
  exact ⟨by first | rfl | (simp [errW_none, errW_some] <;> rfl) | (simp [*, errW_none, errW_some] <;> rfl), by repeat (first | (with_reducible first | exact HB.out | apply below_alloc | apply pw_below_drewN | apply below_drew1 | refine below_set ?_ GE210.out | refine below_set ?_ GE211.out) | exact HB.out)⟩
 ·rw [if_neg c5] at H
  have c5b0 : decide (t212 < 0) = false := decide_eq_false c5
  clear c5
  replace H := Option.bind_eq_some_iff.mp H
  obtain ⟨t213, A110, H⟩ := H
  replace H : (if t213 < 0 then (some true) else ((laws_toFigure.f a0_0 a0_1 l0_2 l0_3 false).bind fun bt214 => ((laws_toFigure.f a1_0 a1_1 l1_2 l1_3 false).bind fun bt222 => ((spec_IsMoveOf.f k bt214.1 bt214.2.1 bt214.2.2.1 bt214.2.2.2 bt222.1 bt222.2.1 bt222.2.2.1 bt222.2.2.2 a2).bind fun bt230 => ((laws_toFigure.f a0_0 a0_1 l0_2 l0_3 false).bind fun bt232 => ((laws_toFigure.f a1_0 a1_1 l1_2 l1_3 false).bind fun bt241 => ((impl_IsMoveOf.f k bt232.1 bt232.2.1 bt232.2.2.1 bt232.2.2.2 bt241.1 bt241.2.1 bt241.2.2.1 bt241.2.2.2 a2).bind fun bt250 => (if (bt250.1 != bt230.1) = true then (laws_FnExactIsMoveOf.j0 k a2 bt230.1 bt230.2 true a0_0 a0_1 l0_2 l0_3 a1_0 a1_1 l1_2 l1_3 bt232.1 bt232.2.1 bt232.2.2.1 bt232.2.2.2 bt241.1 bt241.2.1 bt241.2.2.1 bt241.2.2.2) else (laws_FnExactIsMoveOf.j0 k a2 bt230.1 bt230.2 (bt250.2 != bt230.2) a0_0 a0_1 l0_2 l0_3 a1_0 a1_1 l1_2 l1_3 bt232.1 bt232.2.1 bt232.2.2.1 bt232.2.2.2 bt241.1 bt241.2.1 bt241.2.2.1 bt241.2.2.2))))))))) = some r := H
  have A11 := Aside0.mk A110
  clear A110
  by_cases c12 : t213 < 0
  ·rw [if_pos c12] at H
   have c12b0 : decide (t213 < 0) = true := decide_eq_true c12
   clear c12
   obtain rfl := Option.some.inj H
   go_enter Try.func4, Try.ntmps4
   go_wp2_with (first | ((with_reducible refine gate_dst (N := 3) rfl ?_); refine box_event ?hg (N := 3) ?hd (cs := #[.int .i64 a0_0, .int .i64 a0_1, .slice A0_2 l0_2.length c0_2, .slice A0_3 l0_3.length c0_3]) (t := 24) ?hr ?_; (case hd => rfl); (case hg => rfl); (case hr => first | (go_simp; done) | (go_simp; rfl)); intro gb210 hg w13 hbox hb; have n0_ := Aside0.mk (below_step (by repeat (first | (with_reducible first | exact HB.out | apply below_alloc | apply pw_below_drewN | apply below_drew1) | exact HB.out)) hb); have n1_ := Aside0.mk (hbox); have n2_ := Aside0.mk ((by rw [hg]; exact (below_size (by repeat (first | (with_reducible first | exact HB.out | apply below_alloc | apply pw_below_drewN | apply below_drew1) | exact HB.out))) : w.heap.size ≤ gb210)); have n3_ := Aside0.mk ((by rw [hg]; exact (below_size (by repeat (first | (with_reducible first | exact HB.out | apply below_alloc | apply pw_below_drewN | apply below_drew1) | exact HB.out))) : w.heap.size ≤ gb210)); clear HB; have HB := n0_; have BK210 := n1_; have GW210 := n2_; have GE210 := n3_; clear n0_ n1_ n2_ n3_; clear hb hbox hg) | ((with_reducible refine gate_dst (N := 4) rfl ?_); refine box_event ?hg (N := 4) ?hd (cs := #[.int .i64 a1_0, .int .i64 a1_1, .slice A1_2 l1_2.length c1_2, .slice A1_3 l1_3.length c1_3]) (t := 24) ?hr ?_; (case hd => rfl); (case hg => rfl); (case hr => first | (go_simp; done) | (go_simp; rfl)); intro gb211 hg w14 hbox hb; have n0_ := Aside0.mk (blk_below (g := gb210) (o := .cells #[.int .i64 a0_0, .int .i64 a0_1, .slice A0_2 l0_2.length c0_2, .slice A0_3 l0_3.length c0_3] 24 (0, 0)) (by (with_reducible repeat (first | refine blk_drewN ?_ _ | refine blk_drew ?_ | refine blk_alloc ?_ _)); exact BK210.out) hb); have n1_ := Aside0.mk (below_step (by repeat (first | (with_reducible first | exact HB.out | apply below_alloc | apply pw_below_drewN | apply below_drew1 | refine below_set ?_ GE210.out) | exact HB.out)) hb); have n2_ := Aside0.mk (hbox); have n3_ := Aside0.mk ((by rw [hg]; exact (below_size (by repeat (first | (with_reducible first | exact HB.out | apply below_alloc | apply pw_below_drewN | apply below_drew1 | refine below_set ?_ GE210.out) | exact HB.out))) : w.heap.size ≤ gb211)); have n4_ := Aside0.mk ((by rw [hg]; exact (below_size (by repeat (first | (with_reducible first | exact HB.out | apply below_alloc | apply pw_below_drewN | apply below_drew1 | refine below_set ?_ GE210.out) | exact HB.out))) : w.heap.size ≤ gb211)); have n5_ := Aside0.mk ((by rw [hg]; exact Nat.ne_of_lt (blk_lt (g := gb210) (o := .cells #[.int .i64 a0_0, .int .i64 a0_1, .slice A0_2 l0_2.length c0_2, .slice A0_3 l0_3.length c0_3] 24 (0, 0)) (by (with_reducible repeat (first | refine blk_drewN ?_ _ | refine blk_drew ?_ | refine blk_alloc ?_ _)); exact BK210.out)) : gb210 ≠ gb211)); have n6_ := Aside0.mk ((by rw [hg]; exact Nat.ne_of_gt (blk_lt (g := gb210) (o := .cells #[.int .i64 a0_0, .int .i64 a0_1, .slice A0_2 l0_2.length c0_2, .slice A0_3 l0_3.length c0_3] 24 (0, 0)) (by (with_reducible repeat (first | refine blk_drewN ?_ _ | refine blk_drew ?_ | refine blk_alloc ?_ _)); exact BK210.out)) : gb211 ≠ gb210)); clear BK210; clear HB; have BK210 := n0_; have HB := n1_; have BK211 := n2_; have GW211 := n3_; have GE211 := n4_; have NB210_211 := n5_; have NB211_210 := n6_; clear n0_ n1_ n2_ n3_ n4_ n5_ n6_; clear hb hbox hg; have hnb15 := NB210_211.out; have hnc15 := NB211_210.out; have hcz16_0 : w14.cell? ⟨gb210, 0, none⟩ = some (.int .i64 a0_0) := (blk_cell BK210.out 0).trans rfl; have hcz16_1 : w14.cell? ⟨gb210, 1, none⟩ = some (.int .i64 a0_1) := (blk_cell BK210.out 1).trans rfl; have hcz16_2 : w14.cell? ⟨gb210, 2, none⟩ = some (.slice A0_2 l0_2.length c0_2) := (blk_cell BK210.out 2).trans rfl; have hcz16_3 : w14.cell? ⟨gb210, 3, none⟩ = some (.slice A0_3 l0_3.length c0_3) := (blk_cell BK210.out 3).trans rfl; have hfz16_0 := blk_frozen BK210.out 0; have hfz16_1 := blk_frozen BK210.out 1; have hfz16_2 := blk_frozen BK210.out 2; have hfz16_3 := blk_frozen BK210.out 3) | ((with_reducible refine gate_callee (f := 6) rfl ?_); refine goesL_ (some 18) rfl rfl Try.func6 (by kernel_rfl) rfl #[.agg #[.int .i64 a0_0, .int .i64 a0_1, .slice A0_2 l0_2.length c0_2, .slice A0_3 l0_3.length c0_3], .int .i64 1000000] rfl (by (try simp only [List.map_toArray, List.map_cons, List.map_nil]); first | done | rfl | (simp only [List.length_drop, List.length_take]; rfl)) ?_; (with_reducible refine (laws_szFigure.calls a0_0 a0_1 _ _ l0_2 _ _ l0_3 1000000 t212 _ ?side1 ?side2 ?side3 ?side4 A4.out).mono ?_); (case side1 => repeat (first | exact (Kd.C_below HR0_2.out HB.out) | (with_reducible refine Kd.C_alloc ?_ _) | (with_reducible refine Kd.C_drewN ?_ _) | (with_reducible refine Kd.C_drew ?_))); (case side2 => exact HC0_2.out); (case side3 => repeat (first | exact (Kd.C_below HR0_3.out HB.out) | (with_reducible refine Kd.C_alloc ?_ _) | (with_reducible refine Kd.C_drewN ?_ _) | (with_reducible refine Kd.C_drew ?_))); (case side4 => exact HC0_3.out); rintro e w17 ⟨rfl, hb⟩; refine ⟨_, rfl, ?_⟩; have n0_ := Aside0.mk (blk_below (g := gb210) (o := .cells #[.int .i64 a0_0, .int .i64 a0_1, .slice A0_2 l0_2.length c0_2, .slice A0_3 l0_3.length c0_3] 24 (0, 0)) (by (with_reducible repeat (first | refine blk_drewN ?_ _ | refine blk_drew ?_ | refine blk_alloc ?_ _)); exact BK210.out) hb); have n1_ := Aside0.mk (blk_below (g := gb211) (o := .cells #[.int .i64 a1_0, .int .i64 a1_1, .slice A1_2 l1_2.length c1_2, .slice A1_3 l1_3.length c1_3] 24 (0, 0)) (by (with_reducible repeat (first | refine blk_drewN ?_ _ | refine blk_drew ?_ | refine blk_alloc ?_ _)); exact BK211.out) hb); have n2_ := Aside0.mk (below_step (by repeat (first | (with_reducible first | exact HB.out | apply below_alloc | apply pw_below_drewN | apply below_drew1 | refine below_set ?_ GE210.out | refine below_set ?_ GE211.out) | exact HB.out)) hb); clear BK210; clear BK211; clear HB; have BK210 := n0_; have BK211 := n1_; have HB := n2_; clear n0_ n1_ n2_; (try clear hb); (try clear hb2); (try clear hk); (try clear hi); have hcz18_0 : w17.cell? ⟨gb211, 0, none⟩ = some (.int .i64 a1_0) := (blk_cell BK211.out 0).trans rfl; have hcz18_1 : w17.cell? ⟨gb211, 1, none⟩ = some (.int .i64 a1_1) := (blk_cell BK211.out 1).trans rfl; have hcz18_2 : w17.cell? ⟨gb211, 2, none⟩ = some (.slice A1_2 l1_2.length c1_2) := (blk_cell BK211.out 2).trans rfl; have hcz18_3 : w17.cell? ⟨gb211, 3, none⟩ = some (.slice A1_3 l1_3.length c1_3) := (blk_cell BK211.out 3).trans rfl; have hfz18_0 := blk_frozen BK211.out 0; have hfz18_1 := blk_frozen BK211.out 1; have hfz18_2 := blk_frozen BK211.out 2; have hfz18_3 := blk_frozen BK211.out 3) | ((with_reducible refine gate_callee (f := 6) rfl ?_); refine goesL_ (some 23) rfl rfl Try.func6 (by kernel_rfl) rfl #[.agg #[.int .i64 a1_0, .int .i64 a1_1, .slice A1_2 l1_2.length c1_2, .slice A1_3 l1_3.length c1_3], .int .i64 t212] rfl (by (try simp only [List.map_toArray, List.map_cons, List.map_nil]); first | done | rfl | (simp only [List.length_drop, List.length_take]; rfl)) ?_; (with_reducible refine (laws_szFigure.calls a1_0 a1_1 _ _ l1_2 _ _ l1_3 t212 t213 _ ?side1 ?side2 ?side3 ?side4 A11.out).mono ?_); (case side1 => repeat (first | exact (Kd.C_below HR1_2.out HB.out) | (with_reducible refine Kd.C_alloc ?_ _) | (with_reducible refine Kd.C_drewN ?_ _) | (with_reducible refine Kd.C_drew ?_))); (case side2 => exact HC1_2.out); (case side3 => repeat (first | exact (Kd.C_below HR1_3.out HB.out) | (with_reducible refine Kd.C_alloc ?_ _) | (with_reducible refine Kd.C_drewN ?_ _) | (with_reducible refine Kd.C_drew ?_))); (case side4 => exact HC1_3.out); rintro e w19 ⟨rfl, hb⟩; refine ⟨_, rfl, ?_⟩; have n0_ := Aside0.mk (blk_below (g := gb210) (o := .cells #[.int .i64 a0_0, .int .i64 a0_1, .slice A0_2 l0_2.length c0_2, .slice A0_3 l0_3.length c0_3] 24 (0, 0)) (by (with_reducible repeat (first | refine blk_drewN ?_ _ | refine blk_drew ?_ | refine blk_alloc ?_ _)); exact BK210.out) hb); have n1_ := Aside0.mk (blk_below (g := gb211) (o := .cells #[.int .i64 a1_0, .int .i64 a1_1, .slice A1_2 l1_2.length c1_2, .slice A1_3 l1_3.length c1_3] 24 (0, 0)) (by (with_reducible repeat (first | refine blk_drewN ?_ _ | refine blk_drew ?_ | refine blk_alloc ?_ _)); exact BK211.out) hb); have n2_ := Aside0.mk (below_step (by repeat (first | (with_reducible first | exact HB.out | apply below_alloc | apply pw_below_drewN | apply below_drew1 | refine below_set ?_ GE210.out | refine below_set ?_ GE211.out) | exact HB.out)) hb); clear BK210; clear BK211; clear HB; have BK210 := n0_; have BK211 := n1_; have HB := n2_; clear n0_ n1_ n2_; (try clear hb); (try clear hb2); (try clear hk); (try clear hi)))
   go_ret
   exact ⟨by first | rfl | (simp [errW_none, errW_some] <;> rfl) | (simp [*, errW_none, errW_some] <;> rfl), by repeat (first | (with_reducible first | exact HB.out | apply below_alloc | apply pw_below_drewN | apply below_drew1 | refine below_set ?_ GE210.out | refine below_set ?_ GE211.out) | exact HB.out)⟩
  ·rw [if_neg c12] at H
   have c12b0 : decide (t213 < 0) = false := decide_eq_false c12
   clear c12
   replace H := Option.bind_eq_some_iff.mp H
   obtain ⟨⟨t214, t215, t216, t219⟩, A200, H⟩ := H
   replace H : ((laws_toFigure.f a1_0 a1_1 l1_2 l1_3 false).bind fun bt222 => ((spec_IsMoveOf.f k t214 t215 t216 t219 bt222.1 bt222.2.1 bt222.2.2.1 bt222.2.2.2 a2).bind fun bt230 => ((laws_toFigure.f a0_0 a0_1 l0_2 l0_3 false).bind fun bt232 => ((laws_toFigure.f a1_0 a1_1 l1_2 l1_3 false).bind fun bt241 => ((impl_IsMoveOf.f k bt232.1 bt232.2.1 bt232.2.2.1 bt232.2.2.2 bt241.1 bt241.2.1 bt241.2.2.1 bt241.2.2.2 a2).bind fun bt250 => (if (bt250.1 != bt230.1) = true then (laws_FnExactIsMoveOf.j0 k a2 bt230.1 bt230.2 true a0_0 a0_1 l0_2 l0_3 a1_0 a1_1 l1_2 l1_3 bt232.1 bt232.2.1 bt232.2.2.1 bt232.2.2.2 bt241.1 bt241.2.1 bt241.2.2.1 bt241.2.2.2) else (laws_FnExactIsMoveOf.j0 k a2 bt230.1 bt230.2 (bt250.2 != bt230.2) a0_0 a0_1 l0_2 l0_3 a1_0 a1_1 l1_2 l1_3 bt232.1 bt232.2.1 bt232.2.2.1 bt232.2.2.2 bt241.1 bt241.2.1 bt241.2.2.1 bt241.2.2.2))))))) = some r := H
   have A20 := Aside0.mk A200
   clear A200
   replace H := Option.bind_eq_some_iff.mp H
   obtain ⟨⟨t222, t223, t224, t227⟩, A210, H⟩ := H
   replace H : ((spec_IsMoveOf.f k t214 t215 t216 t219 t222 t223 t224 t227 a2).bind fun bt230 => ((laws_toFigure.f a0_0 a0_1 l0_2 l0_3 false).bind fun bt232 => ((laws_toFigure.f a1_0 a1_1 l1_2 l1_3 false).bind fun bt241 => ((impl_IsMoveOf.f k bt232.1 bt232.2.1 bt232.2.2.1 bt232.2.2.2 bt241.1 bt241.2.1 bt241.2.2.1 bt241.2.2.2 a2).bind fun bt250 => (if (bt250.1 != bt230.1) = true then (laws_FnExactIsMoveOf.j0 k a2 bt230.1 bt230.2 true a0_0 a0_1 l0_2 l0_3 a1_0 a1_1 l1_2 l1_3 bt232.1 bt232.2.1 bt232.2.2.1 bt232.2.2.2 bt241.1 bt241.2.1 bt241.2.2.1 bt241.2.2.2) else (laws_FnExactIsMoveOf.j0 k a2 bt230.1 bt230.2 (bt250.2 != bt230.2) a0_0 a0_1 l0_2 l0_3 a1_0 a1_1 l1_2 l1_3 bt232.1 bt232.2.1 bt232.2.2.1 bt232.2.2.2 bt241.1 bt241.2.1 bt241.2.2.1 bt241.2.2.2)))))) = some r := H
   have A21 := Aside0.mk A210
   clear A210
   replace H := Option.bind_eq_some_iff.mp H
   obtain ⟨⟨t230, t231⟩, A220, H⟩ := H
   replace H : ((laws_toFigure.f a0_0 a0_1 l0_2 l0_3 false).bind fun bt232 => ((laws_toFigure.f a1_0 a1_1 l1_2 l1_3 false).bind fun bt241 => ((impl_IsMoveOf.f k bt232.1 bt232.2.1 bt232.2.2.1 bt232.2.2.2 bt241.1 bt241.2.1 bt241.2.2.1 bt241.2.2.2 a2).bind fun bt250 => (if (bt250.1 != t230) = true then (laws_FnExactIsMoveOf.j0 k a2 t230 t231 true a0_0 a0_1 l0_2 l0_3 a1_0 a1_1 l1_2 l1_3 bt232.1 bt232.2.1 bt232.2.2.1 bt232.2.2.2 bt241.1 bt241.2.1 bt241.2.2.1 bt241.2.2.2) else (laws_FnExactIsMoveOf.j0 k a2 t230 t231 (bt250.2 != t231) a0_0 a0_1 l0_2 l0_3 a1_0 a1_1 l1_2 l1_3 bt232.1 bt232.2.1 bt232.2.2.1 bt232.2.2.2 bt241.1 bt241.2.1 bt241.2.2.1 bt241.2.2.2))))) = some r := H
   have A22 := Aside0.mk A220
   clear A220
   replace H := Option.bind_eq_some_iff.mp H
   obtain ⟨⟨t232, t233, t234, t237⟩, A230, H⟩ := H
   replace H : ((laws_toFigure.f a1_0 a1_1 l1_2 l1_3 false).bind fun bt241 => ((impl_IsMoveOf.f k t232 t233 t234 t237 bt241.1 bt241.2.1 bt241.2.2.1 bt241.2.2.2 a2).bind fun bt250 => (if (bt250.1 != t230) = true then (laws_FnExactIsMoveOf.j0 k a2 t230 t231 true a0_0 a0_1 l0_2 l0_3 a1_0 a1_1 l1_2 l1_3 t232 t233 t234 t237 bt241.1 bt241.2.1 bt241.2.2.1 bt241.2.2.2) else (laws_FnExactIsMoveOf.j0 k a2 t230 t231 (bt250.2 != t231) a0_0 a0_1 l0_2 l0_3 a1_0 a1_1 l1_2 l1_3 t232 t233 t234 t237 bt241.1 bt241.2.1 bt241.2.2.1 bt241.2.2.2)))) = some r := H
   have A23 := Aside0.mk A230
   clear A230
   replace H := Option.bind_eq_some_iff.mp H
   obtain ⟨⟨t241, t242, t243, t246⟩, A240, H⟩ := H
   replace H : ((impl_IsMoveOf.f k t232 t233 t234 t237 t241 t242 t243 t246 a2).bind fun bt250 => (if (bt250.1 != t230) = true then (laws_FnExactIsMoveOf.j0 k a2 t230 t231 true a0_0 a0_1 l0_2 l0_3 a1_0 a1_1 l1_2 l1_3 t232 t233 t234 t237 t241 t242 t243 t246) else (laws_FnExactIsMoveOf.j0 k a2 t230 t231 (bt250.2 != t231) a0_0 a0_1 l0_2 l0_3 a1_0 a1_1 l1_2 l1_3 t232 t233 t234 t237 t241 t242 t243 t246))) = some r := H
   have A24 := Aside0.mk A240
   clear A240
   replace H := Option.bind_eq_some_iff.mp H
   obtain ⟨⟨t250, t251⟩, A250, H⟩ := H
   replace H : (if (t250 != t230) = true then (laws_FnExactIsMoveOf.j0 k a2 t230 t231 true a0_0 a0_1 l0_2 l0_3 a1_0 a1_1 l1_2 l1_3 t232 t233 t234 t237 t241 t242 t243 t246) else (laws_FnExactIsMoveOf.j0 k a2 t230 t231 (t251 != t231) a0_0 a0_1 l0_2 l0_3 a1_0 a1_1 l1_2 l1_3 t232 t233 t234 t237 t241 t242 t243 t246)) = some r := H
   have A25 := Aside0.mk A250
   clear A250
   have HC26 := Aside0.mk H
   clear H
   go_enter Try.func4, Try.ntmps4
   try go_wp2_with (first | ((with_reducible refine gate_dst (N := 3) rfl ?_); refine box_event ?hg (N := 3) ?hd (cs := #[.int .i64 a0_0, .int .i64 a0_1, .slice A0_2 l0_2.length c0_2, .slice A0_3 l0_3.length c0_3]) (t := 24) ?hr ?_; (case hd => rfl); (case hg => rfl); (case hr => first | (go_simp; done) | (go_simp; rfl)); intro gb210 hg w27 hbox hb; have n0_ := Aside0.mk (below_step (by repeat (first | (with_reducible first | exact HB.out | apply below_alloc | apply pw_below_drewN | apply below_drew1) | exact HB.out)) hb); have n1_ := Aside0.mk (hbox); have n2_ := Aside0.mk ((by rw [hg]; exact (below_size (by repeat (first | (with_reducible first | exact HB.out | apply below_alloc | apply pw_below_drewN | apply below_drew1) | exact HB.out))) : w.heap.size ≤ gb210)); have n3_ := Aside0.mk ((by rw [hg]; exact (below_size (by repeat (first | (with_reducible first | exact HB.out | apply below_alloc | apply pw_below_drewN | apply below_drew1) | exact HB.out))) : w.heap.size ≤ gb210)); clear HB; have HB := n0_; have BK210 := n1_; have GW210 := n2_; have GE210 := n3_; clear n0_ n1_ n2_ n3_; clear hb hbox hg) | ((with_reducible refine gate_dst (N := 4) rfl ?_); refine box_event ?hg (N := 4) ?hd (cs := #[.int .i64 a1_0, .int .i64 a1_1, .slice A1_2 l1_2.length c1_2, .slice A1_3 l1_3.length c1_3]) (t := 24) ?hr ?_; (case hd => rfl); (case hg => rfl); (case hr => first | (go_simp; done) | (go_simp; rfl)); intro gb211 hg w28 hbox hb; have n0_ := Aside0.mk (blk_below (g := gb210) (o := .cells #[.int .i64 a0_0, .int .i64 a0_1, .slice A0_2 l0_2.length c0_2, .slice A0_3 l0_3.length c0_3] 24 (0, 0)) (by (with_reducible repeat (first | refine blk_drewN ?_ _ | refine blk_drew ?_ | refine blk_alloc ?_ _)); exact BK210.out) hb); have n1_ := Aside0.mk (below_step (by repeat (first | (with_reducible first | exact HB.out | apply below_alloc | apply pw_below_drewN | apply below_drew1 | refine below_set ?_ GE210.out) | exact HB.out)) hb); have n2_ := Aside0.mk (hbox); have n3_ := Aside0.mk ((by rw [hg]; exact (below_size (by repeat (first | (with_reducible first | exact HB.out | apply below_alloc | apply pw_below_drewN | apply below_drew1 | refine below_set ?_ GE210.out) | exact HB.out))) : w.heap.size ≤ gb211)); have n4_ := Aside0.mk ((by rw [hg]; exact (below_size (by repeat (first | (with_reducible first | exact HB.out | apply below_alloc | apply pw_below_drewN | apply below_drew1 | refine below_set ?_ GE210.out) | exact HB.out))) : w.heap.size ≤ gb211)); have n5_ := Aside0.mk ((by rw [hg]; exact Nat.ne_of_lt (blk_lt (g := gb210) (o := .cells #[.int .i64 a0_0, .int .i64 a0_1, .slice A0_2 l0_2.length c0_2, .slice A0_3 l0_3.length c0_3] 24 (0, 0)) (by (with_reducible repeat (first | refine blk_drewN ?_ _ | refine blk_drew ?_ | refine blk_alloc ?_ _)); exact BK210.out)) : gb210 ≠ gb211)); have n6_ := Aside0.mk ((by rw [hg]; exact Nat.ne_of_gt (blk_lt (g := gb210) (o := .cells #[.int .i64 a0_0, .int .i64 a0_1, .slice A0_2 l0_2.length c0_2, .slice A0_3 l0_3.length c0_3] 24 (0, 0)) (by (with_reducible repeat (first | refine blk_drewN ?_ _ | refine blk_drew ?_ | refine blk_alloc ?_ _)); exact BK210.out)) : gb211 ≠ gb210)); clear BK210; clear HB; have BK210 := n0_; have HB := n1_; have BK211 := n2_; have GW211 := n3_; have GE211 := n4_; have NB210_211 := n5_; have NB211_210 := n6_; clear n0_ n1_ n2_ n3_ n4_ n5_ n6_; clear hb hbox hg; have hnb29 := NB210_211.out; have hnc29 := NB211_210.out; have hcz30_0 : w28.cell? ⟨gb210, 0, none⟩ = some (.int .i64 a0_0) := (blk_cell BK210.out 0).trans rfl; have hcz30_1 : w28.cell? ⟨gb210, 1, none⟩ = some (.int .i64 a0_1) := (blk_cell BK210.out 1).trans rfl; have hcz30_2 : w28.cell? ⟨gb210, 2, none⟩ = some (.slice A0_2 l0_2.length c0_2) := (blk_cell BK210.out 2).trans rfl; have hcz30_3 : w28.cell? ⟨gb210, 3, none⟩ = some (.slice A0_3 l0_3.length c0_3) := (blk_cell BK210.out 3).trans rfl; have hfz30_0 := blk_frozen BK210.out 0; have hfz30_1 := blk_frozen BK210.out 1; have hfz30_2 := blk_frozen BK210.out 2; have hfz30_3 := blk_frozen BK210.out 3) | ((with_reducible refine gate_callee (f := 6) rfl ?_); refine goesL_ (some 18) rfl rfl Try.func6 (by kernel_rfl) rfl #[.agg #[.int .i64 a0_0, .int .i64 a0_1, .slice A0_2 l0_2.length c0_2, .slice A0_3 l0_3.length c0_3], .int .i64 1000000] rfl (by (try simp only [List.map_toArray, List.map_cons, List.map_nil]); first | done | rfl | (simp only [List.length_drop, List.length_take]; rfl)) ?_; (with_reducible refine (laws_szFigure.calls a0_0 a0_1 _ _ l0_2 _ _ l0_3 1000000 t212 _ ?side1 ?side2 ?side3 ?side4 A4.out).mono ?_); (case side1 => repeat (first | exact (Kd.C_below HR0_2.out HB.out) | (with_reducible refine Kd.C_alloc ?_ _) | (with_reducible refine Kd.C_drewN ?_ _) | (with_reducible refine Kd.C_drew ?_))); (case side2 => exact HC0_2.out); (case side3 => repeat (first | exact (Kd.C_below HR0_3.out HB.out) | (with_reducible refine Kd.C_alloc ?_ _) | (with_reducible refine Kd.C_drewN ?_ _) | (with_reducible refine Kd.C_drew ?_))); (case side4 => exact HC0_3.out); rintro e w31 ⟨rfl, hb⟩; refine ⟨_, rfl, ?_⟩; have n0_ := Aside0.mk (blk_below (g := gb210) (o := .cells #[.int .i64 a0_0, .int .i64 a0_1, .slice A0_2 l0_2.length c0_2, .slice A0_3 l0_3.length c0_3] 24 (0, 0)) (by (with_reducible repeat (first | refine blk_drewN ?_ _ | refine blk_drew ?_ | refine blk_alloc ?_ _)); exact BK210.out) hb); have n1_ := Aside0.mk (blk_below (g := gb211) (o := .cells #[.int .i64 a1_0, .int .i64 a1_1, .slice A1_2 l1_2.length c1_2, .slice A1_3 l1_3.length c1_3] 24 (0, 0)) (by (with_reducible repeat (first | refine blk_drewN ?_ _ | refine blk_drew ?_ | refine blk_alloc ?_ _)); exact BK211.out) hb); have n2_ := Aside0.mk (below_step (by repeat (first | (with_reducible first | exact HB.out | apply below_alloc | apply pw_below_drewN | apply below_drew1 | refine below_set ?_ GE210.out | refine below_set ?_ GE211.out) | exact HB.out)) hb); clear BK210; clear BK211; clear HB; have BK210 := n0_; have BK211 := n1_; have HB := n2_; clear n0_ n1_ n2_; (try clear hb); (try clear hb2); (try clear hk); (try clear hi); have hcz32_0 : w31.cell? ⟨gb211, 0, none⟩ = some (.int .i64 a1_0) := (blk_cell BK211.out 0).trans rfl; have hcz32_1 : w31.cell? ⟨gb211, 1, none⟩ = some (.int .i64 a1_1) := (blk_cell BK211.out 1).trans rfl; have hcz32_2 : w31.cell? ⟨gb211, 2, none⟩ = some (.slice A1_2 l1_2.length c1_2) := (blk_cell BK211.out 2).trans rfl; have hcz32_3 : w31.cell? ⟨gb211, 3, none⟩ = some (.slice A1_3 l1_3.length c1_3) := (blk_cell BK211.out 3).trans rfl; have hfz32_0 := blk_frozen BK211.out 0; have hfz32_1 := blk_frozen BK211.out 1; have hfz32_2 := blk_frozen BK211.out 2; have hfz32_3 := blk_frozen BK211.out 3) | ((with_reducible refine gate_callee (f := 6) rfl ?_); refine goesL_ (some 23) rfl rfl Try.func6 (by kernel_rfl) rfl #[.agg #[.int .i64 a1_0, .int .i64 a1_1, .slice A1_2 l1_2.length c1_2, .slice A1_3 l1_3.length c1_3], .int .i64 t212] rfl (by (try simp only [List.map_toArray, List.map_cons, List.map_nil]); first | done | rfl | (simp only [List.length_drop, List.length_take]; rfl)) ?_; (with_reducible refine (laws_szFigure.calls a1_0 a1_1 _ _ l1_2 _ _ l1_3 t212 t213 _ ?side1 ?side2 ?side3 ?side4 A11.out).mono ?_); (case side1 => repeat (first | exact (Kd.C_below HR1_2.out HB.out) | (with_reducible refine Kd.C_alloc ?_ _) | (with_reducible refine Kd.C_drewN ?_ _) | (with_reducible refine Kd.C_drew ?_))); (case side2 => exact HC1_2.out); (case side3 => repeat (first | exact (Kd.C_below HR1_3.out HB.out) | (with_reducible refine Kd.C_alloc ?_ _) | (with_reducible refine Kd.C_drewN ?_ _) | (with_reducible refine Kd.C_drew ?_))); (case side4 => exact HC1_3.out); rintro e w33 ⟨rfl, hb⟩; refine ⟨_, rfl, ?_⟩; have n0_ := Aside0.mk (blk_below (g := gb210) (o := .cells #[.int .i64 a0_0, .int .i64 a0_1, .slice A0_2 l0_2.length c0_2, .slice A0_3 l0_3.length c0_3] 24 (0, 0)) (by (with_reducible repeat (first | refine blk_drewN ?_ _ | refine blk_drew ?_ | refine blk_alloc ?_ _)); exact BK210.out) hb); have n1_ := Aside0.mk (blk_below (g := gb211) (o := .cells #[.int .i64 a1_0, .int .i64 a1_1, .slice A1_2 l1_2.length c1_2, .slice A1_3 l1_3.length c1_3] 24 (0, 0)) (by (with_reducible repeat (first | refine blk_drewN ?_ _ | refine blk_drew ?_ | refine blk_alloc ?_ _)); exact BK211.out) hb); have n2_ := Aside0.mk (below_step (by repeat (first | (with_reducible first | exact HB.out | apply below_alloc | apply pw_below_drewN | apply below_drew1 | refine below_set ?_ GE210.out | refine below_set ?_ GE211.out) | exact HB.out)) hb); clear BK210; clear BK211; clear HB; have BK210 := n0_; have BK211 := n1_; have HB := n2_; clear n0_ n1_ n2_; (try clear hb); (try clear hb2); (try clear hk); (try clear hi)))
   have n0_ := Aside0.mk (blk_drew BK210.out)
   have n1_ := Aside0.mk (blk_drew BK211.out)
   have n2_ := Aside0.mk (below_drew1 HB.out)
   clear BK210
   clear BK211
   clear HB
   have BK210 := n0_
   have BK211 := n1_
   have HB := n2_
   clear n0_ n1_ n2_
   refine start_ (n := 11) (S := fun w' => w'.cell? ⟨gb210, 0, none⟩ = some (.int .i64 a0_0) ∧ w'.cell? ⟨gb210, 1, none⟩ = some (.int .i64 a0_1) ∧ w'.cell? ⟨gb210, 2, none⟩ = some (.slice A0_2 l0_2.length c0_2) ∧ w'.cell? ⟨gb210, 3, none⟩ = some (.slice A0_3 l0_3.length c0_3) ∧ w'.cell? ⟨gb211, 0, none⟩ = some (.int .i64 a1_0) ∧ w'.cell? ⟨gb211, 1, none⟩ = some (.int .i64 a1_1) ∧ w'.cell? ⟨gb211, 2, none⟩ = some (.slice A1_2 l1_2.length c1_2) ∧ w'.cell? ⟨gb211, 3, none⟩ = some (.slice A1_3 l1_3.length c1_3)) (ds := []) #[false, false, false, false, false, false, false, false, false, false, false] (by kernel_rfl) rfl rfl ⟨(blk_cell BK210.out 0).trans rfl, (blk_cell BK210.out 1).trans rfl, (blk_cell BK210.out 2).trans rfl, (blk_cell BK210.out 3).trans rfl, (blk_cell BK211.out 0).trans rfl, (blk_cell BK211.out 1).trans rfl, (blk_cell BK211.out 2).trans rfl, (blk_cell BK211.out 3).trans rfl⟩ (fun hHeld => ?_); refine with_tabW laws_FnExactIsMoveOf.tab8 laws_FnExactIsMoveOf.bits8 (fun HT_ HW_ => ?_)
   generalize w33.drew = w34 at BK210 BK211 HB hHeld ⊢
   refine pure_ (i := 4) (N := some 31) (v := ?_) (a' := ?_) #[false, false, false, false, true, false, false, false, false, false, false] rfl rfl (any_of HT_.out (by kernel_rfl)) (fun _ _ _ h => h) (Or.inl ⟨by rfl, ?_⟩) ?_ ?_
   rotate_left
   ·intro w'
    go_simp
    with_reducible rfl
   rotate_left
   ·simp only [Act.put, List.setIfInBounds_toArray, List.set_cons_zero, List.set_cons_succ, i64_w, i32_w]
    rfl
   refine take_ (i := 0) (N := some 27) (v := ?_) (a' := ?_) #[true, false, false, false, true, false, false, false, false, false, false] rfl rfl (take_ofW HT_.out HW_.out (by kernel_rfl)) (fun _ _ _ h => h) (Or.inl ⟨by rfl, ?_⟩) hHeld ?_ ?_
   rotate_left
   ·rintro w' ⟨s0, s1, s2, s3, s4, s5, s6, s7⟩
    go_simp
    with_reducible rfl
   rotate_left
   ·simp only [Act.put, List.setIfInBounds_toArray, List.set_cons_zero, List.set_cons_succ, i64_w, i32_w]
    rfl
   refine take_ (i := 2) (N := some 29) (v := ?_) (a' := ?_) #[true, false, true, false, true, false, false, false, false, false, false] rfl rfl (take_ofW HT_.out HW_.out (by kernel_rfl)) (fun _ _ _ h => h) (Or.inl ⟨by rfl, ?_⟩) hHeld ?_ ?_
   rotate_left
   ·rintro w' ⟨s0, s1, s2, s3, s4, s5, s6, s7⟩
    go_simp
    with_reducible rfl
   rotate_left
   ·simp only [Act.put, List.setIfInBounds_toArray, List.set_cons_zero, List.set_cons_succ, i64_w, i32_w]
    rfl
   refine one_ (i := 1) (N := some 28) #[true, true, true, false, true, false, false, false, false, false, false] rfl rfl (one_of HT_.out (by kernel_rfl)) (by decide) (fun K hK => ?_)
   refine goes_ Try.func8 (by kernel_rfl) rfl #[.agg #[.int .i64 a0_0, .int .i64 a0_1, .slice A0_2 l0_2.length c0_2, .slice A0_3 l0_3.length c0_3], .bool false] (by rfl) rfl rfl (by (try simp only [List.map_toArray, List.map_cons, List.map_nil]); first | done | rfl | (simp only [List.length_drop, List.length_take]; rfl)) ?_
   with_reducible refine (laws_toFigure.calls a0_0 a0_1 _ _ l0_2 _ _ l0_3 false t214 t215 t216 t219 _ ?side1 ?side2 ?side3 ?side4 A20.out).mono ?_
   (case side1 => repeat (first | exact (Kd.C_below HR0_2.out HB.out) | (with_reducible refine Kd.C_alloc ?_ _) | (with_reducible refine Kd.C_drewN ?_ _) | (with_reducible refine Kd.C_drew ?_)))
   (case side2 => exact HC0_2.out)
   (case side3 => repeat (first | exact (Kd.C_below HR0_3.out HB.out) | (with_reducible refine Kd.C_alloc ?_ _) | (with_reducible refine Kd.C_drewN ?_ _) | (with_reducible refine Kd.C_drew ?_)))
   (case side4 => exact HC0_3.out)
   rintro e w35 ⟨v217, v220, rfl, ho0, ho1, hb⟩
   refine ⟨_, rfl, ?_⟩
   have n0_ := Aside0.mk (Kd.PB_lower ho0 (below_size (by repeat (first | (with_reducible first | exact HB.out | apply below_alloc | apply pw_below_drewN | apply below_drew1 | refine below_set ?_ GE210.out | refine below_set ?_ GE211.out) | exact HB.out))))
   have n1_ := Aside0.mk (Kd.PB_lower ho1 (below_size (by repeat (first | (with_reducible first | exact HB.out | apply below_alloc | apply pw_below_drewN | apply below_drew1 | refine below_set ?_ GE210.out | refine below_set ?_ GE211.out) | exact HB.out))))
   have n2_ := Aside0.mk (blk_below (g := gb210) (o := .cells #[.int .i64 a0_0, .int .i64 a0_1, .slice A0_2 l0_2.length c0_2, .slice A0_3 l0_3.length c0_3] 24 (0, 0)) (by (with_reducible repeat (first | refine blk_drewN ?_ _ | refine blk_drew ?_ | refine blk_alloc ?_ _)); exact BK210.out) hb)
   have n3_ := Aside0.mk (blk_below (g := gb211) (o := .cells #[.int .i64 a1_0, .int .i64 a1_1, .slice A1_2 l1_2.length c1_2, .slice A1_3 l1_3.length c1_3] 24 (0, 0)) (by (with_reducible repeat (first | refine blk_drewN ?_ _ | refine blk_drew ?_ | refine blk_alloc ?_ _)); exact BK211.out) hb)
   have n4_ := Aside0.mk (below_step (by repeat (first | (with_reducible first | exact HB.out | apply below_alloc | apply pw_below_drewN | apply below_drew1 | refine below_set ?_ GE210.out | refine below_set ?_ GE211.out) | exact HB.out)) hb)
   clear BK210
   clear BK211
   clear HB
   have HO218 := n0_
   have HO221 := n1_
   have BK210 := n2_
   have BK211 := n3_
   have HB := n4_
   clear n0_ n1_ n2_ n3_ n4_
   (try clear hb)
   (try clear hb2)
   (try clear hk)
   (try clear hi)
   (try clear ho0)
   (try clear ho1)
   refine hK.out _ _ ⟨(blk_cell BK210.out 0).trans rfl, (blk_cell BK210.out 1).trans rfl, (blk_cell BK210.out 2).trans rfl, (blk_cell BK210.out 3).trans rfl, (blk_cell BK211.out 0).trans rfl, (blk_cell BK211.out 1).trans rfl, (blk_cell BK211.out 2).trans rfl, (blk_cell BK211.out 3).trans rfl⟩ (fun hHeld => ?_)
   clear hK K
   refine norm_ (a' := ?_) ?_ ?_
   rotate_left
   ·show Act.put _ (some 28) _ = _
    simp only [Act.put, List.setIfInBounds_toArray, List.set_cons_zero, List.set_cons_succ, i64_w, i32_w]
    rfl
   refine one_ (i := 3) (N := some 30) #[true, true, true, true, true, false, false, false, false, false, false] rfl rfl (one_of HT_.out (by kernel_rfl)) (by decide) (fun K hK => ?_)
   refine goes_ Try.func8 (by kernel_rfl) rfl #[.agg #[.int .i64 a1_0, .int .i64 a1_1, .slice A1_2 l1_2.length c1_2, .slice A1_3 l1_3.length c1_3], .bool false] (by rfl) rfl rfl (by (try simp only [List.map_toArray, List.map_cons, List.map_nil]); first | done | rfl | (simp only [List.length_drop, List.length_take]; rfl)) ?_
   with_reducible refine (laws_toFigure.calls a1_0 a1_1 _ _ l1_2 _ _ l1_3 false t222 t223 t224 t227 _ ?side1 ?side2 ?side3 ?side4 A21.out).mono ?_
   (case side1 => repeat (first | exact (Kd.C_below HR1_2.out HB.out) | (with_reducible refine Kd.C_alloc ?_ _) | (with_reducible refine Kd.C_drewN ?_ _) | (with_reducible refine Kd.C_drew ?_)))
   (case side2 => exact HC1_2.out)
   (case side3 => repeat (first | exact (Kd.C_below HR1_3.out HB.out) | (with_reducible refine Kd.C_alloc ?_ _) | (with_reducible refine Kd.C_drewN ?_ _) | (with_reducible refine Kd.C_drew ?_)))
   (case side4 => exact HC1_3.out)
   rintro e w36 ⟨v225, v228, rfl, ho0, ho1, hb⟩
   refine ⟨_, rfl, ?_⟩
   have n0_ := Aside0.mk (Kd.PB_mono (Kd.PB_told (Kd.PB_told (Kd.PB_old (by (with_reducible repeat (first | apply Kd.PB_alloc | apply Kd.PB_drewN | apply Kd.PB_drew)); exact HO218.out) hb) (Kd.PB_base ho0)) (Kd.PB_base ho1)) (fun _ h_ => h_.1))
   have n1_ := Aside0.mk (Kd.PB_mono (Kd.PB_told (Kd.PB_told (Kd.PB_old (by (with_reducible repeat (first | apply Kd.PB_alloc | apply Kd.PB_drewN | apply Kd.PB_drew)); exact HO221.out) hb) (Kd.PB_base ho0)) (Kd.PB_base ho1)) (fun _ h_ => h_.1))
   have n2_ := Aside0.mk (Kd.PB_lower (Kd.PB_new' (Kd.PB_new' ho0 (Kd.PB_lt (by (with_reducible repeat (first | apply Kd.PB_alloc | apply Kd.PB_drewN | apply Kd.PB_drew)); exact HO218.out))) (Kd.PB_lt (by (with_reducible repeat (first | apply Kd.PB_alloc | apply Kd.PB_drewN | apply Kd.PB_drew)); exact HO221.out))) (below_size (by repeat (first | (with_reducible first | exact HB.out | apply below_alloc | apply pw_below_drewN | apply below_drew1 | refine below_set ?_ GE210.out | refine below_set ?_ GE211.out) | exact HB.out))))
   have n3_ := Aside0.mk (Kd.PB_lower (Kd.PB_new' (Kd.PB_new' ho1 (Kd.PB_lt (by (with_reducible repeat (first | apply Kd.PB_alloc | apply Kd.PB_drewN | apply Kd.PB_drew)); exact HO218.out))) (Kd.PB_lt (by (with_reducible repeat (first | apply Kd.PB_alloc | apply Kd.PB_drewN | apply Kd.PB_drew)); exact HO221.out))) (below_size (by repeat (first | (with_reducible first | exact HB.out | apply below_alloc | apply pw_below_drewN | apply below_drew1 | refine below_set ?_ GE210.out | refine below_set ?_ GE211.out) | exact HB.out))))
   have n4_ := Aside0.mk (blk_below (g := gb210) (o := .cells #[.int .i64 a0_0, .int .i64 a0_1, .slice A0_2 l0_2.length c0_2, .slice A0_3 l0_3.length c0_3] 24 (0, 0)) (by (with_reducible repeat (first | refine blk_drewN ?_ _ | refine blk_drew ?_ | refine blk_alloc ?_ _)); exact BK210.out) hb)
   have n5_ := Aside0.mk (blk_below (g := gb211) (o := .cells #[.int .i64 a1_0, .int .i64 a1_1, .slice A1_2 l1_2.length c1_2, .slice A1_3 l1_3.length c1_3] 24 (0, 0)) (by (with_reducible repeat (first | refine blk_drewN ?_ _ | refine blk_drew ?_ | refine blk_alloc ?_ _)); exact BK211.out) hb)
   have n6_ := Aside0.mk (below_step (by repeat (first | (with_reducible first | exact HB.out | apply below_alloc | apply pw_below_drewN | apply below_drew1 | refine below_set ?_ GE210.out | refine below_set ?_ GE211.out) | exact HB.out)) hb)
   clear HO218
   clear HO221
   clear BK210
   clear BK211
   clear HB
   have HO218 := n0_
   have HO221 := n1_
   have HO226 := n2_
   have HO229 := n3_
   have BK210 := n4_
   have BK211 := n5_
   have HB := n6_
   clear n0_ n1_ n2_ n3_ n4_ n5_ n6_
   (try clear hb)
   (try clear hb2)
   (try clear hk)
   (try clear hi)
   (try clear ho0)
   (try clear ho1)
   obtain ⟨Ao37, co37, eo37⟩ := Kd.PB_slice HO218.out
   (first | subst eo37 | (injection eo37 with f1_ f2_ f3_; have f4_ := f1_.symm; have f5_ := f3_.symm; clear f1_ f2_ f3_; subst f4_; subst f5_))
   obtain ⟨Ao38, co38, eo38⟩ := Kd.PB_slice HO221.out
   (first | subst eo38 | (injection eo38 with f1_ f2_ f3_; have f4_ := f1_.symm; have f5_ := f3_.symm; clear f1_ f2_ f3_; subst f4_; subst f5_))
   obtain ⟨Ao39, co39, eo39⟩ := Kd.PB_slice HO226.out
   (first | subst eo39 | (injection eo39 with f1_ f2_ f3_; have f4_ := f1_.symm; have f5_ := f3_.symm; clear f1_ f2_ f3_; subst f4_; subst f5_))
   obtain ⟨Ao40, co40, eo40⟩ := Kd.PB_slice HO229.out
   (first | subst eo40 | (injection eo40 with f1_ f2_ f3_; have f4_ := f1_.symm; have f5_ := f3_.symm; clear f1_ f2_ f3_; subst f4_; subst f5_))
   refine hK.out _ _ ⟨(blk_cell BK210.out 0).trans rfl, (blk_cell BK210.out 1).trans rfl, (blk_cell BK210.out 2).trans rfl, (blk_cell BK210.out 3).trans rfl, (blk_cell BK211.out 0).trans rfl, (blk_cell BK211.out 1).trans rfl, (blk_cell BK211.out 2).trans rfl, (blk_cell BK211.out 3).trans rfl⟩ (fun hHeld => ?_)
   clear hK K
   refine norm_ (a' := ?_) ?_ ?_
   rotate_left
   ·show Act.put _ (some 30) _ = _
    simp only [Act.put, List.setIfInBounds_toArray, List.set_cons_zero, List.set_cons_succ, i64_w, i32_w]
    rfl
   refine one_ (i := 5) (N := some 32) #[true, true, true, true, true, true, false, false, false, false, false] rfl rfl (one_of HT_.out (by kernel_rfl)) (by decide) (fun K hK => ?_)
   refine goes_ Try.func11 (by kernel_rfl) rfl #[.agg #[.int .i64 t214, .int .i64 t215, .slice Ao37 t216.length co37, .slice Ao38 t219.length co38], .agg #[.int .i64 t222, .int .i64 t223, .slice Ao39 t224.length co39, .slice Ao40 t227.length co40], .int .i64 a2] (by rfl) rfl rfl (by (try simp only [List.map_toArray, List.map_cons, List.map_nil]); first | done | rfl | (simp only [List.length_drop, List.length_take]; rfl)) ?_
   with_reducible refine (spec_IsMoveOf.calls k t214 t215 _ _ t216 _ _ t219 t222 t223 _ _ t224 _ _ t227 a2 t230 t231 _ ?side1 ?side2 ?side3 ?side4 ?side5 ?side6 ?side7 ?side8 A22.out).mono ?_
   (case side1 => repeat (first | exact (Kd.PB_reads' HO218.out).2.2 | (with_reducible refine Kd.C_alloc ?_ _) | (with_reducible refine Kd.C_drewN ?_ _) | (with_reducible refine Kd.C_drew ?_)))
   (case side2 => exact (Kd.PB_reads' HO218.out).2.1)
   (case side3 => repeat (first | exact (Kd.PB_reads' HO221.out).2.2 | (with_reducible refine Kd.C_alloc ?_ _) | (with_reducible refine Kd.C_drewN ?_ _) | (with_reducible refine Kd.C_drew ?_)))
   (case side4 => exact (Kd.PB_reads' HO221.out).2.1)
   (case side5 => repeat (first | exact (Kd.PB_reads' HO226.out).2.2 | (with_reducible refine Kd.C_alloc ?_ _) | (with_reducible refine Kd.C_drewN ?_ _) | (with_reducible refine Kd.C_drew ?_)))
   (case side6 => exact (Kd.PB_reads' HO226.out).2.1)
   (case side7 => repeat (first | exact (Kd.PB_reads' HO229.out).2.2 | (with_reducible refine Kd.C_alloc ?_ _) | (with_reducible refine Kd.C_drewN ?_ _) | (with_reducible refine Kd.C_drew ?_)))
   (case side8 => exact (Kd.PB_reads' HO229.out).2.1)
   rintro e w41 ⟨rfl, hb⟩
   refine ⟨_, rfl, ?_⟩
   have n0_ := Aside0.mk (Kd.PB_below (by (with_reducible repeat (first | apply Kd.PB_alloc | apply Kd.PB_drewN | apply Kd.PB_drew)); exact HO218.out) hb)
   have n1_ := Aside0.mk (Kd.PB_below (by (with_reducible repeat (first | apply Kd.PB_alloc | apply Kd.PB_drewN | apply Kd.PB_drew)); exact HO221.out) hb)
   have n2_ := Aside0.mk (Kd.PB_below (by (with_reducible repeat (first | apply Kd.PB_alloc | apply Kd.PB_drewN | apply Kd.PB_drew)); exact HO226.out) hb)
   have n3_ := Aside0.mk (Kd.PB_below (by (with_reducible repeat (first | apply Kd.PB_alloc | apply Kd.PB_drewN | apply Kd.PB_drew)); exact HO229.out) hb)
   have n4_ := Aside0.mk (blk_below (g := gb210) (o := .cells #[.int .i64 a0_0, .int .i64 a0_1, .slice A0_2 l0_2.length c0_2, .slice A0_3 l0_3.length c0_3] 24 (0, 0)) (by (with_reducible repeat (first | refine blk_drewN ?_ _ | refine blk_drew ?_ | refine blk_alloc ?_ _)); exact BK210.out) hb)
   have n5_ := Aside0.mk (blk_below (g := gb211) (o := .cells #[.int .i64 a1_0, .int .i64 a1_1, .slice A1_2 l1_2.length c1_2, .slice A1_3 l1_3.length c1_3] 24 (0, 0)) (by (with_reducible repeat (first | refine blk_drewN ?_ _ | refine blk_drew ?_ | refine blk_alloc ?_ _)); exact BK211.out) hb)
   have n6_ := Aside0.mk (below_step (by repeat (first | (with_reducible first | exact HB.out | apply below_alloc | apply pw_below_drewN | apply below_drew1 | refine below_set ?_ GE210.out | refine below_set ?_ GE211.out) | exact HB.out)) hb)
   clear HO218
   clear HO221
   clear HO226
   clear HO229
   clear BK210
   clear BK211
   clear HB
   have HO218 := n0_
   have HO221 := n1_
   have HO226 := n2_
   have HO229 := n3_
   have BK210 := n4_
   have BK211 := n5_
   have HB := n6_
   clear n0_ n1_ n2_ n3_ n4_ n5_ n6_
   (try clear hb)
   (try clear hb2)
   (try clear hk)
   (try clear hi)
   refine hK.out _ _ ⟨(blk_cell BK210.out 0).trans rfl, (blk_cell BK210.out 1).trans rfl, (blk_cell BK210.out 2).trans rfl, (blk_cell BK210.out 3).trans rfl, (blk_cell BK211.out 0).trans rfl, (blk_cell BK211.out 1).trans rfl, (blk_cell BK211.out 2).trans rfl, (blk_cell BK211.out 3).trans rfl⟩ (fun hHeld => ?_)
   clear hK K
   refine norm_ (a' := ?_) ?_ ?_
   rotate_left
   ·show Act.put _ (some 32) _ = _
    simp only [Act.put, List.setIfInBounds_toArray, List.set_cons_zero, List.set_cons_succ, i64_w, i32_w]
    rfl
   refine pure_ (i := 6) (N := some 26) (v := ?_) (a' := ?_) #[true, true, true, true, true, true, true, false, false, false, false] rfl rfl (any_of HT_.out (by kernel_rfl)) (fun _ _ _ h => h) (Or.inl ⟨by rfl, ?_⟩) ?_ ?_
   rotate_left
   ·intro w'
    go_simp
    with_reducible rfl
   rotate_left
   ·simp only [Act.put, List.setIfInBounds_toArray, List.set_cons_zero, List.set_cons_succ, i64_w, i32_w]
    rfl
   refine pure_ (i := 7) (N := some 33) (v := ?_) (a' := ?_) #[true, true, true, true, true, true, true, true, false, false, false] rfl rfl (any_of HT_.out (by kernel_rfl)) (fun _ _ _ h => h) (Or.inl ⟨by rfl, ?_⟩) ?_ ?_
   rotate_left
   ·intro w'
    go_simp
    with_reducible rfl
   rotate_left
   ·simp only [Act.put, List.setIfInBounds_toArray, List.set_cons_zero, List.set_cons_succ, i64_w, i32_w]
    rfl
   refine pure_ (i := 8) (N := some 34) (v := ?_) (a' := ?_) #[true, true, true, true, true, true, true, true, true, false, false] rfl rfl (any_of HT_.out (by kernel_rfl)) (fun _ _ _ h => h) (Or.inl ⟨by rfl, ?_⟩) ?_ ?_
   rotate_left
   ·intro w'
    go_simp
    with_reducible rfl
   rotate_left
   ·simp only [Act.put, List.setIfInBounds_toArray, List.set_cons_zero, List.set_cons_succ, i64_w, i32_w]
    rfl
   refine pure_ (i := 9) (N := some 8) (v := ?_) (a' := ?_) #[true, true, true, true, true, true, true, true, true, true, false] rfl rfl (any_of HT_.out (by kernel_rfl)) (fun _ _ _ h => h) (Or.inl ⟨by rfl, ?_⟩) ?_ ?_
   rotate_left
   ·intro w'
    go_simp
    with_reducible rfl
   rotate_left
   ·simp only [Act.put, List.setIfInBounds_toArray, List.set_cons_zero, List.set_cons_succ, i64_w, i32_w]
    rfl
   refine pure_ (i := 10) (N := some 9) (v := ?_) (a' := ?_) #[true, true, true, true, true, true, true, true, true, true, true] rfl rfl (any_of HT_.out (by kernel_rfl)) (fun _ _ _ h => h) (Or.inl ⟨by rfl, ?_⟩) ?_ ?_
   rotate_left
   ·intro w'
    go_simp
    with_reducible rfl
   rotate_left
   ·simp only [Act.put, List.setIfInBounds_toArray, List.set_cons_zero, List.set_cons_succ, i64_w, i32_w]
    rfl
   refine done_ (done_of HT_.out (by kernel_rfl)) ?_
   have hcz42_0 : w41.cell? ⟨gb210, 0, none⟩ = some (.int .i64 a0_0) := (blk_cell BK210.out 0).trans rfl
   have hcz42_1 : w41.cell? ⟨gb210, 1, none⟩ = some (.int .i64 a0_1) := (blk_cell BK210.out 1).trans rfl
   have hcz42_2 : w41.cell? ⟨gb210, 2, none⟩ = some (.slice A0_2 l0_2.length c0_2) := (blk_cell BK210.out 2).trans rfl
   have hcz42_3 : w41.cell? ⟨gb210, 3, none⟩ = some (.slice A0_3 l0_3.length c0_3) := (blk_cell BK210.out 3).trans rfl
   have hfz42_0 := blk_frozen BK210.out 0
   have hfz42_1 := blk_frozen BK210.out 1
   have hfz42_2 := blk_frozen BK210.out 2
   have hfz42_3 := blk_frozen BK210.out 3
   go_upto_region 12 with (first | ((with_reducible refine gate_callee (f := 8) rfl ?_); refine goesL_ (some 36) rfl rfl Try.func8 (by kernel_rfl) rfl #[.agg #[.int .i64 a0_0, .int .i64 a0_1, .slice A0_2 l0_2.length c0_2, .slice A0_3 l0_3.length c0_3], .bool false] rfl (by (try simp only [List.map_toArray, List.map_cons, List.map_nil]); first | done | rfl | (simp only [List.length_drop, List.length_take]; rfl)) ?_; (with_reducible refine (laws_toFigure.calls a0_0 a0_1 _ _ l0_2 _ _ l0_3 false t232 t233 t234 t237 _ ?side1 ?side2 ?side3 ?side4 A23.out).mono ?_); (case side1 => repeat (first | exact (Kd.C_below HR0_2.out HB.out) | (with_reducible refine Kd.C_alloc ?_ _) | (with_reducible refine Kd.C_drewN ?_ _) | (with_reducible refine Kd.C_drew ?_))); (case side2 => exact HC0_2.out); (case side3 => repeat (first | exact (Kd.C_below HR0_3.out HB.out) | (with_reducible refine Kd.C_alloc ?_ _) | (with_reducible refine Kd.C_drewN ?_ _) | (with_reducible refine Kd.C_drew ?_))); (case side4 => exact HC0_3.out); rintro e w43 ⟨v235, v238, rfl, ho0, ho1, hb⟩; refine ⟨_, rfl, ?_⟩; have n0_ := Aside0.mk (Kd.PB_mono (Kd.PB_told (Kd.PB_told (Kd.PB_old (by (with_reducible repeat (first | apply Kd.PB_alloc | apply Kd.PB_drewN | apply Kd.PB_drew)); exact HO218.out) hb) (Kd.PB_base ho0)) (Kd.PB_base ho1)) (fun _ h_ => h_.1)); have n1_ := Aside0.mk (Kd.PB_mono (Kd.PB_told (Kd.PB_told (Kd.PB_old (by (with_reducible repeat (first | apply Kd.PB_alloc | apply Kd.PB_drewN | apply Kd.PB_drew)); exact HO221.out) hb) (Kd.PB_base ho0)) (Kd.PB_base ho1)) (fun _ h_ => h_.1)); have n2_ := Aside0.mk (Kd.PB_mono (Kd.PB_told (Kd.PB_told (Kd.PB_old (by (with_reducible repeat (first | apply Kd.PB_alloc | apply Kd.PB_drewN | apply Kd.PB_drew)); exact HO226.out) hb) (Kd.PB_base ho0)) (Kd.PB_base ho1)) (fun _ h_ => h_.1)); have n3_ := Aside0.mk (Kd.PB_mono (Kd.PB_told (Kd.PB_told (Kd.PB_old (by (with_reducible repeat (first | apply Kd.PB_alloc | apply Kd.PB_drewN | apply Kd.PB_drew)); exact HO229.out) hb) (Kd.PB_base ho0)) (Kd.PB_base ho1)) (fun _ h_ => h_.1)); have n4_ := Aside0.mk (Kd.PB_lower (Kd.PB_new' (Kd.PB_new' (Kd.PB_new' (Kd.PB_new' ho0 (Kd.PB_lt (by (with_reducible repeat (first | apply Kd.PB_alloc | apply Kd.PB_drewN | apply Kd.PB_drew)); exact HO218.out))) (Kd.PB_lt (by (with_reducible repeat (first | apply Kd.PB_alloc | apply Kd.PB_drewN | apply Kd.PB_drew)); exact HO221.out))) (Kd.PB_lt (by (with_reducible repeat (first | apply Kd.PB_alloc | apply Kd.PB_drewN | apply Kd.PB_drew)); exact HO226.out))) (Kd.PB_lt (by (with_reducible repeat (first | apply Kd.PB_alloc | apply Kd.PB_drewN | apply Kd.PB_drew)); exact HO229.out))) (below_size (by repeat (first | (with_reducible first | exact HB.out | apply below_alloc | apply pw_below_drewN | apply below_drew1 | refine below_set ?_ GE210.out | refine below_set ?_ GE211.out) | exact HB.out)))); have n5_ := Aside0.mk (Kd.PB_lower (Kd.PB_new' (Kd.PB_new' (Kd.PB_new' (Kd.PB_new' ho1 (Kd.PB_lt (by (with_reducible repeat (first | apply Kd.PB_alloc | apply Kd.PB_drewN | apply Kd.PB_drew)); exact HO218.out))) (Kd.PB_lt (by (with_reducible repeat (first | apply Kd.PB_alloc | apply Kd.PB_drewN | apply Kd.PB_drew)); exact HO221.out))) (Kd.PB_lt (by (with_reducible repeat (first | apply Kd.PB_alloc | apply Kd.PB_drewN | apply Kd.PB_drew)); exact HO226.out))) (Kd.PB_lt (by (with_reducible repeat (first | apply Kd.PB_alloc | apply Kd.PB_drewN | apply Kd.PB_drew)); exact HO229.out))) (below_size (by repeat (first | (with_reducible first | exact HB.out | apply below_alloc | apply pw_below_drewN | apply below_drew1 | refine below_set ?_ GE210.out | refine below_set ?_ GE211.out) | exact HB.out)))); have n6_ := Aside0.mk (blk_below (g := gb210) (o := .cells #[.int .i64 a0_0, .int .i64 a0_1, .slice A0_2 l0_2.length c0_2, .slice A0_3 l0_3.length c0_3] 24 (0, 0)) (by (with_reducible repeat (first | refine blk_drewN ?_ _ | refine blk_drew ?_ | refine blk_alloc ?_ _)); exact BK210.out) hb); have n7_ := Aside0.mk (blk_below (g := gb211) (o := .cells #[.int .i64 a1_0, .int .i64 a1_1, .slice A1_2 l1_2.length c1_2, .slice A1_3 l1_3.length c1_3] 24 (0, 0)) (by (with_reducible repeat (first | refine blk_drewN ?_ _ | refine blk_drew ?_ | refine blk_alloc ?_ _)); exact BK211.out) hb); have n8_ := Aside0.mk (below_step (by repeat (first | (with_reducible first | exact HB.out | apply below_alloc | apply pw_below_drewN | apply below_drew1 | refine below_set ?_ GE210.out | refine below_set ?_ GE211.out) | exact HB.out)) hb); clear HO218; clear HO221; clear HO226; clear HO229; clear BK210; clear BK211; clear HB; have HO218 := n0_; have HO221 := n1_; have HO226 := n2_; have HO229 := n3_; have HO236 := n4_; have HO239 := n5_; have BK210 := n6_; have BK211 := n7_; have HB := n8_; clear n0_ n1_ n2_ n3_ n4_ n5_ n6_ n7_ n8_; (try clear hb); (try clear hb2); (try clear hk); (try clear hi); (try clear ho0); (try clear ho1)) | ((with_reducible refine gate_dst (N := 10) rfl ?_); refine box_event ?hg (N := 10) ?hd (cs := #[.int .i64 0, .int .i64 0, .slice none 0 0, .slice none 0 0]) (t := 28) ?hr ?_; (case hd => rfl); (case hg => rfl); (case hr => first | (go_simp; done) | (go_simp; rfl)); intro gb240 hg w44 hbox hb; have n0_ := Aside0.mk (Kd.PB_below (by (with_reducible repeat (first | apply Kd.PB_alloc | apply Kd.PB_drewN | apply Kd.PB_drew)); exact HO218.out) hb); have n1_ := Aside0.mk (Kd.PB_below (by (with_reducible repeat (first | apply Kd.PB_alloc | apply Kd.PB_drewN | apply Kd.PB_drew)); exact HO221.out) hb); have n2_ := Aside0.mk (Kd.PB_below (by (with_reducible repeat (first | apply Kd.PB_alloc | apply Kd.PB_drewN | apply Kd.PB_drew)); exact HO226.out) hb); have n3_ := Aside0.mk (Kd.PB_below (by (with_reducible repeat (first | apply Kd.PB_alloc | apply Kd.PB_drewN | apply Kd.PB_drew)); exact HO229.out) hb); have n4_ := Aside0.mk (Kd.PB_below (by (with_reducible repeat (first | apply Kd.PB_alloc | apply Kd.PB_drewN | apply Kd.PB_drew)); exact HO236.out) hb); have n5_ := Aside0.mk (Kd.PB_below (by (with_reducible repeat (first | apply Kd.PB_alloc | apply Kd.PB_drewN | apply Kd.PB_drew)); exact HO239.out) hb); have n6_ := Aside0.mk (blk_below (g := gb210) (o := .cells #[.int .i64 a0_0, .int .i64 a0_1, .slice A0_2 l0_2.length c0_2, .slice A0_3 l0_3.length c0_3] 24 (0, 0)) (by (with_reducible repeat (first | refine blk_drewN ?_ _ | refine blk_drew ?_ | refine blk_alloc ?_ _)); exact BK210.out) hb); have n7_ := Aside0.mk (blk_below (g := gb211) (o := .cells #[.int .i64 a1_0, .int .i64 a1_1, .slice A1_2 l1_2.length c1_2, .slice A1_3 l1_3.length c1_3] 24 (0, 0)) (by (with_reducible repeat (first | refine blk_drewN ?_ _ | refine blk_drew ?_ | refine blk_alloc ?_ _)); exact BK211.out) hb); have n8_ := Aside0.mk (below_step (by repeat (first | (with_reducible first | exact HB.out | apply below_alloc | apply pw_below_drewN | apply below_drew1 | refine below_set ?_ GE210.out | refine below_set ?_ GE211.out) | exact HB.out)) hb); have n9_ := Aside0.mk (hbox); have n10_ := Aside0.mk ((by rw [hg]; exact (below_size (by repeat (first | (with_reducible first | exact HB.out | apply below_alloc | apply pw_below_drewN | apply below_drew1 | refine below_set ?_ GE210.out | refine below_set ?_ GE211.out) | exact HB.out))) : w.heap.size ≤ gb240)); have n11_ := Aside0.mk ((by rw [hg]; exact (below_size (by repeat (first | (with_reducible first | exact HB.out | apply below_alloc | apply pw_below_drewN | apply below_drew1 | refine below_set ?_ GE210.out | refine below_set ?_ GE211.out) | exact HB.out))) : w.heap.size ≤ gb240)); have n12_ := Aside0.mk ((by rw [hg]; exact Nat.ne_of_lt (blk_lt (g := gb210) (o := .cells #[.int .i64 a0_0, .int .i64 a0_1, .slice A0_2 l0_2.length c0_2, .slice A0_3 l0_3.length c0_3] 24 (0, 0)) (by (with_reducible repeat (first | refine blk_drewN ?_ _ | refine blk_drew ?_ | refine blk_alloc ?_ _)); exact BK210.out)) : gb210 ≠ gb240)); have n13_ := Aside0.mk ((by rw [hg]; exact Nat.ne_of_gt (blk_lt (g := gb210) (o := .cells #[.int .i64 a0_0, .int .i64 a0_1, .slice A0_2 l0_2.length c0_2, .slice A0_3 l0_3.length c0_3] 24 (0, 0)) (by (with_reducible repeat (first | refine blk_drewN ?_ _ | refine blk_drew ?_ | refine blk_alloc ?_ _)); exact BK210.out)) : gb240 ≠ gb210)); have n14_ := Aside0.mk ((by rw [hg]; exact Nat.ne_of_lt (blk_lt (g := gb211) (o := .cells #[.int .i64 a1_0, .int .i64 a1_1, .slice A1_2 l1_2.length c1_2, .slice A1_3 l1_3.length c1_3] 24 (0, 0)) (by (with_reducible repeat (first | refine blk_drewN ?_ _ | refine blk_drew ?_ | refine blk_alloc ?_ _)); exact BK211.out)) : gb211 ≠ gb240)); have n15_ := Aside0.mk ((by rw [hg]; exact Nat.ne_of_gt (blk_lt (g := gb211) (o := .cells #[.int .i64 a1_0, .int .i64 a1_1, .slice A1_2 l1_2.length c1_2, .slice A1_3 l1_3.length c1_3] 24 (0, 0)) (by (with_reducible repeat (first | refine blk_drewN ?_ _ | refine blk_drew ?_ | refine blk_alloc ?_ _)); exact BK211.out)) : gb240 ≠ gb211)); clear HO218; clear HO221; clear HO226; clear HO229; clear HO236; clear HO239; clear BK210; clear BK211; clear HB; have HO218 := n0_; have HO221 := n1_; have HO226 := n2_; have HO229 := n3_; have HO236 := n4_; have HO239 := n5_; have BK210 := n6_; have BK211 := n7_; have HB := n8_; have BK240 := n9_; have GW240 := n10_; have GE240 := n11_; have NB210_240 := n12_; have NB240_210 := n13_; have NB211_240 := n14_; have NB240_211 := n15_; clear n0_ n1_ n2_ n3_ n4_ n5_ n6_ n7_ n8_ n9_ n10_ n11_ n12_ n13_ n14_ n15_; clear hb hbox hg; have hnb45 := NB240_210.out; have hnc45 := NB210_240.out; have hnb46 := NB240_211.out; have hnc46 := NB211_240.out; have hcz47_0 : w44.cell? ⟨gb240, 0, none⟩ = some (.int .i64 0) := (blk_cell BK240.out 0).trans rfl; have hcz47_1 : w44.cell? ⟨gb240, 1, none⟩ = some (.int .i64 0) := (blk_cell BK240.out 1).trans rfl; have hcz47_2 : w44.cell? ⟨gb240, 2, none⟩ = some (.slice none 0 0) := (blk_cell BK240.out 2).trans rfl; have hcz47_3 : w44.cell? ⟨gb240, 3, none⟩ = some (.slice none 0 0) := (blk_cell BK240.out 3).trans rfl; have hfz47_0 := blk_frozen BK240.out 0; have hfz47_1 := blk_frozen BK240.out 1; have hfz47_2 := blk_frozen BK240.out 2; have hfz47_3 := blk_frozen BK240.out 3; obtain ⟨Ao48, co48, eo48⟩ := Kd.PB_slice HO236.out; subst eo48; obtain ⟨Ao49, co49, eo49⟩ := Kd.PB_slice HO239.out; subst eo49; have hcz50_0 : w44.cell? ⟨gb211, 0, none⟩ = some (.int .i64 a1_0) := (blk_cell BK211.out 0).trans rfl; have hcz50_1 : w44.cell? ⟨gb211, 1, none⟩ = some (.int .i64 a1_1) := (blk_cell BK211.out 1).trans rfl; have hcz50_2 : w44.cell? ⟨gb211, 2, none⟩ = some (.slice A1_2 l1_2.length c1_2) := (blk_cell BK211.out 2).trans rfl; have hcz50_3 : w44.cell? ⟨gb211, 3, none⟩ = some (.slice A1_3 l1_3.length c1_3) := (blk_cell BK211.out 3).trans rfl; have hfz50_0 := blk_frozen BK211.out 0; have hfz50_1 := blk_frozen BK211.out 1; have hfz50_2 := blk_frozen BK211.out 2; have hfz50_3 := blk_frozen BK211.out 3) | ((with_reducible refine gate_callee (f := 8) rfl ?_); refine goesL_ (some 38) rfl rfl Try.func8 (by kernel_rfl) rfl #[.agg #[.int .i64 a1_0, .int .i64 a1_1, .slice A1_2 l1_2.length c1_2, .slice A1_3 l1_3.length c1_3], .bool false] rfl (by (try simp only [List.map_toArray, List.map_cons, List.map_nil]); first | done | rfl | (simp only [List.length_drop, List.length_take]; rfl)) ?_; (with_reducible refine (laws_toFigure.calls a1_0 a1_1 _ _ l1_2 _ _ l1_3 false t241 t242 t243 t246 _ ?side1 ?side2 ?side3 ?side4 A24.out).mono ?_); (case side1 => exact Kd.C_below HR1_2.out (by repeat (first | (with_reducible first | exact HB.out | apply below_alloc | apply pw_below_drewN | apply below_drew1 | refine below_set ?_ GE210.out | refine below_set ?_ GE211.out | refine below_set ?_ GE240.out) | exact HB.out))); (case side2 => exact HC1_2.out); (case side3 => exact Kd.C_below HR1_3.out (by repeat (first | (with_reducible first | exact HB.out | apply below_alloc | apply pw_below_drewN | apply below_drew1 | refine below_set ?_ GE210.out | refine below_set ?_ GE211.out | refine below_set ?_ GE240.out) | exact HB.out))); (case side4 => exact HC1_3.out); rintro e w51 ⟨v244, v247, rfl, ho0, ho1, hb⟩; refine ⟨_, rfl, ?_⟩; have n0_ := Aside0.mk (Kd.PB_mono (Kd.PB_told (Kd.PB_told (Kd.PB_old (by (with_reducible repeat (first | apply Kd.PB_alloc | apply Kd.PB_drewN | apply Kd.PB_drew)); exact (Kd.PB_mono (Kd.PB_far (p := ⟨gb240, 3, none⟩) (Kd.PB_far (p := ⟨gb240, 2, none⟩) (Kd.PB_far (p := ⟨gb240, 1, none⟩) (Kd.PB_far (p := ⟨gb240, 0, none⟩) (Kd.PB_types HO218.out BK240.out (by decide)) (fun _ hk => hk.2) (.int .i64 t232)) (fun _ hk => hk.2) (.int .i64 t233)) (fun _ hk => hk.2) (.slice Ao48 t234.length co48)) (fun _ hk => hk.2) (.slice Ao49 t237.length co49)) (fun _ h_ => h_.1))) hb) (Kd.PB_base ho0)) (Kd.PB_base ho1)) (fun _ h_ => h_.1)); have n1_ := Aside0.mk (Kd.PB_mono (Kd.PB_told (Kd.PB_told (Kd.PB_old (by (with_reducible repeat (first | apply Kd.PB_alloc | apply Kd.PB_drewN | apply Kd.PB_drew)); exact (Kd.PB_mono (Kd.PB_far (p := ⟨gb240, 3, none⟩) (Kd.PB_far (p := ⟨gb240, 2, none⟩) (Kd.PB_far (p := ⟨gb240, 1, none⟩) (Kd.PB_far (p := ⟨gb240, 0, none⟩) (Kd.PB_types HO221.out BK240.out (by decide)) (fun _ hk => hk.2) (.int .i64 t232)) (fun _ hk => hk.2) (.int .i64 t233)) (fun _ hk => hk.2) (.slice Ao48 t234.length co48)) (fun _ hk => hk.2) (.slice Ao49 t237.length co49)) (fun _ h_ => h_.1))) hb) (Kd.PB_base ho0)) (Kd.PB_base ho1)) (fun _ h_ => h_.1)); have n2_ := Aside0.mk (Kd.PB_mono (Kd.PB_told (Kd.PB_told (Kd.PB_old (by (with_reducible repeat (first | apply Kd.PB_alloc | apply Kd.PB_drewN | apply Kd.PB_drew)); exact (Kd.PB_mono (Kd.PB_far (p := ⟨gb240, 3, none⟩) (Kd.PB_far (p := ⟨gb240, 2, none⟩) (Kd.PB_far (p := ⟨gb240, 1, none⟩) (Kd.PB_far (p := ⟨gb240, 0, none⟩) (Kd.PB_types HO226.out BK240.out (by decide)) (fun _ hk => hk.2) (.int .i64 t232)) (fun _ hk => hk.2) (.int .i64 t233)) (fun _ hk => hk.2) (.slice Ao48 t234.length co48)) (fun _ hk => hk.2) (.slice Ao49 t237.length co49)) (fun _ h_ => h_.1))) hb) (Kd.PB_base ho0)) (Kd.PB_base ho1)) (fun _ h_ => h_.1)); have n3_ := Aside0.mk (Kd.PB_mono (Kd.PB_told (Kd.PB_told (Kd.PB_old (by (with_reducible repeat (first | apply Kd.PB_alloc | apply Kd.PB_drewN | apply Kd.PB_drew)); exact (Kd.PB_mono (Kd.PB_far (p := ⟨gb240, 3, none⟩) (Kd.PB_far (p := ⟨gb240, 2, none⟩) (Kd.PB_far (p := ⟨gb240, 1, none⟩) (Kd.PB_far (p := ⟨gb240, 0, none⟩) (Kd.PB_types HO229.out BK240.out (by decide)) (fun _ hk => hk.2) (.int .i64 t232)) (fun _ hk => hk.2) (.int .i64 t233)) (fun _ hk => hk.2) (.slice Ao48 t234.length co48)) (fun _ hk => hk.2) (.slice Ao49 t237.length co49)) (fun _ h_ => h_.1))) hb) (Kd.PB_base ho0)) (Kd.PB_base ho1)) (fun _ h_ => h_.1)); have n4_ := Aside0.mk (Kd.PB_mono (Kd.PB_told (Kd.PB_told (Kd.PB_old (by (with_reducible repeat (first | apply Kd.PB_alloc | apply Kd.PB_drewN | apply Kd.PB_drew)); exact (Kd.PB_mono (Kd.PB_far (p := ⟨gb240, 3, none⟩) (Kd.PB_far (p := ⟨gb240, 2, none⟩) (Kd.PB_far (p := ⟨gb240, 1, none⟩) (Kd.PB_far (p := ⟨gb240, 0, none⟩) (Kd.PB_types HO236.out BK240.out (by decide)) (fun _ hk => hk.2) (.int .i64 t232)) (fun _ hk => hk.2) (.int .i64 t233)) (fun _ hk => hk.2) (.slice Ao48 t234.length co48)) (fun _ hk => hk.2) (.slice Ao49 t237.length co49)) (fun _ h_ => h_.1))) hb) (Kd.PB_base ho0)) (Kd.PB_base ho1)) (fun _ h_ => h_.1)); have n5_ := Aside0.mk (Kd.PB_mono (Kd.PB_told (Kd.PB_told (Kd.PB_old (by (with_reducible repeat (first | apply Kd.PB_alloc | apply Kd.PB_drewN | apply Kd.PB_drew)); exact (Kd.PB_mono (Kd.PB_far (p := ⟨gb240, 3, none⟩) (Kd.PB_far (p := ⟨gb240, 2, none⟩) (Kd.PB_far (p := ⟨gb240, 1, none⟩) (Kd.PB_far (p := ⟨gb240, 0, none⟩) (Kd.PB_types HO239.out BK240.out (by decide)) (fun _ hk => hk.2) (.int .i64 t232)) (fun _ hk => hk.2) (.int .i64 t233)) (fun _ hk => hk.2) (.slice Ao48 t234.length co48)) (fun _ hk => hk.2) (.slice Ao49 t237.length co49)) (fun _ h_ => h_.1))) hb) (Kd.PB_base ho0)) (Kd.PB_base ho1)) (fun _ h_ => h_.1)); have n6_ := Aside0.mk (Kd.PB_lower (Kd.PB_new' (Kd.PB_new' (Kd.PB_new' (Kd.PB_new' (Kd.PB_new' (Kd.PB_new' ho0 (Kd.PB_lt (by (with_reducible repeat (first | apply Kd.PB_alloc | apply Kd.PB_drewN | apply Kd.PB_drew)); exact (Kd.PB_mono (Kd.PB_far (p := ⟨gb240, 3, none⟩) (Kd.PB_far (p := ⟨gb240, 2, none⟩) (Kd.PB_far (p := ⟨gb240, 1, none⟩) (Kd.PB_far (p := ⟨gb240, 0, none⟩) (Kd.PB_types HO218.out BK240.out (by decide)) (fun _ hk => hk.2) (.int .i64 t232)) (fun _ hk => hk.2) (.int .i64 t233)) (fun _ hk => hk.2) (.slice Ao48 t234.length co48)) (fun _ hk => hk.2) (.slice Ao49 t237.length co49)) (fun _ h_ => h_.1))))) (Kd.PB_lt (by (with_reducible repeat (first | apply Kd.PB_alloc | apply Kd.PB_drewN | apply Kd.PB_drew)); exact (Kd.PB_mono (Kd.PB_far (p := ⟨gb240, 3, none⟩) (Kd.PB_far (p := ⟨gb240, 2, none⟩) (Kd.PB_far (p := ⟨gb240, 1, none⟩) (Kd.PB_far (p := ⟨gb240, 0, none⟩) (Kd.PB_types HO221.out BK240.out (by decide)) (fun _ hk => hk.2) (.int .i64 t232)) (fun _ hk => hk.2) (.int .i64 t233)) (fun _ hk => hk.2) (.slice Ao48 t234.length co48)) (fun _ hk => hk.2) (.slice Ao49 t237.length co49)) (fun _ h_ => h_.1))))) (Kd.PB_lt (by (with_reducible repeat (first | apply Kd.PB_alloc | apply Kd.PB_drewN | apply Kd.PB_drew)); exact (Kd.PB_mono (Kd.PB_far (p := ⟨gb240, 3, none⟩) (Kd.PB_far (p := ⟨gb240, 2, none⟩) (Kd.PB_far (p := ⟨gb240, 1, none⟩) (Kd.PB_far (p := ⟨gb240, 0, none⟩) (Kd.PB_types HO226.out BK240.out (by decide)) (fun _ hk => hk.2) (.int .i64 t232)) (fun _ hk => hk.2) (.int .i64 t233)) (fun _ hk => hk.2) (.slice Ao48 t234.length co48)) (fun _ hk => hk.2) (.slice Ao49 t237.length co49)) (fun _ h_ => h_.1))))) (Kd.PB_lt (by (with_reducible repeat (first | apply Kd.PB_alloc | apply Kd.PB_drewN | apply Kd.PB_drew)); exact (Kd.PB_mono (Kd.PB_far (p := ⟨gb240, 3, none⟩) (Kd.PB_far (p := ⟨gb240, 2, none⟩) (Kd.PB_far (p := ⟨gb240, 1, none⟩) (Kd.PB_far (p := ⟨gb240, 0, none⟩) (Kd.PB_types HO229.out BK240.out (by decide)) (fun _ hk => hk.2) (.int .i64 t232)) (fun _ hk => hk.2) (.int .i64 t233)) (fun _ hk => hk.2) (.slice Ao48 t234.length co48)) (fun _ hk => hk.2) (.slice Ao49 t237.length co49)) (fun _ h_ => h_.1))))) (Kd.PB_lt (by (with_reducible repeat (first | apply Kd.PB_alloc | apply Kd.PB_drewN | apply Kd.PB_drew)); exact (Kd.PB_mono (Kd.PB_far (p := ⟨gb240, 3, none⟩) (Kd.PB_far (p := ⟨gb240, 2, none⟩) (Kd.PB_far (p := ⟨gb240, 1, none⟩) (Kd.PB_far (p := ⟨gb240, 0, none⟩) (Kd.PB_types HO236.out BK240.out (by decide)) (fun _ hk => hk.2) (.int .i64 t232)) (fun _ hk => hk.2) (.int .i64 t233)) (fun _ hk => hk.2) (.slice Ao48 t234.length co48)) (fun _ hk => hk.2) (.slice Ao49 t237.length co49)) (fun _ h_ => h_.1))))) (Kd.PB_lt (by (with_reducible repeat (first | apply Kd.PB_alloc | apply Kd.PB_drewN | apply Kd.PB_drew)); exact (Kd.PB_mono (Kd.PB_far (p := ⟨gb240, 3, none⟩) (Kd.PB_far (p := ⟨gb240, 2, none⟩) (Kd.PB_far (p := ⟨gb240, 1, none⟩) (Kd.PB_far (p := ⟨gb240, 0, none⟩) (Kd.PB_types HO239.out BK240.out (by decide)) (fun _ hk => hk.2) (.int .i64 t232)) (fun _ hk => hk.2) (.int .i64 t233)) (fun _ hk => hk.2) (.slice Ao48 t234.length co48)) (fun _ hk => hk.2) (.slice Ao49 t237.length co49)) (fun _ h_ => h_.1))))) (below_size (by repeat (first | (with_reducible first | exact HB.out | apply below_alloc | apply pw_below_drewN | apply below_drew1 | refine below_set ?_ GE210.out | refine below_set ?_ GE211.out | refine below_set ?_ GE240.out) | exact HB.out)))); have n7_ := Aside0.mk (Kd.PB_lower (Kd.PB_new' (Kd.PB_new' (Kd.PB_new' (Kd.PB_new' (Kd.PB_new' (Kd.PB_new' ho1 (Kd.PB_lt (by (with_reducible repeat (first | apply Kd.PB_alloc | apply Kd.PB_drewN | apply Kd.PB_drew)); exact (Kd.PB_mono (Kd.PB_far (p := ⟨gb240, 3, none⟩) (Kd.PB_far (p := ⟨gb240, 2, none⟩) (Kd.PB_far (p := ⟨gb240, 1, none⟩) (Kd.PB_far (p := ⟨gb240, 0, none⟩) (Kd.PB_types HO218.out BK240.out (by decide)) (fun _ hk => hk.2) (.int .i64 t232)) (fun _ hk => hk.2) (.int .i64 t233)) (fun _ hk => hk.2) (.slice Ao48 t234.length co48)) (fun _ hk => hk.2) (.slice Ao49 t237.length co49)) (fun _ h_ => h_.1))))) (Kd.PB_lt (by (with_reducible repeat (first | apply Kd.PB_alloc | apply Kd.PB_drewN | apply Kd.PB_drew)); exact (Kd.PB_mono (Kd.PB_far (p := ⟨gb240, 3, none⟩) (Kd.PB_far (p := ⟨gb240, 2, none⟩) (Kd.PB_far (p := ⟨gb240, 1, none⟩) (Kd.PB_far (p := ⟨gb240, 0, none⟩) (Kd.PB_types HO221.out BK240.out (by decide)) (fun _ hk => hk.2) (.int .i64 t232)) (fun _ hk => hk.2) (.int .i64 t233)) (fun _ hk => hk.2) (.slice Ao48 t234.length co48)) (fun _ hk => hk.2) (.slice Ao49 t237.length co49)) (fun _ h_ => h_.1))))) (Kd.PB_lt (by (with_reducible repeat (first | apply Kd.PB_alloc | apply Kd.PB_drewN | apply Kd.PB_drew)); exact (Kd.PB_mono (Kd.PB_far (p := ⟨gb240, 3, none⟩) (Kd.PB_far (p := ⟨gb240, 2, none⟩) (Kd.PB_far (p := ⟨gb240, 1, none⟩) (Kd.PB_far (p := ⟨gb240, 0, none⟩) (Kd.PB_types HO226.out BK240.out (by decide)) (fun _ hk => hk.2) (.int .i64 t232)) (fun _ hk => hk.2) (.int .i64 t233)) (fun _ hk => hk.2) (.slice Ao48 t234.length co48)) (fun _ hk => hk.2) (.slice Ao49 t237.length co49)) (fun _ h_ => h_.1))))) (Kd.PB_lt (by (with_reducible repeat (first | apply Kd.PB_alloc | apply Kd.PB_drewN | apply Kd.PB_drew)); exact (Kd.PB_mono (Kd.PB_far (p := ⟨gb240, 3, none⟩) (Kd.PB_far (p := ⟨gb240, 2, none⟩) (Kd.PB_far (p := ⟨gb240, 1, none⟩) (Kd.PB_far (p := ⟨gb240, 0, none⟩) (Kd.PB_types HO229.out BK240.out (by decide)) (fun _ hk => hk.2) (.int .i64 t232)) (fun _ hk => hk.2) (.int .i64 t233)) (fun _ hk => hk.2) (.slice Ao48 t234.length co48)) (fun _ hk => hk.2) (.slice Ao49 t237.length co49)) (fun _ h_ => h_.1))))) (Kd.PB_lt (by (with_reducible repeat (first | apply Kd.PB_alloc | apply Kd.PB_drewN | apply Kd.PB_drew)); exact (Kd.PB_mono (Kd.PB_far (p := ⟨gb240, 3, none⟩) (Kd.PB_far (p := ⟨gb240, 2, none⟩) (Kd.PB_far (p := ⟨gb240, 1, none⟩) (Kd.PB_far (p := ⟨gb240, 0, none⟩) (Kd.PB_types HO236.out BK240.out (by decide)) (fun _ hk => hk.2) (.int .i64 t232)) (fun _ hk => hk.2) (.int .i64 t233)) (fun _ hk => hk.2) (.slice Ao48 t234.length co48)) (fun _ hk => hk.2) (.slice Ao49 t237.length co49)) (fun _ h_ => h_.1))))) (Kd.PB_lt (by (with_reducible repeat (first | apply Kd.PB_alloc | apply Kd.PB_drewN | apply Kd.PB_drew)); exact (Kd.PB_mono (Kd.PB_far (p := ⟨gb240, 3, none⟩) (Kd.PB_far (p := ⟨gb240, 2, none⟩) (Kd.PB_far (p := ⟨gb240, 1, none⟩) (Kd.PB_far (p := ⟨gb240, 0, none⟩) (Kd.PB_types HO239.out BK240.out (by decide)) (fun _ hk => hk.2) (.int .i64 t232)) (fun _ hk => hk.2) (.int .i64 t233)) (fun _ hk => hk.2) (.slice Ao48 t234.length co48)) (fun _ hk => hk.2) (.slice Ao49 t237.length co49)) (fun _ h_ => h_.1))))) (below_size (by repeat (first | (with_reducible first | exact HB.out | apply below_alloc | apply pw_below_drewN | apply below_drew1 | refine below_set ?_ GE210.out | refine below_set ?_ GE211.out | refine below_set ?_ GE240.out) | exact HB.out)))); have n8_ := Aside0.mk (blk_below (g := gb210) (o := .cells #[.int .i64 a0_0, .int .i64 a0_1, .slice A0_2 l0_2.length c0_2, .slice A0_3 l0_3.length c0_3] 24 (0, 0)) (by (with_reducible repeat (first | refine blk_drewN ?_ _ | refine blk_drew ?_ | refine blk_alloc ?_ _)); refine blk_far ?_ NB210_240.out _; (with_reducible repeat (first | refine blk_drewN ?_ _ | refine blk_drew ?_ | refine blk_alloc ?_ _)); refine blk_far ?_ NB210_240.out _; (with_reducible repeat (first | refine blk_drewN ?_ _ | refine blk_drew ?_ | refine blk_alloc ?_ _)); refine blk_far ?_ NB210_240.out _; (with_reducible repeat (first | refine blk_drewN ?_ _ | refine blk_drew ?_ | refine blk_alloc ?_ _)); refine blk_far ?_ NB210_240.out _; (with_reducible repeat (first | refine blk_drewN ?_ _ | refine blk_drew ?_ | refine blk_alloc ?_ _)); exact BK210.out) hb); have n9_ := Aside0.mk (blk_below (g := gb211) (o := .cells #[.int .i64 a1_0, .int .i64 a1_1, .slice A1_2 l1_2.length c1_2, .slice A1_3 l1_3.length c1_3] 24 (0, 0)) (by (with_reducible repeat (first | refine blk_drewN ?_ _ | refine blk_drew ?_ | refine blk_alloc ?_ _)); refine blk_far ?_ NB211_240.out _; (with_reducible repeat (first | refine blk_drewN ?_ _ | refine blk_drew ?_ | refine blk_alloc ?_ _)); refine blk_far ?_ NB211_240.out _; (with_reducible repeat (first | refine blk_drewN ?_ _ | refine blk_drew ?_ | refine blk_alloc ?_ _)); refine blk_far ?_ NB211_240.out _; (with_reducible repeat (first | refine blk_drewN ?_ _ | refine blk_drew ?_ | refine blk_alloc ?_ _)); refine blk_far ?_ NB211_240.out _; (with_reducible repeat (first | refine blk_drewN ?_ _ | refine blk_drew ?_ | refine blk_alloc ?_ _)); exact BK211.out) hb); have n10_ := Aside0.mk (blk_below (g := gb240) (o := .cells #[.int .i64 t232, .int .i64 t233, .slice Ao48 t234.length co48, .slice Ao49 t237.length co49] 28 (0, 0)) (by (with_reducible repeat (first | refine blk_drewN ?_ _ | refine blk_drew ?_ | refine blk_alloc ?_ _)); refine blk_put (cs := #[.int .i64 t232, .int .i64 t233, .slice Ao48 t234.length co48, .slice none 0 0]) ?_ 3 _ rfl; (with_reducible repeat (first | refine blk_drewN ?_ _ | refine blk_drew ?_ | refine blk_alloc ?_ _)); refine blk_put (cs := #[.int .i64 t232, .int .i64 t233, .slice none 0 0, .slice none 0 0]) ?_ 2 _ rfl; (with_reducible repeat (first | refine blk_drewN ?_ _ | refine blk_drew ?_ | refine blk_alloc ?_ _)); refine blk_put (cs := #[.int .i64 t232, .int .i64 0, .slice none 0 0, .slice none 0 0]) ?_ 1 _ rfl; (with_reducible repeat (first | refine blk_drewN ?_ _ | refine blk_drew ?_ | refine blk_alloc ?_ _)); refine blk_put (cs := #[.int .i64 0, .int .i64 0, .slice none 0 0, .slice none 0 0]) ?_ 0 _ rfl; (with_reducible repeat (first | refine blk_drewN ?_ _ | refine blk_drew ?_ | refine blk_alloc ?_ _)); exact BK240.out) hb); have n11_ := Aside0.mk (below_step (by repeat (first | (with_reducible first | exact HB.out | apply below_alloc | apply pw_below_drewN | apply below_drew1 | refine below_set ?_ GE210.out | refine below_set ?_ GE211.out | refine below_set ?_ GE240.out) | exact HB.out)) hb); clear HO218; clear HO221; clear HO226; clear HO229; clear HO236; clear HO239; clear BK210; clear BK211; clear BK240; clear HB; have HO218 := n0_; have HO221 := n1_; have HO226 := n2_; have HO229 := n3_; have HO236 := n4_; have HO239 := n5_; have HO245 := n6_; have HO248 := n7_; have BK210 := n8_; have BK211 := n9_; have BK240 := n10_; have HB := n11_; clear n0_ n1_ n2_ n3_ n4_ n5_ n6_ n7_ n8_ n9_ n10_ n11_; (try clear hb); (try clear hb2); (try clear hk); (try clear hi); (try clear ho0); (try clear ho1)) | ((with_reducible refine gate_dst (N := 11) rfl ?_); refine box_event ?hg (N := 11) ?hd (cs := #[.int .i64 0, .int .i64 0, .slice none 0 0, .slice none 0 0]) (t := 28) ?hr ?_; (case hd => rfl); (case hg => rfl); (case hr => first | (go_simp; done) | (go_simp; rfl)); intro gb249 hg w52 hbox hb; have n0_ := Aside0.mk (Kd.PB_below (by (with_reducible repeat (first | apply Kd.PB_alloc | apply Kd.PB_drewN | apply Kd.PB_drew)); exact HO218.out) hb); have n1_ := Aside0.mk (Kd.PB_below (by (with_reducible repeat (first | apply Kd.PB_alloc | apply Kd.PB_drewN | apply Kd.PB_drew)); exact HO221.out) hb); have n2_ := Aside0.mk (Kd.PB_below (by (with_reducible repeat (first | apply Kd.PB_alloc | apply Kd.PB_drewN | apply Kd.PB_drew)); exact HO226.out) hb); have n3_ := Aside0.mk (Kd.PB_below (by (with_reducible repeat (first | apply Kd.PB_alloc | apply Kd.PB_drewN | apply Kd.PB_drew)); exact HO229.out) hb); have n4_ := Aside0.mk (Kd.PB_below (by (with_reducible repeat (first | apply Kd.PB_alloc | apply Kd.PB_drewN | apply Kd.PB_drew)); exact HO236.out) hb); have n5_ := Aside0.mk (Kd.PB_below (by (with_reducible repeat (first | apply Kd.PB_alloc | apply Kd.PB_drewN | apply Kd.PB_drew)); exact HO239.out) hb); have n6_ := Aside0.mk (Kd.PB_below (by (with_reducible repeat (first | apply Kd.PB_alloc | apply Kd.PB_drewN | apply Kd.PB_drew)); exact HO245.out) hb); have n7_ := Aside0.mk (Kd.PB_below (by (with_reducible repeat (first | apply Kd.PB_alloc | apply Kd.PB_drewN | apply Kd.PB_drew)); exact HO248.out) hb); have n8_ := Aside0.mk (blk_below (g := gb210) (o := .cells #[.int .i64 a0_0, .int .i64 a0_1, .slice A0_2 l0_2.length c0_2, .slice A0_3 l0_3.length c0_3] 24 (0, 0)) (by (with_reducible repeat (first | refine blk_drewN ?_ _ | refine blk_drew ?_ | refine blk_alloc ?_ _)); exact BK210.out) hb); have n9_ := Aside0.mk (blk_below (g := gb211) (o := .cells #[.int .i64 a1_0, .int .i64 a1_1, .slice A1_2 l1_2.length c1_2, .slice A1_3 l1_3.length c1_3] 24 (0, 0)) (by (with_reducible repeat (first | refine blk_drewN ?_ _ | refine blk_drew ?_ | refine blk_alloc ?_ _)); exact BK211.out) hb); have n10_ := Aside0.mk (blk_below (g := gb240) (o := .cells #[.int .i64 t232, .int .i64 t233, .slice Ao48 t234.length co48, .slice Ao49 t237.length co49] 28 (0, 0)) (by (with_reducible repeat (first | refine blk_drewN ?_ _ | refine blk_drew ?_ | refine blk_alloc ?_ _)); exact BK240.out) hb); have n11_ := Aside0.mk (below_step (by repeat (first | (with_reducible first | exact HB.out | apply below_alloc | apply pw_below_drewN | apply below_drew1 | refine below_set ?_ GE210.out | refine below_set ?_ GE211.out | refine below_set ?_ GE240.out) | exact HB.out)) hb); have n12_ := Aside0.mk (hbox); have n13_ := Aside0.mk ((by rw [hg]; exact (below_size (by repeat (first | (with_reducible first | exact HB.out | apply below_alloc | apply pw_below_drewN | apply below_drew1 | refine below_set ?_ GE210.out | refine below_set ?_ GE211.out | refine below_set ?_ GE240.out) | exact HB.out))) : w.heap.size ≤ gb249)); have n14_ := Aside0.mk ((by rw [hg]; exact (below_size (by repeat (first | (with_reducible first | exact HB.out | apply below_alloc | apply pw_below_drewN | apply below_drew1 | refine below_set ?_ GE210.out | refine below_set ?_ GE211.out | refine below_set ?_ GE240.out) | exact HB.out))) : w.heap.size ≤ gb249)); have n15_ := Aside0.mk ((by rw [hg]; exact Nat.ne_of_lt (blk_lt (g := gb210) (o := .cells #[.int .i64 a0_0, .int .i64 a0_1, .slice A0_2 l0_2.length c0_2, .slice A0_3 l0_3.length c0_3] 24 (0, 0)) (by (with_reducible repeat (first | refine blk_drewN ?_ _ | refine blk_drew ?_ | refine blk_alloc ?_ _)); exact BK210.out)) : gb210 ≠ gb249)); have n16_ := Aside0.mk ((by rw [hg]; exact Nat.ne_of_gt (blk_lt (g := gb210) (o := .cells #[.int .i64 a0_0, .int .i64 a0_1, .slice A0_2 l0_2.length c0_2, .slice A0_3 l0_3.length c0_3] 24 (0, 0)) (by (with_reducible repeat (first | refine blk_drewN ?_ _ | refine blk_drew ?_ | refine blk_alloc ?_ _)); exact BK210.out)) : gb249 ≠ gb210)); have n17_ := Aside0.mk ((by rw [hg]; exact Nat.ne_of_lt (blk_lt (g := gb211) (o := .cells #[.int .i64 a1_0, .int .i64 a1_1, .slice A1_2 l1_2.length c1_2, .slice A1_3 l1_3.length c1_3] 24 (0, 0)) (by (with_reducible repeat (first | refine blk_drewN ?_ _ | refine blk_drew ?_ | refine blk_alloc ?_ _)); exact BK211.out)) : gb211 ≠ gb249)); have n18_ := Aside0.mk ((by rw [hg]; exact Nat.ne_of_gt (blk_lt (g := gb211) (o := .cells #[.int .i64 a1_0, .int .i64 a1_1, .slice A1_2 l1_2.length c1_2, .slice A1_3 l1_3.length c1_3] 24 (0, 0)) (by (with_reducible repeat (first | refine blk_drewN ?_ _ | refine blk_drew ?_ | refine blk_alloc ?_ _)); exact BK211.out)) : gb249 ≠ gb211)); have n19_ := Aside0.mk ((by rw [hg]; exact Nat.ne_of_lt (blk_lt (g := gb240) (o := .cells #[.int .i64 t232, .int .i64 t233, .slice Ao48 t234.length co48, .slice Ao49 t237.length co49] 28 (0, 0)) (by (with_reducible repeat (first | refine blk_drewN ?_ _ | refine blk_drew ?_ | refine blk_alloc ?_ _)); exact BK240.out)) : gb240 ≠ gb249)); have n20_ := Aside0.mk ((by rw [hg]; exact Nat.ne_of_gt (blk_lt (g := gb240) (o := .cells #[.int .i64 t232, .int .i64 t233, .slice Ao48 t234.length co48, .slice Ao49 t237.length co49] 28 (0, 0)) (by (with_reducible repeat (first | refine blk_drewN ?_ _ | refine blk_drew ?_ | refine blk_alloc ?_ _)); exact BK240.out)) : gb249 ≠ gb240)); clear HO218; clear HO221; clear HO226; clear HO229; clear HO236; clear HO239; clear HO245; clear HO248; clear BK210; clear BK211; clear BK240; clear HB; have HO218 := n0_; have HO221 := n1_; have HO226 := n2_; have HO229 := n3_; have HO236 := n4_; have HO239 := n5_; have HO245 := n6_; have HO248 := n7_; have BK210 := n8_; have BK211 := n9_; have BK240 := n10_; have HB := n11_; have BK249 := n12_; have GW249 := n13_; have GE249 := n14_; have NB210_249 := n15_; have NB249_210 := n16_; have NB211_249 := n17_; have NB249_211 := n18_; have NB240_249 := n19_; have NB249_240 := n20_; clear n0_ n1_ n2_ n3_ n4_ n5_ n6_ n7_ n8_ n9_ n10_ n11_ n12_ n13_ n14_ n15_ n16_ n17_ n18_ n19_ n20_; clear hb hbox hg; have hnb53 := NB249_210.out; have hnc53 := NB210_249.out; have hnb54 := NB249_211.out; have hnc54 := NB211_249.out; have hnb55 := NB249_240.out; have hnc55 := NB240_249.out; have hcz56_0 : w52.cell? ⟨gb249, 0, none⟩ = some (.int .i64 0) := (blk_cell BK249.out 0).trans rfl; have hcz56_1 : w52.cell? ⟨gb249, 1, none⟩ = some (.int .i64 0) := (blk_cell BK249.out 1).trans rfl; have hcz56_2 : w52.cell? ⟨gb249, 2, none⟩ = some (.slice none 0 0) := (blk_cell BK249.out 2).trans rfl; have hcz56_3 : w52.cell? ⟨gb249, 3, none⟩ = some (.slice none 0 0) := (blk_cell BK249.out 3).trans rfl; have hfz56_0 := blk_frozen BK249.out 0; have hfz56_1 := blk_frozen BK249.out 1; have hfz56_2 := blk_frozen BK249.out 2; have hfz56_3 := blk_frozen BK249.out 3; obtain ⟨Ao57, co57, eo57⟩ := Kd.PB_slice HO245.out; subst eo57; obtain ⟨Ao58, co58, eo58⟩ := Kd.PB_slice HO248.out; subst eo58; have hcz59_0 : w52.cell? ⟨gb240, 0, none⟩ = some (.int .i64 t232) := (blk_cell BK240.out 0).trans rfl; have hcz59_1 : w52.cell? ⟨gb240, 1, none⟩ = some (.int .i64 t233) := (blk_cell BK240.out 1).trans rfl; have hcz59_2 : w52.cell? ⟨gb240, 2, none⟩ = some (.slice Ao48 t234.length co48) := (blk_cell BK240.out 2).trans rfl; have hcz59_3 : w52.cell? ⟨gb240, 3, none⟩ = some (.slice Ao49 t237.length co49) := (blk_cell BK240.out 3).trans rfl; have hfz59_0 := blk_frozen BK240.out 0; have hfz59_1 := blk_frozen BK240.out 1; have hfz59_2 := blk_frozen BK240.out 2; have hfz59_3 := blk_frozen BK240.out 3) | ((with_reducible refine gate_callee (f := 12) rfl ?_); refine goesL_ (some 43) rfl rfl Try.func12 (by kernel_rfl) rfl #[.agg #[.int .i64 t232, .int .i64 t233, .slice Ao48 t234.length co48, .slice Ao49 t237.length co49], .agg #[.int .i64 t241, .int .i64 t242, .slice Ao57 t243.length co57, .slice Ao58 t246.length co58], .int .i64 a2] rfl (by (try simp only [List.map_toArray, List.map_cons, List.map_nil]); first | done | rfl | (simp only [List.length_drop, List.length_take]; rfl)) ?_; (with_reducible refine (impl_IsMoveOf.calls k t232 t233 _ _ t234 _ _ t237 t241 t242 _ _ t243 _ _ t246 a2 t250 t251 _ ?side1 ?side2 ?side3 ?side4 ?side5 ?side6 ?side7 ?side8 A25.out).mono ?_); (case side1 => refine (Kd.PB_reads' (b := false) (e := 3) (base := w.heap.size) (ok := fun k_ => ((((((some k_ ≠ (.slice Ao49 t237.length co49 : Value).ownBlock ∧ some k_ ≠ (.slice Ao37 t216.length co37 : Value).ownBlock) ∧ some k_ ≠ (.slice Ao38 t219.length co38 : Value).ownBlock) ∧ some k_ ≠ (.slice Ao39 t224.length co39 : Value).ownBlock) ∧ some k_ ≠ (.slice Ao40 t227.length co40 : Value).ownBlock) ∧ some k_ ≠ (.slice Ao57 t243.length co57 : Value).ownBlock) ∧ some k_ ≠ (.slice Ao58 t246.length co58 : Value).ownBlock)) (n := t234.length) (c := co48) ?_).2.2; exact (by (with_reducible repeat (first | apply Kd.PB_alloc | apply Kd.PB_drewN | apply Kd.PB_drew)); exact (Kd.PB_mono (Kd.PB_far (p := ⟨gb249, 3, none⟩) (Kd.PB_far (p := ⟨gb249, 2, none⟩) (Kd.PB_far (p := ⟨gb249, 1, none⟩) (Kd.PB_far (p := ⟨gb249, 0, none⟩) (Kd.PB_types HO236.out BK249.out (by decide)) (fun _ hk => hk.2) (.int .i64 t241)) (fun _ hk => hk.2) (.int .i64 t242)) (fun _ hk => hk.2) (.slice Ao57 t243.length co57)) (fun _ hk => hk.2) (.slice Ao58 t246.length co58)) (fun _ h_ => h_.1)))); (case side2 => exact (Kd.PB_reads' HO236.out).2.1); (case side3 => refine (Kd.PB_reads' (b := false) (e := 3) (base := w.heap.size) (ok := fun k_ => ((((((some k_ ≠ (.slice Ao48 t234.length co48 : Value).ownBlock ∧ some k_ ≠ (.slice Ao37 t216.length co37 : Value).ownBlock) ∧ some k_ ≠ (.slice Ao38 t219.length co38 : Value).ownBlock) ∧ some k_ ≠ (.slice Ao39 t224.length co39 : Value).ownBlock) ∧ some k_ ≠ (.slice Ao40 t227.length co40 : Value).ownBlock) ∧ some k_ ≠ (.slice Ao57 t243.length co57 : Value).ownBlock) ∧ some k_ ≠ (.slice Ao58 t246.length co58 : Value).ownBlock)) (n := t237.length) (c := co49) ?_).2.2; exact (by (with_reducible repeat (first | apply Kd.PB_alloc | apply Kd.PB_drewN | apply Kd.PB_drew)); exact (Kd.PB_mono (Kd.PB_far (p := ⟨gb249, 3, none⟩) (Kd.PB_far (p := ⟨gb249, 2, none⟩) (Kd.PB_far (p := ⟨gb249, 1, none⟩) (Kd.PB_far (p := ⟨gb249, 0, none⟩) (Kd.PB_types HO239.out BK249.out (by decide)) (fun _ hk => hk.2) (.int .i64 t241)) (fun _ hk => hk.2) (.int .i64 t242)) (fun _ hk => hk.2) (.slice Ao57 t243.length co57)) (fun _ hk => hk.2) (.slice Ao58 t246.length co58)) (fun _ h_ => h_.1)))); (case side4 => exact (Kd.PB_reads' HO239.out).2.1); (case side5 => refine (Kd.PB_reads' (b := false) (e := 3) (base := w.heap.size) (ok := fun k_ => ((((((some k_ ≠ (.slice Ao58 t246.length co58 : Value).ownBlock ∧ some k_ ≠ (.slice Ao37 t216.length co37 : Value).ownBlock) ∧ some k_ ≠ (.slice Ao38 t219.length co38 : Value).ownBlock) ∧ some k_ ≠ (.slice Ao39 t224.length co39 : Value).ownBlock) ∧ some k_ ≠ (.slice Ao40 t227.length co40 : Value).ownBlock) ∧ some k_ ≠ (.slice Ao48 t234.length co48 : Value).ownBlock) ∧ some k_ ≠ (.slice Ao49 t237.length co49 : Value).ownBlock)) (n := t243.length) (c := co57) ?_).2.2; exact (by (with_reducible repeat (first | apply Kd.PB_alloc | apply Kd.PB_drewN | apply Kd.PB_drew)); exact (Kd.PB_mono (Kd.PB_far (p := ⟨gb249, 3, none⟩) (Kd.PB_far (p := ⟨gb249, 2, none⟩) (Kd.PB_far (p := ⟨gb249, 1, none⟩) (Kd.PB_far (p := ⟨gb249, 0, none⟩) (Kd.PB_types HO245.out BK249.out (by decide)) (fun _ hk => hk.2) (.int .i64 t241)) (fun _ hk => hk.2) (.int .i64 t242)) (fun _ hk => hk.2) (.slice Ao57 t243.length co57)) (fun _ hk => hk.2) (.slice Ao58 t246.length co58)) (fun _ h_ => h_.1)))); (case side6 => exact (Kd.PB_reads' HO245.out).2.1); (case side7 => refine (Kd.PB_reads' (b := false) (e := 3) (base := w.heap.size) (ok := fun k_ => ((((((some k_ ≠ (.slice Ao57 t243.length co57 : Value).ownBlock ∧ some k_ ≠ (.slice Ao37 t216.length co37 : Value).ownBlock) ∧ some k_ ≠ (.slice Ao38 t219.length co38 : Value).ownBlock) ∧ some k_ ≠ (.slice Ao39 t224.length co39 : Value).ownBlock) ∧ some k_ ≠ (.slice Ao40 t227.length co40 : Value).ownBlock) ∧ some k_ ≠ (.slice Ao48 t234.length co48 : Value).ownBlock) ∧ some k_ ≠ (.slice Ao49 t237.length co49 : Value).ownBlock)) (n := t246.length) (c := co58) ?_).2.2; exact (by (with_reducible repeat (first | apply Kd.PB_alloc | apply Kd.PB_drewN | apply Kd.PB_drew)); exact (Kd.PB_mono (Kd.PB_far (p := ⟨gb249, 3, none⟩) (Kd.PB_far (p := ⟨gb249, 2, none⟩) (Kd.PB_far (p := ⟨gb249, 1, none⟩) (Kd.PB_far (p := ⟨gb249, 0, none⟩) (Kd.PB_types HO248.out BK249.out (by decide)) (fun _ hk => hk.2) (.int .i64 t241)) (fun _ hk => hk.2) (.int .i64 t242)) (fun _ hk => hk.2) (.slice Ao57 t243.length co57)) (fun _ hk => hk.2) (.slice Ao58 t246.length co58)) (fun _ h_ => h_.1)))); (case side8 => exact (Kd.PB_reads' HO248.out).2.1); rintro e w60 ⟨rfl, hb⟩; refine ⟨_, rfl, ?_⟩; have n0_ := Aside0.mk (Kd.PB_below (by (with_reducible repeat (first | apply Kd.PB_alloc | apply Kd.PB_drewN | apply Kd.PB_drew)); exact (Kd.PB_mono (Kd.PB_far (p := ⟨gb249, 3, none⟩) (Kd.PB_far (p := ⟨gb249, 2, none⟩) (Kd.PB_far (p := ⟨gb249, 1, none⟩) (Kd.PB_far (p := ⟨gb249, 0, none⟩) (Kd.PB_types HO218.out BK249.out (by decide)) (fun _ hk => hk.2) (.int .i64 t241)) (fun _ hk => hk.2) (.int .i64 t242)) (fun _ hk => hk.2) (.slice Ao57 t243.length co57)) (fun _ hk => hk.2) (.slice Ao58 t246.length co58)) (fun _ h_ => h_.1))) hb); have n1_ := Aside0.mk (Kd.PB_below (by (with_reducible repeat (first | apply Kd.PB_alloc | apply Kd.PB_drewN | apply Kd.PB_drew)); exact (Kd.PB_mono (Kd.PB_far (p := ⟨gb249, 3, none⟩) (Kd.PB_far (p := ⟨gb249, 2, none⟩) (Kd.PB_far (p := ⟨gb249, 1, none⟩) (Kd.PB_far (p := ⟨gb249, 0, none⟩) (Kd.PB_types HO221.out BK249.out (by decide)) (fun _ hk => hk.2) (.int .i64 t241)) (fun _ hk => hk.2) (.int .i64 t242)) (fun _ hk => hk.2) (.slice Ao57 t243.length co57)) (fun _ hk => hk.2) (.slice Ao58 t246.length co58)) (fun _ h_ => h_.1))) hb); have n2_ := Aside0.mk (Kd.PB_below (by (with_reducible repeat (first | apply Kd.PB_alloc | apply Kd.PB_drewN | apply Kd.PB_drew)); exact (Kd.PB_mono (Kd.PB_far (p := ⟨gb249, 3, none⟩) (Kd.PB_far (p := ⟨gb249, 2, none⟩) (Kd.PB_far (p := ⟨gb249, 1, none⟩) (Kd.PB_far (p := ⟨gb249, 0, none⟩) (Kd.PB_types HO226.out BK249.out (by decide)) (fun _ hk => hk.2) (.int .i64 t241)) (fun _ hk => hk.2) (.int .i64 t242)) (fun _ hk => hk.2) (.slice Ao57 t243.length co57)) (fun _ hk => hk.2) (.slice Ao58 t246.length co58)) (fun _ h_ => h_.1))) hb); have n3_ := Aside0.mk (Kd.PB_below (by (with_reducible repeat (first | apply Kd.PB_alloc | apply Kd.PB_drewN | apply Kd.PB_drew)); exact (Kd.PB_mono (Kd.PB_far (p := ⟨gb249, 3, none⟩) (Kd.PB_far (p := ⟨gb249, 2, none⟩) (Kd.PB_far (p := ⟨gb249, 1, none⟩) (Kd.PB_far (p := ⟨gb249, 0, none⟩) (Kd.PB_types HO229.out BK249.out (by decide)) (fun _ hk => hk.2) (.int .i64 t241)) (fun _ hk => hk.2) (.int .i64 t242)) (fun _ hk => hk.2) (.slice Ao57 t243.length co57)) (fun _ hk => hk.2) (.slice Ao58 t246.length co58)) (fun _ h_ => h_.1))) hb); have n4_ := Aside0.mk (Kd.PB_below (by (with_reducible repeat (first | apply Kd.PB_alloc | apply Kd.PB_drewN | apply Kd.PB_drew)); exact (Kd.PB_mono (Kd.PB_far (p := ⟨gb249, 3, none⟩) (Kd.PB_far (p := ⟨gb249, 2, none⟩) (Kd.PB_far (p := ⟨gb249, 1, none⟩) (Kd.PB_far (p := ⟨gb249, 0, none⟩) (Kd.PB_types HO236.out BK249.out (by decide)) (fun _ hk => hk.2) (.int .i64 t241)) (fun _ hk => hk.2) (.int .i64 t242)) (fun _ hk => hk.2) (.slice Ao57 t243.length co57)) (fun _ hk => hk.2) (.slice Ao58 t246.length co58)) (fun _ h_ => h_.1))) hb); have n5_ := Aside0.mk (Kd.PB_below (by (with_reducible repeat (first | apply Kd.PB_alloc | apply Kd.PB_drewN | apply Kd.PB_drew)); exact (Kd.PB_mono (Kd.PB_far (p := ⟨gb249, 3, none⟩) (Kd.PB_far (p := ⟨gb249, 2, none⟩) (Kd.PB_far (p := ⟨gb249, 1, none⟩) (Kd.PB_far (p := ⟨gb249, 0, none⟩) (Kd.PB_types HO239.out BK249.out (by decide)) (fun _ hk => hk.2) (.int .i64 t241)) (fun _ hk => hk.2) (.int .i64 t242)) (fun _ hk => hk.2) (.slice Ao57 t243.length co57)) (fun _ hk => hk.2) (.slice Ao58 t246.length co58)) (fun _ h_ => h_.1))) hb); have n6_ := Aside0.mk (Kd.PB_below (by (with_reducible repeat (first | apply Kd.PB_alloc | apply Kd.PB_drewN | apply Kd.PB_drew)); exact (Kd.PB_mono (Kd.PB_far (p := ⟨gb249, 3, none⟩) (Kd.PB_far (p := ⟨gb249, 2, none⟩) (Kd.PB_far (p := ⟨gb249, 1, none⟩) (Kd.PB_far (p := ⟨gb249, 0, none⟩) (Kd.PB_types HO245.out BK249.out (by decide)) (fun _ hk => hk.2) (.int .i64 t241)) (fun _ hk => hk.2) (.int .i64 t242)) (fun _ hk => hk.2) (.slice Ao57 t243.length co57)) (fun _ hk => hk.2) (.slice Ao58 t246.length co58)) (fun _ h_ => h_.1))) hb); have n7_ := Aside0.mk (Kd.PB_below (by (with_reducible repeat (first | apply Kd.PB_alloc | apply Kd.PB_drewN | apply Kd.PB_drew)); exact (Kd.PB_mono (Kd.PB_far (p := ⟨gb249, 3, none⟩) (Kd.PB_far (p := ⟨gb249, 2, none⟩) (Kd.PB_far (p := ⟨gb249, 1, none⟩) (Kd.PB_far (p := ⟨gb249, 0, none⟩) (Kd.PB_types HO248.out BK249.out (by decide)) (fun _ hk => hk.2) (.int .i64 t241)) (fun _ hk => hk.2) (.int .i64 t242)) (fun _ hk => hk.2) (.slice Ao57 t243.length co57)) (fun _ hk => hk.2) (.slice Ao58 t246.length co58)) (fun _ h_ => h_.1))) hb); have n8_ := Aside0.mk (blk_below (g := gb210) (o := .cells #[.int .i64 a0_0, .int .i64 a0_1, .slice A0_2 l0_2.length c0_2, .slice A0_3 l0_3.length c0_3] 24 (0, 0)) (by (with_reducible repeat (first | refine blk_drewN ?_ _ | refine blk_drew ?_ | refine blk_alloc ?_ _)); refine blk_far ?_ NB210_249.out _; (with_reducible repeat (first | refine blk_drewN ?_ _ | refine blk_drew ?_ | refine blk_alloc ?_ _)); refine blk_far ?_ NB210_249.out _; (with_reducible repeat (first | refine blk_drewN ?_ _ | refine blk_drew ?_ | refine blk_alloc ?_ _)); refine blk_far ?_ NB210_249.out _; (with_reducible repeat (first | refine blk_drewN ?_ _ | refine blk_drew ?_ | refine blk_alloc ?_ _)); refine blk_far ?_ NB210_249.out _; (with_reducible repeat (first | refine blk_drewN ?_ _ | refine blk_drew ?_ | refine blk_alloc ?_ _)); exact BK210.out) hb); have n9_ := Aside0.mk (blk_below (g := gb211) (o := .cells #[.int .i64 a1_0, .int .i64 a1_1, .slice A1_2 l1_2.length c1_2, .slice A1_3 l1_3.length c1_3] 24 (0, 0)) (by (with_reducible repeat (first | refine blk_drewN ?_ _ | refine blk_drew ?_ | refine blk_alloc ?_ _)); refine blk_far ?_ NB211_249.out _; (with_reducible repeat (first | refine blk_drewN ?_ _ | refine blk_drew ?_ | refine blk_alloc ?_ _)); refine blk_far ?_ NB211_249.out _; (with_reducible repeat (first | refine blk_drewN ?_ _ | refine blk_drew ?_ | refine blk_alloc ?_ _)); refine blk_far ?_ NB211_249.out _; (with_reducible repeat (first | refine blk_drewN ?_ _ | refine blk_drew ?_ | refine blk_alloc ?_ _)); refine blk_far ?_ NB211_249.out _; (with_reducible repeat (first | refine blk_drewN ?_ _ | refine blk_drew ?_ | refine blk_alloc ?_ _)); exact BK211.out) hb); have n10_ := Aside0.mk (blk_below (g := gb240) (o := .cells #[.int .i64 t232, .int .i64 t233, .slice Ao48 t234.length co48, .slice Ao49 t237.length co49] 28 (0, 0)) (by (with_reducible repeat (first | refine blk_drewN ?_ _ | refine blk_drew ?_ | refine blk_alloc ?_ _)); refine blk_far ?_ NB240_249.out _; (with_reducible repeat (first | refine blk_drewN ?_ _ | refine blk_drew ?_ | refine blk_alloc ?_ _)); refine blk_far ?_ NB240_249.out _; (with_reducible repeat (first | refine blk_drewN ?_ _ | refine blk_drew ?_ | refine blk_alloc ?_ _)); refine blk_far ?_ NB240_249.out _; (with_reducible repeat (first | refine blk_drewN ?_ _ | refine blk_drew ?_ | refine blk_alloc ?_ _)); refine blk_far ?_ NB240_249.out _; (with_reducible repeat (first | refine blk_drewN ?_ _ | refine blk_drew ?_ | refine blk_alloc ?_ _)); exact BK240.out) hb); have n11_ := Aside0.mk (blk_below (g := gb249) (o := .cells #[.int .i64 t241, .int .i64 t242, .slice Ao57 t243.length co57, .slice Ao58 t246.length co58] 28 (0, 0)) (by (with_reducible repeat (first | refine blk_drewN ?_ _ | refine blk_drew ?_ | refine blk_alloc ?_ _)); refine blk_put (cs := #[.int .i64 t241, .int .i64 t242, .slice Ao57 t243.length co57, .slice none 0 0]) ?_ 3 _ rfl; (with_reducible repeat (first | refine blk_drewN ?_ _ | refine blk_drew ?_ | refine blk_alloc ?_ _)); refine blk_put (cs := #[.int .i64 t241, .int .i64 t242, .slice none 0 0, .slice none 0 0]) ?_ 2 _ rfl; (with_reducible repeat (first | refine blk_drewN ?_ _ | refine blk_drew ?_ | refine blk_alloc ?_ _)); refine blk_put (cs := #[.int .i64 t241, .int .i64 0, .slice none 0 0, .slice none 0 0]) ?_ 1 _ rfl; (with_reducible repeat (first | refine blk_drewN ?_ _ | refine blk_drew ?_ | refine blk_alloc ?_ _)); refine blk_put (cs := #[.int .i64 0, .int .i64 0, .slice none 0 0, .slice none 0 0]) ?_ 0 _ rfl; (with_reducible repeat (first | refine blk_drewN ?_ _ | refine blk_drew ?_ | refine blk_alloc ?_ _)); exact BK249.out) hb); have n12_ := Aside0.mk (below_step (by repeat (first | (with_reducible first | exact HB.out | apply below_alloc | apply pw_below_drewN | apply below_drew1 | refine below_set ?_ GE210.out | refine below_set ?_ GE211.out | refine below_set ?_ GE240.out | refine below_set ?_ GE249.out) | exact HB.out)) hb); clear HO218; clear HO221; clear HO226; clear HO229; clear HO236; clear HO239; clear HO245; clear HO248; clear BK210; clear BK211; clear BK240; clear BK249; clear HB; have HO218 := n0_; have HO221 := n1_; have HO226 := n2_; have HO229 := n3_; have HO236 := n4_; have HO239 := n5_; have HO245 := n6_; have HO248 := n7_; have BK210 := n8_; have BK211 := n9_; have BK240 := n10_; have BK249 := n11_; have HB := n12_; clear n0_ n1_ n2_ n3_ n4_ n5_ n6_ n7_ n8_ n9_ n10_ n11_ n12_; (try clear hb); (try clear hb2); (try clear hk); (try clear hi)))
   (try simp only [Act.put, List.setIfInBounds_toArray, List.set_cons_zero, List.set_cons_succ])
   go_cut [53] (fun v53 wc => ∃ (kq : Nat) (x53_25 : Bool), v53 = .bool x53_25 ∧ Aside0 (laws_FnExactIsMoveOf.j0 kq a2 t230 t231 x53_25 a0_0 a0_1 l0_2 l0_3 a1_0 a1_1 l1_2 l1_3 t232 t233 t234 t237 t241 t242 t243 t246 = some r) ∧ Aside0 (kq ≤ k) ∧ Aside0 (Kd.PB false (Kd.int .i64) 3 wc w.heap.size (fun k_ => some k_ ≠ ((.slice Ao49 t237.length co49) : Value).ownBlock ∧ some k_ ≠ ((.slice Ao57 t243.length co57) : Value).ownBlock ∧ some k_ ≠ ((.slice Ao58 t246.length co58) : Value).ownBlock) (.slice Ao48 t234.length co48) t234) ∧ Aside0 (Kd.PB false (Kd.int .i64) 3 wc w.heap.size (fun k_ => some k_ ≠ ((.slice Ao48 t234.length co48) : Value).ownBlock ∧ some k_ ≠ ((.slice Ao57 t243.length co57) : Value).ownBlock ∧ some k_ ≠ ((.slice Ao58 t246.length co58) : Value).ownBlock) (.slice Ao49 t237.length co49) t237) ∧ Aside0 (Kd.PB false (Kd.int .i64) 3 wc w.heap.size (fun k_ => some k_ ≠ ((.slice Ao48 t234.length co48) : Value).ownBlock ∧ some k_ ≠ ((.slice Ao49 t237.length co49) : Value).ownBlock ∧ some k_ ≠ ((.slice Ao58 t246.length co58) : Value).ownBlock) (.slice Ao57 t243.length co57) t243) ∧ Aside0 (Kd.PB false (Kd.int .i64) 3 wc w.heap.size (fun k_ => some k_ ≠ ((.slice Ao48 t234.length co48) : Value).ownBlock ∧ some k_ ≠ ((.slice Ao49 t237.length co49) : Value).ownBlock ∧ some k_ ≠ ((.slice Ao57 t243.length co57) : Value).ownBlock) (.slice Ao58 t246.length co58) t246) ∧ Aside0 (wc.heap[gb210]? = some (.cells #[.int .i64 a0_0, .int .i64 a0_1, (.slice A0_2 l0_2.length c0_2), (.slice A0_3 l0_3.length c0_3)] 24 (0, 0))) ∧ Aside0 (wc.heap[gb211]? = some (.cells #[.int .i64 a1_0, .int .i64 a1_1, (.slice A1_2 l1_2.length c1_2), (.slice A1_3 l1_3.length c1_3)] 24 (0, 0))) ∧ Aside0 (wc.heap[gb240]? = some (.cells #[.int .i64 t232, .int .i64 t233, (.slice Ao48 t234.length co48), (.slice Ao49 t237.length co49)] 28 (0, 0))) ∧ Aside0 (wc.heap[gb249]? = some (.cells #[.int .i64 t241, .int .i64 t242, (.slice Ao57 t243.length co57), (.slice Ao58 t246.length co58)] 28 (0, 0))) ∧ Aside0 (Below w.heap.size w wc))
   case first =>
    have H := HC26.out
    clear HC26
    by_cases c61 : (t250 != t230) = true
    ·rw [if_pos c61] at H
     have c61b0 : (t250 != t230) = true := c61
     (try (have c61b1 : decide (t250 = t230) = false := by simpa using c61))
     (try (have c61b2 : (t250 == t230) = false := by simpa using c61))
     (try (have c61b3 : ¬ (t250 = t230) := by simpa using c61))
     clear c61
     (first | rw [c61b0] | (simp only [i64_w, i32_w]; rw [c61b0]) | skip)
     exact absurd HR_.out (by cases k <;> simp [laws_FnExactIsMoveOf.j0] at H <;> first | simp [← H] | simp [H] | simp_all)
    ·rw [if_neg c61] at H
     have c61b0 : (t250 != t230) = false := by simpa using c61
     (try (have c61b1 : decide (t250 = t230) = true := by simpa using c61))
     (try (have c61b2 : (t250 == t230) = true := by simpa using c61))
     clear c61
     (first | rw [c61b0] | (simp only [i64_w, i32_w]; rw [c61b0]) | skip)
     have H' := Aside0.mk H
     clear H
     go_wp2
     go_meet
     case rel => exact ⟨_, ((t251 != t231)), (by first | rfl | (simp; done) | (simp [*]; done)), H', ⟨by first | omega | exact Nat.le_refl _⟩, ⟨by (with_reducible repeat (first | apply Kd.PB_alloc | apply Kd.PB_drewN | apply Kd.PB_drew)); exact Kd.PB_mono HO236.out (fun _ hk => ⟨hk.1.1.1.1.1.1, ⟨hk.1.2, hk.2⟩⟩)⟩, ⟨by (with_reducible repeat (first | apply Kd.PB_alloc | apply Kd.PB_drewN | apply Kd.PB_drew)); exact Kd.PB_mono HO239.out (fun _ hk => ⟨hk.1.1.1.1.1.1, ⟨hk.1.2, hk.2⟩⟩)⟩, ⟨by (with_reducible repeat (first | apply Kd.PB_alloc | apply Kd.PB_drewN | apply Kd.PB_drew)); exact Kd.PB_mono HO245.out (fun _ hk => ⟨hk.1.2, ⟨hk.2, hk.1.1.1.1.1.1⟩⟩)⟩, ⟨by (with_reducible repeat (first | apply Kd.PB_alloc | apply Kd.PB_drewN | apply Kd.PB_drew)); exact Kd.PB_mono HO248.out (fun _ hk => ⟨hk.1.2, ⟨hk.2, hk.1.1.1.1.1.1⟩⟩)⟩, ⟨by (with_reducible repeat (first | refine blk_drewN ?_ _ | refine blk_drew ?_ | refine blk_alloc ?_ _)); exact BK210.out⟩, ⟨by (with_reducible repeat (first | refine blk_drewN ?_ _ | refine blk_drew ?_ | refine blk_alloc ?_ _)); exact BK211.out⟩, ⟨by (with_reducible repeat (first | refine blk_drewN ?_ _ | refine blk_drew ?_ | refine blk_alloc ?_ _)); exact BK240.out⟩, ⟨by (with_reducible repeat (first | refine blk_drewN ?_ _ | refine blk_drew ?_ | refine blk_alloc ?_ _)); exact BK249.out⟩, ⟨by repeat (first | (with_reducible first | exact HB.out | apply below_alloc | apply pw_below_drewN | apply below_drew1 | refine below_set ?_ GE210.out | refine below_set ?_ GE211.out | refine below_set ?_ GE240.out | refine below_set ?_ GE249.out) | exact HB.out)⟩⟩
   case rest =>
    clear HC26
    try clear c1
    try clear c2
    try clear p2
    try clear c4
    try clear c5
    try clear c5b0
    try clear c6
    try clear c8
    try clear c11
    try clear c12
    try clear c12b0
    try clear c15
    try clear c29
    try clear c45
    try clear c46
    try clear c53
    try clear c54
    try clear c55
    try clear c61
    try clear c61b0
    try clear c61b1
    try clear c61b2
    try clear hcz16_0
    try clear hcz16_1
    try clear hcz16_2
    try clear hcz16_3
    try clear hcz18_0
    try clear hcz18_1
    try clear hcz18_2
    try clear hcz18_3
    try clear hcz30_0
    try clear hcz30_1
    try clear hcz30_2
    try clear hcz30_3
    try clear hcz32_0
    try clear hcz32_1
    try clear hcz32_2
    try clear hcz32_3
    try clear hcz42_0
    try clear hcz42_1
    try clear hcz42_2
    try clear hcz42_3
    try clear hcz47_0
    try clear hcz47_1
    try clear hcz47_2
    try clear hcz47_3
    try clear hcz50_0
    try clear hcz50_1
    try clear hcz50_2
    try clear hcz50_3
    try clear hcz56_0
    try clear hcz56_1
    try clear hcz56_2
    try clear hcz56_3
    try clear hcz59_0
    try clear hcz59_1
    try clear hcz59_2
    try clear hcz59_3
    try clear hcz9_0
    try clear hcz9_1
    try clear hcz9_2
    try clear hcz9_3
    try clear hfz16_0
    try clear hfz16_1
    try clear hfz16_2
    try clear hfz16_3
    try clear hfz18_0
    try clear hfz18_1
    try clear hfz18_2
    try clear hfz18_3
    try clear hfz30_0
    try clear hfz30_1
    try clear hfz30_2
    try clear hfz30_3
    try clear hfz32_0
    try clear hfz32_1
    try clear hfz32_2
    try clear hfz32_3
    try clear hfz42_0
    try clear hfz42_1
    try clear hfz42_2
    try clear hfz42_3
    try clear hfz47_0
    try clear hfz47_1
    try clear hfz47_2
    try clear hfz47_3
    try clear hfz50_0
    try clear hfz50_1
    try clear hfz50_2
    try clear hfz50_3
    try clear hfz56_0
    try clear hfz56_1
    try clear hfz56_2
    try clear hfz56_3
    try clear hfz59_0
    try clear hfz59_1
    try clear hfz59_2
    try clear hfz59_3
    try clear hfz9_0
    try clear hfz9_1
    try clear hfz9_2
    try clear hfz9_3
    obtain ⟨kq, x53_25, rfl, HA, HJ25, HO_241002, HO_241003, HO_250002, HO_250003, BK210, BK211, BK240, BK249, HB⟩ := hcut
    cases kq with
    | zero => exact absurd HA.out (by simp [laws_FnExactIsMoveOf.j0])
    | succ kj25 =>
     have H := HA.out
     clear HA
     simp only [laws_FnExactIsMoveOf.j0] at H
     by_cases c62 : x53_25 = true
     ·subst c62
      have H1 : (some false) = some r := by rw [if_pos rfl] at H; exact H
      clear H
      have H := H1
      clear H1
      exact absurd ((Option.some.inj H).trans HR_.out) Bool.false_ne_true
     ·replace c62 := Bool.eq_false_iff.mpr c62
      subst c62
      have H1 : ((laws_toFigure.f a0_0 a0_1 l0_2 l0_3 false).bind fun bt252 => ((laws_intactFigure.f t232 t233 t234 t237 bt252.1 bt252.2.1 bt252.2.2.1 bt252.2.2.2).bind fun t260 => (if t260 = true then ((laws_toFigure.f a1_0 a1_1 l1_2 l1_3 false).bind fun bt261 => ((laws_intactFigure.f t241 t242 t243 t246 bt261.1 bt261.2.1 bt261.2.2.1 bt261.2.2.2).bind fun t269 => (if t269 = true then ((laws_toFigure.f a0_0 a0_1 l0_2 l0_3 true).bind fun bt270 => ((laws_toFigure.f a1_0 a1_1 l1_2 l1_3 true).bind fun bt278 => ((impl_IsMoveOf.f kj25 bt270.1 bt270.2.1 bt270.2.2.1 bt270.2.2.2 bt278.1 bt278.2.1 bt278.2.2.1 bt278.2.2.2 a2).bind fun bt286 => (if (bt286.1 != t230) = true then (some false) else (if (bt286.2 != t231) = true then (some false) else (some true)))))) else (some false)))) else (some false)))) = some r := by rw [if_neg (show ¬ (false = true) by decide)] at H; exact H
      clear H
      have H := H1
      clear H1
      replace H := Option.bind_eq_some_iff.mp H
      obtain ⟨⟨t252, t253, t254, t257⟩, A630, H⟩ := H
      replace H : ((laws_intactFigure.f t232 t233 t234 t237 t252 t253 t254 t257).bind fun t260 => (if t260 = true then ((laws_toFigure.f a1_0 a1_1 l1_2 l1_3 false).bind fun bt261 => ((laws_intactFigure.f t241 t242 t243 t246 bt261.1 bt261.2.1 bt261.2.2.1 bt261.2.2.2).bind fun t269 => (if t269 = true then ((laws_toFigure.f a0_0 a0_1 l0_2 l0_3 true).bind fun bt270 => ((laws_toFigure.f a1_0 a1_1 l1_2 l1_3 true).bind fun bt278 => ((impl_IsMoveOf.f kj25 bt270.1 bt270.2.1 bt270.2.2.1 bt270.2.2.2 bt278.1 bt278.2.1 bt278.2.2.1 bt278.2.2.2 a2).bind fun bt286 => (if (bt286.1 != t230) = true then (some false) else (if (bt286.2 != t231) = true then (some false) else (some true)))))) else (some false)))) else (some false))) = some r := H
      have A63 := Aside0.mk A630
      clear A630
      replace H := Option.bind_eq_some_iff.mp H
      obtain ⟨t260, A640, H⟩ := H
      replace H : (if t260 = true then ((laws_toFigure.f a1_0 a1_1 l1_2 l1_3 false).bind fun bt261 => ((laws_intactFigure.f t241 t242 t243 t246 bt261.1 bt261.2.1 bt261.2.2.1 bt261.2.2.2).bind fun t269 => (if t269 = true then ((laws_toFigure.f a0_0 a0_1 l0_2 l0_3 true).bind fun bt270 => ((laws_toFigure.f a1_0 a1_1 l1_2 l1_3 true).bind fun bt278 => ((impl_IsMoveOf.f kj25 bt270.1 bt270.2.1 bt270.2.2.1 bt270.2.2.2 bt278.1 bt278.2.1 bt278.2.2.1 bt278.2.2.2 a2).bind fun bt286 => (if (bt286.1 != t230) = true then (some false) else (if (bt286.2 != t231) = true then (some false) else (some true)))))) else (some false)))) else (some false)) = some r := H
      have A64 := Aside0.mk A640
      clear A640
      by_cases c65 : t260 = true
      ·subst c65
       have H1 : ((laws_toFigure.f a1_0 a1_1 l1_2 l1_3 false).bind fun bt261 => ((laws_intactFigure.f t241 t242 t243 t246 bt261.1 bt261.2.1 bt261.2.2.1 bt261.2.2.2).bind fun t269 => (if t269 = true then ((laws_toFigure.f a0_0 a0_1 l0_2 l0_3 true).bind fun bt270 => ((laws_toFigure.f a1_0 a1_1 l1_2 l1_3 true).bind fun bt278 => ((impl_IsMoveOf.f kj25 bt270.1 bt270.2.1 bt270.2.2.1 bt270.2.2.2 bt278.1 bt278.2.1 bt278.2.2.1 bt278.2.2.2 a2).bind fun bt286 => (if (bt286.1 != t230) = true then (some false) else (if (bt286.2 != t231) = true then (some false) else (some true)))))) else (some false)))) = some r := by rw [if_pos rfl] at H; exact H
       clear H
       have H := H1
       clear H1
       replace H := Option.bind_eq_some_iff.mp H
       obtain ⟨⟨t261, t262, t263, t266⟩, A660, H⟩ := H
       replace H : ((laws_intactFigure.f t241 t242 t243 t246 t261 t262 t263 t266).bind fun t269 => (if t269 = true then ((laws_toFigure.f a0_0 a0_1 l0_2 l0_3 true).bind fun bt270 => ((laws_toFigure.f a1_0 a1_1 l1_2 l1_3 true).bind fun bt278 => ((impl_IsMoveOf.f kj25 bt270.1 bt270.2.1 bt270.2.2.1 bt270.2.2.2 bt278.1 bt278.2.1 bt278.2.2.1 bt278.2.2.2 a2).bind fun bt286 => (if (bt286.1 != t230) = true then (some false) else (if (bt286.2 != t231) = true then (some false) else (some true)))))) else (some false))) = some r := H
       have A66 := Aside0.mk A660
       clear A660
       replace H := Option.bind_eq_some_iff.mp H
       obtain ⟨t269, A670, H⟩ := H
       replace H : (if t269 = true then ((laws_toFigure.f a0_0 a0_1 l0_2 l0_3 true).bind fun bt270 => ((laws_toFigure.f a1_0 a1_1 l1_2 l1_3 true).bind fun bt278 => ((impl_IsMoveOf.f kj25 bt270.1 bt270.2.1 bt270.2.2.1 bt270.2.2.2 bt278.1 bt278.2.1 bt278.2.2.1 bt278.2.2.2 a2).bind fun bt286 => (if (bt286.1 != t230) = true then (some false) else (if (bt286.2 != t231) = true then (some false) else (some true)))))) else (some false)) = some r := H
       have A67 := Aside0.mk A670
       clear A670
       by_cases c68 : t269 = true
       ·subst c68
        have H1 : ((laws_toFigure.f a0_0 a0_1 l0_2 l0_3 true).bind fun bt270 => ((laws_toFigure.f a1_0 a1_1 l1_2 l1_3 true).bind fun bt278 => ((impl_IsMoveOf.f kj25 bt270.1 bt270.2.1 bt270.2.2.1 bt270.2.2.2 bt278.1 bt278.2.1 bt278.2.2.1 bt278.2.2.2 a2).bind fun bt286 => (if (bt286.1 != t230) = true then (some false) else (if (bt286.2 != t231) = true then (some false) else (some true)))))) = some r := by rw [if_pos rfl] at H; exact H
        clear H
        have H := H1
        clear H1
        replace H := Option.bind_eq_some_iff.mp H
        obtain ⟨⟨t270, t271, t272, t275⟩, A690, H⟩ := H
        replace H : ((laws_toFigure.f a1_0 a1_1 l1_2 l1_3 true).bind fun bt278 => ((impl_IsMoveOf.f kj25 t270 t271 t272 t275 bt278.1 bt278.2.1 bt278.2.2.1 bt278.2.2.2 a2).bind fun bt286 => (if (bt286.1 != t230) = true then (some false) else (if (bt286.2 != t231) = true then (some false) else (some true))))) = some r := H
        have A69 := Aside0.mk A690
        clear A690
        replace H := Option.bind_eq_some_iff.mp H
        obtain ⟨⟨t278, t279, t280, t283⟩, A700, H⟩ := H
        replace H : ((impl_IsMoveOf.f kj25 t270 t271 t272 t275 t278 t279 t280 t283 a2).bind fun bt286 => (if (bt286.1 != t230) = true then (some false) else (if (bt286.2 != t231) = true then (some false) else (some true)))) = some r := H
        have A70 := Aside0.mk A700
        clear A700
        replace H := Option.bind_eq_some_iff.mp H
        obtain ⟨⟨t286, t287⟩, A710, H⟩ := H
        replace H : (if (t286 != t230) = true then (some false) else (if (t287 != t231) = true then (some false) else (some true))) = some r := H
        have A71 := Aside0.mk A710
        clear A710
        by_cases c72 : (t286 != t230) = true
        ·rw [if_pos c72] at H
         have c72b0 : (t286 != t230) = true := c72
         (try (have c72b1 : decide (t286 = t230) = false := by simpa using c72))
         (try (have c72b2 : (t286 == t230) = false := by simpa using c72))
         (try (have c72b3 : ¬ (t286 = t230) := by simpa using c72))
         clear c72
         exact absurd ((Option.some.inj H).trans HR_.out) Bool.false_ne_true
        ·rw [if_neg c72] at H
         have c72b0 : (t286 != t230) = false := by simpa using c72
         (try (have c72b1 : decide (t286 = t230) = true := by simpa using c72))
         (try (have c72b2 : (t286 == t230) = true := by simpa using c72))
         clear c72
         by_cases c73 : (t287 != t231) = true
         ·rw [if_pos c73] at H
          have c73b0 : (t287 != t231) = true := c73
          (try (have c73b1 : decide (t287 = t231) = false := by simpa using c73))
          (try (have c73b2 : (t287 == t231) = false := by simpa using c73))
          (try (have c73b3 : ¬ (t287 = t231) := by simpa using c73))
          clear c73
          exact absurd ((Option.some.inj H).trans HR_.out) Bool.false_ne_true
         ·rw [if_neg c73] at H
          have c73b0 : (t287 != t231) = false := by simpa using c73
          (try (have c73b1 : decide (t287 = t231) = true := by simpa using c73))
          (try (have c73b2 : (t287 == t231) = true := by simpa using c73))
          clear c73
          obtain rfl := Option.some.inj H
          try go_wp2
          have n0_ := Aside0.mk (Kd.PB_drew HO_241002.out)
          have n1_ := Aside0.mk (Kd.PB_drew HO_241003.out)
          have n2_ := Aside0.mk (Kd.PB_drew HO_250002.out)
          have n3_ := Aside0.mk (Kd.PB_drew HO_250003.out)
          have n4_ := Aside0.mk (blk_drew BK210.out)
          have n5_ := Aside0.mk (blk_drew BK211.out)
          have n6_ := Aside0.mk (blk_drew BK240.out)
          have n7_ := Aside0.mk (blk_drew BK249.out)
          have n8_ := Aside0.mk (below_drew1 HB.out)
          clear HO_241002
          clear HO_241003
          clear HO_250002
          clear HO_250003
          clear BK210
          clear BK211
          clear BK240
          clear BK249
          clear HB
          have HO_241002 := n0_
          have HO_241003 := n1_
          have HO_250002 := n2_
          have HO_250003 := n3_
          have BK210 := n4_
          have BK211 := n5_
          have BK240 := n6_
          have BK249 := n7_
          have HB := n8_
          clear n0_ n1_ n2_ n3_ n4_ n5_ n6_ n7_ n8_
          refine start_ (n := 5) (S := fun w' => w'.cell? ⟨gb240, 0, none⟩ = some (.int .i64 t232) ∧ w'.cell? ⟨gb240, 1, none⟩ = some (.int .i64 t233) ∧ w'.cell? ⟨gb240, 2, none⟩ = some (.slice Ao48 t234.length co48) ∧ w'.cell? ⟨gb240, 3, none⟩ = some (.slice Ao49 t237.length co49) ∧ w'.cell? ⟨gb210, 0, none⟩ = some (.int .i64 a0_0) ∧ w'.cell? ⟨gb210, 1, none⟩ = some (.int .i64 a0_1) ∧ w'.cell? ⟨gb210, 2, none⟩ = some (.slice A0_2 l0_2.length c0_2) ∧ w'.cell? ⟨gb210, 3, none⟩ = some (.slice A0_3 l0_3.length c0_3)) (ds := []) #[false, false, false, false, false] (by kernel_rfl) rfl rfl ⟨(blk_cell BK240.out 0).trans rfl, (blk_cell BK240.out 1).trans rfl, (blk_cell BK240.out 2).trans rfl, (blk_cell BK240.out 3).trans rfl, (blk_cell BK210.out 0).trans rfl, (blk_cell BK210.out 1).trans rfl, (blk_cell BK210.out 2).trans rfl, (blk_cell BK210.out 3).trans rfl⟩ (fun hHeld => ?_)
          generalize wc.drew = w74 at HO_241002 HO_241003 HO_250002 HO_250003 BK210 BK211 BK240 BK249 HB hHeld ⊢
          refine take_ (i := 0) (N := some 54) (v := ?_) (a' := ?_) #[true, false, false, false, false] rfl rfl (by kernel_rfl) (fun _ _ _ h => h) (Or.inl ⟨by rfl, ?_⟩) hHeld ?_ ?_
          rotate_left
          ·rintro w' ⟨s0, s1, s2, s3, s4, s5, s6, s7⟩
           go_simp
           with_reducible rfl
          rotate_left
          ·simp only [Act.put, List.setIfInBounds_toArray, List.set_cons_zero, List.set_cons_succ, i64_w, i32_w]
           rfl
          refine take_ (i := 1) (N := some 55) (v := ?_) (a' := ?_) #[true, true, false, false, false] rfl rfl (by kernel_rfl) (fun _ _ _ h => h) (Or.inl ⟨by rfl, ?_⟩) hHeld ?_ ?_
          rotate_left
          ·rintro w' ⟨s0, s1, s2, s3, s4, s5, s6, s7⟩
           go_simp
           with_reducible rfl
          rotate_left
          ·simp only [Act.put, List.setIfInBounds_toArray, List.set_cons_zero, List.set_cons_succ, i64_w, i32_w]
           rfl
          refine one_ (i := 2) (N := some 56) #[true, true, true, false, false] rfl rfl (by kernel_rfl) (by decide) (fun K hK => ?_)
          refine goes_ Try.func8 (by kernel_rfl) rfl #[.agg #[.int .i64 a0_0, .int .i64 a0_1, .slice A0_2 l0_2.length c0_2, .slice A0_3 l0_3.length c0_3], .bool false] (by rfl) rfl rfl (by (try simp only [List.map_toArray, List.map_cons, List.map_nil]); first | done | rfl | (simp only [List.length_drop, List.length_take]; rfl)) ?_
          with_reducible refine (laws_toFigure.calls a0_0 a0_1 _ _ l0_2 _ _ l0_3 false t252 t253 t254 t257 _ ?side1 ?side2 ?side3 ?side4 A63.out).mono ?_
          (case side1 => repeat (first | exact (Kd.C_below HR0_2.out HB.out) | (with_reducible refine Kd.C_alloc ?_ _) | (with_reducible refine Kd.C_drewN ?_ _) | (with_reducible refine Kd.C_drew ?_)))
          (case side2 => exact HC0_2.out)
          (case side3 => repeat (first | exact (Kd.C_below HR0_3.out HB.out) | (with_reducible refine Kd.C_alloc ?_ _) | (with_reducible refine Kd.C_drewN ?_ _) | (with_reducible refine Kd.C_drew ?_)))
          (case side4 => exact HC0_3.out)
          rintro e w75 ⟨v255, v258, rfl, ho0, ho1, hb⟩
          refine ⟨_, rfl, ?_⟩
          have n0_ := Aside0.mk (Kd.PB_mono (Kd.PB_told (Kd.PB_told (Kd.PB_old (by (with_reducible repeat (first | apply Kd.PB_alloc | apply Kd.PB_drewN | apply Kd.PB_drew)); exact HO_241002.out) hb) (Kd.PB_base ho0)) (Kd.PB_base ho1)) (fun _ h_ => h_.1))
          have n1_ := Aside0.mk (Kd.PB_mono (Kd.PB_told (Kd.PB_told (Kd.PB_old (by (with_reducible repeat (first | apply Kd.PB_alloc | apply Kd.PB_drewN | apply Kd.PB_drew)); exact HO_241003.out) hb) (Kd.PB_base ho0)) (Kd.PB_base ho1)) (fun _ h_ => h_.1))
          have n2_ := Aside0.mk (Kd.PB_mono (Kd.PB_told (Kd.PB_told (Kd.PB_old (by (with_reducible repeat (first | apply Kd.PB_alloc | apply Kd.PB_drewN | apply Kd.PB_drew)); exact HO_250002.out) hb) (Kd.PB_base ho0)) (Kd.PB_base ho1)) (fun _ h_ => h_.1))
          have n3_ := Aside0.mk (Kd.PB_mono (Kd.PB_told (Kd.PB_told (Kd.PB_old (by (with_reducible repeat (first | apply Kd.PB_alloc | apply Kd.PB_drewN | apply Kd.PB_drew)); exact HO_250003.out) hb) (Kd.PB_base ho0)) (Kd.PB_base ho1)) (fun _ h_ => h_.1))
          have n4_ := Aside0.mk (Kd.PB_lower (Kd.PB_new' (Kd.PB_new' (Kd.PB_new' (Kd.PB_new' ho0 (Kd.PB_lt (by (with_reducible repeat (first | apply Kd.PB_alloc | apply Kd.PB_drewN | apply Kd.PB_drew)); exact HO_241002.out))) (Kd.PB_lt (by (with_reducible repeat (first | apply Kd.PB_alloc | apply Kd.PB_drewN | apply Kd.PB_drew)); exact HO_241003.out))) (Kd.PB_lt (by (with_reducible repeat (first | apply Kd.PB_alloc | apply Kd.PB_drewN | apply Kd.PB_drew)); exact HO_250002.out))) (Kd.PB_lt (by (with_reducible repeat (first | apply Kd.PB_alloc | apply Kd.PB_drewN | apply Kd.PB_drew)); exact HO_250003.out))) (below_size (by repeat (first | (with_reducible first | exact HB.out | apply below_alloc | apply pw_below_drewN | apply below_drew1 | refine below_set ?_ GE210.out | refine below_set ?_ GE211.out | refine below_set ?_ GE240.out | refine below_set ?_ GE249.out) | exact HB.out))))
          have n5_ := Aside0.mk (Kd.PB_lower (Kd.PB_new' (Kd.PB_new' (Kd.PB_new' (Kd.PB_new' ho1 (Kd.PB_lt (by (with_reducible repeat (first | apply Kd.PB_alloc | apply Kd.PB_drewN | apply Kd.PB_drew)); exact HO_241002.out))) (Kd.PB_lt (by (with_reducible repeat (first | apply Kd.PB_alloc | apply Kd.PB_drewN | apply Kd.PB_drew)); exact HO_241003.out))) (Kd.PB_lt (by (with_reducible repeat (first | apply Kd.PB_alloc | apply Kd.PB_drewN | apply Kd.PB_drew)); exact HO_250002.out))) (Kd.PB_lt (by (with_reducible repeat (first | apply Kd.PB_alloc | apply Kd.PB_drewN | apply Kd.PB_drew)); exact HO_250003.out))) (below_size (by repeat (first | (with_reducible first | exact HB.out | apply below_alloc | apply pw_below_drewN | apply below_drew1 | refine below_set ?_ GE210.out | refine below_set ?_ GE211.out | refine below_set ?_ GE240.out | refine below_set ?_ GE249.out) | exact HB.out))))
          have n6_ := Aside0.mk (blk_below (g := gb210) (o := .cells #[.int .i64 a0_0, .int .i64 a0_1, .slice A0_2 l0_2.length c0_2, .slice A0_3 l0_3.length c0_3] 24 (0, 0)) (by (with_reducible repeat (first | refine blk_drewN ?_ _ | refine blk_drew ?_ | refine blk_alloc ?_ _)); exact BK210.out) hb)
          have n7_ := Aside0.mk (blk_below (g := gb211) (o := .cells #[.int .i64 a1_0, .int .i64 a1_1, .slice A1_2 l1_2.length c1_2, .slice A1_3 l1_3.length c1_3] 24 (0, 0)) (by (with_reducible repeat (first | refine blk_drewN ?_ _ | refine blk_drew ?_ | refine blk_alloc ?_ _)); exact BK211.out) hb)
          have n8_ := Aside0.mk (blk_below (g := gb240) (o := .cells #[.int .i64 t232, .int .i64 t233, .slice Ao48 t234.length co48, .slice Ao49 t237.length co49] 28 (0, 0)) (by (with_reducible repeat (first | refine blk_drewN ?_ _ | refine blk_drew ?_ | refine blk_alloc ?_ _)); exact BK240.out) hb)
          have n9_ := Aside0.mk (blk_below (g := gb249) (o := .cells #[.int .i64 t241, .int .i64 t242, .slice Ao57 t243.length co57, .slice Ao58 t246.length co58] 28 (0, 0)) (by (with_reducible repeat (first | refine blk_drewN ?_ _ | refine blk_drew ?_ | refine blk_alloc ?_ _)); exact BK249.out) hb)
          have n10_ := Aside0.mk (below_step (by repeat (first | (with_reducible first | exact HB.out | apply below_alloc | apply pw_below_drewN | apply below_drew1 | refine below_set ?_ GE210.out | refine below_set ?_ GE211.out | refine below_set ?_ GE240.out | refine below_set ?_ GE249.out) | exact HB.out)) hb)
          clear HO_241002
          clear HO_241003
          clear HO_250002
          clear HO_250003
          clear BK210
          clear BK211
          clear BK240
          clear BK249
          clear HB
          have HO_241002 := n0_
          have HO_241003 := n1_
          have HO_250002 := n2_
          have HO_250003 := n3_
          have HO256 := n4_
          have HO259 := n5_
          have BK210 := n6_
          have BK211 := n7_
          have BK240 := n8_
          have BK249 := n9_
          have HB := n10_
          clear n0_ n1_ n2_ n3_ n4_ n5_ n6_ n7_ n8_ n9_ n10_
          (try clear hb)
          (try clear hb2)
          (try clear hk)
          (try clear hi)
          (try clear ho0)
          (try clear ho1)
          obtain ⟨Ao76, co76, eo76⟩ := Kd.PB_slice HO256.out
          (first | subst eo76 | (injection eo76 with f1_ f2_ f3_; have f4_ := f1_.symm; have f5_ := f3_.symm; clear f1_ f2_ f3_; subst f4_; subst f5_))
          obtain ⟨Ao77, co77, eo77⟩ := Kd.PB_slice HO259.out
          (first | subst eo77 | (injection eo77 with f1_ f2_ f3_; have f4_ := f1_.symm; have f5_ := f3_.symm; clear f1_ f2_ f3_; subst f4_; subst f5_))
          refine hK.out _ _ ⟨(blk_cell BK240.out 0).trans rfl, (blk_cell BK240.out 1).trans rfl, (blk_cell BK240.out 2).trans rfl, (blk_cell BK240.out 3).trans rfl, (blk_cell BK210.out 0).trans rfl, (blk_cell BK210.out 1).trans rfl, (blk_cell BK210.out 2).trans rfl, (blk_cell BK210.out 3).trans rfl⟩ (fun hHeld => ?_)
          clear hK K
          refine norm_ (a' := ?_) ?_ ?_
          rotate_left
          ·show Act.put _ (some 56) _ = _
           simp only [Act.put, List.setIfInBounds_toArray, List.set_cons_zero, List.set_cons_succ, i64_w, i32_w]
           rfl
          refine one_ (i := 3) (N := some 57) #[true, true, true, true, false] rfl rfl (by kernel_rfl) (by decide) (fun K hK => ?_)
          refine goes_ Try.func10 (by kernel_rfl) rfl #[.agg #[.int .i64 t232, .int .i64 t233, .slice Ao48 t234.length co48, .slice Ao49 t237.length co49], .agg #[.int .i64 t252, .int .i64 t253, .slice Ao76 t254.length co76, .slice Ao77 t257.length co77]] (by rfl) rfl rfl (by (try simp only [List.map_toArray, List.map_cons, List.map_nil]); first | done | rfl | (simp only [List.length_drop, List.length_take]; rfl)) ?_
          with_reducible refine (laws_intactFigure.calls t232 t233 _ _ t234 _ _ t237 t252 t253 _ _ t254 _ _ t257 true _ ?side1 ?side2 ?side3 ?side4 ?side5 ?side6 ?side7 ?side8 ?side9 ?side10 ?side11 ?side12 A64.out).mono ?_
          (case side1 => repeat (first | exact (Kd.PB_reads' HO_241002.out).2.2 | (with_reducible refine Kd.C_alloc ?_ _) | (with_reducible refine Kd.C_drewN ?_ _) | (with_reducible refine Kd.C_drew ?_)))
          (case side2 => exact (Kd.PB_reads' HO_241002.out).2.1)
          (case side3 => repeat (first | exact Kd.PB_sp HO_241002.out | (with_reducible refine Kd.Sp_alloc ?_ _) | (with_reducible refine Kd.Sp_drewN ?_ _) | (with_reducible refine Kd.Sp_drew ?_)))
          (case side4 => repeat (first | exact (Kd.PB_reads' HO_241003.out).2.2 | (with_reducible refine Kd.C_alloc ?_ _) | (with_reducible refine Kd.C_drewN ?_ _) | (with_reducible refine Kd.C_drew ?_)))
          (case side5 => exact (Kd.PB_reads' HO_241003.out).2.1)
          (case side6 => repeat (first | exact Kd.PB_sp HO_241003.out | (with_reducible refine Kd.Sp_alloc ?_ _) | (with_reducible refine Kd.Sp_drewN ?_ _) | (with_reducible refine Kd.Sp_drew ?_)))
          (case side7 => repeat (first | exact (Kd.PB_reads' HO256.out).2.2 | (with_reducible refine Kd.C_alloc ?_ _) | (with_reducible refine Kd.C_drewN ?_ _) | (with_reducible refine Kd.C_drew ?_)))
          (case side8 => exact (Kd.PB_reads' HO256.out).2.1)
          (case side9 => repeat (first | exact Kd.PB_sp HO256.out | (with_reducible refine Kd.Sp_alloc ?_ _) | (with_reducible refine Kd.Sp_drewN ?_ _) | (with_reducible refine Kd.Sp_drew ?_)))
          (case side10 => repeat (first | exact (Kd.PB_reads' HO259.out).2.2 | (with_reducible refine Kd.C_alloc ?_ _) | (with_reducible refine Kd.C_drewN ?_ _) | (with_reducible refine Kd.C_drew ?_)))
          (case side11 => exact (Kd.PB_reads' HO259.out).2.1)
          (case side12 => repeat (first | exact Kd.PB_sp HO259.out | (with_reducible refine Kd.Sp_alloc ?_ _) | (with_reducible refine Kd.Sp_drewN ?_ _) | (with_reducible refine Kd.Sp_drew ?_)))
          rintro e w78 ⟨rfl, hb⟩
          refine ⟨_, rfl, ?_⟩
          have n0_ := Aside0.mk (Kd.PB_below (by (with_reducible repeat (first | apply Kd.PB_alloc | apply Kd.PB_drewN | apply Kd.PB_drew)); exact HO_241002.out) hb)
          have n1_ := Aside0.mk (Kd.PB_below (by (with_reducible repeat (first | apply Kd.PB_alloc | apply Kd.PB_drewN | apply Kd.PB_drew)); exact HO_241003.out) hb)
          have n2_ := Aside0.mk (Kd.PB_below (by (with_reducible repeat (first | apply Kd.PB_alloc | apply Kd.PB_drewN | apply Kd.PB_drew)); exact HO_250002.out) hb)
          have n3_ := Aside0.mk (Kd.PB_below (by (with_reducible repeat (first | apply Kd.PB_alloc | apply Kd.PB_drewN | apply Kd.PB_drew)); exact HO_250003.out) hb)
          have n4_ := Aside0.mk (Kd.PB_below (by (with_reducible repeat (first | apply Kd.PB_alloc | apply Kd.PB_drewN | apply Kd.PB_drew)); exact HO256.out) hb)
          have n5_ := Aside0.mk (Kd.PB_below (by (with_reducible repeat (first | apply Kd.PB_alloc | apply Kd.PB_drewN | apply Kd.PB_drew)); exact HO259.out) hb)
          have n6_ := Aside0.mk (blk_below (g := gb210) (o := .cells #[.int .i64 a0_0, .int .i64 a0_1, .slice A0_2 l0_2.length c0_2, .slice A0_3 l0_3.length c0_3] 24 (0, 0)) (by (with_reducible repeat (first | refine blk_drewN ?_ _ | refine blk_drew ?_ | refine blk_alloc ?_ _)); exact BK210.out) hb)
          have n7_ := Aside0.mk (blk_below (g := gb211) (o := .cells #[.int .i64 a1_0, .int .i64 a1_1, .slice A1_2 l1_2.length c1_2, .slice A1_3 l1_3.length c1_3] 24 (0, 0)) (by (with_reducible repeat (first | refine blk_drewN ?_ _ | refine blk_drew ?_ | refine blk_alloc ?_ _)); exact BK211.out) hb)
          have n8_ := Aside0.mk (blk_below (g := gb240) (o := .cells #[.int .i64 t232, .int .i64 t233, .slice Ao48 t234.length co48, .slice Ao49 t237.length co49] 28 (0, 0)) (by (with_reducible repeat (first | refine blk_drewN ?_ _ | refine blk_drew ?_ | refine blk_alloc ?_ _)); exact BK240.out) hb)
          have n9_ := Aside0.mk (blk_below (g := gb249) (o := .cells #[.int .i64 t241, .int .i64 t242, .slice Ao57 t243.length co57, .slice Ao58 t246.length co58] 28 (0, 0)) (by (with_reducible repeat (first | refine blk_drewN ?_ _ | refine blk_drew ?_ | refine blk_alloc ?_ _)); exact BK249.out) hb)
          have n10_ := Aside0.mk (below_step (by repeat (first | (with_reducible first | exact HB.out | apply below_alloc | apply pw_below_drewN | apply below_drew1 | refine below_set ?_ GE210.out | refine below_set ?_ GE211.out | refine below_set ?_ GE240.out | refine below_set ?_ GE249.out) | exact HB.out)) hb)
          clear HO_241002
          clear HO_241003
          clear HO_250002
          clear HO_250003
          clear HO256
          clear HO259
          clear BK210
          clear BK211
          clear BK240
          clear BK249
          clear HB
          have HO_241002 := n0_
          have HO_241003 := n1_
          have HO_250002 := n2_
          have HO_250003 := n3_
          have HO256 := n4_
          have HO259 := n5_
          have BK210 := n6_
          have BK211 := n7_
          have BK240 := n8_
          have BK249 := n9_
          have HB := n10_
          clear n0_ n1_ n2_ n3_ n4_ n5_ n6_ n7_ n8_ n9_ n10_
          (try clear hb)
          (try clear hb2)
          (try clear hk)
          (try clear hi)
          refine hK.out _ _ ⟨(blk_cell BK240.out 0).trans rfl, (blk_cell BK240.out 1).trans rfl, (blk_cell BK240.out 2).trans rfl, (blk_cell BK240.out 3).trans rfl, (blk_cell BK210.out 0).trans rfl, (blk_cell BK210.out 1).trans rfl, (blk_cell BK210.out 2).trans rfl, (blk_cell BK210.out 3).trans rfl⟩ (fun hHeld => ?_)
          clear hK K
          refine norm_ (a' := ?_) ?_ ?_
          rotate_left
          ·show Act.put _ (some 57) _ = _
           simp only [Act.put, List.setIfInBounds_toArray, List.set_cons_zero, List.set_cons_succ, i64_w, i32_w]
           rfl
          refine pure_ (i := 4) (N := some 58) (v := ?_) (a' := ?_) #[true, true, true, true, true] rfl rfl (by kernel_rfl) (fun _ _ _ h => h) (Or.inl ⟨by rfl, ?_⟩) ?_ ?_
          rotate_left
          ·intro w'
           go_simp
           with_reducible rfl
          rotate_left
          ·simp only [Act.put, List.setIfInBounds_toArray, List.set_cons_zero, List.set_cons_succ, i64_w, i32_w]
           rfl
          refine done_ (by kernel_rfl) ?_
          try go_wp2
          have n0_ := Aside0.mk (Kd.PB_drew HO_241002.out)
          have n1_ := Aside0.mk (Kd.PB_drew HO_241003.out)
          have n2_ := Aside0.mk (Kd.PB_drew HO_250002.out)
          have n3_ := Aside0.mk (Kd.PB_drew HO_250003.out)
          have n4_ := Aside0.mk (Kd.PB_drew HO256.out)
          have n5_ := Aside0.mk (Kd.PB_drew HO259.out)
          have n6_ := Aside0.mk (blk_drew BK210.out)
          have n7_ := Aside0.mk (blk_drew BK211.out)
          have n8_ := Aside0.mk (blk_drew BK240.out)
          have n9_ := Aside0.mk (blk_drew BK249.out)
          have n10_ := Aside0.mk (below_drew1 HB.out)
          clear HO_241002
          clear HO_241003
          clear HO_250002
          clear HO_250003
          clear HO256
          clear HO259
          clear BK210
          clear BK211
          clear BK240
          clear BK249
          clear HB
          have HO_241002 := n0_
          have HO_241003 := n1_
          have HO_250002 := n2_
          have HO_250003 := n3_
          have HO256 := n4_
          have HO259 := n5_
          have BK210 := n6_
          have BK211 := n7_
          have BK240 := n8_
          have BK249 := n9_
          have HB := n10_
          clear n0_ n1_ n2_ n3_ n4_ n5_ n6_ n7_ n8_ n9_ n10_
          refine start_ (n := 5) (S := fun w' => w'.cell? ⟨gb249, 0, none⟩ = some (.int .i64 t241) ∧ w'.cell? ⟨gb249, 1, none⟩ = some (.int .i64 t242) ∧ w'.cell? ⟨gb249, 2, none⟩ = some (.slice Ao57 t243.length co57) ∧ w'.cell? ⟨gb249, 3, none⟩ = some (.slice Ao58 t246.length co58) ∧ w'.cell? ⟨gb211, 0, none⟩ = some (.int .i64 a1_0) ∧ w'.cell? ⟨gb211, 1, none⟩ = some (.int .i64 a1_1) ∧ w'.cell? ⟨gb211, 2, none⟩ = some (.slice A1_2 l1_2.length c1_2) ∧ w'.cell? ⟨gb211, 3, none⟩ = some (.slice A1_3 l1_3.length c1_3)) (ds := []) #[false, false, false, false, false] (by kernel_rfl) rfl rfl ⟨(blk_cell BK249.out 0).trans rfl, (blk_cell BK249.out 1).trans rfl, (blk_cell BK249.out 2).trans rfl, (blk_cell BK249.out 3).trans rfl, (blk_cell BK211.out 0).trans rfl, (blk_cell BK211.out 1).trans rfl, (blk_cell BK211.out 2).trans rfl, (blk_cell BK211.out 3).trans rfl⟩ (fun hHeld => ?_)
          generalize w78.drew = w79 at HO_241002 HO_241003 HO_250002 HO_250003 HO256 HO259 BK210 BK211 BK240 BK249 HB hHeld ⊢
          refine take_ (i := 0) (N := some 59) (v := ?_) (a' := ?_) #[true, false, false, false, false] rfl rfl (by kernel_rfl) (fun _ _ _ h => h) (Or.inl ⟨by rfl, ?_⟩) hHeld ?_ ?_
          rotate_left
          ·rintro w' ⟨s0, s1, s2, s3, s4, s5, s6, s7⟩
           go_simp
           with_reducible rfl
          rotate_left
          ·simp only [Act.put, List.setIfInBounds_toArray, List.set_cons_zero, List.set_cons_succ, i64_w, i32_w]
           rfl
          refine take_ (i := 1) (N := some 60) (v := ?_) (a' := ?_) #[true, true, false, false, false] rfl rfl (by kernel_rfl) (fun _ _ _ h => h) (Or.inl ⟨by rfl, ?_⟩) hHeld ?_ ?_
          rotate_left
          ·rintro w' ⟨s0, s1, s2, s3, s4, s5, s6, s7⟩
           go_simp
           with_reducible rfl
          rotate_left
          ·simp only [Act.put, List.setIfInBounds_toArray, List.set_cons_zero, List.set_cons_succ, i64_w, i32_w]
           rfl
          refine one_ (i := 2) (N := some 61) #[true, true, true, false, false] rfl rfl (by kernel_rfl) (by decide) (fun K hK => ?_)
          refine goes_ Try.func8 (by kernel_rfl) rfl #[.agg #[.int .i64 a1_0, .int .i64 a1_1, .slice A1_2 l1_2.length c1_2, .slice A1_3 l1_3.length c1_3], .bool false] (by rfl) rfl rfl (by (try simp only [List.map_toArray, List.map_cons, List.map_nil]); first | done | rfl | (simp only [List.length_drop, List.length_take]; rfl)) ?_
          with_reducible refine (laws_toFigure.calls a1_0 a1_1 _ _ l1_2 _ _ l1_3 false t261 t262 t263 t266 _ ?side1 ?side2 ?side3 ?side4 A66.out).mono ?_
          (case side1 => repeat (first | exact (Kd.C_below HR1_2.out HB.out) | (with_reducible refine Kd.C_alloc ?_ _) | (with_reducible refine Kd.C_drewN ?_ _) | (with_reducible refine Kd.C_drew ?_)))
          (case side2 => exact HC1_2.out)
          (case side3 => repeat (first | exact (Kd.C_below HR1_3.out HB.out) | (with_reducible refine Kd.C_alloc ?_ _) | (with_reducible refine Kd.C_drewN ?_ _) | (with_reducible refine Kd.C_drew ?_)))
          (case side4 => exact HC1_3.out)
          rintro e w80 ⟨v264, v267, rfl, ho0, ho1, hb⟩
          refine ⟨_, rfl, ?_⟩
          have n0_ := Aside0.mk (Kd.PB_mono (Kd.PB_told (Kd.PB_told (Kd.PB_old (by (with_reducible repeat (first | apply Kd.PB_alloc | apply Kd.PB_drewN | apply Kd.PB_drew)); exact HO_241002.out) hb) (Kd.PB_base ho0)) (Kd.PB_base ho1)) (fun _ h_ => h_.1))
          have n1_ := Aside0.mk (Kd.PB_mono (Kd.PB_told (Kd.PB_told (Kd.PB_old (by (with_reducible repeat (first | apply Kd.PB_alloc | apply Kd.PB_drewN | apply Kd.PB_drew)); exact HO_241003.out) hb) (Kd.PB_base ho0)) (Kd.PB_base ho1)) (fun _ h_ => h_.1))
          have n2_ := Aside0.mk (Kd.PB_mono (Kd.PB_told (Kd.PB_told (Kd.PB_old (by (with_reducible repeat (first | apply Kd.PB_alloc | apply Kd.PB_drewN | apply Kd.PB_drew)); exact HO_250002.out) hb) (Kd.PB_base ho0)) (Kd.PB_base ho1)) (fun _ h_ => h_.1))
          have n3_ := Aside0.mk (Kd.PB_mono (Kd.PB_told (Kd.PB_told (Kd.PB_old (by (with_reducible repeat (first | apply Kd.PB_alloc | apply Kd.PB_drewN | apply Kd.PB_drew)); exact HO_250003.out) hb) (Kd.PB_base ho0)) (Kd.PB_base ho1)) (fun _ h_ => h_.1))
          have n4_ := Aside0.mk (Kd.PB_mono (Kd.PB_told (Kd.PB_told (Kd.PB_old (by (with_reducible repeat (first | apply Kd.PB_alloc | apply Kd.PB_drewN | apply Kd.PB_drew)); exact HO256.out) hb) (Kd.PB_base ho0)) (Kd.PB_base ho1)) (fun _ h_ => h_.1))
          have n5_ := Aside0.mk (Kd.PB_mono (Kd.PB_told (Kd.PB_told (Kd.PB_old (by (with_reducible repeat (first | apply Kd.PB_alloc | apply Kd.PB_drewN | apply Kd.PB_drew)); exact HO259.out) hb) (Kd.PB_base ho0)) (Kd.PB_base ho1)) (fun _ h_ => h_.1))
          have n6_ := Aside0.mk (Kd.PB_lower (Kd.PB_new' (Kd.PB_new' (Kd.PB_new' (Kd.PB_new' (Kd.PB_new' (Kd.PB_new' ho0 (Kd.PB_lt (by (with_reducible repeat (first | apply Kd.PB_alloc | apply Kd.PB_drewN | apply Kd.PB_drew)); exact HO_241002.out))) (Kd.PB_lt (by (with_reducible repeat (first | apply Kd.PB_alloc | apply Kd.PB_drewN | apply Kd.PB_drew)); exact HO_241003.out))) (Kd.PB_lt (by (with_reducible repeat (first | apply Kd.PB_alloc | apply Kd.PB_drewN | apply Kd.PB_drew)); exact HO_250002.out))) (Kd.PB_lt (by (with_reducible repeat (first | apply Kd.PB_alloc | apply Kd.PB_drewN | apply Kd.PB_drew)); exact HO_250003.out))) (Kd.PB_lt (by (with_reducible repeat (first | apply Kd.PB_alloc | apply Kd.PB_drewN | apply Kd.PB_drew)); exact HO256.out))) (Kd.PB_lt (by (with_reducible repeat (first | apply Kd.PB_alloc | apply Kd.PB_drewN | apply Kd.PB_drew)); exact HO259.out))) (below_size (by repeat (first | (with_reducible first | exact HB.out | apply below_alloc | apply pw_below_drewN | apply below_drew1 | refine below_set ?_ GE210.out | refine below_set ?_ GE211.out | refine below_set ?_ GE240.out | refine below_set ?_ GE249.out) | exact HB.out))))
          have n7_ := Aside0.mk (Kd.PB_lower (Kd.PB_new' (Kd.PB_new' (Kd.PB_new' (Kd.PB_new' (Kd.PB_new' (Kd.PB_new' ho1 (Kd.PB_lt (by (with_reducible repeat (first | apply Kd.PB_alloc | apply Kd.PB_drewN | apply Kd.PB_drew)); exact HO_241002.out))) (Kd.PB_lt (by (with_reducible repeat (first | apply Kd.PB_alloc | apply Kd.PB_drewN | apply Kd.PB_drew)); exact HO_241003.out))) (Kd.PB_lt (by (with_reducible repeat (first | apply Kd.PB_alloc | apply Kd.PB_drewN | apply Kd.PB_drew)); exact HO_250002.out))) (Kd.PB_lt (by (with_reducible repeat (first | apply Kd.PB_alloc | apply Kd.PB_drewN | apply Kd.PB_drew)); exact HO_250003.out))) (Kd.PB_lt (by (with_reducible repeat (first | apply Kd.PB_alloc | apply Kd.PB_drewN | apply Kd.PB_drew)); exact HO256.out))) (Kd.PB_lt (by (with_reducible repeat (first | apply Kd.PB_alloc | apply Kd.PB_drewN | apply Kd.PB_drew)); exact HO259.out))) (below_size (by repeat (first | (with_reducible first | exact HB.out | apply below_alloc | apply pw_below_drewN | apply below_drew1 | refine below_set ?_ GE210.out | refine below_set ?_ GE211.out | refine below_set ?_ GE240.out | refine below_set ?_ GE249.out) | exact HB.out))))
          have n8_ := Aside0.mk (blk_below (g := gb210) (o := .cells #[.int .i64 a0_0, .int .i64 a0_1, .slice A0_2 l0_2.length c0_2, .slice A0_3 l0_3.length c0_3] 24 (0, 0)) (by (with_reducible repeat (first | refine blk_drewN ?_ _ | refine blk_drew ?_ | refine blk_alloc ?_ _)); exact BK210.out) hb)
          have n9_ := Aside0.mk (blk_below (g := gb211) (o := .cells #[.int .i64 a1_0, .int .i64 a1_1, .slice A1_2 l1_2.length c1_2, .slice A1_3 l1_3.length c1_3] 24 (0, 0)) (by (with_reducible repeat (first | refine blk_drewN ?_ _ | refine blk_drew ?_ | refine blk_alloc ?_ _)); exact BK211.out) hb)
          have n10_ := Aside0.mk (blk_below (g := gb240) (o := .cells #[.int .i64 t232, .int .i64 t233, .slice Ao48 t234.length co48, .slice Ao49 t237.length co49] 28 (0, 0)) (by (with_reducible repeat (first | refine blk_drewN ?_ _ | refine blk_drew ?_ | refine blk_alloc ?_ _)); exact BK240.out) hb)
          have n11_ := Aside0.mk (blk_below (g := gb249) (o := .cells #[.int .i64 t241, .int .i64 t242, .slice Ao57 t243.length co57, .slice Ao58 t246.length co58] 28 (0, 0)) (by (with_reducible repeat (first | refine blk_drewN ?_ _ | refine blk_drew ?_ | refine blk_alloc ?_ _)); exact BK249.out) hb)
          have n12_ := Aside0.mk (below_step (by repeat (first | (with_reducible first | exact HB.out | apply below_alloc | apply pw_below_drewN | apply below_drew1 | refine below_set ?_ GE210.out | refine below_set ?_ GE211.out | refine below_set ?_ GE240.out | refine below_set ?_ GE249.out) | exact HB.out)) hb)
          clear HO_241002
          clear HO_241003
          clear HO_250002
          clear HO_250003
          clear HO256
          clear HO259
          clear BK210
          clear BK211
          clear BK240
          clear BK249
          clear HB
          have HO_241002 := n0_
          have HO_241003 := n1_
          have HO_250002 := n2_
          have HO_250003 := n3_
          have HO256 := n4_
          have HO259 := n5_
          have HO265 := n6_
          have HO268 := n7_
          have BK210 := n8_
          have BK211 := n9_
          have BK240 := n10_
          have BK249 := n11_
          have HB := n12_
          clear n0_ n1_ n2_ n3_ n4_ n5_ n6_ n7_ n8_ n9_ n10_ n11_ n12_
          (try clear hb)
          (try clear hb2)
          (try clear hk)
          (try clear hi)
          (try clear ho0)
          (try clear ho1)
          obtain ⟨Ao81, co81, eo81⟩ := Kd.PB_slice HO265.out
          (first | subst eo81 | (injection eo81 with f1_ f2_ f3_; have f4_ := f1_.symm; have f5_ := f3_.symm; clear f1_ f2_ f3_; subst f4_; subst f5_))
          obtain ⟨Ao82, co82, eo82⟩ := Kd.PB_slice HO268.out
          (first | subst eo82 | (injection eo82 with f1_ f2_ f3_; have f4_ := f1_.symm; have f5_ := f3_.symm; clear f1_ f2_ f3_; subst f4_; subst f5_))
          refine hK.out _ _ ⟨(blk_cell BK249.out 0).trans rfl, (blk_cell BK249.out 1).trans rfl, (blk_cell BK249.out 2).trans rfl, (blk_cell BK249.out 3).trans rfl, (blk_cell BK211.out 0).trans rfl, (blk_cell BK211.out 1).trans rfl, (blk_cell BK211.out 2).trans rfl, (blk_cell BK211.out 3).trans rfl⟩ (fun hHeld => ?_)
          clear hK K
          refine norm_ (a' := ?_) ?_ ?_
          rotate_left
          ·show Act.put _ (some 61) _ = _
           simp only [Act.put, List.setIfInBounds_toArray, List.set_cons_zero, List.set_cons_succ, i64_w, i32_w]
           rfl
          refine one_ (i := 3) (N := some 62) #[true, true, true, true, false] rfl rfl (by kernel_rfl) (by decide) (fun K hK => ?_)
          refine goes_ Try.func10 (by kernel_rfl) rfl #[.agg #[.int .i64 t241, .int .i64 t242, .slice Ao57 t243.length co57, .slice Ao58 t246.length co58], .agg #[.int .i64 t261, .int .i64 t262, .slice Ao81 t263.length co81, .slice Ao82 t266.length co82]] (by rfl) rfl rfl (by (try simp only [List.map_toArray, List.map_cons, List.map_nil]); first | done | rfl | (simp only [List.length_drop, List.length_take]; rfl)) ?_
          with_reducible refine (laws_intactFigure.calls t241 t242 _ _ t243 _ _ t246 t261 t262 _ _ t263 _ _ t266 true _ ?side1 ?side2 ?side3 ?side4 ?side5 ?side6 ?side7 ?side8 ?side9 ?side10 ?side11 ?side12 A67.out).mono ?_
          (case side1 => repeat (first | exact (Kd.PB_reads' HO_250002.out).2.2 | (with_reducible refine Kd.C_alloc ?_ _) | (with_reducible refine Kd.C_drewN ?_ _) | (with_reducible refine Kd.C_drew ?_)))
          (case side2 => exact (Kd.PB_reads' HO_250002.out).2.1)
          (case side3 => repeat (first | exact Kd.PB_sp HO_250002.out | (with_reducible refine Kd.Sp_alloc ?_ _) | (with_reducible refine Kd.Sp_drewN ?_ _) | (with_reducible refine Kd.Sp_drew ?_)))
          (case side4 => repeat (first | exact (Kd.PB_reads' HO_250003.out).2.2 | (with_reducible refine Kd.C_alloc ?_ _) | (with_reducible refine Kd.C_drewN ?_ _) | (with_reducible refine Kd.C_drew ?_)))
          (case side5 => exact (Kd.PB_reads' HO_250003.out).2.1)
          (case side6 => repeat (first | exact Kd.PB_sp HO_250003.out | (with_reducible refine Kd.Sp_alloc ?_ _) | (with_reducible refine Kd.Sp_drewN ?_ _) | (with_reducible refine Kd.Sp_drew ?_)))
          (case side7 => repeat (first | exact (Kd.PB_reads' HO265.out).2.2 | (with_reducible refine Kd.C_alloc ?_ _) | (with_reducible refine Kd.C_drewN ?_ _) | (with_reducible refine Kd.C_drew ?_)))
          (case side8 => exact (Kd.PB_reads' HO265.out).2.1)
          (case side9 => repeat (first | exact Kd.PB_sp HO265.out | (with_reducible refine Kd.Sp_alloc ?_ _) | (with_reducible refine Kd.Sp_drewN ?_ _) | (with_reducible refine Kd.Sp_drew ?_)))
          (case side10 => repeat (first | exact (Kd.PB_reads' HO268.out).2.2 | (with_reducible refine Kd.C_alloc ?_ _) | (with_reducible refine Kd.C_drewN ?_ _) | (with_reducible refine Kd.C_drew ?_)))
          (case side11 => exact (Kd.PB_reads' HO268.out).2.1)
          (case side12 => repeat (first | exact Kd.PB_sp HO268.out | (with_reducible refine Kd.Sp_alloc ?_ _) | (with_reducible refine Kd.Sp_drewN ?_ _) | (with_reducible refine Kd.Sp_drew ?_)))
          rintro e w83 ⟨rfl, hb⟩
          refine ⟨_, rfl, ?_⟩
          have n0_ := Aside0.mk (Kd.PB_below (by (with_reducible repeat (first | apply Kd.PB_alloc | apply Kd.PB_drewN | apply Kd.PB_drew)); exact HO_241002.out) hb)
          have n1_ := Aside0.mk (Kd.PB_below (by (with_reducible repeat (first | apply Kd.PB_alloc | apply Kd.PB_drewN | apply Kd.PB_drew)); exact HO_241003.out) hb)
          have n2_ := Aside0.mk (Kd.PB_below (by (with_reducible repeat (first | apply Kd.PB_alloc | apply Kd.PB_drewN | apply Kd.PB_drew)); exact HO_250002.out) hb)
          have n3_ := Aside0.mk (Kd.PB_below (by (with_reducible repeat (first | apply Kd.PB_alloc | apply Kd.PB_drewN | apply Kd.PB_drew)); exact HO_250003.out) hb)
          have n4_ := Aside0.mk (Kd.PB_below (by (with_reducible repeat (first | apply Kd.PB_alloc | apply Kd.PB_drewN | apply Kd.PB_drew)); exact HO256.out) hb)
          have n5_ := Aside0.mk (Kd.PB_below (by (with_reducible repeat (first | apply Kd.PB_alloc | apply Kd.PB_drewN | apply Kd.PB_drew)); exact HO259.out) hb)
          have n6_ := Aside0.mk (Kd.PB_below (by (with_reducible repeat (first | apply Kd.PB_alloc | apply Kd.PB_drewN | apply Kd.PB_drew)); exact HO265.out) hb)
          have n7_ := Aside0.mk (Kd.PB_below (by (with_reducible repeat (first | apply Kd.PB_alloc | apply Kd.PB_drewN | apply Kd.PB_drew)); exact HO268.out) hb)
          have n8_ := Aside0.mk (blk_below (g := gb210) (o := .cells #[.int .i64 a0_0, .int .i64 a0_1, .slice A0_2 l0_2.length c0_2, .slice A0_3 l0_3.length c0_3] 24 (0, 0)) (by (with_reducible repeat (first | refine blk_drewN ?_ _ | refine blk_drew ?_ | refine blk_alloc ?_ _)); exact BK210.out) hb)
          have n9_ := Aside0.mk (blk_below (g := gb211) (o := .cells #[.int .i64 a1_0, .int .i64 a1_1, .slice A1_2 l1_2.length c1_2, .slice A1_3 l1_3.length c1_3] 24 (0, 0)) (by (with_reducible repeat (first | refine blk_drewN ?_ _ | refine blk_drew ?_ | refine blk_alloc ?_ _)); exact BK211.out) hb)
          have n10_ := Aside0.mk (blk_below (g := gb240) (o := .cells #[.int .i64 t232, .int .i64 t233, .slice Ao48 t234.length co48, .slice Ao49 t237.length co49] 28 (0, 0)) (by (with_reducible repeat (first | refine blk_drewN ?_ _ | refine blk_drew ?_ | refine blk_alloc ?_ _)); exact BK240.out) hb)
          have n11_ := Aside0.mk (blk_below (g := gb249) (o := .cells #[.int .i64 t241, .int .i64 t242, .slice Ao57 t243.length co57, .slice Ao58 t246.length co58] 28 (0, 0)) (by (with_reducible repeat (first | refine blk_drewN ?_ _ | refine blk_drew ?_ | refine blk_alloc ?_ _)); exact BK249.out) hb)
          have n12_ := Aside0.mk (below_step (by repeat (first | (with_reducible first | exact HB.out | apply below_alloc | apply pw_below_drewN | apply below_drew1 | refine below_set ?_ GE210.out | refine below_set ?_ GE211.out | refine below_set ?_ GE240.out | refine below_set ?_ GE249.out) | exact HB.out)) hb)
          clear HO_241002
          clear HO_241003
          clear HO_250002
          clear HO_250003
          clear HO256
          clear HO259
          clear HO265
          clear HO268
          clear BK210
          clear BK211
          clear BK240
          clear BK249
          clear HB
          have HO_241002 := n0_
          have HO_241003 := n1_
          have HO_250002 := n2_
          have HO_250003 := n3_
          have HO256 := n4_
          have HO259 := n5_
          have HO265 := n6_
          have HO268 := n7_
          have BK210 := n8_
          have BK211 := n9_
          have BK240 := n10_
          have BK249 := n11_
          have HB := n12_
          clear n0_ n1_ n2_ n3_ n4_ n5_ n6_ n7_ n8_ n9_ n10_ n11_ n12_
          (try clear hb)
          (try clear hb2)
          (try clear hk)
          (try clear hi)
          refine hK.out _ _ ⟨(blk_cell BK249.out 0).trans rfl, (blk_cell BK249.out 1).trans rfl, (blk_cell BK249.out 2).trans rfl, (blk_cell BK249.out 3).trans rfl, (blk_cell BK211.out 0).trans rfl, (blk_cell BK211.out 1).trans rfl, (blk_cell BK211.out 2).trans rfl, (blk_cell BK211.out 3).trans rfl⟩ (fun hHeld => ?_)
          clear hK K
          refine norm_ (a' := ?_) ?_ ?_
          rotate_left
          ·show Act.put _ (some 62) _ = _
           simp only [Act.put, List.setIfInBounds_toArray, List.set_cons_zero, List.set_cons_succ, i64_w, i32_w]
           rfl
          refine pure_ (i := 4) (N := some 63) (v := ?_) (a' := ?_) #[true, true, true, true, true] rfl rfl (by kernel_rfl) (fun _ _ _ h => h) (Or.inl ⟨by rfl, ?_⟩) ?_ ?_
          rotate_left
          ·intro w'
           go_simp
           with_reducible rfl
          rotate_left
          ·simp only [Act.put, List.setIfInBounds_toArray, List.set_cons_zero, List.set_cons_succ, i64_w, i32_w]
           rfl
          refine done_ (by kernel_rfl) ?_
          try go_wp2
          have n0_ := Aside0.mk (Kd.PB_drew HO_241002.out)
          have n1_ := Aside0.mk (Kd.PB_drew HO_241003.out)
          have n2_ := Aside0.mk (Kd.PB_drew HO_250002.out)
          have n3_ := Aside0.mk (Kd.PB_drew HO_250003.out)
          have n4_ := Aside0.mk (Kd.PB_drew HO256.out)
          have n5_ := Aside0.mk (Kd.PB_drew HO259.out)
          have n6_ := Aside0.mk (Kd.PB_drew HO265.out)
          have n7_ := Aside0.mk (Kd.PB_drew HO268.out)
          have n8_ := Aside0.mk (blk_drew BK210.out)
          have n9_ := Aside0.mk (blk_drew BK211.out)
          have n10_ := Aside0.mk (blk_drew BK240.out)
          have n11_ := Aside0.mk (blk_drew BK249.out)
          have n12_ := Aside0.mk (below_drew1 HB.out)
          clear HO_241002
          clear HO_241003
          clear HO_250002
          clear HO_250003
          clear HO256
          clear HO259
          clear HO265
          clear HO268
          clear BK210
          clear BK211
          clear BK240
          clear BK249
          clear HB
          have HO_241002 := n0_
          have HO_241003 := n1_
          have HO_250002 := n2_
          have HO_250003 := n3_
          have HO256 := n4_
          have HO259 := n5_
          have HO265 := n6_
          have HO268 := n7_
          have BK210 := n8_
          have BK211 := n9_
          have BK240 := n10_
          have BK249 := n11_
          have HB := n12_
          clear n0_ n1_ n2_ n3_ n4_ n5_ n6_ n7_ n8_ n9_ n10_ n11_ n12_
          refine start_ (n := 11) (S := fun w' => w'.cell? ⟨gb210, 0, none⟩ = some (.int .i64 a0_0) ∧ w'.cell? ⟨gb210, 1, none⟩ = some (.int .i64 a0_1) ∧ w'.cell? ⟨gb210, 2, none⟩ = some (.slice A0_2 l0_2.length c0_2) ∧ w'.cell? ⟨gb210, 3, none⟩ = some (.slice A0_3 l0_3.length c0_3) ∧ w'.cell? ⟨gb211, 0, none⟩ = some (.int .i64 a1_0) ∧ w'.cell? ⟨gb211, 1, none⟩ = some (.int .i64 a1_1) ∧ w'.cell? ⟨gb211, 2, none⟩ = some (.slice A1_2 l1_2.length c1_2) ∧ w'.cell? ⟨gb211, 3, none⟩ = some (.slice A1_3 l1_3.length c1_3)) (ds := []) #[false, false, false, false, false, false, false, false, false, false, false] (by kernel_rfl) rfl rfl ⟨(blk_cell BK210.out 0).trans rfl, (blk_cell BK210.out 1).trans rfl, (blk_cell BK210.out 2).trans rfl, (blk_cell BK210.out 3).trans rfl, (blk_cell BK211.out 0).trans rfl, (blk_cell BK211.out 1).trans rfl, (blk_cell BK211.out 2).trans rfl, (blk_cell BK211.out 3).trans rfl⟩ (fun hHeld => ?_); refine with_tabW laws_FnExactIsMoveOf.tab18 laws_FnExactIsMoveOf.bits18 (fun HT_ HW_ => ?_)
          generalize w83.drew = w84 at HO_241002 HO_241003 HO_250002 HO_250003 HO256 HO259 HO265 HO268 BK210 BK211 BK240 BK249 HB hHeld ⊢
          refine pure_ (i := 4) (N := some 69) (v := ?_) (a' := ?_) #[false, false, false, false, true, false, false, false, false, false, false] rfl rfl (any_of HT_.out (by kernel_rfl)) (fun _ _ _ h => h) (Or.inl ⟨by rfl, ?_⟩) ?_ ?_
          rotate_left
          ·intro w'
           go_simp
           with_reducible rfl
          rotate_left
          ·simp only [Act.put, List.setIfInBounds_toArray, List.set_cons_zero, List.set_cons_succ, i64_w, i32_w]
           rfl
          refine take_ (i := 0) (N := some 65) (v := ?_) (a' := ?_) #[true, false, false, false, true, false, false, false, false, false, false] rfl rfl (take_ofW HT_.out HW_.out (by kernel_rfl)) (fun _ _ _ h => h) (Or.inl ⟨by rfl, ?_⟩) hHeld ?_ ?_
          rotate_left
          ·rintro w' ⟨s0, s1, s2, s3, s4, s5, s6, s7⟩
           go_simp
           with_reducible rfl
          rotate_left
          ·simp only [Act.put, List.setIfInBounds_toArray, List.set_cons_zero, List.set_cons_succ, i64_w, i32_w]
           rfl
          refine take_ (i := 2) (N := some 67) (v := ?_) (a' := ?_) #[true, false, true, false, true, false, false, false, false, false, false] rfl rfl (take_ofW HT_.out HW_.out (by kernel_rfl)) (fun _ _ _ h => h) (Or.inl ⟨by rfl, ?_⟩) hHeld ?_ ?_
          rotate_left
          ·rintro w' ⟨s0, s1, s2, s3, s4, s5, s6, s7⟩
           go_simp
           with_reducible rfl
          rotate_left
          ·simp only [Act.put, List.setIfInBounds_toArray, List.set_cons_zero, List.set_cons_succ, i64_w, i32_w]
           rfl
          refine one_ (i := 1) (N := some 66) #[true, true, true, false, true, false, false, false, false, false, false] rfl rfl (one_of HT_.out (by kernel_rfl)) (by decide) (fun K hK => ?_)
          refine goes_ Try.func8 (by kernel_rfl) rfl #[.agg #[.int .i64 a0_0, .int .i64 a0_1, .slice A0_2 l0_2.length c0_2, .slice A0_3 l0_3.length c0_3], .bool true] (by rfl) rfl rfl (by (try simp only [List.map_toArray, List.map_cons, List.map_nil]); first | done | rfl | (simp only [List.length_drop, List.length_take]; rfl)) ?_
          with_reducible refine (laws_toFigure.calls a0_0 a0_1 _ _ l0_2 _ _ l0_3 true t270 t271 t272 t275 _ ?side1 ?side2 ?side3 ?side4 A69.out).mono ?_
          (case side1 => repeat (first | exact (Kd.C_below HR0_2.out HB.out) | (with_reducible refine Kd.C_alloc ?_ _) | (with_reducible refine Kd.C_drewN ?_ _) | (with_reducible refine Kd.C_drew ?_)))
          (case side2 => exact HC0_2.out)
          (case side3 => repeat (first | exact (Kd.C_below HR0_3.out HB.out) | (with_reducible refine Kd.C_alloc ?_ _) | (with_reducible refine Kd.C_drewN ?_ _) | (with_reducible refine Kd.C_drew ?_)))
          (case side4 => exact HC0_3.out)
          rintro e w85 ⟨v273, v276, rfl, ho0, ho1, hb⟩
          refine ⟨_, rfl, ?_⟩
          have n0_ := Aside0.mk (Kd.PB_mono (Kd.PB_told (Kd.PB_told (Kd.PB_old (by (with_reducible repeat (first | apply Kd.PB_alloc | apply Kd.PB_drewN | apply Kd.PB_drew)); exact HO_241002.out) hb) (Kd.PB_base ho0)) (Kd.PB_base ho1)) (fun _ h_ => h_.1))
          have n1_ := Aside0.mk (Kd.PB_mono (Kd.PB_told (Kd.PB_told (Kd.PB_old (by (with_reducible repeat (first | apply Kd.PB_alloc | apply Kd.PB_drewN | apply Kd.PB_drew)); exact HO_241003.out) hb) (Kd.PB_base ho0)) (Kd.PB_base ho1)) (fun _ h_ => h_.1))
          have n2_ := Aside0.mk (Kd.PB_mono (Kd.PB_told (Kd.PB_told (Kd.PB_old (by (with_reducible repeat (first | apply Kd.PB_alloc | apply Kd.PB_drewN | apply Kd.PB_drew)); exact HO_250002.out) hb) (Kd.PB_base ho0)) (Kd.PB_base ho1)) (fun _ h_ => h_.1))
          have n3_ := Aside0.mk (Kd.PB_mono (Kd.PB_told (Kd.PB_told (Kd.PB_old (by (with_reducible repeat (first | apply Kd.PB_alloc | apply Kd.PB_drewN | apply Kd.PB_drew)); exact HO_250003.out) hb) (Kd.PB_base ho0)) (Kd.PB_base ho1)) (fun _ h_ => h_.1))
          have n4_ := Aside0.mk (Kd.PB_mono (Kd.PB_told (Kd.PB_told (Kd.PB_old (by (with_reducible repeat (first | apply Kd.PB_alloc | apply Kd.PB_drewN | apply Kd.PB_drew)); exact HO256.out) hb) (Kd.PB_base ho0)) (Kd.PB_base ho1)) (fun _ h_ => h_.1))
          have n5_ := Aside0.mk (Kd.PB_mono (Kd.PB_told (Kd.PB_told (Kd.PB_old (by (with_reducible repeat (first | apply Kd.PB_alloc | apply Kd.PB_drewN | apply Kd.PB_drew)); exact HO259.out) hb) (Kd.PB_base ho0)) (Kd.PB_base ho1)) (fun _ h_ => h_.1))
          have n6_ := Aside0.mk (Kd.PB_mono (Kd.PB_told (Kd.PB_told (Kd.PB_old (by (with_reducible repeat (first | apply Kd.PB_alloc | apply Kd.PB_drewN | apply Kd.PB_drew)); exact HO265.out) hb) (Kd.PB_base ho0)) (Kd.PB_base ho1)) (fun _ h_ => h_.1))
          have n7_ := Aside0.mk (Kd.PB_mono (Kd.PB_told (Kd.PB_told (Kd.PB_old (by (with_reducible repeat (first | apply Kd.PB_alloc | apply Kd.PB_drewN | apply Kd.PB_drew)); exact HO268.out) hb) (Kd.PB_base ho0)) (Kd.PB_base ho1)) (fun _ h_ => h_.1))
          have n8_ := Aside0.mk (Kd.PB_lower (Kd.PB_new' (Kd.PB_new' (Kd.PB_new' (Kd.PB_new' (Kd.PB_new' (Kd.PB_new' (Kd.PB_new' (Kd.PB_new' ho0 (Kd.PB_lt (by (with_reducible repeat (first | apply Kd.PB_alloc | apply Kd.PB_drewN | apply Kd.PB_drew)); exact HO_241002.out))) (Kd.PB_lt (by (with_reducible repeat (first | apply Kd.PB_alloc | apply Kd.PB_drewN | apply Kd.PB_drew)); exact HO_241003.out))) (Kd.PB_lt (by (with_reducible repeat (first | apply Kd.PB_alloc | apply Kd.PB_drewN | apply Kd.PB_drew)); exact HO_250002.out))) (Kd.PB_lt (by (with_reducible repeat (first | apply Kd.PB_alloc | apply Kd.PB_drewN | apply Kd.PB_drew)); exact HO_250003.out))) (Kd.PB_lt (by (with_reducible repeat (first | apply Kd.PB_alloc | apply Kd.PB_drewN | apply Kd.PB_drew)); exact HO256.out))) (Kd.PB_lt (by (with_reducible repeat (first | apply Kd.PB_alloc | apply Kd.PB_drewN | apply Kd.PB_drew)); exact HO259.out))) (Kd.PB_lt (by (with_reducible repeat (first | apply Kd.PB_alloc | apply Kd.PB_drewN | apply Kd.PB_drew)); exact HO265.out))) (Kd.PB_lt (by (with_reducible repeat (first | apply Kd.PB_alloc | apply Kd.PB_drewN | apply Kd.PB_drew)); exact HO268.out))) (below_size (by repeat (first | (with_reducible first | exact HB.out | apply below_alloc | apply pw_below_drewN | apply below_drew1 | refine below_set ?_ GE210.out | refine below_set ?_ GE211.out | refine below_set ?_ GE240.out | refine below_set ?_ GE249.out) | exact HB.out))))
          have n9_ := Aside0.mk (Kd.PB_lower (Kd.PB_new' (Kd.PB_new' (Kd.PB_new' (Kd.PB_new' (Kd.PB_new' (Kd.PB_new' (Kd.PB_new' (Kd.PB_new' ho1 (Kd.PB_lt (by (with_reducible repeat (first | apply Kd.PB_alloc | apply Kd.PB_drewN | apply Kd.PB_drew)); exact HO_241002.out))) (Kd.PB_lt (by (with_reducible repeat (first | apply Kd.PB_alloc | apply Kd.PB_drewN | apply Kd.PB_drew)); exact HO_241003.out))) (Kd.PB_lt (by (with_reducible repeat (first | apply Kd.PB_alloc | apply Kd.PB_drewN | apply Kd.PB_drew)); exact HO_250002.out))) (Kd.PB_lt (by (with_reducible repeat (first | apply Kd.PB_alloc | apply Kd.PB_drewN | apply Kd.PB_drew)); exact HO_250003.out))) (Kd.PB_lt (by (with_reducible repeat (first | apply Kd.PB_alloc | apply Kd.PB_drewN | apply Kd.PB_drew)); exact HO256.out))) (Kd.PB_lt (by (with_reducible repeat (first | apply Kd.PB_alloc | apply Kd.PB_drewN | apply Kd.PB_drew)); exact HO259.out))) (Kd.PB_lt (by (with_reducible repeat (first | apply Kd.PB_alloc | apply Kd.PB_drewN | apply Kd.PB_drew)); exact HO265.out))) (Kd.PB_lt (by (with_reducible repeat (first | apply Kd.PB_alloc | apply Kd.PB_drewN | apply Kd.PB_drew)); exact HO268.out))) (below_size (by repeat (first | (with_reducible first | exact HB.out | apply below_alloc | apply pw_below_drewN | apply below_drew1 | refine below_set ?_ GE210.out | refine below_set ?_ GE211.out | refine below_set ?_ GE240.out | refine below_set ?_ GE249.out) | exact HB.out))))
          have n10_ := Aside0.mk (blk_below (g := gb210) (o := .cells #[.int .i64 a0_0, .int .i64 a0_1, .slice A0_2 l0_2.length c0_2, .slice A0_3 l0_3.length c0_3] 24 (0, 0)) (by (with_reducible repeat (first | refine blk_drewN ?_ _ | refine blk_drew ?_ | refine blk_alloc ?_ _)); exact BK210.out) hb)
          have n11_ := Aside0.mk (blk_below (g := gb211) (o := .cells #[.int .i64 a1_0, .int .i64 a1_1, .slice A1_2 l1_2.length c1_2, .slice A1_3 l1_3.length c1_3] 24 (0, 0)) (by (with_reducible repeat (first | refine blk_drewN ?_ _ | refine blk_drew ?_ | refine blk_alloc ?_ _)); exact BK211.out) hb)
          have n12_ := Aside0.mk (blk_below (g := gb240) (o := .cells #[.int .i64 t232, .int .i64 t233, .slice Ao48 t234.length co48, .slice Ao49 t237.length co49] 28 (0, 0)) (by (with_reducible repeat (first | refine blk_drewN ?_ _ | refine blk_drew ?_ | refine blk_alloc ?_ _)); exact BK240.out) hb)
          have n13_ := Aside0.mk (blk_below (g := gb249) (o := .cells #[.int .i64 t241, .int .i64 t242, .slice Ao57 t243.length co57, .slice Ao58 t246.length co58] 28 (0, 0)) (by (with_reducible repeat (first | refine blk_drewN ?_ _ | refine blk_drew ?_ | refine blk_alloc ?_ _)); exact BK249.out) hb)
          have n14_ := Aside0.mk (below_step (by repeat (first | (with_reducible first | exact HB.out | apply below_alloc | apply pw_below_drewN | apply below_drew1 | refine below_set ?_ GE210.out | refine below_set ?_ GE211.out | refine below_set ?_ GE240.out | refine below_set ?_ GE249.out) | exact HB.out)) hb)
          clear HO_241002
          clear HO_241003
          clear HO_250002
          clear HO_250003
          clear HO256
          clear HO259
          clear HO265
          clear HO268
          clear BK210
          clear BK211
          clear BK240
          clear BK249
          clear HB
          have HO_241002 := n0_
          have HO_241003 := n1_
          have HO_250002 := n2_
          have HO_250003 := n3_
          have HO256 := n4_
          have HO259 := n5_
          have HO265 := n6_
          have HO268 := n7_
          have HO274 := n8_
          have HO277 := n9_
          have BK210 := n10_
          have BK211 := n11_
          have BK240 := n12_
          have BK249 := n13_
          have HB := n14_
          clear n0_ n1_ n2_ n3_ n4_ n5_ n6_ n7_ n8_ n9_ n10_ n11_ n12_ n13_ n14_
          (try clear hb)
          (try clear hb2)
          (try clear hk)
          (try clear hi)
          (try clear ho0)
          (try clear ho1)
          refine hK.out _ _ ⟨(blk_cell BK210.out 0).trans rfl, (blk_cell BK210.out 1).trans rfl, (blk_cell BK210.out 2).trans rfl, (blk_cell BK210.out 3).trans rfl, (blk_cell BK211.out 0).trans rfl, (blk_cell BK211.out 1).trans rfl, (blk_cell BK211.out 2).trans rfl, (blk_cell BK211.out 3).trans rfl⟩ (fun hHeld => ?_)
          clear hK K
          refine norm_ (a' := ?_) ?_ ?_
          rotate_left
          ·show Act.put _ (some 66) _ = _
           simp only [Act.put, List.setIfInBounds_toArray, List.set_cons_zero, List.set_cons_succ, i64_w, i32_w]
           rfl
          refine one_ (i := 3) (N := some 68) #[true, true, true, true, true, false, false, false, false, false, false] rfl rfl (one_of HT_.out (by kernel_rfl)) (by decide) (fun K hK => ?_)
          refine goes_ Try.func8 (by kernel_rfl) rfl #[.agg #[.int .i64 a1_0, .int .i64 a1_1, .slice A1_2 l1_2.length c1_2, .slice A1_3 l1_3.length c1_3], .bool true] (by rfl) rfl rfl (by (try simp only [List.map_toArray, List.map_cons, List.map_nil]); first | done | rfl | (simp only [List.length_drop, List.length_take]; rfl)) ?_
          with_reducible refine (laws_toFigure.calls a1_0 a1_1 _ _ l1_2 _ _ l1_3 true t278 t279 t280 t283 _ ?side1 ?side2 ?side3 ?side4 A70.out).mono ?_
          (case side1 => repeat (first | exact (Kd.C_below HR1_2.out HB.out) | (with_reducible refine Kd.C_alloc ?_ _) | (with_reducible refine Kd.C_drewN ?_ _) | (with_reducible refine Kd.C_drew ?_)))
          (case side2 => exact HC1_2.out)
          (case side3 => repeat (first | exact (Kd.C_below HR1_3.out HB.out) | (with_reducible refine Kd.C_alloc ?_ _) | (with_reducible refine Kd.C_drewN ?_ _) | (with_reducible refine Kd.C_drew ?_)))
          (case side4 => exact HC1_3.out)
          rintro e w86 ⟨v281, v284, rfl, ho0, ho1, hb⟩
          refine ⟨_, rfl, ?_⟩
          have n0_ := Aside0.mk (Kd.PB_mono (Kd.PB_told (Kd.PB_told (Kd.PB_old (by (with_reducible repeat (first | apply Kd.PB_alloc | apply Kd.PB_drewN | apply Kd.PB_drew)); exact HO_241002.out) hb) (Kd.PB_base ho0)) (Kd.PB_base ho1)) (fun _ h_ => h_.1))
          have n1_ := Aside0.mk (Kd.PB_mono (Kd.PB_told (Kd.PB_told (Kd.PB_old (by (with_reducible repeat (first | apply Kd.PB_alloc | apply Kd.PB_drewN | apply Kd.PB_drew)); exact HO_241003.out) hb) (Kd.PB_base ho0)) (Kd.PB_base ho1)) (fun _ h_ => h_.1))
          have n2_ := Aside0.mk (Kd.PB_mono (Kd.PB_told (Kd.PB_told (Kd.PB_old (by (with_reducible repeat (first | apply Kd.PB_alloc | apply Kd.PB_drewN | apply Kd.PB_drew)); exact HO_250002.out) hb) (Kd.PB_base ho0)) (Kd.PB_base ho1)) (fun _ h_ => h_.1))
          have n3_ := Aside0.mk (Kd.PB_mono (Kd.PB_told (Kd.PB_told (Kd.PB_old (by (with_reducible repeat (first | apply Kd.PB_alloc | apply Kd.PB_drewN | apply Kd.PB_drew)); exact HO_250003.out) hb) (Kd.PB_base ho0)) (Kd.PB_base ho1)) (fun _ h_ => h_.1))
          have n4_ := Aside0.mk (Kd.PB_mono (Kd.PB_told (Kd.PB_told (Kd.PB_old (by (with_reducible repeat (first | apply Kd.PB_alloc | apply Kd.PB_drewN | apply Kd.PB_drew)); exact HO256.out) hb) (Kd.PB_base ho0)) (Kd.PB_base ho1)) (fun _ h_ => h_.1))
          have n5_ := Aside0.mk (Kd.PB_mono (Kd.PB_told (Kd.PB_told (Kd.PB_old (by (with_reducible repeat (first | apply Kd.PB_alloc | apply Kd.PB_drewN | apply Kd.PB_drew)); exact HO259.out) hb) (Kd.PB_base ho0)) (Kd.PB_base ho1)) (fun _ h_ => h_.1))
          have n6_ := Aside0.mk (Kd.PB_mono (Kd.PB_told (Kd.PB_told (Kd.PB_old (by (with_reducible repeat (first | apply Kd.PB_alloc | apply Kd.PB_drewN | apply Kd.PB_drew)); exact HO265.out) hb) (Kd.PB_base ho0)) (Kd.PB_base ho1)) (fun _ h_ => h_.1))
          have n7_ := Aside0.mk (Kd.PB_mono (Kd.PB_told (Kd.PB_told (Kd.PB_old (by (with_reducible repeat (first | apply Kd.PB_alloc | apply Kd.PB_drewN | apply Kd.PB_drew)); exact HO268.out) hb) (Kd.PB_base ho0)) (Kd.PB_base ho1)) (fun _ h_ => h_.1))
          have n8_ := Aside0.mk (Kd.PB_mono (Kd.PB_told (Kd.PB_told (Kd.PB_old (by (with_reducible repeat (first | apply Kd.PB_alloc | apply Kd.PB_drewN | apply Kd.PB_drew)); exact HO274.out) hb) (Kd.PB_base ho0)) (Kd.PB_base ho1)) (fun _ h_ => h_.1))
          have n9_ := Aside0.mk (Kd.PB_mono (Kd.PB_told (Kd.PB_told (Kd.PB_old (by (with_reducible repeat (first | apply Kd.PB_alloc | apply Kd.PB_drewN | apply Kd.PB_drew)); exact HO277.out) hb) (Kd.PB_base ho0)) (Kd.PB_base ho1)) (fun _ h_ => h_.1))
          have n10_ := Aside0.mk (Kd.PB_lower (Kd.PB_new' (Kd.PB_new' (Kd.PB_new' (Kd.PB_new' (Kd.PB_new' (Kd.PB_new' (Kd.PB_new' (Kd.PB_new' (Kd.PB_new' (Kd.PB_new' ho0 (Kd.PB_lt (by (with_reducible repeat (first | apply Kd.PB_alloc | apply Kd.PB_drewN | apply Kd.PB_drew)); exact HO_241002.out))) (Kd.PB_lt (by (with_reducible repeat (first | apply Kd.PB_alloc | apply Kd.PB_drewN | apply Kd.PB_drew)); exact HO_241003.out))) (Kd.PB_lt (by (with_reducible repeat (first | apply Kd.PB_alloc | apply Kd.PB_drewN | apply Kd.PB_drew)); exact HO_250002.out))) (Kd.PB_lt (by (with_reducible repeat (first | apply Kd.PB_alloc | apply Kd.PB_drewN | apply Kd.PB_drew)); exact HO_250003.out))) (Kd.PB_lt (by (with_reducible repeat (first | apply Kd.PB_alloc | apply Kd.PB_drewN | apply Kd.PB_drew)); exact HO256.out))) (Kd.PB_lt (by (with_reducible repeat (first | apply Kd.PB_alloc | apply Kd.PB_drewN | apply Kd.PB_drew)); exact HO259.out))) (Kd.PB_lt (by (with_reducible repeat (first | apply Kd.PB_alloc | apply Kd.PB_drewN | apply Kd.PB_drew)); exact HO265.out))) (Kd.PB_lt (by (with_reducible repeat (first | apply Kd.PB_alloc | apply Kd.PB_drewN | apply Kd.PB_drew)); exact HO268.out))) (Kd.PB_lt (by (with_reducible repeat (first | apply Kd.PB_alloc | apply Kd.PB_drewN | apply Kd.PB_drew)); exact HO274.out))) (Kd.PB_lt (by (with_reducible repeat (first | apply Kd.PB_alloc | apply Kd.PB_drewN | apply Kd.PB_drew)); exact HO277.out))) (below_size (by repeat (first | (with_reducible first | exact HB.out | apply below_alloc | apply pw_below_drewN | apply below_drew1 | refine below_set ?_ GE210.out | refine below_set ?_ GE211.out | refine below_set ?_ GE240.out | refine below_set ?_ GE249.out) | exact HB.out))))
          have n11_ := Aside0.mk (Kd.PB_lower (Kd.PB_new' (Kd.PB_new' (Kd.PB_new' (Kd.PB_new' (Kd.PB_new' (Kd.PB_new' (Kd.PB_new' (Kd.PB_new' (Kd.PB_new' (Kd.PB_new' ho1 (Kd.PB_lt (by (with_reducible repeat (first | apply Kd.PB_alloc | apply Kd.PB_drewN | apply Kd.PB_drew)); exact HO_241002.out))) (Kd.PB_lt (by (with_reducible repeat (first | apply Kd.PB_alloc | apply Kd.PB_drewN | apply Kd.PB_drew)); exact HO_241003.out))) (Kd.PB_lt (by (with_reducible repeat (first | apply Kd.PB_alloc | apply Kd.PB_drewN | apply Kd.PB_drew)); exact HO_250002.out))) (Kd.PB_lt (by (with_reducible repeat (first | apply Kd.PB_alloc | apply Kd.PB_drewN | apply Kd.PB_drew)); exact HO_250003.out))) (Kd.PB_lt (by (with_reducible repeat (first | apply Kd.PB_alloc | apply Kd.PB_drewN | apply Kd.PB_drew)); exact HO256.out))) (Kd.PB_lt (by (with_reducible repeat (first | apply Kd.PB_alloc | apply Kd.PB_drewN | apply Kd.PB_drew)); exact HO259.out))) (Kd.PB_lt (by (with_reducible repeat (first | apply Kd.PB_alloc | apply Kd.PB_drewN | apply Kd.PB_drew)); exact HO265.out))) (Kd.PB_lt (by (with_reducible repeat (first | apply Kd.PB_alloc | apply Kd.PB_drewN | apply Kd.PB_drew)); exact HO268.out))) (Kd.PB_lt (by (with_reducible repeat (first | apply Kd.PB_alloc | apply Kd.PB_drewN | apply Kd.PB_drew)); exact HO274.out))) (Kd.PB_lt (by (with_reducible repeat (first | apply Kd.PB_alloc | apply Kd.PB_drewN | apply Kd.PB_drew)); exact HO277.out))) (below_size (by repeat (first | (with_reducible first | exact HB.out | apply below_alloc | apply pw_below_drewN | apply below_drew1 | refine below_set ?_ GE210.out | refine below_set ?_ GE211.out | refine below_set ?_ GE240.out | refine below_set ?_ GE249.out) | exact HB.out))))
          have n12_ := Aside0.mk (blk_below (g := gb210) (o := .cells #[.int .i64 a0_0, .int .i64 a0_1, .slice A0_2 l0_2.length c0_2, .slice A0_3 l0_3.length c0_3] 24 (0, 0)) (by (with_reducible repeat (first | refine blk_drewN ?_ _ | refine blk_drew ?_ | refine blk_alloc ?_ _)); exact BK210.out) hb)
          have n13_ := Aside0.mk (blk_below (g := gb211) (o := .cells #[.int .i64 a1_0, .int .i64 a1_1, .slice A1_2 l1_2.length c1_2, .slice A1_3 l1_3.length c1_3] 24 (0, 0)) (by (with_reducible repeat (first | refine blk_drewN ?_ _ | refine blk_drew ?_ | refine blk_alloc ?_ _)); exact BK211.out) hb)
          have n14_ := Aside0.mk (blk_below (g := gb240) (o := .cells #[.int .i64 t232, .int .i64 t233, .slice Ao48 t234.length co48, .slice Ao49 t237.length co49] 28 (0, 0)) (by (with_reducible repeat (first | refine blk_drewN ?_ _ | refine blk_drew ?_ | refine blk_alloc ?_ _)); exact BK240.out) hb)
          have n15_ := Aside0.mk (blk_below (g := gb249) (o := .cells #[.int .i64 t241, .int .i64 t242, .slice Ao57 t243.length co57, .slice Ao58 t246.length co58] 28 (0, 0)) (by (with_reducible repeat (first | refine blk_drewN ?_ _ | refine blk_drew ?_ | refine blk_alloc ?_ _)); exact BK249.out) hb)
          have n16_ := Aside0.mk (below_step (by repeat (first | (with_reducible first | exact HB.out | apply below_alloc | apply pw_below_drewN | apply below_drew1 | refine below_set ?_ GE210.out | refine below_set ?_ GE211.out | refine below_set ?_ GE240.out | refine below_set ?_ GE249.out) | exact HB.out)) hb)
          clear HO_241002
          clear HO_241003
          clear HO_250002
          clear HO_250003
          clear HO256
          clear HO259
          clear HO265
          clear HO268
          clear HO274
          clear HO277
          clear BK210
          clear BK211
          clear BK240
          clear BK249
          clear HB
          have HO_241002 := n0_
          have HO_241003 := n1_
          have HO_250002 := n2_
          have HO_250003 := n3_
          have HO256 := n4_
          have HO259 := n5_
          have HO265 := n6_
          have HO268 := n7_
          have HO274 := n8_
          have HO277 := n9_
          have HO282 := n10_
          have HO285 := n11_
          have BK210 := n12_
          have BK211 := n13_
          have BK240 := n14_
          have BK249 := n15_
          have HB := n16_
          clear n0_ n1_ n2_ n3_ n4_ n5_ n6_ n7_ n8_ n9_ n10_ n11_ n12_ n13_ n14_ n15_ n16_
          (try clear hb)
          (try clear hb2)
          (try clear hk)
          (try clear hi)
          (try clear ho0)
          (try clear ho1)
          obtain ⟨Ao87, co87, eo87⟩ := Kd.PB_slice HO274.out
          (first | subst eo87 | (injection eo87 with f1_ f2_ f3_; have f4_ := f1_.symm; have f5_ := f3_.symm; clear f1_ f2_ f3_; subst f4_; subst f5_))
          obtain ⟨Ao88, co88, eo88⟩ := Kd.PB_slice HO277.out
          (first | subst eo88 | (injection eo88 with f1_ f2_ f3_; have f4_ := f1_.symm; have f5_ := f3_.symm; clear f1_ f2_ f3_; subst f4_; subst f5_))
          obtain ⟨Ao89, co89, eo89⟩ := Kd.PB_slice HO282.out
          (first | subst eo89 | (injection eo89 with f1_ f2_ f3_; have f4_ := f1_.symm; have f5_ := f3_.symm; clear f1_ f2_ f3_; subst f4_; subst f5_))
          obtain ⟨Ao90, co90, eo90⟩ := Kd.PB_slice HO285.out
          (first | subst eo90 | (injection eo90 with f1_ f2_ f3_; have f4_ := f1_.symm; have f5_ := f3_.symm; clear f1_ f2_ f3_; subst f4_; subst f5_))
          refine hK.out _ _ ⟨(blk_cell BK210.out 0).trans rfl, (blk_cell BK210.out 1).trans rfl, (blk_cell BK210.out 2).trans rfl, (blk_cell BK210.out 3).trans rfl, (blk_cell BK211.out 0).trans rfl, (blk_cell BK211.out 1).trans rfl, (blk_cell BK211.out 2).trans rfl, (blk_cell BK211.out 3).trans rfl⟩ (fun hHeld => ?_)
          clear hK K
          refine norm_ (a' := ?_) ?_ ?_
          rotate_left
          ·show Act.put _ (some 68) _ = _
           simp only [Act.put, List.setIfInBounds_toArray, List.set_cons_zero, List.set_cons_succ, i64_w, i32_w]
           rfl
          refine one_ (i := 5) (N := some 70) #[true, true, true, true, true, true, false, false, false, false, false] rfl rfl (one_of HT_.out (by kernel_rfl)) (by decide) (fun K hK => ?_)
          refine goes_ Try.func12 (by kernel_rfl) rfl #[.agg #[.int .i64 t270, .int .i64 t271, .slice Ao87 t272.length co87, .slice Ao88 t275.length co88], .agg #[.int .i64 t278, .int .i64 t279, .slice Ao89 t280.length co89, .slice Ao90 t283.length co90], .int .i64 a2] (by rfl) rfl rfl (by (try simp only [List.map_toArray, List.map_cons, List.map_nil]); first | done | rfl | (simp only [List.length_drop, List.length_take]; rfl)) ?_
          with_reducible refine (impl_IsMoveOf.calls kj25 t270 t271 _ _ t272 _ _ t275 t278 t279 _ _ t280 _ _ t283 a2 t286 t287 _ ?side1 ?side2 ?side3 ?side4 ?side5 ?side6 ?side7 ?side8 A71.out).mono ?_
          (case side1 => repeat (first | exact (Kd.PB_reads' HO274.out).2.2 | (with_reducible refine Kd.C_alloc ?_ _) | (with_reducible refine Kd.C_drewN ?_ _) | (with_reducible refine Kd.C_drew ?_)))
          (case side2 => exact (Kd.PB_reads' HO274.out).2.1)
          (case side3 => repeat (first | exact (Kd.PB_reads' HO277.out).2.2 | (with_reducible refine Kd.C_alloc ?_ _) | (with_reducible refine Kd.C_drewN ?_ _) | (with_reducible refine Kd.C_drew ?_)))
          (case side4 => exact (Kd.PB_reads' HO277.out).2.1)
          (case side5 => repeat (first | exact (Kd.PB_reads' HO282.out).2.2 | (with_reducible refine Kd.C_alloc ?_ _) | (with_reducible refine Kd.C_drewN ?_ _) | (with_reducible refine Kd.C_drew ?_)))
          (case side6 => exact (Kd.PB_reads' HO282.out).2.1)
          (case side7 => repeat (first | exact (Kd.PB_reads' HO285.out).2.2 | (with_reducible refine Kd.C_alloc ?_ _) | (with_reducible refine Kd.C_drewN ?_ _) | (with_reducible refine Kd.C_drew ?_)))
          (case side8 => exact (Kd.PB_reads' HO285.out).2.1)
          rintro e w91 ⟨rfl, hb⟩
          refine ⟨_, rfl, ?_⟩
          have n0_ := Aside0.mk (Kd.PB_below (by (with_reducible repeat (first | apply Kd.PB_alloc | apply Kd.PB_drewN | apply Kd.PB_drew)); exact HO_241002.out) hb)
          have n1_ := Aside0.mk (Kd.PB_below (by (with_reducible repeat (first | apply Kd.PB_alloc | apply Kd.PB_drewN | apply Kd.PB_drew)); exact HO_241003.out) hb)
          have n2_ := Aside0.mk (Kd.PB_below (by (with_reducible repeat (first | apply Kd.PB_alloc | apply Kd.PB_drewN | apply Kd.PB_drew)); exact HO_250002.out) hb)
          have n3_ := Aside0.mk (Kd.PB_below (by (with_reducible repeat (first | apply Kd.PB_alloc | apply Kd.PB_drewN | apply Kd.PB_drew)); exact HO_250003.out) hb)
          have n4_ := Aside0.mk (Kd.PB_below (by (with_reducible repeat (first | apply Kd.PB_alloc | apply Kd.PB_drewN | apply Kd.PB_drew)); exact HO256.out) hb)
          have n5_ := Aside0.mk (Kd.PB_below (by (with_reducible repeat (first | apply Kd.PB_alloc | apply Kd.PB_drewN | apply Kd.PB_drew)); exact HO259.out) hb)
          have n6_ := Aside0.mk (Kd.PB_below (by (with_reducible repeat (first | apply Kd.PB_alloc | apply Kd.PB_drewN | apply Kd.PB_drew)); exact HO265.out) hb)
          have n7_ := Aside0.mk (Kd.PB_below (by (with_reducible repeat (first | apply Kd.PB_alloc | apply Kd.PB_drewN | apply Kd.PB_drew)); exact HO268.out) hb)
          have n8_ := Aside0.mk (Kd.PB_below (by (with_reducible repeat (first | apply Kd.PB_alloc | apply Kd.PB_drewN | apply Kd.PB_drew)); exact HO274.out) hb)
          have n9_ := Aside0.mk (Kd.PB_below (by (with_reducible repeat (first | apply Kd.PB_alloc | apply Kd.PB_drewN | apply Kd.PB_drew)); exact HO277.out) hb)
          have n10_ := Aside0.mk (Kd.PB_below (by (with_reducible repeat (first | apply Kd.PB_alloc | apply Kd.PB_drewN | apply Kd.PB_drew)); exact HO282.out) hb)
          have n11_ := Aside0.mk (Kd.PB_below (by (with_reducible repeat (first | apply Kd.PB_alloc | apply Kd.PB_drewN | apply Kd.PB_drew)); exact HO285.out) hb)
          have n12_ := Aside0.mk (blk_below (g := gb210) (o := .cells #[.int .i64 a0_0, .int .i64 a0_1, .slice A0_2 l0_2.length c0_2, .slice A0_3 l0_3.length c0_3] 24 (0, 0)) (by (with_reducible repeat (first | refine blk_drewN ?_ _ | refine blk_drew ?_ | refine blk_alloc ?_ _)); exact BK210.out) hb)
          have n13_ := Aside0.mk (blk_below (g := gb211) (o := .cells #[.int .i64 a1_0, .int .i64 a1_1, .slice A1_2 l1_2.length c1_2, .slice A1_3 l1_3.length c1_3] 24 (0, 0)) (by (with_reducible repeat (first | refine blk_drewN ?_ _ | refine blk_drew ?_ | refine blk_alloc ?_ _)); exact BK211.out) hb)
          have n14_ := Aside0.mk (blk_below (g := gb240) (o := .cells #[.int .i64 t232, .int .i64 t233, .slice Ao48 t234.length co48, .slice Ao49 t237.length co49] 28 (0, 0)) (by (with_reducible repeat (first | refine blk_drewN ?_ _ | refine blk_drew ?_ | refine blk_alloc ?_ _)); exact BK240.out) hb)
          have n15_ := Aside0.mk (blk_below (g := gb249) (o := .cells #[.int .i64 t241, .int .i64 t242, .slice Ao57 t243.length co57, .slice Ao58 t246.length co58] 28 (0, 0)) (by (with_reducible repeat (first | refine blk_drewN ?_ _ | refine blk_drew ?_ | refine blk_alloc ?_ _)); exact BK249.out) hb)
          have n16_ := Aside0.mk (below_step (by repeat (first | (with_reducible first | exact HB.out | apply below_alloc | apply pw_below_drewN | apply below_drew1 | refine below_set ?_ GE210.out | refine below_set ?_ GE211.out | refine below_set ?_ GE240.out | refine below_set ?_ GE249.out) | exact HB.out)) hb)
          clear HO_241002
          clear HO_241003
          clear HO_250002
          clear HO_250003
          clear HO256
          clear HO259
          clear HO265
          clear HO268
          clear HO274
          clear HO277
          clear HO282
          clear HO285
          clear BK210
          clear BK211
          clear BK240
          clear BK249
          clear HB
          have HO_241002 := n0_
          have HO_241003 := n1_
          have HO_250002 := n2_
          have HO_250003 := n3_
          have HO256 := n4_
          have HO259 := n5_
          have HO265 := n6_
          have HO268 := n7_
          have HO274 := n8_
          have HO277 := n9_
          have HO282 := n10_
          have HO285 := n11_
          have BK210 := n12_
          have BK211 := n13_
          have BK240 := n14_
          have BK249 := n15_
          have HB := n16_
          clear n0_ n1_ n2_ n3_ n4_ n5_ n6_ n7_ n8_ n9_ n10_ n11_ n12_ n13_ n14_ n15_ n16_
          (try clear hb)
          (try clear hb2)
          (try clear hk)
          (try clear hi)
          refine hK.out _ _ ⟨(blk_cell BK210.out 0).trans rfl, (blk_cell BK210.out 1).trans rfl, (blk_cell BK210.out 2).trans rfl, (blk_cell BK210.out 3).trans rfl, (blk_cell BK211.out 0).trans rfl, (blk_cell BK211.out 1).trans rfl, (blk_cell BK211.out 2).trans rfl, (blk_cell BK211.out 3).trans rfl⟩ (fun hHeld => ?_)
          clear hK K
          refine norm_ (a' := ?_) ?_ ?_
          rotate_left
          ·show Act.put _ (some 70) _ = _
           simp only [Act.put, List.setIfInBounds_toArray, List.set_cons_zero, List.set_cons_succ, i64_w, i32_w]
           rfl
          refine pure_ (i := 6) (N := some 64) (v := ?_) (a' := ?_) #[true, true, true, true, true, true, true, false, false, false, false] rfl rfl (any_of HT_.out (by kernel_rfl)) (fun _ _ _ h => h) (Or.inl ⟨by rfl, ?_⟩) ?_ ?_
          rotate_left
          ·intro w'
           go_simp
           with_reducible rfl
          rotate_left
          ·simp only [Act.put, List.setIfInBounds_toArray, List.set_cons_zero, List.set_cons_succ, i64_w, i32_w]
           rfl
          refine pure_ (i := 7) (N := some 71) (v := ?_) (a' := ?_) #[true, true, true, true, true, true, true, true, false, false, false] rfl rfl (any_of HT_.out (by kernel_rfl)) (fun _ _ _ h => h) (Or.inl ⟨by rfl, ?_⟩) ?_ ?_
          rotate_left
          ·intro w'
           go_simp
           with_reducible rfl
          rotate_left
          ·simp only [Act.put, List.setIfInBounds_toArray, List.set_cons_zero, List.set_cons_succ, i64_w, i32_w]
           rfl
          refine pure_ (i := 8) (N := some 72) (v := ?_) (a' := ?_) #[true, true, true, true, true, true, true, true, true, false, false] rfl rfl (any_of HT_.out (by kernel_rfl)) (fun _ _ _ h => h) (Or.inl ⟨by rfl, ?_⟩) ?_ ?_
          rotate_left
          ·intro w'
           go_simp
           with_reducible rfl
          rotate_left
          ·simp only [Act.put, List.setIfInBounds_toArray, List.set_cons_zero, List.set_cons_succ, i64_w, i32_w]
           rfl
          refine pure_ (i := 9) (N := some 14) (v := ?_) (a' := ?_) #[true, true, true, true, true, true, true, true, true, true, false] rfl rfl (any_of HT_.out (by kernel_rfl)) (fun _ _ _ h => h) (Or.inl ⟨by rfl, ?_⟩) ?_ ?_
          rotate_left
          ·intro w'
           go_simp
           with_reducible rfl
          rotate_left
          ·simp only [Act.put, List.setIfInBounds_toArray, List.set_cons_zero, List.set_cons_succ, i64_w, i32_w]
           rfl
          refine pure_ (i := 10) (N := some 15) (v := ?_) (a' := ?_) #[true, true, true, true, true, true, true, true, true, true, true] rfl rfl (any_of HT_.out (by kernel_rfl)) (fun _ _ _ h => h) (Or.inl ⟨by rfl, ?_⟩) ?_ ?_
          rotate_left
          ·intro w'
           go_simp
           with_reducible rfl
          rotate_left
          ·simp only [Act.put, List.setIfInBounds_toArray, List.set_cons_zero, List.set_cons_succ, i64_w, i32_w]
           rfl
          refine done_ (done_of HT_.out (by kernel_rfl)) ?_
          try go_wp2
          go_ret
          exact ⟨by first | rfl | (simp [errW_none, errW_some] <;> rfl) | (simp [*, errW_none, errW_some] <;> rfl), by repeat (first | (with_reducible first | exact HB.out | apply below_alloc | apply pw_below_drewN | apply below_drew1 | refine below_set ?_ GE210.out | refine below_set ?_ GE211.out | refine below_set ?_ GE240.out | refine below_set ?_ GE249.out) | exact HB.out)⟩
       ·replace c68 := Bool.eq_false_iff.mpr c68
        subst c68
        have H1 : (some false) = some r := by rw [if_neg (show ¬ (false = true) by decide)] at H; exact H
        clear H
        have H := H1
        clear H1
        exact absurd ((Option.some.inj H).trans HR_.out) Bool.false_ne_true
      ·replace c65 := Bool.eq_false_iff.mpr c65
       subst c65
       have H1 : (some false) = some r := by rw [if_neg (show ¬ (false = true) by decide)] at H; exact H
       clear H
       have H := H1
       clear H1
       exact absurd ((Option.some.inj H).trans HR_.out) Bool.false_ne_true

/-- THE ONE PURE STATEMENT of laws_FnExactIsMoveOf. -/
def laws_FnExactIsMoveOf.Pure : Prop := ∀ (a0_0 : Int) (a0_1 : Int) (l0_2 : List Int) (l0_3 : List Int) (a1_0 : Int) (a1_1 : Int) (l1_2 : List Int) (l1_3 : List Int) (a2 : Int), (Lit.int .i64 a0_0).wf = true → (Lit.int .i64 a0_1).wf = true → l0_2.length ≤ maxLen → (∀ x ∈ l0_2, (Lit.int .i64 x).wf = true) → l0_3.length ≤ maxLen → (∀ x ∈ l0_3, (Lit.int .i64 x).wf = true) → (Lit.int .i64 a1_0).wf = true → (Lit.int .i64 a1_1).wf = true → l1_2.length ≤ maxLen → (∀ x ∈ l1_2, (Lit.int .i64 x).wf = true) → l1_3.length ≤ maxLen → (∀ x ∈ l1_3, (Lit.int .i64 x).wf = true) → (Lit.int .i64 a2).wf = true → ∃ k, laws_FnExactIsMoveOf.f k a0_0 a0_1 l0_2 l0_3 a1_0 a1_1 l1_2 l1_3 a2 = some true

end Go.Proofs.Ytnmngpgjkokdaaa.Q
