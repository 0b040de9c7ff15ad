-- written by a program of this session, pm.py, for this claim
-- half the indentation
import Derived.Test.YtmlkihaoeopobaaDoorQFnExactFigureOfStrokex0
import Derived.Test.YtmlkihaoeopobaaDoorQFnExactFigureOfStrokex1
import Derived.Test.YtmlkihaoeopobaaDoorQFnExactFigureOfStrokex7
import Derived.Test.YtmlkihaoeopobaaDoorQFnExactFigureOfStrokex8
namespace Go.Proofs.YtmlkihaoeopobaaDoor.Q
open Go.RowKit Go.Proofs.YtmlkihaoeopobaaDoorW.PrintWords Go.Proofs.YtmlkihaoeopobaaDoorW.PrintLast Go.Proofs.YtmlkihaoeopobaaDoorW.PrintMore
attribute [local go_sem] max2_int min2_int max_two min_two max_three min_three max_four min_four   -- for this text's walks alone
set_option linter.unusedVariables false
set_option linter.unusedSimpArgs false

/-! ### laws_FnExactFigureOfStroke: function 9 -/
mutual
def laws_FnExactFigureOfStroke.j0 : Nat → Int → Int → ByteArray → Bool → Bool → Int → Int → Int → Int → List Int → List Int → Int → Int → List Int → List Int → Option (Bool)
 | 0, _, _, _, _, _, _, _, _, _, _, _, _, _, _, _ => none
 | k + 1, x0, x1, x3, x10, x46, x420000, x420001, x432000, x432001, x432002, x432003, x444000, x444001, x444002, x444003 => if x46 = true then (some false) else ((laws_markFigure.f k x444000 x444001 x444002 x444003 101).bind fun bt445 => ((laws_heldFigure.f k x444000 x444001 bt445.2.1 bt445.2.2 101).bind fun t448 => (if t448 < 0 then (some false) else (if t448 = bt445.1 then ((laws_toCorner.f x420000 x420001).bind fun bt449 => ((impl_FigureOfStroke.f k x0 x1 bt449.1 bt449.2 x3).bind fun bt451 => ((laws_eqFigure.f k bt451.1 bt451.2.1 bt451.2.2.1 bt451.2.2.2.1 x432000 x432001 x432002 x432003).bind fun t461 => (if t461 = true then (laws_FnExactFigureOfStroke.j1 k bt445.1 (bt451.2.2.2.2 != x10) x444000 x444001 bt445.2.1 bt445.2.2) else (laws_FnExactFigureOfStroke.j1 k bt445.1 true x444000 x444001 bt445.2.1 bt445.2.2))))) else (some false)))))
def laws_FnExactFigureOfStroke.j1 : Nat → Int → Bool → Int → Int → List Int → List Int → Option (Bool)
 | 0, _, _, _, _, _, _ => none
 | k + 1, x13, x75, x444000, x444001, x444002, x444003 => if x75 = true then (some false) else ((laws_heldFigure.f k x444000 x444001 x444002 x444003 101).bind fun t462 => (if t462 < 0 then (some false) else (if t462 = x13 then (some true) else (some false))))
end
def laws_FnExactFigureOfStroke.f (k : Nat) (a0 : Int) (a1 : Int) (a2_0 : Int) (a2_1 : Int) (a3 : ByteArray) : Option (Bool) := if (a3.size : Int) > 1000000 then (some true) else ((laws_toCorner.f a2_0 a2_1).bind fun bt420 => ((spec_FigureOfStroke.f k a0 a1 bt420.1 bt420.2 a3).bind fun bt422 => ((laws_toCorner.f a2_0 a2_1).bind fun bt432 => ((impl_FigureOfStroke.f k a0 a1 bt432.1 bt432.2 a3).bind fun bt434 => ((laws_eqFigure.f k bt434.1 bt434.2.1 bt434.2.2.1 bt434.2.2.2.1 bt422.1 bt422.2.1 bt422.2.2.1 bt422.2.2.2.1).bind fun t444 => (if t444 = true then (laws_FnExactFigureOfStroke.j0 k a0 a1 a3 bt422.2.2.2.2 (bt434.2.2.2.2 != bt422.2.2.2.2) a2_0 a2_1 bt422.1 bt422.2.1 bt422.2.2.1 bt422.2.2.2.1 bt434.1 bt434.2.1 bt434.2.2.1 bt434.2.2.2.1) else (laws_FnExactFigureOfStroke.j0 k a0 a1 a3 bt422.2.2.2.2 true a2_0 a2_1 bt422.1 bt422.2.1 bt422.2.2.1 bt422.2.2.2.1 bt434.1 bt434.2.1 bt434.2.2.1 bt434.2.2.2.1)))))))
theorem laws_FnExactFigureOfStroke.mono_l : ∀ k, (∀ y0 y1 y2 y3 y4 y5 y6 y7 y8 y9 y10 y11 y12 y13 y14, LeO (laws_FnExactFigureOfStroke.j0 k y0 y1 y2 y3 y4 y5 y6 y7 y8 y9 y10 y11 y12 y13 y14) (laws_FnExactFigureOfStroke.j0 (k + 1) y0 y1 y2 y3 y4 y5 y6 y7 y8 y9 y10 y11 y12 y13 y14)) ∧ (∀ y0 y1 y2 y3 y4 y5, LeO (laws_FnExactFigureOfStroke.j1 k y0 y1 y2 y3 y4 y5) (laws_FnExactFigureOfStroke.j1 (k + 1) y0 y1 y2 y3 y4 y5))
 | 0 => ⟨fun _ _ _ _ _ _ _ _ _ _ _ _ _ _ _ r h => by simp [laws_FnExactFigureOfStroke.j0] at h, fun _ _ _ _ _ _ r h => by simp [laws_FnExactFigureOfStroke.j1] at h⟩
 | k + 1 => by
  obtain ⟨ih0, ih1⟩ := laws_FnExactFigureOfStroke.mono_l k
  refine ⟨?_, ?_⟩
  ·intro y0 y1 y2 y3 y4 y5 y6 y7 y8 y9 y10 y11 y12 y13 y14
   unfold laws_FnExactFigureOfStroke.j0
   repeat' first
   | (with_reducible exact ih0 _ _ _ _ _ _ _ _ _ _ _ _ _ _ _)
   | (with_reducible exact ih1 _ _ _ _ _ _)
   | (with_reducible exact impl_FigureOfStroke.mono _ _ _ _ _ _)
   | (with_reducible exact laws_eqFigure.mono _ _ _ _ _ _ _ _ _)
   | (with_reducible exact laws_heldFigure.mono _ _ _ _ _ _)
   | (with_reducible exact laws_markFigure.mono _ _ _ _ _ _)
   | (with_reducible exact spec_FigureOfStroke.mono _ _ _ _ _ _)
   | (with_reducible exact LeO.refl _)
   | (with_reducible exact LeO.none _)
   | (with_reducible refine LeO.ite ?_ ?_)
   | (with_reducible refine LeO.bind ?_ (fun _ => ?_))
   | exact ih0 _ _ _ _ _ _ _ _ _ _ _ _ _ _ _
   | exact ih1 _ _ _ _ _ _
   | exact impl_FigureOfStroke.mono _ _ _ _ _ _
   | exact laws_eqFigure.mono _ _ _ _ _ _ _ _ _
   | exact laws_heldFigure.mono _ _ _ _ _ _
   | exact laws_markFigure.mono _ _ _ _ _ _
   | exact spec_FigureOfStroke.mono _ _ _ _ _ _
   | exact LeO.none _
   | refine LeO.ite ?_ ?_
   | refine LeO.bind ?_ (fun _ => ?_)
  ·intro y0 y1 y2 y3 y4 y5
   unfold laws_FnExactFigureOfStroke.j1
   repeat' first
   | (with_reducible exact ih0 _ _ _ _ _ _ _ _ _ _ _ _ _ _ _)
   | (with_reducible exact ih1 _ _ _ _ _ _)
   | (with_reducible exact impl_FigureOfStroke.mono _ _ _ _ _ _)
   | (with_reducible exact laws_eqFigure.mono _ _ _ _ _ _ _ _ _)
   | (with_reducible exact laws_heldFigure.mono _ _ _ _ _ _)
   | (with_reducible exact laws_markFigure.mono _ _ _ _ _ _)
   | (with_reducible exact spec_FigureOfStroke.mono _ _ _ _ _ _)
   | (with_reducible exact LeO.refl _)
   | (with_reducible exact LeO.none _)
   | (with_reducible refine LeO.ite ?_ ?_)
   | (with_reducible refine LeO.bind ?_ (fun _ => ?_))
   | exact ih0 _ _ _ _ _ _ _ _ _ _ _ _ _ _ _
   | exact ih1 _ _ _ _ _ _
   | exact impl_FigureOfStroke.mono _ _ _ _ _ _
   | exact laws_eqFigure.mono _ _ _ _ _ _ _ _ _
   | exact laws_heldFigure.mono _ _ _ _ _ _
   | exact laws_markFigure.mono _ _ _ _ _ _
   | exact spec_FigureOfStroke.mono _ _ _ _ _ _
   | exact LeO.none _
   | refine LeO.ite ?_ ?_
   | refine LeO.bind ?_ (fun _ => ?_)
theorem laws_FnExactFigureOfStroke.mono : ∀ a0 a1 a2 a3 a4 k, LeO (laws_FnExactFigureOfStroke.f k a0 a1 a2 a3 a4) (laws_FnExactFigureOfStroke.f (k + 1) a0 a1 a2 a3 a4) := by
 intro a0 a1 a2 a3 a4 k
 obtain ⟨ih0, ih1⟩ := laws_FnExactFigureOfStroke.mono_l k
 unfold laws_FnExactFigureOfStroke.f
 repeat' first
   | (with_reducible exact ih0 _ _ _ _ _ _ _ _ _ _ _ _ _ _ _)
   | (with_reducible exact ih1 _ _ _ _ _ _)
   | (with_reducible exact impl_FigureOfStroke.mono _ _ _ _ _ _)
   | (with_reducible exact laws_eqFigure.mono _ _ _ _ _ _ _ _ _)
   | (with_reducible exact laws_heldFigure.mono _ _ _ _ _ _)
   | (with_reducible exact laws_markFigure.mono _ _ _ _ _ _)
   | (with_reducible exact spec_FigureOfStroke.mono _ _ _ _ _ _)
   | (with_reducible exact LeO.refl _)
   | (with_reducible exact LeO.none _)
   | (with_reducible refine LeO.ite ?_ ?_)
   | (with_reducible refine LeO.bind ?_ (fun _ => ?_))
   | exact ih0 _ _ _ _ _ _ _ _ _ _ _ _ _ _ _
   | exact ih1 _ _ _ _ _ _
   | exact impl_FigureOfStroke.mono _ _ _ _ _ _
   | exact laws_eqFigure.mono _ _ _ _ _ _ _ _ _
   | exact laws_heldFigure.mono _ _ _ _ _ _
   | exact laws_markFigure.mono _ _ _ _ _ _
   | exact spec_FigureOfStroke.mono _ _ _ _ _ _
   | exact LeO.none _
   | refine LeO.ite ?_ ?_
   | refine LeO.bind ?_ (fun _ => ?_)
set_option maxHeartbeats 8000000 in
set_option maxRecDepth 100000 in
theorem laws_FnExactFigureOfStroke.calls (k : Nat) (a0 : Int) (a1 : Int) (a2_0 : Int) (a2_1 : Int) (a3 : ByteArray) (r : Bool) (w : World) (hG : LaidG w) (hr_ : r = true) (h : laws_FnExactFigureOfStroke.f k a0 a1 a2_0 a2_1 a3 = some r) :
  Calls Tryd.prog 9 #[.int .i64 a0, .int .i64 a1, .agg #[.int .i64 a2_0, .int .i64 a2_1], .string a3] w fun e w' => e = .returned (.bool r) ∧ Below w.heap.size w w' := by
 have hu41 := Tryd.underlying41
 have hu26 := Tryd.underlying26
 have HG := Aside0.mk hG
 clear hG
 have HR_ := Aside0.mk hr_
 clear hr_
 have HB := Aside0.mk (Below.refl w.heap.size w)
 have H : (if (a3.size : Int) > 1000000 then (some true) else ((laws_toCorner.f a2_0 a2_1).bind fun bt420 => ((spec_FigureOfStroke.f k a0 a1 bt420.1 bt420.2 a3).bind fun bt422 => ((laws_toCorner.f a2_0 a2_1).bind fun bt432 => ((impl_FigureOfStroke.f k a0 a1 bt432.1 bt432.2 a3).bind fun bt434 => ((laws_eqFigure.f k bt434.1 bt434.2.1 bt434.2.2.1 bt434.2.2.2.1 bt422.1 bt422.2.1 bt422.2.2.1 bt422.2.2.2.1).bind fun t444 => (if t444 = true then (laws_FnExactFigureOfStroke.j0 k a0 a1 a3 bt422.2.2.2.2 (bt434.2.2.2.2 != bt422.2.2.2.2) a2_0 a2_1 bt422.1 bt422.2.1 bt422.2.2.1 bt422.2.2.2.1 bt434.1 bt434.2.1 bt434.2.2.1 bt434.2.2.2.1) else (laws_FnExactFigureOfStroke.j0 k a0 a1 a3 bt422.2.2.2.2 true a2_0 a2_1 bt422.1 bt422.2.1 bt422.2.2.1 bt422.2.2.2.1 bt434.1 bt434.2.1 bt434.2.2.1 bt434.2.2.2.1)))))))) = some r := h
 clear h
 by_cases c5 : (a3.size : Int) > 1000000
 ·rw [if_pos c5] at H
  have c5b0 : decide (1000000 < (a3.size : Int)) = true := decide_eq_true c5
  have c5b1 : decide (1000000 < a3.size) = true := decide_eq_true (by omega)
  clear c5
  obtain rfl := Option.some.inj H
  go_enter Tryd.func9, Tryd.ntmps9
  go_wp2_with (first | ((with_reducible refine gate_dst (N := 6) rfl ?_); refine box_event ?hg (N := 6) ?hd (cs := #[.int .i64 a2_0, .int .i64 a2_1]) (t := 41) ?hr ?_; (case hd => rfl); (case hg => rfl); (case hr => first | (go_simp; done) | (go_simp; rfl)); intro gb419 hg w6 hbox hb; have n0_ := Aside0.mk (below_step (by repeat (first | (with_reducible first | exact HB.out | apply zA | apply zN | apply zD) | exact HB.out)) hb); have n1_ := Aside0.mk (hbox); have n2_ := Aside0.mk ((by rw [hg]; exact (below_size (by repeat (first | (with_reducible first | exact HB.out | apply zA | apply zN | apply zD) | exact HB.out))) : w.heap.size ≤ gb419)); have n3_ := Aside0.mk ((by rw [hg]; exact (below_size (by repeat (first | (with_reducible first | exact HB.out | apply zA | apply zN | apply zD) | exact HB.out))) : w.heap.size ≤ gb419)); clear HB; have HB := n0_; have BK419 := n1_; have GW419 := n2_; have GE419 := n3_; clear n0_ n1_ n2_ n3_; clear hb hbox hg))
  go_ret
  exact ⟨by first | rfl | (simp [errW_none, errW_some] <;> rfl) | (simp [*, errW_none, errW_some] <;> rfl), by repeat (first | (with_reducible first | exact HB.out | apply zA | apply zN | apply zD | refine zS ?_ GE419.out) | exact HB.out)⟩
 ·rw [if_neg c5] at H
  have c5b0 : decide (1000000 < (a3.size : Int)) = false := decide_eq_false c5
  have c5b1 : decide (1000000 < a3.size) = false := decide_eq_false (by omega)
  clear c5
  replace H := Option.bind_eq_some_iff.mp H
  obtain ⟨⟨t420, t421⟩, A70, H⟩ := H
  replace H : ((spec_FigureOfStroke.f k a0 a1 t420 t421 a3).bind fun bt422 => ((laws_toCorner.f a2_0 a2_1).bind fun bt432 => ((impl_FigureOfStroke.f k a0 a1 bt432.1 bt432.2 a3).bind fun bt434 => ((laws_eqFigure.f k bt434.1 bt434.2.1 bt434.2.2.1 bt434.2.2.2.1 bt422.1 bt422.2.1 bt422.2.2.1 bt422.2.2.2.1).bind fun t444 => (if t444 = true then (laws_FnExactFigureOfStroke.j0 k a0 a1 a3 bt422.2.2.2.2 (bt434.2.2.2.2 != bt422.2.2.2.2) a2_0 a2_1 bt422.1 bt422.2.1 bt422.2.2.1 bt422.2.2.2.1 bt434.1 bt434.2.1 bt434.2.2.1 bt434.2.2.2.1) else (laws_FnExactFigureOfStroke.j0 k a0 a1 a3 bt422.2.2.2.2 true a2_0 a2_1 bt422.1 bt422.2.1 bt422.2.2.1 bt422.2.2.2.1 bt434.1 bt434.2.1 bt434.2.2.1 bt434.2.2.2.1)))))) = some r := H
  have A7 := Aside0.mk A70
  clear A70
  replace H := Option.bind_eq_some_iff.mp H
  obtain ⟨⟨t422, t423, t424, t427, t430⟩, A80, H⟩ := H
  replace H : ((laws_toCorner.f a2_0 a2_1).bind fun bt432 => ((impl_FigureOfStroke.f k a0 a1 bt432.1 bt432.2 a3).bind fun bt434 => ((laws_eqFigure.f k bt434.1 bt434.2.1 bt434.2.2.1 bt434.2.2.2.1 t422 t423 t424 t427).bind fun t444 => (if t444 = true then (laws_FnExactFigureOfStroke.j0 k a0 a1 a3 t430 (bt434.2.2.2.2 != t430) a2_0 a2_1 t422 t423 t424 t427 bt434.1 bt434.2.1 bt434.2.2.1 bt434.2.2.2.1) else (laws_FnExactFigureOfStroke.j0 k a0 a1 a3 t430 true a2_0 a2_1 t422 t423 t424 t427 bt434.1 bt434.2.1 bt434.2.2.1 bt434.2.2.2.1))))) = some r := H
  have A8 := Aside0.mk A80
  clear A80
  replace H := Option.bind_eq_some_iff.mp H
  obtain ⟨⟨t432, t433⟩, A90, H⟩ := H
  replace H : ((impl_FigureOfStroke.f k a0 a1 t432 t433 a3).bind fun bt434 => ((laws_eqFigure.f k bt434.1 bt434.2.1 bt434.2.2.1 bt434.2.2.2.1 t422 t423 t424 t427).bind fun t444 => (if t444 = true then (laws_FnExactFigureOfStroke.j0 k a0 a1 a3 t430 (bt434.2.2.2.2 != t430) a2_0 a2_1 t422 t423 t424 t427 bt434.1 bt434.2.1 bt434.2.2.1 bt434.2.2.2.1) else (laws_FnExactFigureOfStroke.j0 k a0 a1 a3 t430 true a2_0 a2_1 t422 t423 t424 t427 bt434.1 bt434.2.1 bt434.2.2.1 bt434.2.2.2.1)))) = some r := H
  have A9 := Aside0.mk A90
  clear A90
  replace H := Option.bind_eq_some_iff.mp H
  obtain ⟨⟨t434, t435, t436, t439, t442⟩, A100, H⟩ := H
  replace H : ((laws_eqFigure.f k t434 t435 t436 t439 t422 t423 t424 t427).bind fun t444 => (if t444 = true then (laws_FnExactFigureOfStroke.j0 k a0 a1 a3 t430 (t442 != t430) a2_0 a2_1 t422 t423 t424 t427 t434 t435 t436 t439) else (laws_FnExactFigureOfStroke.j0 k a0 a1 a3 t430 true a2_0 a2_1 t422 t423 t424 t427 t434 t435 t436 t439))) = some r := H
  have A10 := Aside0.mk A100
  clear A100
  have HC11 := Aside0.mk H
  clear H
  go_enter Tryd.func9, Tryd.ntmps9
  go_upto_region 5 with (first | ((with_reducible refine gate_dst (N := 6) rfl ?_); refine box_event ?hg (N := 6) ?hd (cs := #[.int .i64 a2_0, .int .i64 a2_1]) (t := 41) ?hr ?_; (case hd => rfl); (case hg => rfl); (case hr => first | (go_simp; done) | (go_simp; rfl)); intro gb419 hg w12 hbox hb; have n0_ := Aside0.mk (below_step (by repeat (first | (with_reducible first | exact HB.out | apply zA | apply zN | apply zD) | exact HB.out)) hb); have n1_ := Aside0.mk (hbox); have n2_ := Aside0.mk ((by rw [hg]; exact (below_size (by repeat (first | (with_reducible first | exact HB.out | apply zA | apply zN | apply zD) | exact HB.out))) : w.heap.size ≤ gb419)); have n3_ := Aside0.mk ((by rw [hg]; exact (below_size (by repeat (first | (with_reducible first | exact HB.out | apply zA | apply zN | apply zD) | exact HB.out))) : w.heap.size ≤ gb419)); clear HB; have HB := n0_; have BK419 := n1_; have GW419 := n2_; have GE419 := n3_; clear n0_ n1_ n2_ n3_; clear hb hbox hg; have hcz13_0 : w12.cell? ⟨gb419, 0, none⟩ = some (.int .i64 a2_0) := (zbC BK419.out 0).trans rfl; have hcz13_1 : w12.cell? ⟨gb419, 1, none⟩ = some (.int .i64 a2_1) := (zbC BK419.out 1).trans rfl; have hfz13_0 := zbF BK419.out 0; have hfz13_1 := zbF BK419.out 1) | ((with_reducible refine gate_callee (f := 32) rfl ?_); refine goesL_ (some 24) rfl rfl Tryd.func32 (by kernel_rfl) rfl #[.agg #[.int .i64 a2_0, .int .i64 a2_1]] rfl (by (try simp only [List.map_toArray, List.map_cons, List.map_nil]); first | done | rfl | (simp only [List.length_drop, List.length_take]; rfl)) ?_; (with_reducible refine (laws_toCorner.calls a2_0 a2_1 t420 t421 _ A7.out).mono ?_); rintro e w14 ⟨rfl, hb⟩; refine ⟨_, rfl, ?_⟩; have n0_ := Aside0.mk (blk_below (g := gb419) (o := .cells #[.int .i64 a2_0, .int .i64 a2_1] 41 (0, 0)) (by (with_reducible repeat (first | refine zbN ?_ _ | refine zbD ?_ | refine zbA ?_ _)); exact BK419.out) hb); have n1_ := Aside0.mk (below_step (by repeat (first | (with_reducible first | exact HB.out | apply zA | apply zN | apply zD | refine zS ?_ GE419.out) | exact HB.out)) hb); clear BK419; clear HB; have BK419 := n0_; have HB := n1_; clear n0_ n1_; (try clear hb); (try clear hb2); (try clear hk); (try clear hi)) | ((with_reducible refine gate_callee (f := 31) rfl ?_); refine goesL_ (some 26) rfl rfl Tryd.func31 (by kernel_rfl) rfl #[.int .i64 a0, .int .i64 a1, .agg #[.int .i64 t420, .int .i64 t421], .string a3] rfl (by (try simp only [List.map_toArray, List.map_cons, List.map_nil]); first | done | rfl | (simp only [List.length_drop, List.length_take]; rfl)) ?_; (with_reducible refine (spec_FigureOfStroke.calls k a0 a1 t420 t421 a3 t422 t423 t424 t427 t430 _ A8.out).mono ?_); rintro e w15 ⟨v425, v428, rfl, ho0, ho1, hb⟩; refine ⟨_, rfl, ?_⟩; have n0_ := Aside0.mk (Kd.R_lower ho0 (below_size (by repeat (first | (with_reducible first | exact HB.out | apply zA | apply zN | apply zD | refine zS ?_ GE419.out) | exact HB.out)))); have n1_ := Aside0.mk (Kd.R_lower ho1 (below_size (by repeat (first | (with_reducible first | exact HB.out | apply zA | apply zN | apply zD | refine zS ?_ GE419.out) | exact HB.out)))); have n2_ := Aside0.mk (blk_below (g := gb419) (o := .cells #[.int .i64 a2_0, .int .i64 a2_1] 41 (0, 0)) (by (with_reducible repeat (first | refine zbN ?_ _ | refine zbD ?_ | refine zbA ?_ _)); exact BK419.out) hb); have n3_ := Aside0.mk (below_step (by repeat (first | (with_reducible first | exact HB.out | apply zA | apply zN | apply zD | refine zS ?_ GE419.out) | exact HB.out)) hb); clear BK419; clear HB; have HO426 := n0_; have HO429 := n1_; have BK419 := n2_; have HB := n3_; clear n0_ n1_ n2_ n3_; (try clear hb); (try clear hb2); (try clear hk); (try clear hi); (try clear ho0); (try clear ho1)) | ((with_reducible refine gate_dst (N := 9) rfl ?_); refine box_event ?hg (N := 9) ?hd (cs := #[.int .i64 0, .int .i64 0, .slice none 0 0, .slice none 0 0]) (t := 26) ?hr ?_; (case hd => rfl); (case hg => rfl); (case hr => first | (go_simp; done) | (go_simp; rfl)); intro gb431 hg w16 hbox hb; have n0_ := Aside0.mk (Kd.R_below (by (with_reducible repeat (first | apply Kd.R_alloc | apply Kd.R_drewN | apply Kd.R_drew)); exact HO426.out) hb); have n1_ := Aside0.mk (Kd.R_below (by (with_reducible repeat (first | apply Kd.R_alloc | apply Kd.R_drewN | apply Kd.R_drew)); exact HO429.out) hb); have n2_ := Aside0.mk (blk_below (g := gb419) (o := .cells #[.int .i64 a2_0, .int .i64 a2_1] 41 (0, 0)) (by (with_reducible repeat (first | refine zbN ?_ _ | refine zbD ?_ | refine zbA ?_ _)); exact BK419.out) hb); have n3_ := Aside0.mk (below_step (by repeat (first | (with_reducible first | exact HB.out | apply zA | apply zN | apply zD | refine zS ?_ GE419.out) | exact HB.out)) hb); have n4_ := Aside0.mk (hbox); have n5_ := Aside0.mk ((by rw [hg]; exact (below_size (by repeat (first | (with_reducible first | exact HB.out | apply zA | apply zN | apply zD | refine zS ?_ GE419.out) | exact HB.out))) : w.heap.size ≤ gb431)); have n6_ := Aside0.mk ((by rw [hg]; exact (below_size (by repeat (first | (with_reducible first | exact HB.out | apply zA | apply zN | apply zD | refine zS ?_ GE419.out) | exact HB.out))) : w.heap.size ≤ gb431)); have n7_ := Aside0.mk ((by rw [hg]; exact Nat.ne_of_lt (blk_lt (g := gb419) (o := .cells #[.int .i64 a2_0, .int .i64 a2_1] 41 (0, 0)) (by (with_reducible repeat (first | refine zbN ?_ _ | refine zbD ?_ | refine zbA ?_ _)); exact BK419.out)) : gb419 ≠ gb431)); have n8_ := Aside0.mk ((by rw [hg]; exact Nat.ne_of_gt (blk_lt (g := gb419) (o := .cells #[.int .i64 a2_0, .int .i64 a2_1] 41 (0, 0)) (by (with_reducible repeat (first | refine zbN ?_ _ | refine zbD ?_ | refine zbA ?_ _)); exact BK419.out)) : gb431 ≠ gb419)); clear HO426; clear HO429; clear BK419; clear HB; have HO426 := n0_; have HO429 := n1_; have BK419 := n2_; have HB := n3_; have BK431 := n4_; have GW431 := n5_; have GE431 := n6_; have NB419_431 := n7_; have NB431_419 := n8_; clear n0_ n1_ n2_ n3_ n4_ n5_ n6_ n7_ n8_; clear hb hbox hg; have hnb17 := NB431_419.out; have hnc17 := NB419_431.out; have hcz18_0 : w16.cell? ⟨gb431, 0, none⟩ = some (.int .i64 0) := (zbC BK431.out 0).trans rfl; have hcz18_1 : w16.cell? ⟨gb431, 1, none⟩ = some (.int .i64 0) := (zbC BK431.out 1).trans rfl; have hcz18_2 : w16.cell? ⟨gb431, 2, none⟩ = some (.slice none 0 0) := (zbC BK431.out 2).trans rfl; have hcz18_3 : w16.cell? ⟨gb431, 3, none⟩ = some (.slice none 0 0) := (zbC BK431.out 3).trans rfl; have hfz18_0 := zbF BK431.out 0; have hfz18_1 := zbF BK431.out 1; have hfz18_2 := zbF BK431.out 2; have hfz18_3 := zbF BK431.out 3; obtain ⟨Ao19, co19, eo19⟩ := Kd.R_slice HO426.out; subst eo19; obtain ⟨Ao20, co20, eo20⟩ := Kd.R_slice HO429.out; subst eo20; have hcz21_0 : w16.cell? ⟨gb419, 0, none⟩ = some (.int .i64 a2_0) := (zbC BK419.out 0).trans rfl; have hcz21_1 : w16.cell? ⟨gb419, 1, none⟩ = some (.int .i64 a2_1) := (zbC BK419.out 1).trans rfl; have hfz21_0 := zbF BK419.out 0; have hfz21_1 := zbF BK419.out 1) | ((with_reducible refine gate_callee (f := 32) rfl ?_); refine goesL_ (some 33) rfl rfl Tryd.func32 (by kernel_rfl) rfl #[.agg #[.int .i64 a2_0, .int .i64 a2_1]] rfl (by (try simp only [List.map_toArray, List.map_cons, List.map_nil]); first | done | rfl | (simp only [List.length_drop, List.length_take]; rfl)) ?_; (with_reducible refine (laws_toCorner.calls a2_0 a2_1 t432 t433 _ A9.out).mono ?_); rintro e w22 ⟨rfl, hb⟩; refine ⟨_, rfl, ?_⟩; have n0_ := Aside0.mk (Kd.R_below (by (with_reducible repeat (first | apply Kd.R_alloc | apply Kd.R_drewN | apply Kd.R_drew)); exact (Kd.R_mono (Kd.R_far (p := ⟨gb431, 3, none⟩) (Kd.R_far (p := ⟨gb431, 2, none⟩) (Kd.R_far (p := ⟨gb431, 1, none⟩) (Kd.R_far (p := ⟨gb431, 0, none⟩) (Kd.R_types HO426.out BK431.out (by decide)) (fun _ hk => hk.2) (.int .i64 t422)) (fun _ hk => hk.2) (.int .i64 t423)) (fun _ hk => hk.2) (.slice Ao19 t424.length co19)) (fun _ hk => hk.2) (.slice Ao20 t427.length co20)) (fun _ h_ => h_.1))) hb); have n1_ := Aside0.mk (Kd.R_below (by (with_reducible repeat (first | apply Kd.R_alloc | apply Kd.R_drewN | apply Kd.R_drew)); exact (Kd.R_mono (Kd.R_far (p := ⟨gb431, 3, none⟩) (Kd.R_far (p := ⟨gb431, 2, none⟩) (Kd.R_far (p := ⟨gb431, 1, none⟩) (Kd.R_far (p := ⟨gb431, 0, none⟩) (Kd.R_types HO429.out BK431.out (by decide)) (fun _ hk => hk.2) (.int .i64 t422)) (fun _ hk => hk.2) (.int .i64 t423)) (fun _ hk => hk.2) (.slice Ao19 t424.length co19)) (fun _ hk => hk.2) (.slice Ao20 t427.length co20)) (fun _ h_ => h_.1))) hb); have n2_ := Aside0.mk (blk_below (g := gb419) (o := .cells #[.int .i64 a2_0, .int .i64 a2_1] 41 (0, 0)) (by (with_reducible repeat (first | refine zbN ?_ _ | refine zbD ?_ | refine zbA ?_ _)); refine blk_far ?_ NB419_431.out _; (with_reducible repeat (first | refine zbN ?_ _ | refine zbD ?_ | refine zbA ?_ _)); refine blk_far ?_ NB419_431.out _; (with_reducible repeat (first | refine zbN ?_ _ | refine zbD ?_ | refine zbA ?_ _)); refine blk_far ?_ NB419_431.out _; (with_reducible repeat (first | refine zbN ?_ _ | refine zbD ?_ | refine zbA ?_ _)); refine blk_far ?_ NB419_431.out _; (with_reducible repeat (first | refine zbN ?_ _ | refine zbD ?_ | refine zbA ?_ _)); exact BK419.out) hb); have n3_ := Aside0.mk (blk_below (g := gb431) (o := .cells #[.int .i64 t422, .int .i64 t423, .slice Ao19 t424.length co19, .slice Ao20 t427.length co20] 26 (0, 0)) (by (with_reducible repeat (first | refine zbN ?_ _ | refine zbD ?_ | refine zbA ?_ _)); refine blk_put (cs := #[.int .i64 t422, .int .i64 t423, .slice Ao19 t424.length co19, .slice none 0 0]) ?_ 3 _ rfl; (with_reducible repeat (first | refine zbN ?_ _ | refine zbD ?_ | refine zbA ?_ _)); refine blk_put (cs := #[.int .i64 t422, .int .i64 t423, .slice none 0 0, .slice none 0 0]) ?_ 2 _ rfl; (with_reducible repeat (first | refine zbN ?_ _ | refine zbD ?_ | refine zbA ?_ _)); refine blk_put (cs := #[.int .i64 t422, .int .i64 0, .slice none 0 0, .slice none 0 0]) ?_ 1 _ rfl; (with_reducible repeat (first | refine zbN ?_ _ | refine zbD ?_ | refine zbA ?_ _)); refine blk_put (cs := #[.int .i64 0, .int .i64 0, .slice none 0 0, .slice none 0 0]) ?_ 0 _ rfl; (with_reducible repeat (first | refine zbN ?_ _ | refine zbD ?_ | refine zbA ?_ _)); exact BK431.out) hb); have n4_ := Aside0.mk (below_step (by repeat (first | (with_reducible first | exact HB.out | apply zA | apply zN | apply zD | refine zS ?_ GE419.out | refine zS ?_ GE431.out) | exact HB.out)) hb); clear HO426; clear HO429; clear BK419; clear BK431; clear HB; have HO426 := n0_; have HO429 := n1_; have BK419 := n2_; have BK431 := n3_; have HB := n4_; clear n0_ n1_ n2_ n3_ n4_; (try clear hb); (try clear hb2); (try clear hk); (try clear hi)) | ((with_reducible refine gate_callee (f := 33) rfl ?_); refine goesL_ (some 35) rfl rfl Tryd.func33 (by kernel_rfl) rfl #[.int .i64 a0, .int .i64 a1, .agg #[.int .i64 t432, .int .i64 t433], .string a3] rfl (by (try simp only [List.map_toArray, List.map_cons, List.map_nil]); first | done | rfl | (simp only [List.length_drop, List.length_take]; rfl)) ?_; (with_reducible refine (impl_FigureOfStroke.calls k a0 a1 t432 t433 a3 t434 t435 t436 t439 t442 _ ?side1 A10.out).mono ?_); (case side1 => first | exact LaidG_below HG.out (by repeat (first | (with_reducible first | exact HB.out | apply zA | apply zN | apply zD | refine zS ?_ GE419.out | refine zS ?_ GE431.out) | exact HB.out)) | (repeat (first | exact HG.out | (with_reducible refine LaidG_alloc ?_ _) | (with_reducible refine LaidG_drewN ?_ _) | (with_reducible refine LaidG_drew ?_)))); rintro e w23 ⟨v437, v440, rfl, ho0, ho1, hb⟩; refine ⟨_, rfl, ?_⟩; have n0_ := Aside0.mk (Kd.R_mono (Kd.R_told (Kd.R_told (Kd.R_old (by (with_reducible repeat (first | apply Kd.R_alloc | apply Kd.R_drewN | apply Kd.R_drew)); exact HO426.out) hb) (Kd.R_base ho0)) (Kd.R_base ho1)) (fun _ h_ => h_.1)); have n1_ := Aside0.mk (Kd.R_mono (Kd.R_told (Kd.R_told (Kd.R_old (by (with_reducible repeat (first | apply Kd.R_alloc | apply Kd.R_drewN | apply Kd.R_drew)); exact HO429.out) hb) (Kd.R_base ho0)) (Kd.R_base ho1)) (fun _ h_ => h_.1)); have n2_ := Aside0.mk (Kd.R_lower (Kd.R_new' (Kd.R_new' ho0 (Kd.R_lt (by (with_reducible repeat (first | apply Kd.R_alloc | apply Kd.R_drewN | apply Kd.R_drew)); exact HO426.out))) (Kd.R_lt (by (with_reducible repeat (first | apply Kd.R_alloc | apply Kd.R_drewN | apply Kd.R_drew)); exact HO429.out))) (below_size (by repeat (first | (with_reducible first | exact HB.out | apply zA | apply zN | apply zD | refine zS ?_ GE419.out | refine zS ?_ GE431.out) | exact HB.out)))); have n3_ := Aside0.mk (Kd.R_lower (Kd.R_new' (Kd.R_new' ho1 (Kd.R_lt (by (with_reducible repeat (first | apply Kd.R_alloc | apply Kd.R_drewN | apply Kd.R_drew)); exact HO426.out))) (Kd.R_lt (by (with_reducible repeat (first | apply Kd.R_alloc | apply Kd.R_drewN | apply Kd.R_drew)); exact HO429.out))) (below_size (by repeat (first | (with_reducible first | exact HB.out | apply zA | apply zN | apply zD | refine zS ?_ GE419.out | refine zS ?_ GE431.out) | exact HB.out)))); have n4_ := Aside0.mk (blk_below (g := gb419) (o := .cells #[.int .i64 a2_0, .int .i64 a2_1] 41 (0, 0)) (by (with_reducible repeat (first | refine zbN ?_ _ | refine zbD ?_ | refine zbA ?_ _)); exact BK419.out) hb); have n5_ := Aside0.mk (blk_below (g := gb431) (o := .cells #[.int .i64 t422, .int .i64 t423, .slice Ao19 t424.length co19, .slice Ao20 t427.length co20] 26 (0, 0)) (by (with_reducible repeat (first | refine zbN ?_ _ | refine zbD ?_ | refine zbA ?_ _)); exact BK431.out) hb); have n6_ := Aside0.mk (below_step (by repeat (first | (with_reducible first | exact HB.out | apply zA | apply zN | apply zD | refine zS ?_ GE419.out | refine zS ?_ GE431.out) | exact HB.out)) hb); clear HO426; clear HO429; clear BK419; clear BK431; clear HB; have HO426 := n0_; have HO429 := n1_; have HO438 := n2_; have HO441 := n3_; have BK419 := n4_; have BK431 := n5_; have HB := n6_; clear n0_ n1_ n2_ n3_ n4_ n5_ n6_; (try clear hb); (try clear hb2); (try clear hk); (try clear hi); (try clear ho0); (try clear ho1)) | ((with_reducible refine gate_dst (N := 11) rfl ?_); refine box_event ?hg (N := 11) ?hd (cs := #[.int .i64 0, .int .i64 0, .slice none 0 0, .slice none 0 0]) (t := 26) ?hr ?_; (case hd => rfl); (case hg => rfl); (case hr => first | (go_simp; done) | (go_simp; rfl)); intro gb443 hg w24 hbox hb; have n0_ := Aside0.mk (Kd.R_below (by (with_reducible repeat (first | apply Kd.R_alloc | apply Kd.R_drewN | apply Kd.R_drew)); exact HO426.out) hb); have n1_ := Aside0.mk (Kd.R_below (by (with_reducible repeat (first | apply Kd.R_alloc | apply Kd.R_drewN | apply Kd.R_drew)); exact HO429.out) hb); have n2_ := Aside0.mk (Kd.R_below (by (with_reducible repeat (first | apply Kd.R_alloc | apply Kd.R_drewN | apply Kd.R_drew)); exact HO438.out) hb); have n3_ := Aside0.mk (Kd.R_below (by (with_reducible repeat (first | apply Kd.R_alloc | apply Kd.R_drewN | apply Kd.R_drew)); exact HO441.out) hb); have n4_ := Aside0.mk (blk_below (g := gb419) (o := .cells #[.int .i64 a2_0, .int .i64 a2_1] 41 (0, 0)) (by (with_reducible repeat (first | refine zbN ?_ _ | refine zbD ?_ | refine zbA ?_ _)); exact BK419.out) hb); have n5_ := Aside0.mk (blk_below (g := gb431) (o := .cells #[.int .i64 t422, .int .i64 t423, .slice Ao19 t424.length co19, .slice Ao20 t427.length co20] 26 (0, 0)) (by (with_reducible repeat (first | refine zbN ?_ _ | refine zbD ?_ | refine zbA ?_ _)); exact BK431.out) hb); have n6_ := Aside0.mk (below_step (by repeat (first | (with_reducible first | exact HB.out | apply zA | apply zN | apply zD | refine zS ?_ GE419.out | refine zS ?_ GE431.out) | exact HB.out)) hb); have n7_ := Aside0.mk (hbox); have n8_ := Aside0.mk ((by rw [hg]; exact (below_size (by repeat (first | (with_reducible first | exact HB.out | apply zA | apply zN | apply zD | refine zS ?_ GE419.out | refine zS ?_ GE431.out) | exact HB.out))) : w.heap.size ≤ gb443)); have n9_ := Aside0.mk ((by rw [hg]; exact (below_size (by repeat (first | (with_reducible first | exact HB.out | apply zA | apply zN | apply zD | refine zS ?_ GE419.out | refine zS ?_ GE431.out) | exact HB.out))) : w.heap.size ≤ gb443)); have n10_ := Aside0.mk ((by rw [hg]; exact Nat.ne_of_lt (blk_lt (g := gb419) (o := .cells #[.int .i64 a2_0, .int .i64 a2_1] 41 (0, 0)) (by (with_reducible repeat (first | refine zbN ?_ _ | refine zbD ?_ | refine zbA ?_ _)); exact BK419.out)) : gb419 ≠ gb443)); have n11_ := Aside0.mk ((by rw [hg]; exact Nat.ne_of_gt (blk_lt (g := gb419) (o := .cells #[.int .i64 a2_0, .int .i64 a2_1] 41 (0, 0)) (by (with_reducible repeat (first | refine zbN ?_ _ | refine zbD ?_ | refine zbA ?_ _)); exact BK419.out)) : gb443 ≠ gb419)); have n12_ := Aside0.mk ((by rw [hg]; exact Nat.ne_of_lt (blk_lt (g := gb431) (o := .cells #[.int .i64 t422, .int .i64 t423, .slice Ao19 t424.length co19, .slice Ao20 t427.length co20] 26 (0, 0)) (by (with_reducible repeat (first | refine zbN ?_ _ | refine zbD ?_ | refine zbA ?_ _)); exact BK431.out)) : gb431 ≠ gb443)); have n13_ := Aside0.mk ((by rw [hg]; exact Nat.ne_of_gt (blk_lt (g := gb431) (o := .cells #[.int .i64 t422, .int .i64 t423, .slice Ao19 t424.length co19, .slice Ao20 t427.length co20] 26 (0, 0)) (by (with_reducible repeat (first | refine zbN ?_ _ | refine zbD ?_ | refine zbA ?_ _)); exact BK431.out)) : gb443 ≠ gb431)); clear HO426; clear HO429; clear HO438; clear HO441; clear BK419; clear BK431; clear HB; have HO426 := n0_; have HO429 := n1_; have HO438 := n2_; have HO441 := n3_; have BK419 := n4_; have BK431 := n5_; have HB := n6_; have BK443 := n7_; have GW443 := n8_; have GE443 := n9_; have NB419_443 := n10_; have NB443_419 := n11_; have NB431_443 := n12_; have NB443_431 := n13_; clear n0_ n1_ n2_ n3_ n4_ n5_ n6_ n7_ n8_ n9_ n10_ n11_ n12_ n13_; clear hb hbox hg; have hnb25 := NB443_419.out; have hnc25 := NB419_443.out; have hnb26 := NB443_431.out; have hnc26 := NB431_443.out; have hcz27_0 : w24.cell? ⟨gb443, 0, none⟩ = some (.int .i64 0) := (zbC BK443.out 0).trans rfl; have hcz27_1 : w24.cell? ⟨gb443, 1, none⟩ = some (.int .i64 0) := (zbC BK443.out 1).trans rfl; have hcz27_2 : w24.cell? ⟨gb443, 2, none⟩ = some (.slice none 0 0) := (zbC BK443.out 2).trans rfl; have hcz27_3 : w24.cell? ⟨gb443, 3, none⟩ = some (.slice none 0 0) := (zbC BK443.out 3).trans rfl; have hfz27_0 := zbF BK443.out 0; have hfz27_1 := zbF BK443.out 1; have hfz27_2 := zbF BK443.out 2; have hfz27_3 := zbF BK443.out 3; obtain ⟨Ao28, co28, eo28⟩ := Kd.R_slice HO438.out; subst eo28; obtain ⟨Ao29, co29, eo29⟩ := Kd.R_slice HO441.out; subst eo29))
  (try simp only [Act.put, List.setIfInBounds_toArray, List.set_cons_zero, List.set_cons_succ])
  go_cut [46] (fun v46 wc => ∃ (kq : Nat) (x46_10 : Bool), v46 = .bool x46_10 ∧ Aside0 (laws_FnExactFigureOfStroke.j0 kq a0 a1 a3 t430 x46_10 a2_0 a2_1 t422 t423 t424 t427 t434 t435 t436 t439 = some r) ∧ Aside0 (kq ≤ k) ∧ Aside0 (Kd.R (Kd.int .i64) 3 wc w.heap.size (fun k_ => some k_ ≠ ((.slice Ao20 t427.length co20) : Value).ownBlock ∧ some k_ ≠ ((.slice Ao28 t436.length co28) : Value).ownBlock ∧ some k_ ≠ ((.slice Ao29 t439.length co29) : Value).ownBlock) (.slice Ao19 t424.length co19) t424) ∧ Aside0 (Kd.R (Kd.int .i64) 3 wc w.heap.size (fun k_ => some k_ ≠ ((.slice Ao19 t424.length co19) : Value).ownBlock ∧ some k_ ≠ ((.slice Ao28 t436.length co28) : Value).ownBlock ∧ some k_ ≠ ((.slice Ao29 t439.length co29) : Value).ownBlock) (.slice Ao20 t427.length co20) t427) ∧ Aside0 (Kd.R (Kd.int .i64) 3 wc w.heap.size (fun k_ => some k_ ≠ ((.slice Ao19 t424.length co19) : Value).ownBlock ∧ some k_ ≠ ((.slice Ao20 t427.length co20) : Value).ownBlock ∧ some k_ ≠ ((.slice Ao29 t439.length co29) : Value).ownBlock) (.slice Ao28 t436.length co28) t436) ∧ Aside0 (Kd.R (Kd.int .i64) 3 wc w.heap.size (fun k_ => some k_ ≠ ((.slice Ao19 t424.length co19) : Value).ownBlock ∧ some k_ ≠ ((.slice Ao20 t427.length co20) : Value).ownBlock ∧ some k_ ≠ ((.slice Ao28 t436.length co28) : Value).ownBlock) (.slice Ao29 t439.length co29) t439) ∧ Aside0 (wc.heap[gb419]? = some (.cells #[.int .i64 a2_0, .int .i64 a2_1] 41 (0, 0))) ∧ Aside0 (wc.heap[gb431]? = some (.cells #[.int .i64 t422, .int .i64 t423, (.slice Ao19 t424.length co19), (.slice Ao20 t427.length co20)] 26 (0, 0))) ∧ Aside0 (wc.heap[gb443]? = some (.cells #[.int .i64 t434, .int .i64 t435, (.slice Ao28 t436.length co28), (.slice Ao29 t439.length co29)] 26 (0, 0))) ∧ Aside0 (Below w.heap.size w wc))
  case first =>
   have H := HC11.out
   clear HC11
   replace H := Option.bind_eq_some_iff.mp H
   obtain ⟨t444, A300, H⟩ := H
   replace H : (if t444 = true then (laws_FnExactFigureOfStroke.j0 k a0 a1 a3 t430 (t442 != t430) a2_0 a2_1 t422 t423 t424 t427 t434 t435 t436 t439) else (laws_FnExactFigureOfStroke.j0 k a0 a1 a3 t430 true a2_0 a2_1 t422 t423 t424 t427 t434 t435 t436 t439)) = some r := H
   have A30 := Aside0.mk A300
   clear A300
   by_cases c31 : t444 = true
   ·subst c31
    have H1 : (laws_FnExactFigureOfStroke.j0 k a0 a1 a3 t430 (t442 != t430) a2_0 a2_1 t422 t423 t424 t427 t434 t435 t436 t439) = some r := by rw [if_pos rfl] at H; exact H
    clear H
    have H := H1
    clear H1
    have H' := Aside0.mk H
    clear H
    have hnb32 := NB443_419.out
    have hnc32 := NB419_443.out
    have hnb33 := NB443_431.out
    have hnc33 := NB431_443.out
    have hcz34_0 : w24.cell? ⟨gb443, 0, none⟩ = some (.int .i64 0) := (zbC BK443.out 0).trans rfl
    have hcz34_1 : w24.cell? ⟨gb443, 1, none⟩ = some (.int .i64 0) := (zbC BK443.out 1).trans rfl
    have hcz34_2 : w24.cell? ⟨gb443, 2, none⟩ = some (.slice none 0 0) := (zbC BK443.out 2).trans rfl
    have hcz34_3 : w24.cell? ⟨gb443, 3, none⟩ = some (.slice none 0 0) := (zbC BK443.out 3).trans rfl
    have hfz34_0 := zbF BK443.out 0
    have hfz34_1 := zbF BK443.out 1
    have hfz34_2 := zbF BK443.out 2
    have hfz34_3 := zbF BK443.out 3
    have hnb35 := NB431_419.out
    have hnc35 := NB419_431.out
    have hcz36_0 : w24.cell? ⟨gb431, 0, none⟩ = some (.int .i64 t422) := (zbC BK431.out 0).trans rfl
    have hcz36_1 : w24.cell? ⟨gb431, 1, none⟩ = some (.int .i64 t423) := (zbC BK431.out 1).trans rfl
    have hcz36_2 : w24.cell? ⟨gb431, 2, none⟩ = some (.slice Ao19 t424.length co19) := (zbC BK431.out 2).trans rfl
    have hcz36_3 : w24.cell? ⟨gb431, 3, none⟩ = some (.slice Ao20 t427.length co20) := (zbC BK431.out 3).trans rfl
    have hfz36_0 := zbF BK431.out 0
    have hfz36_1 := zbF BK431.out 1
    have hfz36_2 := zbF BK431.out 2
    have hfz36_3 := zbF BK431.out 3
    go_wp2_with (first | ((with_reducible refine gate_callee (f := 14) rfl ?_); refine goesL_ (some 40) rfl rfl Tryd.func14 (by kernel_rfl) rfl #[.agg #[.int .i64 t434, .int .i64 t435, .slice Ao28 t436.length co28, .slice Ao29 t439.length co29], .agg #[.int .i64 t422, .int .i64 t423, .slice Ao19 t424.length co19, .slice Ao20 t427.length co20]] rfl (by (try simp only [List.map_toArray, List.map_cons, List.map_nil]); first | done | rfl | (simp only [List.length_drop, List.length_take]; rfl)) ?_; (with_reducible refine (laws_eqFigure.calls k t434 t435 _ _ t436 _ _ t439 t422 t423 _ _ t424 _ _ t427 true _ ?side1 ?side2 ?side3 ?side4 ?side5 ?side6 ?side7 ?side8 A30.out).mono ?_); (case side1 => refine (Kd.R_reads' (e := 3) (base := w.heap.size) (ok := fun k_ => ((some k_ ≠ (.slice Ao29 t439.length co29 : Value).ownBlock ∧ some k_ ≠ (.slice Ao19 t424.length co19 : Value).ownBlock) ∧ some k_ ≠ (.slice Ao20 t427.length co20 : Value).ownBlock)) (n := t436.length) (c := co28) ?_).2.2; exact (by (with_reducible repeat (first | apply Kd.R_alloc | apply Kd.R_drewN | apply Kd.R_drew)); exact (Kd.R_mono (Kd.R_far (p := ⟨gb443, 3, none⟩) (Kd.R_far (p := ⟨gb443, 2, none⟩) (Kd.R_far (p := ⟨gb443, 1, none⟩) (Kd.R_far (p := ⟨gb443, 0, none⟩) (Kd.R_types HO438.out BK443.out (by decide)) (fun _ hk => hk.2) (.int .i64 t434)) (fun _ hk => hk.2) (.int .i64 t435)) (fun _ hk => hk.2) (.slice Ao28 t436.length co28)) (fun _ hk => hk.2) (.slice Ao29 t439.length co29)) (fun _ h_ => h_.1)))); (case side2 => exact (Kd.R_reads' HO438.out).2.1); (case side3 => refine (Kd.R_reads' (e := 3) (base := w.heap.size) (ok := fun k_ => ((some k_ ≠ (.slice Ao28 t436.length co28 : Value).ownBlock ∧ some k_ ≠ (.slice Ao19 t424.length co19 : Value).ownBlock) ∧ some k_ ≠ (.slice Ao20 t427.length co20 : Value).ownBlock)) (n := t439.length) (c := co29) ?_).2.2; exact (by (with_reducible repeat (first | apply Kd.R_alloc | apply Kd.R_drewN | apply Kd.R_drew)); exact (Kd.R_mono (Kd.R_far (p := ⟨gb443, 3, none⟩) (Kd.R_far (p := ⟨gb443, 2, none⟩) (Kd.R_far (p := ⟨gb443, 1, none⟩) (Kd.R_far (p := ⟨gb443, 0, none⟩) (Kd.R_types HO441.out BK443.out (by decide)) (fun _ hk => hk.2) (.int .i64 t434)) (fun _ hk => hk.2) (.int .i64 t435)) (fun _ hk => hk.2) (.slice Ao28 t436.length co28)) (fun _ hk => hk.2) (.slice Ao29 t439.length co29)) (fun _ h_ => h_.1)))); (case side4 => exact (Kd.R_reads' HO441.out).2.1); (case side5 => refine (Kd.R_reads' (e := 3) (base := w.heap.size) (ok := fun k_ => ((some k_ ≠ (.slice Ao20 t427.length co20 : Value).ownBlock ∧ some k_ ≠ (.slice Ao28 t436.length co28 : Value).ownBlock) ∧ some k_ ≠ (.slice Ao29 t439.length co29 : Value).ownBlock)) (n := t424.length) (c := co19) ?_).2.2; exact (by (with_reducible repeat (first | apply Kd.R_alloc | apply Kd.R_drewN | apply Kd.R_drew)); exact (Kd.R_mono (Kd.R_far (p := ⟨gb443, 3, none⟩) (Kd.R_far (p := ⟨gb443, 2, none⟩) (Kd.R_far (p := ⟨gb443, 1, none⟩) (Kd.R_far (p := ⟨gb443, 0, none⟩) (Kd.R_types HO426.out BK443.out (by decide)) (fun _ hk => hk.2) (.int .i64 t434)) (fun _ hk => hk.2) (.int .i64 t435)) (fun _ hk => hk.2) (.slice Ao28 t436.length co28)) (fun _ hk => hk.2) (.slice Ao29 t439.length co29)) (fun _ h_ => h_.1)))); (case side6 => exact (Kd.R_reads' HO426.out).2.1); (case side7 => refine (Kd.R_reads' (e := 3) (base := w.heap.size) (ok := fun k_ => ((some k_ ≠ (.slice Ao19 t424.length co19 : Value).ownBlock ∧ some k_ ≠ (.slice Ao28 t436.length co28 : Value).ownBlock) ∧ some k_ ≠ (.slice Ao29 t439.length co29 : Value).ownBlock)) (n := t427.length) (c := co20) ?_).2.2; exact (by (with_reducible repeat (first | apply Kd.R_alloc | apply Kd.R_drewN | apply Kd.R_drew)); exact (Kd.R_mono (Kd.R_far (p := ⟨gb443, 3, none⟩) (Kd.R_far (p := ⟨gb443, 2, none⟩) (Kd.R_far (p := ⟨gb443, 1, none⟩) (Kd.R_far (p := ⟨gb443, 0, none⟩) (Kd.R_types HO429.out BK443.out (by decide)) (fun _ hk => hk.2) (.int .i64 t434)) (fun _ hk => hk.2) (.int .i64 t435)) (fun _ hk => hk.2) (.slice Ao28 t436.length co28)) (fun _ hk => hk.2) (.slice Ao29 t439.length co29)) (fun _ h_ => h_.1)))); (case side8 => exact (Kd.R_reads' HO429.out).2.1); rintro e w37 ⟨rfl, hb⟩; refine ⟨_, rfl, ?_⟩; have n0_ := Aside0.mk (Kd.R_below (by (with_reducible repeat (first | apply Kd.R_alloc | apply Kd.R_drewN | apply Kd.R_drew)); exact (Kd.R_mono (Kd.R_far (p := ⟨gb443, 3, none⟩) (Kd.R_far (p := ⟨gb443, 2, none⟩) (Kd.R_far (p := ⟨gb443, 1, none⟩) (Kd.R_far (p := ⟨gb443, 0, none⟩) (Kd.R_types HO426.out BK443.out (by decide)) (fun _ hk => hk.2) (.int .i64 t434)) (fun _ hk => hk.2) (.int .i64 t435)) (fun _ hk => hk.2) (.slice Ao28 t436.length co28)) (fun _ hk => hk.2) (.slice Ao29 t439.length co29)) (fun _ h_ => h_.1))) hb); have n1_ := Aside0.mk (Kd.R_below (by (with_reducible repeat (first | apply Kd.R_alloc | apply Kd.R_drewN | apply Kd.R_drew)); exact (Kd.R_mono (Kd.R_far (p := ⟨gb443, 3, none⟩) (Kd.R_far (p := ⟨gb443, 2, none⟩) (Kd.R_far (p := ⟨gb443, 1, none⟩) (Kd.R_far (p := ⟨gb443, 0, none⟩) (Kd.R_types HO429.out BK443.out (by decide)) (fun _ hk => hk.2) (.int .i64 t434)) (fun _ hk => hk.2) (.int .i64 t435)) (fun _ hk => hk.2) (.slice Ao28 t436.length co28)) (fun _ hk => hk.2) (.slice Ao29 t439.length co29)) (fun _ h_ => h_.1))) hb); have n2_ := Aside0.mk (Kd.R_below (by (with_reducible repeat (first | apply Kd.R_alloc | apply Kd.R_drewN | apply Kd.R_drew)); exact (Kd.R_mono (Kd.R_far (p := ⟨gb443, 3, none⟩) (Kd.R_far (p := ⟨gb443, 2, none⟩) (Kd.R_far (p := ⟨gb443, 1, none⟩) (Kd.R_far (p := ⟨gb443, 0, none⟩) (Kd.R_types HO438.out BK443.out (by decide)) (fun _ hk => hk.2) (.int .i64 t434)) (fun _ hk => hk.2) (.int .i64 t435)) (fun _ hk => hk.2) (.slice Ao28 t436.length co28)) (fun _ hk => hk.2) (.slice Ao29 t439.length co29)) (fun _ h_ => h_.1))) hb); have n3_ := Aside0.mk (Kd.R_below (by (with_reducible repeat (first | apply Kd.R_alloc | apply Kd.R_drewN | apply Kd.R_drew)); exact (Kd.R_mono (Kd.R_far (p := ⟨gb443, 3, none⟩) (Kd.R_far (p := ⟨gb443, 2, none⟩) (Kd.R_far (p := ⟨gb443, 1, none⟩) (Kd.R_far (p := ⟨gb443, 0, none⟩) (Kd.R_types HO441.out BK443.out (by decide)) (fun _ hk => hk.2) (.int .i64 t434)) (fun _ hk => hk.2) (.int .i64 t435)) (fun _ hk => hk.2) (.slice Ao28 t436.length co28)) (fun _ hk => hk.2) (.slice Ao29 t439.length co29)) (fun _ h_ => h_.1))) hb); have n4_ := Aside0.mk (blk_below (g := gb419) (o := .cells #[.int .i64 a2_0, .int .i64 a2_1] 41 (0, 0)) (by (with_reducible repeat (first | refine zbN ?_ _ | refine zbD ?_ | refine zbA ?_ _)); refine blk_far ?_ NB419_443.out _; (with_reducible repeat (first | refine zbN ?_ _ | refine zbD ?_ | refine zbA ?_ _)); refine blk_far ?_ NB419_443.out _; (with_reducible repeat (first | refine zbN ?_ _ | refine zbD ?_ | refine zbA ?_ _)); refine blk_far ?_ NB419_443.out _; (with_reducible repeat (first | refine zbN ?_ _ | refine zbD ?_ | refine zbA ?_ _)); refine blk_far ?_ NB419_443.out _; (with_reducible repeat (first | refine zbN ?_ _ | refine zbD ?_ | refine zbA ?_ _)); exact BK419.out) hb); have n5_ := Aside0.mk (blk_below (g := gb431) (o := .cells #[.int .i64 t422, .int .i64 t423, .slice Ao19 t424.length co19, .slice Ao20 t427.length co20] 26 (0, 0)) (by (with_reducible repeat (first | refine zbN ?_ _ | refine zbD ?_ | refine zbA ?_ _)); refine blk_far ?_ NB431_443.out _; (with_reducible repeat (first | refine zbN ?_ _ | refine zbD ?_ | refine zbA ?_ _)); refine blk_far ?_ NB431_443.out _; (with_reducible repeat (first | refine zbN ?_ _ | refine zbD ?_ | refine zbA ?_ _)); refine blk_far ?_ NB431_443.out _; (with_reducible repeat (first | refine zbN ?_ _ | refine zbD ?_ | refine zbA ?_ _)); refine blk_far ?_ NB431_443.out _; (with_reducible repeat (first | refine zbN ?_ _ | refine zbD ?_ | refine zbA ?_ _)); exact BK431.out) hb); have n6_ := Aside0.mk (blk_below (g := gb443) (o := .cells #[.int .i64 t434, .int .i64 t435, .slice Ao28 t436.length co28, .slice Ao29 t439.length co29] 26 (0, 0)) (by (with_reducible repeat (first | refine zbN ?_ _ | refine zbD ?_ | refine zbA ?_ _)); refine blk_put (cs := #[.int .i64 t434, .int .i64 t435, .slice Ao28 t436.length co28, .slice none 0 0]) ?_ 3 _ rfl; (with_reducible repeat (first | refine zbN ?_ _ | refine zbD ?_ | refine zbA ?_ _)); refine blk_put (cs := #[.int .i64 t434, .int .i64 t435, .slice none 0 0, .slice none 0 0]) ?_ 2 _ rfl; (with_reducible repeat (first | refine zbN ?_ _ | refine zbD ?_ | refine zbA ?_ _)); refine blk_put (cs := #[.int .i64 t434, .int .i64 0, .slice none 0 0, .slice none 0 0]) ?_ 1 _ rfl; (with_reducible repeat (first | refine zbN ?_ _ | refine zbD ?_ | refine zbA ?_ _)); refine blk_put (cs := #[.int .i64 0, .int .i64 0, .slice none 0 0, .slice none 0 0]) ?_ 0 _ rfl; (with_reducible repeat (first | refine zbN ?_ _ | refine zbD ?_ | refine zbA ?_ _)); exact BK443.out) hb); have n7_ := Aside0.mk (below_step (by repeat (first | (with_reducible first | exact HB.out | apply zA | apply zN | apply zD | refine zS ?_ GE419.out | refine zS ?_ GE431.out | refine zS ?_ GE443.out) | exact HB.out)) hb); clear HO426; clear HO429; clear HO438; clear HO441; clear BK419; clear BK431; clear BK443; clear HB; have HO426 := n0_; have HO429 := n1_; have HO438 := n2_; have HO441 := n3_; have BK419 := n4_; have BK431 := n5_; have BK443 := n6_; have HB := n7_; clear n0_ n1_ n2_ n3_ n4_ n5_ n6_ n7_; (try clear hb); (try clear hb2); (try clear hk); (try clear hi)))
    go_meet
    case rel => exact ⟨_, ((t442 != t430)), (by first | rfl | (simp; done) | (simp [*]; done)), H', ⟨by first | omega | exact Nat.le_refl _⟩, ⟨by (with_reducible repeat (first | apply Kd.R_alloc | apply Kd.R_drewN | apply Kd.R_drew)); exact Kd.R_mono HO426.out (fun _ hk => ⟨hk.1.1, ⟨hk.1.2, hk.2⟩⟩)⟩, ⟨by (with_reducible repeat (first | apply Kd.R_alloc | apply Kd.R_drewN | apply Kd.R_drew)); exact Kd.R_mono HO429.out (fun _ hk => ⟨hk.1.1, ⟨hk.1.2, hk.2⟩⟩)⟩, ⟨by (with_reducible repeat (first | apply Kd.R_alloc | apply Kd.R_drewN | apply Kd.R_drew)); exact Kd.R_mono HO438.out (fun _ hk => ⟨hk.1.2, ⟨hk.2, hk.1.1⟩⟩)⟩, ⟨by (with_reducible repeat (first | apply Kd.R_alloc | apply Kd.R_drewN | apply Kd.R_drew)); exact Kd.R_mono HO441.out (fun _ hk => ⟨hk.1.2, ⟨hk.2, hk.1.1⟩⟩)⟩, ⟨by (with_reducible repeat (first | refine zbN ?_ _ | refine zbD ?_ | refine zbA ?_ _)); exact BK419.out⟩, ⟨by (with_reducible repeat (first | refine zbN ?_ _ | refine zbD ?_ | refine zbA ?_ _)); exact BK431.out⟩, ⟨by (with_reducible repeat (first | refine zbN ?_ _ | refine zbD ?_ | refine zbA ?_ _)); exact BK443.out⟩, ⟨by repeat (first | (with_reducible first | exact HB.out | apply zA | apply zN | apply zD | refine zS ?_ GE419.out | refine zS ?_ GE431.out | refine zS ?_ GE443.out) | exact HB.out)⟩⟩
   ·replace c31 := Bool.eq_false_iff.mpr c31
    subst c31
    have H1 : (laws_FnExactFigureOfStroke.j0 k a0 a1 a3 t430 true a2_0 a2_1 t422 t423 t424 t427 t434 t435 t436 t439) = some r := by rw [if_neg (show ¬ (false = true) by decide)] at H; exact H
    clear H
    have H := H1
    clear H1
    exact absurd HR_.out (by cases k <;> simp [laws_FnExactFigureOfStroke.j0] at H <;> first | simp [← H] | simp [H] | simp_all)
  case rest =>
   clear HC11
   try clear c1
   try clear c2
   try clear p2
   try clear c3
   try clear c5
   try clear c5b0
   try clear c5b1
   try clear c9
   try clear c14
   try clear c17
   try clear c25
   try clear c26
   try clear c31
   try clear c32
   try clear c33
   try clear c35
   try clear hcz13_0
   try clear hcz13_1
   try clear hcz18_0
   try clear hcz18_1
   try clear hcz18_2
   try clear hcz18_3
   try clear hcz21_0
   try clear hcz21_1
   try clear hcz27_0
   try clear hcz27_1
   try clear hcz27_2
   try clear hcz27_3
   try clear hcz34_0
   try clear hcz34_1
   try clear hcz34_2
   try clear hcz34_3
   try clear hcz36_0
   try clear hcz36_1
   try clear hcz36_2
   try clear hcz36_3
   try clear hfz13_0
   try clear hfz13_1
   try clear hfz18_0
   try clear hfz18_1
   try clear hfz18_2
   try clear hfz18_3
   try clear hfz21_0
   try clear hfz21_1
   try clear hfz27_0
   try clear hfz27_1
   try clear hfz27_2
   try clear hfz27_3
   try clear hfz34_0
   try clear hfz34_1
   try clear hfz34_2
   try clear hfz34_3
   try clear hfz36_0
   try clear hfz36_1
   try clear hfz36_2
   try clear hfz36_3
   obtain ⟨kq, x46_10, rfl, HA, HJ10, HO_432002, HO_432003, HO_444002, HO_444003, BK419, BK431, BK443, HB⟩ := hcut
   cases kq with
   | zero => exact absurd HA.out (by simp [laws_FnExactFigureOfStroke.j0])
   | succ kj10 =>
    have H := HA.out
    clear HA
    simp only [laws_FnExactFigureOfStroke.j0] at H
    by_cases c38 : x46_10 = true
    ·subst c38
     have H1 : (some false) = some r := by rw [if_pos rfl] at H; exact H
     clear H
     have H := H1
     clear H1
     exact absurd ((Option.some.inj H).trans HR_.out) Bool.false_ne_true
    ·replace c38 := Bool.eq_false_iff.mpr c38
     subst c38
     have H1 : ((laws_markFigure.f kj10 t434 t435 t436 t439 101).bind fun bt445 => ((laws_heldFigure.f kj10 t434 t435 bt445.2.1 bt445.2.2 101).bind fun t448 => (if t448 < 0 then (some false) else (if t448 = bt445.1 then ((laws_toCorner.f a2_0 a2_1).bind fun bt449 => ((impl_FigureOfStroke.f kj10 a0 a1 bt449.1 bt449.2 a3).bind fun bt451 => ((laws_eqFigure.f kj10 bt451.1 bt451.2.1 bt451.2.2.1 bt451.2.2.2.1 t422 t423 t424 t427).bind fun t461 => (if t461 = true then (laws_FnExactFigureOfStroke.j1 kj10 bt445.1 (bt451.2.2.2.2 != t430) t434 t435 bt445.2.1 bt445.2.2) else (laws_FnExactFigureOfStroke.j1 kj10 bt445.1 true t434 t435 bt445.2.1 bt445.2.2))))) else (some false))))) = some r := by rw [if_neg (show ¬ (false = true) by decide)] at H; exact H
     clear H
     have H := H1
     clear H1
     replace H := Option.bind_eq_some_iff.mp H
     obtain ⟨⟨t445, t446, t447⟩, A390, H⟩ := H
     replace H : ((laws_heldFigure.f kj10 t434 t435 t446 t447 101).bind fun t448 => (if t448 < 0 then (some false) else (if t448 = t445 then ((laws_toCorner.f a2_0 a2_1).bind fun bt449 => ((impl_FigureOfStroke.f kj10 a0 a1 bt449.1 bt449.2 a3).bind fun bt451 => ((laws_eqFigure.f kj10 bt451.1 bt451.2.1 bt451.2.2.1 bt451.2.2.2.1 t422 t423 t424 t427).bind fun t461 => (if t461 = true then (laws_FnExactFigureOfStroke.j1 kj10 t445 (bt451.2.2.2.2 != t430) t434 t435 t446 t447) else (laws_FnExactFigureOfStroke.j1 kj10 t445 true t434 t435 t446 t447))))) else (some false)))) = some r := H
     have A39 := Aside0.mk A390
     clear A390
     replace H := Option.bind_eq_some_iff.mp H
     obtain ⟨t448, A400, H⟩ := H
     replace H : (if t448 < 0 then (some false) else (if t448 = t445 then ((laws_toCorner.f a2_0 a2_1).bind fun bt449 => ((impl_FigureOfStroke.f kj10 a0 a1 bt449.1 bt449.2 a3).bind fun bt451 => ((laws_eqFigure.f kj10 bt451.1 bt451.2.1 bt451.2.2.1 bt451.2.2.2.1 t422 t423 t424 t427).bind fun t461 => (if t461 = true then (laws_FnExactFigureOfStroke.j1 kj10 t445 (bt451.2.2.2.2 != t430) t434 t435 t446 t447) else (laws_FnExactFigureOfStroke.j1 kj10 t445 true t434 t435 t446 t447))))) else (some false))) = some r := H
     have A40 := Aside0.mk A400
     clear A400
     by_cases c41 : t448 < 0
     ·rw [if_pos c41] at H
      have c41b0 : decide (t448 < 0) = true := decide_eq_true c41
      clear c41
      exact absurd ((Option.some.inj H).trans HR_.out) Bool.false_ne_true
     ·rw [if_neg c41] at H
      have c41b0 : decide (t448 < 0) = false := decide_eq_false c41
      clear c41
      by_cases c42 : t448 = t445
      ·rw [if_pos c42] at H
       have c42b0 : (t448 == t445) = true := beq_iff_eq.mpr c42
       have c42b1 : (t448 != t445) = false := bne_eq_false_iff_eq.mpr c42
       clear c42
       replace H := Option.bind_eq_some_iff.mp H
       obtain ⟨⟨t449, t450⟩, A430, H⟩ := H
       replace H : ((impl_FigureOfStroke.f kj10 a0 a1 t449 t450 a3).bind fun bt451 => ((laws_eqFigure.f kj10 bt451.1 bt451.2.1 bt451.2.2.1 bt451.2.2.2.1 t422 t423 t424 t427).bind fun t461 => (if t461 = true then (laws_FnExactFigureOfStroke.j1 kj10 t445 (bt451.2.2.2.2 != t430) t434 t435 t446 t447) else (laws_FnExactFigureOfStroke.j1 kj10 t445 true t434 t435 t446 t447)))) = some r := H
       have A43 := Aside0.mk A430
       clear A430
       replace H := Option.bind_eq_some_iff.mp H
       obtain ⟨⟨t451, t452, t453, t456, t459⟩, A440, H⟩ := H
       replace H : ((laws_eqFigure.f kj10 t451 t452 t453 t456 t422 t423 t424 t427).bind fun t461 => (if t461 = true then (laws_FnExactFigureOfStroke.j1 kj10 t445 (t459 != t430) t434 t435 t446 t447) else (laws_FnExactFigureOfStroke.j1 kj10 t445 true t434 t435 t446 t447))) = some r := H
       have A44 := Aside0.mk A440
       clear A440
       have HC45 := Aside0.mk H
       clear H
       have hnb46 := NB443_419.out
       have hnc46 := NB419_443.out
       have hnb47 := NB443_431.out
       have hnc47 := NB431_443.out
       have hcz48_0 : wc.cell? ⟨gb443, 0, none⟩ = some (.int .i64 t434) := (zbC BK443.out 0).trans rfl
       have hcz48_1 : wc.cell? ⟨gb443, 1, none⟩ = some (.int .i64 t435) := (zbC BK443.out 1).trans rfl
       have hcz48_2 : wc.cell? ⟨gb443, 2, none⟩ = some (.slice Ao28 t436.length co28) := (zbC BK443.out 2).trans rfl
       have hcz48_3 : wc.cell? ⟨gb443, 3, none⟩ = some (.slice Ao29 t439.length co29) := (zbC BK443.out 3).trans rfl
       have hfz48_0 := zbF BK443.out 0
       have hfz48_1 := zbF BK443.out 1
       have hfz48_2 := zbF BK443.out 2
       have hfz48_3 := zbF BK443.out 3
       go_upto_region 16 with (first | ((with_reducible refine gate_callee (f := 16) rfl ?_); refine goesL_ (some 49) rfl rfl Tryd.func16 (by kernel_rfl) rfl #[.agg #[.int .i64 t434, .int .i64 t435, .slice Ao28 t436.length co28, .slice Ao29 t439.length co29], .int .i64 101] rfl (by (try simp only [List.map_toArray, List.map_cons, List.map_nil]); first | done | rfl | (simp only [List.length_drop, List.length_take]; rfl)) ?_; (with_reducible refine (laws_markFigure.calls kj10 t434 t435 (fun k_ => some k_ = (.slice Ao28 t436.length co28 : Value).ownBlock) (.slice Ao28 t436.length co28) t436 (fun k_ => some k_ = (.slice Ao29 t439.length co29 : Value).ownBlock) (.slice Ao29 t439.length co29) t439 101 t445 t446 t447 w _ ?side1 ?side2 ?side3 ?side4 ?side5 A39.out).mono ?_); (case side1 => repeat (first | (with_reducible first | exact HB.out | apply zA | apply zN | apply zD | refine zS ?_ GE419.out | refine zS ?_ GE431.out | refine zS ?_ GE443.out) | exact HB.out)); (case side2 => exact Kd.R_tight rfl HO_444002.out); (case side3 => exact fun k_ e_ => (HO_444002.out.1 k_ e_.symm).2.2); (case side4 => exact Kd.R_tight rfl HO_444003.out); (case side5 => exact fun k_ e_ => (HO_444003.out.1 k_ e_.symm).2.2); rintro e w49 ⟨rfl, hy0, hy1, hb, hkp⟩; refine ⟨_, rfl, ?_⟩; have n0_ := Aside0.mk (Kd.R_mono (ok' := fun k_ => some k_ ≠ (.slice Ao20 t427.length co20 : Value).ownBlock ∧ some k_ ≠ (.slice Ao28 t436.length co28 : Value).ownBlock ∧ some k_ ≠ (.slice Ao29 t439.length co29 : Value).ownBlock) (Kd.R_keptB (HO_432002.out) hkp (fun k_ hk_ hs_ => Or.elim hs_ (fun e_ => (hk_.2.1) e_) (fun e_ => (hk_.2.2) e_))) (fun k_ hk_ => ⟨hk_.1.1, hk_.1.2.1, hk_.1.2.2⟩)); have n1_ := Aside0.mk (Kd.R_mono (ok' := fun k_ => some k_ ≠ (.slice Ao19 t424.length co19 : Value).ownBlock ∧ some k_ ≠ (.slice Ao28 t436.length co28 : Value).ownBlock ∧ some k_ ≠ (.slice Ao29 t439.length co29 : Value).ownBlock) (Kd.R_keptB (HO_432003.out) hkp (fun k_ hk_ hs_ => Or.elim hs_ (fun e_ => (hk_.2.1) e_) (fun e_ => (hk_.2.2) e_))) (fun k_ hk_ => ⟨hk_.1.1, hk_.1.2.1, hk_.1.2.2⟩)); have n2_ := Aside0.mk (Kd.R_reok rfl hy0 (fun k_ e_ => HO_444002.out.1 k_ e_)); have n3_ := Aside0.mk (Kd.R_reok rfl hy1 (fun k_ e_ => HO_444003.out.1 k_ e_)); have n4_ := Aside0.mk (blk_kept (by (with_reducible repeat (first | refine zbN ?_ _ | refine zbD ?_ | refine zbA ?_ _)); exact BK419.out) hkp (fun hs_ => Or.elim hs_ (fun e_ => (fun e_ => (Kd.R_ne HO_444002.out BK419.out (by decide)) e_) e_) (fun e_ => (fun e_ => (Kd.R_ne HO_444003.out BK419.out (by decide)) e_) e_))); have n5_ := Aside0.mk (blk_kept (by (with_reducible repeat (first | refine zbN ?_ _ | refine zbD ?_ | refine zbA ?_ _)); exact BK431.out) hkp (fun hs_ => Or.elim hs_ (fun e_ => (fun e_ => (Kd.R_ne HO_444002.out BK431.out (by decide)) e_) e_) (fun e_ => (fun e_ => (Kd.R_ne HO_444003.out BK431.out (by decide)) e_) e_))); have n6_ := Aside0.mk (blk_kept (by (with_reducible repeat (first | refine zbN ?_ _ | refine zbD ?_ | refine zbA ?_ _)); exact BK443.out) hkp (fun hs_ => Or.elim hs_ (fun e_ => (fun e_ => (Kd.R_ne HO_444002.out BK443.out (by decide)) e_) e_) (fun e_ => (fun e_ => (Kd.R_ne HO_444003.out BK443.out (by decide)) e_) e_))); have n7_ := Aside0.mk (hb); clear HO_432002; clear HO_432003; clear HO_444002; clear HO_444003; clear BK419; clear BK431; clear BK443; clear HB; have HO_432002 := n0_; have HO_432003 := n1_; have HO_444002 := n2_; have HO_444003 := n3_; have BK419 := n4_; have BK431 := n5_; have BK443 := n6_; have HB := n7_; clear n0_ n1_ n2_ n3_ n4_ n5_ n6_ n7_; (try clear hb); (try clear hkp); (try clear hy0); (try clear hy1); have hcz50_0 : w49.cell? ⟨gb443, 0, none⟩ = some (.int .i64 t434) := (zbC BK443.out 0).trans rfl; have hcz50_1 : w49.cell? ⟨gb443, 1, none⟩ = some (.int .i64 t435) := (zbC BK443.out 1).trans rfl; have hcz50_2 : w49.cell? ⟨gb443, 2, none⟩ = some (.slice Ao28 t436.length co28) := (zbC BK443.out 2).trans rfl; have hcz50_3 : w49.cell? ⟨gb443, 3, none⟩ = some (.slice Ao29 t439.length co29) := (zbC BK443.out 3).trans rfl; have hfz50_0 := zbF BK443.out 0; have hfz50_1 := zbF BK443.out 1; have hfz50_2 := zbF BK443.out 2; have hfz50_3 := zbF BK443.out 3) | ((with_reducible refine gate_callee (f := 17) rfl ?_); refine goesL_ (some 52) rfl rfl Tryd.func17 (by kernel_rfl) rfl #[.agg #[.int .i64 t434, .int .i64 t435, .slice Ao28 t446.length co28, .slice Ao29 t447.length co29], .int .i64 101] rfl (by (try simp only [List.map_toArray, List.map_cons, List.map_nil]); first | done | (rw [show t446.length = t436.length from (Kd.R_reads' HO_444002.out).1.symm, show t447.length = t439.length from (Kd.R_reads' HO_444003.out).1.symm] <;> rfl) | rfl | (simp only [List.length_drop, List.length_take]; rfl)) ?_; (with_reducible refine (laws_heldFigure.calls kj10 t434 t435 _ _ t446 _ _ t447 101 t448 _ ?side1 ?side2 ?side3 ?side4 A40.out).mono ?_); (case side1 => repeat (first | exact (Kd.R_reads' HO_444002.out).2.2 | (with_reducible refine Kd.C_alloc ?_ _) | (with_reducible refine Kd.C_drewN ?_ _) | (with_reducible refine Kd.C_drew ?_))); (case side2 => rw [show t446.length = t436.length from (Kd.R_reads' HO_444002.out).1.symm]; exact (Kd.R_reads' HO_444002.out).2.1); (case side3 => repeat (first | exact (Kd.R_reads' HO_444003.out).2.2 | (with_reducible refine Kd.C_alloc ?_ _) | (with_reducible refine Kd.C_drewN ?_ _) | (with_reducible refine Kd.C_drew ?_))); (case side4 => rw [show t447.length = t439.length from (Kd.R_reads' HO_444003.out).1.symm]; exact (Kd.R_reads' HO_444003.out).2.1); rintro e w51 ⟨rfl, hb⟩; refine ⟨_, rfl, ?_⟩; have n0_ := Aside0.mk (Kd.R_below (by (with_reducible repeat (first | apply Kd.R_alloc | apply Kd.R_drewN | apply Kd.R_drew)); exact HO_432002.out) hb); have n1_ := Aside0.mk (Kd.R_below (by (with_reducible repeat (first | apply Kd.R_alloc | apply Kd.R_drewN | apply Kd.R_drew)); exact HO_432003.out) hb); have n2_ := Aside0.mk (Kd.R_below (by (with_reducible repeat (first | apply Kd.R_alloc | apply Kd.R_drewN | apply Kd.R_drew)); exact HO_444002.out) hb); have n3_ := Aside0.mk (Kd.R_below (by (with_reducible repeat (first | apply Kd.R_alloc | apply Kd.R_drewN | apply Kd.R_drew)); exact HO_444003.out) hb); have n4_ := Aside0.mk (blk_below (g := gb419) (o := .cells #[.int .i64 a2_0, .int .i64 a2_1] 41 (0, 0)) (by (with_reducible repeat (first | refine zbN ?_ _ | refine zbD ?_ | refine zbA ?_ _)); exact BK419.out) hb); have n5_ := Aside0.mk (blk_below (g := gb431) (o := .cells #[.int .i64 t422, .int .i64 t423, .slice Ao19 t424.length co19, .slice Ao20 t427.length co20] 26 (0, 0)) (by (with_reducible repeat (first | refine zbN ?_ _ | refine zbD ?_ | refine zbA ?_ _)); exact BK431.out) hb); have n6_ := Aside0.mk (blk_below (g := gb443) (o := .cells #[.int .i64 t434, .int .i64 t435, .slice Ao28 t436.length co28, .slice Ao29 t439.length co29] 26 (0, 0)) (by (with_reducible repeat (first | refine zbN ?_ _ | refine zbD ?_ | refine zbA ?_ _)); exact BK443.out) hb); have n7_ := Aside0.mk (below_step (by repeat (first | (with_reducible first | exact HB.out | apply zA | apply zN | apply zD | refine zS ?_ GE419.out | refine zS ?_ GE431.out | refine zS ?_ GE443.out) | exact HB.out)) hb); clear HO_432002; clear HO_432003; clear HO_444002; clear HO_444003; clear BK419; clear BK431; clear BK443; clear HB; have HO_432002 := n0_; have HO_432003 := n1_; have HO_444002 := n2_; have HO_444003 := n3_; have BK419 := n4_; have BK431 := n5_; have BK443 := n6_; have HB := n7_; clear n0_ n1_ n2_ n3_ n4_ n5_ n6_ n7_; (try clear hb); (try clear hb2); (try clear hk); (try clear hi); have hnb52 := NB419_431.out; have hnc52 := NB431_419.out; have hcz53_0 : w51.cell? ⟨gb419, 0, none⟩ = some (.int .i64 a2_0) := (zbC BK419.out 0).trans rfl; have hcz53_1 : w51.cell? ⟨gb419, 1, none⟩ = some (.int .i64 a2_1) := (zbC BK419.out 1).trans rfl; have hfz53_0 := zbF BK419.out 0; have hfz53_1 := zbF BK419.out 1) | ((with_reducible refine gate_callee (f := 32) rfl ?_); refine goesL_ (some 62) rfl rfl Tryd.func32 (by kernel_rfl) rfl #[.agg #[.int .i64 a2_0, .int .i64 a2_1]] rfl (by (try simp only [List.map_toArray, List.map_cons, List.map_nil]); first | done | rfl | (simp only [List.length_drop, List.length_take]; rfl)) ?_; (with_reducible refine (laws_toCorner.calls a2_0 a2_1 t449 t450 _ A43.out).mono ?_); rintro e w54 ⟨rfl, hb⟩; refine ⟨_, rfl, ?_⟩; have n0_ := Aside0.mk (Kd.R_below (by (with_reducible repeat (first | apply Kd.R_alloc | apply Kd.R_drewN | apply Kd.R_drew)); exact HO_432002.out) hb); have n1_ := Aside0.mk (Kd.R_below (by (with_reducible repeat (first | apply Kd.R_alloc | apply Kd.R_drewN | apply Kd.R_drew)); exact HO_432003.out) hb); have n2_ := Aside0.mk (Kd.R_below (by (with_reducible repeat (first | apply Kd.R_alloc | apply Kd.R_drewN | apply Kd.R_drew)); exact HO_444002.out) hb); have n3_ := Aside0.mk (Kd.R_below (by (with_reducible repeat (first | apply Kd.R_alloc | apply Kd.R_drewN | apply Kd.R_drew)); exact HO_444003.out) hb); have n4_ := Aside0.mk (blk_below (g := gb419) (o := .cells #[.int .i64 a2_0, .int .i64 a2_1] 41 (0, 0)) (by (with_reducible repeat (first | refine zbN ?_ _ | refine zbD ?_ | refine zbA ?_ _)); exact BK419.out) hb); have n5_ := Aside0.mk (blk_below (g := gb431) (o := .cells #[.int .i64 t422, .int .i64 t423, .slice Ao19 t424.length co19, .slice Ao20 t427.length co20] 26 (0, 0)) (by (with_reducible repeat (first | refine zbN ?_ _ | refine zbD ?_ | refine zbA ?_ _)); exact BK431.out) hb); have n6_ := Aside0.mk (blk_below (g := gb443) (o := .cells #[.int .i64 t434, .int .i64 t435, .slice Ao28 t436.length co28, .slice Ao29 t439.length co29] 26 (0, 0)) (by (with_reducible repeat (first | refine zbN ?_ _ | refine zbD ?_ | refine zbA ?_ _)); exact BK443.out) hb); have n7_ := Aside0.mk (below_step (by repeat (first | (with_reducible first | exact HB.out | apply zA | apply zN | apply zD | refine zS ?_ GE419.out | refine zS ?_ GE431.out | refine zS ?_ GE443.out) | exact HB.out)) hb); clear HO_432002; clear HO_432003; clear HO_444002; clear HO_444003; clear BK419; clear BK431; clear BK443; clear HB; have HO_432002 := n0_; have HO_432003 := n1_; have HO_444002 := n2_; have HO_444003 := n3_; have BK419 := n4_; have BK431 := n5_; have BK443 := n6_; have HB := n7_; clear n0_ n1_ n2_ n3_ n4_ n5_ n6_ n7_; (try clear hb); (try clear hb2); (try clear hk); (try clear hi)) | ((with_reducible refine gate_callee (f := 33) rfl ?_); refine goesL_ (some 64) rfl rfl Tryd.func33 (by kernel_rfl) rfl #[.int .i64 a0, .int .i64 a1, .agg #[.int .i64 t449, .int .i64 t450], .string a3] rfl (by (try simp only [List.map_toArray, List.map_cons, List.map_nil]); first | done | rfl | (simp only [List.length_drop, List.length_take]; rfl)) ?_; (with_reducible refine (impl_FigureOfStroke.calls kj10 a0 a1 t449 t450 a3 t451 t452 t453 t456 t459 _ ?side1 A44.out).mono ?_); (case side1 => first | exact LaidG_below HG.out (by repeat (first | (with_reducible first | exact HB.out | apply zA | apply zN | apply zD | refine zS ?_ GE419.out | refine zS ?_ GE431.out | refine zS ?_ GE443.out) | exact HB.out)) | (repeat (first | exact HG.out | (with_reducible refine LaidG_alloc ?_ _) | (with_reducible refine LaidG_drewN ?_ _) | (with_reducible refine LaidG_drew ?_)))); rintro e w55 ⟨v454, v457, rfl, ho0, ho1, hb⟩; refine ⟨_, rfl, ?_⟩; have n0_ := Aside0.mk (Kd.R_mono (Kd.R_told (Kd.R_told (Kd.R_old (by (with_reducible repeat (first | apply Kd.R_alloc | apply Kd.R_drewN | apply Kd.R_drew)); exact HO_432002.out) hb) (Kd.R_base ho0)) (Kd.R_base ho1)) (fun _ h_ => h_.1)); have n1_ := Aside0.mk (Kd.R_mono (Kd.R_told (Kd.R_told (Kd.R_old (by (with_reducible repeat (first | apply Kd.R_alloc | apply Kd.R_drewN | apply Kd.R_drew)); exact HO_432003.out) hb) (Kd.R_base ho0)) (Kd.R_base ho1)) (fun _ h_ => h_.1)); have n2_ := Aside0.mk (Kd.R_mono (Kd.R_told (Kd.R_told (Kd.R_old (by (with_reducible repeat (first | apply Kd.R_alloc | apply Kd.R_drewN | apply Kd.R_drew)); exact HO_444002.out) hb) (Kd.R_base ho0)) (Kd.R_base ho1)) (fun _ h_ => h_.1)); have n3_ := Aside0.mk (Kd.R_mono (Kd.R_told (Kd.R_told (Kd.R_old (by (with_reducible repeat (first | apply Kd.R_alloc | apply Kd.R_drewN | apply Kd.R_drew)); exact HO_444003.out) hb) (Kd.R_base ho0)) (Kd.R_base ho1)) (fun _ h_ => h_.1)); have n4_ := Aside0.mk (Kd.R_lower (Kd.R_new' (Kd.R_new' (Kd.R_new' (Kd.R_new' ho0 (Kd.R_lt (by (with_reducible repeat (first | apply Kd.R_alloc | apply Kd.R_drewN | apply Kd.R_drew)); exact HO_432002.out))) (Kd.R_lt (by (with_reducible repeat (first | apply Kd.R_alloc | apply Kd.R_drewN | apply Kd.R_drew)); exact HO_432003.out))) (Kd.R_lt (by (with_reducible repeat (first | apply Kd.R_alloc | apply Kd.R_drewN | apply Kd.R_drew)); exact HO_444002.out))) (Kd.R_lt (by (with_reducible repeat (first | apply Kd.R_alloc | apply Kd.R_drewN | apply Kd.R_drew)); exact HO_444003.out))) (below_size (by repeat (first | (with_reducible first | exact HB.out | apply zA | apply zN | apply zD | refine zS ?_ GE419.out | refine zS ?_ GE431.out | refine zS ?_ GE443.out) | exact HB.out)))); have n5_ := Aside0.mk (Kd.R_lower (Kd.R_new' (Kd.R_new' (Kd.R_new' (Kd.R_new' ho1 (Kd.R_lt (by (with_reducible repeat (first | apply Kd.R_alloc | apply Kd.R_drewN | apply Kd.R_drew)); exact HO_432002.out))) (Kd.R_lt (by (with_reducible repeat (first | apply Kd.R_alloc | apply Kd.R_drewN | apply Kd.R_drew)); exact HO_432003.out))) (Kd.R_lt (by (with_reducible repeat (first | apply Kd.R_alloc | apply Kd.R_drewN | apply Kd.R_drew)); exact HO_444002.out))) (Kd.R_lt (by (with_reducible repeat (first | apply Kd.R_alloc | apply Kd.R_drewN | apply Kd.R_drew)); exact HO_444003.out))) (below_size (by repeat (first | (with_reducible first | exact HB.out | apply zA | apply zN | apply zD | refine zS ?_ GE419.out | refine zS ?_ GE431.out | refine zS ?_ GE443.out) | exact HB.out)))); have n6_ := Aside0.mk (blk_below (g := gb419) (o := .cells #[.int .i64 a2_0, .int .i64 a2_1] 41 (0, 0)) (by (with_reducible repeat (first | refine zbN ?_ _ | refine zbD ?_ | refine zbA ?_ _)); exact BK419.out) hb); have n7_ := Aside0.mk (blk_below (g := gb431) (o := .cells #[.int .i64 t422, .int .i64 t423, .slice Ao19 t424.length co19, .slice Ao20 t427.length co20] 26 (0, 0)) (by (with_reducible repeat (first | refine zbN ?_ _ | refine zbD ?_ | refine zbA ?_ _)); exact BK431.out) hb); have n8_ := Aside0.mk (blk_below (g := gb443) (o := .cells #[.int .i64 t434, .int .i64 t435, .slice Ao28 t436.length co28, .slice Ao29 t439.length co29] 26 (0, 0)) (by (with_reducible repeat (first | refine zbN ?_ _ | refine zbD ?_ | refine zbA ?_ _)); exact BK443.out) hb); have n9_ := Aside0.mk (below_step (by repeat (first | (with_reducible first | exact HB.out | apply zA | apply zN | apply zD | refine zS ?_ GE419.out | refine zS ?_ GE431.out | refine zS ?_ GE443.out) | exact HB.out)) hb); clear HO_432002; clear HO_432003; clear HO_444002; clear HO_444003; clear BK419; clear BK431; clear BK443; clear HB; have HO_432002 := n0_; have HO_432003 := n1_; have HO_444002 := n2_; have HO_444003 := n3_; have HO455 := n4_; have HO458 := n5_; have BK419 := n6_; have BK431 := n7_; have BK443 := n8_; have HB := n9_; clear n0_ n1_ n2_ n3_ n4_ n5_ n6_ n7_ n8_ n9_; (try clear hb); (try clear hb2); (try clear hk); (try clear hi); (try clear ho0); (try clear ho1)) | ((with_reducible refine gate_dst (N := 15) rfl ?_); refine box_event ?hg (N := 15) ?hd (cs := #[.int .i64 0, .int .i64 0, .slice none 0 0, .slice none 0 0]) (t := 26) ?hr ?_; (case hd => rfl); (case hg => rfl); (case hr => first | (go_simp; done) | (go_simp; rfl)); intro gb460 hg w56 hbox hb; have n0_ := Aside0.mk (Kd.R_below (by (with_reducible repeat (first | apply Kd.R_alloc | apply Kd.R_drewN | apply Kd.R_drew)); exact HO_432002.out) hb); have n1_ := Aside0.mk (Kd.R_below (by (with_reducible repeat (first | apply Kd.R_alloc | apply Kd.R_drewN | apply Kd.R_drew)); exact HO_432003.out) hb); have n2_ := Aside0.mk (Kd.R_below (by (with_reducible repeat (first | apply Kd.R_alloc | apply Kd.R_drewN | apply Kd.R_drew)); exact HO_444002.out) hb); have n3_ := Aside0.mk (Kd.R_below (by (with_reducible repeat (first | apply Kd.R_alloc | apply Kd.R_drewN | apply Kd.R_drew)); exact HO_444003.out) hb); have n4_ := Aside0.mk (Kd.R_below (by (with_reducible repeat (first | apply Kd.R_alloc | apply Kd.R_drewN | apply Kd.R_drew)); exact HO455.out) hb); have n5_ := Aside0.mk (Kd.R_below (by (with_reducible repeat (first | apply Kd.R_alloc | apply Kd.R_drewN | apply Kd.R_drew)); exact HO458.out) hb); have n6_ := Aside0.mk (blk_below (g := gb419) (o := .cells #[.int .i64 a2_0, .int .i64 a2_1] 41 (0, 0)) (by (with_reducible repeat (first | refine zbN ?_ _ | refine zbD ?_ | refine zbA ?_ _)); exact BK419.out) hb); have n7_ := Aside0.mk (blk_below (g := gb431) (o := .cells #[.int .i64 t422, .int .i64 t423, .slice Ao19 t424.length co19, .slice Ao20 t427.length co20] 26 (0, 0)) (by (with_reducible repeat (first | refine zbN ?_ _ | refine zbD ?_ | refine zbA ?_ _)); exact BK431.out) hb); have n8_ := Aside0.mk (blk_below (g := gb443) (o := .cells #[.int .i64 t434, .int .i64 t435, .slice Ao28 t436.length co28, .slice Ao29 t439.length co29] 26 (0, 0)) (by (with_reducible repeat (first | refine zbN ?_ _ | refine zbD ?_ | refine zbA ?_ _)); exact BK443.out) hb); have n9_ := Aside0.mk (below_step (by repeat (first | (with_reducible first | exact HB.out | apply zA | apply zN | apply zD | refine zS ?_ GE419.out | refine zS ?_ GE431.out | refine zS ?_ GE443.out) | exact HB.out)) hb); have n10_ := Aside0.mk (hbox); have n11_ := Aside0.mk ((by rw [hg]; exact (below_size (by repeat (first | (with_reducible first | exact HB.out | apply zA | apply zN | apply zD | refine zS ?_ GE419.out | refine zS ?_ GE431.out | refine zS ?_ GE443.out) | exact HB.out))) : w.heap.size ≤ gb460)); have n12_ := Aside0.mk ((by rw [hg]; exact (below_size (by repeat (first | (with_reducible first | exact HB.out | apply zA | apply zN | apply zD | refine zS ?_ GE419.out | refine zS ?_ GE431.out | refine zS ?_ GE443.out) | exact HB.out))) : w.heap.size ≤ gb460)); have n13_ := Aside0.mk ((by rw [hg]; exact Nat.ne_of_lt (blk_lt (g := gb419) (o := .cells #[.int .i64 a2_0, .int .i64 a2_1] 41 (0, 0)) (by (with_reducible repeat (first | refine zbN ?_ _ | refine zbD ?_ | refine zbA ?_ _)); exact BK419.out)) : gb419 ≠ gb460)); have n14_ := Aside0.mk ((by rw [hg]; exact Nat.ne_of_gt (blk_lt (g := gb419) (o := .cells #[.int .i64 a2_0, .int .i64 a2_1] 41 (0, 0)) (by (with_reducible repeat (first | refine zbN ?_ _ | refine zbD ?_ | refine zbA ?_ _)); exact BK419.out)) : gb460 ≠ gb419)); have n15_ := Aside0.mk ((by rw [hg]; exact Nat.ne_of_lt (blk_lt (g := gb431) (o := .cells #[.int .i64 t422, .int .i64 t423, .slice Ao19 t424.length co19, .slice Ao20 t427.length co20] 26 (0, 0)) (by (with_reducible repeat (first | refine zbN ?_ _ | refine zbD ?_ | refine zbA ?_ _)); exact BK431.out)) : gb431 ≠ gb460)); have n16_ := Aside0.mk ((by rw [hg]; exact Nat.ne_of_gt (blk_lt (g := gb431) (o := .cells #[.int .i64 t422, .int .i64 t423, .slice Ao19 t424.length co19, .slice Ao20 t427.length co20] 26 (0, 0)) (by (with_reducible repeat (first | refine zbN ?_ _ | refine zbD ?_ | refine zbA ?_ _)); exact BK431.out)) : gb460 ≠ gb431)); have n17_ := Aside0.mk ((by rw [hg]; exact Nat.ne_of_lt (blk_lt (g := gb443) (o := .cells #[.int .i64 t434, .int .i64 t435, .slice Ao28 t436.length co28, .slice Ao29 t439.length co29] 26 (0, 0)) (by (with_reducible repeat (first | refine zbN ?_ _ | refine zbD ?_ | refine zbA ?_ _)); exact BK443.out)) : gb443 ≠ gb460)); have n18_ := Aside0.mk ((by rw [hg]; exact Nat.ne_of_gt (blk_lt (g := gb443) (o := .cells #[.int .i64 t434, .int .i64 t435, .slice Ao28 t436.length co28, .slice Ao29 t439.length co29] 26 (0, 0)) (by (with_reducible repeat (first | refine zbN ?_ _ | refine zbD ?_ | refine zbA ?_ _)); exact BK443.out)) : gb460 ≠ gb443)); clear HO_432002; clear HO_432003; clear HO_444002; clear HO_444003; clear HO455; clear HO458; clear BK419; clear BK431; clear BK443; clear HB; have HO_432002 := n0_; have HO_432003 := n1_; have HO_444002 := n2_; have HO_444003 := n3_; have HO455 := n4_; have HO458 := n5_; have BK419 := n6_; have BK431 := n7_; have BK443 := n8_; have HB := n9_; have BK460 := n10_; have GW460 := n11_; have GE460 := n12_; have NB419_460 := n13_; have NB460_419 := n14_; have NB431_460 := n15_; have NB460_431 := n16_; have NB443_460 := n17_; have NB460_443 := n18_; clear n0_ n1_ n2_ n3_ n4_ n5_ n6_ n7_ n8_ n9_ n10_ n11_ n12_ n13_ n14_ n15_ n16_ n17_ n18_; clear hb hbox hg; have hnb57 := NB460_419.out; have hnc57 := NB419_460.out; have hnb58 := NB460_431.out; have hnc58 := NB431_460.out; have hnb59 := NB460_443.out; have hnc59 := NB443_460.out; have hcz60_0 : w56.cell? ⟨gb460, 0, none⟩ = some (.int .i64 0) := (zbC BK460.out 0).trans rfl; have hcz60_1 : w56.cell? ⟨gb460, 1, none⟩ = some (.int .i64 0) := (zbC BK460.out 1).trans rfl; have hcz60_2 : w56.cell? ⟨gb460, 2, none⟩ = some (.slice none 0 0) := (zbC BK460.out 2).trans rfl; have hcz60_3 : w56.cell? ⟨gb460, 3, none⟩ = some (.slice none 0 0) := (zbC BK460.out 3).trans rfl; have hfz60_0 := zbF BK460.out 0; have hfz60_1 := zbF BK460.out 1; have hfz60_2 := zbF BK460.out 2; have hfz60_3 := zbF BK460.out 3; obtain ⟨Ao61, co61, eo61⟩ := Kd.R_slice HO455.out; subst eo61; obtain ⟨Ao62, co62, eo62⟩ := Kd.R_slice HO458.out; subst eo62))
       (try simp only [Act.put, List.setIfInBounds_toArray, List.set_cons_zero, List.set_cons_succ])
       go_cut [75] (fun v75 wc => ∃ (kq : Nat) (x75_44 : Bool), v75 = .bool x75_44 ∧ Aside0 (laws_FnExactFigureOfStroke.j1 kq t445 x75_44 t434 t435 t446 t447 = some r) ∧ Aside0 (kq ≤ kj10) ∧ Aside0 (Kd.R (Kd.int .i64) 3 wc w.heap.size (fun k_ => some k_ ≠ ((.slice Ao20 t427.length co20) : Value).ownBlock ∧ some k_ ≠ ((.slice Ao28 t436.length co28) : Value).ownBlock ∧ some k_ ≠ ((.slice Ao29 t439.length co29) : Value).ownBlock ∧ some k_ ≠ ((.slice Ao61 t453.length co61) : Value).ownBlock ∧ some k_ ≠ ((.slice Ao62 t456.length co62) : Value).ownBlock) (.slice Ao19 t424.length co19) t424) ∧ Aside0 (Kd.R (Kd.int .i64) 3 wc w.heap.size (fun k_ => some k_ ≠ ((.slice Ao19 t424.length co19) : Value).ownBlock ∧ some k_ ≠ ((.slice Ao28 t436.length co28) : Value).ownBlock ∧ some k_ ≠ ((.slice Ao29 t439.length co29) : Value).ownBlock ∧ some k_ ≠ ((.slice Ao61 t453.length co61) : Value).ownBlock ∧ some k_ ≠ ((.slice Ao62 t456.length co62) : Value).ownBlock) (.slice Ao20 t427.length co20) t427) ∧ Aside0 (Kd.R (Kd.int .i64) 3 wc w.heap.size (fun k_ => some k_ ≠ ((.slice Ao19 t424.length co19) : Value).ownBlock ∧ some k_ ≠ ((.slice Ao20 t427.length co20) : Value).ownBlock ∧ some k_ ≠ ((.slice Ao29 t439.length co29) : Value).ownBlock ∧ some k_ ≠ ((.slice Ao61 t453.length co61) : Value).ownBlock ∧ some k_ ≠ ((.slice Ao62 t456.length co62) : Value).ownBlock) (.slice Ao28 t436.length co28) t446) ∧ Aside0 (Kd.R (Kd.int .i64) 3 wc w.heap.size (fun k_ => some k_ ≠ ((.slice Ao19 t424.length co19) : Value).ownBlock ∧ some k_ ≠ ((.slice Ao20 t427.length co20) : Value).ownBlock ∧ some k_ ≠ ((.slice Ao28 t436.length co28) : Value).ownBlock ∧ some k_ ≠ ((.slice Ao61 t453.length co61) : Value).ownBlock ∧ some k_ ≠ ((.slice Ao62 t456.length co62) : Value).ownBlock) (.slice Ao29 t439.length co29) t447) ∧ Aside0 (Kd.R (Kd.int .i64) 3 wc w.heap.size (fun k_ => some k_ ≠ ((.slice Ao19 t424.length co19) : Value).ownBlock ∧ some k_ ≠ ((.slice Ao20 t427.length co20) : Value).ownBlock ∧ some k_ ≠ ((.slice Ao28 t436.length co28) : Value).ownBlock ∧ some k_ ≠ ((.slice Ao29 t439.length co29) : Value).ownBlock ∧ some k_ ≠ ((.slice Ao62 t456.length co62) : Value).ownBlock) (.slice Ao61 t453.length co61) t453) ∧ Aside0 (Kd.R (Kd.int .i64) 3 wc w.heap.size (fun k_ => some k_ ≠ ((.slice Ao19 t424.length co19) : Value).ownBlock ∧ some k_ ≠ ((.slice Ao20 t427.length co20) : Value).ownBlock ∧ some k_ ≠ ((.slice Ao28 t436.length co28) : Value).ownBlock ∧ some k_ ≠ ((.slice Ao29 t439.length co29) : Value).ownBlock ∧ some k_ ≠ ((.slice Ao61 t453.length co61) : Value).ownBlock) (.slice Ao62 t456.length co62) t456) ∧ Aside0 (wc.heap[gb419]? = some (.cells #[.int .i64 a2_0, .int .i64 a2_1] 41 (0, 0))) ∧ Aside0 (wc.heap[gb431]? = some (.cells #[.int .i64 t422, .int .i64 t423, (.slice Ao19 t424.length co19), (.slice Ao20 t427.length co20)] 26 (0, 0))) ∧ Aside0 (wc.heap[gb443]? = some (.cells #[.int .i64 t434, .int .i64 t435, (.slice Ao28 t436.length co28), (.slice Ao29 t439.length co29)] 26 (0, 0))) ∧ Aside0 (wc.heap[gb460]? = some (.cells #[.int .i64 t451, .int .i64 t452, (.slice Ao61 t453.length co61), (.slice Ao62 t456.length co62)] 26 (0, 0))) ∧ Aside0 (Below w.heap.size w wc))
       case first =>
        have H := HC45.out
        clear HC45
        replace H := Option.bind_eq_some_iff.mp H
        obtain ⟨t461, A630, H⟩ := H
        replace H : (if t461 = true then (laws_FnExactFigureOfStroke.j1 kj10 t445 (t459 != t430) t434 t435 t446 t447) else (laws_FnExactFigureOfStroke.j1 kj10 t445 true t434 t435 t446 t447)) = some r := H
        have A63 := Aside0.mk A630
        clear A630
        by_cases c64 : t461 = true
        ·subst c64
         have H1 : (laws_FnExactFigureOfStroke.j1 kj10 t445 (t459 != t430) t434 t435 t446 t447) = some r := by rw [if_pos rfl] at H; exact H
         clear H
         have H := H1
         clear H1
         have H' := Aside0.mk H
         clear H
         have hnb65 := NB460_419.out
         have hnc65 := NB419_460.out
         have hnb66 := NB460_431.out
         have hnc66 := NB431_460.out
         have hnb67 := NB460_443.out
         have hnc67 := NB443_460.out
         have hcz68_0 : w56.cell? ⟨gb460, 0, none⟩ = some (.int .i64 0) := (zbC BK460.out 0).trans rfl
         have hcz68_1 : w56.cell? ⟨gb460, 1, none⟩ = some (.int .i64 0) := (zbC BK460.out 1).trans rfl
         have hcz68_2 : w56.cell? ⟨gb460, 2, none⟩ = some (.slice none 0 0) := (zbC BK460.out 2).trans rfl
         have hcz68_3 : w56.cell? ⟨gb460, 3, none⟩ = some (.slice none 0 0) := (zbC BK460.out 3).trans rfl
         have hfz68_0 := zbF BK460.out 0
         have hfz68_1 := zbF BK460.out 1
         have hfz68_2 := zbF BK460.out 2
         have hfz68_3 := zbF BK460.out 3
         have hnb69 := NB431_419.out
         have hnc69 := NB419_431.out
         have hnb70 := NB431_443.out
         have hnc70 := NB443_431.out
         have hcz71_0 : w56.cell? ⟨gb431, 0, none⟩ = some (.int .i64 t422) := (zbC BK431.out 0).trans rfl
         have hcz71_1 : w56.cell? ⟨gb431, 1, none⟩ = some (.int .i64 t423) := (zbC BK431.out 1).trans rfl
         have hcz71_2 : w56.cell? ⟨gb431, 2, none⟩ = some (.slice Ao19 t424.length co19) := (zbC BK431.out 2).trans rfl
         have hcz71_3 : w56.cell? ⟨gb431, 3, none⟩ = some (.slice Ao20 t427.length co20) := (zbC BK431.out 3).trans rfl
         have hfz71_0 := zbF BK431.out 0
         have hfz71_1 := zbF BK431.out 1
         have hfz71_2 := zbF BK431.out 2
         have hfz71_3 := zbF BK431.out 3
         go_wp2_with (first | ((with_reducible refine gate_callee (f := 14) rfl ?_); refine goesL_ (some 69) rfl rfl Tryd.func14 (by kernel_rfl) rfl #[.agg #[.int .i64 t451, .int .i64 t452, .slice Ao61 t453.length co61, .slice Ao62 t456.length co62], .agg #[.int .i64 t422, .int .i64 t423, .slice Ao19 t424.length co19, .slice Ao20 t427.length co20]] rfl (by (try simp only [List.map_toArray, List.map_cons, List.map_nil]); first | done | rfl | (simp only [List.length_drop, List.length_take]; rfl)) ?_; (with_reducible refine (laws_eqFigure.calls kj10 t451 t452 _ _ t453 _ _ t456 t422 t423 _ _ t424 _ _ t427 true _ ?side1 ?side2 ?side3 ?side4 ?side5 ?side6 ?side7 ?side8 A63.out).mono ?_); (case side1 => refine (Kd.R_reads' (e := 3) (base := w.heap.size) (ok := fun k_ => ((((some k_ ≠ (.slice Ao62 t456.length co62 : Value).ownBlock ∧ some k_ ≠ (.slice Ao19 t424.length co19 : Value).ownBlock) ∧ some k_ ≠ (.slice Ao20 t427.length co20 : Value).ownBlock) ∧ some k_ ≠ (.slice Ao28 t436.length co28 : Value).ownBlock) ∧ some k_ ≠ (.slice Ao29 t439.length co29 : Value).ownBlock)) (n := t453.length) (c := co61) ?_).2.2; exact (by (with_reducible repeat (first | apply Kd.R_alloc | apply Kd.R_drewN | apply Kd.R_drew)); exact (Kd.R_mono (Kd.R_far (p := ⟨gb460, 3, none⟩) (Kd.R_far (p := ⟨gb460, 2, none⟩) (Kd.R_far (p := ⟨gb460, 1, none⟩) (Kd.R_far (p := ⟨gb460, 0, none⟩) (Kd.R_types HO455.out BK460.out (by decide)) (fun _ hk => hk.2) (.int .i64 t451)) (fun _ hk => hk.2) (.int .i64 t452)) (fun _ hk => hk.2) (.slice Ao61 t453.length co61)) (fun _ hk => hk.2) (.slice Ao62 t456.length co62)) (fun _ h_ => h_.1)))); (case side2 => exact (Kd.R_reads' HO455.out).2.1); (case side3 => refine (Kd.R_reads' (e := 3) (base := w.heap.size) (ok := fun k_ => ((((some k_ ≠ (.slice Ao61 t453.length co61 : Value).ownBlock ∧ some k_ ≠ (.slice Ao19 t424.length co19 : Value).ownBlock) ∧ some k_ ≠ (.slice Ao20 t427.length co20 : Value).ownBlock) ∧ some k_ ≠ (.slice Ao28 t436.length co28 : Value).ownBlock) ∧ some k_ ≠ (.slice Ao29 t439.length co29 : Value).ownBlock)) (n := t456.length) (c := co62) ?_).2.2; exact (by (with_reducible repeat (first | apply Kd.R_alloc | apply Kd.R_drewN | apply Kd.R_drew)); exact (Kd.R_mono (Kd.R_far (p := ⟨gb460, 3, none⟩) (Kd.R_far (p := ⟨gb460, 2, none⟩) (Kd.R_far (p := ⟨gb460, 1, none⟩) (Kd.R_far (p := ⟨gb460, 0, none⟩) (Kd.R_types HO458.out BK460.out (by decide)) (fun _ hk => hk.2) (.int .i64 t451)) (fun _ hk => hk.2) (.int .i64 t452)) (fun _ hk => hk.2) (.slice Ao61 t453.length co61)) (fun _ hk => hk.2) (.slice Ao62 t456.length co62)) (fun _ h_ => h_.1)))); (case side4 => exact (Kd.R_reads' HO458.out).2.1); (case side5 => refine (Kd.R_reads' (e := 3) (base := w.heap.size) (ok := fun k_ => (((some k_ ≠ (.slice Ao20 t427.length co20 : Value).ownBlock ∧ (some k_ ≠ (.slice Ao28 t436.length co28 : Value).ownBlock ∧ some k_ ≠ (.slice Ao29 t439.length co29 : Value).ownBlock)) ∧ some k_ ≠ (.slice Ao61 t453.length co61 : Value).ownBlock) ∧ some k_ ≠ (.slice Ao62 t456.length co62 : Value).ownBlock)) (n := t424.length) (c := co19) ?_).2.2; exact (by (with_reducible repeat (first | apply Kd.R_alloc | apply Kd.R_drewN | apply Kd.R_drew)); exact (Kd.R_mono (Kd.R_far (p := ⟨gb460, 3, none⟩) (Kd.R_far (p := ⟨gb460, 2, none⟩) (Kd.R_far (p := ⟨gb460, 1, none⟩) (Kd.R_far (p := ⟨gb460, 0, none⟩) (Kd.R_types HO_432002.out BK460.out (by decide)) (fun _ hk => hk.2) (.int .i64 t451)) (fun _ hk => hk.2) (.int .i64 t452)) (fun _ hk => hk.2) (.slice Ao61 t453.length co61)) (fun _ hk => hk.2) (.slice Ao62 t456.length co62)) (fun _ h_ => h_.1)))); (case side6 => exact (Kd.R_reads' HO_432002.out).2.1); (case side7 => refine (Kd.R_reads' (e := 3) (base := w.heap.size) (ok := fun k_ => (((some k_ ≠ (.slice Ao19 t424.length co19 : Value).ownBlock ∧ (some k_ ≠ (.slice Ao28 t436.length co28 : Value).ownBlock ∧ some k_ ≠ (.slice Ao29 t439.length co29 : Value).ownBlock)) ∧ some k_ ≠ (.slice Ao61 t453.length co61 : Value).ownBlock) ∧ some k_ ≠ (.slice Ao62 t456.length co62 : Value).ownBlock)) (n := t427.length) (c := co20) ?_).2.2; exact (by (with_reducible repeat (first | apply Kd.R_alloc | apply Kd.R_drewN | apply Kd.R_drew)); exact (Kd.R_mono (Kd.R_far (p := ⟨gb460, 3, none⟩) (Kd.R_far (p := ⟨gb460, 2, none⟩) (Kd.R_far (p := ⟨gb460, 1, none⟩) (Kd.R_far (p := ⟨gb460, 0, none⟩) (Kd.R_types HO_432003.out BK460.out (by decide)) (fun _ hk => hk.2) (.int .i64 t451)) (fun _ hk => hk.2) (.int .i64 t452)) (fun _ hk => hk.2) (.slice Ao61 t453.length co61)) (fun _ hk => hk.2) (.slice Ao62 t456.length co62)) (fun _ h_ => h_.1)))); (case side8 => exact (Kd.R_reads' HO_432003.out).2.1); rintro e w72 ⟨rfl, hb⟩; refine ⟨_, rfl, ?_⟩; have n0_ := Aside0.mk (Kd.R_below (by (with_reducible repeat (first | apply Kd.R_alloc | apply Kd.R_drewN | apply Kd.R_drew)); exact (Kd.R_mono (Kd.R_far (p := ⟨gb460, 3, none⟩) (Kd.R_far (p := ⟨gb460, 2, none⟩) (Kd.R_far (p := ⟨gb460, 1, none⟩) (Kd.R_far (p := ⟨gb460, 0, none⟩) (Kd.R_types HO_432002.out BK460.out (by decide)) (fun _ hk => hk.2) (.int .i64 t451)) (fun _ hk => hk.2) (.int .i64 t452)) (fun _ hk => hk.2) (.slice Ao61 t453.length co61)) (fun _ hk => hk.2) (.slice Ao62 t456.length co62)) (fun _ h_ => h_.1))) hb); have n1_ := Aside0.mk (Kd.R_below (by (with_reducible repeat (first | apply Kd.R_alloc | apply Kd.R_drewN | apply Kd.R_drew)); exact (Kd.R_mono (Kd.R_far (p := ⟨gb460, 3, none⟩) (Kd.R_far (p := ⟨gb460, 2, none⟩) (Kd.R_far (p := ⟨gb460, 1, none⟩) (Kd.R_far (p := ⟨gb460, 0, none⟩) (Kd.R_types HO_432003.out BK460.out (by decide)) (fun _ hk => hk.2) (.int .i64 t451)) (fun _ hk => hk.2) (.int .i64 t452)) (fun _ hk => hk.2) (.slice Ao61 t453.length co61)) (fun _ hk => hk.2) (.slice Ao62 t456.length co62)) (fun _ h_ => h_.1))) hb); have n2_ := Aside0.mk (Kd.R_below (by (with_reducible repeat (first | apply Kd.R_alloc | apply Kd.R_drewN | apply Kd.R_drew)); exact (Kd.R_mono (Kd.R_far (p := ⟨gb460, 3, none⟩) (Kd.R_far (p := ⟨gb460, 2, none⟩) (Kd.R_far (p := ⟨gb460, 1, none⟩) (Kd.R_far (p := ⟨gb460, 0, none⟩) (Kd.R_types HO_444002.out BK460.out (by decide)) (fun _ hk => hk.2) (.int .i64 t451)) (fun _ hk => hk.2) (.int .i64 t452)) (fun _ hk => hk.2) (.slice Ao61 t453.length co61)) (fun _ hk => hk.2) (.slice Ao62 t456.length co62)) (fun _ h_ => h_.1))) hb); have n3_ := Aside0.mk (Kd.R_below (by (with_reducible repeat (first | apply Kd.R_alloc | apply Kd.R_drewN | apply Kd.R_drew)); exact (Kd.R_mono (Kd.R_far (p := ⟨gb460, 3, none⟩) (Kd.R_far (p := ⟨gb460, 2, none⟩) (Kd.R_far (p := ⟨gb460, 1, none⟩) (Kd.R_far (p := ⟨gb460, 0, none⟩) (Kd.R_types HO_444003.out BK460.out (by decide)) (fun _ hk => hk.2) (.int .i64 t451)) (fun _ hk => hk.2) (.int .i64 t452)) (fun _ hk => hk.2) (.slice Ao61 t453.length co61)) (fun _ hk => hk.2) (.slice Ao62 t456.length co62)) (fun _ h_ => h_.1))) hb); have n4_ := Aside0.mk (Kd.R_below (by (with_reducible repeat (first | apply Kd.R_alloc | apply Kd.R_drewN | apply Kd.R_drew)); exact (Kd.R_mono (Kd.R_far (p := ⟨gb460, 3, none⟩) (Kd.R_far (p := ⟨gb460, 2, none⟩) (Kd.R_far (p := ⟨gb460, 1, none⟩) (Kd.R_far (p := ⟨gb460, 0, none⟩) (Kd.R_types HO455.out BK460.out (by decide)) (fun _ hk => hk.2) (.int .i64 t451)) (fun _ hk => hk.2) (.int .i64 t452)) (fun _ hk => hk.2) (.slice Ao61 t453.length co61)) (fun _ hk => hk.2) (.slice Ao62 t456.length co62)) (fun _ h_ => h_.1))) hb); have n5_ := Aside0.mk (Kd.R_below (by (with_reducible repeat (first | apply Kd.R_alloc | apply Kd.R_drewN | apply Kd.R_drew)); exact (Kd.R_mono (Kd.R_far (p := ⟨gb460, 3, none⟩) (Kd.R_far (p := ⟨gb460, 2, none⟩) (Kd.R_far (p := ⟨gb460, 1, none⟩) (Kd.R_far (p := ⟨gb460, 0, none⟩) (Kd.R_types HO458.out BK460.out (by decide)) (fun _ hk => hk.2) (.int .i64 t451)) (fun _ hk => hk.2) (.int .i64 t452)) (fun _ hk => hk.2) (.slice Ao61 t453.length co61)) (fun _ hk => hk.2) (.slice Ao62 t456.length co62)) (fun _ h_ => h_.1))) hb); have n6_ := Aside0.mk (blk_below (g := gb419) (o := .cells #[.int .i64 a2_0, .int .i64 a2_1] 41 (0, 0)) (by (with_reducible repeat (first | refine zbN ?_ _ | refine zbD ?_ | refine zbA ?_ _)); refine blk_far ?_ NB419_460.out _; (with_reducible repeat (first | refine zbN ?_ _ | refine zbD ?_ | refine zbA ?_ _)); refine blk_far ?_ NB419_460.out _; (with_reducible repeat (first | refine zbN ?_ _ | refine zbD ?_ | refine zbA ?_ _)); refine blk_far ?_ NB419_460.out _; (with_reducible repeat (first | refine zbN ?_ _ | refine zbD ?_ | refine zbA ?_ _)); refine blk_far ?_ NB419_460.out _; (with_reducible repeat (first | refine zbN ?_ _ | refine zbD ?_ | refine zbA ?_ _)); exact BK419.out) hb); have n7_ := Aside0.mk (blk_below (g := gb431) (o := .cells #[.int .i64 t422, .int .i64 t423, .slice Ao19 t424.length co19, .slice Ao20 t427.length co20] 26 (0, 0)) (by (with_reducible repeat (first | refine zbN ?_ _ | refine zbD ?_ | refine zbA ?_ _)); refine blk_far ?_ NB431_460.out _; (with_reducible repeat (first | refine zbN ?_ _ | refine zbD ?_ | refine zbA ?_ _)); refine blk_far ?_ NB431_460.out _; (with_reducible repeat (first | refine zbN ?_ _ | refine zbD ?_ | refine zbA ?_ _)); refine blk_far ?_ NB431_460.out _; (with_reducible repeat (first | refine zbN ?_ _ | refine zbD ?_ | refine zbA ?_ _)); refine blk_far ?_ NB431_460.out _; (with_reducible repeat (first | refine zbN ?_ _ | refine zbD ?_ | refine zbA ?_ _)); exact BK431.out) hb); have n8_ := Aside0.mk (blk_below (g := gb443) (o := .cells #[.int .i64 t434, .int .i64 t435, .slice Ao28 t436.length co28, .slice Ao29 t439.length co29] 26 (0, 0)) (by (with_reducible repeat (first | refine zbN ?_ _ | refine zbD ?_ | refine zbA ?_ _)); refine blk_far ?_ NB443_460.out _; (with_reducible repeat (first | refine zbN ?_ _ | refine zbD ?_ | refine zbA ?_ _)); refine blk_far ?_ NB443_460.out _; (with_reducible repeat (first | refine zbN ?_ _ | refine zbD ?_ | refine zbA ?_ _)); refine blk_far ?_ NB443_460.out _; (with_reducible repeat (first | refine zbN ?_ _ | refine zbD ?_ | refine zbA ?_ _)); refine blk_far ?_ NB443_460.out _; (with_reducible repeat (first | refine zbN ?_ _ | refine zbD ?_ | refine zbA ?_ _)); exact BK443.out) hb); have n9_ := Aside0.mk (blk_below (g := gb460) (o := .cells #[.int .i64 t451, .int .i64 t452, .slice Ao61 t453.length co61, .slice Ao62 t456.length co62] 26 (0, 0)) (by (with_reducible repeat (first | refine zbN ?_ _ | refine zbD ?_ | refine zbA ?_ _)); refine blk_put (cs := #[.int .i64 t451, .int .i64 t452, .slice Ao61 t453.length co61, .slice none 0 0]) ?_ 3 _ rfl; (with_reducible repeat (first | refine zbN ?_ _ | refine zbD ?_ | refine zbA ?_ _)); refine blk_put (cs := #[.int .i64 t451, .int .i64 t452, .slice none 0 0, .slice none 0 0]) ?_ 2 _ rfl; (with_reducible repeat (first | refine zbN ?_ _ | refine zbD ?_ | refine zbA ?_ _)); refine blk_put (cs := #[.int .i64 t451, .int .i64 0, .slice none 0 0, .slice none 0 0]) ?_ 1 _ rfl; (with_reducible repeat (first | refine zbN ?_ _ | refine zbD ?_ | refine zbA ?_ _)); refine blk_put (cs := #[.int .i64 0, .int .i64 0, .slice none 0 0, .slice none 0 0]) ?_ 0 _ rfl; (with_reducible repeat (first | refine zbN ?_ _ | refine zbD ?_ | refine zbA ?_ _)); exact BK460.out) hb); have n10_ := Aside0.mk (below_step (by repeat (first | (with_reducible first | exact HB.out | apply zA | apply zN | apply zD | refine zS ?_ GE419.out | refine zS ?_ GE431.out | refine zS ?_ GE443.out | refine zS ?_ GE460.out) | exact HB.out)) hb); clear HO_432002; clear HO_432003; clear HO_444002; clear HO_444003; clear HO455; clear HO458; clear BK419; clear BK431; clear BK443; clear BK460; clear HB; have HO_432002 := n0_; have HO_432003 := n1_; have HO_444002 := n2_; have HO_444003 := n3_; have HO455 := n4_; have HO458 := n5_; have BK419 := n6_; have BK431 := n7_; have BK443 := n8_; have BK460 := n9_; have HB := n10_; clear n0_ n1_ n2_ n3_ n4_ n5_ n6_ n7_ n8_ n9_ n10_; (try clear hb); (try clear hb2); (try clear hk); (try clear hi)))
         go_meet
         case rel => exact ⟨_, ((t459 != t430)), (by first | rfl | (simp; done) | (simp [*]; done)), H', ⟨by have := HJ10.out; first | omega | exact Nat.le_refl _⟩, ⟨by (with_reducible repeat (first | apply Kd.R_alloc | apply Kd.R_drewN | apply Kd.R_drew)); exact Kd.R_mono HO_432002.out (fun _ hk => ⟨hk.1.1.1, ⟨hk.1.1.2.1, ⟨hk.1.1.2.2, ⟨hk.1.2, hk.2⟩⟩⟩⟩)⟩, ⟨by (with_reducible repeat (first | apply Kd.R_alloc | apply Kd.R_drewN | apply Kd.R_drew)); exact Kd.R_mono HO_432003.out (fun _ hk => ⟨hk.1.1.1, ⟨hk.1.1.2.1, ⟨hk.1.1.2.2, ⟨hk.1.2, hk.2⟩⟩⟩⟩)⟩, ⟨by (with_reducible repeat (first | apply Kd.R_alloc | apply Kd.R_drewN | apply Kd.R_drew)); exact Kd.R_mono HO_444002.out (fun _ hk => ⟨hk.1.1.1, ⟨hk.1.1.2.1, ⟨hk.1.1.2.2, ⟨hk.1.2, hk.2⟩⟩⟩⟩)⟩, ⟨by (with_reducible repeat (first | apply Kd.R_alloc | apply Kd.R_drewN | apply Kd.R_drew)); exact Kd.R_mono HO_444003.out (fun _ hk => ⟨hk.1.1.1, ⟨hk.1.1.2.1, ⟨hk.1.1.2.2, ⟨hk.1.2, hk.2⟩⟩⟩⟩)⟩, ⟨by (with_reducible repeat (first | apply Kd.R_alloc | apply Kd.R_drewN | apply Kd.R_drew)); exact Kd.R_mono HO455.out (fun _ hk => ⟨hk.1.1.1.2, ⟨hk.1.1.2, ⟨hk.1.2, ⟨hk.2, hk.1.1.1.1⟩⟩⟩⟩)⟩, ⟨by (with_reducible repeat (first | apply Kd.R_alloc | apply Kd.R_drewN | apply Kd.R_drew)); exact Kd.R_mono HO458.out (fun _ hk => ⟨hk.1.1.1.2, ⟨hk.1.1.2, ⟨hk.1.2, ⟨hk.2, hk.1.1.1.1⟩⟩⟩⟩)⟩, ⟨by (with_reducible repeat (first | refine zbN ?_ _ | refine zbD ?_ | refine zbA ?_ _)); exact BK419.out⟩, ⟨by (with_reducible repeat (first | refine zbN ?_ _ | refine zbD ?_ | refine zbA ?_ _)); exact BK431.out⟩, ⟨by (with_reducible repeat (first | refine zbN ?_ _ | refine zbD ?_ | refine zbA ?_ _)); exact BK443.out⟩, ⟨by (with_reducible repeat (first | refine zbN ?_ _ | refine zbD ?_ | refine zbA ?_ _)); exact BK460.out⟩, ⟨by repeat (first | (with_reducible first | exact HB.out | apply zA | apply zN | apply zD | refine zS ?_ GE419.out | refine zS ?_ GE431.out | refine zS ?_ GE443.out | refine zS ?_ GE460.out) | exact HB.out)⟩⟩
        ·replace c64 := Bool.eq_false_iff.mpr c64
         subst c64
         have H1 : (laws_FnExactFigureOfStroke.j1 kj10 t445 true t434 t435 t446 t447) = some r := by rw [if_neg (show ¬ (false = true) by decide)] at H; exact H
         clear H
         have H := H1
         clear H1
         exact absurd HR_.out (by cases kj10 <;> simp [laws_FnExactFigureOfStroke.j1] at H <;> first | simp [← H] | simp [H] | simp_all)
       case rest =>
        clear HC45
        try clear c1
        try clear c2
        try clear p2
        try clear c3
        try clear c4
        try clear c5
        try clear c5b0
        try clear c5b1
        try clear c6
        try clear c7
        try clear c9
        try clear c14
        try clear c16
        try clear c17
        try clear c25
        try clear c26
        try clear c31
        try clear c32
        try clear c33
        try clear c35
        try clear c38
        try clear c41
        try clear c41b0
        try clear c42
        try clear c42b0
        try clear c42b1
        try clear c46
        try clear c47
        try clear c52
        try clear c57
        try clear c58
        try clear c59
        try clear c64
        try clear c65
        try clear c66
        try clear c67
        try clear c69
        try clear c70
        try clear hcz13_0
        try clear hcz13_1
        try clear hcz18_0
        try clear hcz18_1
        try clear hcz18_2
        try clear hcz18_3
        try clear hcz21_0
        try clear hcz21_1
        try clear hcz27_0
        try clear hcz27_1
        try clear hcz27_2
        try clear hcz27_3
        try clear hcz34_0
        try clear hcz34_1
        try clear hcz34_2
        try clear hcz34_3
        try clear hcz36_0
        try clear hcz36_1
        try clear hcz36_2
        try clear hcz36_3
        try clear hcz48_0
        try clear hcz48_1
        try clear hcz48_2
        try clear hcz48_3
        try clear hcz50_0
        try clear hcz50_1
        try clear hcz50_2
        try clear hcz50_3
        try clear hcz53_0
        try clear hcz53_1
        try clear hcz60_0
        try clear hcz60_1
        try clear hcz60_2
        try clear hcz60_3
        try clear hcz68_0
        try clear hcz68_1
        try clear hcz68_2
        try clear hcz68_3
        try clear hcz71_0
        try clear hcz71_1
        try clear hcz71_2
        try clear hcz71_3
        try clear hfz13_0
        try clear hfz13_1
        try clear hfz18_0
        try clear hfz18_1
        try clear hfz18_2
        try clear hfz18_3
        try clear hfz21_0
        try clear hfz21_1
        try clear hfz27_0
        try clear hfz27_1
        try clear hfz27_2
        try clear hfz27_3
        try clear hfz34_0
        try clear hfz34_1
        try clear hfz34_2
        try clear hfz34_3
        try clear hfz36_0
        try clear hfz36_1
        try clear hfz36_2
        try clear hfz36_3
        try clear hfz48_0
        try clear hfz48_1
        try clear hfz48_2
        try clear hfz48_3
        try clear hfz50_0
        try clear hfz50_1
        try clear hfz50_2
        try clear hfz50_3
        try clear hfz53_0
        try clear hfz53_1
        try clear hfz60_0
        try clear hfz60_1
        try clear hfz60_2
        try clear hfz60_3
        try clear hfz68_0
        try clear hfz68_1
        try clear hfz68_2
        try clear hfz68_3
        try clear hfz71_0
        try clear hfz71_1
        try clear hfz71_2
        try clear hfz71_3
        try clear p2
        obtain ⟨kq, x75_44, rfl, HA, HJ44, HO_432002, HO_432003, HO_444002, HO_444003, HO_461002, HO_461003, BK419, BK431, BK443, BK460, HB⟩ := hcut
        have hl444002_44 := (Kd.R_reads' HO_444002.out).1
        rw [hl444002_44] at HO_444002
        (try simp only [hl444002_44])
        (try simp only [hl444002_44] at BK419)
        (try simp only [hl444002_44] at BK431)
        (try simp only [hl444002_44] at BK443)
        (try simp only [hl444002_44] at BK460)
        (try simp only [hl444002_44] at HO_432002)
        (try simp only [hl444002_44] at HO_432003)
        (try simp only [hl444002_44] at HO_444003)
        (try simp only [hl444002_44] at HO_461002)
        (try simp only [hl444002_44] at HO_461003)
        have hl444003_44 := (Kd.R_reads' HO_444003.out).1
        rw [hl444003_44] at HO_444003
        (try simp only [hl444003_44])
        (try simp only [hl444003_44] at BK419)
        (try simp only [hl444003_44] at BK431)
        (try simp only [hl444003_44] at BK443)
        (try simp only [hl444003_44] at BK460)
        (try simp only [hl444003_44] at HO_432002)
        (try simp only [hl444003_44] at HO_432003)
        (try simp only [hl444003_44] at HO_444002)
        (try simp only [hl444003_44] at HO_461002)
        (try simp only [hl444003_44] at HO_461003)
        cases kq with
        | zero => exact absurd HA.out (by simp [laws_FnExactFigureOfStroke.j1])
        | succ kj44 =>
         have H := HA.out
         clear HA
         simp only [laws_FnExactFigureOfStroke.j1] at H
         by_cases c73 : x75_44 = true
         ·subst c73
          have H1 : (some false) = some r := by rw [if_pos rfl] at H; exact H
          clear H
          have H := H1
          clear H1
          exact absurd ((Option.some.inj H).trans HR_.out) Bool.false_ne_true
         ·replace c73 := Bool.eq_false_iff.mpr c73
          subst c73
          have H1 : ((laws_heldFigure.f kj44 t434 t435 t446 t447 101).bind fun t462 => (if t462 < 0 then (some false) else (if t462 = t445 then (some true) else (some false)))) = some r := by rw [if_neg (show ¬ (false = true) by decide)] at H; exact H
          clear H
          have H := H1
          clear H1
          replace H := Option.bind_eq_some_iff.mp H
          obtain ⟨t462, A740, H⟩ := H
          replace H : (if t462 < 0 then (some false) else (if t462 = t445 then (some true) else (some false))) = some r := H
          have A74 := Aside0.mk A740
          clear A740
          by_cases c75 : t462 < 0
          ·rw [if_pos c75] at H
           have c75b0 : decide (t462 < 0) = true := decide_eq_true c75
           clear c75
           exact absurd ((Option.some.inj H).trans HR_.out) Bool.false_ne_true
          ·rw [if_neg c75] at H
           have c75b0 : decide (t462 < 0) = false := decide_eq_false c75
           clear c75
           by_cases c76 : t462 = t445
           ·rw [if_pos c76] at H
            have c76b0 : (t462 == t445) = true := beq_iff_eq.mpr c76
            have c76b1 : (t462 != t445) = false := bne_eq_false_iff_eq.mpr c76
            clear c76
            obtain rfl := Option.some.inj H
            have hnb77 := NB443_419.out
            have hnc77 := NB419_443.out
            have hnb78 := NB443_431.out
            have hnc78 := NB431_443.out
            have hnb79 := NB443_460.out
            have hnc79 := NB460_443.out
            have hcz80_0 : wc.cell? ⟨gb443, 0, none⟩ = some (.int .i64 t434) := (zbC BK443.out 0).trans rfl
            have hcz80_1 : wc.cell? ⟨gb443, 1, none⟩ = some (.int .i64 t435) := (zbC BK443.out 1).trans rfl
            have hcz80_2 : wc.cell? ⟨gb443, 2, none⟩ = some (.slice Ao28 t446.length co28) := (zbC BK443.out 2).trans rfl
            have hcz80_3 : wc.cell? ⟨gb443, 3, none⟩ = some (.slice Ao29 t447.length co29) := (zbC BK443.out 3).trans rfl
            have hfz80_0 := zbF BK443.out 0
            have hfz80_1 := zbF BK443.out 1
            have hfz80_2 := zbF BK443.out 2
            have hfz80_3 := zbF BK443.out 3
            go_wp2_with (first | ((with_reducible refine gate_callee (f := 17) rfl ?_); refine goesL_ (some 78) rfl rfl Tryd.func17 (by kernel_rfl) rfl #[.agg #[.int .i64 t434, .int .i64 t435, .slice Ao28 t446.length co28, .slice Ao29 t447.length co29], .int .i64 101] rfl (by (try simp only [List.map_toArray, List.map_cons, List.map_nil]); first | done | rfl | (simp only [List.length_drop, List.length_take]; rfl)) ?_; (with_reducible refine (laws_heldFigure.calls kj44 t434 t435 _ _ t446 _ _ t447 101 t462 _ ?side1 ?side2 ?side3 ?side4 A74.out).mono ?_); (case side1 => repeat (first | exact (Kd.R_reads' HO_444002.out).2.2 | (with_reducible refine Kd.C_alloc ?_ _) | (with_reducible refine Kd.C_drewN ?_ _) | (with_reducible refine Kd.C_drew ?_))); (case side2 => exact (Kd.R_reads' HO_444002.out).2.1); (case side3 => repeat (first | exact (Kd.R_reads' HO_444003.out).2.2 | (with_reducible refine Kd.C_alloc ?_ _) | (with_reducible refine Kd.C_drewN ?_ _) | (with_reducible refine Kd.C_drew ?_))); (case side4 => exact (Kd.R_reads' HO_444003.out).2.1); rintro e w81 ⟨rfl, hb⟩; refine ⟨_, rfl, ?_⟩; have n0_ := Aside0.mk (Kd.R_below (by (with_reducible repeat (first | apply Kd.R_alloc | apply Kd.R_drewN | apply Kd.R_drew)); exact HO_432002.out) hb); have n1_ := Aside0.mk (Kd.R_below (by (with_reducible repeat (first | apply Kd.R_alloc | apply Kd.R_drewN | apply Kd.R_drew)); exact HO_432003.out) hb); have n2_ := Aside0.mk (Kd.R_below (by (with_reducible repeat (first | apply Kd.R_alloc | apply Kd.R_drewN | apply Kd.R_drew)); exact HO_444002.out) hb); have n3_ := Aside0.mk (Kd.R_below (by (with_reducible repeat (first | apply Kd.R_alloc | apply Kd.R_drewN | apply Kd.R_drew)); exact HO_444003.out) hb); have n4_ := Aside0.mk (Kd.R_below (by (with_reducible repeat (first | apply Kd.R_alloc | apply Kd.R_drewN | apply Kd.R_drew)); exact HO_461002.out) hb); have n5_ := Aside0.mk (Kd.R_below (by (with_reducible repeat (first | apply Kd.R_alloc | apply Kd.R_drewN | apply Kd.R_drew)); exact HO_461003.out) hb); have n6_ := Aside0.mk (blk_below (g := gb419) (o := .cells #[.int .i64 a2_0, .int .i64 a2_1] 41 (0, 0)) (by (with_reducible repeat (first | refine zbN ?_ _ | refine zbD ?_ | refine zbA ?_ _)); exact BK419.out) hb); have n7_ := Aside0.mk (blk_below (g := gb431) (o := .cells #[.int .i64 t422, .int .i64 t423, .slice Ao19 t424.length co19, .slice Ao20 t427.length co20] 26 (0, 0)) (by (with_reducible repeat (first | refine zbN ?_ _ | refine zbD ?_ | refine zbA ?_ _)); exact BK431.out) hb); have n8_ := Aside0.mk (blk_below (g := gb443) (o := .cells #[.int .i64 t434, .int .i64 t435, .slice Ao28 t446.length co28, .slice Ao29 t447.length co29] 26 (0, 0)) (by (with_reducible repeat (first | refine zbN ?_ _ | refine zbD ?_ | refine zbA ?_ _)); exact BK443.out) hb); have n9_ := Aside0.mk (blk_below (g := gb460) (o := .cells #[.int .i64 t451, .int .i64 t452, .slice Ao61 t453.length co61, .slice Ao62 t456.length co62] 26 (0, 0)) (by (with_reducible repeat (first | refine zbN ?_ _ | refine zbD ?_ | refine zbA ?_ _)); exact BK460.out) hb); have n10_ := Aside0.mk (below_step (by repeat (first | (with_reducible first | exact HB.out | apply zA | apply zN | apply zD | refine zS ?_ GE419.out | refine zS ?_ GE431.out | refine zS ?_ GE443.out | refine zS ?_ GE460.out) | exact HB.out)) hb); clear HO_432002; clear HO_432003; clear HO_444002; clear HO_444003; clear HO_461002; clear HO_461003; clear BK419; clear BK431; clear BK443; clear BK460; clear HB; have HO_432002 := n0_; have HO_432003 := n1_; have HO_444002 := n2_; have HO_444003 := n3_; have HO_461002 := n4_; have HO_461003 := n5_; have BK419 := n6_; have BK431 := n7_; have BK443 := n8_; have BK460 := n9_; have HB := n10_; clear n0_ n1_ n2_ n3_ n4_ n5_ n6_ n7_ n8_ n9_ n10_; (try clear hb); (try clear hb2); (try clear hk); (try clear hi)))
            go_ret
            exact ⟨by first | rfl | (simp [errW_none, errW_some] <;> rfl) | (simp [*, errW_none, errW_some] <;> rfl), by repeat (first | (with_reducible first | exact HB.out | apply zA | apply zN | apply zD | refine zS ?_ GE419.out | refine zS ?_ GE431.out | refine zS ?_ GE443.out | refine zS ?_ GE460.out) | exact HB.out)⟩
           ·rw [if_neg c76] at H
            have c76b0 : (t462 == t445) = false := beq_eq_false_iff_ne.mpr c76
            have c76b1 : (t462 != t445) = true := bne_iff_ne.mpr c76
            exact absurd ((Option.some.inj H).trans HR_.out) Bool.false_ne_true
      ·rw [if_neg c42] at H
       have c42b0 : (t448 == t445) = false := beq_eq_false_iff_ne.mpr c42
       have c42b1 : (t448 != t445) = true := bne_iff_ne.mpr c42
       exact absurd ((Option.some.inj H).trans HR_.out) Bool.false_ne_true

/-- THE ONE PURE STATEMENT of laws_FnExactFigureOfStroke. -/
def laws_FnExactFigureOfStroke.Pure : Prop := ∀ (a0 : Int) (a1 : Int) (a2_0 : Int) (a2_1 : Int) (a3 : ByteArray), (Lit.int .i64 a0).wf = true → (Lit.int .i64 a1).wf = true → (Lit.int .i64 a2_0).wf = true → (Lit.int .i64 a2_1).wf = true → a3.size ≤ 140737488351232 → ∃ k, laws_FnExactFigureOfStroke.f k a0 a1 a2_0 a2_1 a3 = some true

end Go.Proofs.YtmlkihaoeopobaaDoor.Q
