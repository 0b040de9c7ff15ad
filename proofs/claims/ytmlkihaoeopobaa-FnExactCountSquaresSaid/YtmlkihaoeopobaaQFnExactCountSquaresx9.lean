-- written by a program of this session, pm.py, for this claim
-- half the indentation
import Derived.Test.YtmlkihaoeopobaaQFnExactCountSquaresx0
import Derived.Test.YtmlkihaoeopobaaQFnExactCountSquaresx1
import Derived.Test.YtmlkihaoeopobaaQFnExactCountSquaresx2
import Derived.Test.YtmlkihaoeopobaaQFnExactCountSquaresx4
import Derived.Test.YtmlkihaoeopobaaQFnExactCountSquaresx8
namespace Go.Proofs.Ytmlkihaoeopobaa.Q
open Go.RowKit Go.Proofs.YtmlkihaoeopobaaW.PrintWords Go.Proofs.YtmlkihaoeopobaaW.PrintLast Go.Proofs.YtmlkihaoeopobaaW.PrintMore
attribute [local go_sem] max2_int min2_int max_two min_two max_three min_three max_four min_four   -- for this text's walks alone
set_option linter.unusedVariables false
set_option linter.unusedSimpArgs false

/-! ### laws_FnExactCountSquares: function 7 -/
def laws_FnExactCountSquares.j0 : Nat → Int → Bool → Bool → Int → Int → List Int → List Int → Int → Int → List Int → List Int → Option (Bool)
 | 0, _, _, _, _, _, _, _, _, _, _, _ => none
 | k + 1, x4, x5, x36, x236000, x236001, x236002, x236003, x256000, x256001, x256002, x256003 => if x36 = true then (some false) else ((laws_toFigure.f x236000 x236001 x236002 x236003 false).bind fun bt258 => ((laws_intactFigure.f x256000 x256001 x256002 x256003 bt258.1 bt258.2.1 bt258.2.2.1 bt258.2.2.2).bind fun t266 => (if t266 = true then ((laws_toFigure.f x236000 x236001 x236002 x236003 true).bind fun bt267 => ((impl_CountSquares.f k bt267.1 bt267.2.1 bt267.2.2.1 bt267.2.2.2).bind fun bt275 => (if bt275.1 = x4 then (if (bt275.2 != x5) = true then (some false) else (some true)) else (some false)))) else (some false))))
def laws_FnExactCountSquares.f (k : Nat) (a0_0 : Int) (a0_1 : Int) (l0_2 : List Int) (l0_3 : List Int) : Option (Bool) := (laws_szFigure.f a0_0 a0_1 l0_2 l0_3 1000000).bind fun t236 => (if t236 < 0 then (some true) else ((laws_toFigure.f a0_0 a0_1 l0_2 l0_3 false).bind fun bt237 => ((spec_CountSquares.f k bt237.1 bt237.2.1 bt237.2.2.1 bt237.2.2.2).bind fun bt245 => ((laws_toFigure.f a0_0 a0_1 l0_2 l0_3 false).bind fun bt247 => ((impl_CountSquares.f k bt247.1 bt247.2.1 bt247.2.2.1 bt247.2.2.2).bind fun bt256 => (if bt256.1 = bt245.1 then (laws_FnExactCountSquares.j0 k bt245.1 bt245.2 (bt256.2 != bt245.2) a0_0 a0_1 l0_2 l0_3 bt247.1 bt247.2.1 bt247.2.2.1 bt247.2.2.2) else (laws_FnExactCountSquares.j0 k bt245.1 bt245.2 true a0_0 a0_1 l0_2 l0_3 bt247.1 bt247.2.1 bt247.2.2.1 bt247.2.2.2)))))))
theorem laws_FnExactCountSquares.mono_l : ∀ k, (∀ y0 y1 y2 y3 y4 y5 y6 y7 y8 y9 y10, LeO (laws_FnExactCountSquares.j0 k y0 y1 y2 y3 y4 y5 y6 y7 y8 y9 y10) (laws_FnExactCountSquares.j0 (k + 1) y0 y1 y2 y3 y4 y5 y6 y7 y8 y9 y10))
 | 0 => fun _ _ _ _ _ _ _ _ _ _ _ r h => by simp [laws_FnExactCountSquares.j0] at h
 | k + 1 => by
  have ih0 := laws_FnExactCountSquares.mono_l k
  ·intro y0 y1 y2 y3 y4 y5 y6 y7 y8 y9 y10
   unfold laws_FnExactCountSquares.j0
   repeat' first
   | (with_reducible exact ih0 _ _ _ _ _ _ _ _ _ _ _)
   | (with_reducible exact impl_CountSquares.mono _ _ _ _ _)
   | (with_reducible exact spec_CountSquares.mono _ _ _ _ _)
   | (with_reducible exact LeO.refl _)
   | (with_reducible exact LeO.none _)
   | (with_reducible refine LeO.ite ?_ ?_)
   | (with_reducible refine LeO.bind ?_ (fun _ => ?_))
   | exact ih0 _ _ _ _ _ _ _ _ _ _ _
   | exact impl_CountSquares.mono _ _ _ _ _
   | exact spec_CountSquares.mono _ _ _ _ _
   | exact LeO.none _
   | refine LeO.ite ?_ ?_
   | refine LeO.bind ?_ (fun _ => ?_)
theorem laws_FnExactCountSquares.mono : ∀ a0 a1 a2 a3 k, LeO (laws_FnExactCountSquares.f k a0 a1 a2 a3) (laws_FnExactCountSquares.f (k + 1) a0 a1 a2 a3) := by
 intro a0 a1 a2 a3 k
 have ih0 := laws_FnExactCountSquares.mono_l k
 unfold laws_FnExactCountSquares.f
 repeat' first
   | (with_reducible exact ih0 _ _ _ _ _ _ _ _ _ _ _)
   | (with_reducible exact impl_CountSquares.mono _ _ _ _ _)
   | (with_reducible exact spec_CountSquares.mono _ _ _ _ _)
   | (with_reducible exact LeO.refl _)
   | (with_reducible exact LeO.none _)
   | (with_reducible refine LeO.ite ?_ ?_)
   | (with_reducible refine LeO.bind ?_ (fun _ => ?_))
   | exact ih0 _ _ _ _ _ _ _ _ _ _ _
   | exact impl_CountSquares.mono _ _ _ _ _
   | exact spec_CountSquares.mono _ _ _ _ _
   | exact LeO.none _
   | refine LeO.ite ?_ ?_
   | refine LeO.bind ?_ (fun _ => ?_)
set_option maxHeartbeats 8000000 in
set_option maxRecDepth 100000 in
theorem laws_FnExactCountSquares.calls (k : Nat) (a0_0 : Int) (a0_1 : Int) (A0_2 : Option Addr) (c0_2 : Nat) (l0_2 : List Int) (A0_3 : Option Addr) (c0_3 : Nat) (l0_3 : List Int) (r : Bool) (w : World) (hr0_2 : Kd.C (Kd.int .i64) w A0_2 l0_2.length l0_2) (hc0_2 : l0_2.length ≤ c0_2) (hr0_3 : Kd.C (Kd.int .i64) w A0_3 l0_3.length l0_3) (hc0_3 : l0_3.length ≤ c0_3) (hr_ : r = true) (h : laws_FnExactCountSquares.f k a0_0 a0_1 l0_2 l0_3 = some r) :
  Calls Try.prog 7 #[.agg #[.int .i64 a0_0, .int .i64 a0_1, .slice A0_2 l0_2.length c0_2, .slice A0_3 l0_3.length c0_3]] w fun e w' => e = .returned (.bool r) ∧ Below w.heap.size w w' := by
 have hu24 := Try.underlying24
 have hu30 := Try.underlying30
 have HR0_2 := Aside0.mk hr0_2
 have HC0_2 := Aside0.mk hc0_2
 clear hr0_2 hc0_2
 have HR0_3 := Aside0.mk hr0_3
 have HC0_3 := Aside0.mk hc0_3
 clear hr0_3 hc0_3
 have HR_ := Aside0.mk hr_
 clear hr_
 have HB := Aside0.mk (Below.refl w.heap.size w)
 have H : ((laws_szFigure.f a0_0 a0_1 l0_2 l0_3 1000000).bind fun t236 => (if t236 < 0 then (some true) else ((laws_toFigure.f a0_0 a0_1 l0_2 l0_3 false).bind fun bt237 => ((spec_CountSquares.f k bt237.1 bt237.2.1 bt237.2.2.1 bt237.2.2.2).bind fun bt245 => ((laws_toFigure.f a0_0 a0_1 l0_2 l0_3 false).bind fun bt247 => ((impl_CountSquares.f k bt247.1 bt247.2.1 bt247.2.2.1 bt247.2.2.2).bind fun bt256 => (if bt256.1 = bt245.1 then (laws_FnExactCountSquares.j0 k bt245.1 bt245.2 (bt256.2 != bt245.2) a0_0 a0_1 l0_2 l0_3 bt247.1 bt247.2.1 bt247.2.2.1 bt247.2.2.2) else (laws_FnExactCountSquares.j0 k bt245.1 bt245.2 true a0_0 a0_1 l0_2 l0_3 bt247.1 bt247.2.1 bt247.2.2.1 bt247.2.2.2)))))))) = some r := h
 clear h
 replace H := Option.bind_eq_some_iff.mp H
 obtain ⟨t236, A20, H⟩ := H
 replace H : (if t236 < 0 then (some true) else ((laws_toFigure.f a0_0 a0_1 l0_2 l0_3 false).bind fun bt237 => ((spec_CountSquares.f k bt237.1 bt237.2.1 bt237.2.2.1 bt237.2.2.2).bind fun bt245 => ((laws_toFigure.f a0_0 a0_1 l0_2 l0_3 false).bind fun bt247 => ((impl_CountSquares.f k bt247.1 bt247.2.1 bt247.2.2.1 bt247.2.2.2).bind fun bt256 => (if bt256.1 = bt245.1 then (laws_FnExactCountSquares.j0 k bt245.1 bt245.2 (bt256.2 != bt245.2) a0_0 a0_1 l0_2 l0_3 bt247.1 bt247.2.1 bt247.2.2.1 bt247.2.2.2) else (laws_FnExactCountSquares.j0 k bt245.1 bt245.2 true a0_0 a0_1 l0_2 l0_3 bt247.1 bt247.2.1 bt247.2.2.1 bt247.2.2.2))))))) = some r := H
 have A2 := Aside0.mk A20
 clear A20
 by_cases c3 : t236 < 0
 ·rw [if_pos c3] at H
  have c3b0 : decide (t236 < 0) = true := decide_eq_true c3
  clear c3
  obtain rfl := Option.some.inj H
  go_enter Try.func7, Try.ntmps7
  go_wp2_with (first | ((with_reducible refine gate_dst (N := 1) rfl ?_); refine box_event ?hg (N := 1) ?hd (cs := #[.int .i64 a0_0, .int .i64 a0_1, .slice A0_2 l0_2.length c0_2, .slice A0_3 l0_3.length c0_3]) (t := 24) ?hr ?_; (case hd => rfl); (case hg => rfl); (case hr => first | (go_simp; done) | (go_simp; rfl)); intro gb235 hg w4 hbox hb; have n0_ := Aside0.mk (below_step (by repeat (first | (with_reducible first | exact HB.out | apply below_alloc | apply pw_below_drewN | apply below_drew1) | exact HB.out)) hb); have n1_ := Aside0.mk (hbox); have n2_ := Aside0.mk ((by rw [hg]; exact (below_size (by repeat (first | (with_reducible first | exact HB.out | apply below_alloc | apply pw_below_drewN | apply below_drew1) | exact HB.out))) : w.heap.size ≤ gb235)); have n3_ := Aside0.mk ((by rw [hg]; exact (below_size (by repeat (first | (with_reducible first | exact HB.out | apply below_alloc | apply pw_below_drewN | apply below_drew1) | exact HB.out))) : w.heap.size ≤ gb235)); clear HB; have HB := n0_; have BK235 := n1_; have GW235 := n2_; have GE235 := n3_; clear n0_ n1_ n2_ n3_; clear hb hbox hg; have hcz5_0 : w4.cell? ⟨gb235, 0, none⟩ = some (.int .i64 a0_0) := (blk_cell BK235.out 0).trans rfl; have hcz5_1 : w4.cell? ⟨gb235, 1, none⟩ = some (.int .i64 a0_1) := (blk_cell BK235.out 1).trans rfl; have hcz5_2 : w4.cell? ⟨gb235, 2, none⟩ = some (.slice A0_2 l0_2.length c0_2) := (blk_cell BK235.out 2).trans rfl; have hcz5_3 : w4.cell? ⟨gb235, 3, none⟩ = some (.slice A0_3 l0_3.length c0_3) := (blk_cell BK235.out 3).trans rfl; have hfz5_0 := blk_frozen BK235.out 0; have hfz5_1 := blk_frozen BK235.out 1; have hfz5_2 := blk_frozen BK235.out 2; have hfz5_3 := blk_frozen BK235.out 3) | ((with_reducible refine gate_callee (f := 8) rfl ?_); refine goesL_ (some 13) rfl rfl Try.func8 (by kernel_rfl) rfl #[.agg #[.int .i64 a0_0, .int .i64 a0_1, .slice A0_2 l0_2.length c0_2, .slice A0_3 l0_3.length c0_3], .int .i64 1000000] rfl (by (try simp only [List.map_toArray, List.map_cons, List.map_nil]); first | done | rfl | (simp only [List.length_drop, List.length_take]; rfl)) ?_; (with_reducible refine (laws_szFigure.calls a0_0 a0_1 _ _ l0_2 _ _ l0_3 1000000 t236 _ ?side1 ?side2 ?side3 ?side4 A2.out).mono ?_); (case side1 => repeat (first | exact (Kd.C_below HR0_2.out HB.out) | (with_reducible refine Kd.C_alloc ?_ _) | (with_reducible refine Kd.C_drewN ?_ _) | (with_reducible refine Kd.C_drew ?_))); (case side2 => exact HC0_2.out); (case side3 => repeat (first | exact (Kd.C_below HR0_3.out HB.out) | (with_reducible refine Kd.C_alloc ?_ _) | (with_reducible refine Kd.C_drewN ?_ _) | (with_reducible refine Kd.C_drew ?_))); (case side4 => exact HC0_3.out); rintro e w6 ⟨rfl, hb⟩; refine ⟨_, rfl, ?_⟩; have n0_ := Aside0.mk (blk_below (g := gb235) (o := .cells #[.int .i64 a0_0, .int .i64 a0_1, .slice A0_2 l0_2.length c0_2, .slice A0_3 l0_3.length c0_3] 24 (0, 0)) (by (with_reducible repeat (first | refine blk_drewN ?_ _ | refine blk_drew ?_ | refine blk_alloc ?_ _)); exact BK235.out) hb); have n1_ := Aside0.mk (below_step (by repeat (first | (with_reducible first | exact HB.out | apply below_alloc | apply pw_below_drewN | apply below_drew1 | refine below_set ?_ GE235.out) | exact HB.out)) hb); clear BK235; clear HB; have BK235 := n0_; have HB := n1_; clear n0_ n1_; (try clear hb); (try clear hb2); (try clear hk); (try clear hi)))
  go_ret
  exact ⟨by first | rfl | (simp [errW_none, errW_some] <;> rfl) | (simp [*, errW_none, errW_some] <;> rfl), by repeat (first | (with_reducible first | exact HB.out | apply below_alloc | apply pw_below_drewN | apply below_drew1 | refine below_set ?_ GE235.out) | exact HB.out)⟩
 ·rw [if_neg c3] at H
  have c3b0 : decide (t236 < 0) = false := decide_eq_false c3
  clear c3
  replace H := Option.bind_eq_some_iff.mp H
  obtain ⟨⟨t237, t238, t239, t242⟩, A70, H⟩ := H
  replace H : ((spec_CountSquares.f k t237 t238 t239 t242).bind fun bt245 => ((laws_toFigure.f a0_0 a0_1 l0_2 l0_3 false).bind fun bt247 => ((impl_CountSquares.f k bt247.1 bt247.2.1 bt247.2.2.1 bt247.2.2.2).bind fun bt256 => (if bt256.1 = bt245.1 then (laws_FnExactCountSquares.j0 k bt245.1 bt245.2 (bt256.2 != bt245.2) a0_0 a0_1 l0_2 l0_3 bt247.1 bt247.2.1 bt247.2.2.1 bt247.2.2.2) else (laws_FnExactCountSquares.j0 k bt245.1 bt245.2 true a0_0 a0_1 l0_2 l0_3 bt247.1 bt247.2.1 bt247.2.2.1 bt247.2.2.2))))) = some r := H
  have A7 := Aside0.mk A70
  clear A70
  replace H := Option.bind_eq_some_iff.mp H
  obtain ⟨⟨t245, t246⟩, A80, H⟩ := H
  replace H : ((laws_toFigure.f a0_0 a0_1 l0_2 l0_3 false).bind fun bt247 => ((impl_CountSquares.f k bt247.1 bt247.2.1 bt247.2.2.1 bt247.2.2.2).bind fun bt256 => (if bt256.1 = t245 then (laws_FnExactCountSquares.j0 k t245 t246 (bt256.2 != t246) a0_0 a0_1 l0_2 l0_3 bt247.1 bt247.2.1 bt247.2.2.1 bt247.2.2.2) else (laws_FnExactCountSquares.j0 k t245 t246 true a0_0 a0_1 l0_2 l0_3 bt247.1 bt247.2.1 bt247.2.2.1 bt247.2.2.2)))) = some r := H
  have A8 := Aside0.mk A80
  clear A80
  replace H := Option.bind_eq_some_iff.mp H
  obtain ⟨⟨t247, t248, t249, t252⟩, A90, H⟩ := H
  replace H : ((impl_CountSquares.f k t247 t248 t249 t252).bind fun bt256 => (if bt256.1 = t245 then (laws_FnExactCountSquares.j0 k t245 t246 (bt256.2 != t246) a0_0 a0_1 l0_2 l0_3 t247 t248 t249 t252) else (laws_FnExactCountSquares.j0 k t245 t246 true a0_0 a0_1 l0_2 l0_3 t247 t248 t249 t252))) = some r := H
  have A9 := Aside0.mk A90
  clear A90
  replace H := Option.bind_eq_some_iff.mp H
  obtain ⟨⟨t256, t257⟩, A100, H⟩ := H
  replace H : (if t256 = t245 then (laws_FnExactCountSquares.j0 k t245 t246 (t257 != t246) a0_0 a0_1 l0_2 l0_3 t247 t248 t249 t252) else (laws_FnExactCountSquares.j0 k t245 t246 true a0_0 a0_1 l0_2 l0_3 t247 t248 t249 t252)) = some r := H
  have A10 := Aside0.mk A100
  clear A100
  have HC11 := Aside0.mk H
  clear H
  go_enter Try.func7, Try.ntmps7
  go_upto_region 8 with (first | ((with_reducible refine gate_dst (N := 1) rfl ?_); refine box_event ?hg (N := 1) ?hd (cs := #[.int .i64 a0_0, .int .i64 a0_1, .slice A0_2 l0_2.length c0_2, .slice A0_3 l0_3.length c0_3]) (t := 24) ?hr ?_; (case hd => rfl); (case hg => rfl); (case hr => first | (go_simp; done) | (go_simp; rfl)); intro gb235 hg w12 hbox hb; have n0_ := Aside0.mk (below_step (by repeat (first | (with_reducible first | exact HB.out | apply below_alloc | apply pw_below_drewN | apply below_drew1) | exact HB.out)) hb); have n1_ := Aside0.mk (hbox); have n2_ := Aside0.mk ((by rw [hg]; exact (below_size (by repeat (first | (with_reducible first | exact HB.out | apply below_alloc | apply pw_below_drewN | apply below_drew1) | exact HB.out))) : w.heap.size ≤ gb235)); have n3_ := Aside0.mk ((by rw [hg]; exact (below_size (by repeat (first | (with_reducible first | exact HB.out | apply below_alloc | apply pw_below_drewN | apply below_drew1) | exact HB.out))) : w.heap.size ≤ gb235)); clear HB; have HB := n0_; have BK235 := n1_; have GW235 := n2_; have GE235 := n3_; clear n0_ n1_ n2_ n3_; clear hb hbox hg; have hcz13_0 : w12.cell? ⟨gb235, 0, none⟩ = some (.int .i64 a0_0) := (blk_cell BK235.out 0).trans rfl; have hcz13_1 : w12.cell? ⟨gb235, 1, none⟩ = some (.int .i64 a0_1) := (blk_cell BK235.out 1).trans rfl; have hcz13_2 : w12.cell? ⟨gb235, 2, none⟩ = some (.slice A0_2 l0_2.length c0_2) := (blk_cell BK235.out 2).trans rfl; have hcz13_3 : w12.cell? ⟨gb235, 3, none⟩ = some (.slice A0_3 l0_3.length c0_3) := (blk_cell BK235.out 3).trans rfl; have hfz13_0 := blk_frozen BK235.out 0; have hfz13_1 := blk_frozen BK235.out 1; have hfz13_2 := blk_frozen BK235.out 2; have hfz13_3 := blk_frozen BK235.out 3) | ((with_reducible refine gate_callee (f := 8) rfl ?_); refine goesL_ (some 13) rfl rfl Try.func8 (by kernel_rfl) rfl #[.agg #[.int .i64 a0_0, .int .i64 a0_1, .slice A0_2 l0_2.length c0_2, .slice A0_3 l0_3.length c0_3], .int .i64 1000000] rfl (by (try simp only [List.map_toArray, List.map_cons, List.map_nil]); first | done | rfl | (simp only [List.length_drop, List.length_take]; rfl)) ?_; (with_reducible refine (laws_szFigure.calls a0_0 a0_1 _ _ l0_2 _ _ l0_3 1000000 t236 _ ?side1 ?side2 ?side3 ?side4 A2.out).mono ?_); (case side1 => repeat (first | exact (Kd.C_below HR0_2.out HB.out) | (with_reducible refine Kd.C_alloc ?_ _) | (with_reducible refine Kd.C_drewN ?_ _) | (with_reducible refine Kd.C_drew ?_))); (case side2 => exact HC0_2.out); (case side3 => repeat (first | exact (Kd.C_below HR0_3.out HB.out) | (with_reducible refine Kd.C_alloc ?_ _) | (with_reducible refine Kd.C_drewN ?_ _) | (with_reducible refine Kd.C_drew ?_))); (case side4 => exact HC0_3.out); rintro e w14 ⟨rfl, hb⟩; refine ⟨_, rfl, ?_⟩; have n0_ := Aside0.mk (blk_below (g := gb235) (o := .cells #[.int .i64 a0_0, .int .i64 a0_1, .slice A0_2 l0_2.length c0_2, .slice A0_3 l0_3.length c0_3] 24 (0, 0)) (by (with_reducible repeat (first | refine blk_drewN ?_ _ | refine blk_drew ?_ | refine blk_alloc ?_ _)); exact BK235.out) hb); have n1_ := Aside0.mk (below_step (by repeat (first | (with_reducible first | exact HB.out | apply below_alloc | apply pw_below_drewN | apply below_drew1 | refine below_set ?_ GE235.out) | exact HB.out)) hb); clear BK235; clear HB; have BK235 := n0_; have HB := n1_; clear n0_ n1_; (try clear hb); (try clear hb2); (try clear hk); (try clear hi); have hcz15_0 : w14.cell? ⟨gb235, 0, none⟩ = some (.int .i64 a0_0) := (blk_cell BK235.out 0).trans rfl; have hcz15_1 : w14.cell? ⟨gb235, 1, none⟩ = some (.int .i64 a0_1) := (blk_cell BK235.out 1).trans rfl; have hcz15_2 : w14.cell? ⟨gb235, 2, none⟩ = some (.slice A0_2 l0_2.length c0_2) := (blk_cell BK235.out 2).trans rfl; have hcz15_3 : w14.cell? ⟨gb235, 3, none⟩ = some (.slice A0_3 l0_3.length c0_3) := (blk_cell BK235.out 3).trans rfl; have hfz15_0 := blk_frozen BK235.out 0; have hfz15_1 := blk_frozen BK235.out 1; have hfz15_2 := blk_frozen BK235.out 2; have hfz15_3 := blk_frozen BK235.out 3) | ((with_reducible refine gate_callee (f := 10) rfl ?_); refine goesL_ (some 18) rfl rfl Try.func10 (by kernel_rfl) rfl #[.agg #[.int .i64 a0_0, .int .i64 a0_1, .slice A0_2 l0_2.length c0_2, .slice A0_3 l0_3.length c0_3], .bool false] rfl (by (try simp only [List.map_toArray, List.map_cons, List.map_nil]); first | done | rfl | (simp only [List.length_drop, List.length_take]; rfl)) ?_; (with_reducible refine (laws_toFigure.calls a0_0 a0_1 _ _ l0_2 _ _ l0_3 false t237 t238 t239 t242 _ ?side1 ?side2 ?side3 ?side4 A7.out).mono ?_); (case side1 => repeat (first | exact (Kd.C_below HR0_2.out HB.out) | (with_reducible refine Kd.C_alloc ?_ _) | (with_reducible refine Kd.C_drewN ?_ _) | (with_reducible refine Kd.C_drew ?_))); (case side2 => exact HC0_2.out); (case side3 => repeat (first | exact (Kd.C_below HR0_3.out HB.out) | (with_reducible refine Kd.C_alloc ?_ _) | (with_reducible refine Kd.C_drewN ?_ _) | (with_reducible refine Kd.C_drew ?_))); (case side4 => exact HC0_3.out); rintro e w16 ⟨v240, v243, rfl, ho0, ho1, hb⟩; refine ⟨_, rfl, ?_⟩; have n0_ := Aside0.mk (Kd.PB_lower ho0 (below_size (by repeat (first | (with_reducible first | exact HB.out | apply below_alloc | apply pw_below_drewN | apply below_drew1 | refine below_set ?_ GE235.out) | exact HB.out)))); have n1_ := Aside0.mk (Kd.PB_lower ho1 (below_size (by repeat (first | (with_reducible first | exact HB.out | apply below_alloc | apply pw_below_drewN | apply below_drew1 | refine below_set ?_ GE235.out) | exact HB.out)))); have n2_ := Aside0.mk (blk_below (g := gb235) (o := .cells #[.int .i64 a0_0, .int .i64 a0_1, .slice A0_2 l0_2.length c0_2, .slice A0_3 l0_3.length c0_3] 24 (0, 0)) (by (with_reducible repeat (first | refine blk_drewN ?_ _ | refine blk_drew ?_ | refine blk_alloc ?_ _)); exact BK235.out) hb); have n3_ := Aside0.mk (below_step (by repeat (first | (with_reducible first | exact HB.out | apply below_alloc | apply pw_below_drewN | apply below_drew1 | refine below_set ?_ GE235.out) | exact HB.out)) hb); clear BK235; clear HB; have HO241 := n0_; have HO244 := n1_; have BK235 := n2_; have HB := n3_; clear n0_ n1_ n2_ n3_; (try clear hb); (try clear hb2); (try clear hk); (try clear hi); (try clear ho0); (try clear ho1); obtain ⟨Ao17, co17, eo17⟩ := Kd.PB_slice HO241.out; subst eo17; obtain ⟨Ao18, co18, eo18⟩ := Kd.PB_slice HO244.out; subst eo18) | ((with_reducible refine gate_callee (f := 20) rfl ?_); refine goesL_ (some 19) rfl rfl Try.func20 (by kernel_rfl) rfl #[.agg #[.int .i64 t237, .int .i64 t238, .slice Ao17 t239.length co17, .slice Ao18 t242.length co18]] rfl (by (try simp only [List.map_toArray, List.map_cons, List.map_nil]); first | done | rfl | (simp only [List.length_drop, List.length_take]; rfl)) ?_; (with_reducible refine (spec_CountSquares.calls k t237 t238 _ _ t239 _ _ t242 t245 t246 _ ?side1 ?side2 ?side3 ?side4 A8.out).mono ?_); (case side1 => repeat (first | exact (Kd.PB_reads' HO241.out).2.2 | (with_reducible refine Kd.C_alloc ?_ _) | (with_reducible refine Kd.C_drewN ?_ _) | (with_reducible refine Kd.C_drew ?_))); (case side2 => exact (Kd.PB_reads' HO241.out).2.1); (case side3 => repeat (first | exact (Kd.PB_reads' HO244.out).2.2 | (with_reducible refine Kd.C_alloc ?_ _) | (with_reducible refine Kd.C_drewN ?_ _) | (with_reducible refine Kd.C_drew ?_))); (case side4 => exact (Kd.PB_reads' HO244.out).2.1); rintro e w19 ⟨rfl, hb⟩; refine ⟨_, rfl, ?_⟩; have n0_ := Aside0.mk (Kd.PB_below (by (with_reducible repeat (first | apply Kd.PB_alloc | apply Kd.PB_drewN | apply Kd.PB_drew)); exact HO241.out) hb); have n1_ := Aside0.mk (Kd.PB_below (by (with_reducible repeat (first | apply Kd.PB_alloc | apply Kd.PB_drewN | apply Kd.PB_drew)); exact HO244.out) hb); have n2_ := Aside0.mk (blk_below (g := gb235) (o := .cells #[.int .i64 a0_0, .int .i64 a0_1, .slice A0_2 l0_2.length c0_2, .slice A0_3 l0_3.length c0_3] 24 (0, 0)) (by (with_reducible repeat (first | refine blk_drewN ?_ _ | refine blk_drew ?_ | refine blk_alloc ?_ _)); exact BK235.out) hb); have n3_ := Aside0.mk (below_step (by repeat (first | (with_reducible first | exact HB.out | apply below_alloc | apply pw_below_drewN | apply below_drew1 | refine below_set ?_ GE235.out) | exact HB.out)) hb); clear HO241; clear HO244; clear BK235; clear HB; have HO241 := n0_; have HO244 := n1_; have BK235 := n2_; have HB := n3_; clear n0_ n1_ n2_ n3_; (try clear hb); (try clear hb2); (try clear hk); (try clear hi); have hcz20_0 : w19.cell? ⟨gb235, 0, none⟩ = some (.int .i64 a0_0) := (blk_cell BK235.out 0).trans rfl; have hcz20_1 : w19.cell? ⟨gb235, 1, none⟩ = some (.int .i64 a0_1) := (blk_cell BK235.out 1).trans rfl; have hcz20_2 : w19.cell? ⟨gb235, 2, none⟩ = some (.slice A0_2 l0_2.length c0_2) := (blk_cell BK235.out 2).trans rfl; have hcz20_3 : w19.cell? ⟨gb235, 3, none⟩ = some (.slice A0_3 l0_3.length c0_3) := (blk_cell BK235.out 3).trans rfl; have hfz20_0 := blk_frozen BK235.out 0; have hfz20_1 := blk_frozen BK235.out 1; have hfz20_2 := blk_frozen BK235.out 2; have hfz20_3 := blk_frozen BK235.out 3) | ((with_reducible refine gate_callee (f := 10) rfl ?_); refine goesL_ (some 23) rfl rfl Try.func10 (by kernel_rfl) rfl #[.agg #[.int .i64 a0_0, .int .i64 a0_1, .slice A0_2 l0_2.length c0_2, .slice A0_3 l0_3.length c0_3], .bool false] rfl (by (try simp only [List.map_toArray, List.map_cons, List.map_nil]); first | done | rfl | (simp only [List.length_drop, List.length_take]; rfl)) ?_; (with_reducible refine (laws_toFigure.calls a0_0 a0_1 _ _ l0_2 _ _ l0_3 false t247 t248 t249 t252 _ ?side1 ?side2 ?side3 ?side4 A9.out).mono ?_); (case side1 => repeat (first | exact (Kd.C_below HR0_2.out HB.out) | (with_reducible refine Kd.C_alloc ?_ _) | (with_reducible refine Kd.C_drewN ?_ _) | (with_reducible refine Kd.C_drew ?_))); (case side2 => exact HC0_2.out); (case side3 => repeat (first | exact (Kd.C_below HR0_3.out HB.out) | (with_reducible refine Kd.C_alloc ?_ _) | (with_reducible refine Kd.C_drewN ?_ _) | (with_reducible refine Kd.C_drew ?_))); (case side4 => exact HC0_3.out); rintro e w21 ⟨v250, v253, rfl, ho0, ho1, hb⟩; refine ⟨_, rfl, ?_⟩; have n0_ := Aside0.mk (Kd.PB_mono (Kd.PB_told (Kd.PB_told (Kd.PB_old (by (with_reducible repeat (first | apply Kd.PB_alloc | apply Kd.PB_drewN | apply Kd.PB_drew)); exact HO241.out) hb) (Kd.PB_base ho0)) (Kd.PB_base ho1)) (fun _ h_ => h_.1)); have n1_ := Aside0.mk (Kd.PB_mono (Kd.PB_told (Kd.PB_told (Kd.PB_old (by (with_reducible repeat (first | apply Kd.PB_alloc | apply Kd.PB_drewN | apply Kd.PB_drew)); exact HO244.out) hb) (Kd.PB_base ho0)) (Kd.PB_base ho1)) (fun _ h_ => h_.1)); have n2_ := Aside0.mk (Kd.PB_lower (Kd.PB_new' (Kd.PB_new' ho0 (Kd.PB_lt (by (with_reducible repeat (first | apply Kd.PB_alloc | apply Kd.PB_drewN | apply Kd.PB_drew)); exact HO241.out))) (Kd.PB_lt (by (with_reducible repeat (first | apply Kd.PB_alloc | apply Kd.PB_drewN | apply Kd.PB_drew)); exact HO244.out))) (below_size (by repeat (first | (with_reducible first | exact HB.out | apply below_alloc | apply pw_below_drewN | apply below_drew1 | refine below_set ?_ GE235.out) | exact HB.out)))); have n3_ := Aside0.mk (Kd.PB_lower (Kd.PB_new' (Kd.PB_new' ho1 (Kd.PB_lt (by (with_reducible repeat (first | apply Kd.PB_alloc | apply Kd.PB_drewN | apply Kd.PB_drew)); exact HO241.out))) (Kd.PB_lt (by (with_reducible repeat (first | apply Kd.PB_alloc | apply Kd.PB_drewN | apply Kd.PB_drew)); exact HO244.out))) (below_size (by repeat (first | (with_reducible first | exact HB.out | apply below_alloc | apply pw_below_drewN | apply below_drew1 | refine below_set ?_ GE235.out) | exact HB.out)))); have n4_ := Aside0.mk (blk_below (g := gb235) (o := .cells #[.int .i64 a0_0, .int .i64 a0_1, .slice A0_2 l0_2.length c0_2, .slice A0_3 l0_3.length c0_3] 24 (0, 0)) (by (with_reducible repeat (first | refine blk_drewN ?_ _ | refine blk_drew ?_ | refine blk_alloc ?_ _)); exact BK235.out) hb); have n5_ := Aside0.mk (below_step (by repeat (first | (with_reducible first | exact HB.out | apply below_alloc | apply pw_below_drewN | apply below_drew1 | refine below_set ?_ GE235.out) | exact HB.out)) hb); clear HO241; clear HO244; clear BK235; clear HB; have HO241 := n0_; have HO244 := n1_; have HO251 := n2_; have HO254 := n3_; have BK235 := n4_; have HB := n5_; clear n0_ n1_ n2_ n3_ n4_ n5_; (try clear hb); (try clear hb2); (try clear hk); (try clear hi); (try clear ho0); (try clear ho1)) | ((with_reducible refine gate_dst (N := 6) rfl ?_); refine box_event ?hg (N := 6) ?hd (cs := #[.int .i64 0, .int .i64 0, .slice none 0 0, .slice none 0 0]) (t := 30) ?hr ?_; (case hd => rfl); (case hg => rfl); (case hr => first | (go_simp; done) | (go_simp; rfl)); intro gb255 hg w22 hbox hb; have n0_ := Aside0.mk (Kd.PB_below (by (with_reducible repeat (first | apply Kd.PB_alloc | apply Kd.PB_drewN | apply Kd.PB_drew)); exact HO241.out) hb); have n1_ := Aside0.mk (Kd.PB_below (by (with_reducible repeat (first | apply Kd.PB_alloc | apply Kd.PB_drewN | apply Kd.PB_drew)); exact HO244.out) hb); have n2_ := Aside0.mk (Kd.PB_below (by (with_reducible repeat (first | apply Kd.PB_alloc | apply Kd.PB_drewN | apply Kd.PB_drew)); exact HO251.out) hb); have n3_ := Aside0.mk (Kd.PB_below (by (with_reducible repeat (first | apply Kd.PB_alloc | apply Kd.PB_drewN | apply Kd.PB_drew)); exact HO254.out) hb); have n4_ := Aside0.mk (blk_below (g := gb235) (o := .cells #[.int .i64 a0_0, .int .i64 a0_1, .slice A0_2 l0_2.length c0_2, .slice A0_3 l0_3.length c0_3] 24 (0, 0)) (by (with_reducible repeat (first | refine blk_drewN ?_ _ | refine blk_drew ?_ | refine blk_alloc ?_ _)); exact BK235.out) hb); have n5_ := Aside0.mk (below_step (by repeat (first | (with_reducible first | exact HB.out | apply below_alloc | apply pw_below_drewN | apply below_drew1 | refine below_set ?_ GE235.out) | exact HB.out)) hb); have n6_ := Aside0.mk (hbox); have n7_ := Aside0.mk ((by rw [hg]; exact (below_size (by repeat (first | (with_reducible first | exact HB.out | apply below_alloc | apply pw_below_drewN | apply below_drew1 | refine below_set ?_ GE235.out) | exact HB.out))) : w.heap.size ≤ gb255)); have n8_ := Aside0.mk ((by rw [hg]; exact (below_size (by repeat (first | (with_reducible first | exact HB.out | apply below_alloc | apply pw_below_drewN | apply below_drew1 | refine below_set ?_ GE235.out) | exact HB.out))) : w.heap.size ≤ gb255)); have n9_ := Aside0.mk ((by rw [hg]; exact Nat.ne_of_lt (blk_lt (g := gb235) (o := .cells #[.int .i64 a0_0, .int .i64 a0_1, .slice A0_2 l0_2.length c0_2, .slice A0_3 l0_3.length c0_3] 24 (0, 0)) (by (with_reducible repeat (first | refine blk_drewN ?_ _ | refine blk_drew ?_ | refine blk_alloc ?_ _)); exact BK235.out)) : gb235 ≠ gb255)); have n10_ := Aside0.mk ((by rw [hg]; exact Nat.ne_of_gt (blk_lt (g := gb235) (o := .cells #[.int .i64 a0_0, .int .i64 a0_1, .slice A0_2 l0_2.length c0_2, .slice A0_3 l0_3.length c0_3] 24 (0, 0)) (by (with_reducible repeat (first | refine blk_drewN ?_ _ | refine blk_drew ?_ | refine blk_alloc ?_ _)); exact BK235.out)) : gb255 ≠ gb235)); clear HO241; clear HO244; clear HO251; clear HO254; clear BK235; clear HB; have HO241 := n0_; have HO244 := n1_; have HO251 := n2_; have HO254 := n3_; have BK235 := n4_; have HB := n5_; have BK255 := n6_; have GW255 := n7_; have GE255 := n8_; have NB235_255 := n9_; have NB255_235 := n10_; clear n0_ n1_ n2_ n3_ n4_ n5_ n6_ n7_ n8_ n9_ n10_; clear hb hbox hg; have hnb23 := NB255_235.out; have hnc23 := NB235_255.out; have hcz24_0 : w22.cell? ⟨gb255, 0, none⟩ = some (.int .i64 0) := (blk_cell BK255.out 0).trans rfl; have hcz24_1 : w22.cell? ⟨gb255, 1, none⟩ = some (.int .i64 0) := (blk_cell BK255.out 1).trans rfl; have hcz24_2 : w22.cell? ⟨gb255, 2, none⟩ = some (.slice none 0 0) := (blk_cell BK255.out 2).trans rfl; have hcz24_3 : w22.cell? ⟨gb255, 3, none⟩ = some (.slice none 0 0) := (blk_cell BK255.out 3).trans rfl; have hfz24_0 := blk_frozen BK255.out 0; have hfz24_1 := blk_frozen BK255.out 1; have hfz24_2 := blk_frozen BK255.out 2; have hfz24_3 := blk_frozen BK255.out 3; obtain ⟨Ao25, co25, eo25⟩ := Kd.PB_slice HO251.out; subst eo25; obtain ⟨Ao26, co26, eo26⟩ := Kd.PB_slice HO254.out; subst eo26) | ((with_reducible refine gate_callee (f := 21) rfl ?_); refine goesL_ (some 26) rfl rfl Try.func21 (by kernel_rfl) rfl #[.agg #[.int .i64 t247, .int .i64 t248, .slice Ao25 t249.length co25, .slice Ao26 t252.length co26]] rfl (by (try simp only [List.map_toArray, List.map_cons, List.map_nil]); first | done | rfl | (simp only [List.length_drop, List.length_take]; rfl)) ?_; (with_reducible refine (impl_CountSquares.calls k t247 t248 _ _ t249 _ _ t252 t256 t257 _ ?side1 ?side2 ?side3 ?side4 A10.out).mono ?_); (case side1 => refine (Kd.PB_reads' (b := false) (e := 3) (base := w.heap.size) (ok := fun k_ => ((some k_ ≠ (.slice Ao26 t252.length co26 : Value).ownBlock ∧ some k_ ≠ (.slice Ao17 t239.length co17 : Value).ownBlock) ∧ some k_ ≠ (.slice Ao18 t242.length co18 : Value).ownBlock)) (n := t249.length) (c := co25) ?_).2.2; exact (by (with_reducible repeat (first | apply Kd.PB_alloc | apply Kd.PB_drewN | apply Kd.PB_drew)); exact (Kd.PB_mono (Kd.PB_far (p := ⟨gb255, 3, none⟩) (Kd.PB_far (p := ⟨gb255, 2, none⟩) (Kd.PB_far (p := ⟨gb255, 1, none⟩) (Kd.PB_far (p := ⟨gb255, 0, none⟩) (Kd.PB_types HO251.out BK255.out (by decide)) (fun _ hk => hk.2) (.int .i64 t247)) (fun _ hk => hk.2) (.int .i64 t248)) (fun _ hk => hk.2) (.slice Ao25 t249.length co25)) (fun _ hk => hk.2) (.slice Ao26 t252.length co26)) (fun _ h_ => h_.1)))); (case side2 => exact (Kd.PB_reads' HO251.out).2.1); (case side3 => refine (Kd.PB_reads' (b := false) (e := 3) (base := w.heap.size) (ok := fun k_ => ((some k_ ≠ (.slice Ao25 t249.length co25 : Value).ownBlock ∧ some k_ ≠ (.slice Ao17 t239.length co17 : Value).ownBlock) ∧ some k_ ≠ (.slice Ao18 t242.length co18 : Value).ownBlock)) (n := t252.length) (c := co26) ?_).2.2; exact (by (with_reducible repeat (first | apply Kd.PB_alloc | apply Kd.PB_drewN | apply Kd.PB_drew)); exact (Kd.PB_mono (Kd.PB_far (p := ⟨gb255, 3, none⟩) (Kd.PB_far (p := ⟨gb255, 2, none⟩) (Kd.PB_far (p := ⟨gb255, 1, none⟩) (Kd.PB_far (p := ⟨gb255, 0, none⟩) (Kd.PB_types HO254.out BK255.out (by decide)) (fun _ hk => hk.2) (.int .i64 t247)) (fun _ hk => hk.2) (.int .i64 t248)) (fun _ hk => hk.2) (.slice Ao25 t249.length co25)) (fun _ hk => hk.2) (.slice Ao26 t252.length co26)) (fun _ h_ => h_.1)))); (case side4 => exact (Kd.PB_reads' HO254.out).2.1); rintro e w27 ⟨rfl, hb⟩; refine ⟨_, rfl, ?_⟩; have n0_ := Aside0.mk (Kd.PB_below (by (with_reducible repeat (first | apply Kd.PB_alloc | apply Kd.PB_drewN | apply Kd.PB_drew)); exact (Kd.PB_mono (Kd.PB_far (p := ⟨gb255, 3, none⟩) (Kd.PB_far (p := ⟨gb255, 2, none⟩) (Kd.PB_far (p := ⟨gb255, 1, none⟩) (Kd.PB_far (p := ⟨gb255, 0, none⟩) (Kd.PB_types HO241.out BK255.out (by decide)) (fun _ hk => hk.2) (.int .i64 t247)) (fun _ hk => hk.2) (.int .i64 t248)) (fun _ hk => hk.2) (.slice Ao25 t249.length co25)) (fun _ hk => hk.2) (.slice Ao26 t252.length co26)) (fun _ h_ => h_.1))) hb); have n1_ := Aside0.mk (Kd.PB_below (by (with_reducible repeat (first | apply Kd.PB_alloc | apply Kd.PB_drewN | apply Kd.PB_drew)); exact (Kd.PB_mono (Kd.PB_far (p := ⟨gb255, 3, none⟩) (Kd.PB_far (p := ⟨gb255, 2, none⟩) (Kd.PB_far (p := ⟨gb255, 1, none⟩) (Kd.PB_far (p := ⟨gb255, 0, none⟩) (Kd.PB_types HO244.out BK255.out (by decide)) (fun _ hk => hk.2) (.int .i64 t247)) (fun _ hk => hk.2) (.int .i64 t248)) (fun _ hk => hk.2) (.slice Ao25 t249.length co25)) (fun _ hk => hk.2) (.slice Ao26 t252.length co26)) (fun _ h_ => h_.1))) hb); have n2_ := Aside0.mk (Kd.PB_below (by (with_reducible repeat (first | apply Kd.PB_alloc | apply Kd.PB_drewN | apply Kd.PB_drew)); exact (Kd.PB_mono (Kd.PB_far (p := ⟨gb255, 3, none⟩) (Kd.PB_far (p := ⟨gb255, 2, none⟩) (Kd.PB_far (p := ⟨gb255, 1, none⟩) (Kd.PB_far (p := ⟨gb255, 0, none⟩) (Kd.PB_types HO251.out BK255.out (by decide)) (fun _ hk => hk.2) (.int .i64 t247)) (fun _ hk => hk.2) (.int .i64 t248)) (fun _ hk => hk.2) (.slice Ao25 t249.length co25)) (fun _ hk => hk.2) (.slice Ao26 t252.length co26)) (fun _ h_ => h_.1))) hb); have n3_ := Aside0.mk (Kd.PB_below (by (with_reducible repeat (first | apply Kd.PB_alloc | apply Kd.PB_drewN | apply Kd.PB_drew)); exact (Kd.PB_mono (Kd.PB_far (p := ⟨gb255, 3, none⟩) (Kd.PB_far (p := ⟨gb255, 2, none⟩) (Kd.PB_far (p := ⟨gb255, 1, none⟩) (Kd.PB_far (p := ⟨gb255, 0, none⟩) (Kd.PB_types HO254.out BK255.out (by decide)) (fun _ hk => hk.2) (.int .i64 t247)) (fun _ hk => hk.2) (.int .i64 t248)) (fun _ hk => hk.2) (.slice Ao25 t249.length co25)) (fun _ hk => hk.2) (.slice Ao26 t252.length co26)) (fun _ h_ => h_.1))) hb); have n4_ := Aside0.mk (blk_below (g := gb235) (o := .cells #[.int .i64 a0_0, .int .i64 a0_1, .slice A0_2 l0_2.length c0_2, .slice A0_3 l0_3.length c0_3] 24 (0, 0)) (by (with_reducible repeat (first | refine blk_drewN ?_ _ | refine blk_drew ?_ | refine blk_alloc ?_ _)); refine blk_far ?_ NB235_255.out _; (with_reducible repeat (first | refine blk_drewN ?_ _ | refine blk_drew ?_ | refine blk_alloc ?_ _)); refine blk_far ?_ NB235_255.out _; (with_reducible repeat (first | refine blk_drewN ?_ _ | refine blk_drew ?_ | refine blk_alloc ?_ _)); refine blk_far ?_ NB235_255.out _; (with_reducible repeat (first | refine blk_drewN ?_ _ | refine blk_drew ?_ | refine blk_alloc ?_ _)); refine blk_far ?_ NB235_255.out _; (with_reducible repeat (first | refine blk_drewN ?_ _ | refine blk_drew ?_ | refine blk_alloc ?_ _)); exact BK235.out) hb); have n5_ := Aside0.mk (blk_below (g := gb255) (o := .cells #[.int .i64 t247, .int .i64 t248, .slice Ao25 t249.length co25, .slice Ao26 t252.length co26] 30 (0, 0)) (by (with_reducible repeat (first | refine blk_drewN ?_ _ | refine blk_drew ?_ | refine blk_alloc ?_ _)); refine blk_put (cs := #[.int .i64 t247, .int .i64 t248, .slice Ao25 t249.length co25, .slice none 0 0]) ?_ 3 _ rfl; (with_reducible repeat (first | refine blk_drewN ?_ _ | refine blk_drew ?_ | refine blk_alloc ?_ _)); refine blk_put (cs := #[.int .i64 t247, .int .i64 t248, .slice none 0 0, .slice none 0 0]) ?_ 2 _ rfl; (with_reducible repeat (first | refine blk_drewN ?_ _ | refine blk_drew ?_ | refine blk_alloc ?_ _)); refine blk_put (cs := #[.int .i64 t247, .int .i64 0, .slice none 0 0, .slice none 0 0]) ?_ 1 _ rfl; (with_reducible repeat (first | refine blk_drewN ?_ _ | refine blk_drew ?_ | refine blk_alloc ?_ _)); refine blk_put (cs := #[.int .i64 0, .int .i64 0, .slice none 0 0, .slice none 0 0]) ?_ 0 _ rfl; (with_reducible repeat (first | refine blk_drewN ?_ _ | refine blk_drew ?_ | refine blk_alloc ?_ _)); exact BK255.out) hb); have n6_ := Aside0.mk (below_step (by repeat (first | (with_reducible first | exact HB.out | apply below_alloc | apply pw_below_drewN | apply below_drew1 | refine below_set ?_ GE235.out | refine below_set ?_ GE255.out) | exact HB.out)) hb); clear HO241; clear HO244; clear HO251; clear HO254; clear BK235; clear BK255; clear HB; have HO241 := n0_; have HO244 := n1_; have HO251 := n2_; have HO254 := n3_; have BK235 := n4_; have BK255 := n5_; have HB := n6_; clear n0_ n1_ n2_ n3_ n4_ n5_ n6_; (try clear hb); (try clear hb2); (try clear hk); (try clear hi)))
  (try simp only [Act.put, List.setIfInBounds_toArray, List.set_cons_zero, List.set_cons_succ])
  go_cut [36] (fun v36 wc => ∃ (kq : Nat) (x36_10 : Bool), v36 = .bool x36_10 ∧ Aside0 (laws_FnExactCountSquares.j0 kq t245 t246 x36_10 a0_0 a0_1 l0_2 l0_3 t247 t248 t249 t252 = some r) ∧ Aside0 (kq ≤ k) ∧ Aside0 (Kd.PB false (Kd.int .i64) 3 wc w.heap.size (fun k_ => some k_ ≠ ((.slice Ao26 t252.length co26) : Value).ownBlock) (.slice Ao25 t249.length co25) t249) ∧ Aside0 (Kd.PB false (Kd.int .i64) 3 wc w.heap.size (fun k_ => some k_ ≠ ((.slice Ao25 t249.length co25) : Value).ownBlock) (.slice Ao26 t252.length co26) t252) ∧ Aside0 (wc.heap[gb235]? = some (.cells #[.int .i64 a0_0, .int .i64 a0_1, (.slice A0_2 l0_2.length c0_2), (.slice A0_3 l0_3.length c0_3)] 24 (0, 0))) ∧ Aside0 (wc.heap[gb255]? = some (.cells #[.int .i64 t247, .int .i64 t248, (.slice Ao25 t249.length co25), (.slice Ao26 t252.length co26)] 30 (0, 0))) ∧ Aside0 (Below w.heap.size w wc))
  case first =>
   have H := HC11.out
   clear HC11
   by_cases c28 : t256 = t245
   ·rw [if_pos c28] at H
    have c28b0 : (t256 == t245) = true := beq_iff_eq.mpr c28
    have c28b1 : (t256 != t245) = false := bne_eq_false_iff_eq.mpr c28
    clear c28
    (first | rw [c28b0] | (simp only [i64_w, i32_w]; rw [c28b0]) | skip)
    have H' := Aside0.mk H
    clear H
    go_wp2
    go_meet
    case rel => exact ⟨_, ((t257 != t246)), (by first | rfl | (simp; done) | (simp [*]; done)), H', ⟨by first | omega | exact Nat.le_refl _⟩, ⟨by (with_reducible repeat (first | apply Kd.PB_alloc | apply Kd.PB_drewN | apply Kd.PB_drew)); exact Kd.PB_mono HO251.out (fun _ hk => hk.1.1)⟩, ⟨by (with_reducible repeat (first | apply Kd.PB_alloc | apply Kd.PB_drewN | apply Kd.PB_drew)); exact Kd.PB_mono HO254.out (fun _ hk => hk.1.1)⟩, ⟨by (with_reducible repeat (first | refine blk_drewN ?_ _ | refine blk_drew ?_ | refine blk_alloc ?_ _)); exact BK235.out⟩, ⟨by (with_reducible repeat (first | refine blk_drewN ?_ _ | refine blk_drew ?_ | refine blk_alloc ?_ _)); exact BK255.out⟩, ⟨by repeat (first | (with_reducible first | exact HB.out | apply below_alloc | apply pw_below_drewN | apply below_drew1 | refine below_set ?_ GE235.out | refine below_set ?_ GE255.out) | exact HB.out)⟩⟩
   ·rw [if_neg c28] at H
    have c28b0 : (t256 == t245) = false := beq_eq_false_iff_ne.mpr c28
    have c28b1 : (t256 != t245) = true := bne_iff_ne.mpr c28
    (first | rw [c28b0] | (simp only [i64_w, i32_w]; rw [c28b0]) | skip)
    exact absurd HR_.out (by cases k <;> simp [laws_FnExactCountSquares.j0] at H <;> first | simp [← H] | simp [H] | simp_all)
  case rest =>
   clear HC11
   try clear c1
   try clear c2
   try clear p2
   try clear c3
   try clear c3b0
   try clear c7
   try clear c8
   try clear c10
   try clear c20
   try clear c21
   try clear c23
   try clear c28
   try clear c28b0
   try clear c28b1
   try clear hcz13_0
   try clear hcz13_1
   try clear hcz13_2
   try clear hcz13_3
   try clear hcz15_0
   try clear hcz15_1
   try clear hcz15_2
   try clear hcz15_3
   try clear hcz20_0
   try clear hcz20_1
   try clear hcz20_2
   try clear hcz20_3
   try clear hcz24_0
   try clear hcz24_1
   try clear hcz24_2
   try clear hcz24_3
   try clear hcz5_0
   try clear hcz5_1
   try clear hcz5_2
   try clear hcz5_3
   try clear hfz13_0
   try clear hfz13_1
   try clear hfz13_2
   try clear hfz13_3
   try clear hfz15_0
   try clear hfz15_1
   try clear hfz15_2
   try clear hfz15_3
   try clear hfz20_0
   try clear hfz20_1
   try clear hfz20_2
   try clear hfz20_3
   try clear hfz24_0
   try clear hfz24_1
   try clear hfz24_2
   try clear hfz24_3
   try clear hfz5_0
   try clear hfz5_1
   try clear hfz5_2
   try clear hfz5_3
   obtain ⟨kq, x36_10, rfl, HA, HJ10, HO_256002, HO_256003, BK235, BK255, HB⟩ := hcut
   cases kq with
   | zero => exact absurd HA.out (by simp [laws_FnExactCountSquares.j0])
   | succ kj10 =>
    have H := HA.out
    clear HA
    simp only [laws_FnExactCountSquares.j0] at H
    by_cases c29 : x36_10 = true
    ·subst c29
     have H1 : (some false) = some r := by rw [if_pos rfl] at H; exact H
     clear H
     have H := H1
     clear H1
     exact absurd ((Option.some.inj H).trans HR_.out) Bool.false_ne_true
    ·replace c29 := Bool.eq_false_iff.mpr c29
     subst c29
     have H1 : ((laws_toFigure.f a0_0 a0_1 l0_2 l0_3 false).bind fun bt258 => ((laws_intactFigure.f t247 t248 t249 t252 bt258.1 bt258.2.1 bt258.2.2.1 bt258.2.2.2).bind fun t266 => (if t266 = true then ((laws_toFigure.f a0_0 a0_1 l0_2 l0_3 true).bind fun bt267 => ((impl_CountSquares.f kj10 bt267.1 bt267.2.1 bt267.2.2.1 bt267.2.2.2).bind fun bt275 => (if bt275.1 = t245 then (if (bt275.2 != t246) = true then (some false) else (some true)) else (some false)))) else (some false)))) = some r := by rw [if_neg (show ¬ (false = true) by decide)] at H; exact H
     clear H
     have H := H1
     clear H1
     replace H := Option.bind_eq_some_iff.mp H
     obtain ⟨⟨t258, t259, t260, t263⟩, A300, H⟩ := H
     replace H : ((laws_intactFigure.f t247 t248 t249 t252 t258 t259 t260 t263).bind fun t266 => (if t266 = true then ((laws_toFigure.f a0_0 a0_1 l0_2 l0_3 true).bind fun bt267 => ((impl_CountSquares.f kj10 bt267.1 bt267.2.1 bt267.2.2.1 bt267.2.2.2).bind fun bt275 => (if bt275.1 = t245 then (if (bt275.2 != t246) = true then (some false) else (some true)) else (some false)))) else (some false))) = some r := H
     have A30 := Aside0.mk A300
     clear A300
     replace H := Option.bind_eq_some_iff.mp H
     obtain ⟨t266, A310, H⟩ := H
     replace H : (if t266 = true then ((laws_toFigure.f a0_0 a0_1 l0_2 l0_3 true).bind fun bt267 => ((impl_CountSquares.f kj10 bt267.1 bt267.2.1 bt267.2.2.1 bt267.2.2.2).bind fun bt275 => (if bt275.1 = t245 then (if (bt275.2 != t246) = true then (some false) else (some true)) else (some false)))) else (some false)) = some r := H
     have A31 := Aside0.mk A310
     clear A310
     by_cases c32 : t266 = true
     ·subst c32
      have H1 : ((laws_toFigure.f a0_0 a0_1 l0_2 l0_3 true).bind fun bt267 => ((impl_CountSquares.f kj10 bt267.1 bt267.2.1 bt267.2.2.1 bt267.2.2.2).bind fun bt275 => (if bt275.1 = t245 then (if (bt275.2 != t246) = true then (some false) else (some true)) else (some false)))) = some r := by rw [if_pos rfl] at H; exact H
      clear H
      have H := H1
      clear H1
      replace H := Option.bind_eq_some_iff.mp H
      obtain ⟨⟨t267, t268, t269, t272⟩, A330, H⟩ := H
      replace H : ((impl_CountSquares.f kj10 t267 t268 t269 t272).bind fun bt275 => (if bt275.1 = t245 then (if (bt275.2 != t246) = true then (some false) else (some true)) else (some false))) = some r := H
      have A33 := Aside0.mk A330
      clear A330
      replace H := Option.bind_eq_some_iff.mp H
      obtain ⟨⟨t275, t276⟩, A340, H⟩ := H
      replace H : (if t275 = t245 then (if (t276 != t246) = true then (some false) else (some true)) else (some false)) = some r := H
      have A34 := Aside0.mk A340
      clear A340
      by_cases c35 : t275 = t245
      ·rw [if_pos c35] at H
       have c35b0 : (t275 == t245) = true := beq_iff_eq.mpr c35
       have c35b1 : (t275 != t245) = false := bne_eq_false_iff_eq.mpr c35
       clear c35
       by_cases c36 : (t276 != t246) = true
       ·rw [if_pos c36] at H
        have c36b0 : (t276 != t246) = true := c36
        (try (have c36b1 : decide (t276 = t246) = false := by simpa using c36))
        (try (have c36b2 : (t276 == t246) = false := by simpa using c36))
        (try (have c36b3 : ¬ (t276 = t246) := by simpa using c36))
        clear c36
        exact absurd ((Option.some.inj H).trans HR_.out) Bool.false_ne_true
       ·rw [if_neg c36] at H
        have c36b0 : (t276 != t246) = false := by simpa using c36
        (try (have c36b1 : decide (t276 = t246) = true := by simpa using c36))
        (try (have c36b2 : (t276 == t246) = true := by simpa using c36))
        clear c36
        obtain rfl := Option.some.inj H
        try go_wp2
        have n0_ := Aside0.mk (Kd.PB_drew HO_256002.out)
        have n1_ := Aside0.mk (Kd.PB_drew HO_256003.out)
        have n2_ := Aside0.mk (blk_drew BK235.out)
        have n3_ := Aside0.mk (blk_drew BK255.out)
        have n4_ := Aside0.mk (below_drew1 HB.out)
        clear HO_256002
        clear HO_256003
        clear BK235
        clear BK255
        clear HB
        have HO_256002 := n0_
        have HO_256003 := n1_
        have BK235 := n2_
        have BK255 := n3_
        have HB := n4_
        clear n0_ n1_ n2_ n3_ n4_
        refine start_ (n := 5) (S := fun w' => w'.cell? ⟨gb255, 0, none⟩ = some (.int .i64 t247) ∧ w'.cell? ⟨gb255, 1, none⟩ = some (.int .i64 t248) ∧ w'.cell? ⟨gb255, 2, none⟩ = some (.slice Ao25 t249.length co25) ∧ w'.cell? ⟨gb255, 3, none⟩ = some (.slice Ao26 t252.length co26) ∧ w'.cell? ⟨gb235, 0, none⟩ = some (.int .i64 a0_0) ∧ w'.cell? ⟨gb235, 1, none⟩ = some (.int .i64 a0_1) ∧ w'.cell? ⟨gb235, 2, none⟩ = some (.slice A0_2 l0_2.length c0_2) ∧ w'.cell? ⟨gb235, 3, none⟩ = some (.slice A0_3 l0_3.length c0_3)) (ds := []) #[false, false, false, false, false] (by kernel_rfl) rfl rfl ⟨(blk_cell BK255.out 0).trans rfl, (blk_cell BK255.out 1).trans rfl, (blk_cell BK255.out 2).trans rfl, (blk_cell BK255.out 3).trans rfl, (blk_cell BK235.out 0).trans rfl, (blk_cell BK235.out 1).trans rfl, (blk_cell BK235.out 2).trans rfl, (blk_cell BK235.out 3).trans rfl⟩ (fun hHeld => ?_)
        generalize wc.drew = w37 at HO_256002 HO_256003 BK235 BK255 HB hHeld ⊢
        refine take_ (i := 0) (N := some 37) (v := ?_) (a' := ?_) #[true, false, false, false, false] rfl rfl (by kernel_rfl) (fun _ _ _ h => h) (Or.inl ⟨by rfl, ?_⟩) hHeld ?_ ?_
        rotate_left
        ·rintro w' ⟨s0, s1, s2, s3, s4, s5, s6, s7⟩
         go_simp
         with_reducible rfl
        rotate_left
        ·simp only [Act.put, List.setIfInBounds_toArray, List.set_cons_zero, List.set_cons_succ, i64_w, i32_w]
         rfl
        refine take_ (i := 1) (N := some 38) (v := ?_) (a' := ?_) #[true, true, false, false, false] rfl rfl (by kernel_rfl) (fun _ _ _ h => h) (Or.inl ⟨by rfl, ?_⟩) hHeld ?_ ?_
        rotate_left
        ·rintro w' ⟨s0, s1, s2, s3, s4, s5, s6, s7⟩
         go_simp
         with_reducible rfl
        rotate_left
        ·simp only [Act.put, List.setIfInBounds_toArray, List.set_cons_zero, List.set_cons_succ, i64_w, i32_w]
         rfl
        refine one_ (i := 2) (N := some 39) #[true, true, true, false, false] rfl rfl (by kernel_rfl) (by decide) (fun K hK => ?_)
        refine goes_ Try.func10 (by kernel_rfl) rfl #[.agg #[.int .i64 a0_0, .int .i64 a0_1, .slice A0_2 l0_2.length c0_2, .slice A0_3 l0_3.length c0_3], .bool false] (by rfl) rfl rfl (by (try simp only [List.map_toArray, List.map_cons, List.map_nil]); first | done | rfl | (simp only [List.length_drop, List.length_take]; rfl)) ?_
        with_reducible refine (laws_toFigure.calls a0_0 a0_1 _ _ l0_2 _ _ l0_3 false t258 t259 t260 t263 _ ?side1 ?side2 ?side3 ?side4 A30.out).mono ?_
        (case side1 => repeat (first | exact (Kd.C_below HR0_2.out HB.out) | (with_reducible refine Kd.C_alloc ?_ _) | (with_reducible refine Kd.C_drewN ?_ _) | (with_reducible refine Kd.C_drew ?_)))
        (case side2 => exact HC0_2.out)
        (case side3 => repeat (first | exact (Kd.C_below HR0_3.out HB.out) | (with_reducible refine Kd.C_alloc ?_ _) | (with_reducible refine Kd.C_drewN ?_ _) | (with_reducible refine Kd.C_drew ?_)))
        (case side4 => exact HC0_3.out)
        rintro e w38 ⟨v261, v264, rfl, ho0, ho1, hb⟩
        refine ⟨_, rfl, ?_⟩
        have n0_ := Aside0.mk (Kd.PB_mono (Kd.PB_told (Kd.PB_told (Kd.PB_old (by (with_reducible repeat (first | apply Kd.PB_alloc | apply Kd.PB_drewN | apply Kd.PB_drew)); exact HO_256002.out) hb) (Kd.PB_base ho0)) (Kd.PB_base ho1)) (fun _ h_ => h_.1))
        have n1_ := Aside0.mk (Kd.PB_mono (Kd.PB_told (Kd.PB_told (Kd.PB_old (by (with_reducible repeat (first | apply Kd.PB_alloc | apply Kd.PB_drewN | apply Kd.PB_drew)); exact HO_256003.out) hb) (Kd.PB_base ho0)) (Kd.PB_base ho1)) (fun _ h_ => h_.1))
        have n2_ := Aside0.mk (Kd.PB_lower (Kd.PB_new' (Kd.PB_new' ho0 (Kd.PB_lt (by (with_reducible repeat (first | apply Kd.PB_alloc | apply Kd.PB_drewN | apply Kd.PB_drew)); exact HO_256002.out))) (Kd.PB_lt (by (with_reducible repeat (first | apply Kd.PB_alloc | apply Kd.PB_drewN | apply Kd.PB_drew)); exact HO_256003.out))) (below_size (by repeat (first | (with_reducible first | exact HB.out | apply below_alloc | apply pw_below_drewN | apply below_drew1 | refine below_set ?_ GE235.out | refine below_set ?_ GE255.out) | exact HB.out))))
        have n3_ := Aside0.mk (Kd.PB_lower (Kd.PB_new' (Kd.PB_new' ho1 (Kd.PB_lt (by (with_reducible repeat (first | apply Kd.PB_alloc | apply Kd.PB_drewN | apply Kd.PB_drew)); exact HO_256002.out))) (Kd.PB_lt (by (with_reducible repeat (first | apply Kd.PB_alloc | apply Kd.PB_drewN | apply Kd.PB_drew)); exact HO_256003.out))) (below_size (by repeat (first | (with_reducible first | exact HB.out | apply below_alloc | apply pw_below_drewN | apply below_drew1 | refine below_set ?_ GE235.out | refine below_set ?_ GE255.out) | exact HB.out))))
        have n4_ := Aside0.mk (blk_below (g := gb235) (o := .cells #[.int .i64 a0_0, .int .i64 a0_1, .slice A0_2 l0_2.length c0_2, .slice A0_3 l0_3.length c0_3] 24 (0, 0)) (by (with_reducible repeat (first | refine blk_drewN ?_ _ | refine blk_drew ?_ | refine blk_alloc ?_ _)); exact BK235.out) hb)
        have n5_ := Aside0.mk (blk_below (g := gb255) (o := .cells #[.int .i64 t247, .int .i64 t248, .slice Ao25 t249.length co25, .slice Ao26 t252.length co26] 30 (0, 0)) (by (with_reducible repeat (first | refine blk_drewN ?_ _ | refine blk_drew ?_ | refine blk_alloc ?_ _)); exact BK255.out) hb)
        have n6_ := Aside0.mk (below_step (by repeat (first | (with_reducible first | exact HB.out | apply below_alloc | apply pw_below_drewN | apply below_drew1 | refine below_set ?_ GE235.out | refine below_set ?_ GE255.out) | exact HB.out)) hb)
        clear HO_256002
        clear HO_256003
        clear BK235
        clear BK255
        clear HB
        have HO_256002 := n0_
        have HO_256003 := n1_
        have HO262 := n2_
        have HO265 := n3_
        have BK235 := n4_
        have BK255 := n5_
        have HB := n6_
        clear n0_ n1_ n2_ n3_ n4_ n5_ n6_
        (try clear hb)
        (try clear hb2)
        (try clear hk)
        (try clear hi)
        (try clear ho0)
        (try clear ho1)
        obtain ⟨Ao39, co39, eo39⟩ := Kd.PB_slice HO262.out
        (first | subst eo39 | (injection eo39 with f1_ f2_ f3_; have f4_ := f1_.symm; have f5_ := f3_.symm; clear f1_ f2_ f3_; subst f4_; subst f5_))
        obtain ⟨Ao40, co40, eo40⟩ := Kd.PB_slice HO265.out
        (first | subst eo40 | (injection eo40 with f1_ f2_ f3_; have f4_ := f1_.symm; have f5_ := f3_.symm; clear f1_ f2_ f3_; subst f4_; subst f5_))
        refine hK.out _ _ ⟨(blk_cell BK255.out 0).trans rfl, (blk_cell BK255.out 1).trans rfl, (blk_cell BK255.out 2).trans rfl, (blk_cell BK255.out 3).trans rfl, (blk_cell BK235.out 0).trans rfl, (blk_cell BK235.out 1).trans rfl, (blk_cell BK235.out 2).trans rfl, (blk_cell BK235.out 3).trans rfl⟩ (fun hHeld => ?_)
        clear hK K
        refine norm_ (a' := ?_) ?_ ?_
        rotate_left
        ·show Act.put _ (some 39) _ = _
         simp only [Act.put, List.setIfInBounds_toArray, List.set_cons_zero, List.set_cons_succ, i64_w, i32_w]
         rfl
        refine one_ (i := 3) (N := some 40) #[true, true, true, true, false] rfl rfl (by kernel_rfl) (by decide) (fun K hK => ?_)
        refine goes_ Try.func13 (by kernel_rfl) rfl #[.agg #[.int .i64 t247, .int .i64 t248, .slice Ao25 t249.length co25, .slice Ao26 t252.length co26], .agg #[.int .i64 t258, .int .i64 t259, .slice Ao39 t260.length co39, .slice Ao40 t263.length co40]] (by rfl) rfl rfl (by (try simp only [List.map_toArray, List.map_cons, List.map_nil]); first | done | rfl | (simp only [List.length_drop, List.length_take]; rfl)) ?_
        with_reducible refine (laws_intactFigure.calls t247 t248 _ _ t249 _ _ t252 t258 t259 _ _ t260 _ _ t263 true _ ?side1 ?side2 ?side3 ?side4 ?side5 ?side6 ?side7 ?side8 ?side9 ?side10 ?side11 ?side12 A31.out).mono ?_
        (case side1 => repeat (first | exact (Kd.PB_reads' HO_256002.out).2.2 | (with_reducible refine Kd.C_alloc ?_ _) | (with_reducible refine Kd.C_drewN ?_ _) | (with_reducible refine Kd.C_drew ?_)))
        (case side2 => exact (Kd.PB_reads' HO_256002.out).2.1)
        (case side3 => repeat (first | exact Kd.PB_sp HO_256002.out | (with_reducible refine Kd.Sp_alloc ?_ _) | (with_reducible refine Kd.Sp_drewN ?_ _) | (with_reducible refine Kd.Sp_drew ?_)))
        (case side4 => repeat (first | exact (Kd.PB_reads' HO_256003.out).2.2 | (with_reducible refine Kd.C_alloc ?_ _) | (with_reducible refine Kd.C_drewN ?_ _) | (with_reducible refine Kd.C_drew ?_)))
        (case side5 => exact (Kd.PB_reads' HO_256003.out).2.1)
        (case side6 => repeat (first | exact Kd.PB_sp HO_256003.out | (with_reducible refine Kd.Sp_alloc ?_ _) | (with_reducible refine Kd.Sp_drewN ?_ _) | (with_reducible refine Kd.Sp_drew ?_)))
        (case side7 => repeat (first | exact (Kd.PB_reads' HO262.out).2.2 | (with_reducible refine Kd.C_alloc ?_ _) | (with_reducible refine Kd.C_drewN ?_ _) | (with_reducible refine Kd.C_drew ?_)))
        (case side8 => exact (Kd.PB_reads' HO262.out).2.1)
        (case side9 => repeat (first | exact Kd.PB_sp HO262.out | (with_reducible refine Kd.Sp_alloc ?_ _) | (with_reducible refine Kd.Sp_drewN ?_ _) | (with_reducible refine Kd.Sp_drew ?_)))
        (case side10 => repeat (first | exact (Kd.PB_reads' HO265.out).2.2 | (with_reducible refine Kd.C_alloc ?_ _) | (with_reducible refine Kd.C_drewN ?_ _) | (with_reducible refine Kd.C_drew ?_)))
        (case side11 => exact (Kd.PB_reads' HO265.out).2.1)
        (case side12 => repeat (first | exact Kd.PB_sp HO265.out | (with_reducible refine Kd.Sp_alloc ?_ _) | (with_reducible refine Kd.Sp_drewN ?_ _) | (with_reducible refine Kd.Sp_drew ?_)))
        rintro e w41 ⟨rfl, hb⟩
        refine ⟨_, rfl, ?_⟩
        have n0_ := Aside0.mk (Kd.PB_below (by (with_reducible repeat (first | apply Kd.PB_alloc | apply Kd.PB_drewN | apply Kd.PB_drew)); exact HO_256002.out) hb)
        have n1_ := Aside0.mk (Kd.PB_below (by (with_reducible repeat (first | apply Kd.PB_alloc | apply Kd.PB_drewN | apply Kd.PB_drew)); exact HO_256003.out) hb)
        have n2_ := Aside0.mk (Kd.PB_below (by (with_reducible repeat (first | apply Kd.PB_alloc | apply Kd.PB_drewN | apply Kd.PB_drew)); exact HO262.out) hb)
        have n3_ := Aside0.mk (Kd.PB_below (by (with_reducible repeat (first | apply Kd.PB_alloc | apply Kd.PB_drewN | apply Kd.PB_drew)); exact HO265.out) hb)
        have n4_ := Aside0.mk (blk_below (g := gb235) (o := .cells #[.int .i64 a0_0, .int .i64 a0_1, .slice A0_2 l0_2.length c0_2, .slice A0_3 l0_3.length c0_3] 24 (0, 0)) (by (with_reducible repeat (first | refine blk_drewN ?_ _ | refine blk_drew ?_ | refine blk_alloc ?_ _)); exact BK235.out) hb)
        have n5_ := Aside0.mk (blk_below (g := gb255) (o := .cells #[.int .i64 t247, .int .i64 t248, .slice Ao25 t249.length co25, .slice Ao26 t252.length co26] 30 (0, 0)) (by (with_reducible repeat (first | refine blk_drewN ?_ _ | refine blk_drew ?_ | refine blk_alloc ?_ _)); exact BK255.out) hb)
        have n6_ := Aside0.mk (below_step (by repeat (first | (with_reducible first | exact HB.out | apply below_alloc | apply pw_below_drewN | apply below_drew1 | refine below_set ?_ GE235.out | refine below_set ?_ GE255.out) | exact HB.out)) hb)
        clear HO_256002
        clear HO_256003
        clear HO262
        clear HO265
        clear BK235
        clear BK255
        clear HB
        have HO_256002 := n0_
        have HO_256003 := n1_
        have HO262 := n2_
        have HO265 := n3_
        have BK235 := n4_
        have BK255 := n5_
        have HB := n6_
        clear n0_ n1_ n2_ n3_ n4_ n5_ n6_
        (try clear hb)
        (try clear hb2)
        (try clear hk)
        (try clear hi)
        refine hK.out _ _ ⟨(blk_cell BK255.out 0).trans rfl, (blk_cell BK255.out 1).trans rfl, (blk_cell BK255.out 2).trans rfl, (blk_cell BK255.out 3).trans rfl, (blk_cell BK235.out 0).trans rfl, (blk_cell BK235.out 1).trans rfl, (blk_cell BK235.out 2).trans rfl, (blk_cell BK235.out 3).trans rfl⟩ (fun hHeld => ?_)
        clear hK K
        refine norm_ (a' := ?_) ?_ ?_
        rotate_left
        ·show Act.put _ (some 40) _ = _
         simp only [Act.put, List.setIfInBounds_toArray, List.set_cons_zero, List.set_cons_succ, i64_w, i32_w]
         rfl
        refine pure_ (i := 4) (N := some 41) (v := ?_) (a' := ?_) #[true, true, true, true, true] rfl rfl (by kernel_rfl) (fun _ _ _ h => h) (Or.inl ⟨by rfl, ?_⟩) ?_ ?_
        rotate_left
        ·intro w'
         go_simp
         with_reducible rfl
        rotate_left
        ·simp only [Act.put, List.setIfInBounds_toArray, List.set_cons_zero, List.set_cons_succ, i64_w, i32_w]
         rfl
        refine done_ (by kernel_rfl) ?_
        have hnb42 := NB235_255.out
        have hnc42 := NB255_235.out
        have hcz43_0 : w41.cell? ⟨gb235, 0, none⟩ = some (.int .i64 a0_0) := (blk_cell BK235.out 0).trans rfl
        have hcz43_1 : w41.cell? ⟨gb235, 1, none⟩ = some (.int .i64 a0_1) := (blk_cell BK235.out 1).trans rfl
        have hcz43_2 : w41.cell? ⟨gb235, 2, none⟩ = some (.slice A0_2 l0_2.length c0_2) := (blk_cell BK235.out 2).trans rfl
        have hcz43_3 : w41.cell? ⟨gb235, 3, none⟩ = some (.slice A0_3 l0_3.length c0_3) := (blk_cell BK235.out 3).trans rfl
        have hfz43_0 := blk_frozen BK235.out 0
        have hfz43_1 := blk_frozen BK235.out 1
        have hfz43_2 := blk_frozen BK235.out 2
        have hfz43_3 := blk_frozen BK235.out 3
        try go_wp2_with (first | ((with_reducible refine gate_callee (f := 10) rfl ?_); refine goesL_ (some 44) rfl rfl Try.func10 (by kernel_rfl) rfl #[.agg #[.int .i64 a0_0, .int .i64 a0_1, .slice A0_2 l0_2.length c0_2, .slice A0_3 l0_3.length c0_3], .bool true] rfl (by (try simp only [List.map_toArray, List.map_cons, List.map_nil]); first | done | rfl | (simp only [List.length_drop, List.length_take]; rfl)) ?_; (with_reducible refine (laws_toFigure.calls a0_0 a0_1 _ _ l0_2 _ _ l0_3 true t267 t268 t269 t272 _ ?side1 ?side2 ?side3 ?side4 A33.out).mono ?_); (case side1 => repeat (first | exact (Kd.C_below HR0_2.out HB.out) | (with_reducible refine Kd.C_alloc ?_ _) | (with_reducible refine Kd.C_drewN ?_ _) | (with_reducible refine Kd.C_drew ?_))); (case side2 => exact HC0_2.out); (case side3 => repeat (first | exact (Kd.C_below HR0_3.out HB.out) | (with_reducible refine Kd.C_alloc ?_ _) | (with_reducible refine Kd.C_drewN ?_ _) | (with_reducible refine Kd.C_drew ?_))); (case side4 => exact HC0_3.out); rintro e w44 ⟨v270, v273, rfl, ho0, ho1, hb⟩; refine ⟨_, rfl, ?_⟩; have n0_ := Aside0.mk (Kd.PB_mono (Kd.PB_told (Kd.PB_told (Kd.PB_old (by (with_reducible repeat (first | apply Kd.PB_alloc | apply Kd.PB_drewN | apply Kd.PB_drew)); exact HO_256002.out) hb) (Kd.PB_base ho0)) (Kd.PB_base ho1)) (fun _ h_ => h_.1)); have n1_ := Aside0.mk (Kd.PB_mono (Kd.PB_told (Kd.PB_told (Kd.PB_old (by (with_reducible repeat (first | apply Kd.PB_alloc | apply Kd.PB_drewN | apply Kd.PB_drew)); exact HO_256003.out) hb) (Kd.PB_base ho0)) (Kd.PB_base ho1)) (fun _ h_ => h_.1)); have n2_ := Aside0.mk (Kd.PB_mono (Kd.PB_told (Kd.PB_told (Kd.PB_old (by (with_reducible repeat (first | apply Kd.PB_alloc | apply Kd.PB_drewN | apply Kd.PB_drew)); exact HO262.out) hb) (Kd.PB_base ho0)) (Kd.PB_base ho1)) (fun _ h_ => h_.1)); have n3_ := Aside0.mk (Kd.PB_mono (Kd.PB_told (Kd.PB_told (Kd.PB_old (by (with_reducible repeat (first | apply Kd.PB_alloc | apply Kd.PB_drewN | apply Kd.PB_drew)); exact HO265.out) hb) (Kd.PB_base ho0)) (Kd.PB_base ho1)) (fun _ h_ => h_.1)); have n4_ := Aside0.mk (Kd.PB_lower (Kd.PB_new' (Kd.PB_new' (Kd.PB_new' (Kd.PB_new' ho0 (Kd.PB_lt (by (with_reducible repeat (first | apply Kd.PB_alloc | apply Kd.PB_drewN | apply Kd.PB_drew)); exact HO_256002.out))) (Kd.PB_lt (by (with_reducible repeat (first | apply Kd.PB_alloc | apply Kd.PB_drewN | apply Kd.PB_drew)); exact HO_256003.out))) (Kd.PB_lt (by (with_reducible repeat (first | apply Kd.PB_alloc | apply Kd.PB_drewN | apply Kd.PB_drew)); exact HO262.out))) (Kd.PB_lt (by (with_reducible repeat (first | apply Kd.PB_alloc | apply Kd.PB_drewN | apply Kd.PB_drew)); exact HO265.out))) (below_size (by repeat (first | (with_reducible first | exact HB.out | apply below_alloc | apply pw_below_drewN | apply below_drew1 | refine below_set ?_ GE235.out | refine below_set ?_ GE255.out) | exact HB.out)))); have n5_ := Aside0.mk (Kd.PB_lower (Kd.PB_new' (Kd.PB_new' (Kd.PB_new' (Kd.PB_new' ho1 (Kd.PB_lt (by (with_reducible repeat (first | apply Kd.PB_alloc | apply Kd.PB_drewN | apply Kd.PB_drew)); exact HO_256002.out))) (Kd.PB_lt (by (with_reducible repeat (first | apply Kd.PB_alloc | apply Kd.PB_drewN | apply Kd.PB_drew)); exact HO_256003.out))) (Kd.PB_lt (by (with_reducible repeat (first | apply Kd.PB_alloc | apply Kd.PB_drewN | apply Kd.PB_drew)); exact HO262.out))) (Kd.PB_lt (by (with_reducible repeat (first | apply Kd.PB_alloc | apply Kd.PB_drewN | apply Kd.PB_drew)); exact HO265.out))) (below_size (by repeat (first | (with_reducible first | exact HB.out | apply below_alloc | apply pw_below_drewN | apply below_drew1 | refine below_set ?_ GE235.out | refine below_set ?_ GE255.out) | exact HB.out)))); have n6_ := Aside0.mk (blk_below (g := gb235) (o := .cells #[.int .i64 a0_0, .int .i64 a0_1, .slice A0_2 l0_2.length c0_2, .slice A0_3 l0_3.length c0_3] 24 (0, 0)) (by (with_reducible repeat (first | refine blk_drewN ?_ _ | refine blk_drew ?_ | refine blk_alloc ?_ _)); exact BK235.out) hb); have n7_ := Aside0.mk (blk_below (g := gb255) (o := .cells #[.int .i64 t247, .int .i64 t248, .slice Ao25 t249.length co25, .slice Ao26 t252.length co26] 30 (0, 0)) (by (with_reducible repeat (first | refine blk_drewN ?_ _ | refine blk_drew ?_ | refine blk_alloc ?_ _)); exact BK255.out) hb); have n8_ := Aside0.mk (below_step (by repeat (first | (with_reducible first | exact HB.out | apply below_alloc | apply pw_below_drewN | apply below_drew1 | refine below_set ?_ GE235.out | refine below_set ?_ GE255.out) | exact HB.out)) hb); clear HO_256002; clear HO_256003; clear HO262; clear HO265; clear BK235; clear BK255; clear HB; have HO_256002 := n0_; have HO_256003 := n1_; have HO262 := n2_; have HO265 := n3_; have HO271 := n4_; have HO274 := n5_; have BK235 := n6_; have BK255 := n7_; have HB := n8_; clear n0_ n1_ n2_ n3_ n4_ n5_ n6_ n7_ n8_; (try clear hb); (try clear hb2); (try clear hk); (try clear hi); (try clear ho0); (try clear ho1); obtain ⟨Ao45, co45, eo45⟩ := Kd.PB_slice HO271.out; subst eo45; obtain ⟨Ao46, co46, eo46⟩ := Kd.PB_slice HO274.out; subst eo46) | ((with_reducible refine gate_callee (f := 21) rfl ?_); refine goesL_ (some 45) rfl rfl Try.func21 (by kernel_rfl) rfl #[.agg #[.int .i64 t267, .int .i64 t268, .slice Ao45 t269.length co45, .slice Ao46 t272.length co46]] rfl (by (try simp only [List.map_toArray, List.map_cons, List.map_nil]); first | done | rfl | (simp only [List.length_drop, List.length_take]; rfl)) ?_; (with_reducible refine (impl_CountSquares.calls kj10 t267 t268 _ _ t269 _ _ t272 t275 t276 _ ?side1 ?side2 ?side3 ?side4 A34.out).mono ?_); (case side1 => repeat (first | exact (Kd.PB_reads' HO271.out).2.2 | (with_reducible refine Kd.C_alloc ?_ _) | (with_reducible refine Kd.C_drewN ?_ _) | (with_reducible refine Kd.C_drew ?_))); (case side2 => exact (Kd.PB_reads' HO271.out).2.1); (case side3 => repeat (first | exact (Kd.PB_reads' HO274.out).2.2 | (with_reducible refine Kd.C_alloc ?_ _) | (with_reducible refine Kd.C_drewN ?_ _) | (with_reducible refine Kd.C_drew ?_))); (case side4 => exact (Kd.PB_reads' HO274.out).2.1); rintro e w47 ⟨rfl, hb⟩; refine ⟨_, rfl, ?_⟩; have n0_ := Aside0.mk (Kd.PB_below (by (with_reducible repeat (first | apply Kd.PB_alloc | apply Kd.PB_drewN | apply Kd.PB_drew)); exact HO_256002.out) hb); have n1_ := Aside0.mk (Kd.PB_below (by (with_reducible repeat (first | apply Kd.PB_alloc | apply Kd.PB_drewN | apply Kd.PB_drew)); exact HO_256003.out) hb); have n2_ := Aside0.mk (Kd.PB_below (by (with_reducible repeat (first | apply Kd.PB_alloc | apply Kd.PB_drewN | apply Kd.PB_drew)); exact HO262.out) hb); have n3_ := Aside0.mk (Kd.PB_below (by (with_reducible repeat (first | apply Kd.PB_alloc | apply Kd.PB_drewN | apply Kd.PB_drew)); exact HO265.out) hb); have n4_ := Aside0.mk (Kd.PB_below (by (with_reducible repeat (first | apply Kd.PB_alloc | apply Kd.PB_drewN | apply Kd.PB_drew)); exact HO271.out) hb); have n5_ := Aside0.mk (Kd.PB_below (by (with_reducible repeat (first | apply Kd.PB_alloc | apply Kd.PB_drewN | apply Kd.PB_drew)); exact HO274.out) hb); have n6_ := Aside0.mk (blk_below (g := gb235) (o := .cells #[.int .i64 a0_0, .int .i64 a0_1, .slice A0_2 l0_2.length c0_2, .slice A0_3 l0_3.length c0_3] 24 (0, 0)) (by (with_reducible repeat (first | refine blk_drewN ?_ _ | refine blk_drew ?_ | refine blk_alloc ?_ _)); exact BK235.out) hb); have n7_ := Aside0.mk (blk_below (g := gb255) (o := .cells #[.int .i64 t247, .int .i64 t248, .slice Ao25 t249.length co25, .slice Ao26 t252.length co26] 30 (0, 0)) (by (with_reducible repeat (first | refine blk_drewN ?_ _ | refine blk_drew ?_ | refine blk_alloc ?_ _)); exact BK255.out) hb); have n8_ := Aside0.mk (below_step (by repeat (first | (with_reducible first | exact HB.out | apply below_alloc | apply pw_below_drewN | apply below_drew1 | refine below_set ?_ GE235.out | refine below_set ?_ GE255.out) | exact HB.out)) hb); clear HO_256002; clear HO_256003; clear HO262; clear HO265; clear HO271; clear HO274; clear BK235; clear BK255; clear HB; have HO_256002 := n0_; have HO_256003 := n1_; have HO262 := n2_; have HO265 := n3_; have HO271 := n4_; have HO274 := n5_; have BK235 := n6_; have BK255 := n7_; have HB := n8_; clear n0_ n1_ n2_ n3_ n4_ n5_ n6_ n7_ n8_; (try clear hb); (try clear hb2); (try clear hk); (try clear hi)))
        go_ret
        exact ⟨by first | rfl | (simp [errW_none, errW_some] <;> rfl) | (simp [*, errW_none, errW_some] <;> rfl), by repeat (first | (with_reducible first | exact HB.out | apply below_alloc | apply pw_below_drewN | apply below_drew1 | refine below_set ?_ GE235.out | refine below_set ?_ GE255.out) | exact HB.out)⟩
      ·rw [if_neg c35] at H
       have c35b0 : (t275 == t245) = false := beq_eq_false_iff_ne.mpr c35
       have c35b1 : (t275 != t245) = true := bne_iff_ne.mpr c35
       exact absurd ((Option.some.inj H).trans HR_.out) Bool.false_ne_true
     ·replace c32 := Bool.eq_false_iff.mpr c32
      subst c32
      have H1 : (some false) = some r := by rw [if_neg (show ¬ (false = true) by decide)] at H; exact H
      clear H
      have H := H1
      clear H1
      exact absurd ((Option.some.inj H).trans HR_.out) Bool.false_ne_true

/-- THE ONE PURE STATEMENT of laws_FnExactCountSquares. -/
def laws_FnExactCountSquares.Pure : Prop := ∀ (a0_0 : Int) (a0_1 : Int) (l0_2 : List Int) (l0_3 : List Int), (Lit.int .i64 a0_0).wf = true → (Lit.int .i64 a0_1).wf = true → l0_2.length ≤ maxLen → (∀ x ∈ l0_2, (Lit.int .i64 x).wf = true) → l0_3.length ≤ maxLen → (∀ x ∈ l0_3, (Lit.int .i64 x).wf = true) → ∃ k, laws_FnExactCountSquares.f k a0_0 a0_1 l0_2 l0_3 = some true

end Go.Proofs.Ytmlkihaoeopobaa.Q
