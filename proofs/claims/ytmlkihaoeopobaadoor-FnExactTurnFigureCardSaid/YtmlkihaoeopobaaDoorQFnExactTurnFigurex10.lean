-- written by a program of this session, pm.py, for this claim
-- half the indentation
import Derived.Test.YtmlkihaoeopobaaDoorQFnExactTurnFigurex0
import Derived.Test.YtmlkihaoeopobaaDoorQFnExactTurnFigurex1
import Derived.Test.YtmlkihaoeopobaaDoorQFnExactTurnFigurex2
import Derived.Test.YtmlkihaoeopobaaDoorQFnExactTurnFigurex5
import Derived.Test.YtmlkihaoeopobaaDoorQFnExactTurnFigurex8
import Derived.Test.YtmlkihaoeopobaaDoorQFnExactTurnFigurex9
namespace Go.Proofs.YtmlkihaoeopobaaDoor.Q
open Go.RowKit Go.Proofs.YtmlkihaoeopobaaDoorW.PrintWords Go.Proofs.YtmlkihaoeopobaaDoorW.PrintLast Go.Proofs.YtmlkihaoeopobaaDoorW.PrintMore
attribute [local go_sem] max2_int min2_int max_two min_two max_three min_three max_four min_four   -- for this text's walks alone
set_option linter.unusedVariables false
set_option linter.unusedSimpArgs false

/-! ### laws_FnExactTurnFigure: function 8 -/
mutual
def laws_FnExactTurnFigure.j0 : Nat → Bool → Bool → Bool → Int → Int → List Int → List Int → Int → Int → List Int → List Int → Int → Int → List Int → List Int → Int → Int → List Int → List Int → Option (Bool)
 | 0, _, _, _, _, _, _, _, _, _, _, _, _, _, _, _, _, _, _, _ => none
 | k + 1, x5, x8, x40, x343000, x343001, x343002, x343003, x362000, x362001, x362002, x362003, x371000, x371001, x371002, x371003, x381000, x381001, x381002, x381003 => if x40 = true then (some false) else ((laws_toFigure.f x343000 x343001 x343002 x343003 false).bind fun bt382 => ((laws_intactFigure.f x371000 x371001 x371002 x371003 bt382.1 bt382.2.1 bt382.2.2.1 bt382.2.2.2).bind fun t390 => (if t390 = true then ((laws_markFigure.f k x371000 x371001 x371002 x371003 101).bind fun bt391 => (if bt391.1 < 0 then (laws_FnExactTurnFigure.j1 k x5 true x343000 x343001 x343002 x343003 x362000 x362001 x362002 x362003 x381000 x381001 x381002 x381003) else ((laws_eqFigure.f k x381000 x381001 x381002 x381003 x362000 x362001 x362002 x362003).bind fun t394 => (if t394 = true then (laws_FnExactTurnFigure.j1 k x5 (x8 != x5) x343000 x343001 x343002 x343003 x362000 x362001 x362002 x362003 x381000 x381001 x381002 x381003) else (laws_FnExactTurnFigure.j1 k x5 true x343000 x343001 x343002 x343003 x362000 x362001 x362002 x362003 x381000 x381001 x381002 x381003))))) else (some false))))
def laws_FnExactTurnFigure.j1 : Nat → Bool → Bool → Int → Int → List Int → List Int → Int → Int → List Int → List Int → Int → Int → List Int → List Int → Option (Bool)
 | 0, _, _, _, _, _, _, _, _, _, _, _, _, _, _ => none
 | k + 1, x5, x61, x343000, x343001, x343002, x343003, x362000, x362001, x362002, x362003, x381000, x381001, x381002, x381003 => if x61 = true then (some false) else ((laws_markFigure.f k x381000 x381001 x381002 x381003 101).bind fun bt395 => ((laws_heldFigure.f k x381000 x381001 bt395.2.1 bt395.2.2 101).bind fun t398 => (if t398 < 0 then (some false) else (if t398 = bt395.1 then ((laws_toFigure.f x343000 x343001 x343002 x343003 true).bind fun bt399 => ((impl_TurnFigure.f k bt399.1 bt399.2.1 bt399.2.2.1 bt399.2.2.2).bind fun bt407 => ((laws_eqFigure.f k bt407.1 bt407.2.1 bt407.2.2.1 bt407.2.2.2.1 x362000 x362001 x362002 x362003).bind fun t417 => (if t417 = true then (laws_FnExactTurnFigure.j2 k bt395.1 (bt407.2.2.2.2 != x5) x381000 x381001 bt395.2.1 bt395.2.2) else (laws_FnExactTurnFigure.j2 k bt395.1 true x381000 x381001 bt395.2.1 bt395.2.2))))) else (some false)))))
def laws_FnExactTurnFigure.j2 : Nat → Int → Bool → Int → Int → List Int → List Int → Option (Bool)
 | 0, _, _, _, _, _, _ => none
 | k + 1, x10, x87, x381000, x381001, x381002, x381003 => if x87 = true then (some false) else ((laws_heldFigure.f k x381000 x381001 x381002 x381003 101).bind fun t418 => (if t418 < 0 then (some false) else (if t418 = x10 then (some true) else (some false))))
end
def laws_FnExactTurnFigure.f (k : Nat) (a0_0 : Int) (a0_1 : Int) (l0_2 : List Int) (l0_3 : List Int) : Option (Bool) := (laws_szFigure.f a0_0 a0_1 l0_2 l0_3 1000000).bind fun t343 => (if t343 < 0 then (some true) else ((laws_toFigure.f a0_0 a0_1 l0_2 l0_3 false).bind fun bt344 => ((spec_TurnFigure.f k bt344.1 bt344.2.1 bt344.2.2.1 bt344.2.2.2).bind fun bt352 => ((laws_toFigure.f a0_0 a0_1 l0_2 l0_3 false).bind fun bt362 => ((impl_TurnFigure.f k bt362.1 bt362.2.1 bt362.2.2.1 bt362.2.2.2).bind fun bt371 => ((laws_eqFigure.f k bt371.1 bt371.2.1 bt371.2.2.1 bt371.2.2.2.1 bt352.1 bt352.2.1 bt352.2.2.1 bt352.2.2.2.1).bind fun t381 => (if t381 = true then (laws_FnExactTurnFigure.j0 k bt352.2.2.2.2 bt371.2.2.2.2 (bt371.2.2.2.2 != bt352.2.2.2.2) a0_0 a0_1 l0_2 l0_3 bt352.1 bt352.2.1 bt352.2.2.1 bt352.2.2.2.1 bt362.1 bt362.2.1 bt362.2.2.1 bt362.2.2.2 bt371.1 bt371.2.1 bt371.2.2.1 bt371.2.2.2.1) else (laws_FnExactTurnFigure.j0 k bt352.2.2.2.2 bt371.2.2.2.2 true a0_0 a0_1 l0_2 l0_3 bt352.1 bt352.2.1 bt352.2.2.1 bt352.2.2.2.1 bt362.1 bt362.2.1 bt362.2.2.1 bt362.2.2.2 bt371.1 bt371.2.1 bt371.2.2.1 bt371.2.2.2.1))))))))
theorem laws_FnExactTurnFigure.mono_l : ∀ k, (∀ y0 y1 y2 y3 y4 y5 y6 y7 y8 y9 y10 y11 y12 y13 y14 y15 y16 y17 y18, LeO (laws_FnExactTurnFigure.j0 k y0 y1 y2 y3 y4 y5 y6 y7 y8 y9 y10 y11 y12 y13 y14 y15 y16 y17 y18) (laws_FnExactTurnFigure.j0 (k + 1) y0 y1 y2 y3 y4 y5 y6 y7 y8 y9 y10 y11 y12 y13 y14 y15 y16 y17 y18)) ∧ (∀ y0 y1 y2 y3 y4 y5 y6 y7 y8 y9 y10 y11 y12 y13, LeO (laws_FnExactTurnFigure.j1 k y0 y1 y2 y3 y4 y5 y6 y7 y8 y9 y10 y11 y12 y13) (laws_FnExactTurnFigure.j1 (k + 1) y0 y1 y2 y3 y4 y5 y6 y7 y8 y9 y10 y11 y12 y13)) ∧ (∀ y0 y1 y2 y3 y4 y5, LeO (laws_FnExactTurnFigure.j2 k y0 y1 y2 y3 y4 y5) (laws_FnExactTurnFigure.j2 (k + 1) y0 y1 y2 y3 y4 y5))
 | 0 => ⟨fun _ _ _ _ _ _ _ _ _ _ _ _ _ _ _ _ _ _ _ r h => by simp [laws_FnExactTurnFigure.j0] at h, fun _ _ _ _ _ _ _ _ _ _ _ _ _ _ r h => by simp [laws_FnExactTurnFigure.j1] at h, fun _ _ _ _ _ _ r h => by simp [laws_FnExactTurnFigure.j2] at h⟩
 | k + 1 => by
  obtain ⟨ih0, ih1, ih2⟩ := laws_FnExactTurnFigure.mono_l k
  refine ⟨?_, ?_, ?_⟩
  ·intro y0 y1 y2 y3 y4 y5 y6 y7 y8 y9 y10 y11 y12 y13 y14 y15 y16 y17 y18
   unfold laws_FnExactTurnFigure.j0
   repeat' first
   | (with_reducible exact ih0 _ _ _ _ _ _ _ _ _ _ _ _ _ _ _ _ _ _ _)
   | (with_reducible exact ih1 _ _ _ _ _ _ _ _ _ _ _ _ _ _)
   | (with_reducible exact ih2 _ _ _ _ _ _)
   | (with_reducible exact impl_TurnFigure.mono _ _ _ _ _)
   | (with_reducible exact laws_eqFigure.mono _ _ _ _ _ _ _ _ _)
   | (with_reducible exact laws_heldFigure.mono _ _ _ _ _ _)
   | (with_reducible exact laws_markFigure.mono _ _ _ _ _ _)
   | (with_reducible exact spec_TurnFigure.mono _ _ _ _ _)
   | (with_reducible exact LeO.refl _)
   | (with_reducible exact LeO.none _)
   | (with_reducible refine LeO.ite ?_ ?_)
   | (with_reducible refine LeO.bind ?_ (fun _ => ?_))
   | exact ih0 _ _ _ _ _ _ _ _ _ _ _ _ _ _ _ _ _ _ _
   | exact ih1 _ _ _ _ _ _ _ _ _ _ _ _ _ _
   | exact ih2 _ _ _ _ _ _
   | exact impl_TurnFigure.mono _ _ _ _ _
   | exact laws_eqFigure.mono _ _ _ _ _ _ _ _ _
   | exact laws_heldFigure.mono _ _ _ _ _ _
   | exact laws_markFigure.mono _ _ _ _ _ _
   | exact spec_TurnFigure.mono _ _ _ _ _
   | exact LeO.none _
   | refine LeO.ite ?_ ?_
   | refine LeO.bind ?_ (fun _ => ?_)
  ·intro y0 y1 y2 y3 y4 y5 y6 y7 y8 y9 y10 y11 y12 y13
   unfold laws_FnExactTurnFigure.j1
   repeat' first
   | (with_reducible exact ih0 _ _ _ _ _ _ _ _ _ _ _ _ _ _ _ _ _ _ _)
   | (with_reducible exact ih1 _ _ _ _ _ _ _ _ _ _ _ _ _ _)
   | (with_reducible exact ih2 _ _ _ _ _ _)
   | (with_reducible exact impl_TurnFigure.mono _ _ _ _ _)
   | (with_reducible exact laws_eqFigure.mono _ _ _ _ _ _ _ _ _)
   | (with_reducible exact laws_heldFigure.mono _ _ _ _ _ _)
   | (with_reducible exact laws_markFigure.mono _ _ _ _ _ _)
   | (with_reducible exact spec_TurnFigure.mono _ _ _ _ _)
   | (with_reducible exact LeO.refl _)
   | (with_reducible exact LeO.none _)
   | (with_reducible refine LeO.ite ?_ ?_)
   | (with_reducible refine LeO.bind ?_ (fun _ => ?_))
   | exact ih0 _ _ _ _ _ _ _ _ _ _ _ _ _ _ _ _ _ _ _
   | exact ih1 _ _ _ _ _ _ _ _ _ _ _ _ _ _
   | exact ih2 _ _ _ _ _ _
   | exact impl_TurnFigure.mono _ _ _ _ _
   | exact laws_eqFigure.mono _ _ _ _ _ _ _ _ _
   | exact laws_heldFigure.mono _ _ _ _ _ _
   | exact laws_markFigure.mono _ _ _ _ _ _
   | exact spec_TurnFigure.mono _ _ _ _ _
   | exact LeO.none _
   | refine LeO.ite ?_ ?_
   | refine LeO.bind ?_ (fun _ => ?_)
  ·intro y0 y1 y2 y3 y4 y5
   unfold laws_FnExactTurnFigure.j2
   repeat' first
   | (with_reducible exact ih0 _ _ _ _ _ _ _ _ _ _ _ _ _ _ _ _ _ _ _)
   | (with_reducible exact ih1 _ _ _ _ _ _ _ _ _ _ _ _ _ _)
   | (with_reducible exact ih2 _ _ _ _ _ _)
   | (with_reducible exact impl_TurnFigure.mono _ _ _ _ _)
   | (with_reducible exact laws_eqFigure.mono _ _ _ _ _ _ _ _ _)
   | (with_reducible exact laws_heldFigure.mono _ _ _ _ _ _)
   | (with_reducible exact laws_markFigure.mono _ _ _ _ _ _)
   | (with_reducible exact spec_TurnFigure.mono _ _ _ _ _)
   | (with_reducible exact LeO.refl _)
   | (with_reducible exact LeO.none _)
   | (with_reducible refine LeO.ite ?_ ?_)
   | (with_reducible refine LeO.bind ?_ (fun _ => ?_))
   | exact ih0 _ _ _ _ _ _ _ _ _ _ _ _ _ _ _ _ _ _ _
   | exact ih1 _ _ _ _ _ _ _ _ _ _ _ _ _ _
   | exact ih2 _ _ _ _ _ _
   | exact impl_TurnFigure.mono _ _ _ _ _
   | exact laws_eqFigure.mono _ _ _ _ _ _ _ _ _
   | exact laws_heldFigure.mono _ _ _ _ _ _
   | exact laws_markFigure.mono _ _ _ _ _ _
   | exact spec_TurnFigure.mono _ _ _ _ _
   | exact LeO.none _
   | refine LeO.ite ?_ ?_
   | refine LeO.bind ?_ (fun _ => ?_)
theorem laws_FnExactTurnFigure.mono : ∀ a0 a1 a2 a3 k, LeO (laws_FnExactTurnFigure.f k a0 a1 a2 a3) (laws_FnExactTurnFigure.f (k + 1) a0 a1 a2 a3) := by
 intro a0 a1 a2 a3 k
 obtain ⟨ih0, ih1, ih2⟩ := laws_FnExactTurnFigure.mono_l k
 unfold laws_FnExactTurnFigure.f
 repeat' first
   | (with_reducible exact ih0 _ _ _ _ _ _ _ _ _ _ _ _ _ _ _ _ _ _ _)
   | (with_reducible exact ih1 _ _ _ _ _ _ _ _ _ _ _ _ _ _)
   | (with_reducible exact ih2 _ _ _ _ _ _)
   | (with_reducible exact impl_TurnFigure.mono _ _ _ _ _)
   | (with_reducible exact laws_eqFigure.mono _ _ _ _ _ _ _ _ _)
   | (with_reducible exact laws_heldFigure.mono _ _ _ _ _ _)
   | (with_reducible exact laws_markFigure.mono _ _ _ _ _ _)
   | (with_reducible exact spec_TurnFigure.mono _ _ _ _ _)
   | (with_reducible exact LeO.refl _)
   | (with_reducible exact LeO.none _)
   | (with_reducible refine LeO.ite ?_ ?_)
   | (with_reducible refine LeO.bind ?_ (fun _ => ?_))
   | exact ih0 _ _ _ _ _ _ _ _ _ _ _ _ _ _ _ _ _ _ _
   | exact ih1 _ _ _ _ _ _ _ _ _ _ _ _ _ _
   | exact ih2 _ _ _ _ _ _
   | exact impl_TurnFigure.mono _ _ _ _ _
   | exact laws_eqFigure.mono _ _ _ _ _ _ _ _ _
   | exact laws_heldFigure.mono _ _ _ _ _ _
   | exact laws_markFigure.mono _ _ _ _ _ _
   | exact spec_TurnFigure.mono _ _ _ _ _
   | exact LeO.none _
   | refine LeO.ite ?_ ?_
   | refine LeO.bind ?_ (fun _ => ?_)
set_option maxHeartbeats 8000000 in
set_option maxRecDepth 100000 in
theorem laws_FnExactTurnFigure.calls (k : Nat) (a0_0 : Int) (a0_1 : Int) (A0_2 : Option Addr) (c0_2 : Nat) (l0_2 : List Int) (A0_3 : Option Addr) (c0_3 : Nat) (l0_3 : List Int) (r : Bool) (w : World) (hr0_2 : Kd.C (Kd.int .i64) w A0_2 l0_2.length l0_2) (hc0_2 : l0_2.length ≤ c0_2) (hr0_3 : Kd.C (Kd.int .i64) w A0_3 l0_3.length l0_3) (hc0_3 : l0_3.length ≤ c0_3) (hG : LaidG w) (hr_ : r = true) (h : laws_FnExactTurnFigure.f k a0_0 a0_1 l0_2 l0_3 = some r) :
  Calls Tryd.prog 8 #[.agg #[.int .i64 a0_0, .int .i64 a0_1, .slice A0_2 l0_2.length c0_2, .slice A0_3 l0_3.length c0_3]] w fun e w' => e = .returned (.bool r) ∧ Below w.heap.size w w' := by
 have hu24 := Tryd.underlying24
 have hu26 := Tryd.underlying26
 have HR0_2 := Aside0.mk hr0_2
 have HC0_2 := Aside0.mk hc0_2
 clear hr0_2 hc0_2
 have HR0_3 := Aside0.mk hr0_3
 have HC0_3 := Aside0.mk hc0_3
 clear hr0_3 hc0_3
 have HG := Aside0.mk hG
 clear hG
 have HR_ := Aside0.mk hr_
 clear hr_
 have HB := Aside0.mk (Below.refl w.heap.size w)
 have H : ((laws_szFigure.f a0_0 a0_1 l0_2 l0_3 1000000).bind fun t343 => (if t343 < 0 then (some true) else ((laws_toFigure.f a0_0 a0_1 l0_2 l0_3 false).bind fun bt344 => ((spec_TurnFigure.f k bt344.1 bt344.2.1 bt344.2.2.1 bt344.2.2.2).bind fun bt352 => ((laws_toFigure.f a0_0 a0_1 l0_2 l0_3 false).bind fun bt362 => ((impl_TurnFigure.f k bt362.1 bt362.2.1 bt362.2.2.1 bt362.2.2.2).bind fun bt371 => ((laws_eqFigure.f k bt371.1 bt371.2.1 bt371.2.2.1 bt371.2.2.2.1 bt352.1 bt352.2.1 bt352.2.2.1 bt352.2.2.2.1).bind fun t381 => (if t381 = true then (laws_FnExactTurnFigure.j0 k bt352.2.2.2.2 bt371.2.2.2.2 (bt371.2.2.2.2 != bt352.2.2.2.2) a0_0 a0_1 l0_2 l0_3 bt352.1 bt352.2.1 bt352.2.2.1 bt352.2.2.2.1 bt362.1 bt362.2.1 bt362.2.2.1 bt362.2.2.2 bt371.1 bt371.2.1 bt371.2.2.1 bt371.2.2.2.1) else (laws_FnExactTurnFigure.j0 k bt352.2.2.2.2 bt371.2.2.2.2 true a0_0 a0_1 l0_2 l0_3 bt352.1 bt352.2.1 bt352.2.2.1 bt352.2.2.2.1 bt362.1 bt362.2.1 bt362.2.2.1 bt362.2.2.2 bt371.1 bt371.2.1 bt371.2.2.1 bt371.2.2.2.1))))))))) = some r := h
 clear h
 replace H := Option.bind_eq_some_iff.mp H
 obtain ⟨t343, A20, H⟩ := H
 replace H : (if t343 < 0 then (some true) else ((laws_toFigure.f a0_0 a0_1 l0_2 l0_3 false).bind fun bt344 => ((spec_TurnFigure.f k bt344.1 bt344.2.1 bt344.2.2.1 bt344.2.2.2).bind fun bt352 => ((laws_toFigure.f a0_0 a0_1 l0_2 l0_3 false).bind fun bt362 => ((impl_TurnFigure.f k bt362.1 bt362.2.1 bt362.2.2.1 bt362.2.2.2).bind fun bt371 => ((laws_eqFigure.f k bt371.1 bt371.2.1 bt371.2.2.1 bt371.2.2.2.1 bt352.1 bt352.2.1 bt352.2.2.1 bt352.2.2.2.1).bind fun t381 => (if t381 = true then (laws_FnExactTurnFigure.j0 k bt352.2.2.2.2 bt371.2.2.2.2 (bt371.2.2.2.2 != bt352.2.2.2.2) a0_0 a0_1 l0_2 l0_3 bt352.1 bt352.2.1 bt352.2.2.1 bt352.2.2.2.1 bt362.1 bt362.2.1 bt362.2.2.1 bt362.2.2.2 bt371.1 bt371.2.1 bt371.2.2.1 bt371.2.2.2.1) else (laws_FnExactTurnFigure.j0 k bt352.2.2.2.2 bt371.2.2.2.2 true a0_0 a0_1 l0_2 l0_3 bt352.1 bt352.2.1 bt352.2.2.1 bt352.2.2.2.1 bt362.1 bt362.2.1 bt362.2.2.1 bt362.2.2.2 bt371.1 bt371.2.1 bt371.2.2.1 bt371.2.2.2.1)))))))) = some r := H
 have A2 := Aside0.mk A20
 clear A20
 by_cases c3 : t343 < 0
 ·rw [if_pos c3] at H
  have c3b0 : decide (t343 < 0) = true := decide_eq_true c3
  clear c3
  obtain rfl := Option.some.inj H
  go_enter Tryd.func8, Tryd.ntmps8
  go_wp2_with (first | ((with_reducible refine gate_dst (N := 1) rfl ?_); refine box_event ?hg (N := 1) ?hd (cs := #[.int .i64 a0_0, .int .i64 a0_1, .slice A0_2 l0_2.length c0_2, .slice A0_3 l0_3.length c0_3]) (t := 24) ?hr ?_; (case hd => rfl); (case hg => rfl); (case hr => first | (go_simp; done) | (go_simp; rfl)); intro gb342 hg w4 hbox hb; have n0_ := Aside0.mk (below_step (by repeat (first | (with_reducible first | exact HB.out | apply below_alloc | apply pw_below_drewN | apply below_drew1) | exact HB.out)) hb); have n1_ := Aside0.mk (hbox); have n2_ := Aside0.mk ((by rw [hg]; exact (below_size (by repeat (first | (with_reducible first | exact HB.out | apply below_alloc | apply pw_below_drewN | apply below_drew1) | exact HB.out))) : w.heap.size ≤ gb342)); have n3_ := Aside0.mk ((by rw [hg]; exact (below_size (by repeat (first | (with_reducible first | exact HB.out | apply below_alloc | apply pw_below_drewN | apply below_drew1) | exact HB.out))) : w.heap.size ≤ gb342)); clear HB; have HB := n0_; have BK342 := n1_; have GW342 := n2_; have GE342 := n3_; clear n0_ n1_ n2_ n3_; clear hb hbox hg; have hcz5_0 : w4.cell? ⟨gb342, 0, none⟩ = some (.int .i64 a0_0) := (blk_cell BK342.out 0).trans rfl; have hcz5_1 : w4.cell? ⟨gb342, 1, none⟩ = some (.int .i64 a0_1) := (blk_cell BK342.out 1).trans rfl; have hcz5_2 : w4.cell? ⟨gb342, 2, none⟩ = some (.slice A0_2 l0_2.length c0_2) := (blk_cell BK342.out 2).trans rfl; have hcz5_3 : w4.cell? ⟨gb342, 3, none⟩ = some (.slice A0_3 l0_3.length c0_3) := (blk_cell BK342.out 3).trans rfl; have hfz5_0 := blk_frozen BK342.out 0; have hfz5_1 := blk_frozen BK342.out 1; have hfz5_2 := blk_frozen BK342.out 2; have hfz5_3 := blk_frozen BK342.out 3) | ((with_reducible refine gate_callee (f := 10) rfl ?_); refine goesL_ (some 16) rfl rfl Tryd.func10 (by kernel_rfl) rfl #[.agg #[.int .i64 a0_0, .int .i64 a0_1, .slice A0_2 l0_2.length c0_2, .slice A0_3 l0_3.length c0_3], .int .i64 1000000] rfl (by (try simp only [List.map_toArray, List.map_cons, List.map_nil]); first | done | rfl | (simp only [List.length_drop, List.length_take]; rfl)) ?_; (with_reducible refine (laws_szFigure.calls a0_0 a0_1 _ _ l0_2 _ _ l0_3 1000000 t343 _ ?side1 ?side2 ?side3 ?side4 A2.out).mono ?_); (case side1 => repeat (first | exact (Kd.C_below HR0_2.out HB.out) | (with_reducible refine Kd.C_alloc ?_ _) | (with_reducible refine Kd.C_drewN ?_ _) | (with_reducible refine Kd.C_drew ?_))); (case side2 => exact HC0_2.out); (case side3 => repeat (first | exact (Kd.C_below HR0_3.out HB.out) | (with_reducible refine Kd.C_alloc ?_ _) | (with_reducible refine Kd.C_drewN ?_ _) | (with_reducible refine Kd.C_drew ?_))); (case side4 => exact HC0_3.out); rintro e w6 ⟨rfl, hb⟩; refine ⟨_, rfl, ?_⟩; have n0_ := Aside0.mk (blk_below (g := gb342) (o := .cells #[.int .i64 a0_0, .int .i64 a0_1, .slice A0_2 l0_2.length c0_2, .slice A0_3 l0_3.length c0_3] 24 (0, 0)) (by (with_reducible repeat (first | refine blk_drewN ?_ _ | refine blk_drew ?_ | refine blk_alloc ?_ _)); exact BK342.out) hb); have n1_ := Aside0.mk (below_step (by repeat (first | (with_reducible first | exact HB.out | apply below_alloc | apply pw_below_drewN | apply below_drew1 | refine below_set ?_ GE342.out) | exact HB.out)) hb); clear BK342; clear HB; have BK342 := n0_; have HB := n1_; clear n0_ n1_; (try clear hb); (try clear hb2); (try clear hk); (try clear hi)))
  go_ret
  exact ⟨by first | rfl | (simp [errW_none, errW_some] <;> rfl) | (simp [*, errW_none, errW_some] <;> rfl), by repeat (first | (with_reducible first | exact HB.out | apply below_alloc | apply pw_below_drewN | apply below_drew1 | refine below_set ?_ GE342.out) | exact HB.out)⟩
 ·rw [if_neg c3] at H
  have c3b0 : decide (t343 < 0) = false := decide_eq_false c3
  clear c3
  replace H := Option.bind_eq_some_iff.mp H
  obtain ⟨⟨t344, t345, t346, t349⟩, A70, H⟩ := H
  replace H : ((spec_TurnFigure.f k t344 t345 t346 t349).bind fun bt352 => ((laws_toFigure.f a0_0 a0_1 l0_2 l0_3 false).bind fun bt362 => ((impl_TurnFigure.f k bt362.1 bt362.2.1 bt362.2.2.1 bt362.2.2.2).bind fun bt371 => ((laws_eqFigure.f k bt371.1 bt371.2.1 bt371.2.2.1 bt371.2.2.2.1 bt352.1 bt352.2.1 bt352.2.2.1 bt352.2.2.2.1).bind fun t381 => (if t381 = true then (laws_FnExactTurnFigure.j0 k bt352.2.2.2.2 bt371.2.2.2.2 (bt371.2.2.2.2 != bt352.2.2.2.2) a0_0 a0_1 l0_2 l0_3 bt352.1 bt352.2.1 bt352.2.2.1 bt352.2.2.2.1 bt362.1 bt362.2.1 bt362.2.2.1 bt362.2.2.2 bt371.1 bt371.2.1 bt371.2.2.1 bt371.2.2.2.1) else (laws_FnExactTurnFigure.j0 k bt352.2.2.2.2 bt371.2.2.2.2 true a0_0 a0_1 l0_2 l0_3 bt352.1 bt352.2.1 bt352.2.2.1 bt352.2.2.2.1 bt362.1 bt362.2.1 bt362.2.2.1 bt362.2.2.2 bt371.1 bt371.2.1 bt371.2.2.1 bt371.2.2.2.1)))))) = some r := H
  have A7 := Aside0.mk A70
  clear A70
  replace H := Option.bind_eq_some_iff.mp H
  obtain ⟨⟨t352, t353, t354, t357, t360⟩, A80, H⟩ := H
  replace H : ((laws_toFigure.f a0_0 a0_1 l0_2 l0_3 false).bind fun bt362 => ((impl_TurnFigure.f k bt362.1 bt362.2.1 bt362.2.2.1 bt362.2.2.2).bind fun bt371 => ((laws_eqFigure.f k bt371.1 bt371.2.1 bt371.2.2.1 bt371.2.2.2.1 t352 t353 t354 t357).bind fun t381 => (if t381 = true then (laws_FnExactTurnFigure.j0 k t360 bt371.2.2.2.2 (bt371.2.2.2.2 != t360) a0_0 a0_1 l0_2 l0_3 t352 t353 t354 t357 bt362.1 bt362.2.1 bt362.2.2.1 bt362.2.2.2 bt371.1 bt371.2.1 bt371.2.2.1 bt371.2.2.2.1) else (laws_FnExactTurnFigure.j0 k t360 bt371.2.2.2.2 true a0_0 a0_1 l0_2 l0_3 t352 t353 t354 t357 bt362.1 bt362.2.1 bt362.2.2.1 bt362.2.2.2 bt371.1 bt371.2.1 bt371.2.2.1 bt371.2.2.2.1))))) = some r := H
  have A8 := Aside0.mk A80
  clear A80
  replace H := Option.bind_eq_some_iff.mp H
  obtain ⟨⟨t362, t363, t364, t367⟩, A90, H⟩ := H
  replace H : ((impl_TurnFigure.f k t362 t363 t364 t367).bind fun bt371 => ((laws_eqFigure.f k bt371.1 bt371.2.1 bt371.2.2.1 bt371.2.2.2.1 t352 t353 t354 t357).bind fun t381 => (if t381 = true then (laws_FnExactTurnFigure.j0 k t360 bt371.2.2.2.2 (bt371.2.2.2.2 != t360) a0_0 a0_1 l0_2 l0_3 t352 t353 t354 t357 t362 t363 t364 t367 bt371.1 bt371.2.1 bt371.2.2.1 bt371.2.2.2.1) else (laws_FnExactTurnFigure.j0 k t360 bt371.2.2.2.2 true a0_0 a0_1 l0_2 l0_3 t352 t353 t354 t357 t362 t363 t364 t367 bt371.1 bt371.2.1 bt371.2.2.1 bt371.2.2.2.1)))) = some r := H
  have A9 := Aside0.mk A90
  clear A90
  replace H := Option.bind_eq_some_iff.mp H
  obtain ⟨⟨t371, t372, t373, t376, t379⟩, A100, H⟩ := H
  replace H : ((laws_eqFigure.f k t371 t372 t373 t376 t352 t353 t354 t357).bind fun t381 => (if t381 = true then (laws_FnExactTurnFigure.j0 k t360 t379 (t379 != t360) a0_0 a0_1 l0_2 l0_3 t352 t353 t354 t357 t362 t363 t364 t367 t371 t372 t373 t376) else (laws_FnExactTurnFigure.j0 k t360 t379 true a0_0 a0_1 l0_2 l0_3 t352 t353 t354 t357 t362 t363 t364 t367 t371 t372 t373 t376))) = some r := H
  have A10 := Aside0.mk A100
  clear A100
  have HC11 := Aside0.mk H
  clear H
  go_enter Tryd.func8, Tryd.ntmps8
  go_upto_region 8 with (first | ((with_reducible refine gate_dst (N := 1) rfl ?_); refine box_event ?hg (N := 1) ?hd (cs := #[.int .i64 a0_0, .int .i64 a0_1, .slice A0_2 l0_2.length c0_2, .slice A0_3 l0_3.length c0_3]) (t := 24) ?hr ?_; (case hd => rfl); (case hg => rfl); (case hr => first | (go_simp; done) | (go_simp; rfl)); intro gb342 hg w12 hbox hb; have n0_ := Aside0.mk (below_step (by repeat (first | (with_reducible first | exact HB.out | apply below_alloc | apply pw_below_drewN | apply below_drew1) | exact HB.out)) hb); have n1_ := Aside0.mk (hbox); have n2_ := Aside0.mk ((by rw [hg]; exact (below_size (by repeat (first | (with_reducible first | exact HB.out | apply below_alloc | apply pw_below_drewN | apply below_drew1) | exact HB.out))) : w.heap.size ≤ gb342)); have n3_ := Aside0.mk ((by rw [hg]; exact (below_size (by repeat (first | (with_reducible first | exact HB.out | apply below_alloc | apply pw_below_drewN | apply below_drew1) | exact HB.out))) : w.heap.size ≤ gb342)); clear HB; have HB := n0_; have BK342 := n1_; have GW342 := n2_; have GE342 := n3_; clear n0_ n1_ n2_ n3_; clear hb hbox hg; have hcz13_0 : w12.cell? ⟨gb342, 0, none⟩ = some (.int .i64 a0_0) := (blk_cell BK342.out 0).trans rfl; have hcz13_1 : w12.cell? ⟨gb342, 1, none⟩ = some (.int .i64 a0_1) := (blk_cell BK342.out 1).trans rfl; have hcz13_2 : w12.cell? ⟨gb342, 2, none⟩ = some (.slice A0_2 l0_2.length c0_2) := (blk_cell BK342.out 2).trans rfl; have hcz13_3 : w12.cell? ⟨gb342, 3, none⟩ = some (.slice A0_3 l0_3.length c0_3) := (blk_cell BK342.out 3).trans rfl; have hfz13_0 := blk_frozen BK342.out 0; have hfz13_1 := blk_frozen BK342.out 1; have hfz13_2 := blk_frozen BK342.out 2; have hfz13_3 := blk_frozen BK342.out 3) | ((with_reducible refine gate_callee (f := 10) rfl ?_); refine goesL_ (some 16) rfl rfl Tryd.func10 (by kernel_rfl) rfl #[.agg #[.int .i64 a0_0, .int .i64 a0_1, .slice A0_2 l0_2.length c0_2, .slice A0_3 l0_3.length c0_3], .int .i64 1000000] rfl (by (try simp only [List.map_toArray, List.map_cons, List.map_nil]); first | done | rfl | (simp only [List.length_drop, List.length_take]; rfl)) ?_; (with_reducible refine (laws_szFigure.calls a0_0 a0_1 _ _ l0_2 _ _ l0_3 1000000 t343 _ ?side1 ?side2 ?side3 ?side4 A2.out).mono ?_); (case side1 => repeat (first | exact (Kd.C_below HR0_2.out HB.out) | (with_reducible refine Kd.C_alloc ?_ _) | (with_reducible refine Kd.C_drewN ?_ _) | (with_reducible refine Kd.C_drew ?_))); (case side2 => exact HC0_2.out); (case side3 => repeat (first | exact (Kd.C_below HR0_3.out HB.out) | (with_reducible refine Kd.C_alloc ?_ _) | (with_reducible refine Kd.C_drewN ?_ _) | (with_reducible refine Kd.C_drew ?_))); (case side4 => exact HC0_3.out); rintro e w14 ⟨rfl, hb⟩; refine ⟨_, rfl, ?_⟩; have n0_ := Aside0.mk (blk_below (g := gb342) (o := .cells #[.int .i64 a0_0, .int .i64 a0_1, .slice A0_2 l0_2.length c0_2, .slice A0_3 l0_3.length c0_3] 24 (0, 0)) (by (with_reducible repeat (first | refine blk_drewN ?_ _ | refine blk_drew ?_ | refine blk_alloc ?_ _)); exact BK342.out) hb); have n1_ := Aside0.mk (below_step (by repeat (first | (with_reducible first | exact HB.out | apply below_alloc | apply pw_below_drewN | apply below_drew1 | refine below_set ?_ GE342.out) | exact HB.out)) hb); clear BK342; clear HB; have BK342 := n0_; have HB := n1_; clear n0_ n1_; (try clear hb); (try clear hb2); (try clear hk); (try clear hi); have hcz15_0 : w14.cell? ⟨gb342, 0, none⟩ = some (.int .i64 a0_0) := (blk_cell BK342.out 0).trans rfl; have hcz15_1 : w14.cell? ⟨gb342, 1, none⟩ = some (.int .i64 a0_1) := (blk_cell BK342.out 1).trans rfl; have hcz15_2 : w14.cell? ⟨gb342, 2, none⟩ = some (.slice A0_2 l0_2.length c0_2) := (blk_cell BK342.out 2).trans rfl; have hcz15_3 : w14.cell? ⟨gb342, 3, none⟩ = some (.slice A0_3 l0_3.length c0_3) := (blk_cell BK342.out 3).trans rfl; have hfz15_0 := blk_frozen BK342.out 0; have hfz15_1 := blk_frozen BK342.out 1; have hfz15_2 := blk_frozen BK342.out 2; have hfz15_3 := blk_frozen BK342.out 3) | ((with_reducible refine gate_callee (f := 12) rfl ?_); refine goesL_ (some 21) rfl rfl Tryd.func12 (by kernel_rfl) rfl #[.agg #[.int .i64 a0_0, .int .i64 a0_1, .slice A0_2 l0_2.length c0_2, .slice A0_3 l0_3.length c0_3], .bool false] rfl (by (try simp only [List.map_toArray, List.map_cons, List.map_nil]); first | done | rfl | (simp only [List.length_drop, List.length_take]; rfl)) ?_; (with_reducible refine (laws_toFigure.calls a0_0 a0_1 _ _ l0_2 _ _ l0_3 false t344 t345 t346 t349 _ ?side1 ?side2 ?side3 ?side4 A7.out).mono ?_); (case side1 => repeat (first | exact (Kd.C_below HR0_2.out HB.out) | (with_reducible refine Kd.C_alloc ?_ _) | (with_reducible refine Kd.C_drewN ?_ _) | (with_reducible refine Kd.C_drew ?_))); (case side2 => exact HC0_2.out); (case side3 => repeat (first | exact (Kd.C_below HR0_3.out HB.out) | (with_reducible refine Kd.C_alloc ?_ _) | (with_reducible refine Kd.C_drewN ?_ _) | (with_reducible refine Kd.C_drew ?_))); (case side4 => exact HC0_3.out); rintro e w16 ⟨v347, v350, rfl, ho0, ho1, hb⟩; refine ⟨_, rfl, ?_⟩; have n0_ := Aside0.mk (Kd.PB_lower ho0 (below_size (by repeat (first | (with_reducible first | exact HB.out | apply below_alloc | apply pw_below_drewN | apply below_drew1 | refine below_set ?_ GE342.out) | exact HB.out)))); have n1_ := Aside0.mk (Kd.PB_lower ho1 (below_size (by repeat (first | (with_reducible first | exact HB.out | apply below_alloc | apply pw_below_drewN | apply below_drew1 | refine below_set ?_ GE342.out) | exact HB.out)))); have n2_ := Aside0.mk (blk_below (g := gb342) (o := .cells #[.int .i64 a0_0, .int .i64 a0_1, .slice A0_2 l0_2.length c0_2, .slice A0_3 l0_3.length c0_3] 24 (0, 0)) (by (with_reducible repeat (first | refine blk_drewN ?_ _ | refine blk_drew ?_ | refine blk_alloc ?_ _)); exact BK342.out) hb); have n3_ := Aside0.mk (below_step (by repeat (first | (with_reducible first | exact HB.out | apply below_alloc | apply pw_below_drewN | apply below_drew1 | refine below_set ?_ GE342.out) | exact HB.out)) hb); clear BK342; clear HB; have HO348 := n0_; have HO351 := n1_; have BK342 := n2_; have HB := n3_; clear n0_ n1_ n2_ n3_; (try clear hb); (try clear hb2); (try clear hk); (try clear hi); (try clear ho0); (try clear ho1); obtain ⟨Ao17, co17, eo17⟩ := Kd.PB_slice HO348.out; subst eo17; obtain ⟨Ao18, co18, eo18⟩ := Kd.PB_slice HO351.out; subst eo18) | ((with_reducible refine gate_callee (f := 29) rfl ?_); refine goesL_ (some 22) rfl rfl Tryd.func29 (by kernel_rfl) rfl #[.agg #[.int .i64 t344, .int .i64 t345, .slice Ao17 t346.length co17, .slice Ao18 t349.length co18]] rfl (by (try simp only [List.map_toArray, List.map_cons, List.map_nil]); first | done | rfl | (simp only [List.length_drop, List.length_take]; rfl)) ?_; (with_reducible refine (spec_TurnFigure.calls k t344 t345 _ _ t346 _ _ t349 t352 t353 t354 t357 t360 _ ?side1 ?side2 ?side3 ?side4 A8.out).mono ?_); (case side1 => repeat (first | exact (Kd.PB_reads' HO348.out).2.2 | (with_reducible refine Kd.C_alloc ?_ _) | (with_reducible refine Kd.C_drewN ?_ _) | (with_reducible refine Kd.C_drew ?_))); (case side2 => exact (Kd.PB_reads' HO348.out).2.1); (case side3 => repeat (first | exact (Kd.PB_reads' HO351.out).2.2 | (with_reducible refine Kd.C_alloc ?_ _) | (with_reducible refine Kd.C_drewN ?_ _) | (with_reducible refine Kd.C_drew ?_))); (case side4 => exact (Kd.PB_reads' HO351.out).2.1); rintro e w19 ⟨v355, v358, rfl, ho0, ho1, hb⟩; refine ⟨_, rfl, ?_⟩; have n0_ := Aside0.mk (Kd.PB_mono (Kd.PB_told (Kd.PB_told (Kd.PB_old (by (with_reducible repeat (first | apply Kd.PB_alloc | apply Kd.PB_drewN | apply Kd.PB_drew)); exact HO348.out) hb) (Kd.R_base ho0)) (Kd.R_base ho1)) (fun _ h_ => h_.1)); have n1_ := Aside0.mk (Kd.PB_mono (Kd.PB_told (Kd.PB_told (Kd.PB_old (by (with_reducible repeat (first | apply Kd.PB_alloc | apply Kd.PB_drewN | apply Kd.PB_drew)); exact HO351.out) hb) (Kd.R_base ho0)) (Kd.R_base ho1)) (fun _ h_ => h_.1)); have n2_ := Aside0.mk (Kd.R_lower (Kd.R_new' (Kd.R_new' ho0 (Kd.PB_lt (by (with_reducible repeat (first | apply Kd.PB_alloc | apply Kd.PB_drewN | apply Kd.PB_drew)); exact HO348.out))) (Kd.PB_lt (by (with_reducible repeat (first | apply Kd.PB_alloc | apply Kd.PB_drewN | apply Kd.PB_drew)); exact HO351.out))) (below_size (by repeat (first | (with_reducible first | exact HB.out | apply below_alloc | apply pw_below_drewN | apply below_drew1 | refine below_set ?_ GE342.out) | exact HB.out)))); have n3_ := Aside0.mk (Kd.R_lower (Kd.R_new' (Kd.R_new' ho1 (Kd.PB_lt (by (with_reducible repeat (first | apply Kd.PB_alloc | apply Kd.PB_drewN | apply Kd.PB_drew)); exact HO348.out))) (Kd.PB_lt (by (with_reducible repeat (first | apply Kd.PB_alloc | apply Kd.PB_drewN | apply Kd.PB_drew)); exact HO351.out))) (below_size (by repeat (first | (with_reducible first | exact HB.out | apply below_alloc | apply pw_below_drewN | apply below_drew1 | refine below_set ?_ GE342.out) | exact HB.out)))); have n4_ := Aside0.mk (blk_below (g := gb342) (o := .cells #[.int .i64 a0_0, .int .i64 a0_1, .slice A0_2 l0_2.length c0_2, .slice A0_3 l0_3.length c0_3] 24 (0, 0)) (by (with_reducible repeat (first | refine blk_drewN ?_ _ | refine blk_drew ?_ | refine blk_alloc ?_ _)); exact BK342.out) hb); have n5_ := Aside0.mk (below_step (by repeat (first | (with_reducible first | exact HB.out | apply below_alloc | apply pw_below_drewN | apply below_drew1 | refine below_set ?_ GE342.out) | exact HB.out)) hb); clear HO348; clear HO351; clear BK342; clear HB; have HO348 := n0_; have HO351 := n1_; have HO356 := n2_; have HO359 := n3_; have BK342 := n4_; have HB := n5_; clear n0_ n1_ n2_ n3_ n4_ n5_; (try clear hb); (try clear hb2); (try clear hk); (try clear hi); (try clear ho0); (try clear ho1)) | ((with_reducible refine gate_dst (N := 4) rfl ?_); refine box_event ?hg (N := 4) ?hd (cs := #[.int .i64 0, .int .i64 0, .slice none 0 0, .slice none 0 0]) (t := 26) ?hr ?_; (case hd => rfl); (case hg => rfl); (case hr => first | (go_simp; done) | (go_simp; rfl)); intro gb361 hg w20 hbox hb; have n0_ := Aside0.mk (Kd.PB_below (by (with_reducible repeat (first | apply Kd.PB_alloc | apply Kd.PB_drewN | apply Kd.PB_drew)); exact HO348.out) hb); have n1_ := Aside0.mk (Kd.PB_below (by (with_reducible repeat (first | apply Kd.PB_alloc | apply Kd.PB_drewN | apply Kd.PB_drew)); exact HO351.out) hb); have n2_ := Aside0.mk (Kd.R_below (by (with_reducible repeat (first | apply Kd.R_alloc | apply Kd.R_drewN | apply Kd.R_drew)); exact HO356.out) hb); have n3_ := Aside0.mk (Kd.R_below (by (with_reducible repeat (first | apply Kd.R_alloc | apply Kd.R_drewN | apply Kd.R_drew)); exact HO359.out) hb); have n4_ := Aside0.mk (blk_below (g := gb342) (o := .cells #[.int .i64 a0_0, .int .i64 a0_1, .slice A0_2 l0_2.length c0_2, .slice A0_3 l0_3.length c0_3] 24 (0, 0)) (by (with_reducible repeat (first | refine blk_drewN ?_ _ | refine blk_drew ?_ | refine blk_alloc ?_ _)); exact BK342.out) hb); have n5_ := Aside0.mk (below_step (by repeat (first | (with_reducible first | exact HB.out | apply below_alloc | apply pw_below_drewN | apply below_drew1 | refine below_set ?_ GE342.out) | exact HB.out)) hb); have n6_ := Aside0.mk (hbox); have n7_ := Aside0.mk ((by rw [hg]; exact (below_size (by repeat (first | (with_reducible first | exact HB.out | apply below_alloc | apply pw_below_drewN | apply below_drew1 | refine below_set ?_ GE342.out) | exact HB.out))) : w.heap.size ≤ gb361)); have n8_ := Aside0.mk ((by rw [hg]; exact (below_size (by repeat (first | (with_reducible first | exact HB.out | apply below_alloc | apply pw_below_drewN | apply below_drew1 | refine below_set ?_ GE342.out) | exact HB.out))) : w.heap.size ≤ gb361)); have n9_ := Aside0.mk ((by rw [hg]; exact Nat.ne_of_lt (blk_lt (g := gb342) (o := .cells #[.int .i64 a0_0, .int .i64 a0_1, .slice A0_2 l0_2.length c0_2, .slice A0_3 l0_3.length c0_3] 24 (0, 0)) (by (with_reducible repeat (first | refine blk_drewN ?_ _ | refine blk_drew ?_ | refine blk_alloc ?_ _)); exact BK342.out)) : gb342 ≠ gb361)); have n10_ := Aside0.mk ((by rw [hg]; exact Nat.ne_of_gt (blk_lt (g := gb342) (o := .cells #[.int .i64 a0_0, .int .i64 a0_1, .slice A0_2 l0_2.length c0_2, .slice A0_3 l0_3.length c0_3] 24 (0, 0)) (by (with_reducible repeat (first | refine blk_drewN ?_ _ | refine blk_drew ?_ | refine blk_alloc ?_ _)); exact BK342.out)) : gb361 ≠ gb342)); clear HO348; clear HO351; clear HO356; clear HO359; clear BK342; clear HB; have HO348 := n0_; have HO351 := n1_; have HO356 := n2_; have HO359 := n3_; have BK342 := n4_; have HB := n5_; have BK361 := n6_; have GW361 := n7_; have GE361 := n8_; have NB342_361 := n9_; have NB361_342 := n10_; clear n0_ n1_ n2_ n3_ n4_ n5_ n6_ n7_ n8_ n9_ n10_; clear hb hbox hg; have hnb21 := NB361_342.out; have hnc21 := NB342_361.out; have hcz22_0 : w20.cell? ⟨gb361, 0, none⟩ = some (.int .i64 0) := (blk_cell BK361.out 0).trans rfl; have hcz22_1 : w20.cell? ⟨gb361, 1, none⟩ = some (.int .i64 0) := (blk_cell BK361.out 1).trans rfl; have hcz22_2 : w20.cell? ⟨gb361, 2, none⟩ = some (.slice none 0 0) := (blk_cell BK361.out 2).trans rfl; have hcz22_3 : w20.cell? ⟨gb361, 3, none⟩ = some (.slice none 0 0) := (blk_cell BK361.out 3).trans rfl; have hfz22_0 := blk_frozen BK361.out 0; have hfz22_1 := blk_frozen BK361.out 1; have hfz22_2 := blk_frozen BK361.out 2; have hfz22_3 := blk_frozen BK361.out 3; obtain ⟨Ao23, co23, eo23⟩ := Kd.R_slice HO356.out; subst eo23; obtain ⟨Ao24, co24, eo24⟩ := Kd.R_slice HO359.out; subst eo24; have hcz25_0 : w20.cell? ⟨gb342, 0, none⟩ = some (.int .i64 a0_0) := (blk_cell BK342.out 0).trans rfl; have hcz25_1 : w20.cell? ⟨gb342, 1, none⟩ = some (.int .i64 a0_1) := (blk_cell BK342.out 1).trans rfl; have hcz25_2 : w20.cell? ⟨gb342, 2, none⟩ = some (.slice A0_2 l0_2.length c0_2) := (blk_cell BK342.out 2).trans rfl; have hcz25_3 : w20.cell? ⟨gb342, 3, none⟩ = some (.slice A0_3 l0_3.length c0_3) := (blk_cell BK342.out 3).trans rfl; have hfz25_0 := blk_frozen BK342.out 0; have hfz25_1 := blk_frozen BK342.out 1; have hfz25_2 := blk_frozen BK342.out 2; have hfz25_3 := blk_frozen BK342.out 3) | ((with_reducible refine gate_callee (f := 12) rfl ?_); refine goesL_ (some 26) rfl rfl Tryd.func12 (by kernel_rfl) rfl #[.agg #[.int .i64 a0_0, .int .i64 a0_1, .slice A0_2 l0_2.length c0_2, .slice A0_3 l0_3.length c0_3], .bool false] rfl (by (try simp only [List.map_toArray, List.map_cons, List.map_nil]); first | done | rfl | (simp only [List.length_drop, List.length_take]; rfl)) ?_; (with_reducible refine (laws_toFigure.calls a0_0 a0_1 _ _ l0_2 _ _ l0_3 false t362 t363 t364 t367 _ ?side1 ?side2 ?side3 ?side4 A9.out).mono ?_); (case side1 => exact Kd.C_below HR0_2.out (by repeat (first | (with_reducible first | exact HB.out | apply below_alloc | apply pw_below_drewN | apply below_drew1 | refine below_set ?_ GE342.out | refine below_set ?_ GE361.out) | exact HB.out))); (case side2 => exact HC0_2.out); (case side3 => exact Kd.C_below HR0_3.out (by repeat (first | (with_reducible first | exact HB.out | apply below_alloc | apply pw_below_drewN | apply below_drew1 | refine below_set ?_ GE342.out | refine below_set ?_ GE361.out) | exact HB.out))); (case side4 => exact HC0_3.out); rintro e w26 ⟨v365, v368, rfl, ho0, ho1, hb⟩; refine ⟨_, rfl, ?_⟩; have n0_ := Aside0.mk (Kd.PB_mono (Kd.PB_told (Kd.PB_told (Kd.PB_old (by (with_reducible repeat (first | apply Kd.PB_alloc | apply Kd.PB_drewN | apply Kd.PB_drew)); exact (Kd.PB_mono (Kd.PB_far (p := ⟨gb361, 3, none⟩) (Kd.PB_far (p := ⟨gb361, 2, none⟩) (Kd.PB_far (p := ⟨gb361, 1, none⟩) (Kd.PB_far (p := ⟨gb361, 0, none⟩) (Kd.PB_types HO348.out BK361.out (by decide)) (fun _ hk => hk.2) (.int .i64 t352)) (fun _ hk => hk.2) (.int .i64 t353)) (fun _ hk => hk.2) (.slice Ao23 t354.length co23)) (fun _ hk => hk.2) (.slice Ao24 t357.length co24)) (fun _ h_ => h_.1))) hb) (Kd.PB_base ho0)) (Kd.PB_base ho1)) (fun _ h_ => h_.1)); have n1_ := Aside0.mk (Kd.PB_mono (Kd.PB_told (Kd.PB_told (Kd.PB_old (by (with_reducible repeat (first | apply Kd.PB_alloc | apply Kd.PB_drewN | apply Kd.PB_drew)); exact (Kd.PB_mono (Kd.PB_far (p := ⟨gb361, 3, none⟩) (Kd.PB_far (p := ⟨gb361, 2, none⟩) (Kd.PB_far (p := ⟨gb361, 1, none⟩) (Kd.PB_far (p := ⟨gb361, 0, none⟩) (Kd.PB_types HO351.out BK361.out (by decide)) (fun _ hk => hk.2) (.int .i64 t352)) (fun _ hk => hk.2) (.int .i64 t353)) (fun _ hk => hk.2) (.slice Ao23 t354.length co23)) (fun _ hk => hk.2) (.slice Ao24 t357.length co24)) (fun _ h_ => h_.1))) hb) (Kd.PB_base ho0)) (Kd.PB_base ho1)) (fun _ h_ => h_.1)); have n2_ := Aside0.mk (Kd.R_mono (Kd.R_told (Kd.R_told (Kd.R_old (by (with_reducible repeat (first | apply Kd.R_alloc | apply Kd.R_drewN | apply Kd.R_drew)); exact (Kd.R_mono (Kd.R_far (p := ⟨gb361, 3, none⟩) (Kd.R_far (p := ⟨gb361, 2, none⟩) (Kd.R_far (p := ⟨gb361, 1, none⟩) (Kd.R_far (p := ⟨gb361, 0, none⟩) (Kd.R_types HO356.out BK361.out (by decide)) (fun _ hk => hk.2) (.int .i64 t352)) (fun _ hk => hk.2) (.int .i64 t353)) (fun _ hk => hk.2) (.slice Ao23 t354.length co23)) (fun _ hk => hk.2) (.slice Ao24 t357.length co24)) (fun _ h_ => h_.1))) hb) (Kd.PB_base ho0)) (Kd.PB_base ho1)) (fun _ h_ => h_.1)); have n3_ := Aside0.mk (Kd.R_mono (Kd.R_told (Kd.R_told (Kd.R_old (by (with_reducible repeat (first | apply Kd.R_alloc | apply Kd.R_drewN | apply Kd.R_drew)); exact (Kd.R_mono (Kd.R_far (p := ⟨gb361, 3, none⟩) (Kd.R_far (p := ⟨gb361, 2, none⟩) (Kd.R_far (p := ⟨gb361, 1, none⟩) (Kd.R_far (p := ⟨gb361, 0, none⟩) (Kd.R_types HO359.out BK361.out (by decide)) (fun _ hk => hk.2) (.int .i64 t352)) (fun _ hk => hk.2) (.int .i64 t353)) (fun _ hk => hk.2) (.slice Ao23 t354.length co23)) (fun _ hk => hk.2) (.slice Ao24 t357.length co24)) (fun _ h_ => h_.1))) hb) (Kd.PB_base ho0)) (Kd.PB_base ho1)) (fun _ h_ => h_.1)); have n4_ := Aside0.mk (Kd.PB_lower (Kd.PB_new' (Kd.PB_new' (Kd.PB_new' (Kd.PB_new' ho0 (Kd.PB_lt (by (with_reducible repeat (first | apply Kd.PB_alloc | apply Kd.PB_drewN | apply Kd.PB_drew)); exact (Kd.PB_mono (Kd.PB_far (p := ⟨gb361, 3, none⟩) (Kd.PB_far (p := ⟨gb361, 2, none⟩) (Kd.PB_far (p := ⟨gb361, 1, none⟩) (Kd.PB_far (p := ⟨gb361, 0, none⟩) (Kd.PB_types HO348.out BK361.out (by decide)) (fun _ hk => hk.2) (.int .i64 t352)) (fun _ hk => hk.2) (.int .i64 t353)) (fun _ hk => hk.2) (.slice Ao23 t354.length co23)) (fun _ hk => hk.2) (.slice Ao24 t357.length co24)) (fun _ h_ => h_.1))))) (Kd.PB_lt (by (with_reducible repeat (first | apply Kd.PB_alloc | apply Kd.PB_drewN | apply Kd.PB_drew)); exact (Kd.PB_mono (Kd.PB_far (p := ⟨gb361, 3, none⟩) (Kd.PB_far (p := ⟨gb361, 2, none⟩) (Kd.PB_far (p := ⟨gb361, 1, none⟩) (Kd.PB_far (p := ⟨gb361, 0, none⟩) (Kd.PB_types HO351.out BK361.out (by decide)) (fun _ hk => hk.2) (.int .i64 t352)) (fun _ hk => hk.2) (.int .i64 t353)) (fun _ hk => hk.2) (.slice Ao23 t354.length co23)) (fun _ hk => hk.2) (.slice Ao24 t357.length co24)) (fun _ h_ => h_.1))))) (Kd.R_lt (by (with_reducible repeat (first | apply Kd.R_alloc | apply Kd.R_drewN | apply Kd.R_drew)); exact (Kd.R_mono (Kd.R_far (p := ⟨gb361, 3, none⟩) (Kd.R_far (p := ⟨gb361, 2, none⟩) (Kd.R_far (p := ⟨gb361, 1, none⟩) (Kd.R_far (p := ⟨gb361, 0, none⟩) (Kd.R_types HO356.out BK361.out (by decide)) (fun _ hk => hk.2) (.int .i64 t352)) (fun _ hk => hk.2) (.int .i64 t353)) (fun _ hk => hk.2) (.slice Ao23 t354.length co23)) (fun _ hk => hk.2) (.slice Ao24 t357.length co24)) (fun _ h_ => h_.1))))) (Kd.R_lt (by (with_reducible repeat (first | apply Kd.R_alloc | apply Kd.R_drewN | apply Kd.R_drew)); exact (Kd.R_mono (Kd.R_far (p := ⟨gb361, 3, none⟩) (Kd.R_far (p := ⟨gb361, 2, none⟩) (Kd.R_far (p := ⟨gb361, 1, none⟩) (Kd.R_far (p := ⟨gb361, 0, none⟩) (Kd.R_types HO359.out BK361.out (by decide)) (fun _ hk => hk.2) (.int .i64 t352)) (fun _ hk => hk.2) (.int .i64 t353)) (fun _ hk => hk.2) (.slice Ao23 t354.length co23)) (fun _ hk => hk.2) (.slice Ao24 t357.length co24)) (fun _ h_ => h_.1))))) (below_size (by repeat (first | (with_reducible first | exact HB.out | apply below_alloc | apply pw_below_drewN | apply below_drew1 | refine below_set ?_ GE342.out | refine below_set ?_ GE361.out) | exact HB.out)))); have n5_ := Aside0.mk (Kd.PB_lower (Kd.PB_new' (Kd.PB_new' (Kd.PB_new' (Kd.PB_new' ho1 (Kd.PB_lt (by (with_reducible repeat (first | apply Kd.PB_alloc | apply Kd.PB_drewN | apply Kd.PB_drew)); exact (Kd.PB_mono (Kd.PB_far (p := ⟨gb361, 3, none⟩) (Kd.PB_far (p := ⟨gb361, 2, none⟩) (Kd.PB_far (p := ⟨gb361, 1, none⟩) (Kd.PB_far (p := ⟨gb361, 0, none⟩) (Kd.PB_types HO348.out BK361.out (by decide)) (fun _ hk => hk.2) (.int .i64 t352)) (fun _ hk => hk.2) (.int .i64 t353)) (fun _ hk => hk.2) (.slice Ao23 t354.length co23)) (fun _ hk => hk.2) (.slice Ao24 t357.length co24)) (fun _ h_ => h_.1))))) (Kd.PB_lt (by (with_reducible repeat (first | apply Kd.PB_alloc | apply Kd.PB_drewN | apply Kd.PB_drew)); exact (Kd.PB_mono (Kd.PB_far (p := ⟨gb361, 3, none⟩) (Kd.PB_far (p := ⟨gb361, 2, none⟩) (Kd.PB_far (p := ⟨gb361, 1, none⟩) (Kd.PB_far (p := ⟨gb361, 0, none⟩) (Kd.PB_types HO351.out BK361.out (by decide)) (fun _ hk => hk.2) (.int .i64 t352)) (fun _ hk => hk.2) (.int .i64 t353)) (fun _ hk => hk.2) (.slice Ao23 t354.length co23)) (fun _ hk => hk.2) (.slice Ao24 t357.length co24)) (fun _ h_ => h_.1))))) (Kd.R_lt (by (with_reducible repeat (first | apply Kd.R_alloc | apply Kd.R_drewN | apply Kd.R_drew)); exact (Kd.R_mono (Kd.R_far (p := ⟨gb361, 3, none⟩) (Kd.R_far (p := ⟨gb361, 2, none⟩) (Kd.R_far (p := ⟨gb361, 1, none⟩) (Kd.R_far (p := ⟨gb361, 0, none⟩) (Kd.R_types HO356.out BK361.out (by decide)) (fun _ hk => hk.2) (.int .i64 t352)) (fun _ hk => hk.2) (.int .i64 t353)) (fun _ hk => hk.2) (.slice Ao23 t354.length co23)) (fun _ hk => hk.2) (.slice Ao24 t357.length co24)) (fun _ h_ => h_.1))))) (Kd.R_lt (by (with_reducible repeat (first | apply Kd.R_alloc | apply Kd.R_drewN | apply Kd.R_drew)); exact (Kd.R_mono (Kd.R_far (p := ⟨gb361, 3, none⟩) (Kd.R_far (p := ⟨gb361, 2, none⟩) (Kd.R_far (p := ⟨gb361, 1, none⟩) (Kd.R_far (p := ⟨gb361, 0, none⟩) (Kd.R_types HO359.out BK361.out (by decide)) (fun _ hk => hk.2) (.int .i64 t352)) (fun _ hk => hk.2) (.int .i64 t353)) (fun _ hk => hk.2) (.slice Ao23 t354.length co23)) (fun _ hk => hk.2) (.slice Ao24 t357.length co24)) (fun _ h_ => h_.1))))) (below_size (by repeat (first | (with_reducible first | exact HB.out | apply below_alloc | apply pw_below_drewN | apply below_drew1 | refine below_set ?_ GE342.out | refine below_set ?_ GE361.out) | exact HB.out)))); have n6_ := Aside0.mk (blk_below (g := gb342) (o := .cells #[.int .i64 a0_0, .int .i64 a0_1, .slice A0_2 l0_2.length c0_2, .slice A0_3 l0_3.length c0_3] 24 (0, 0)) (by (with_reducible repeat (first | refine blk_drewN ?_ _ | refine blk_drew ?_ | refine blk_alloc ?_ _)); refine blk_far ?_ NB342_361.out _; (with_reducible repeat (first | refine blk_drewN ?_ _ | refine blk_drew ?_ | refine blk_alloc ?_ _)); refine blk_far ?_ NB342_361.out _; (with_reducible repeat (first | refine blk_drewN ?_ _ | refine blk_drew ?_ | refine blk_alloc ?_ _)); refine blk_far ?_ NB342_361.out _; (with_reducible repeat (first | refine blk_drewN ?_ _ | refine blk_drew ?_ | refine blk_alloc ?_ _)); refine blk_far ?_ NB342_361.out _; (with_reducible repeat (first | refine blk_drewN ?_ _ | refine blk_drew ?_ | refine blk_alloc ?_ _)); exact BK342.out) hb); have n7_ := Aside0.mk (blk_below (g := gb361) (o := .cells #[.int .i64 t352, .int .i64 t353, .slice Ao23 t354.length co23, .slice Ao24 t357.length co24] 26 (0, 0)) (by (with_reducible repeat (first | refine blk_drewN ?_ _ | refine blk_drew ?_ | refine blk_alloc ?_ _)); refine blk_put (cs := #[.int .i64 t352, .int .i64 t353, .slice Ao23 t354.length co23, .slice none 0 0]) ?_ 3 _ rfl; (with_reducible repeat (first | refine blk_drewN ?_ _ | refine blk_drew ?_ | refine blk_alloc ?_ _)); refine blk_put (cs := #[.int .i64 t352, .int .i64 t353, .slice none 0 0, .slice none 0 0]) ?_ 2 _ rfl; (with_reducible repeat (first | refine blk_drewN ?_ _ | refine blk_drew ?_ | refine blk_alloc ?_ _)); refine blk_put (cs := #[.int .i64 t352, .int .i64 0, .slice none 0 0, .slice none 0 0]) ?_ 1 _ rfl; (with_reducible repeat (first | refine blk_drewN ?_ _ | refine blk_drew ?_ | refine blk_alloc ?_ _)); refine blk_put (cs := #[.int .i64 0, .int .i64 0, .slice none 0 0, .slice none 0 0]) ?_ 0 _ rfl; (with_reducible repeat (first | refine blk_drewN ?_ _ | refine blk_drew ?_ | refine blk_alloc ?_ _)); exact BK361.out) hb); have n8_ := Aside0.mk (below_step (by repeat (first | (with_reducible first | exact HB.out | apply below_alloc | apply pw_below_drewN | apply below_drew1 | refine below_set ?_ GE342.out | refine below_set ?_ GE361.out) | exact HB.out)) hb); clear HO348; clear HO351; clear HO356; clear HO359; clear BK342; clear BK361; clear HB; have HO348 := n0_; have HO351 := n1_; have HO356 := n2_; have HO359 := n3_; have HO366 := n4_; have HO369 := n5_; have BK342 := n6_; have BK361 := n7_; have HB := n8_; clear n0_ n1_ n2_ n3_ n4_ n5_ n6_ n7_ n8_; (try clear hb); (try clear hb2); (try clear hk); (try clear hi); (try clear ho0); (try clear ho1)) | ((with_reducible refine gate_dst (N := 6) rfl ?_); refine box_event ?hg (N := 6) ?hd (cs := #[.int .i64 0, .int .i64 0, .slice none 0 0, .slice none 0 0]) (t := 26) ?hr ?_; (case hd => rfl); (case hg => rfl); (case hr => first | (go_simp; done) | (go_simp; rfl)); intro gb370 hg w27 hbox hb; have n0_ := Aside0.mk (Kd.PB_below (by (with_reducible repeat (first | apply Kd.PB_alloc | apply Kd.PB_drewN | apply Kd.PB_drew)); exact HO348.out) hb); have n1_ := Aside0.mk (Kd.PB_below (by (with_reducible repeat (first | apply Kd.PB_alloc | apply Kd.PB_drewN | apply Kd.PB_drew)); exact HO351.out) hb); have n2_ := Aside0.mk (Kd.R_below (by (with_reducible repeat (first | apply Kd.R_alloc | apply Kd.R_drewN | apply Kd.R_drew)); exact HO356.out) hb); have n3_ := Aside0.mk (Kd.R_below (by (with_reducible repeat (first | apply Kd.R_alloc | apply Kd.R_drewN | apply Kd.R_drew)); exact HO359.out) hb); have n4_ := Aside0.mk (Kd.PB_below (by (with_reducible repeat (first | apply Kd.PB_alloc | apply Kd.PB_drewN | apply Kd.PB_drew)); exact HO366.out) hb); have n5_ := Aside0.mk (Kd.PB_below (by (with_reducible repeat (first | apply Kd.PB_alloc | apply Kd.PB_drewN | apply Kd.PB_drew)); exact HO369.out) hb); have n6_ := Aside0.mk (blk_below (g := gb342) (o := .cells #[.int .i64 a0_0, .int .i64 a0_1, .slice A0_2 l0_2.length c0_2, .slice A0_3 l0_3.length c0_3] 24 (0, 0)) (by (with_reducible repeat (first | refine blk_drewN ?_ _ | refine blk_drew ?_ | refine blk_alloc ?_ _)); exact BK342.out) hb); have n7_ := Aside0.mk (blk_below (g := gb361) (o := .cells #[.int .i64 t352, .int .i64 t353, .slice Ao23 t354.length co23, .slice Ao24 t357.length co24] 26 (0, 0)) (by (with_reducible repeat (first | refine blk_drewN ?_ _ | refine blk_drew ?_ | refine blk_alloc ?_ _)); exact BK361.out) hb); have n8_ := Aside0.mk (below_step (by repeat (first | (with_reducible first | exact HB.out | apply below_alloc | apply pw_below_drewN | apply below_drew1 | refine below_set ?_ GE342.out | refine below_set ?_ GE361.out) | exact HB.out)) hb); have n9_ := Aside0.mk (hbox); have n10_ := Aside0.mk ((by rw [hg]; exact (below_size (by repeat (first | (with_reducible first | exact HB.out | apply below_alloc | apply pw_below_drewN | apply below_drew1 | refine below_set ?_ GE342.out | refine below_set ?_ GE361.out) | exact HB.out))) : w.heap.size ≤ gb370)); have n11_ := Aside0.mk ((by rw [hg]; exact (below_size (by repeat (first | (with_reducible first | exact HB.out | apply below_alloc | apply pw_below_drewN | apply below_drew1 | refine below_set ?_ GE342.out | refine below_set ?_ GE361.out) | exact HB.out))) : w.heap.size ≤ gb370)); have n12_ := Aside0.mk ((by rw [hg]; exact Nat.ne_of_lt (blk_lt (g := gb342) (o := .cells #[.int .i64 a0_0, .int .i64 a0_1, .slice A0_2 l0_2.length c0_2, .slice A0_3 l0_3.length c0_3] 24 (0, 0)) (by (with_reducible repeat (first | refine blk_drewN ?_ _ | refine blk_drew ?_ | refine blk_alloc ?_ _)); exact BK342.out)) : gb342 ≠ gb370)); have n13_ := Aside0.mk ((by rw [hg]; exact Nat.ne_of_gt (blk_lt (g := gb342) (o := .cells #[.int .i64 a0_0, .int .i64 a0_1, .slice A0_2 l0_2.length c0_2, .slice A0_3 l0_3.length c0_3] 24 (0, 0)) (by (with_reducible repeat (first | refine blk_drewN ?_ _ | refine blk_drew ?_ | refine blk_alloc ?_ _)); exact BK342.out)) : gb370 ≠ gb342)); have n14_ := Aside0.mk ((by rw [hg]; exact Nat.ne_of_lt (blk_lt (g := gb361) (o := .cells #[.int .i64 t352, .int .i64 t353, .slice Ao23 t354.length co23, .slice Ao24 t357.length co24] 26 (0, 0)) (by (with_reducible repeat (first | refine blk_drewN ?_ _ | refine blk_drew ?_ | refine blk_alloc ?_ _)); exact BK361.out)) : gb361 ≠ gb370)); have n15_ := Aside0.mk ((by rw [hg]; exact Nat.ne_of_gt (blk_lt (g := gb361) (o := .cells #[.int .i64 t352, .int .i64 t353, .slice Ao23 t354.length co23, .slice Ao24 t357.length co24] 26 (0, 0)) (by (with_reducible repeat (first | refine blk_drewN ?_ _ | refine blk_drew ?_ | refine blk_alloc ?_ _)); exact BK361.out)) : gb370 ≠ gb361)); clear HO348; clear HO351; clear HO356; clear HO359; clear HO366; clear HO369; clear BK342; clear BK361; clear HB; have HO348 := n0_; have HO351 := n1_; have HO356 := n2_; have HO359 := n3_; have HO366 := n4_; have HO369 := n5_; have BK342 := n6_; have BK361 := n7_; have HB := n8_; have BK370 := n9_; have GW370 := n10_; have GE370 := n11_; have NB342_370 := n12_; have NB370_342 := n13_; have NB361_370 := n14_; have NB370_361 := n15_; clear n0_ n1_ n2_ n3_ n4_ n5_ n6_ n7_ n8_ n9_ n10_ n11_ n12_ n13_ n14_ n15_; clear hb hbox hg; have hnb28 := NB370_342.out; have hnc28 := NB342_370.out; have hnb29 := NB370_361.out; have hnc29 := NB361_370.out; have hcz30_0 : w27.cell? ⟨gb370, 0, none⟩ = some (.int .i64 0) := (blk_cell BK370.out 0).trans rfl; have hcz30_1 : w27.cell? ⟨gb370, 1, none⟩ = some (.int .i64 0) := (blk_cell BK370.out 1).trans rfl; have hcz30_2 : w27.cell? ⟨gb370, 2, none⟩ = some (.slice none 0 0) := (blk_cell BK370.out 2).trans rfl; have hcz30_3 : w27.cell? ⟨gb370, 3, none⟩ = some (.slice none 0 0) := (blk_cell BK370.out 3).trans rfl; have hfz30_0 := blk_frozen BK370.out 0; have hfz30_1 := blk_frozen BK370.out 1; have hfz30_2 := blk_frozen BK370.out 2; have hfz30_3 := blk_frozen BK370.out 3; obtain ⟨Ao31, co31, eo31⟩ := Kd.PB_slice HO366.out; subst eo31; obtain ⟨Ao32, co32, eo32⟩ := Kd.PB_slice HO369.out; subst eo32) | ((with_reducible refine gate_callee (f := 30) rfl ?_); refine goesL_ (some 29) rfl rfl Tryd.func30 (by kernel_rfl) rfl #[.agg #[.int .i64 t362, .int .i64 t363, .slice Ao31 t364.length co31, .slice Ao32 t367.length co32]] rfl (by (try simp only [List.map_toArray, List.map_cons, List.map_nil]); first | done | rfl | (simp only [List.length_drop, List.length_take]; rfl)) ?_; (with_reducible refine (impl_TurnFigure.calls k t362 t363 _ _ t364 _ _ t367 t371 t372 t373 t376 t379 _ ?side1 ?side2 ?side3 ?side4 ?side5 A10.out).mono ?_); (case side1 => refine (Kd.PB_reads' (b := false) (e := 3) (base := w.heap.size) (ok := fun k_ => ((((some k_ ≠ (.slice Ao32 t367.length co32 : Value).ownBlock ∧ some k_ ≠ (.slice Ao17 t346.length co17 : Value).ownBlock) ∧ some k_ ≠ (.slice Ao18 t349.length co18 : Value).ownBlock) ∧ some k_ ≠ (.slice Ao23 t354.length co23 : Value).ownBlock) ∧ some k_ ≠ (.slice Ao24 t357.length co24 : Value).ownBlock)) (n := t364.length) (c := co31) ?_).2.2; exact (by (with_reducible repeat (first | apply Kd.PB_alloc | apply Kd.PB_drewN | apply Kd.PB_drew)); exact (Kd.PB_mono (Kd.PB_far (p := ⟨gb370, 3, none⟩) (Kd.PB_far (p := ⟨gb370, 2, none⟩) (Kd.PB_far (p := ⟨gb370, 1, none⟩) (Kd.PB_far (p := ⟨gb370, 0, none⟩) (Kd.PB_types HO366.out BK370.out (by decide)) (fun _ hk => hk.2) (.int .i64 t362)) (fun _ hk => hk.2) (.int .i64 t363)) (fun _ hk => hk.2) (.slice Ao31 t364.length co31)) (fun _ hk => hk.2) (.slice Ao32 t367.length co32)) (fun _ h_ => h_.1)))); (case side2 => exact (Kd.PB_reads' HO366.out).2.1); (case side3 => refine (Kd.PB_reads' (b := false) (e := 3) (base := w.heap.size) (ok := fun k_ => ((((some k_ ≠ (.slice Ao31 t364.length co31 : Value).ownBlock ∧ some k_ ≠ (.slice Ao17 t346.length co17 : Value).ownBlock) ∧ some k_ ≠ (.slice Ao18 t349.length co18 : Value).ownBlock) ∧ some k_ ≠ (.slice Ao23 t354.length co23 : Value).ownBlock) ∧ some k_ ≠ (.slice Ao24 t357.length co24 : Value).ownBlock)) (n := t367.length) (c := co32) ?_).2.2; exact (by (with_reducible repeat (first | apply Kd.PB_alloc | apply Kd.PB_drewN | apply Kd.PB_drew)); exact (Kd.PB_mono (Kd.PB_far (p := ⟨gb370, 3, none⟩) (Kd.PB_far (p := ⟨gb370, 2, none⟩) (Kd.PB_far (p := ⟨gb370, 1, none⟩) (Kd.PB_far (p := ⟨gb370, 0, none⟩) (Kd.PB_types HO369.out BK370.out (by decide)) (fun _ hk => hk.2) (.int .i64 t362)) (fun _ hk => hk.2) (.int .i64 t363)) (fun _ hk => hk.2) (.slice Ao31 t364.length co31)) (fun _ hk => hk.2) (.slice Ao32 t367.length co32)) (fun _ h_ => h_.1)))); (case side4 => exact (Kd.PB_reads' HO369.out).2.1); (case side5 => first | exact LaidG_below HG.out (by repeat (first | (with_reducible first | exact HB.out | apply below_alloc | apply pw_below_drewN | apply below_drew1 | refine below_set ?_ GE342.out | refine below_set ?_ GE361.out | refine below_set ?_ GE370.out) | exact HB.out)) | (repeat (first | exact HG.out | (with_reducible refine LaidG_alloc ?_ _) | (with_reducible refine LaidG_drewN ?_ _) | (with_reducible refine LaidG_drew ?_)))); rintro e w33 ⟨v374, v377, rfl, ho0, ho1, hb⟩; refine ⟨_, rfl, ?_⟩; have n0_ := Aside0.mk (Kd.PB_mono (Kd.PB_told (Kd.PB_told (Kd.PB_old (by (with_reducible repeat (first | apply Kd.PB_alloc | apply Kd.PB_drewN | apply Kd.PB_drew)); exact (Kd.PB_mono (Kd.PB_far (p := ⟨gb370, 3, none⟩) (Kd.PB_far (p := ⟨gb370, 2, none⟩) (Kd.PB_far (p := ⟨gb370, 1, none⟩) (Kd.PB_far (p := ⟨gb370, 0, none⟩) (Kd.PB_types HO348.out BK370.out (by decide)) (fun _ hk => hk.2) (.int .i64 t362)) (fun _ hk => hk.2) (.int .i64 t363)) (fun _ hk => hk.2) (.slice Ao31 t364.length co31)) (fun _ hk => hk.2) (.slice Ao32 t367.length co32)) (fun _ h_ => h_.1))) hb) (Kd.R_base ho0)) (Kd.R_base ho1)) (fun _ h_ => h_.1)); have n1_ := Aside0.mk (Kd.PB_mono (Kd.PB_told (Kd.PB_told (Kd.PB_old (by (with_reducible repeat (first | apply Kd.PB_alloc | apply Kd.PB_drewN | apply Kd.PB_drew)); exact (Kd.PB_mono (Kd.PB_far (p := ⟨gb370, 3, none⟩) (Kd.PB_far (p := ⟨gb370, 2, none⟩) (Kd.PB_far (p := ⟨gb370, 1, none⟩) (Kd.PB_far (p := ⟨gb370, 0, none⟩) (Kd.PB_types HO351.out BK370.out (by decide)) (fun _ hk => hk.2) (.int .i64 t362)) (fun _ hk => hk.2) (.int .i64 t363)) (fun _ hk => hk.2) (.slice Ao31 t364.length co31)) (fun _ hk => hk.2) (.slice Ao32 t367.length co32)) (fun _ h_ => h_.1))) hb) (Kd.R_base ho0)) (Kd.R_base ho1)) (fun _ h_ => h_.1)); have n2_ := Aside0.mk (Kd.R_mono (Kd.R_told (Kd.R_told (Kd.R_old (by (with_reducible repeat (first | apply Kd.R_alloc | apply Kd.R_drewN | apply Kd.R_drew)); exact (Kd.R_mono (Kd.R_far (p := ⟨gb370, 3, none⟩) (Kd.R_far (p := ⟨gb370, 2, none⟩) (Kd.R_far (p := ⟨gb370, 1, none⟩) (Kd.R_far (p := ⟨gb370, 0, none⟩) (Kd.R_types HO356.out BK370.out (by decide)) (fun _ hk => hk.2) (.int .i64 t362)) (fun _ hk => hk.2) (.int .i64 t363)) (fun _ hk => hk.2) (.slice Ao31 t364.length co31)) (fun _ hk => hk.2) (.slice Ao32 t367.length co32)) (fun _ h_ => h_.1))) hb) (Kd.R_base ho0)) (Kd.R_base ho1)) (fun _ h_ => h_.1)); have n3_ := Aside0.mk (Kd.R_mono (Kd.R_told (Kd.R_told (Kd.R_old (by (with_reducible repeat (first | apply Kd.R_alloc | apply Kd.R_drewN | apply Kd.R_drew)); exact (Kd.R_mono (Kd.R_far (p := ⟨gb370, 3, none⟩) (Kd.R_far (p := ⟨gb370, 2, none⟩) (Kd.R_far (p := ⟨gb370, 1, none⟩) (Kd.R_far (p := ⟨gb370, 0, none⟩) (Kd.R_types HO359.out BK370.out (by decide)) (fun _ hk => hk.2) (.int .i64 t362)) (fun _ hk => hk.2) (.int .i64 t363)) (fun _ hk => hk.2) (.slice Ao31 t364.length co31)) (fun _ hk => hk.2) (.slice Ao32 t367.length co32)) (fun _ h_ => h_.1))) hb) (Kd.R_base ho0)) (Kd.R_base ho1)) (fun _ h_ => h_.1)); have n4_ := Aside0.mk (Kd.PB_mono (Kd.PB_told (Kd.PB_told (Kd.PB_old (by (with_reducible repeat (first | apply Kd.PB_alloc | apply Kd.PB_drewN | apply Kd.PB_drew)); exact (Kd.PB_mono (Kd.PB_far (p := ⟨gb370, 3, none⟩) (Kd.PB_far (p := ⟨gb370, 2, none⟩) (Kd.PB_far (p := ⟨gb370, 1, none⟩) (Kd.PB_far (p := ⟨gb370, 0, none⟩) (Kd.PB_types HO366.out BK370.out (by decide)) (fun _ hk => hk.2) (.int .i64 t362)) (fun _ hk => hk.2) (.int .i64 t363)) (fun _ hk => hk.2) (.slice Ao31 t364.length co31)) (fun _ hk => hk.2) (.slice Ao32 t367.length co32)) (fun _ h_ => h_.1))) hb) (Kd.R_base ho0)) (Kd.R_base ho1)) (fun _ h_ => h_.1)); have n5_ := Aside0.mk (Kd.PB_mono (Kd.PB_told (Kd.PB_told (Kd.PB_old (by (with_reducible repeat (first | apply Kd.PB_alloc | apply Kd.PB_drewN | apply Kd.PB_drew)); exact (Kd.PB_mono (Kd.PB_far (p := ⟨gb370, 3, none⟩) (Kd.PB_far (p := ⟨gb370, 2, none⟩) (Kd.PB_far (p := ⟨gb370, 1, none⟩) (Kd.PB_far (p := ⟨gb370, 0, none⟩) (Kd.PB_types HO369.out BK370.out (by decide)) (fun _ hk => hk.2) (.int .i64 t362)) (fun _ hk => hk.2) (.int .i64 t363)) (fun _ hk => hk.2) (.slice Ao31 t364.length co31)) (fun _ hk => hk.2) (.slice Ao32 t367.length co32)) (fun _ h_ => h_.1))) hb) (Kd.R_base ho0)) (Kd.R_base ho1)) (fun _ h_ => h_.1)); have n6_ := Aside0.mk (Kd.R_lower (Kd.R_new' (Kd.R_new' (Kd.R_new' (Kd.R_new' (Kd.R_new' (Kd.R_new' ho0 (Kd.PB_lt (by (with_reducible repeat (first | apply Kd.PB_alloc | apply Kd.PB_drewN | apply Kd.PB_drew)); exact (Kd.PB_mono (Kd.PB_far (p := ⟨gb370, 3, none⟩) (Kd.PB_far (p := ⟨gb370, 2, none⟩) (Kd.PB_far (p := ⟨gb370, 1, none⟩) (Kd.PB_far (p := ⟨gb370, 0, none⟩) (Kd.PB_types HO348.out BK370.out (by decide)) (fun _ hk => hk.2) (.int .i64 t362)) (fun _ hk => hk.2) (.int .i64 t363)) (fun _ hk => hk.2) (.slice Ao31 t364.length co31)) (fun _ hk => hk.2) (.slice Ao32 t367.length co32)) (fun _ h_ => h_.1))))) (Kd.PB_lt (by (with_reducible repeat (first | apply Kd.PB_alloc | apply Kd.PB_drewN | apply Kd.PB_drew)); exact (Kd.PB_mono (Kd.PB_far (p := ⟨gb370, 3, none⟩) (Kd.PB_far (p := ⟨gb370, 2, none⟩) (Kd.PB_far (p := ⟨gb370, 1, none⟩) (Kd.PB_far (p := ⟨gb370, 0, none⟩) (Kd.PB_types HO351.out BK370.out (by decide)) (fun _ hk => hk.2) (.int .i64 t362)) (fun _ hk => hk.2) (.int .i64 t363)) (fun _ hk => hk.2) (.slice Ao31 t364.length co31)) (fun _ hk => hk.2) (.slice Ao32 t367.length co32)) (fun _ h_ => h_.1))))) (Kd.R_lt (by (with_reducible repeat (first | apply Kd.R_alloc | apply Kd.R_drewN | apply Kd.R_drew)); exact (Kd.R_mono (Kd.R_far (p := ⟨gb370, 3, none⟩) (Kd.R_far (p := ⟨gb370, 2, none⟩) (Kd.R_far (p := ⟨gb370, 1, none⟩) (Kd.R_far (p := ⟨gb370, 0, none⟩) (Kd.R_types HO356.out BK370.out (by decide)) (fun _ hk => hk.2) (.int .i64 t362)) (fun _ hk => hk.2) (.int .i64 t363)) (fun _ hk => hk.2) (.slice Ao31 t364.length co31)) (fun _ hk => hk.2) (.slice Ao32 t367.length co32)) (fun _ h_ => h_.1))))) (Kd.R_lt (by (with_reducible repeat (first | apply Kd.R_alloc | apply Kd.R_drewN | apply Kd.R_drew)); exact (Kd.R_mono (Kd.R_far (p := ⟨gb370, 3, none⟩) (Kd.R_far (p := ⟨gb370, 2, none⟩) (Kd.R_far (p := ⟨gb370, 1, none⟩) (Kd.R_far (p := ⟨gb370, 0, none⟩) (Kd.R_types HO359.out BK370.out (by decide)) (fun _ hk => hk.2) (.int .i64 t362)) (fun _ hk => hk.2) (.int .i64 t363)) (fun _ hk => hk.2) (.slice Ao31 t364.length co31)) (fun _ hk => hk.2) (.slice Ao32 t367.length co32)) (fun _ h_ => h_.1))))) (Kd.PB_lt (by (with_reducible repeat (first | apply Kd.PB_alloc | apply Kd.PB_drewN | apply Kd.PB_drew)); exact (Kd.PB_mono (Kd.PB_far (p := ⟨gb370, 3, none⟩) (Kd.PB_far (p := ⟨gb370, 2, none⟩) (Kd.PB_far (p := ⟨gb370, 1, none⟩) (Kd.PB_far (p := ⟨gb370, 0, none⟩) (Kd.PB_types HO366.out BK370.out (by decide)) (fun _ hk => hk.2) (.int .i64 t362)) (fun _ hk => hk.2) (.int .i64 t363)) (fun _ hk => hk.2) (.slice Ao31 t364.length co31)) (fun _ hk => hk.2) (.slice Ao32 t367.length co32)) (fun _ h_ => h_.1))))) (Kd.PB_lt (by (with_reducible repeat (first | apply Kd.PB_alloc | apply Kd.PB_drewN | apply Kd.PB_drew)); exact (Kd.PB_mono (Kd.PB_far (p := ⟨gb370, 3, none⟩) (Kd.PB_far (p := ⟨gb370, 2, none⟩) (Kd.PB_far (p := ⟨gb370, 1, none⟩) (Kd.PB_far (p := ⟨gb370, 0, none⟩) (Kd.PB_types HO369.out BK370.out (by decide)) (fun _ hk => hk.2) (.int .i64 t362)) (fun _ hk => hk.2) (.int .i64 t363)) (fun _ hk => hk.2) (.slice Ao31 t364.length co31)) (fun _ hk => hk.2) (.slice Ao32 t367.length co32)) (fun _ h_ => h_.1))))) (below_size (by repeat (first | (with_reducible first | exact HB.out | apply below_alloc | apply pw_below_drewN | apply below_drew1 | refine below_set ?_ GE342.out | refine below_set ?_ GE361.out | refine below_set ?_ GE370.out) | exact HB.out)))); have n7_ := Aside0.mk (Kd.R_lower (Kd.R_new' (Kd.R_new' (Kd.R_new' (Kd.R_new' (Kd.R_new' (Kd.R_new' ho1 (Kd.PB_lt (by (with_reducible repeat (first | apply Kd.PB_alloc | apply Kd.PB_drewN | apply Kd.PB_drew)); exact (Kd.PB_mono (Kd.PB_far (p := ⟨gb370, 3, none⟩) (Kd.PB_far (p := ⟨gb370, 2, none⟩) (Kd.PB_far (p := ⟨gb370, 1, none⟩) (Kd.PB_far (p := ⟨gb370, 0, none⟩) (Kd.PB_types HO348.out BK370.out (by decide)) (fun _ hk => hk.2) (.int .i64 t362)) (fun _ hk => hk.2) (.int .i64 t363)) (fun _ hk => hk.2) (.slice Ao31 t364.length co31)) (fun _ hk => hk.2) (.slice Ao32 t367.length co32)) (fun _ h_ => h_.1))))) (Kd.PB_lt (by (with_reducible repeat (first | apply Kd.PB_alloc | apply Kd.PB_drewN | apply Kd.PB_drew)); exact (Kd.PB_mono (Kd.PB_far (p := ⟨gb370, 3, none⟩) (Kd.PB_far (p := ⟨gb370, 2, none⟩) (Kd.PB_far (p := ⟨gb370, 1, none⟩) (Kd.PB_far (p := ⟨gb370, 0, none⟩) (Kd.PB_types HO351.out BK370.out (by decide)) (fun _ hk => hk.2) (.int .i64 t362)) (fun _ hk => hk.2) (.int .i64 t363)) (fun _ hk => hk.2) (.slice Ao31 t364.length co31)) (fun _ hk => hk.2) (.slice Ao32 t367.length co32)) (fun _ h_ => h_.1))))) (Kd.R_lt (by (with_reducible repeat (first | apply Kd.R_alloc | apply Kd.R_drewN | apply Kd.R_drew)); exact (Kd.R_mono (Kd.R_far (p := ⟨gb370, 3, none⟩) (Kd.R_far (p := ⟨gb370, 2, none⟩) (Kd.R_far (p := ⟨gb370, 1, none⟩) (Kd.R_far (p := ⟨gb370, 0, none⟩) (Kd.R_types HO356.out BK370.out (by decide)) (fun _ hk => hk.2) (.int .i64 t362)) (fun _ hk => hk.2) (.int .i64 t363)) (fun _ hk => hk.2) (.slice Ao31 t364.length co31)) (fun _ hk => hk.2) (.slice Ao32 t367.length co32)) (fun _ h_ => h_.1))))) (Kd.R_lt (by (with_reducible repeat (first | apply Kd.R_alloc | apply Kd.R_drewN | apply Kd.R_drew)); exact (Kd.R_mono (Kd.R_far (p := ⟨gb370, 3, none⟩) (Kd.R_far (p := ⟨gb370, 2, none⟩) (Kd.R_far (p := ⟨gb370, 1, none⟩) (Kd.R_far (p := ⟨gb370, 0, none⟩) (Kd.R_types HO359.out BK370.out (by decide)) (fun _ hk => hk.2) (.int .i64 t362)) (fun _ hk => hk.2) (.int .i64 t363)) (fun _ hk => hk.2) (.slice Ao31 t364.length co31)) (fun _ hk => hk.2) (.slice Ao32 t367.length co32)) (fun _ h_ => h_.1))))) (Kd.PB_lt (by (with_reducible repeat (first | apply Kd.PB_alloc | apply Kd.PB_drewN | apply Kd.PB_drew)); exact (Kd.PB_mono (Kd.PB_far (p := ⟨gb370, 3, none⟩) (Kd.PB_far (p := ⟨gb370, 2, none⟩) (Kd.PB_far (p := ⟨gb370, 1, none⟩) (Kd.PB_far (p := ⟨gb370, 0, none⟩) (Kd.PB_types HO366.out BK370.out (by decide)) (fun _ hk => hk.2) (.int .i64 t362)) (fun _ hk => hk.2) (.int .i64 t363)) (fun _ hk => hk.2) (.slice Ao31 t364.length co31)) (fun _ hk => hk.2) (.slice Ao32 t367.length co32)) (fun _ h_ => h_.1))))) (Kd.PB_lt (by (with_reducible repeat (first | apply Kd.PB_alloc | apply Kd.PB_drewN | apply Kd.PB_drew)); exact (Kd.PB_mono (Kd.PB_far (p := ⟨gb370, 3, none⟩) (Kd.PB_far (p := ⟨gb370, 2, none⟩) (Kd.PB_far (p := ⟨gb370, 1, none⟩) (Kd.PB_far (p := ⟨gb370, 0, none⟩) (Kd.PB_types HO369.out BK370.out (by decide)) (fun _ hk => hk.2) (.int .i64 t362)) (fun _ hk => hk.2) (.int .i64 t363)) (fun _ hk => hk.2) (.slice Ao31 t364.length co31)) (fun _ hk => hk.2) (.slice Ao32 t367.length co32)) (fun _ h_ => h_.1))))) (below_size (by repeat (first | (with_reducible first | exact HB.out | apply below_alloc | apply pw_below_drewN | apply below_drew1 | refine below_set ?_ GE342.out | refine below_set ?_ GE361.out | refine below_set ?_ GE370.out) | exact HB.out)))); have n8_ := Aside0.mk (blk_below (g := gb342) (o := .cells #[.int .i64 a0_0, .int .i64 a0_1, .slice A0_2 l0_2.length c0_2, .slice A0_3 l0_3.length c0_3] 24 (0, 0)) (by (with_reducible repeat (first | refine blk_drewN ?_ _ | refine blk_drew ?_ | refine blk_alloc ?_ _)); refine blk_far ?_ NB342_370.out _; (with_reducible repeat (first | refine blk_drewN ?_ _ | refine blk_drew ?_ | refine blk_alloc ?_ _)); refine blk_far ?_ NB342_370.out _; (with_reducible repeat (first | refine blk_drewN ?_ _ | refine blk_drew ?_ | refine blk_alloc ?_ _)); refine blk_far ?_ NB342_370.out _; (with_reducible repeat (first | refine blk_drewN ?_ _ | refine blk_drew ?_ | refine blk_alloc ?_ _)); refine blk_far ?_ NB342_370.out _; (with_reducible repeat (first | refine blk_drewN ?_ _ | refine blk_drew ?_ | refine blk_alloc ?_ _)); exact BK342.out) hb); have n9_ := Aside0.mk (blk_below (g := gb361) (o := .cells #[.int .i64 t352, .int .i64 t353, .slice Ao23 t354.length co23, .slice Ao24 t357.length co24] 26 (0, 0)) (by (with_reducible repeat (first | refine blk_drewN ?_ _ | refine blk_drew ?_ | refine blk_alloc ?_ _)); refine blk_far ?_ NB361_370.out _; (with_reducible repeat (first | refine blk_drewN ?_ _ | refine blk_drew ?_ | refine blk_alloc ?_ _)); refine blk_far ?_ NB361_370.out _; (with_reducible repeat (first | refine blk_drewN ?_ _ | refine blk_drew ?_ | refine blk_alloc ?_ _)); refine blk_far ?_ NB361_370.out _; (with_reducible repeat (first | refine blk_drewN ?_ _ | refine blk_drew ?_ | refine blk_alloc ?_ _)); refine blk_far ?_ NB361_370.out _; (with_reducible repeat (first | refine blk_drewN ?_ _ | refine blk_drew ?_ | refine blk_alloc ?_ _)); exact BK361.out) hb); have n10_ := Aside0.mk (blk_below (g := gb370) (o := .cells #[.int .i64 t362, .int .i64 t363, .slice Ao31 t364.length co31, .slice Ao32 t367.length co32] 26 (0, 0)) (by (with_reducible repeat (first | refine blk_drewN ?_ _ | refine blk_drew ?_ | refine blk_alloc ?_ _)); refine blk_put (cs := #[.int .i64 t362, .int .i64 t363, .slice Ao31 t364.length co31, .slice none 0 0]) ?_ 3 _ rfl; (with_reducible repeat (first | refine blk_drewN ?_ _ | refine blk_drew ?_ | refine blk_alloc ?_ _)); refine blk_put (cs := #[.int .i64 t362, .int .i64 t363, .slice none 0 0, .slice none 0 0]) ?_ 2 _ rfl; (with_reducible repeat (first | refine blk_drewN ?_ _ | refine blk_drew ?_ | refine blk_alloc ?_ _)); refine blk_put (cs := #[.int .i64 t362, .int .i64 0, .slice none 0 0, .slice none 0 0]) ?_ 1 _ rfl; (with_reducible repeat (first | refine blk_drewN ?_ _ | refine blk_drew ?_ | refine blk_alloc ?_ _)); refine blk_put (cs := #[.int .i64 0, .int .i64 0, .slice none 0 0, .slice none 0 0]) ?_ 0 _ rfl; (with_reducible repeat (first | refine blk_drewN ?_ _ | refine blk_drew ?_ | refine blk_alloc ?_ _)); exact BK370.out) hb); have n11_ := Aside0.mk (below_step (by repeat (first | (with_reducible first | exact HB.out | apply below_alloc | apply pw_below_drewN | apply below_drew1 | refine below_set ?_ GE342.out | refine below_set ?_ GE361.out | refine below_set ?_ GE370.out) | exact HB.out)) hb); clear HO348; clear HO351; clear HO356; clear HO359; clear HO366; clear HO369; clear BK342; clear BK361; clear BK370; clear HB; have HO348 := n0_; have HO351 := n1_; have HO356 := n2_; have HO359 := n3_; have HO366 := n4_; have HO369 := n5_; have HO375 := n6_; have HO378 := n7_; have BK342 := n8_; have BK361 := n9_; have BK370 := n10_; have HB := n11_; clear n0_ n1_ n2_ n3_ n4_ n5_ n6_ n7_ n8_ n9_ n10_ n11_; (try clear hb); (try clear hb2); (try clear hk); (try clear hi); (try clear ho0); (try clear ho1)) | ((with_reducible refine gate_dst (N := 7) rfl ?_); refine box_event ?hg (N := 7) ?hd (cs := #[.int .i64 0, .int .i64 0, .slice none 0 0, .slice none 0 0]) (t := 26) ?hr ?_; (case hd => rfl); (case hg => rfl); (case hr => first | (go_simp; done) | (go_simp; rfl)); intro gb380 hg w34 hbox hb; have n0_ := Aside0.mk (Kd.PB_below (by (with_reducible repeat (first | apply Kd.PB_alloc | apply Kd.PB_drewN | apply Kd.PB_drew)); exact HO348.out) hb); have n1_ := Aside0.mk (Kd.PB_below (by (with_reducible repeat (first | apply Kd.PB_alloc | apply Kd.PB_drewN | apply Kd.PB_drew)); exact HO351.out) hb); have n2_ := Aside0.mk (Kd.R_below (by (with_reducible repeat (first | apply Kd.R_alloc | apply Kd.R_drewN | apply Kd.R_drew)); exact HO356.out) hb); have n3_ := Aside0.mk (Kd.R_below (by (with_reducible repeat (first | apply Kd.R_alloc | apply Kd.R_drewN | apply Kd.R_drew)); exact HO359.out) hb); have n4_ := Aside0.mk (Kd.PB_below (by (with_reducible repeat (first | apply Kd.PB_alloc | apply Kd.PB_drewN | apply Kd.PB_drew)); exact HO366.out) hb); have n5_ := Aside0.mk (Kd.PB_below (by (with_reducible repeat (first | apply Kd.PB_alloc | apply Kd.PB_drewN | apply Kd.PB_drew)); exact HO369.out) hb); have n6_ := Aside0.mk (Kd.R_below (by (with_reducible repeat (first | apply Kd.R_alloc | apply Kd.R_drewN | apply Kd.R_drew)); exact HO375.out) hb); have n7_ := Aside0.mk (Kd.R_below (by (with_reducible repeat (first | apply Kd.R_alloc | apply Kd.R_drewN | apply Kd.R_drew)); exact HO378.out) hb); have n8_ := Aside0.mk (blk_below (g := gb342) (o := .cells #[.int .i64 a0_0, .int .i64 a0_1, .slice A0_2 l0_2.length c0_2, .slice A0_3 l0_3.length c0_3] 24 (0, 0)) (by (with_reducible repeat (first | refine blk_drewN ?_ _ | refine blk_drew ?_ | refine blk_alloc ?_ _)); exact BK342.out) hb); have n9_ := Aside0.mk (blk_below (g := gb361) (o := .cells #[.int .i64 t352, .int .i64 t353, .slice Ao23 t354.length co23, .slice Ao24 t357.length co24] 26 (0, 0)) (by (with_reducible repeat (first | refine blk_drewN ?_ _ | refine blk_drew ?_ | refine blk_alloc ?_ _)); exact BK361.out) hb); have n10_ := Aside0.mk (blk_below (g := gb370) (o := .cells #[.int .i64 t362, .int .i64 t363, .slice Ao31 t364.length co31, .slice Ao32 t367.length co32] 26 (0, 0)) (by (with_reducible repeat (first | refine blk_drewN ?_ _ | refine blk_drew ?_ | refine blk_alloc ?_ _)); exact BK370.out) hb); have n11_ := Aside0.mk (below_step (by repeat (first | (with_reducible first | exact HB.out | apply below_alloc | apply pw_below_drewN | apply below_drew1 | refine below_set ?_ GE342.out | refine below_set ?_ GE361.out | refine below_set ?_ GE370.out) | exact HB.out)) hb); have n12_ := Aside0.mk (hbox); have n13_ := Aside0.mk ((by rw [hg]; exact (below_size (by repeat (first | (with_reducible first | exact HB.out | apply below_alloc | apply pw_below_drewN | apply below_drew1 | refine below_set ?_ GE342.out | refine below_set ?_ GE361.out | refine below_set ?_ GE370.out) | exact HB.out))) : w.heap.size ≤ gb380)); have n14_ := Aside0.mk ((by rw [hg]; exact (below_size (by repeat (first | (with_reducible first | exact HB.out | apply below_alloc | apply pw_below_drewN | apply below_drew1 | refine below_set ?_ GE342.out | refine below_set ?_ GE361.out | refine below_set ?_ GE370.out) | exact HB.out))) : w.heap.size ≤ gb380)); have n15_ := Aside0.mk ((by rw [hg]; exact Nat.ne_of_lt (blk_lt (g := gb342) (o := .cells #[.int .i64 a0_0, .int .i64 a0_1, .slice A0_2 l0_2.length c0_2, .slice A0_3 l0_3.length c0_3] 24 (0, 0)) (by (with_reducible repeat (first | refine blk_drewN ?_ _ | refine blk_drew ?_ | refine blk_alloc ?_ _)); exact BK342.out)) : gb342 ≠ gb380)); have n16_ := Aside0.mk ((by rw [hg]; exact Nat.ne_of_gt (blk_lt (g := gb342) (o := .cells #[.int .i64 a0_0, .int .i64 a0_1, .slice A0_2 l0_2.length c0_2, .slice A0_3 l0_3.length c0_3] 24 (0, 0)) (by (with_reducible repeat (first | refine blk_drewN ?_ _ | refine blk_drew ?_ | refine blk_alloc ?_ _)); exact BK342.out)) : gb380 ≠ gb342)); have n17_ := Aside0.mk ((by rw [hg]; exact Nat.ne_of_lt (blk_lt (g := gb361) (o := .cells #[.int .i64 t352, .int .i64 t353, .slice Ao23 t354.length co23, .slice Ao24 t357.length co24] 26 (0, 0)) (by (with_reducible repeat (first | refine blk_drewN ?_ _ | refine blk_drew ?_ | refine blk_alloc ?_ _)); exact BK361.out)) : gb361 ≠ gb380)); have n18_ := Aside0.mk ((by rw [hg]; exact Nat.ne_of_gt (blk_lt (g := gb361) (o := .cells #[.int .i64 t352, .int .i64 t353, .slice Ao23 t354.length co23, .slice Ao24 t357.length co24] 26 (0, 0)) (by (with_reducible repeat (first | refine blk_drewN ?_ _ | refine blk_drew ?_ | refine blk_alloc ?_ _)); exact BK361.out)) : gb380 ≠ gb361)); have n19_ := Aside0.mk ((by rw [hg]; exact Nat.ne_of_lt (blk_lt (g := gb370) (o := .cells #[.int .i64 t362, .int .i64 t363, .slice Ao31 t364.length co31, .slice Ao32 t367.length co32] 26 (0, 0)) (by (with_reducible repeat (first | refine blk_drewN ?_ _ | refine blk_drew ?_ | refine blk_alloc ?_ _)); exact BK370.out)) : gb370 ≠ gb380)); have n20_ := Aside0.mk ((by rw [hg]; exact Nat.ne_of_gt (blk_lt (g := gb370) (o := .cells #[.int .i64 t362, .int .i64 t363, .slice Ao31 t364.length co31, .slice Ao32 t367.length co32] 26 (0, 0)) (by (with_reducible repeat (first | refine blk_drewN ?_ _ | refine blk_drew ?_ | refine blk_alloc ?_ _)); exact BK370.out)) : gb380 ≠ gb370)); clear HO348; clear HO351; clear HO356; clear HO359; clear HO366; clear HO369; clear HO375; clear HO378; clear BK342; clear BK361; clear BK370; clear HB; have HO348 := n0_; have HO351 := n1_; have HO356 := n2_; have HO359 := n3_; have HO366 := n4_; have HO369 := n5_; have HO375 := n6_; have HO378 := n7_; have BK342 := n8_; have BK361 := n9_; have BK370 := n10_; have HB := n11_; have BK380 := n12_; have GW380 := n13_; have GE380 := n14_; have NB342_380 := n15_; have NB380_342 := n16_; have NB361_380 := n17_; have NB380_361 := n18_; have NB370_380 := n19_; have NB380_370 := n20_; clear n0_ n1_ n2_ n3_ n4_ n5_ n6_ n7_ n8_ n9_ n10_ n11_ n12_ n13_ n14_ n15_ n16_ n17_ n18_ n19_ n20_; clear hb hbox hg; have hnb35 := NB380_342.out; have hnc35 := NB342_380.out; have hnb36 := NB380_361.out; have hnc36 := NB361_380.out; have hnb37 := NB380_370.out; have hnc37 := NB370_380.out; have hcz38_0 : w34.cell? ⟨gb380, 0, none⟩ = some (.int .i64 0) := (blk_cell BK380.out 0).trans rfl; have hcz38_1 : w34.cell? ⟨gb380, 1, none⟩ = some (.int .i64 0) := (blk_cell BK380.out 1).trans rfl; have hcz38_2 : w34.cell? ⟨gb380, 2, none⟩ = some (.slice none 0 0) := (blk_cell BK380.out 2).trans rfl; have hcz38_3 : w34.cell? ⟨gb380, 3, none⟩ = some (.slice none 0 0) := (blk_cell BK380.out 3).trans rfl; have hfz38_0 := blk_frozen BK380.out 0; have hfz38_1 := blk_frozen BK380.out 1; have hfz38_2 := blk_frozen BK380.out 2; have hfz38_3 := blk_frozen BK380.out 3; obtain ⟨Ao39, co39, eo39⟩ := Kd.R_slice HO375.out; subst eo39; obtain ⟨Ao40, co40, eo40⟩ := Kd.R_slice HO378.out; subst eo40))
  (try simp only [Act.put, List.setIfInBounds_toArray, List.set_cons_zero, List.set_cons_succ])
  go_cut [40] (fun v40 wc => ∃ (kq : Nat) (x40_10 : Bool), v40 = .bool x40_10 ∧ Aside0 (laws_FnExactTurnFigure.j0 kq t360 t379 x40_10 a0_0 a0_1 l0_2 l0_3 t352 t353 t354 t357 t362 t363 t364 t367 t371 t372 t373 t376 = some r) ∧ Aside0 (kq ≤ k) ∧ Aside0 (Kd.R (Kd.int .i64) 3 wc w.heap.size (fun k_ => some k_ ≠ ((.slice Ao24 t357.length co24) : Value).ownBlock ∧ some k_ ≠ ((.slice Ao31 t364.length co31) : Value).ownBlock ∧ some k_ ≠ ((.slice Ao32 t367.length co32) : Value).ownBlock ∧ some k_ ≠ ((.slice Ao39 t373.length co39) : Value).ownBlock ∧ some k_ ≠ ((.slice Ao40 t376.length co40) : Value).ownBlock) (.slice Ao23 t354.length co23) t354) ∧ Aside0 (Kd.R (Kd.int .i64) 3 wc w.heap.size (fun k_ => some k_ ≠ ((.slice Ao23 t354.length co23) : Value).ownBlock ∧ some k_ ≠ ((.slice Ao31 t364.length co31) : Value).ownBlock ∧ some k_ ≠ ((.slice Ao32 t367.length co32) : Value).ownBlock ∧ some k_ ≠ ((.slice Ao39 t373.length co39) : Value).ownBlock ∧ some k_ ≠ ((.slice Ao40 t376.length co40) : Value).ownBlock) (.slice Ao24 t357.length co24) t357) ∧ Aside0 (Kd.PB false (Kd.int .i64) 3 wc w.heap.size (fun k_ => some k_ ≠ ((.slice Ao23 t354.length co23) : Value).ownBlock ∧ some k_ ≠ ((.slice Ao24 t357.length co24) : Value).ownBlock ∧ some k_ ≠ ((.slice Ao32 t367.length co32) : Value).ownBlock ∧ some k_ ≠ ((.slice Ao39 t373.length co39) : Value).ownBlock ∧ some k_ ≠ ((.slice Ao40 t376.length co40) : Value).ownBlock) (.slice Ao31 t364.length co31) t364) ∧ Aside0 (Kd.PB false (Kd.int .i64) 3 wc w.heap.size (fun k_ => some k_ ≠ ((.slice Ao23 t354.length co23) : Value).ownBlock ∧ some k_ ≠ ((.slice Ao24 t357.length co24) : Value).ownBlock ∧ some k_ ≠ ((.slice Ao31 t364.length co31) : Value).ownBlock ∧ some k_ ≠ ((.slice Ao39 t373.length co39) : Value).ownBlock ∧ some k_ ≠ ((.slice Ao40 t376.length co40) : Value).ownBlock) (.slice Ao32 t367.length co32) t367) ∧ Aside0 (Kd.R (Kd.int .i64) 3 wc w.heap.size (fun k_ => some k_ ≠ ((.slice Ao23 t354.length co23) : Value).ownBlock ∧ some k_ ≠ ((.slice Ao24 t357.length co24) : Value).ownBlock ∧ some k_ ≠ ((.slice Ao31 t364.length co31) : Value).ownBlock ∧ some k_ ≠ ((.slice Ao32 t367.length co32) : Value).ownBlock ∧ some k_ ≠ ((.slice Ao40 t376.length co40) : Value).ownBlock) (.slice Ao39 t373.length co39) t373) ∧ Aside0 (Kd.R (Kd.int .i64) 3 wc w.heap.size (fun k_ => some k_ ≠ ((.slice Ao23 t354.length co23) : Value).ownBlock ∧ some k_ ≠ ((.slice Ao24 t357.length co24) : Value).ownBlock ∧ some k_ ≠ ((.slice Ao31 t364.length co31) : Value).ownBlock ∧ some k_ ≠ ((.slice Ao32 t367.length co32) : Value).ownBlock ∧ some k_ ≠ ((.slice Ao39 t373.length co39) : Value).ownBlock) (.slice Ao40 t376.length co40) t376) ∧ Aside0 (wc.heap[gb342]? = some (.cells #[.int .i64 a0_0, .int .i64 a0_1, (.slice A0_2 l0_2.length c0_2), (.slice A0_3 l0_3.length c0_3)] 24 (0, 0))) ∧ Aside0 (wc.heap[gb361]? = some (.cells #[.int .i64 t352, .int .i64 t353, (.slice Ao23 t354.length co23), (.slice Ao24 t357.length co24)] 26 (0, 0))) ∧ Aside0 (wc.heap[gb370]? = some (.cells #[.int .i64 t362, .int .i64 t363, (.slice Ao31 t364.length co31), (.slice Ao32 t367.length co32)] 26 (0, 0))) ∧ Aside0 (wc.heap[gb380]? = some (.cells #[.int .i64 t371, .int .i64 t372, (.slice Ao39 t373.length co39), (.slice Ao40 t376.length co40)] 26 (0, 0))) ∧ Aside0 (Below w.heap.size w wc))
  case first =>
   have H := HC11.out
   clear HC11
   replace H := Option.bind_eq_some_iff.mp H
   obtain ⟨t381, A410, H⟩ := H
   replace H : (if t381 = true then (laws_FnExactTurnFigure.j0 k t360 t379 (t379 != t360) a0_0 a0_1 l0_2 l0_3 t352 t353 t354 t357 t362 t363 t364 t367 t371 t372 t373 t376) else (laws_FnExactTurnFigure.j0 k t360 t379 true a0_0 a0_1 l0_2 l0_3 t352 t353 t354 t357 t362 t363 t364 t367 t371 t372 t373 t376)) = some r := H
   have A41 := Aside0.mk A410
   clear A410
   by_cases c42 : t381 = true
   ·subst c42
    have H1 : (laws_FnExactTurnFigure.j0 k t360 t379 (t379 != t360) a0_0 a0_1 l0_2 l0_3 t352 t353 t354 t357 t362 t363 t364 t367 t371 t372 t373 t376) = some r := by rw [if_pos rfl] at H; exact H
    clear H
    have H := H1
    clear H1
    have H' := Aside0.mk H
    clear H
    have hnb43 := NB380_342.out
    have hnc43 := NB342_380.out
    have hnb44 := NB380_361.out
    have hnc44 := NB361_380.out
    have hnb45 := NB380_370.out
    have hnc45 := NB370_380.out
    have hcz46_0 : w34.cell? ⟨gb380, 0, none⟩ = some (.int .i64 0) := (blk_cell BK380.out 0).trans rfl
    have hcz46_1 : w34.cell? ⟨gb380, 1, none⟩ = some (.int .i64 0) := (blk_cell BK380.out 1).trans rfl
    have hcz46_2 : w34.cell? ⟨gb380, 2, none⟩ = some (.slice none 0 0) := (blk_cell BK380.out 2).trans rfl
    have hcz46_3 : w34.cell? ⟨gb380, 3, none⟩ = some (.slice none 0 0) := (blk_cell BK380.out 3).trans rfl
    have hfz46_0 := blk_frozen BK380.out 0
    have hfz46_1 := blk_frozen BK380.out 1
    have hfz46_2 := blk_frozen BK380.out 2
    have hfz46_3 := blk_frozen BK380.out 3
    have hnb47 := NB361_342.out
    have hnc47 := NB342_361.out
    have hnb48 := NB361_370.out
    have hnc48 := NB370_361.out
    have hcz49_0 : w34.cell? ⟨gb361, 0, none⟩ = some (.int .i64 t352) := (blk_cell BK361.out 0).trans rfl
    have hcz49_1 : w34.cell? ⟨gb361, 1, none⟩ = some (.int .i64 t353) := (blk_cell BK361.out 1).trans rfl
    have hcz49_2 : w34.cell? ⟨gb361, 2, none⟩ = some (.slice Ao23 t354.length co23) := (blk_cell BK361.out 2).trans rfl
    have hcz49_3 : w34.cell? ⟨gb361, 3, none⟩ = some (.slice Ao24 t357.length co24) := (blk_cell BK361.out 3).trans rfl
    have hfz49_0 := blk_frozen BK361.out 0
    have hfz49_1 := blk_frozen BK361.out 1
    have hfz49_2 := blk_frozen BK361.out 2
    have hfz49_3 := blk_frozen BK361.out 3
    go_wp2_with (first | ((with_reducible refine gate_callee (f := 14) rfl ?_); refine goesL_ (some 34) rfl rfl Tryd.func14 (by kernel_rfl) rfl #[.agg #[.int .i64 t371, .int .i64 t372, .slice Ao39 t373.length co39, .slice Ao40 t376.length co40], .agg #[.int .i64 t352, .int .i64 t353, .slice Ao23 t354.length co23, .slice Ao24 t357.length co24]] rfl (by (try simp only [List.map_toArray, List.map_cons, List.map_nil]); first | done | rfl | (simp only [List.length_drop, List.length_take]; rfl)) ?_; (with_reducible refine (laws_eqFigure.calls k t371 t372 _ _ t373 _ _ t376 t352 t353 _ _ t354 _ _ t357 true _ ?side1 ?side2 ?side3 ?side4 ?side5 ?side6 ?side7 ?side8 A41.out).mono ?_); (case side1 => refine (Kd.R_reads' (e := 3) (base := w.heap.size) (ok := fun k_ => ((((((some k_ ≠ (.slice Ao40 t376.length co40 : Value).ownBlock ∧ some k_ ≠ (.slice Ao17 t346.length co17 : Value).ownBlock) ∧ some k_ ≠ (.slice Ao18 t349.length co18 : Value).ownBlock) ∧ some k_ ≠ (.slice Ao23 t354.length co23 : Value).ownBlock) ∧ some k_ ≠ (.slice Ao24 t357.length co24 : Value).ownBlock) ∧ some k_ ≠ (.slice Ao31 t364.length co31 : Value).ownBlock) ∧ some k_ ≠ (.slice Ao32 t367.length co32 : Value).ownBlock)) (n := t373.length) (c := co39) ?_).2.2; exact (by (with_reducible repeat (first | apply Kd.R_alloc | apply Kd.R_drewN | apply Kd.R_drew)); exact (Kd.R_mono (Kd.R_far (p := ⟨gb380, 3, none⟩) (Kd.R_far (p := ⟨gb380, 2, none⟩) (Kd.R_far (p := ⟨gb380, 1, none⟩) (Kd.R_far (p := ⟨gb380, 0, none⟩) (Kd.R_types HO375.out BK380.out (by decide)) (fun _ hk => hk.2) (.int .i64 t371)) (fun _ hk => hk.2) (.int .i64 t372)) (fun _ hk => hk.2) (.slice Ao39 t373.length co39)) (fun _ hk => hk.2) (.slice Ao40 t376.length co40)) (fun _ h_ => h_.1)))); (case side2 => exact (Kd.R_reads' HO375.out).2.1); (case side3 => refine (Kd.R_reads' (e := 3) (base := w.heap.size) (ok := fun k_ => ((((((some k_ ≠ (.slice Ao39 t373.length co39 : Value).ownBlock ∧ some k_ ≠ (.slice Ao17 t346.length co17 : Value).ownBlock) ∧ some k_ ≠ (.slice Ao18 t349.length co18 : Value).ownBlock) ∧ some k_ ≠ (.slice Ao23 t354.length co23 : Value).ownBlock) ∧ some k_ ≠ (.slice Ao24 t357.length co24 : Value).ownBlock) ∧ some k_ ≠ (.slice Ao31 t364.length co31 : Value).ownBlock) ∧ some k_ ≠ (.slice Ao32 t367.length co32 : Value).ownBlock)) (n := t376.length) (c := co40) ?_).2.2; exact (by (with_reducible repeat (first | apply Kd.R_alloc | apply Kd.R_drewN | apply Kd.R_drew)); exact (Kd.R_mono (Kd.R_far (p := ⟨gb380, 3, none⟩) (Kd.R_far (p := ⟨gb380, 2, none⟩) (Kd.R_far (p := ⟨gb380, 1, none⟩) (Kd.R_far (p := ⟨gb380, 0, none⟩) (Kd.R_types HO378.out BK380.out (by decide)) (fun _ hk => hk.2) (.int .i64 t371)) (fun _ hk => hk.2) (.int .i64 t372)) (fun _ hk => hk.2) (.slice Ao39 t373.length co39)) (fun _ hk => hk.2) (.slice Ao40 t376.length co40)) (fun _ h_ => h_.1)))); (case side4 => exact (Kd.R_reads' HO378.out).2.1); (case side5 => refine (Kd.R_reads' (e := 3) (base := w.heap.size) (ok := fun k_ => ((((((some k_ ≠ (.slice Ao24 t357.length co24 : Value).ownBlock ∧ some k_ ≠ (.slice Ao17 t346.length co17 : Value).ownBlock) ∧ some k_ ≠ (.slice Ao18 t349.length co18 : Value).ownBlock) ∧ some k_ ≠ (.slice Ao31 t364.length co31 : Value).ownBlock) ∧ some k_ ≠ (.slice Ao32 t367.length co32 : Value).ownBlock) ∧ some k_ ≠ (.slice Ao39 t373.length co39 : Value).ownBlock) ∧ some k_ ≠ (.slice Ao40 t376.length co40 : Value).ownBlock)) (n := t354.length) (c := co23) ?_).2.2; exact (by (with_reducible repeat (first | apply Kd.R_alloc | apply Kd.R_drewN | apply Kd.R_drew)); exact (Kd.R_mono (Kd.R_far (p := ⟨gb380, 3, none⟩) (Kd.R_far (p := ⟨gb380, 2, none⟩) (Kd.R_far (p := ⟨gb380, 1, none⟩) (Kd.R_far (p := ⟨gb380, 0, none⟩) (Kd.R_types HO356.out BK380.out (by decide)) (fun _ hk => hk.2) (.int .i64 t371)) (fun _ hk => hk.2) (.int .i64 t372)) (fun _ hk => hk.2) (.slice Ao39 t373.length co39)) (fun _ hk => hk.2) (.slice Ao40 t376.length co40)) (fun _ h_ => h_.1)))); (case side6 => exact (Kd.R_reads' HO356.out).2.1); (case side7 => refine (Kd.R_reads' (e := 3) (base := w.heap.size) (ok := fun k_ => ((((((some k_ ≠ (.slice Ao23 t354.length co23 : Value).ownBlock ∧ some k_ ≠ (.slice Ao17 t346.length co17 : Value).ownBlock) ∧ some k_ ≠ (.slice Ao18 t349.length co18 : Value).ownBlock) ∧ some k_ ≠ (.slice Ao31 t364.length co31 : Value).ownBlock) ∧ some k_ ≠ (.slice Ao32 t367.length co32 : Value).ownBlock) ∧ some k_ ≠ (.slice Ao39 t373.length co39 : Value).ownBlock) ∧ some k_ ≠ (.slice Ao40 t376.length co40 : Value).ownBlock)) (n := t357.length) (c := co24) ?_).2.2; exact (by (with_reducible repeat (first | apply Kd.R_alloc | apply Kd.R_drewN | apply Kd.R_drew)); exact (Kd.R_mono (Kd.R_far (p := ⟨gb380, 3, none⟩) (Kd.R_far (p := ⟨gb380, 2, none⟩) (Kd.R_far (p := ⟨gb380, 1, none⟩) (Kd.R_far (p := ⟨gb380, 0, none⟩) (Kd.R_types HO359.out BK380.out (by decide)) (fun _ hk => hk.2) (.int .i64 t371)) (fun _ hk => hk.2) (.int .i64 t372)) (fun _ hk => hk.2) (.slice Ao39 t373.length co39)) (fun _ hk => hk.2) (.slice Ao40 t376.length co40)) (fun _ h_ => h_.1)))); (case side8 => exact (Kd.R_reads' HO359.out).2.1); rintro e w50 ⟨rfl, hb⟩; refine ⟨_, rfl, ?_⟩; have n0_ := Aside0.mk (Kd.PB_below (by (with_reducible repeat (first | apply Kd.PB_alloc | apply Kd.PB_drewN | apply Kd.PB_drew)); exact (Kd.PB_mono (Kd.PB_far (p := ⟨gb380, 3, none⟩) (Kd.PB_far (p := ⟨gb380, 2, none⟩) (Kd.PB_far (p := ⟨gb380, 1, none⟩) (Kd.PB_far (p := ⟨gb380, 0, none⟩) (Kd.PB_types HO348.out BK380.out (by decide)) (fun _ hk => hk.2) (.int .i64 t371)) (fun _ hk => hk.2) (.int .i64 t372)) (fun _ hk => hk.2) (.slice Ao39 t373.length co39)) (fun _ hk => hk.2) (.slice Ao40 t376.length co40)) (fun _ h_ => h_.1))) hb); have n1_ := Aside0.mk (Kd.PB_below (by (with_reducible repeat (first | apply Kd.PB_alloc | apply Kd.PB_drewN | apply Kd.PB_drew)); exact (Kd.PB_mono (Kd.PB_far (p := ⟨gb380, 3, none⟩) (Kd.PB_far (p := ⟨gb380, 2, none⟩) (Kd.PB_far (p := ⟨gb380, 1, none⟩) (Kd.PB_far (p := ⟨gb380, 0, none⟩) (Kd.PB_types HO351.out BK380.out (by decide)) (fun _ hk => hk.2) (.int .i64 t371)) (fun _ hk => hk.2) (.int .i64 t372)) (fun _ hk => hk.2) (.slice Ao39 t373.length co39)) (fun _ hk => hk.2) (.slice Ao40 t376.length co40)) (fun _ h_ => h_.1))) hb); have n2_ := Aside0.mk (Kd.R_below (by (with_reducible repeat (first | apply Kd.R_alloc | apply Kd.R_drewN | apply Kd.R_drew)); exact (Kd.R_mono (Kd.R_far (p := ⟨gb380, 3, none⟩) (Kd.R_far (p := ⟨gb380, 2, none⟩) (Kd.R_far (p := ⟨gb380, 1, none⟩) (Kd.R_far (p := ⟨gb380, 0, none⟩) (Kd.R_types HO356.out BK380.out (by decide)) (fun _ hk => hk.2) (.int .i64 t371)) (fun _ hk => hk.2) (.int .i64 t372)) (fun _ hk => hk.2) (.slice Ao39 t373.length co39)) (fun _ hk => hk.2) (.slice Ao40 t376.length co40)) (fun _ h_ => h_.1))) hb); have n3_ := Aside0.mk (Kd.R_below (by (with_reducible repeat (first | apply Kd.R_alloc | apply Kd.R_drewN | apply Kd.R_drew)); exact (Kd.R_mono (Kd.R_far (p := ⟨gb380, 3, none⟩) (Kd.R_far (p := ⟨gb380, 2, none⟩) (Kd.R_far (p := ⟨gb380, 1, none⟩) (Kd.R_far (p := ⟨gb380, 0, none⟩) (Kd.R_types HO359.out BK380.out (by decide)) (fun _ hk => hk.2) (.int .i64 t371)) (fun _ hk => hk.2) (.int .i64 t372)) (fun _ hk => hk.2) (.slice Ao39 t373.length co39)) (fun _ hk => hk.2) (.slice Ao40 t376.length co40)) (fun _ h_ => h_.1))) hb); have n4_ := Aside0.mk (Kd.PB_below (by (with_reducible repeat (first | apply Kd.PB_alloc | apply Kd.PB_drewN | apply Kd.PB_drew)); exact (Kd.PB_mono (Kd.PB_far (p := ⟨gb380, 3, none⟩) (Kd.PB_far (p := ⟨gb380, 2, none⟩) (Kd.PB_far (p := ⟨gb380, 1, none⟩) (Kd.PB_far (p := ⟨gb380, 0, none⟩) (Kd.PB_types HO366.out BK380.out (by decide)) (fun _ hk => hk.2) (.int .i64 t371)) (fun _ hk => hk.2) (.int .i64 t372)) (fun _ hk => hk.2) (.slice Ao39 t373.length co39)) (fun _ hk => hk.2) (.slice Ao40 t376.length co40)) (fun _ h_ => h_.1))) hb); have n5_ := Aside0.mk (Kd.PB_below (by (with_reducible repeat (first | apply Kd.PB_alloc | apply Kd.PB_drewN | apply Kd.PB_drew)); exact (Kd.PB_mono (Kd.PB_far (p := ⟨gb380, 3, none⟩) (Kd.PB_far (p := ⟨gb380, 2, none⟩) (Kd.PB_far (p := ⟨gb380, 1, none⟩) (Kd.PB_far (p := ⟨gb380, 0, none⟩) (Kd.PB_types HO369.out BK380.out (by decide)) (fun _ hk => hk.2) (.int .i64 t371)) (fun _ hk => hk.2) (.int .i64 t372)) (fun _ hk => hk.2) (.slice Ao39 t373.length co39)) (fun _ hk => hk.2) (.slice Ao40 t376.length co40)) (fun _ h_ => h_.1))) hb); have n6_ := Aside0.mk (Kd.R_below (by (with_reducible repeat (first | apply Kd.R_alloc | apply Kd.R_drewN | apply Kd.R_drew)); exact (Kd.R_mono (Kd.R_far (p := ⟨gb380, 3, none⟩) (Kd.R_far (p := ⟨gb380, 2, none⟩) (Kd.R_far (p := ⟨gb380, 1, none⟩) (Kd.R_far (p := ⟨gb380, 0, none⟩) (Kd.R_types HO375.out BK380.out (by decide)) (fun _ hk => hk.2) (.int .i64 t371)) (fun _ hk => hk.2) (.int .i64 t372)) (fun _ hk => hk.2) (.slice Ao39 t373.length co39)) (fun _ hk => hk.2) (.slice Ao40 t376.length co40)) (fun _ h_ => h_.1))) hb); have n7_ := Aside0.mk (Kd.R_below (by (with_reducible repeat (first | apply Kd.R_alloc | apply Kd.R_drewN | apply Kd.R_drew)); exact (Kd.R_mono (Kd.R_far (p := ⟨gb380, 3, none⟩) (Kd.R_far (p := ⟨gb380, 2, none⟩) (Kd.R_far (p := ⟨gb380, 1, none⟩) (Kd.R_far (p := ⟨gb380, 0, none⟩) (Kd.R_types HO378.out BK380.out (by decide)) (fun _ hk => hk.2) (.int .i64 t371)) (fun _ hk => hk.2) (.int .i64 t372)) (fun _ hk => hk.2) (.slice Ao39 t373.length co39)) (fun _ hk => hk.2) (.slice Ao40 t376.length co40)) (fun _ h_ => h_.1))) hb); have n8_ := Aside0.mk (blk_below (g := gb342) (o := .cells #[.int .i64 a0_0, .int .i64 a0_1, .slice A0_2 l0_2.length c0_2, .slice A0_3 l0_3.length c0_3] 24 (0, 0)) (by (with_reducible repeat (first | refine blk_drewN ?_ _ | refine blk_drew ?_ | refine blk_alloc ?_ _)); refine blk_far ?_ NB342_380.out _; (with_reducible repeat (first | refine blk_drewN ?_ _ | refine blk_drew ?_ | refine blk_alloc ?_ _)); refine blk_far ?_ NB342_380.out _; (with_reducible repeat (first | refine blk_drewN ?_ _ | refine blk_drew ?_ | refine blk_alloc ?_ _)); refine blk_far ?_ NB342_380.out _; (with_reducible repeat (first | refine blk_drewN ?_ _ | refine blk_drew ?_ | refine blk_alloc ?_ _)); refine blk_far ?_ NB342_380.out _; (with_reducible repeat (first | refine blk_drewN ?_ _ | refine blk_drew ?_ | refine blk_alloc ?_ _)); exact BK342.out) hb); have n9_ := Aside0.mk (blk_below (g := gb361) (o := .cells #[.int .i64 t352, .int .i64 t353, .slice Ao23 t354.length co23, .slice Ao24 t357.length co24] 26 (0, 0)) (by (with_reducible repeat (first | refine blk_drewN ?_ _ | refine blk_drew ?_ | refine blk_alloc ?_ _)); refine blk_far ?_ NB361_380.out _; (with_reducible repeat (first | refine blk_drewN ?_ _ | refine blk_drew ?_ | refine blk_alloc ?_ _)); refine blk_far ?_ NB361_380.out _; (with_reducible repeat (first | refine blk_drewN ?_ _ | refine blk_drew ?_ | refine blk_alloc ?_ _)); refine blk_far ?_ NB361_380.out _; (with_reducible repeat (first | refine blk_drewN ?_ _ | refine blk_drew ?_ | refine blk_alloc ?_ _)); refine blk_far ?_ NB361_380.out _; (with_reducible repeat (first | refine blk_drewN ?_ _ | refine blk_drew ?_ | refine blk_alloc ?_ _)); exact BK361.out) hb); have n10_ := Aside0.mk (blk_below (g := gb370) (o := .cells #[.int .i64 t362, .int .i64 t363, .slice Ao31 t364.length co31, .slice Ao32 t367.length co32] 26 (0, 0)) (by (with_reducible repeat (first | refine blk_drewN ?_ _ | refine blk_drew ?_ | refine blk_alloc ?_ _)); refine blk_far ?_ NB370_380.out _; (with_reducible repeat (first | refine blk_drewN ?_ _ | refine blk_drew ?_ | refine blk_alloc ?_ _)); refine blk_far ?_ NB370_380.out _; (with_reducible repeat (first | refine blk_drewN ?_ _ | refine blk_drew ?_ | refine blk_alloc ?_ _)); refine blk_far ?_ NB370_380.out _; (with_reducible repeat (first | refine blk_drewN ?_ _ | refine blk_drew ?_ | refine blk_alloc ?_ _)); refine blk_far ?_ NB370_380.out _; (with_reducible repeat (first | refine blk_drewN ?_ _ | refine blk_drew ?_ | refine blk_alloc ?_ _)); exact BK370.out) hb); have n11_ := Aside0.mk (blk_below (g := gb380) (o := .cells #[.int .i64 t371, .int .i64 t372, .slice Ao39 t373.length co39, .slice Ao40 t376.length co40] 26 (0, 0)) (by (with_reducible repeat (first | refine blk_drewN ?_ _ | refine blk_drew ?_ | refine blk_alloc ?_ _)); refine blk_put (cs := #[.int .i64 t371, .int .i64 t372, .slice Ao39 t373.length co39, .slice none 0 0]) ?_ 3 _ rfl; (with_reducible repeat (first | refine blk_drewN ?_ _ | refine blk_drew ?_ | refine blk_alloc ?_ _)); refine blk_put (cs := #[.int .i64 t371, .int .i64 t372, .slice none 0 0, .slice none 0 0]) ?_ 2 _ rfl; (with_reducible repeat (first | refine blk_drewN ?_ _ | refine blk_drew ?_ | refine blk_alloc ?_ _)); refine blk_put (cs := #[.int .i64 t371, .int .i64 0, .slice none 0 0, .slice none 0 0]) ?_ 1 _ rfl; (with_reducible repeat (first | refine blk_drewN ?_ _ | refine blk_drew ?_ | refine blk_alloc ?_ _)); refine blk_put (cs := #[.int .i64 0, .int .i64 0, .slice none 0 0, .slice none 0 0]) ?_ 0 _ rfl; (with_reducible repeat (first | refine blk_drewN ?_ _ | refine blk_drew ?_ | refine blk_alloc ?_ _)); exact BK380.out) hb); have n12_ := Aside0.mk (below_step (by repeat (first | (with_reducible first | exact HB.out | apply below_alloc | apply pw_below_drewN | apply below_drew1 | refine below_set ?_ GE342.out | refine below_set ?_ GE361.out | refine below_set ?_ GE370.out | refine below_set ?_ GE380.out) | exact HB.out)) hb); clear HO348; clear HO351; clear HO356; clear HO359; clear HO366; clear HO369; clear HO375; clear HO378; clear BK342; clear BK361; clear BK370; clear BK380; clear HB; have HO348 := n0_; have HO351 := n1_; have HO356 := n2_; have HO359 := n3_; have HO366 := n4_; have HO369 := n5_; have HO375 := n6_; have HO378 := n7_; have BK342 := n8_; have BK361 := n9_; have BK370 := n10_; have BK380 := n11_; have HB := n12_; clear n0_ n1_ n2_ n3_ n4_ n5_ n6_ n7_ n8_ n9_ n10_ n11_ n12_; (try clear hb); (try clear hb2); (try clear hk); (try clear hi)))
    go_meet
    case rel => exact ⟨_, ((t379 != t360)), (by first | rfl | (simp; done) | (simp [*]; done)), H', ⟨by first | omega | exact Nat.le_refl _⟩, ⟨by (with_reducible repeat (first | apply Kd.R_alloc | apply Kd.R_drewN | apply Kd.R_drew)); exact Kd.R_mono HO356.out (fun _ hk => ⟨hk.1.1.1.1.1.1, ⟨hk.1.1.1.2, ⟨hk.1.1.2, ⟨hk.1.2, hk.2⟩⟩⟩⟩)⟩, ⟨by (with_reducible repeat (first | apply Kd.R_alloc | apply Kd.R_drewN | apply Kd.R_drew)); exact Kd.R_mono HO359.out (fun _ hk => ⟨hk.1.1.1.1.1.1, ⟨hk.1.1.1.2, ⟨hk.1.1.2, ⟨hk.1.2, hk.2⟩⟩⟩⟩)⟩, ⟨by (with_reducible repeat (first | apply Kd.PB_alloc | apply Kd.PB_drewN | apply Kd.PB_drew)); exact Kd.PB_mono HO366.out (fun _ hk => ⟨hk.1.1.1.2, ⟨hk.1.1.2, ⟨hk.1.1.1.1.1.1, ⟨hk.1.2, hk.2⟩⟩⟩⟩)⟩, ⟨by (with_reducible repeat (first | apply Kd.PB_alloc | apply Kd.PB_drewN | apply Kd.PB_drew)); exact Kd.PB_mono HO369.out (fun _ hk => ⟨hk.1.1.1.2, ⟨hk.1.1.2, ⟨hk.1.1.1.1.1.1, ⟨hk.1.2, hk.2⟩⟩⟩⟩)⟩, ⟨by (with_reducible repeat (first | apply Kd.R_alloc | apply Kd.R_drewN | apply Kd.R_drew)); exact Kd.R_mono HO375.out (fun _ hk => ⟨hk.1.1.1.2, ⟨hk.1.1.2, ⟨hk.1.2, ⟨hk.2, hk.1.1.1.1.1.1⟩⟩⟩⟩)⟩, ⟨by (with_reducible repeat (first | apply Kd.R_alloc | apply Kd.R_drewN | apply Kd.R_drew)); exact Kd.R_mono HO378.out (fun _ hk => ⟨hk.1.1.1.2, ⟨hk.1.1.2, ⟨hk.1.2, ⟨hk.2, hk.1.1.1.1.1.1⟩⟩⟩⟩)⟩, ⟨by (with_reducible repeat (first | refine blk_drewN ?_ _ | refine blk_drew ?_ | refine blk_alloc ?_ _)); exact BK342.out⟩, ⟨by (with_reducible repeat (first | refine blk_drewN ?_ _ | refine blk_drew ?_ | refine blk_alloc ?_ _)); exact BK361.out⟩, ⟨by (with_reducible repeat (first | refine blk_drewN ?_ _ | refine blk_drew ?_ | refine blk_alloc ?_ _)); exact BK370.out⟩, ⟨by (with_reducible repeat (first | refine blk_drewN ?_ _ | refine blk_drew ?_ | refine blk_alloc ?_ _)); exact BK380.out⟩, ⟨by repeat (first | (with_reducible first | exact HB.out | apply below_alloc | apply pw_below_drewN | apply below_drew1 | refine below_set ?_ GE342.out | refine below_set ?_ GE361.out | refine below_set ?_ GE370.out | refine below_set ?_ GE380.out) | exact HB.out)⟩⟩
   ·replace c42 := Bool.eq_false_iff.mpr c42
    subst c42
    have H1 : (laws_FnExactTurnFigure.j0 k t360 t379 true a0_0 a0_1 l0_2 l0_3 t352 t353 t354 t357 t362 t363 t364 t367 t371 t372 t373 t376) = some r := by rw [if_neg (show ¬ (false = true) by decide)] at H; exact H
    clear H
    have H := H1
    clear H1
    exact absurd HR_.out (by cases k <;> simp [laws_FnExactTurnFigure.j0] at H <;> first | simp [← H] | simp [H] | simp_all)
  case rest =>
   clear HC11
   try clear c1
   try clear c2
   try clear p2
   try clear c3
   try clear c3b0
   try clear c4
   try clear c8
   try clear c10
   try clear c12
   try clear c14
   try clear c21
   try clear c28
   try clear c29
   try clear c30
   try clear c35
   try clear c36
   try clear c37
   try clear c42
   try clear c43
   try clear c44
   try clear c45
   try clear c47
   try clear c48
   try clear hcz13_0
   try clear hcz13_1
   try clear hcz13_2
   try clear hcz13_3
   try clear hcz15_0
   try clear hcz15_1
   try clear hcz15_2
   try clear hcz15_3
   try clear hcz22_0
   try clear hcz22_1
   try clear hcz22_2
   try clear hcz22_3
   try clear hcz25_0
   try clear hcz25_1
   try clear hcz25_2
   try clear hcz25_3
   try clear hcz30_0
   try clear hcz30_1
   try clear hcz30_2
   try clear hcz30_3
   try clear hcz38_0
   try clear hcz38_1
   try clear hcz38_2
   try clear hcz38_3
   try clear hcz46_0
   try clear hcz46_1
   try clear hcz46_2
   try clear hcz46_3
   try clear hcz49_0
   try clear hcz49_1
   try clear hcz49_2
   try clear hcz49_3
   try clear hcz5_0
   try clear hcz5_1
   try clear hcz5_2
   try clear hcz5_3
   try clear hfz13_0
   try clear hfz13_1
   try clear hfz13_2
   try clear hfz13_3
   try clear hfz15_0
   try clear hfz15_1
   try clear hfz15_2
   try clear hfz15_3
   try clear hfz22_0
   try clear hfz22_1
   try clear hfz22_2
   try clear hfz22_3
   try clear hfz25_0
   try clear hfz25_1
   try clear hfz25_2
   try clear hfz25_3
   try clear hfz30_0
   try clear hfz30_1
   try clear hfz30_2
   try clear hfz30_3
   try clear hfz38_0
   try clear hfz38_1
   try clear hfz38_2
   try clear hfz38_3
   try clear hfz46_0
   try clear hfz46_1
   try clear hfz46_2
   try clear hfz46_3
   try clear hfz49_0
   try clear hfz49_1
   try clear hfz49_2
   try clear hfz49_3
   try clear hfz5_0
   try clear hfz5_1
   try clear hfz5_2
   try clear hfz5_3
   obtain ⟨kq, x40_10, rfl, HA, HJ10, HO_362002, HO_362003, HO_371002, HO_371003, HO_381002, HO_381003, BK342, BK361, BK370, BK380, HB⟩ := hcut
   cases kq with
   | zero => exact absurd HA.out (by simp [laws_FnExactTurnFigure.j0])
   | succ kj10 =>
    have H := HA.out
    clear HA
    simp only [laws_FnExactTurnFigure.j0] at H
    by_cases c51 : x40_10 = true
    ·subst c51
     have H1 : (some false) = some r := by rw [if_pos rfl] at H; exact H
     clear H
     have H := H1
     clear H1
     exact absurd ((Option.some.inj H).trans HR_.out) Bool.false_ne_true
    ·replace c51 := Bool.eq_false_iff.mpr c51
     subst c51
     have H1 : ((laws_toFigure.f a0_0 a0_1 l0_2 l0_3 false).bind fun bt382 => ((laws_intactFigure.f t362 t363 t364 t367 bt382.1 bt382.2.1 bt382.2.2.1 bt382.2.2.2).bind fun t390 => (if t390 = true then ((laws_markFigure.f kj10 t362 t363 t364 t367 101).bind fun bt391 => (if bt391.1 < 0 then (laws_FnExactTurnFigure.j1 kj10 t360 true a0_0 a0_1 l0_2 l0_3 t352 t353 t354 t357 t371 t372 t373 t376) else ((laws_eqFigure.f kj10 t371 t372 t373 t376 t352 t353 t354 t357).bind fun t394 => (if t394 = true then (laws_FnExactTurnFigure.j1 kj10 t360 (t379 != t360) a0_0 a0_1 l0_2 l0_3 t352 t353 t354 t357 t371 t372 t373 t376) else (laws_FnExactTurnFigure.j1 kj10 t360 true a0_0 a0_1 l0_2 l0_3 t352 t353 t354 t357 t371 t372 t373 t376))))) else (some false)))) = some r := by rw [if_neg (show ¬ (false = true) by decide)] at H; exact H
     clear H
     have H := H1
     clear H1
     replace H := Option.bind_eq_some_iff.mp H
     obtain ⟨⟨t382, t383, t384, t387⟩, A520, H⟩ := H
     replace H : ((laws_intactFigure.f t362 t363 t364 t367 t382 t383 t384 t387).bind fun t390 => (if t390 = true then ((laws_markFigure.f kj10 t362 t363 t364 t367 101).bind fun bt391 => (if bt391.1 < 0 then (laws_FnExactTurnFigure.j1 kj10 t360 true a0_0 a0_1 l0_2 l0_3 t352 t353 t354 t357 t371 t372 t373 t376) else ((laws_eqFigure.f kj10 t371 t372 t373 t376 t352 t353 t354 t357).bind fun t394 => (if t394 = true then (laws_FnExactTurnFigure.j1 kj10 t360 (t379 != t360) a0_0 a0_1 l0_2 l0_3 t352 t353 t354 t357 t371 t372 t373 t376) else (laws_FnExactTurnFigure.j1 kj10 t360 true a0_0 a0_1 l0_2 l0_3 t352 t353 t354 t357 t371 t372 t373 t376))))) else (some false))) = some r := H
     have A52 := Aside0.mk A520
     clear A520
     replace H := Option.bind_eq_some_iff.mp H
     obtain ⟨t390, A530, H⟩ := H
     replace H : (if t390 = true then ((laws_markFigure.f kj10 t362 t363 t364 t367 101).bind fun bt391 => (if bt391.1 < 0 then (laws_FnExactTurnFigure.j1 kj10 t360 true a0_0 a0_1 l0_2 l0_3 t352 t353 t354 t357 t371 t372 t373 t376) else ((laws_eqFigure.f kj10 t371 t372 t373 t376 t352 t353 t354 t357).bind fun t394 => (if t394 = true then (laws_FnExactTurnFigure.j1 kj10 t360 (t379 != t360) a0_0 a0_1 l0_2 l0_3 t352 t353 t354 t357 t371 t372 t373 t376) else (laws_FnExactTurnFigure.j1 kj10 t360 true a0_0 a0_1 l0_2 l0_3 t352 t353 t354 t357 t371 t372 t373 t376))))) else (some false)) = some r := H
     have A53 := Aside0.mk A530
     clear A530
     by_cases c54 : t390 = true
     ·subst c54
      have H1 : ((laws_markFigure.f kj10 t362 t363 t364 t367 101).bind fun bt391 => (if bt391.1 < 0 then (laws_FnExactTurnFigure.j1 kj10 t360 true a0_0 a0_1 l0_2 l0_3 t352 t353 t354 t357 t371 t372 t373 t376) else ((laws_eqFigure.f kj10 t371 t372 t373 t376 t352 t353 t354 t357).bind fun t394 => (if t394 = true then (laws_FnExactTurnFigure.j1 kj10 t360 (t379 != t360) a0_0 a0_1 l0_2 l0_3 t352 t353 t354 t357 t371 t372 t373 t376) else (laws_FnExactTurnFigure.j1 kj10 t360 true a0_0 a0_1 l0_2 l0_3 t352 t353 t354 t357 t371 t372 t373 t376))))) = some r := by rw [if_pos rfl] at H; exact H
      clear H
      have H := H1
      clear H1
      replace H := Option.bind_eq_some_iff.mp H
      obtain ⟨⟨t391, t392, t393⟩, A550, H⟩ := H
      replace H : (if t391 < 0 then (laws_FnExactTurnFigure.j1 kj10 t360 true a0_0 a0_1 l0_2 l0_3 t352 t353 t354 t357 t371 t372 t373 t376) else ((laws_eqFigure.f kj10 t371 t372 t373 t376 t352 t353 t354 t357).bind fun t394 => (if t394 = true then (laws_FnExactTurnFigure.j1 kj10 t360 (t379 != t360) a0_0 a0_1 l0_2 l0_3 t352 t353 t354 t357 t371 t372 t373 t376) else (laws_FnExactTurnFigure.j1 kj10 t360 true a0_0 a0_1 l0_2 l0_3 t352 t353 t354 t357 t371 t372 t373 t376)))) = some r := H
      have A55 := Aside0.mk A550
      clear A550
      have HC56 := Aside0.mk H
      clear H
      try go_wp2
      have n0_ := Aside0.mk (Kd.R_drew HO_362002.out)
      have n1_ := Aside0.mk (Kd.R_drew HO_362003.out)
      have n2_ := Aside0.mk (Kd.PB_drew HO_371002.out)
      have n3_ := Aside0.mk (Kd.PB_drew HO_371003.out)
      have n4_ := Aside0.mk (Kd.R_drew HO_381002.out)
      have n5_ := Aside0.mk (Kd.R_drew HO_381003.out)
      have n6_ := Aside0.mk (blk_drew BK342.out)
      have n7_ := Aside0.mk (blk_drew BK361.out)
      have n8_ := Aside0.mk (blk_drew BK370.out)
      have n9_ := Aside0.mk (blk_drew BK380.out)
      have n10_ := Aside0.mk (below_drew1 HB.out)
      clear HO_362002
      clear HO_362003
      clear HO_371002
      clear HO_371003
      clear HO_381002
      clear HO_381003
      clear BK342
      clear BK361
      clear BK370
      clear BK380
      clear HB
      have HO_362002 := n0_
      have HO_362003 := n1_
      have HO_371002 := n2_
      have HO_371003 := n3_
      have HO_381002 := n4_
      have HO_381003 := n5_
      have BK342 := n6_
      have BK361 := n7_
      have BK370 := n8_
      have BK380 := n9_
      have HB := n10_
      clear n0_ n1_ n2_ n3_ n4_ n5_ n6_ n7_ n8_ n9_ n10_
      refine start_ (n := 5) (S := fun w' => w'.cell? ⟨gb370, 0, none⟩ = some (.int .i64 t362) ∧ w'.cell? ⟨gb370, 1, none⟩ = some (.int .i64 t363) ∧ w'.cell? ⟨gb370, 2, none⟩ = some (.slice Ao31 t364.length co31) ∧ w'.cell? ⟨gb370, 3, none⟩ = some (.slice Ao32 t367.length co32) ∧ w'.cell? ⟨gb342, 0, none⟩ = some (.int .i64 a0_0) ∧ w'.cell? ⟨gb342, 1, none⟩ = some (.int .i64 a0_1) ∧ w'.cell? ⟨gb342, 2, none⟩ = some (.slice A0_2 l0_2.length c0_2) ∧ w'.cell? ⟨gb342, 3, none⟩ = some (.slice A0_3 l0_3.length c0_3)) (ds := []) #[false, false, false, false, false] (by kernel_rfl) rfl rfl ⟨(blk_cell BK370.out 0).trans rfl, (blk_cell BK370.out 1).trans rfl, (blk_cell BK370.out 2).trans rfl, (blk_cell BK370.out 3).trans rfl, (blk_cell BK342.out 0).trans rfl, (blk_cell BK342.out 1).trans rfl, (blk_cell BK342.out 2).trans rfl, (blk_cell BK342.out 3).trans rfl⟩ (fun hHeld => ?_)
      generalize wc.drew = w57 at HO_362002 HO_362003 HO_371002 HO_371003 HO_381002 HO_381003 BK342 BK361 BK370 BK380 HB hHeld ⊢
      refine take_ (i := 0) (N := some 41) (v := ?_) (a' := ?_) #[true, false, false, false, false] rfl rfl (by kernel_rfl) (fun _ _ _ h => h) (Or.inl ⟨by rfl, ?_⟩) hHeld ?_ ?_
      rotate_left
      ·rintro w' ⟨s0, s1, s2, s3, s4, s5, s6, s7⟩
       go_simp
       with_reducible rfl
      rotate_left
      ·simp only [Act.put, List.setIfInBounds_toArray, List.set_cons_zero, List.set_cons_succ, i64_w, i32_w]
       rfl
      refine take_ (i := 1) (N := some 42) (v := ?_) (a' := ?_) #[true, true, false, false, false] rfl rfl (by kernel_rfl) (fun _ _ _ h => h) (Or.inl ⟨by rfl, ?_⟩) hHeld ?_ ?_
      rotate_left
      ·rintro w' ⟨s0, s1, s2, s3, s4, s5, s6, s7⟩
       go_simp
       with_reducible rfl
      rotate_left
      ·simp only [Act.put, List.setIfInBounds_toArray, List.set_cons_zero, List.set_cons_succ, i64_w, i32_w]
       rfl
      refine one_ (i := 2) (N := some 43) #[true, true, true, false, false] rfl rfl (by kernel_rfl) (by decide) (fun K hK => ?_)
      refine goes_ Tryd.func12 (by kernel_rfl) rfl #[.agg #[.int .i64 a0_0, .int .i64 a0_1, .slice A0_2 l0_2.length c0_2, .slice A0_3 l0_3.length c0_3], .bool false] (by rfl) rfl rfl (by (try simp only [List.map_toArray, List.map_cons, List.map_nil]); first | done | rfl | (simp only [List.length_drop, List.length_take]; rfl)) ?_
      with_reducible refine (laws_toFigure.calls a0_0 a0_1 _ _ l0_2 _ _ l0_3 false t382 t383 t384 t387 _ ?side1 ?side2 ?side3 ?side4 A52.out).mono ?_
      (case side1 => repeat (first | exact (Kd.C_below HR0_2.out HB.out) | (with_reducible refine Kd.C_alloc ?_ _) | (with_reducible refine Kd.C_drewN ?_ _) | (with_reducible refine Kd.C_drew ?_)))
      (case side2 => exact HC0_2.out)
      (case side3 => repeat (first | exact (Kd.C_below HR0_3.out HB.out) | (with_reducible refine Kd.C_alloc ?_ _) | (with_reducible refine Kd.C_drewN ?_ _) | (with_reducible refine Kd.C_drew ?_)))
      (case side4 => exact HC0_3.out)
      rintro e w58 ⟨v385, v388, rfl, ho0, ho1, hb⟩
      refine ⟨_, rfl, ?_⟩
      have n0_ := Aside0.mk (Kd.R_mono (Kd.R_told (Kd.R_told (Kd.R_old (by (with_reducible repeat (first | apply Kd.R_alloc | apply Kd.R_drewN | apply Kd.R_drew)); exact HO_362002.out) hb) (Kd.PB_base ho0)) (Kd.PB_base ho1)) (fun _ h_ => h_.1))
      have n1_ := Aside0.mk (Kd.R_mono (Kd.R_told (Kd.R_told (Kd.R_old (by (with_reducible repeat (first | apply Kd.R_alloc | apply Kd.R_drewN | apply Kd.R_drew)); exact HO_362003.out) hb) (Kd.PB_base ho0)) (Kd.PB_base ho1)) (fun _ h_ => h_.1))
      have n2_ := Aside0.mk (Kd.PB_mono (Kd.PB_told (Kd.PB_told (Kd.PB_old (by (with_reducible repeat (first | apply Kd.PB_alloc | apply Kd.PB_drewN | apply Kd.PB_drew)); exact HO_371002.out) hb) (Kd.PB_base ho0)) (Kd.PB_base ho1)) (fun _ h_ => h_.1))
      have n3_ := Aside0.mk (Kd.PB_mono (Kd.PB_told (Kd.PB_told (Kd.PB_old (by (with_reducible repeat (first | apply Kd.PB_alloc | apply Kd.PB_drewN | apply Kd.PB_drew)); exact HO_371003.out) hb) (Kd.PB_base ho0)) (Kd.PB_base ho1)) (fun _ h_ => h_.1))
      have n4_ := Aside0.mk (Kd.R_mono (Kd.R_told (Kd.R_told (Kd.R_old (by (with_reducible repeat (first | apply Kd.R_alloc | apply Kd.R_drewN | apply Kd.R_drew)); exact HO_381002.out) hb) (Kd.PB_base ho0)) (Kd.PB_base ho1)) (fun _ h_ => h_.1))
      have n5_ := Aside0.mk (Kd.R_mono (Kd.R_told (Kd.R_told (Kd.R_old (by (with_reducible repeat (first | apply Kd.R_alloc | apply Kd.R_drewN | apply Kd.R_drew)); exact HO_381003.out) hb) (Kd.PB_base ho0)) (Kd.PB_base ho1)) (fun _ h_ => h_.1))
      have n6_ := Aside0.mk (Kd.PB_lower (Kd.PB_new' (Kd.PB_new' (Kd.PB_new' (Kd.PB_new' (Kd.PB_new' (Kd.PB_new' ho0 (Kd.R_lt (by (with_reducible repeat (first | apply Kd.R_alloc | apply Kd.R_drewN | apply Kd.R_drew)); exact HO_362002.out))) (Kd.R_lt (by (with_reducible repeat (first | apply Kd.R_alloc | apply Kd.R_drewN | apply Kd.R_drew)); exact HO_362003.out))) (Kd.PB_lt (by (with_reducible repeat (first | apply Kd.PB_alloc | apply Kd.PB_drewN | apply Kd.PB_drew)); exact HO_371002.out))) (Kd.PB_lt (by (with_reducible repeat (first | apply Kd.PB_alloc | apply Kd.PB_drewN | apply Kd.PB_drew)); exact HO_371003.out))) (Kd.R_lt (by (with_reducible repeat (first | apply Kd.R_alloc | apply Kd.R_drewN | apply Kd.R_drew)); exact HO_381002.out))) (Kd.R_lt (by (with_reducible repeat (first | apply Kd.R_alloc | apply Kd.R_drewN | apply Kd.R_drew)); exact HO_381003.out))) (below_size (by repeat (first | (with_reducible first | exact HB.out | apply below_alloc | apply pw_below_drewN | apply below_drew1 | refine below_set ?_ GE342.out | refine below_set ?_ GE361.out | refine below_set ?_ GE370.out | refine below_set ?_ GE380.out) | exact HB.out))))
      have n7_ := Aside0.mk (Kd.PB_lower (Kd.PB_new' (Kd.PB_new' (Kd.PB_new' (Kd.PB_new' (Kd.PB_new' (Kd.PB_new' ho1 (Kd.R_lt (by (with_reducible repeat (first | apply Kd.R_alloc | apply Kd.R_drewN | apply Kd.R_drew)); exact HO_362002.out))) (Kd.R_lt (by (with_reducible repeat (first | apply Kd.R_alloc | apply Kd.R_drewN | apply Kd.R_drew)); exact HO_362003.out))) (Kd.PB_lt (by (with_reducible repeat (first | apply Kd.PB_alloc | apply Kd.PB_drewN | apply Kd.PB_drew)); exact HO_371002.out))) (Kd.PB_lt (by (with_reducible repeat (first | apply Kd.PB_alloc | apply Kd.PB_drewN | apply Kd.PB_drew)); exact HO_371003.out))) (Kd.R_lt (by (with_reducible repeat (first | apply Kd.R_alloc | apply Kd.R_drewN | apply Kd.R_drew)); exact HO_381002.out))) (Kd.R_lt (by (with_reducible repeat (first | apply Kd.R_alloc | apply Kd.R_drewN | apply Kd.R_drew)); exact HO_381003.out))) (below_size (by repeat (first | (with_reducible first | exact HB.out | apply below_alloc | apply pw_below_drewN | apply below_drew1 | refine below_set ?_ GE342.out | refine below_set ?_ GE361.out | refine below_set ?_ GE370.out | refine below_set ?_ GE380.out) | exact HB.out))))
      have n8_ := Aside0.mk (blk_below (g := gb342) (o := .cells #[.int .i64 a0_0, .int .i64 a0_1, .slice A0_2 l0_2.length c0_2, .slice A0_3 l0_3.length c0_3] 24 (0, 0)) (by (with_reducible repeat (first | refine blk_drewN ?_ _ | refine blk_drew ?_ | refine blk_alloc ?_ _)); exact BK342.out) hb)
      have n9_ := Aside0.mk (blk_below (g := gb361) (o := .cells #[.int .i64 t352, .int .i64 t353, .slice Ao23 t354.length co23, .slice Ao24 t357.length co24] 26 (0, 0)) (by (with_reducible repeat (first | refine blk_drewN ?_ _ | refine blk_drew ?_ | refine blk_alloc ?_ _)); exact BK361.out) hb)
      have n10_ := Aside0.mk (blk_below (g := gb370) (o := .cells #[.int .i64 t362, .int .i64 t363, .slice Ao31 t364.length co31, .slice Ao32 t367.length co32] 26 (0, 0)) (by (with_reducible repeat (first | refine blk_drewN ?_ _ | refine blk_drew ?_ | refine blk_alloc ?_ _)); exact BK370.out) hb)
      have n11_ := Aside0.mk (blk_below (g := gb380) (o := .cells #[.int .i64 t371, .int .i64 t372, .slice Ao39 t373.length co39, .slice Ao40 t376.length co40] 26 (0, 0)) (by (with_reducible repeat (first | refine blk_drewN ?_ _ | refine blk_drew ?_ | refine blk_alloc ?_ _)); exact BK380.out) hb)
      have n12_ := Aside0.mk (below_step (by repeat (first | (with_reducible first | exact HB.out | apply below_alloc | apply pw_below_drewN | apply below_drew1 | refine below_set ?_ GE342.out | refine below_set ?_ GE361.out | refine below_set ?_ GE370.out | refine below_set ?_ GE380.out) | exact HB.out)) hb)
      clear HO_362002
      clear HO_362003
      clear HO_371002
      clear HO_371003
      clear HO_381002
      clear HO_381003
      clear BK342
      clear BK361
      clear BK370
      clear BK380
      clear HB
      have HO_362002 := n0_
      have HO_362003 := n1_
      have HO_371002 := n2_
      have HO_371003 := n3_
      have HO_381002 := n4_
      have HO_381003 := n5_
      have HO386 := n6_
      have HO389 := n7_
      have BK342 := n8_
      have BK361 := n9_
      have BK370 := n10_
      have BK380 := n11_
      have HB := n12_
      clear n0_ n1_ n2_ n3_ n4_ n5_ n6_ n7_ n8_ n9_ n10_ n11_ n12_
      (try clear hb)
      (try clear hb2)
      (try clear hk)
      (try clear hi)
      (try clear ho0)
      (try clear ho1)
      obtain ⟨Ao59, co59, eo59⟩ := Kd.PB_slice HO386.out
      (first | subst eo59 | (injection eo59 with f1_ f2_ f3_; have f4_ := f1_.symm; have f5_ := f3_.symm; clear f1_ f2_ f3_; subst f4_; subst f5_))
      obtain ⟨Ao60, co60, eo60⟩ := Kd.PB_slice HO389.out
      (first | subst eo60 | (injection eo60 with f1_ f2_ f3_; have f4_ := f1_.symm; have f5_ := f3_.symm; clear f1_ f2_ f3_; subst f4_; subst f5_))
      refine hK.out _ _ ⟨(blk_cell BK370.out 0).trans rfl, (blk_cell BK370.out 1).trans rfl, (blk_cell BK370.out 2).trans rfl, (blk_cell BK370.out 3).trans rfl, (blk_cell BK342.out 0).trans rfl, (blk_cell BK342.out 1).trans rfl, (blk_cell BK342.out 2).trans rfl, (blk_cell BK342.out 3).trans rfl⟩ (fun hHeld => ?_)
      clear hK K
      refine norm_ (a' := ?_) ?_ ?_
      rotate_left
      ·show Act.put _ (some 43) _ = _
       simp only [Act.put, List.setIfInBounds_toArray, List.set_cons_zero, List.set_cons_succ, i64_w, i32_w]
       rfl
      refine one_ (i := 3) (N := some 44) #[true, true, true, true, false] rfl rfl (by kernel_rfl) (by decide) (fun K hK => ?_)
      refine goes_ Tryd.func15 (by kernel_rfl) rfl #[.agg #[.int .i64 t362, .int .i64 t363, .slice Ao31 t364.length co31, .slice Ao32 t367.length co32], .agg #[.int .i64 t382, .int .i64 t383, .slice Ao59 t384.length co59, .slice Ao60 t387.length co60]] (by rfl) rfl rfl (by (try simp only [List.map_toArray, List.map_cons, List.map_nil]); first | done | rfl | (simp only [List.length_drop, List.length_take]; rfl)) ?_
      with_reducible refine (laws_intactFigure.calls t362 t363 _ _ t364 _ _ t367 t382 t383 _ _ t384 _ _ t387 true _ ?side1 ?side2 ?side3 ?side4 ?side5 ?side6 ?side7 ?side8 ?side9 ?side10 ?side11 ?side12 A53.out).mono ?_
      (case side1 => repeat (first | exact (Kd.PB_reads' HO_371002.out).2.2 | (with_reducible refine Kd.C_alloc ?_ _) | (with_reducible refine Kd.C_drewN ?_ _) | (with_reducible refine Kd.C_drew ?_)))
      (case side2 => exact (Kd.PB_reads' HO_371002.out).2.1)
      (case side3 => repeat (first | exact Kd.PB_sp HO_371002.out | (with_reducible refine Kd.Sp_alloc ?_ _) | (with_reducible refine Kd.Sp_drewN ?_ _) | (with_reducible refine Kd.Sp_drew ?_)))
      (case side4 => repeat (first | exact (Kd.PB_reads' HO_371003.out).2.2 | (with_reducible refine Kd.C_alloc ?_ _) | (with_reducible refine Kd.C_drewN ?_ _) | (with_reducible refine Kd.C_drew ?_)))
      (case side5 => exact (Kd.PB_reads' HO_371003.out).2.1)
      (case side6 => repeat (first | exact Kd.PB_sp HO_371003.out | (with_reducible refine Kd.Sp_alloc ?_ _) | (with_reducible refine Kd.Sp_drewN ?_ _) | (with_reducible refine Kd.Sp_drew ?_)))
      (case side7 => repeat (first | exact (Kd.PB_reads' HO386.out).2.2 | (with_reducible refine Kd.C_alloc ?_ _) | (with_reducible refine Kd.C_drewN ?_ _) | (with_reducible refine Kd.C_drew ?_)))
      (case side8 => exact (Kd.PB_reads' HO386.out).2.1)
      (case side9 => repeat (first | exact Kd.PB_sp HO386.out | (with_reducible refine Kd.Sp_alloc ?_ _) | (with_reducible refine Kd.Sp_drewN ?_ _) | (with_reducible refine Kd.Sp_drew ?_)))
      (case side10 => repeat (first | exact (Kd.PB_reads' HO389.out).2.2 | (with_reducible refine Kd.C_alloc ?_ _) | (with_reducible refine Kd.C_drewN ?_ _) | (with_reducible refine Kd.C_drew ?_)))
      (case side11 => exact (Kd.PB_reads' HO389.out).2.1)
      (case side12 => repeat (first | exact Kd.PB_sp HO389.out | (with_reducible refine Kd.Sp_alloc ?_ _) | (with_reducible refine Kd.Sp_drewN ?_ _) | (with_reducible refine Kd.Sp_drew ?_)))
      rintro e w61 ⟨rfl, hb⟩
      refine ⟨_, rfl, ?_⟩
      have n0_ := Aside0.mk (Kd.R_below (by (with_reducible repeat (first | apply Kd.R_alloc | apply Kd.R_drewN | apply Kd.R_drew)); exact HO_362002.out) hb)
      have n1_ := Aside0.mk (Kd.R_below (by (with_reducible repeat (first | apply Kd.R_alloc | apply Kd.R_drewN | apply Kd.R_drew)); exact HO_362003.out) hb)
      have n2_ := Aside0.mk (Kd.PB_below (by (with_reducible repeat (first | apply Kd.PB_alloc | apply Kd.PB_drewN | apply Kd.PB_drew)); exact HO_371002.out) hb)
      have n3_ := Aside0.mk (Kd.PB_below (by (with_reducible repeat (first | apply Kd.PB_alloc | apply Kd.PB_drewN | apply Kd.PB_drew)); exact HO_371003.out) hb)
      have n4_ := Aside0.mk (Kd.R_below (by (with_reducible repeat (first | apply Kd.R_alloc | apply Kd.R_drewN | apply Kd.R_drew)); exact HO_381002.out) hb)
      have n5_ := Aside0.mk (Kd.R_below (by (with_reducible repeat (first | apply Kd.R_alloc | apply Kd.R_drewN | apply Kd.R_drew)); exact HO_381003.out) hb)
      have n6_ := Aside0.mk (Kd.PB_below (by (with_reducible repeat (first | apply Kd.PB_alloc | apply Kd.PB_drewN | apply Kd.PB_drew)); exact HO386.out) hb)
      have n7_ := Aside0.mk (Kd.PB_below (by (with_reducible repeat (first | apply Kd.PB_alloc | apply Kd.PB_drewN | apply Kd.PB_drew)); exact HO389.out) hb)
      have n8_ := Aside0.mk (blk_below (g := gb342) (o := .cells #[.int .i64 a0_0, .int .i64 a0_1, .slice A0_2 l0_2.length c0_2, .slice A0_3 l0_3.length c0_3] 24 (0, 0)) (by (with_reducible repeat (first | refine blk_drewN ?_ _ | refine blk_drew ?_ | refine blk_alloc ?_ _)); exact BK342.out) hb)
      have n9_ := Aside0.mk (blk_below (g := gb361) (o := .cells #[.int .i64 t352, .int .i64 t353, .slice Ao23 t354.length co23, .slice Ao24 t357.length co24] 26 (0, 0)) (by (with_reducible repeat (first | refine blk_drewN ?_ _ | refine blk_drew ?_ | refine blk_alloc ?_ _)); exact BK361.out) hb)
      have n10_ := Aside0.mk (blk_below (g := gb370) (o := .cells #[.int .i64 t362, .int .i64 t363, .slice Ao31 t364.length co31, .slice Ao32 t367.length co32] 26 (0, 0)) (by (with_reducible repeat (first | refine blk_drewN ?_ _ | refine blk_drew ?_ | refine blk_alloc ?_ _)); exact BK370.out) hb)
      have n11_ := Aside0.mk (blk_below (g := gb380) (o := .cells #[.int .i64 t371, .int .i64 t372, .slice Ao39 t373.length co39, .slice Ao40 t376.length co40] 26 (0, 0)) (by (with_reducible repeat (first | refine blk_drewN ?_ _ | refine blk_drew ?_ | refine blk_alloc ?_ _)); exact BK380.out) hb)
      have n12_ := Aside0.mk (below_step (by repeat (first | (with_reducible first | exact HB.out | apply below_alloc | apply pw_below_drewN | apply below_drew1 | refine below_set ?_ GE342.out | refine below_set ?_ GE361.out | refine below_set ?_ GE370.out | refine below_set ?_ GE380.out) | exact HB.out)) hb)
      clear HO_362002
      clear HO_362003
      clear HO_371002
      clear HO_371003
      clear HO_381002
      clear HO_381003
      clear HO386
      clear HO389
      clear BK342
      clear BK361
      clear BK370
      clear BK380
      clear HB
      have HO_362002 := n0_
      have HO_362003 := n1_
      have HO_371002 := n2_
      have HO_371003 := n3_
      have HO_381002 := n4_
      have HO_381003 := n5_
      have HO386 := n6_
      have HO389 := n7_
      have BK342 := n8_
      have BK361 := n9_
      have BK370 := n10_
      have BK380 := n11_
      have HB := n12_
      clear n0_ n1_ n2_ n3_ n4_ n5_ n6_ n7_ n8_ n9_ n10_ n11_ n12_
      (try clear hb)
      (try clear hb2)
      (try clear hk)
      (try clear hi)
      refine hK.out _ _ ⟨(blk_cell BK370.out 0).trans rfl, (blk_cell BK370.out 1).trans rfl, (blk_cell BK370.out 2).trans rfl, (blk_cell BK370.out 3).trans rfl, (blk_cell BK342.out 0).trans rfl, (blk_cell BK342.out 1).trans rfl, (blk_cell BK342.out 2).trans rfl, (blk_cell BK342.out 3).trans rfl⟩ (fun hHeld => ?_)
      clear hK K
      refine norm_ (a' := ?_) ?_ ?_
      rotate_left
      ·show Act.put _ (some 44) _ = _
       simp only [Act.put, List.setIfInBounds_toArray, List.set_cons_zero, List.set_cons_succ, i64_w, i32_w]
       rfl
      refine pure_ (i := 4) (N := some 45) (v := ?_) (a' := ?_) #[true, true, true, true, true] rfl rfl (by kernel_rfl) (fun _ _ _ h => h) (Or.inl ⟨by rfl, ?_⟩) ?_ ?_
      rotate_left
      ·intro w'
       go_simp
       with_reducible rfl
      rotate_left
      ·simp only [Act.put, List.setIfInBounds_toArray, List.set_cons_zero, List.set_cons_succ, i64_w, i32_w]
       rfl
      refine done_ (by kernel_rfl) ?_
      have hnb62 := NB370_342.out
      have hnc62 := NB342_370.out
      have hnb63 := NB370_361.out
      have hnc63 := NB361_370.out
      have hnb64 := NB370_380.out
      have hnc64 := NB380_370.out
      have hcz65_0 : w61.cell? ⟨gb370, 0, none⟩ = some (.int .i64 t362) := (blk_cell BK370.out 0).trans rfl
      have hcz65_1 : w61.cell? ⟨gb370, 1, none⟩ = some (.int .i64 t363) := (blk_cell BK370.out 1).trans rfl
      have hcz65_2 : w61.cell? ⟨gb370, 2, none⟩ = some (.slice Ao31 t364.length co31) := (blk_cell BK370.out 2).trans rfl
      have hcz65_3 : w61.cell? ⟨gb370, 3, none⟩ = some (.slice Ao32 t367.length co32) := (blk_cell BK370.out 3).trans rfl
      have hfz65_0 := blk_frozen BK370.out 0
      have hfz65_1 := blk_frozen BK370.out 1
      have hfz65_2 := blk_frozen BK370.out 2
      have hfz65_3 := blk_frozen BK370.out 3
      go_upto_region 14 with (first | ((with_reducible refine gate_callee (f := 16) rfl ?_); refine goesL_ (some 48) rfl rfl Tryd.func16 (by kernel_rfl) rfl #[.agg #[.int .i64 t362, .int .i64 t363, .slice Ao31 t364.length co31, .slice Ao32 t367.length co32], .int .i64 101] rfl (by (try simp only [List.map_toArray, List.map_cons, List.map_nil]); first | done | rfl | (simp only [List.length_drop, List.length_take]; rfl)) ?_; (with_reducible refine (laws_markFigure.calls kj10 t362 t363 (fun k_ => some k_ = (.slice Ao31 t364.length co31 : Value).ownBlock) (.slice Ao31 t364.length co31) t364 (fun k_ => some k_ = (.slice Ao32 t367.length co32 : Value).ownBlock) (.slice Ao32 t367.length co32) t367 101 t391 t392 t393 w _ ?side1 ?side2 ?side3 ?side4 ?side5 A55.out).mono ?_); (case side1 => repeat (first | (with_reducible first | exact HB.out | apply below_alloc | apply pw_below_drewN | apply below_drew1 | refine below_set ?_ GE342.out | refine below_set ?_ GE361.out | refine below_set ?_ GE370.out | refine below_set ?_ GE380.out) | exact HB.out)); (case side2 => exact Kd.R_tight rfl (Kd.PB_R HO_371002.out)); (case side3 => exact fun k_ e_ => (HO_371002.out.1.1 k_ e_.symm).1.1.2.2.1); (case side4 => exact Kd.R_tight rfl (Kd.PB_R HO_371003.out)); (case side5 => exact fun k_ e_ => (HO_371003.out.1.1 k_ e_.symm).1.1.2.2.1); rintro e w66 ⟨rfl, hy0, hy1, hb, hkp⟩; refine ⟨_, rfl, ?_⟩; have n0_ := Aside0.mk (Kd.R_mono (ok' := fun k_ => some k_ ≠ (.slice Ao24 t357.length co24 : Value).ownBlock ∧ some k_ ≠ (.slice Ao31 t364.length co31 : Value).ownBlock ∧ some k_ ≠ (.slice Ao32 t367.length co32 : Value).ownBlock ∧ some k_ ≠ (.slice Ao39 t373.length co39 : Value).ownBlock ∧ some k_ ≠ (.slice Ao40 t376.length co40 : Value).ownBlock ∧ some k_ ≠ (.slice Ao59 t384.length co59 : Value).ownBlock ∧ some k_ ≠ (.slice Ao60 t387.length co60 : Value).ownBlock) (Kd.R_keptB (HO_362002.out) hkp (fun k_ hk_ hs_ => Or.elim hs_ (fun e_ => (hk_.1.1.2.1) e_) (fun e_ => (hk_.1.1.2.2.1) e_))) (fun k_ hk_ => ⟨hk_.1.1.1.1, hk_.1.1.1.2.1, hk_.1.1.1.2.2.1, hk_.1.1.1.2.2.2.1, hk_.1.1.1.2.2.2.2, hk_.1.1.2, hk_.1.2⟩)); have n1_ := Aside0.mk (Kd.R_mono (ok' := fun k_ => some k_ ≠ (.slice Ao23 t354.length co23 : Value).ownBlock ∧ some k_ ≠ (.slice Ao31 t364.length co31 : Value).ownBlock ∧ some k_ ≠ (.slice Ao32 t367.length co32 : Value).ownBlock ∧ some k_ ≠ (.slice Ao39 t373.length co39 : Value).ownBlock ∧ some k_ ≠ (.slice Ao40 t376.length co40 : Value).ownBlock ∧ some k_ ≠ (.slice Ao59 t384.length co59 : Value).ownBlock ∧ some k_ ≠ (.slice Ao60 t387.length co60 : Value).ownBlock) (Kd.R_keptB (HO_362003.out) hkp (fun k_ hk_ hs_ => Or.elim hs_ (fun e_ => (hk_.1.1.2.1) e_) (fun e_ => (hk_.1.1.2.2.1) e_))) (fun k_ hk_ => ⟨hk_.1.1.1.1, hk_.1.1.1.2.1, hk_.1.1.1.2.2.1, hk_.1.1.1.2.2.2.1, hk_.1.1.1.2.2.2.2, hk_.1.1.2, hk_.1.2⟩)); have n2_ := Aside0.mk (Kd.R_reok rfl hy0 (fun k_ e_ => HO_371002.out.1.1 k_ e_)); have n3_ := Aside0.mk (Kd.R_reok rfl hy1 (fun k_ e_ => HO_371003.out.1.1 k_ e_)); have n4_ := Aside0.mk (Kd.R_mono (ok' := fun k_ => some k_ ≠ (.slice Ao23 t354.length co23 : Value).ownBlock ∧ some k_ ≠ (.slice Ao24 t357.length co24 : Value).ownBlock ∧ some k_ ≠ (.slice Ao31 t364.length co31 : Value).ownBlock ∧ some k_ ≠ (.slice Ao32 t367.length co32 : Value).ownBlock ∧ some k_ ≠ (.slice Ao40 t376.length co40 : Value).ownBlock ∧ some k_ ≠ (.slice Ao59 t384.length co59 : Value).ownBlock ∧ some k_ ≠ (.slice Ao60 t387.length co60 : Value).ownBlock) (Kd.R_keptB (HO_381002.out) hkp (fun k_ hk_ hs_ => Or.elim hs_ (fun e_ => (hk_.1.1.2.2.1) e_) (fun e_ => (hk_.1.1.2.2.2.1) e_))) (fun k_ hk_ => ⟨hk_.1.1.1.1, hk_.1.1.1.2.1, hk_.1.1.1.2.2.1, hk_.1.1.1.2.2.2.1, hk_.1.1.1.2.2.2.2, hk_.1.1.2, hk_.1.2⟩)); have n5_ := Aside0.mk (Kd.R_mono (ok' := fun k_ => some k_ ≠ (.slice Ao23 t354.length co23 : Value).ownBlock ∧ some k_ ≠ (.slice Ao24 t357.length co24 : Value).ownBlock ∧ some k_ ≠ (.slice Ao31 t364.length co31 : Value).ownBlock ∧ some k_ ≠ (.slice Ao32 t367.length co32 : Value).ownBlock ∧ some k_ ≠ (.slice Ao39 t373.length co39 : Value).ownBlock ∧ some k_ ≠ (.slice Ao59 t384.length co59 : Value).ownBlock ∧ some k_ ≠ (.slice Ao60 t387.length co60 : Value).ownBlock) (Kd.R_keptB (HO_381003.out) hkp (fun k_ hk_ hs_ => Or.elim hs_ (fun e_ => (hk_.1.1.2.2.1) e_) (fun e_ => (hk_.1.1.2.2.2.1) e_))) (fun k_ hk_ => ⟨hk_.1.1.1.1, hk_.1.1.1.2.1, hk_.1.1.1.2.2.1, hk_.1.1.1.2.2.2.1, hk_.1.1.1.2.2.2.2, hk_.1.1.2, hk_.1.2⟩)); have n6_ := Aside0.mk (blk_kept (by (with_reducible repeat (first | refine blk_drewN ?_ _ | refine blk_drew ?_ | refine blk_alloc ?_ _)); exact BK342.out) hkp (fun hs_ => Or.elim hs_ (fun e_ => (fun e_ => (Kd.R_ne (Kd.PB_R HO_371002.out) BK342.out (by decide)) e_) e_) (fun e_ => (fun e_ => (Kd.R_ne (Kd.PB_R HO_371003.out) BK342.out (by decide)) e_) e_))); have n7_ := Aside0.mk (blk_kept (by (with_reducible repeat (first | refine blk_drewN ?_ _ | refine blk_drew ?_ | refine blk_alloc ?_ _)); exact BK361.out) hkp (fun hs_ => Or.elim hs_ (fun e_ => (fun e_ => (Kd.R_ne (Kd.PB_R HO_371002.out) BK361.out (by decide)) e_) e_) (fun e_ => (fun e_ => (Kd.R_ne (Kd.PB_R HO_371003.out) BK361.out (by decide)) e_) e_))); have n8_ := Aside0.mk (blk_kept (by (with_reducible repeat (first | refine blk_drewN ?_ _ | refine blk_drew ?_ | refine blk_alloc ?_ _)); exact BK370.out) hkp (fun hs_ => Or.elim hs_ (fun e_ => (fun e_ => (Kd.R_ne (Kd.PB_R HO_371002.out) BK370.out (by decide)) e_) e_) (fun e_ => (fun e_ => (Kd.R_ne (Kd.PB_R HO_371003.out) BK370.out (by decide)) e_) e_))); have n9_ := Aside0.mk (blk_kept (by (with_reducible repeat (first | refine blk_drewN ?_ _ | refine blk_drew ?_ | refine blk_alloc ?_ _)); exact BK380.out) hkp (fun hs_ => Or.elim hs_ (fun e_ => (fun e_ => (Kd.R_ne (Kd.PB_R HO_371002.out) BK380.out (by decide)) e_) e_) (fun e_ => (fun e_ => (Kd.R_ne (Kd.PB_R HO_371003.out) BK380.out (by decide)) e_) e_))); have n10_ := Aside0.mk (Kd.PB_mono (ok' := fun k_ => some k_ ≠ (.slice Ao23 t354.length co23 : Value).ownBlock ∧ some k_ ≠ (.slice Ao24 t357.length co24 : Value).ownBlock ∧ some k_ ≠ (.slice Ao31 t364.length co31 : Value).ownBlock ∧ some k_ ≠ (.slice Ao32 t367.length co32 : Value).ownBlock ∧ some k_ ≠ (.slice Ao39 t373.length co39 : Value).ownBlock ∧ some k_ ≠ (.slice Ao40 t376.length co40 : Value).ownBlock ∧ some k_ ≠ (.slice Ao60 t387.length co60 : Value).ownBlock) (Kd.PB_keptB (HO386.out) hkp (fun k_ hk_ hs_ => Or.elim hs_ (fun e_ => (hk_.1.1.1.2) e_) (fun e_ => (hk_.1.1.2) e_))) (fun k_ hk_ => ⟨hk_.1.1.1.1.1.1.2, hk_.1.1.1.1.1.2, hk_.1.1.1.1.2, hk_.1.1.1.2, hk_.1.1.2, hk_.1.2, hk_.1.1.1.1.1.1.1⟩)); have n11_ := Aside0.mk (Kd.PB_mono (ok' := fun k_ => some k_ ≠ (.slice Ao23 t354.length co23 : Value).ownBlock ∧ some k_ ≠ (.slice Ao24 t357.length co24 : Value).ownBlock ∧ some k_ ≠ (.slice Ao31 t364.length co31 : Value).ownBlock ∧ some k_ ≠ (.slice Ao32 t367.length co32 : Value).ownBlock ∧ some k_ ≠ (.slice Ao39 t373.length co39 : Value).ownBlock ∧ some k_ ≠ (.slice Ao40 t376.length co40 : Value).ownBlock ∧ some k_ ≠ (.slice Ao59 t384.length co59 : Value).ownBlock) (Kd.PB_keptB (HO389.out) hkp (fun k_ hk_ hs_ => Or.elim hs_ (fun e_ => (hk_.1.1.1.2) e_) (fun e_ => (hk_.1.1.2) e_))) (fun k_ hk_ => ⟨hk_.1.1.1.1.1.1.2, hk_.1.1.1.1.1.2, hk_.1.1.1.1.2, hk_.1.1.1.2, hk_.1.1.2, hk_.1.2, hk_.1.1.1.1.1.1.1⟩)); have n12_ := Aside0.mk (hb); clear HO_362002; clear HO_362003; clear HO_371002; clear HO_371003; clear HO_381002; clear HO_381003; clear BK342; clear BK361; clear BK370; clear BK380; clear HO386; clear HO389; clear HB; have HO_362002 := n0_; have HO_362003 := n1_; have HO_371002 := n2_; have HO_371003 := n3_; have HO_381002 := n4_; have HO_381003 := n5_; have BK342 := n6_; have BK361 := n7_; have BK370 := n8_; have BK380 := n9_; have HO386 := n10_; have HO389 := n11_; have HB := n12_; clear n0_ n1_ n2_ n3_ n4_ n5_ n6_ n7_ n8_ n9_ n10_ n11_ n12_; (try clear hb); (try clear hkp); (try clear hy0); (try clear hy1)))
      (try simp only [Act.put, List.setIfInBounds_toArray, List.set_cons_zero, List.set_cons_succ])
      go_cut [61] (fun v61 wc => ∃ (kq : Nat) (x61_55 : Bool), v61 = .bool x61_55 ∧ Aside0 (laws_FnExactTurnFigure.j1 kq t360 x61_55 a0_0 a0_1 l0_2 l0_3 t352 t353 t354 t357 t371 t372 t373 t376 = some r) ∧ Aside0 (kq ≤ kj10) ∧ Aside0 (Kd.R (Kd.int .i64) 3 wc w.heap.size (fun k_ => some k_ ≠ ((.slice Ao24 t357.length co24) : Value).ownBlock ∧ some k_ ≠ ((.slice Ao31 t364.length co31) : Value).ownBlock ∧ some k_ ≠ ((.slice Ao32 t367.length co32) : Value).ownBlock ∧ some k_ ≠ ((.slice Ao39 t373.length co39) : Value).ownBlock ∧ some k_ ≠ ((.slice Ao40 t376.length co40) : Value).ownBlock) (.slice Ao23 t354.length co23) t354) ∧ Aside0 (Kd.R (Kd.int .i64) 3 wc w.heap.size (fun k_ => some k_ ≠ ((.slice Ao23 t354.length co23) : Value).ownBlock ∧ some k_ ≠ ((.slice Ao31 t364.length co31) : Value).ownBlock ∧ some k_ ≠ ((.slice Ao32 t367.length co32) : Value).ownBlock ∧ some k_ ≠ ((.slice Ao39 t373.length co39) : Value).ownBlock ∧ some k_ ≠ ((.slice Ao40 t376.length co40) : Value).ownBlock) (.slice Ao24 t357.length co24) t357) ∧ Aside0 (Kd.R (Kd.int .i64) 3 wc w.heap.size (fun k_ => some k_ ≠ ((.slice Ao23 t354.length co23) : Value).ownBlock ∧ some k_ ≠ ((.slice Ao24 t357.length co24) : Value).ownBlock ∧ some k_ ≠ ((.slice Ao32 t367.length co32) : Value).ownBlock ∧ some k_ ≠ ((.slice Ao39 t373.length co39) : Value).ownBlock ∧ some k_ ≠ ((.slice Ao40 t376.length co40) : Value).ownBlock) (.slice Ao31 t364.length co31) t392) ∧ Aside0 (Kd.R (Kd.int .i64) 3 wc w.heap.size (fun k_ => some k_ ≠ ((.slice Ao23 t354.length co23) : Value).ownBlock ∧ some k_ ≠ ((.slice Ao24 t357.length co24) : Value).ownBlock ∧ some k_ ≠ ((.slice Ao31 t364.length co31) : Value).ownBlock ∧ some k_ ≠ ((.slice Ao39 t373.length co39) : Value).ownBlock ∧ some k_ ≠ ((.slice Ao40 t376.length co40) : Value).ownBlock) (.slice Ao32 t367.length co32) t393) ∧ Aside0 (Kd.R (Kd.int .i64) 3 wc w.heap.size (fun k_ => some k_ ≠ ((.slice Ao23 t354.length co23) : Value).ownBlock ∧ some k_ ≠ ((.slice Ao24 t357.length co24) : Value).ownBlock ∧ some k_ ≠ ((.slice Ao31 t364.length co31) : Value).ownBlock ∧ some k_ ≠ ((.slice Ao32 t367.length co32) : Value).ownBlock ∧ some k_ ≠ ((.slice Ao40 t376.length co40) : Value).ownBlock) (.slice Ao39 t373.length co39) t373) ∧ Aside0 (Kd.R (Kd.int .i64) 3 wc w.heap.size (fun k_ => some k_ ≠ ((.slice Ao23 t354.length co23) : Value).ownBlock ∧ some k_ ≠ ((.slice Ao24 t357.length co24) : Value).ownBlock ∧ some k_ ≠ ((.slice Ao31 t364.length co31) : Value).ownBlock ∧ some k_ ≠ ((.slice Ao32 t367.length co32) : Value).ownBlock ∧ some k_ ≠ ((.slice Ao39 t373.length co39) : Value).ownBlock) (.slice Ao40 t376.length co40) t376) ∧ Aside0 (wc.heap[gb342]? = some (.cells #[.int .i64 a0_0, .int .i64 a0_1, (.slice A0_2 l0_2.length c0_2), (.slice A0_3 l0_3.length c0_3)] 24 (0, 0))) ∧ Aside0 (wc.heap[gb361]? = some (.cells #[.int .i64 t352, .int .i64 t353, (.slice Ao23 t354.length co23), (.slice Ao24 t357.length co24)] 26 (0, 0))) ∧ Aside0 (wc.heap[gb370]? = some (.cells #[.int .i64 t362, .int .i64 t363, (.slice Ao31 t364.length co31), (.slice Ao32 t367.length co32)] 26 (0, 0))) ∧ Aside0 (wc.heap[gb380]? = some (.cells #[.int .i64 t371, .int .i64 t372, (.slice Ao39 t373.length co39), (.slice Ao40 t376.length co40)] 26 (0, 0))) ∧ Aside0 (Below w.heap.size w wc))
      case first =>
       have H := HC56.out
       clear HC56
       by_cases c67 : t391 < 0
       ·rw [if_pos c67] at H
        have c67b0 : decide (t391 < 0) = true := decide_eq_true c67
        clear c67
        (first | rw [c67b0] | (simp only [i64_w, i32_w]; rw [c67b0]) | skip)
        exact absurd HR_.out (by cases kj10 <;> simp [laws_FnExactTurnFigure.j1] at H <;> first | simp [← H] | simp [H] | simp_all)
       ·rw [if_neg c67] at H
        have c67b0 : decide (t391 < 0) = false := decide_eq_false c67
        clear c67
        (first | rw [c67b0] | (simp only [i64_w, i32_w]; rw [c67b0]) | skip)
        replace H := Option.bind_eq_some_iff.mp H
        obtain ⟨t394, A680, H⟩ := H
        replace H : (if t394 = true then (laws_FnExactTurnFigure.j1 kj10 t360 (t379 != t360) a0_0 a0_1 l0_2 l0_3 t352 t353 t354 t357 t371 t372 t373 t376) else (laws_FnExactTurnFigure.j1 kj10 t360 true a0_0 a0_1 l0_2 l0_3 t352 t353 t354 t357 t371 t372 t373 t376)) = some r := H
        have A68 := Aside0.mk A680
        clear A680
        by_cases c69 : t394 = true
        ·subst c69
         have H1 : (laws_FnExactTurnFigure.j1 kj10 t360 (t379 != t360) a0_0 a0_1 l0_2 l0_3 t352 t353 t354 t357 t371 t372 t373 t376) = some r := by rw [if_pos rfl] at H; exact H
         clear H
         have H := H1
         clear H1
         have H' := Aside0.mk H
         clear H
         have hnb70 := NB380_342.out
         have hnc70 := NB342_380.out
         have hnb71 := NB380_361.out
         have hnc71 := NB361_380.out
         have hnb72 := NB380_370.out
         have hnc72 := NB370_380.out
         have hcz73_0 : w66.cell? ⟨gb380, 0, none⟩ = some (.int .i64 t371) := (blk_cell BK380.out 0).trans rfl
         have hcz73_1 : w66.cell? ⟨gb380, 1, none⟩ = some (.int .i64 t372) := (blk_cell BK380.out 1).trans rfl
         have hcz73_2 : w66.cell? ⟨gb380, 2, none⟩ = some (.slice Ao39 t373.length co39) := (blk_cell BK380.out 2).trans rfl
         have hcz73_3 : w66.cell? ⟨gb380, 3, none⟩ = some (.slice Ao40 t376.length co40) := (blk_cell BK380.out 3).trans rfl
         have hfz73_0 := blk_frozen BK380.out 0
         have hfz73_1 := blk_frozen BK380.out 1
         have hfz73_2 := blk_frozen BK380.out 2
         have hfz73_3 := blk_frozen BK380.out 3
         have hnb74 := NB361_342.out
         have hnc74 := NB342_361.out
         have hnb75 := NB361_370.out
         have hnc75 := NB370_361.out
         have hcz76_0 : w66.cell? ⟨gb361, 0, none⟩ = some (.int .i64 t352) := (blk_cell BK361.out 0).trans rfl
         have hcz76_1 : w66.cell? ⟨gb361, 1, none⟩ = some (.int .i64 t353) := (blk_cell BK361.out 1).trans rfl
         have hcz76_2 : w66.cell? ⟨gb361, 2, none⟩ = some (.slice Ao23 t354.length co23) := (blk_cell BK361.out 2).trans rfl
         have hcz76_3 : w66.cell? ⟨gb361, 3, none⟩ = some (.slice Ao24 t357.length co24) := (blk_cell BK361.out 3).trans rfl
         have hfz76_0 := blk_frozen BK361.out 0
         have hfz76_1 := blk_frozen BK361.out 1
         have hfz76_2 := blk_frozen BK361.out 2
         have hfz76_3 := blk_frozen BK361.out 3
         go_wp2_with (first | (go_at_call 14; (with_reducible refine (laws_eqFigure.calls kj10 t371 t372 _ _ t373 _ _ t376 t352 t353 _ _ t354 _ _ t357 true _ ?side1 ?side2 ?side3 ?side4 ?side5 ?side6 ?side7 ?side8 A68.out).mono ?_); (case side1 => repeat (first | exact (Kd.R_reads' HO_381002.out).2.2 | (with_reducible refine Kd.C_alloc ?_ _) | (with_reducible refine Kd.C_drewN ?_ _) | (with_reducible refine Kd.C_drew ?_))); (case side2 => exact (Kd.R_reads' HO_381002.out).2.1); (case side3 => repeat (first | exact (Kd.R_reads' HO_381003.out).2.2 | (with_reducible refine Kd.C_alloc ?_ _) | (with_reducible refine Kd.C_drewN ?_ _) | (with_reducible refine Kd.C_drew ?_))); (case side4 => exact (Kd.R_reads' HO_381003.out).2.1); (case side5 => repeat (first | exact (Kd.R_reads' HO_362002.out).2.2 | (with_reducible refine Kd.C_alloc ?_ _) | (with_reducible refine Kd.C_drewN ?_ _) | (with_reducible refine Kd.C_drew ?_))); (case side6 => exact (Kd.R_reads' HO_362002.out).2.1); (case side7 => repeat (first | exact (Kd.R_reads' HO_362003.out).2.2 | (with_reducible refine Kd.C_alloc ?_ _) | (with_reducible refine Kd.C_drewN ?_ _) | (with_reducible refine Kd.C_drew ?_))); (case side8 => exact (Kd.R_reads' HO_362003.out).2.1); rintro e w77 ⟨rfl, hb⟩; have n0_ := Aside0.mk (Kd.R_below (by (with_reducible repeat (first | apply Kd.R_alloc | apply Kd.R_drewN | apply Kd.R_drew)); exact HO_362002.out) hb); have n1_ := Aside0.mk (Kd.R_below (by (with_reducible repeat (first | apply Kd.R_alloc | apply Kd.R_drewN | apply Kd.R_drew)); exact HO_362003.out) hb); have n2_ := Aside0.mk (Kd.R_below (by (with_reducible repeat (first | apply Kd.R_alloc | apply Kd.R_drewN | apply Kd.R_drew)); exact HO_371002.out) hb); have n3_ := Aside0.mk (Kd.R_below (by (with_reducible repeat (first | apply Kd.R_alloc | apply Kd.R_drewN | apply Kd.R_drew)); exact HO_371003.out) hb); have n4_ := Aside0.mk (Kd.R_below (by (with_reducible repeat (first | apply Kd.R_alloc | apply Kd.R_drewN | apply Kd.R_drew)); exact HO_381002.out) hb); have n5_ := Aside0.mk (Kd.R_below (by (with_reducible repeat (first | apply Kd.R_alloc | apply Kd.R_drewN | apply Kd.R_drew)); exact HO_381003.out) hb); have n6_ := Aside0.mk (Kd.PB_below (by (with_reducible repeat (first | apply Kd.PB_alloc | apply Kd.PB_drewN | apply Kd.PB_drew)); exact HO386.out) hb); have n7_ := Aside0.mk (Kd.PB_below (by (with_reducible repeat (first | apply Kd.PB_alloc | apply Kd.PB_drewN | apply Kd.PB_drew)); exact HO389.out) hb); have n8_ := Aside0.mk (blk_below (g := gb342) (o := .cells #[.int .i64 a0_0, .int .i64 a0_1, .slice A0_2 l0_2.length c0_2, .slice A0_3 l0_3.length c0_3] 24 (0, 0)) (by (with_reducible repeat (first | refine blk_drewN ?_ _ | refine blk_drew ?_ | refine blk_alloc ?_ _)); exact BK342.out) hb); have n9_ := Aside0.mk (blk_below (g := gb361) (o := .cells #[.int .i64 t352, .int .i64 t353, .slice Ao23 t354.length co23, .slice Ao24 t357.length co24] 26 (0, 0)) (by (with_reducible repeat (first | refine blk_drewN ?_ _ | refine blk_drew ?_ | refine blk_alloc ?_ _)); exact BK361.out) hb); have n10_ := Aside0.mk (blk_below (g := gb370) (o := .cells #[.int .i64 t362, .int .i64 t363, .slice Ao31 t364.length co31, .slice Ao32 t367.length co32] 26 (0, 0)) (by (with_reducible repeat (first | refine blk_drewN ?_ _ | refine blk_drew ?_ | refine blk_alloc ?_ _)); exact BK370.out) hb); have n11_ := Aside0.mk (blk_below (g := gb380) (o := .cells #[.int .i64 t371, .int .i64 t372, .slice Ao39 t373.length co39, .slice Ao40 t376.length co40] 26 (0, 0)) (by (with_reducible repeat (first | refine blk_drewN ?_ _ | refine blk_drew ?_ | refine blk_alloc ?_ _)); exact BK380.out) hb); have n12_ := Aside0.mk (below_step (by repeat (first | (with_reducible first | exact HB.out | apply below_alloc | apply pw_below_drewN | apply below_drew1 | refine below_set ?_ GE342.out | refine below_set ?_ GE361.out | refine below_set ?_ GE370.out | refine below_set ?_ GE380.out) | exact HB.out)) hb); clear HO_362002; clear HO_362003; clear HO_371002; clear HO_371003; clear HO_381002; clear HO_381003; clear HO386; clear HO389; clear BK342; clear BK361; clear BK370; clear BK380; clear HB; have HO_362002 := n0_; have HO_362003 := n1_; have HO_371002 := n2_; have HO_371003 := n3_; have HO_381002 := n4_; have HO_381003 := n5_; have HO386 := n6_; have HO389 := n7_; have BK342 := n8_; have BK361 := n9_; have BK370 := n10_; have BK380 := n11_; have HB := n12_; clear n0_ n1_ n2_ n3_ n4_ n5_ n6_ n7_ n8_ n9_ n10_ n11_ n12_; (try clear hb); (try clear hb2); (try clear hk); (try clear hi)))
         go_meet
         case rel => exact ⟨_, ((t379 != t360)), (by first | rfl | (simp; done) | (simp [*]; done)), H', ⟨by have := HJ10.out; first | omega | exact Nat.le_refl _⟩, ⟨by (with_reducible repeat (first | apply Kd.R_alloc | apply Kd.R_drewN | apply Kd.R_drew)); exact Kd.R_mono HO_362002.out (fun _ hk => ⟨hk.1, ⟨hk.2.1, ⟨hk.2.2.1, ⟨hk.2.2.2.1, hk.2.2.2.2.1⟩⟩⟩⟩)⟩, ⟨by (with_reducible repeat (first | apply Kd.R_alloc | apply Kd.R_drewN | apply Kd.R_drew)); exact Kd.R_mono HO_362003.out (fun _ hk => ⟨hk.1, ⟨hk.2.1, ⟨hk.2.2.1, ⟨hk.2.2.2.1, hk.2.2.2.2.1⟩⟩⟩⟩)⟩, ⟨by (with_reducible repeat (first | apply Kd.R_alloc | apply Kd.R_drewN | apply Kd.R_drew)); exact Kd.R_mono HO_371002.out (fun _ hk => ⟨hk.1.1.1, ⟨hk.1.1.2.1, ⟨hk.1.1.2.2.1, ⟨hk.1.1.2.2.2.1, hk.1.1.2.2.2.2⟩⟩⟩⟩)⟩, ⟨by (with_reducible repeat (first | apply Kd.R_alloc | apply Kd.R_drewN | apply Kd.R_drew)); exact Kd.R_mono HO_371003.out (fun _ hk => ⟨hk.1.1.1, ⟨hk.1.1.2.1, ⟨hk.1.1.2.2.1, ⟨hk.1.1.2.2.2.1, hk.1.1.2.2.2.2⟩⟩⟩⟩)⟩, ⟨by (with_reducible repeat (first | apply Kd.R_alloc | apply Kd.R_drewN | apply Kd.R_drew)); exact Kd.R_mono HO_381002.out (fun _ hk => ⟨hk.1, ⟨hk.2.1, ⟨hk.2.2.1, ⟨hk.2.2.2.1, hk.2.2.2.2.1⟩⟩⟩⟩)⟩, ⟨by (with_reducible repeat (first | apply Kd.R_alloc | apply Kd.R_drewN | apply Kd.R_drew)); exact Kd.R_mono HO_381003.out (fun _ hk => ⟨hk.1, ⟨hk.2.1, ⟨hk.2.2.1, ⟨hk.2.2.2.1, hk.2.2.2.2.1⟩⟩⟩⟩)⟩, ⟨by (with_reducible repeat (first | refine blk_drewN ?_ _ | refine blk_drew ?_ | refine blk_alloc ?_ _)); exact BK342.out⟩, ⟨by (with_reducible repeat (first | refine blk_drewN ?_ _ | refine blk_drew ?_ | refine blk_alloc ?_ _)); exact BK361.out⟩, ⟨by (with_reducible repeat (first | refine blk_drewN ?_ _ | refine blk_drew ?_ | refine blk_alloc ?_ _)); exact BK370.out⟩, ⟨by (with_reducible repeat (first | refine blk_drewN ?_ _ | refine blk_drew ?_ | refine blk_alloc ?_ _)); exact BK380.out⟩, ⟨by repeat (first | (with_reducible first | exact HB.out | apply below_alloc | apply pw_below_drewN | apply below_drew1 | refine below_set ?_ GE342.out | refine below_set ?_ GE361.out | refine below_set ?_ GE370.out | refine below_set ?_ GE380.out) | exact HB.out)⟩⟩
        ·replace c69 := Bool.eq_false_iff.mpr c69
         subst c69
         have H1 : (laws_FnExactTurnFigure.j1 kj10 t360 true a0_0 a0_1 l0_2 l0_3 t352 t353 t354 t357 t371 t372 t373 t376) = some r := by rw [if_neg (show ¬ (false = true) by decide)] at H; exact H
         clear H
         have H := H1
         clear H1
         exact absurd HR_.out (by cases kj10 <;> simp [laws_FnExactTurnFigure.j1] at H <;> first | simp [← H] | simp [H] | simp_all)
      case rest =>
       clear HC56
       try clear c1
       try clear c2
       try clear p2
       try clear c3
       try clear c3b0
       try clear c4
       try clear c5
       try clear c6
       try clear c7
       try clear c8
       try clear c10
       try clear c12
       try clear c14
       try clear c15
       try clear c16
       try clear c21
       try clear c28
       try clear c29
       try clear c30
       try clear c35
       try clear c36
       try clear c37
       try clear c42
       try clear c43
       try clear c44
       try clear c45
       try clear c47
       try clear c48
       try clear c51
       try clear c54
       try clear c62
       try clear c63
       try clear c64
       try clear c67
       try clear c67b0
       try clear c69
       try clear c70
       try clear c71
       try clear c72
       try clear c74
       try clear c75
       try clear hcz13_0
       try clear hcz13_1
       try clear hcz13_2
       try clear hcz13_3
       try clear hcz15_0
       try clear hcz15_1
       try clear hcz15_2
       try clear hcz15_3
       try clear hcz22_0
       try clear hcz22_1
       try clear hcz22_2
       try clear hcz22_3
       try clear hcz25_0
       try clear hcz25_1
       try clear hcz25_2
       try clear hcz25_3
       try clear hcz30_0
       try clear hcz30_1
       try clear hcz30_2
       try clear hcz30_3
       try clear hcz38_0
       try clear hcz38_1
       try clear hcz38_2
       try clear hcz38_3
       try clear hcz46_0
       try clear hcz46_1
       try clear hcz46_2
       try clear hcz46_3
       try clear hcz49_0
       try clear hcz49_1
       try clear hcz49_2
       try clear hcz49_3
       try clear hcz5_0
       try clear hcz5_1
       try clear hcz5_2
       try clear hcz5_3
       try clear hcz65_0
       try clear hcz65_1
       try clear hcz65_2
       try clear hcz65_3
       try clear hcz73_0
       try clear hcz73_1
       try clear hcz73_2
       try clear hcz73_3
       try clear hcz76_0
       try clear hcz76_1
       try clear hcz76_2
       try clear hcz76_3
       try clear hfz13_0
       try clear hfz13_1
       try clear hfz13_2
       try clear hfz13_3
       try clear hfz15_0
       try clear hfz15_1
       try clear hfz15_2
       try clear hfz15_3
       try clear hfz22_0
       try clear hfz22_1
       try clear hfz22_2
       try clear hfz22_3
       try clear hfz25_0
       try clear hfz25_1
       try clear hfz25_2
       try clear hfz25_3
       try clear hfz30_0
       try clear hfz30_1
       try clear hfz30_2
       try clear hfz30_3
       try clear hfz38_0
       try clear hfz38_1
       try clear hfz38_2
       try clear hfz38_3
       try clear hfz46_0
       try clear hfz46_1
       try clear hfz46_2
       try clear hfz46_3
       try clear hfz49_0
       try clear hfz49_1
       try clear hfz49_2
       try clear hfz49_3
       try clear hfz5_0
       try clear hfz5_1
       try clear hfz5_2
       try clear hfz5_3
       try clear hfz65_0
       try clear hfz65_1
       try clear hfz65_2
       try clear hfz65_3
       try clear hfz73_0
       try clear hfz73_1
       try clear hfz73_2
       try clear hfz73_3
       try clear hfz76_0
       try clear hfz76_1
       try clear hfz76_2
       try clear hfz76_3
       try clear p2
       obtain ⟨kq, x61_55, rfl, HA, HJ55, HO_362002, HO_362003, HO_371002, HO_371003, HO_381002, HO_381003, BK342, BK361, BK370, BK380, HB⟩ := hcut
       have hl371002_55 := (Kd.R_reads' HO_371002.out).1
       rw [hl371002_55] at HO_371002
       (try simp only [hl371002_55])
       (try simp only [hl371002_55] at BK342)
       (try simp only [hl371002_55] at BK361)
       (try simp only [hl371002_55] at BK370)
       (try simp only [hl371002_55] at BK380)
       (try simp only [hl371002_55] at HO_362002)
       (try simp only [hl371002_55] at HO_362003)
       (try simp only [hl371002_55] at HO_371003)
       (try simp only [hl371002_55] at HO_381002)
       (try simp only [hl371002_55] at HO_381003)
       have hl371003_55 := (Kd.R_reads' HO_371003.out).1
       rw [hl371003_55] at HO_371003
       (try simp only [hl371003_55])
       (try simp only [hl371003_55] at BK342)
       (try simp only [hl371003_55] at BK361)
       (try simp only [hl371003_55] at BK370)
       (try simp only [hl371003_55] at BK380)
       (try simp only [hl371003_55] at HO_362002)
       (try simp only [hl371003_55] at HO_362003)
       (try simp only [hl371003_55] at HO_371002)
       (try simp only [hl371003_55] at HO_381002)
       (try simp only [hl371003_55] at HO_381003)
       cases kq with
       | zero => exact absurd HA.out (by simp [laws_FnExactTurnFigure.j1])
       | succ kj55 =>
        have H := HA.out
        clear HA
        simp only [laws_FnExactTurnFigure.j1] at H
        by_cases c78 : x61_55 = true
        ·subst c78
         have H1 : (some false) = some r := by rw [if_pos rfl] at H; exact H
         clear H
         have H := H1
         clear H1
         exact absurd ((Option.some.inj H).trans HR_.out) Bool.false_ne_true
        ·replace c78 := Bool.eq_false_iff.mpr c78
         subst c78
         have H1 : ((laws_markFigure.f kj55 t371 t372 t373 t376 101).bind fun bt395 => ((laws_heldFigure.f kj55 t371 t372 bt395.2.1 bt395.2.2 101).bind fun t398 => (if t398 < 0 then (some false) else (if t398 = bt395.1 then ((laws_toFigure.f a0_0 a0_1 l0_2 l0_3 true).bind fun bt399 => ((impl_TurnFigure.f kj55 bt399.1 bt399.2.1 bt399.2.2.1 bt399.2.2.2).bind fun bt407 => ((laws_eqFigure.f kj55 bt407.1 bt407.2.1 bt407.2.2.1 bt407.2.2.2.1 t352 t353 t354 t357).bind fun t417 => (if t417 = true then (laws_FnExactTurnFigure.j2 kj55 bt395.1 (bt407.2.2.2.2 != t360) t371 t372 bt395.2.1 bt395.2.2) else (laws_FnExactTurnFigure.j2 kj55 bt395.1 true t371 t372 bt395.2.1 bt395.2.2))))) else (some false))))) = some r := by rw [if_neg (show ¬ (false = true) by decide)] at H; exact H
         clear H
         have H := H1
         clear H1
         replace H := Option.bind_eq_some_iff.mp H
         obtain ⟨⟨t395, t396, t397⟩, A790, H⟩ := H
         replace H : ((laws_heldFigure.f kj55 t371 t372 t396 t397 101).bind fun t398 => (if t398 < 0 then (some false) else (if t398 = t395 then ((laws_toFigure.f a0_0 a0_1 l0_2 l0_3 true).bind fun bt399 => ((impl_TurnFigure.f kj55 bt399.1 bt399.2.1 bt399.2.2.1 bt399.2.2.2).bind fun bt407 => ((laws_eqFigure.f kj55 bt407.1 bt407.2.1 bt407.2.2.1 bt407.2.2.2.1 t352 t353 t354 t357).bind fun t417 => (if t417 = true then (laws_FnExactTurnFigure.j2 kj55 t395 (bt407.2.2.2.2 != t360) t371 t372 t396 t397) else (laws_FnExactTurnFigure.j2 kj55 t395 true t371 t372 t396 t397))))) else (some false)))) = some r := H
         have A79 := Aside0.mk A790
         clear A790
         replace H := Option.bind_eq_some_iff.mp H
         obtain ⟨t398, A800, H⟩ := H
         replace H : (if t398 < 0 then (some false) else (if t398 = t395 then ((laws_toFigure.f a0_0 a0_1 l0_2 l0_3 true).bind fun bt399 => ((impl_TurnFigure.f kj55 bt399.1 bt399.2.1 bt399.2.2.1 bt399.2.2.2).bind fun bt407 => ((laws_eqFigure.f kj55 bt407.1 bt407.2.1 bt407.2.2.1 bt407.2.2.2.1 t352 t353 t354 t357).bind fun t417 => (if t417 = true then (laws_FnExactTurnFigure.j2 kj55 t395 (bt407.2.2.2.2 != t360) t371 t372 t396 t397) else (laws_FnExactTurnFigure.j2 kj55 t395 true t371 t372 t396 t397))))) else (some false))) = some r := H
         have A80 := Aside0.mk A800
         clear A800
         by_cases c81 : t398 < 0
         ·rw [if_pos c81] at H
          have c81b0 : decide (t398 < 0) = true := decide_eq_true c81
          clear c81
          exact absurd ((Option.some.inj H).trans HR_.out) Bool.false_ne_true
         ·rw [if_neg c81] at H
          have c81b0 : decide (t398 < 0) = false := decide_eq_false c81
          clear c81
          by_cases c82 : t398 = t395
          ·rw [if_pos c82] at H
           have c82b0 : (t398 == t395) = true := beq_iff_eq.mpr c82
           have c82b1 : (t398 != t395) = false := bne_eq_false_iff_eq.mpr c82
           clear c82
           replace H := Option.bind_eq_some_iff.mp H
           obtain ⟨⟨t399, t400, t401, t404⟩, A830, H⟩ := H
           replace H : ((impl_TurnFigure.f kj55 t399 t400 t401 t404).bind fun bt407 => ((laws_eqFigure.f kj55 bt407.1 bt407.2.1 bt407.2.2.1 bt407.2.2.2.1 t352 t353 t354 t357).bind fun t417 => (if t417 = true then (laws_FnExactTurnFigure.j2 kj55 t395 (bt407.2.2.2.2 != t360) t371 t372 t396 t397) else (laws_FnExactTurnFigure.j2 kj55 t395 true t371 t372 t396 t397)))) = some r := H
           have A83 := Aside0.mk A830
           clear A830
           replace H := Option.bind_eq_some_iff.mp H
           obtain ⟨⟨t407, t408, t409, t412, t415⟩, A840, H⟩ := H
           replace H : ((laws_eqFigure.f kj55 t407 t408 t409 t412 t352 t353 t354 t357).bind fun t417 => (if t417 = true then (laws_FnExactTurnFigure.j2 kj55 t395 (t415 != t360) t371 t372 t396 t397) else (laws_FnExactTurnFigure.j2 kj55 t395 true t371 t372 t396 t397))) = some r := H
           have A84 := Aside0.mk A840
           clear A840
           have HC85 := Aside0.mk H
           clear H
           have hnb86 := NB380_342.out
           have hnc86 := NB342_380.out
           have hnb87 := NB380_361.out
           have hnc87 := NB361_380.out
           have hnb88 := NB380_370.out
           have hnc88 := NB370_380.out
           have hcz89_0 : wc.cell? ⟨gb380, 0, none⟩ = some (.int .i64 t371) := (blk_cell BK380.out 0).trans rfl
           have hcz89_1 : wc.cell? ⟨gb380, 1, none⟩ = some (.int .i64 t372) := (blk_cell BK380.out 1).trans rfl
           have hcz89_2 : wc.cell? ⟨gb380, 2, none⟩ = some (.slice Ao39 t373.length co39) := (blk_cell BK380.out 2).trans rfl
           have hcz89_3 : wc.cell? ⟨gb380, 3, none⟩ = some (.slice Ao40 t376.length co40) := (blk_cell BK380.out 3).trans rfl
           have hfz89_0 := blk_frozen BK380.out 0
           have hfz89_1 := blk_frozen BK380.out 1
           have hfz89_2 := blk_frozen BK380.out 2
           have hfz89_3 := blk_frozen BK380.out 3
           go_upto_region 25 with (first | ((with_reducible refine gate_callee (f := 16) rfl ?_); refine goesL_ (some 64) rfl rfl Tryd.func16 (by kernel_rfl) rfl #[.agg #[.int .i64 t371, .int .i64 t372, .slice Ao39 t373.length co39, .slice Ao40 t376.length co40], .int .i64 101] rfl (by (try simp only [List.map_toArray, List.map_cons, List.map_nil]); first | done | rfl | (simp only [List.length_drop, List.length_take]; rfl)) ?_; (with_reducible refine (laws_markFigure.calls kj55 t371 t372 (fun k_ => some k_ = (.slice Ao39 t373.length co39 : Value).ownBlock) (.slice Ao39 t373.length co39) t373 (fun k_ => some k_ = (.slice Ao40 t376.length co40 : Value).ownBlock) (.slice Ao40 t376.length co40) t376 101 t395 t396 t397 w _ ?side1 ?side2 ?side3 ?side4 ?side5 A79.out).mono ?_); (case side1 => repeat (first | (with_reducible first | exact HB.out | apply below_alloc | apply pw_below_drewN | apply below_drew1 | refine below_set ?_ GE342.out | refine below_set ?_ GE361.out | refine below_set ?_ GE370.out | refine below_set ?_ GE380.out) | exact HB.out)); (case side2 => exact Kd.R_tight rfl HO_381002.out); (case side3 => exact fun k_ e_ => (HO_381002.out.1 k_ e_.symm).2.2.2.2); (case side4 => exact Kd.R_tight rfl HO_381003.out); (case side5 => exact fun k_ e_ => (HO_381003.out.1 k_ e_.symm).2.2.2.2); rintro e w90 ⟨rfl, hy0, hy1, hb, hkp⟩; refine ⟨_, rfl, ?_⟩; have n0_ := Aside0.mk (Kd.R_mono (ok' := fun k_ => some k_ ≠ (.slice Ao24 t357.length co24 : Value).ownBlock ∧ some k_ ≠ (.slice Ao31 t392.length co31 : Value).ownBlock ∧ some k_ ≠ (.slice Ao32 t393.length co32 : Value).ownBlock ∧ some k_ ≠ (.slice Ao39 t373.length co39 : Value).ownBlock ∧ some k_ ≠ (.slice Ao40 t376.length co40 : Value).ownBlock) (Kd.R_keptB (HO_362002.out) hkp (fun k_ hk_ hs_ => Or.elim hs_ (fun e_ => (hk_.2.2.2.1) e_) (fun e_ => (hk_.2.2.2.2) e_))) (fun k_ hk_ => ⟨hk_.1.1, hk_.1.2.1, hk_.1.2.2.1, hk_.1.2.2.2.1, hk_.1.2.2.2.2⟩)); have n1_ := Aside0.mk (Kd.R_mono (ok' := fun k_ => some k_ ≠ (.slice Ao23 t354.length co23 : Value).ownBlock ∧ some k_ ≠ (.slice Ao31 t392.length co31 : Value).ownBlock ∧ some k_ ≠ (.slice Ao32 t393.length co32 : Value).ownBlock ∧ some k_ ≠ (.slice Ao39 t373.length co39 : Value).ownBlock ∧ some k_ ≠ (.slice Ao40 t376.length co40 : Value).ownBlock) (Kd.R_keptB (HO_362003.out) hkp (fun k_ hk_ hs_ => Or.elim hs_ (fun e_ => (hk_.2.2.2.1) e_) (fun e_ => (hk_.2.2.2.2) e_))) (fun k_ hk_ => ⟨hk_.1.1, hk_.1.2.1, hk_.1.2.2.1, hk_.1.2.2.2.1, hk_.1.2.2.2.2⟩)); have n2_ := Aside0.mk (Kd.R_mono (ok' := fun k_ => some k_ ≠ (.slice Ao23 t354.length co23 : Value).ownBlock ∧ some k_ ≠ (.slice Ao24 t357.length co24 : Value).ownBlock ∧ some k_ ≠ (.slice Ao32 t393.length co32 : Value).ownBlock ∧ some k_ ≠ (.slice Ao39 t373.length co39 : Value).ownBlock ∧ some k_ ≠ (.slice Ao40 t376.length co40 : Value).ownBlock) (Kd.R_keptB (HO_371002.out) hkp (fun k_ hk_ hs_ => Or.elim hs_ (fun e_ => (hk_.2.2.2.1) e_) (fun e_ => (hk_.2.2.2.2) e_))) (fun k_ hk_ => ⟨hk_.1.1, hk_.1.2.1, hk_.1.2.2.1, hk_.1.2.2.2.1, hk_.1.2.2.2.2⟩)); have n3_ := Aside0.mk (Kd.R_mono (ok' := fun k_ => some k_ ≠ (.slice Ao23 t354.length co23 : Value).ownBlock ∧ some k_ ≠ (.slice Ao24 t357.length co24 : Value).ownBlock ∧ some k_ ≠ (.slice Ao31 t392.length co31 : Value).ownBlock ∧ some k_ ≠ (.slice Ao39 t373.length co39 : Value).ownBlock ∧ some k_ ≠ (.slice Ao40 t376.length co40 : Value).ownBlock) (Kd.R_keptB (HO_371003.out) hkp (fun k_ hk_ hs_ => Or.elim hs_ (fun e_ => (hk_.2.2.2.1) e_) (fun e_ => (hk_.2.2.2.2) e_))) (fun k_ hk_ => ⟨hk_.1.1, hk_.1.2.1, hk_.1.2.2.1, hk_.1.2.2.2.1, hk_.1.2.2.2.2⟩)); have n4_ := Aside0.mk (Kd.R_reok rfl hy0 (fun k_ e_ => HO_381002.out.1 k_ e_)); have n5_ := Aside0.mk (Kd.R_reok rfl hy1 (fun k_ e_ => HO_381003.out.1 k_ e_)); have n6_ := Aside0.mk (blk_kept (by (with_reducible repeat (first | refine blk_drewN ?_ _ | refine blk_drew ?_ | refine blk_alloc ?_ _)); exact BK342.out) hkp (fun hs_ => Or.elim hs_ (fun e_ => (fun e_ => (Kd.R_ne HO_381002.out BK342.out (by decide)) e_) e_) (fun e_ => (fun e_ => (Kd.R_ne HO_381003.out BK342.out (by decide)) e_) e_))); have n7_ := Aside0.mk (blk_kept (by (with_reducible repeat (first | refine blk_drewN ?_ _ | refine blk_drew ?_ | refine blk_alloc ?_ _)); exact BK361.out) hkp (fun hs_ => Or.elim hs_ (fun e_ => (fun e_ => (Kd.R_ne HO_381002.out BK361.out (by decide)) e_) e_) (fun e_ => (fun e_ => (Kd.R_ne HO_381003.out BK361.out (by decide)) e_) e_))); have n8_ := Aside0.mk (blk_kept (by (with_reducible repeat (first | refine blk_drewN ?_ _ | refine blk_drew ?_ | refine blk_alloc ?_ _)); exact BK370.out) hkp (fun hs_ => Or.elim hs_ (fun e_ => (fun e_ => (Kd.R_ne HO_381002.out BK370.out (by decide)) e_) e_) (fun e_ => (fun e_ => (Kd.R_ne HO_381003.out BK370.out (by decide)) e_) e_))); have n9_ := Aside0.mk (blk_kept (by (with_reducible repeat (first | refine blk_drewN ?_ _ | refine blk_drew ?_ | refine blk_alloc ?_ _)); exact BK380.out) hkp (fun hs_ => Or.elim hs_ (fun e_ => (fun e_ => (Kd.R_ne HO_381002.out BK380.out (by decide)) e_) e_) (fun e_ => (fun e_ => (Kd.R_ne HO_381003.out BK380.out (by decide)) e_) e_))); have n10_ := Aside0.mk (hb); clear HO_362002; clear HO_362003; clear HO_371002; clear HO_371003; clear HO_381002; clear HO_381003; clear BK342; clear BK361; clear BK370; clear BK380; clear HB; have HO_362002 := n0_; have HO_362003 := n1_; have HO_371002 := n2_; have HO_371003 := n3_; have HO_381002 := n4_; have HO_381003 := n5_; have BK342 := n6_; have BK361 := n7_; have BK370 := n8_; have BK380 := n9_; have HB := n10_; clear n0_ n1_ n2_ n3_ n4_ n5_ n6_ n7_ n8_ n9_ n10_; (try clear hb); (try clear hkp); (try clear hy0); (try clear hy1); have hcz91_0 : w90.cell? ⟨gb380, 0, none⟩ = some (.int .i64 t371) := (blk_cell BK380.out 0).trans rfl; have hcz91_1 : w90.cell? ⟨gb380, 1, none⟩ = some (.int .i64 t372) := (blk_cell BK380.out 1).trans rfl; have hcz91_2 : w90.cell? ⟨gb380, 2, none⟩ = some (.slice Ao39 t373.length co39) := (blk_cell BK380.out 2).trans rfl; have hcz91_3 : w90.cell? ⟨gb380, 3, none⟩ = some (.slice Ao40 t376.length co40) := (blk_cell BK380.out 3).trans rfl; have hfz91_0 := blk_frozen BK380.out 0; have hfz91_1 := blk_frozen BK380.out 1; have hfz91_2 := blk_frozen BK380.out 2; have hfz91_3 := blk_frozen BK380.out 3) | ((with_reducible refine gate_callee (f := 17) rfl ?_); refine goesL_ (some 67) rfl rfl Tryd.func17 (by kernel_rfl) rfl #[.agg #[.int .i64 t371, .int .i64 t372, .slice Ao39 t396.length co39, .slice Ao40 t397.length co40], .int .i64 101] rfl (by (try simp only [List.map_toArray, List.map_cons, List.map_nil]); first | done | (rw [show t396.length = t373.length from (Kd.R_reads' HO_381002.out).1.symm, show t397.length = t376.length from (Kd.R_reads' HO_381003.out).1.symm] <;> rfl) | rfl | (simp only [List.length_drop, List.length_take]; rfl)) ?_; (with_reducible refine (laws_heldFigure.calls kj55 t371 t372 _ _ t396 _ _ t397 101 t398 _ ?side1 ?side2 ?side3 ?side4 A80.out).mono ?_); (case side1 => repeat (first | exact (Kd.R_reads' HO_381002.out).2.2 | (with_reducible refine Kd.C_alloc ?_ _) | (with_reducible refine Kd.C_drewN ?_ _) | (with_reducible refine Kd.C_drew ?_))); (case side2 => rw [show t396.length = t373.length from (Kd.R_reads' HO_381002.out).1.symm]; exact (Kd.R_reads' HO_381002.out).2.1); (case side3 => repeat (first | exact (Kd.R_reads' HO_381003.out).2.2 | (with_reducible refine Kd.C_alloc ?_ _) | (with_reducible refine Kd.C_drewN ?_ _) | (with_reducible refine Kd.C_drew ?_))); (case side4 => rw [show t397.length = t376.length from (Kd.R_reads' HO_381003.out).1.symm]; exact (Kd.R_reads' HO_381003.out).2.1); rintro e w92 ⟨rfl, hb⟩; refine ⟨_, rfl, ?_⟩; have n0_ := Aside0.mk (Kd.R_below (by (with_reducible repeat (first | apply Kd.R_alloc | apply Kd.R_drewN | apply Kd.R_drew)); exact HO_362002.out) hb); have n1_ := Aside0.mk (Kd.R_below (by (with_reducible repeat (first | apply Kd.R_alloc | apply Kd.R_drewN | apply Kd.R_drew)); exact HO_362003.out) hb); have n2_ := Aside0.mk (Kd.R_below (by (with_reducible repeat (first | apply Kd.R_alloc | apply Kd.R_drewN | apply Kd.R_drew)); exact HO_371002.out) hb); have n3_ := Aside0.mk (Kd.R_below (by (with_reducible repeat (first | apply Kd.R_alloc | apply Kd.R_drewN | apply Kd.R_drew)); exact HO_371003.out) hb); have n4_ := Aside0.mk (Kd.R_below (by (with_reducible repeat (first | apply Kd.R_alloc | apply Kd.R_drewN | apply Kd.R_drew)); exact HO_381002.out) hb); have n5_ := Aside0.mk (Kd.R_below (by (with_reducible repeat (first | apply Kd.R_alloc | apply Kd.R_drewN | apply Kd.R_drew)); exact HO_381003.out) hb); have n6_ := Aside0.mk (blk_below (g := gb342) (o := .cells #[.int .i64 a0_0, .int .i64 a0_1, .slice A0_2 l0_2.length c0_2, .slice A0_3 l0_3.length c0_3] 24 (0, 0)) (by (with_reducible repeat (first | refine blk_drewN ?_ _ | refine blk_drew ?_ | refine blk_alloc ?_ _)); exact BK342.out) hb); have n7_ := Aside0.mk (blk_below (g := gb361) (o := .cells #[.int .i64 t352, .int .i64 t353, .slice Ao23 t354.length co23, .slice Ao24 t357.length co24] 26 (0, 0)) (by (with_reducible repeat (first | refine blk_drewN ?_ _ | refine blk_drew ?_ | refine blk_alloc ?_ _)); exact BK361.out) hb); have n8_ := Aside0.mk (blk_below (g := gb370) (o := .cells #[.int .i64 t362, .int .i64 t363, .slice Ao31 t392.length co31, .slice Ao32 t393.length co32] 26 (0, 0)) (by (with_reducible repeat (first | refine blk_drewN ?_ _ | refine blk_drew ?_ | refine blk_alloc ?_ _)); exact BK370.out) hb); have n9_ := Aside0.mk (blk_below (g := gb380) (o := .cells #[.int .i64 t371, .int .i64 t372, .slice Ao39 t373.length co39, .slice Ao40 t376.length co40] 26 (0, 0)) (by (with_reducible repeat (first | refine blk_drewN ?_ _ | refine blk_drew ?_ | refine blk_alloc ?_ _)); exact BK380.out) hb); have n10_ := Aside0.mk (below_step (by repeat (first | (with_reducible first | exact HB.out | apply below_alloc | apply pw_below_drewN | apply below_drew1 | refine below_set ?_ GE342.out | refine below_set ?_ GE361.out | refine below_set ?_ GE370.out | refine below_set ?_ GE380.out) | exact HB.out)) hb); clear HO_362002; clear HO_362003; clear HO_371002; clear HO_371003; clear HO_381002; clear HO_381003; clear BK342; clear BK361; clear BK370; clear BK380; clear HB; have HO_362002 := n0_; have HO_362003 := n1_; have HO_371002 := n2_; have HO_371003 := n3_; have HO_381002 := n4_; have HO_381003 := n5_; have BK342 := n6_; have BK361 := n7_; have BK370 := n8_; have BK380 := n9_; have HB := n10_; clear n0_ n1_ n2_ n3_ n4_ n5_ n6_ n7_ n8_ n9_ n10_; (try clear hb); (try clear hb2); (try clear hk); (try clear hi); have hnb93 := NB342_361.out; have hnc93 := NB361_342.out; have hnb94 := NB342_370.out; have hnc94 := NB370_342.out; have hcz95_0 : w92.cell? ⟨gb342, 0, none⟩ = some (.int .i64 a0_0) := (blk_cell BK342.out 0).trans rfl; have hcz95_1 : w92.cell? ⟨gb342, 1, none⟩ = some (.int .i64 a0_1) := (blk_cell BK342.out 1).trans rfl; have hcz95_2 : w92.cell? ⟨gb342, 2, none⟩ = some (.slice A0_2 l0_2.length c0_2) := (blk_cell BK342.out 2).trans rfl; have hcz95_3 : w92.cell? ⟨gb342, 3, none⟩ = some (.slice A0_3 l0_3.length c0_3) := (blk_cell BK342.out 3).trans rfl; have hfz95_0 := blk_frozen BK342.out 0; have hfz95_1 := blk_frozen BK342.out 1; have hfz95_2 := blk_frozen BK342.out 2; have hfz95_3 := blk_frozen BK342.out 3) | ((with_reducible refine gate_callee (f := 12) rfl ?_); refine goesL_ (some 75) rfl rfl Tryd.func12 (by kernel_rfl) rfl #[.agg #[.int .i64 a0_0, .int .i64 a0_1, .slice A0_2 l0_2.length c0_2, .slice A0_3 l0_3.length c0_3], .bool true] rfl (by (try simp only [List.map_toArray, List.map_cons, List.map_nil]); first | done | rfl | (simp only [List.length_drop, List.length_take]; rfl)) ?_; (with_reducible refine (laws_toFigure.calls a0_0 a0_1 _ _ l0_2 _ _ l0_3 true t399 t400 t401 t404 _ ?side1 ?side2 ?side3 ?side4 A83.out).mono ?_); (case side1 => repeat (first | exact (Kd.C_below HR0_2.out HB.out) | (with_reducible refine Kd.C_alloc ?_ _) | (with_reducible refine Kd.C_drewN ?_ _) | (with_reducible refine Kd.C_drew ?_))); (case side2 => exact HC0_2.out); (case side3 => repeat (first | exact (Kd.C_below HR0_3.out HB.out) | (with_reducible refine Kd.C_alloc ?_ _) | (with_reducible refine Kd.C_drewN ?_ _) | (with_reducible refine Kd.C_drew ?_))); (case side4 => exact HC0_3.out); rintro e w96 ⟨v402, v405, rfl, ho0, ho1, hb⟩; refine ⟨_, rfl, ?_⟩; have n0_ := Aside0.mk (Kd.R_mono (Kd.R_told (Kd.R_told (Kd.R_old (by (with_reducible repeat (first | apply Kd.R_alloc | apply Kd.R_drewN | apply Kd.R_drew)); exact HO_362002.out) hb) (Kd.PB_base ho0)) (Kd.PB_base ho1)) (fun _ h_ => h_.1)); have n1_ := Aside0.mk (Kd.R_mono (Kd.R_told (Kd.R_told (Kd.R_old (by (with_reducible repeat (first | apply Kd.R_alloc | apply Kd.R_drewN | apply Kd.R_drew)); exact HO_362003.out) hb) (Kd.PB_base ho0)) (Kd.PB_base ho1)) (fun _ h_ => h_.1)); have n2_ := Aside0.mk (Kd.R_mono (Kd.R_told (Kd.R_told (Kd.R_old (by (with_reducible repeat (first | apply Kd.R_alloc | apply Kd.R_drewN | apply Kd.R_drew)); exact HO_371002.out) hb) (Kd.PB_base ho0)) (Kd.PB_base ho1)) (fun _ h_ => h_.1)); have n3_ := Aside0.mk (Kd.R_mono (Kd.R_told (Kd.R_told (Kd.R_old (by (with_reducible repeat (first | apply Kd.R_alloc | apply Kd.R_drewN | apply Kd.R_drew)); exact HO_371003.out) hb) (Kd.PB_base ho0)) (Kd.PB_base ho1)) (fun _ h_ => h_.1)); have n4_ := Aside0.mk (Kd.R_mono (Kd.R_told (Kd.R_told (Kd.R_old (by (with_reducible repeat (first | apply Kd.R_alloc | apply Kd.R_drewN | apply Kd.R_drew)); exact HO_381002.out) hb) (Kd.PB_base ho0)) (Kd.PB_base ho1)) (fun _ h_ => h_.1)); have n5_ := Aside0.mk (Kd.R_mono (Kd.R_told (Kd.R_told (Kd.R_old (by (with_reducible repeat (first | apply Kd.R_alloc | apply Kd.R_drewN | apply Kd.R_drew)); exact HO_381003.out) hb) (Kd.PB_base ho0)) (Kd.PB_base ho1)) (fun _ h_ => h_.1)); have n6_ := Aside0.mk (Kd.PB_lower (Kd.PB_new' (Kd.PB_new' (Kd.PB_new' (Kd.PB_new' (Kd.PB_new' (Kd.PB_new' ho0 (Kd.R_lt (by (with_reducible repeat (first | apply Kd.R_alloc | apply Kd.R_drewN | apply Kd.R_drew)); exact HO_362002.out))) (Kd.R_lt (by (with_reducible repeat (first | apply Kd.R_alloc | apply Kd.R_drewN | apply Kd.R_drew)); exact HO_362003.out))) (Kd.R_lt (by (with_reducible repeat (first | apply Kd.R_alloc | apply Kd.R_drewN | apply Kd.R_drew)); exact HO_371002.out))) (Kd.R_lt (by (with_reducible repeat (first | apply Kd.R_alloc | apply Kd.R_drewN | apply Kd.R_drew)); exact HO_371003.out))) (Kd.R_lt (by (with_reducible repeat (first | apply Kd.R_alloc | apply Kd.R_drewN | apply Kd.R_drew)); exact HO_381002.out))) (Kd.R_lt (by (with_reducible repeat (first | apply Kd.R_alloc | apply Kd.R_drewN | apply Kd.R_drew)); exact HO_381003.out))) (below_size (by repeat (first | (with_reducible first | exact HB.out | apply below_alloc | apply pw_below_drewN | apply below_drew1 | refine below_set ?_ GE342.out | refine below_set ?_ GE361.out | refine below_set ?_ GE370.out | refine below_set ?_ GE380.out) | exact HB.out)))); have n7_ := Aside0.mk (Kd.PB_lower (Kd.PB_new' (Kd.PB_new' (Kd.PB_new' (Kd.PB_new' (Kd.PB_new' (Kd.PB_new' ho1 (Kd.R_lt (by (with_reducible repeat (first | apply Kd.R_alloc | apply Kd.R_drewN | apply Kd.R_drew)); exact HO_362002.out))) (Kd.R_lt (by (with_reducible repeat (first | apply Kd.R_alloc | apply Kd.R_drewN | apply Kd.R_drew)); exact HO_362003.out))) (Kd.R_lt (by (with_reducible repeat (first | apply Kd.R_alloc | apply Kd.R_drewN | apply Kd.R_drew)); exact HO_371002.out))) (Kd.R_lt (by (with_reducible repeat (first | apply Kd.R_alloc | apply Kd.R_drewN | apply Kd.R_drew)); exact HO_371003.out))) (Kd.R_lt (by (with_reducible repeat (first | apply Kd.R_alloc | apply Kd.R_drewN | apply Kd.R_drew)); exact HO_381002.out))) (Kd.R_lt (by (with_reducible repeat (first | apply Kd.R_alloc | apply Kd.R_drewN | apply Kd.R_drew)); exact HO_381003.out))) (below_size (by repeat (first | (with_reducible first | exact HB.out | apply below_alloc | apply pw_below_drewN | apply below_drew1 | refine below_set ?_ GE342.out | refine below_set ?_ GE361.out | refine below_set ?_ GE370.out | refine below_set ?_ GE380.out) | exact HB.out)))); have n8_ := Aside0.mk (blk_below (g := gb342) (o := .cells #[.int .i64 a0_0, .int .i64 a0_1, .slice A0_2 l0_2.length c0_2, .slice A0_3 l0_3.length c0_3] 24 (0, 0)) (by (with_reducible repeat (first | refine blk_drewN ?_ _ | refine blk_drew ?_ | refine blk_alloc ?_ _)); exact BK342.out) hb); have n9_ := Aside0.mk (blk_below (g := gb361) (o := .cells #[.int .i64 t352, .int .i64 t353, .slice Ao23 t354.length co23, .slice Ao24 t357.length co24] 26 (0, 0)) (by (with_reducible repeat (first | refine blk_drewN ?_ _ | refine blk_drew ?_ | refine blk_alloc ?_ _)); exact BK361.out) hb); have n10_ := Aside0.mk (blk_below (g := gb370) (o := .cells #[.int .i64 t362, .int .i64 t363, .slice Ao31 t392.length co31, .slice Ao32 t393.length co32] 26 (0, 0)) (by (with_reducible repeat (first | refine blk_drewN ?_ _ | refine blk_drew ?_ | refine blk_alloc ?_ _)); exact BK370.out) hb); have n11_ := Aside0.mk (blk_below (g := gb380) (o := .cells #[.int .i64 t371, .int .i64 t372, .slice Ao39 t373.length co39, .slice Ao40 t376.length co40] 26 (0, 0)) (by (with_reducible repeat (first | refine blk_drewN ?_ _ | refine blk_drew ?_ | refine blk_alloc ?_ _)); exact BK380.out) hb); have n12_ := Aside0.mk (below_step (by repeat (first | (with_reducible first | exact HB.out | apply below_alloc | apply pw_below_drewN | apply below_drew1 | refine below_set ?_ GE342.out | refine below_set ?_ GE361.out | refine below_set ?_ GE370.out | refine below_set ?_ GE380.out) | exact HB.out)) hb); clear HO_362002; clear HO_362003; clear HO_371002; clear HO_371003; clear HO_381002; clear HO_381003; clear BK342; clear BK361; clear BK370; clear BK380; clear HB; have HO_362002 := n0_; have HO_362003 := n1_; have HO_371002 := n2_; have HO_371003 := n3_; have HO_381002 := n4_; have HO_381003 := n5_; have HO403 := n6_; have HO406 := n7_; have BK342 := n8_; have BK361 := n9_; have BK370 := n10_; have BK380 := n11_; have HB := n12_; clear n0_ n1_ n2_ n3_ n4_ n5_ n6_ n7_ n8_ n9_ n10_ n11_ n12_; (try clear hb); (try clear hb2); (try clear hk); (try clear hi); (try clear ho0); (try clear ho1); obtain ⟨Ao97, co97, eo97⟩ := Kd.PB_slice HO403.out; subst eo97; obtain ⟨Ao98, co98, eo98⟩ := Kd.PB_slice HO406.out; subst eo98) | ((with_reducible refine gate_callee (f := 30) rfl ?_); refine goesL_ (some 76) rfl rfl Tryd.func30 (by kernel_rfl) rfl #[.agg #[.int .i64 t399, .int .i64 t400, .slice Ao97 t401.length co97, .slice Ao98 t404.length co98]] rfl (by (try simp only [List.map_toArray, List.map_cons, List.map_nil]); first | done | rfl | (simp only [List.length_drop, List.length_take]; rfl)) ?_; (with_reducible refine (impl_TurnFigure.calls kj55 t399 t400 _ _ t401 _ _ t404 t407 t408 t409 t412 t415 _ ?side1 ?side2 ?side3 ?side4 ?side5 A84.out).mono ?_); (case side1 => repeat (first | exact (Kd.PB_reads' HO403.out).2.2 | (with_reducible refine Kd.C_alloc ?_ _) | (with_reducible refine Kd.C_drewN ?_ _) | (with_reducible refine Kd.C_drew ?_))); (case side2 => exact (Kd.PB_reads' HO403.out).2.1); (case side3 => repeat (first | exact (Kd.PB_reads' HO406.out).2.2 | (with_reducible refine Kd.C_alloc ?_ _) | (with_reducible refine Kd.C_drewN ?_ _) | (with_reducible refine Kd.C_drew ?_))); (case side4 => exact (Kd.PB_reads' HO406.out).2.1); (case side5 => first | exact LaidG_below HG.out (by repeat (first | (with_reducible first | exact HB.out | apply below_alloc | apply pw_below_drewN | apply below_drew1 | refine below_set ?_ GE342.out | refine below_set ?_ GE361.out | refine below_set ?_ GE370.out | refine below_set ?_ GE380.out) | exact HB.out)) | (repeat (first | exact HG.out | (with_reducible refine LaidG_alloc ?_ _) | (with_reducible refine LaidG_drewN ?_ _) | (with_reducible refine LaidG_drew ?_)))); rintro e w99 ⟨v410, v413, rfl, ho0, ho1, hb⟩; refine ⟨_, rfl, ?_⟩; have n0_ := Aside0.mk (Kd.R_mono (Kd.R_told (Kd.R_told (Kd.R_old (by (with_reducible repeat (first | apply Kd.R_alloc | apply Kd.R_drewN | apply Kd.R_drew)); exact HO_362002.out) hb) (Kd.R_base ho0)) (Kd.R_base ho1)) (fun _ h_ => h_.1)); have n1_ := Aside0.mk (Kd.R_mono (Kd.R_told (Kd.R_told (Kd.R_old (by (with_reducible repeat (first | apply Kd.R_alloc | apply Kd.R_drewN | apply Kd.R_drew)); exact HO_362003.out) hb) (Kd.R_base ho0)) (Kd.R_base ho1)) (fun _ h_ => h_.1)); have n2_ := Aside0.mk (Kd.R_mono (Kd.R_told (Kd.R_told (Kd.R_old (by (with_reducible repeat (first | apply Kd.R_alloc | apply Kd.R_drewN | apply Kd.R_drew)); exact HO_371002.out) hb) (Kd.R_base ho0)) (Kd.R_base ho1)) (fun _ h_ => h_.1)); have n3_ := Aside0.mk (Kd.R_mono (Kd.R_told (Kd.R_told (Kd.R_old (by (with_reducible repeat (first | apply Kd.R_alloc | apply Kd.R_drewN | apply Kd.R_drew)); exact HO_371003.out) hb) (Kd.R_base ho0)) (Kd.R_base ho1)) (fun _ h_ => h_.1)); have n4_ := Aside0.mk (Kd.R_mono (Kd.R_told (Kd.R_told (Kd.R_old (by (with_reducible repeat (first | apply Kd.R_alloc | apply Kd.R_drewN | apply Kd.R_drew)); exact HO_381002.out) hb) (Kd.R_base ho0)) (Kd.R_base ho1)) (fun _ h_ => h_.1)); have n5_ := Aside0.mk (Kd.R_mono (Kd.R_told (Kd.R_told (Kd.R_old (by (with_reducible repeat (first | apply Kd.R_alloc | apply Kd.R_drewN | apply Kd.R_drew)); exact HO_381003.out) hb) (Kd.R_base ho0)) (Kd.R_base ho1)) (fun _ h_ => h_.1)); have n6_ := Aside0.mk (Kd.PB_mono (Kd.PB_told (Kd.PB_told (Kd.PB_old (by (with_reducible repeat (first | apply Kd.PB_alloc | apply Kd.PB_drewN | apply Kd.PB_drew)); exact HO403.out) hb) (Kd.R_base ho0)) (Kd.R_base ho1)) (fun _ h_ => h_.1)); have n7_ := Aside0.mk (Kd.PB_mono (Kd.PB_told (Kd.PB_told (Kd.PB_old (by (with_reducible repeat (first | apply Kd.PB_alloc | apply Kd.PB_drewN | apply Kd.PB_drew)); exact HO406.out) hb) (Kd.R_base ho0)) (Kd.R_base ho1)) (fun _ h_ => h_.1)); have n8_ := Aside0.mk (Kd.R_lower (Kd.R_new' (Kd.R_new' (Kd.R_new' (Kd.R_new' (Kd.R_new' (Kd.R_new' (Kd.R_new' (Kd.R_new' ho0 (Kd.R_lt (by (with_reducible repeat (first | apply Kd.R_alloc | apply Kd.R_drewN | apply Kd.R_drew)); exact HO_362002.out))) (Kd.R_lt (by (with_reducible repeat (first | apply Kd.R_alloc | apply Kd.R_drewN | apply Kd.R_drew)); exact HO_362003.out))) (Kd.R_lt (by (with_reducible repeat (first | apply Kd.R_alloc | apply Kd.R_drewN | apply Kd.R_drew)); exact HO_371002.out))) (Kd.R_lt (by (with_reducible repeat (first | apply Kd.R_alloc | apply Kd.R_drewN | apply Kd.R_drew)); exact HO_371003.out))) (Kd.R_lt (by (with_reducible repeat (first | apply Kd.R_alloc | apply Kd.R_drewN | apply Kd.R_drew)); exact HO_381002.out))) (Kd.R_lt (by (with_reducible repeat (first | apply Kd.R_alloc | apply Kd.R_drewN | apply Kd.R_drew)); exact HO_381003.out))) (Kd.PB_lt (by (with_reducible repeat (first | apply Kd.PB_alloc | apply Kd.PB_drewN | apply Kd.PB_drew)); exact HO403.out))) (Kd.PB_lt (by (with_reducible repeat (first | apply Kd.PB_alloc | apply Kd.PB_drewN | apply Kd.PB_drew)); exact HO406.out))) (below_size (by repeat (first | (with_reducible first | exact HB.out | apply below_alloc | apply pw_below_drewN | apply below_drew1 | refine below_set ?_ GE342.out | refine below_set ?_ GE361.out | refine below_set ?_ GE370.out | refine below_set ?_ GE380.out) | exact HB.out)))); have n9_ := Aside0.mk (Kd.R_lower (Kd.R_new' (Kd.R_new' (Kd.R_new' (Kd.R_new' (Kd.R_new' (Kd.R_new' (Kd.R_new' (Kd.R_new' ho1 (Kd.R_lt (by (with_reducible repeat (first | apply Kd.R_alloc | apply Kd.R_drewN | apply Kd.R_drew)); exact HO_362002.out))) (Kd.R_lt (by (with_reducible repeat (first | apply Kd.R_alloc | apply Kd.R_drewN | apply Kd.R_drew)); exact HO_362003.out))) (Kd.R_lt (by (with_reducible repeat (first | apply Kd.R_alloc | apply Kd.R_drewN | apply Kd.R_drew)); exact HO_371002.out))) (Kd.R_lt (by (with_reducible repeat (first | apply Kd.R_alloc | apply Kd.R_drewN | apply Kd.R_drew)); exact HO_371003.out))) (Kd.R_lt (by (with_reducible repeat (first | apply Kd.R_alloc | apply Kd.R_drewN | apply Kd.R_drew)); exact HO_381002.out))) (Kd.R_lt (by (with_reducible repeat (first | apply Kd.R_alloc | apply Kd.R_drewN | apply Kd.R_drew)); exact HO_381003.out))) (Kd.PB_lt (by (with_reducible repeat (first | apply Kd.PB_alloc | apply Kd.PB_drewN | apply Kd.PB_drew)); exact HO403.out))) (Kd.PB_lt (by (with_reducible repeat (first | apply Kd.PB_alloc | apply Kd.PB_drewN | apply Kd.PB_drew)); exact HO406.out))) (below_size (by repeat (first | (with_reducible first | exact HB.out | apply below_alloc | apply pw_below_drewN | apply below_drew1 | refine below_set ?_ GE342.out | refine below_set ?_ GE361.out | refine below_set ?_ GE370.out | refine below_set ?_ GE380.out) | exact HB.out)))); have n10_ := Aside0.mk (blk_below (g := gb342) (o := .cells #[.int .i64 a0_0, .int .i64 a0_1, .slice A0_2 l0_2.length c0_2, .slice A0_3 l0_3.length c0_3] 24 (0, 0)) (by (with_reducible repeat (first | refine blk_drewN ?_ _ | refine blk_drew ?_ | refine blk_alloc ?_ _)); exact BK342.out) hb); have n11_ := Aside0.mk (blk_below (g := gb361) (o := .cells #[.int .i64 t352, .int .i64 t353, .slice Ao23 t354.length co23, .slice Ao24 t357.length co24] 26 (0, 0)) (by (with_reducible repeat (first | refine blk_drewN ?_ _ | refine blk_drew ?_ | refine blk_alloc ?_ _)); exact BK361.out) hb); have n12_ := Aside0.mk (blk_below (g := gb370) (o := .cells #[.int .i64 t362, .int .i64 t363, .slice Ao31 t392.length co31, .slice Ao32 t393.length co32] 26 (0, 0)) (by (with_reducible repeat (first | refine blk_drewN ?_ _ | refine blk_drew ?_ | refine blk_alloc ?_ _)); exact BK370.out) hb); have n13_ := Aside0.mk (blk_below (g := gb380) (o := .cells #[.int .i64 t371, .int .i64 t372, .slice Ao39 t373.length co39, .slice Ao40 t376.length co40] 26 (0, 0)) (by (with_reducible repeat (first | refine blk_drewN ?_ _ | refine blk_drew ?_ | refine blk_alloc ?_ _)); exact BK380.out) hb); have n14_ := Aside0.mk (below_step (by repeat (first | (with_reducible first | exact HB.out | apply below_alloc | apply pw_below_drewN | apply below_drew1 | refine below_set ?_ GE342.out | refine below_set ?_ GE361.out | refine below_set ?_ GE370.out | refine below_set ?_ GE380.out) | exact HB.out)) hb); clear HO_362002; clear HO_362003; clear HO_371002; clear HO_371003; clear HO_381002; clear HO_381003; clear HO403; clear HO406; clear BK342; clear BK361; clear BK370; clear BK380; clear HB; have HO_362002 := n0_; have HO_362003 := n1_; have HO_371002 := n2_; have HO_371003 := n3_; have HO_381002 := n4_; have HO_381003 := n5_; have HO403 := n6_; have HO406 := n7_; have HO411 := n8_; have HO414 := n9_; have BK342 := n10_; have BK361 := n11_; have BK370 := n12_; have BK380 := n13_; have HB := n14_; clear n0_ n1_ n2_ n3_ n4_ n5_ n6_ n7_ n8_ n9_ n10_ n11_ n12_ n13_ n14_; (try clear hb); (try clear hb2); (try clear hk); (try clear hi); (try clear ho0); (try clear ho1)) | ((with_reducible refine gate_dst (N := 12) rfl ?_); refine box_event ?hg (N := 12) ?hd (cs := #[.int .i64 0, .int .i64 0, .slice none 0 0, .slice none 0 0]) (t := 26) ?hr ?_; (case hd => rfl); (case hg => rfl); (case hr => first | (go_simp; done) | (go_simp; rfl)); intro gb416 hg w100 hbox hb; have n0_ := Aside0.mk (Kd.R_below (by (with_reducible repeat (first | apply Kd.R_alloc | apply Kd.R_drewN | apply Kd.R_drew)); exact HO_362002.out) hb); have n1_ := Aside0.mk (Kd.R_below (by (with_reducible repeat (first | apply Kd.R_alloc | apply Kd.R_drewN | apply Kd.R_drew)); exact HO_362003.out) hb); have n2_ := Aside0.mk (Kd.R_below (by (with_reducible repeat (first | apply Kd.R_alloc | apply Kd.R_drewN | apply Kd.R_drew)); exact HO_371002.out) hb); have n3_ := Aside0.mk (Kd.R_below (by (with_reducible repeat (first | apply Kd.R_alloc | apply Kd.R_drewN | apply Kd.R_drew)); exact HO_371003.out) hb); have n4_ := Aside0.mk (Kd.R_below (by (with_reducible repeat (first | apply Kd.R_alloc | apply Kd.R_drewN | apply Kd.R_drew)); exact HO_381002.out) hb); have n5_ := Aside0.mk (Kd.R_below (by (with_reducible repeat (first | apply Kd.R_alloc | apply Kd.R_drewN | apply Kd.R_drew)); exact HO_381003.out) hb); have n6_ := Aside0.mk (Kd.PB_below (by (with_reducible repeat (first | apply Kd.PB_alloc | apply Kd.PB_drewN | apply Kd.PB_drew)); exact HO403.out) hb); have n7_ := Aside0.mk (Kd.PB_below (by (with_reducible repeat (first | apply Kd.PB_alloc | apply Kd.PB_drewN | apply Kd.PB_drew)); exact HO406.out) hb); have n8_ := Aside0.mk (Kd.R_below (by (with_reducible repeat (first | apply Kd.R_alloc | apply Kd.R_drewN | apply Kd.R_drew)); exact HO411.out) hb); have n9_ := Aside0.mk (Kd.R_below (by (with_reducible repeat (first | apply Kd.R_alloc | apply Kd.R_drewN | apply Kd.R_drew)); exact HO414.out) hb); have n10_ := Aside0.mk (blk_below (g := gb342) (o := .cells #[.int .i64 a0_0, .int .i64 a0_1, .slice A0_2 l0_2.length c0_2, .slice A0_3 l0_3.length c0_3] 24 (0, 0)) (by (with_reducible repeat (first | refine blk_drewN ?_ _ | refine blk_drew ?_ | refine blk_alloc ?_ _)); exact BK342.out) hb); have n11_ := Aside0.mk (blk_below (g := gb361) (o := .cells #[.int .i64 t352, .int .i64 t353, .slice Ao23 t354.length co23, .slice Ao24 t357.length co24] 26 (0, 0)) (by (with_reducible repeat (first | refine blk_drewN ?_ _ | refine blk_drew ?_ | refine blk_alloc ?_ _)); exact BK361.out) hb); have n12_ := Aside0.mk (blk_below (g := gb370) (o := .cells #[.int .i64 t362, .int .i64 t363, .slice Ao31 t392.length co31, .slice Ao32 t393.length co32] 26 (0, 0)) (by (with_reducible repeat (first | refine blk_drewN ?_ _ | refine blk_drew ?_ | refine blk_alloc ?_ _)); exact BK370.out) hb); have n13_ := Aside0.mk (blk_below (g := gb380) (o := .cells #[.int .i64 t371, .int .i64 t372, .slice Ao39 t373.length co39, .slice Ao40 t376.length co40] 26 (0, 0)) (by (with_reducible repeat (first | refine blk_drewN ?_ _ | refine blk_drew ?_ | refine blk_alloc ?_ _)); exact BK380.out) hb); have n14_ := Aside0.mk (below_step (by repeat (first | (with_reducible first | exact HB.out | apply below_alloc | apply pw_below_drewN | apply below_drew1 | refine below_set ?_ GE342.out | refine below_set ?_ GE361.out | refine below_set ?_ GE370.out | refine below_set ?_ GE380.out) | exact HB.out)) hb); have n15_ := Aside0.mk (hbox); have n16_ := Aside0.mk ((by rw [hg]; exact (below_size (by repeat (first | (with_reducible first | exact HB.out | apply below_alloc | apply pw_below_drewN | apply below_drew1 | refine below_set ?_ GE342.out | refine below_set ?_ GE361.out | refine below_set ?_ GE370.out | refine below_set ?_ GE380.out) | exact HB.out))) : w.heap.size ≤ gb416)); have n17_ := Aside0.mk ((by rw [hg]; exact (below_size (by repeat (first | (with_reducible first | exact HB.out | apply below_alloc | apply pw_below_drewN | apply below_drew1 | refine below_set ?_ GE342.out | refine below_set ?_ GE361.out | refine below_set ?_ GE370.out | refine below_set ?_ GE380.out) | exact HB.out))) : w.heap.size ≤ gb416)); have n18_ := Aside0.mk ((by rw [hg]; exact Nat.ne_of_lt (blk_lt (g := gb342) (o := .cells #[.int .i64 a0_0, .int .i64 a0_1, .slice A0_2 l0_2.length c0_2, .slice A0_3 l0_3.length c0_3] 24 (0, 0)) (by (with_reducible repeat (first | refine blk_drewN ?_ _ | refine blk_drew ?_ | refine blk_alloc ?_ _)); exact BK342.out)) : gb342 ≠ gb416)); have n19_ := Aside0.mk ((by rw [hg]; exact Nat.ne_of_gt (blk_lt (g := gb342) (o := .cells #[.int .i64 a0_0, .int .i64 a0_1, .slice A0_2 l0_2.length c0_2, .slice A0_3 l0_3.length c0_3] 24 (0, 0)) (by (with_reducible repeat (first | refine blk_drewN ?_ _ | refine blk_drew ?_ | refine blk_alloc ?_ _)); exact BK342.out)) : gb416 ≠ gb342)); have n20_ := Aside0.mk ((by rw [hg]; exact Nat.ne_of_lt (blk_lt (g := gb361) (o := .cells #[.int .i64 t352, .int .i64 t353, .slice Ao23 t354.length co23, .slice Ao24 t357.length co24] 26 (0, 0)) (by (with_reducible repeat (first | refine blk_drewN ?_ _ | refine blk_drew ?_ | refine blk_alloc ?_ _)); exact BK361.out)) : gb361 ≠ gb416)); have n21_ := Aside0.mk ((by rw [hg]; exact Nat.ne_of_gt (blk_lt (g := gb361) (o := .cells #[.int .i64 t352, .int .i64 t353, .slice Ao23 t354.length co23, .slice Ao24 t357.length co24] 26 (0, 0)) (by (with_reducible repeat (first | refine blk_drewN ?_ _ | refine blk_drew ?_ | refine blk_alloc ?_ _)); exact BK361.out)) : gb416 ≠ gb361)); have n22_ := Aside0.mk ((by rw [hg]; exact Nat.ne_of_lt (blk_lt (g := gb370) (o := .cells #[.int .i64 t362, .int .i64 t363, .slice Ao31 t392.length co31, .slice Ao32 t393.length co32] 26 (0, 0)) (by (with_reducible repeat (first | refine blk_drewN ?_ _ | refine blk_drew ?_ | refine blk_alloc ?_ _)); exact BK370.out)) : gb370 ≠ gb416)); have n23_ := Aside0.mk ((by rw [hg]; exact Nat.ne_of_gt (blk_lt (g := gb370) (o := .cells #[.int .i64 t362, .int .i64 t363, .slice Ao31 t392.length co31, .slice Ao32 t393.length co32] 26 (0, 0)) (by (with_reducible repeat (first | refine blk_drewN ?_ _ | refine blk_drew ?_ | refine blk_alloc ?_ _)); exact BK370.out)) : gb416 ≠ gb370)); have n24_ := Aside0.mk ((by rw [hg]; exact Nat.ne_of_lt (blk_lt (g := gb380) (o := .cells #[.int .i64 t371, .int .i64 t372, .slice Ao39 t373.length co39, .slice Ao40 t376.length co40] 26 (0, 0)) (by (with_reducible repeat (first | refine blk_drewN ?_ _ | refine blk_drew ?_ | refine blk_alloc ?_ _)); exact BK380.out)) : gb380 ≠ gb416)); have n25_ := Aside0.mk ((by rw [hg]; exact Nat.ne_of_gt (blk_lt (g := gb380) (o := .cells #[.int .i64 t371, .int .i64 t372, .slice Ao39 t373.length co39, .slice Ao40 t376.length co40] 26 (0, 0)) (by (with_reducible repeat (first | refine blk_drewN ?_ _ | refine blk_drew ?_ | refine blk_alloc ?_ _)); exact BK380.out)) : gb416 ≠ gb380)); clear HO_362002; clear HO_362003; clear HO_371002; clear HO_371003; clear HO_381002; clear HO_381003; clear HO403; clear HO406; clear HO411; clear HO414; clear BK342; clear BK361; clear BK370; clear BK380; clear HB; have HO_362002 := n0_; have HO_362003 := n1_; have HO_371002 := n2_; have HO_371003 := n3_; have HO_381002 := n4_; have HO_381003 := n5_; have HO403 := n6_; have HO406 := n7_; have HO411 := n8_; have HO414 := n9_; have BK342 := n10_; have BK361 := n11_; have BK370 := n12_; have BK380 := n13_; have HB := n14_; have BK416 := n15_; have GW416 := n16_; have GE416 := n17_; have NB342_416 := n18_; have NB416_342 := n19_; have NB361_416 := n20_; have NB416_361 := n21_; have NB370_416 := n22_; have NB416_370 := n23_; have NB380_416 := n24_; have NB416_380 := n25_; clear n0_ n1_ n2_ n3_ n4_ n5_ n6_ n7_ n8_ n9_ n10_ n11_ n12_ n13_ n14_ n15_ n16_ n17_ n18_ n19_ n20_ n21_ n22_ n23_ n24_ n25_; clear hb hbox hg; have hnb101 := NB416_342.out; have hnc101 := NB342_416.out; have hnb102 := NB416_361.out; have hnc102 := NB361_416.out; have hnb103 := NB416_370.out; have hnc103 := NB370_416.out; have hnb104 := NB416_380.out; have hnc104 := NB380_416.out; have hcz105_0 : w100.cell? ⟨gb416, 0, none⟩ = some (.int .i64 0) := (blk_cell BK416.out 0).trans rfl; have hcz105_1 : w100.cell? ⟨gb416, 1, none⟩ = some (.int .i64 0) := (blk_cell BK416.out 1).trans rfl; have hcz105_2 : w100.cell? ⟨gb416, 2, none⟩ = some (.slice none 0 0) := (blk_cell BK416.out 2).trans rfl; have hcz105_3 : w100.cell? ⟨gb416, 3, none⟩ = some (.slice none 0 0) := (blk_cell BK416.out 3).trans rfl; have hfz105_0 := blk_frozen BK416.out 0; have hfz105_1 := blk_frozen BK416.out 1; have hfz105_2 := blk_frozen BK416.out 2; have hfz105_3 := blk_frozen BK416.out 3; obtain ⟨Ao106, co106, eo106⟩ := Kd.R_slice HO411.out; subst eo106; obtain ⟨Ao107, co107, eo107⟩ := Kd.R_slice HO414.out; subst eo107))
           (try simp only [Act.put, List.setIfInBounds_toArray, List.set_cons_zero, List.set_cons_succ])
           go_cut [87] (fun v87 wc => ∃ (kq : Nat) (x87_84 : Bool), v87 = .bool x87_84 ∧ Aside0 (laws_FnExactTurnFigure.j2 kq t395 x87_84 t371 t372 t396 t397 = some r) ∧ Aside0 (kq ≤ kj55) ∧ Aside0 (Kd.R (Kd.int .i64) 3 wc w.heap.size (fun k_ => some k_ ≠ ((.slice Ao24 t357.length co24) : Value).ownBlock ∧ some k_ ≠ ((.slice Ao31 t392.length co31) : Value).ownBlock ∧ some k_ ≠ ((.slice Ao32 t393.length co32) : Value).ownBlock ∧ some k_ ≠ ((.slice Ao39 t373.length co39) : Value).ownBlock ∧ some k_ ≠ ((.slice Ao40 t376.length co40) : Value).ownBlock ∧ some k_ ≠ ((.slice Ao106 t409.length co106) : Value).ownBlock ∧ some k_ ≠ ((.slice Ao107 t412.length co107) : Value).ownBlock) (.slice Ao23 t354.length co23) t354) ∧ Aside0 (Kd.R (Kd.int .i64) 3 wc w.heap.size (fun k_ => some k_ ≠ ((.slice Ao23 t354.length co23) : Value).ownBlock ∧ some k_ ≠ ((.slice Ao31 t392.length co31) : Value).ownBlock ∧ some k_ ≠ ((.slice Ao32 t393.length co32) : Value).ownBlock ∧ some k_ ≠ ((.slice Ao39 t373.length co39) : Value).ownBlock ∧ some k_ ≠ ((.slice Ao40 t376.length co40) : Value).ownBlock ∧ some k_ ≠ ((.slice Ao106 t409.length co106) : Value).ownBlock ∧ some k_ ≠ ((.slice Ao107 t412.length co107) : Value).ownBlock) (.slice Ao24 t357.length co24) t357) ∧ Aside0 (Kd.R (Kd.int .i64) 3 wc w.heap.size (fun k_ => some k_ ≠ ((.slice Ao23 t354.length co23) : Value).ownBlock ∧ some k_ ≠ ((.slice Ao24 t357.length co24) : Value).ownBlock ∧ some k_ ≠ ((.slice Ao32 t393.length co32) : Value).ownBlock ∧ some k_ ≠ ((.slice Ao39 t373.length co39) : Value).ownBlock ∧ some k_ ≠ ((.slice Ao40 t376.length co40) : Value).ownBlock ∧ some k_ ≠ ((.slice Ao106 t409.length co106) : Value).ownBlock ∧ some k_ ≠ ((.slice Ao107 t412.length co107) : Value).ownBlock) (.slice Ao31 t392.length co31) t392) ∧ Aside0 (Kd.R (Kd.int .i64) 3 wc w.heap.size (fun k_ => some k_ ≠ ((.slice Ao23 t354.length co23) : Value).ownBlock ∧ some k_ ≠ ((.slice Ao24 t357.length co24) : Value).ownBlock ∧ some k_ ≠ ((.slice Ao31 t392.length co31) : Value).ownBlock ∧ some k_ ≠ ((.slice Ao39 t373.length co39) : Value).ownBlock ∧ some k_ ≠ ((.slice Ao40 t376.length co40) : Value).ownBlock ∧ some k_ ≠ ((.slice Ao106 t409.length co106) : Value).ownBlock ∧ some k_ ≠ ((.slice Ao107 t412.length co107) : Value).ownBlock) (.slice Ao32 t393.length co32) t393) ∧ Aside0 (Kd.R (Kd.int .i64) 3 wc w.heap.size (fun k_ => some k_ ≠ ((.slice Ao23 t354.length co23) : Value).ownBlock ∧ some k_ ≠ ((.slice Ao24 t357.length co24) : Value).ownBlock ∧ some k_ ≠ ((.slice Ao31 t392.length co31) : Value).ownBlock ∧ some k_ ≠ ((.slice Ao32 t393.length co32) : Value).ownBlock ∧ some k_ ≠ ((.slice Ao40 t376.length co40) : Value).ownBlock ∧ some k_ ≠ ((.slice Ao106 t409.length co106) : Value).ownBlock ∧ some k_ ≠ ((.slice Ao107 t412.length co107) : Value).ownBlock) (.slice Ao39 t373.length co39) t396) ∧ Aside0 (Kd.R (Kd.int .i64) 3 wc w.heap.size (fun k_ => some k_ ≠ ((.slice Ao23 t354.length co23) : Value).ownBlock ∧ some k_ ≠ ((.slice Ao24 t357.length co24) : Value).ownBlock ∧ some k_ ≠ ((.slice Ao31 t392.length co31) : Value).ownBlock ∧ some k_ ≠ ((.slice Ao32 t393.length co32) : Value).ownBlock ∧ some k_ ≠ ((.slice Ao39 t373.length co39) : Value).ownBlock ∧ some k_ ≠ ((.slice Ao106 t409.length co106) : Value).ownBlock ∧ some k_ ≠ ((.slice Ao107 t412.length co107) : Value).ownBlock) (.slice Ao40 t376.length co40) t397) ∧ Aside0 (Kd.R (Kd.int .i64) 3 wc w.heap.size (fun k_ => some k_ ≠ ((.slice Ao23 t354.length co23) : Value).ownBlock ∧ some k_ ≠ ((.slice Ao24 t357.length co24) : Value).ownBlock ∧ some k_ ≠ ((.slice Ao31 t392.length co31) : Value).ownBlock ∧ some k_ ≠ ((.slice Ao32 t393.length co32) : Value).ownBlock ∧ some k_ ≠ ((.slice Ao39 t373.length co39) : Value).ownBlock ∧ some k_ ≠ ((.slice Ao40 t376.length co40) : Value).ownBlock ∧ some k_ ≠ ((.slice Ao107 t412.length co107) : Value).ownBlock) (.slice Ao106 t409.length co106) t409) ∧ Aside0 (Kd.R (Kd.int .i64) 3 wc w.heap.size (fun k_ => some k_ ≠ ((.slice Ao23 t354.length co23) : Value).ownBlock ∧ some k_ ≠ ((.slice Ao24 t357.length co24) : Value).ownBlock ∧ some k_ ≠ ((.slice Ao31 t392.length co31) : Value).ownBlock ∧ some k_ ≠ ((.slice Ao32 t393.length co32) : Value).ownBlock ∧ some k_ ≠ ((.slice Ao39 t373.length co39) : Value).ownBlock ∧ some k_ ≠ ((.slice Ao40 t376.length co40) : Value).ownBlock ∧ some k_ ≠ ((.slice Ao106 t409.length co106) : Value).ownBlock) (.slice Ao107 t412.length co107) t412) ∧ Aside0 (wc.heap[gb342]? = some (.cells #[.int .i64 a0_0, .int .i64 a0_1, (.slice A0_2 l0_2.length c0_2), (.slice A0_3 l0_3.length c0_3)] 24 (0, 0))) ∧ Aside0 (wc.heap[gb361]? = some (.cells #[.int .i64 t352, .int .i64 t353, (.slice Ao23 t354.length co23), (.slice Ao24 t357.length co24)] 26 (0, 0))) ∧ Aside0 (wc.heap[gb370]? = some (.cells #[.int .i64 t362, .int .i64 t363, (.slice Ao31 t392.length co31), (.slice Ao32 t393.length co32)] 26 (0, 0))) ∧ Aside0 (wc.heap[gb380]? = some (.cells #[.int .i64 t371, .int .i64 t372, (.slice Ao39 t373.length co39), (.slice Ao40 t376.length co40)] 26 (0, 0))) ∧ Aside0 (wc.heap[gb416]? = some (.cells #[.int .i64 t407, .int .i64 t408, (.slice Ao106 t409.length co106), (.slice Ao107 t412.length co107)] 26 (0, 0))) ∧ Aside0 (Below w.heap.size w wc))
           case first =>
            have H := HC85.out
            clear HC85
            replace H := Option.bind_eq_some_iff.mp H
            obtain ⟨t417, A1080, H⟩ := H
            replace H : (if t417 = true then (laws_FnExactTurnFigure.j2 kj55 t395 (t415 != t360) t371 t372 t396 t397) else (laws_FnExactTurnFigure.j2 kj55 t395 true t371 t372 t396 t397)) = some r := H
            have A108 := Aside0.mk A1080
            clear A1080
            by_cases c109 : t417 = true
            ·subst c109
             have H1 : (laws_FnExactTurnFigure.j2 kj55 t395 (t415 != t360) t371 t372 t396 t397) = some r := by rw [if_pos rfl] at H; exact H
             clear H
             have H := H1
             clear H1
             have H' := Aside0.mk H
             clear H
             have hnb110 := NB416_342.out
             have hnc110 := NB342_416.out
             have hnb111 := NB416_361.out
             have hnc111 := NB361_416.out
             have hnb112 := NB416_370.out
             have hnc112 := NB370_416.out
             have hnb113 := NB416_380.out
             have hnc113 := NB380_416.out
             have hcz114_0 : w100.cell? ⟨gb416, 0, none⟩ = some (.int .i64 0) := (blk_cell BK416.out 0).trans rfl
             have hcz114_1 : w100.cell? ⟨gb416, 1, none⟩ = some (.int .i64 0) := (blk_cell BK416.out 1).trans rfl
             have hcz114_2 : w100.cell? ⟨gb416, 2, none⟩ = some (.slice none 0 0) := (blk_cell BK416.out 2).trans rfl
             have hcz114_3 : w100.cell? ⟨gb416, 3, none⟩ = some (.slice none 0 0) := (blk_cell BK416.out 3).trans rfl
             have hfz114_0 := blk_frozen BK416.out 0
             have hfz114_1 := blk_frozen BK416.out 1
             have hfz114_2 := blk_frozen BK416.out 2
             have hfz114_3 := blk_frozen BK416.out 3
             have hnb115 := NB361_342.out
             have hnc115 := NB342_361.out
             have hnb116 := NB361_370.out
             have hnc116 := NB370_361.out
             have hnb117 := NB361_380.out
             have hnc117 := NB380_361.out
             have hcz118_0 : w100.cell? ⟨gb361, 0, none⟩ = some (.int .i64 t352) := (blk_cell BK361.out 0).trans rfl
             have hcz118_1 : w100.cell? ⟨gb361, 1, none⟩ = some (.int .i64 t353) := (blk_cell BK361.out 1).trans rfl
             have hcz118_2 : w100.cell? ⟨gb361, 2, none⟩ = some (.slice Ao23 t354.length co23) := (blk_cell BK361.out 2).trans rfl
             have hcz118_3 : w100.cell? ⟨gb361, 3, none⟩ = some (.slice Ao24 t357.length co24) := (blk_cell BK361.out 3).trans rfl
             have hfz118_0 := blk_frozen BK361.out 0
             have hfz118_1 := blk_frozen BK361.out 1
             have hfz118_2 := blk_frozen BK361.out 2
             have hfz118_3 := blk_frozen BK361.out 3
             go_wp2_with (first | ((with_reducible refine gate_callee (f := 14) rfl ?_); refine goesL_ (some 81) rfl rfl Tryd.func14 (by kernel_rfl) rfl #[.agg #[.int .i64 t407, .int .i64 t408, .slice Ao106 t409.length co106, .slice Ao107 t412.length co107], .agg #[.int .i64 t352, .int .i64 t353, .slice Ao23 t354.length co23, .slice Ao24 t357.length co24]] rfl (by (try simp only [List.map_toArray, List.map_cons, List.map_nil]); first | done | rfl | (simp only [List.length_drop, List.length_take]; rfl)) ?_; (with_reducible refine (laws_eqFigure.calls kj55 t407 t408 _ _ t409 _ _ t412 t352 t353 _ _ t354 _ _ t357 true _ ?side1 ?side2 ?side3 ?side4 ?side5 ?side6 ?side7 ?side8 A108.out).mono ?_); (case side1 => refine (Kd.R_reads' (e := 3) (base := w.heap.size) (ok := fun k_ => ((((((((some k_ ≠ (.slice Ao107 t412.length co107 : Value).ownBlock ∧ some k_ ≠ (.slice Ao23 t354.length co23 : Value).ownBlock) ∧ some k_ ≠ (.slice Ao24 t357.length co24 : Value).ownBlock) ∧ some k_ ≠ (.slice Ao31 t392.length co31 : Value).ownBlock) ∧ some k_ ≠ (.slice Ao32 t393.length co32 : Value).ownBlock) ∧ some k_ ≠ (.slice Ao39 t373.length co39 : Value).ownBlock) ∧ some k_ ≠ (.slice Ao40 t376.length co40 : Value).ownBlock) ∧ some k_ ≠ (.slice Ao97 t401.length co97 : Value).ownBlock) ∧ some k_ ≠ (.slice Ao98 t404.length co98 : Value).ownBlock)) (n := t409.length) (c := co106) ?_).2.2; exact (by (with_reducible repeat (first | apply Kd.R_alloc | apply Kd.R_drewN | apply Kd.R_drew)); exact (Kd.R_mono (Kd.R_far (p := ⟨gb416, 3, none⟩) (Kd.R_far (p := ⟨gb416, 2, none⟩) (Kd.R_far (p := ⟨gb416, 1, none⟩) (Kd.R_far (p := ⟨gb416, 0, none⟩) (Kd.R_types HO411.out BK416.out (by decide)) (fun _ hk => hk.2) (.int .i64 t407)) (fun _ hk => hk.2) (.int .i64 t408)) (fun _ hk => hk.2) (.slice Ao106 t409.length co106)) (fun _ hk => hk.2) (.slice Ao107 t412.length co107)) (fun _ h_ => h_.1)))); (case side2 => exact (Kd.R_reads' HO411.out).2.1); (case side3 => refine (Kd.R_reads' (e := 3) (base := w.heap.size) (ok := fun k_ => ((((((((some k_ ≠ (.slice Ao106 t409.length co106 : Value).ownBlock ∧ some k_ ≠ (.slice Ao23 t354.length co23 : Value).ownBlock) ∧ some k_ ≠ (.slice Ao24 t357.length co24 : Value).ownBlock) ∧ some k_ ≠ (.slice Ao31 t392.length co31 : Value).ownBlock) ∧ some k_ ≠ (.slice Ao32 t393.length co32 : Value).ownBlock) ∧ some k_ ≠ (.slice Ao39 t373.length co39 : Value).ownBlock) ∧ some k_ ≠ (.slice Ao40 t376.length co40 : Value).ownBlock) ∧ some k_ ≠ (.slice Ao97 t401.length co97 : Value).ownBlock) ∧ some k_ ≠ (.slice Ao98 t404.length co98 : Value).ownBlock)) (n := t412.length) (c := co107) ?_).2.2; exact (by (with_reducible repeat (first | apply Kd.R_alloc | apply Kd.R_drewN | apply Kd.R_drew)); exact (Kd.R_mono (Kd.R_far (p := ⟨gb416, 3, none⟩) (Kd.R_far (p := ⟨gb416, 2, none⟩) (Kd.R_far (p := ⟨gb416, 1, none⟩) (Kd.R_far (p := ⟨gb416, 0, none⟩) (Kd.R_types HO414.out BK416.out (by decide)) (fun _ hk => hk.2) (.int .i64 t407)) (fun _ hk => hk.2) (.int .i64 t408)) (fun _ hk => hk.2) (.slice Ao106 t409.length co106)) (fun _ hk => hk.2) (.slice Ao107 t412.length co107)) (fun _ h_ => h_.1)))); (case side4 => exact (Kd.R_reads' HO414.out).2.1); (case side5 => refine (Kd.R_reads' (e := 3) (base := w.heap.size) (ok := fun k_ => (((((some k_ ≠ (.slice Ao24 t357.length co24 : Value).ownBlock ∧ (some k_ ≠ (.slice Ao31 t392.length co31 : Value).ownBlock ∧ (some k_ ≠ (.slice Ao32 t393.length co32 : Value).ownBlock ∧ (some k_ ≠ (.slice Ao39 t373.length co39 : Value).ownBlock ∧ some k_ ≠ (.slice Ao40 t376.length co40 : Value).ownBlock)))) ∧ some k_ ≠ (.slice Ao97 t401.length co97 : Value).ownBlock) ∧ some k_ ≠ (.slice Ao98 t404.length co98 : Value).ownBlock) ∧ some k_ ≠ (.slice Ao106 t409.length co106 : Value).ownBlock) ∧ some k_ ≠ (.slice Ao107 t412.length co107 : Value).ownBlock)) (n := t354.length) (c := co23) ?_).2.2; exact (by (with_reducible repeat (first | apply Kd.R_alloc | apply Kd.R_drewN | apply Kd.R_drew)); exact (Kd.R_mono (Kd.R_far (p := ⟨gb416, 3, none⟩) (Kd.R_far (p := ⟨gb416, 2, none⟩) (Kd.R_far (p := ⟨gb416, 1, none⟩) (Kd.R_far (p := ⟨gb416, 0, none⟩) (Kd.R_types HO_362002.out BK416.out (by decide)) (fun _ hk => hk.2) (.int .i64 t407)) (fun _ hk => hk.2) (.int .i64 t408)) (fun _ hk => hk.2) (.slice Ao106 t409.length co106)) (fun _ hk => hk.2) (.slice Ao107 t412.length co107)) (fun _ h_ => h_.1)))); (case side6 => exact (Kd.R_reads' HO_362002.out).2.1); (case side7 => refine (Kd.R_reads' (e := 3) (base := w.heap.size) (ok := fun k_ => (((((some k_ ≠ (.slice Ao23 t354.length co23 : Value).ownBlock ∧ (some k_ ≠ (.slice Ao31 t392.length co31 : Value).ownBlock ∧ (some k_ ≠ (.slice Ao32 t393.length co32 : Value).ownBlock ∧ (some k_ ≠ (.slice Ao39 t373.length co39 : Value).ownBlock ∧ some k_ ≠ (.slice Ao40 t376.length co40 : Value).ownBlock)))) ∧ some k_ ≠ (.slice Ao97 t401.length co97 : Value).ownBlock) ∧ some k_ ≠ (.slice Ao98 t404.length co98 : Value).ownBlock) ∧ some k_ ≠ (.slice Ao106 t409.length co106 : Value).ownBlock) ∧ some k_ ≠ (.slice Ao107 t412.length co107 : Value).ownBlock)) (n := t357.length) (c := co24) ?_).2.2; exact (by (with_reducible repeat (first | apply Kd.R_alloc | apply Kd.R_drewN | apply Kd.R_drew)); exact (Kd.R_mono (Kd.R_far (p := ⟨gb416, 3, none⟩) (Kd.R_far (p := ⟨gb416, 2, none⟩) (Kd.R_far (p := ⟨gb416, 1, none⟩) (Kd.R_far (p := ⟨gb416, 0, none⟩) (Kd.R_types HO_362003.out BK416.out (by decide)) (fun _ hk => hk.2) (.int .i64 t407)) (fun _ hk => hk.2) (.int .i64 t408)) (fun _ hk => hk.2) (.slice Ao106 t409.length co106)) (fun _ hk => hk.2) (.slice Ao107 t412.length co107)) (fun _ h_ => h_.1)))); (case side8 => exact (Kd.R_reads' HO_362003.out).2.1); rintro e w119 ⟨rfl, hb⟩; refine ⟨_, rfl, ?_⟩; have n0_ := Aside0.mk (Kd.R_below (by (with_reducible repeat (first | apply Kd.R_alloc | apply Kd.R_drewN | apply Kd.R_drew)); exact (Kd.R_mono (Kd.R_far (p := ⟨gb416, 3, none⟩) (Kd.R_far (p := ⟨gb416, 2, none⟩) (Kd.R_far (p := ⟨gb416, 1, none⟩) (Kd.R_far (p := ⟨gb416, 0, none⟩) (Kd.R_types HO_362002.out BK416.out (by decide)) (fun _ hk => hk.2) (.int .i64 t407)) (fun _ hk => hk.2) (.int .i64 t408)) (fun _ hk => hk.2) (.slice Ao106 t409.length co106)) (fun _ hk => hk.2) (.slice Ao107 t412.length co107)) (fun _ h_ => h_.1))) hb); have n1_ := Aside0.mk (Kd.R_below (by (with_reducible repeat (first | apply Kd.R_alloc | apply Kd.R_drewN | apply Kd.R_drew)); exact (Kd.R_mono (Kd.R_far (p := ⟨gb416, 3, none⟩) (Kd.R_far (p := ⟨gb416, 2, none⟩) (Kd.R_far (p := ⟨gb416, 1, none⟩) (Kd.R_far (p := ⟨gb416, 0, none⟩) (Kd.R_types HO_362003.out BK416.out (by decide)) (fun _ hk => hk.2) (.int .i64 t407)) (fun _ hk => hk.2) (.int .i64 t408)) (fun _ hk => hk.2) (.slice Ao106 t409.length co106)) (fun _ hk => hk.2) (.slice Ao107 t412.length co107)) (fun _ h_ => h_.1))) hb); have n2_ := Aside0.mk (Kd.R_below (by (with_reducible repeat (first | apply Kd.R_alloc | apply Kd.R_drewN | apply Kd.R_drew)); exact (Kd.R_mono (Kd.R_far (p := ⟨gb416, 3, none⟩) (Kd.R_far (p := ⟨gb416, 2, none⟩) (Kd.R_far (p := ⟨gb416, 1, none⟩) (Kd.R_far (p := ⟨gb416, 0, none⟩) (Kd.R_types HO_371002.out BK416.out (by decide)) (fun _ hk => hk.2) (.int .i64 t407)) (fun _ hk => hk.2) (.int .i64 t408)) (fun _ hk => hk.2) (.slice Ao106 t409.length co106)) (fun _ hk => hk.2) (.slice Ao107 t412.length co107)) (fun _ h_ => h_.1))) hb); have n3_ := Aside0.mk (Kd.R_below (by (with_reducible repeat (first | apply Kd.R_alloc | apply Kd.R_drewN | apply Kd.R_drew)); exact (Kd.R_mono (Kd.R_far (p := ⟨gb416, 3, none⟩) (Kd.R_far (p := ⟨gb416, 2, none⟩) (Kd.R_far (p := ⟨gb416, 1, none⟩) (Kd.R_far (p := ⟨gb416, 0, none⟩) (Kd.R_types HO_371003.out BK416.out (by decide)) (fun _ hk => hk.2) (.int .i64 t407)) (fun _ hk => hk.2) (.int .i64 t408)) (fun _ hk => hk.2) (.slice Ao106 t409.length co106)) (fun _ hk => hk.2) (.slice Ao107 t412.length co107)) (fun _ h_ => h_.1))) hb); have n4_ := Aside0.mk (Kd.R_below (by (with_reducible repeat (first | apply Kd.R_alloc | apply Kd.R_drewN | apply Kd.R_drew)); exact (Kd.R_mono (Kd.R_far (p := ⟨gb416, 3, none⟩) (Kd.R_far (p := ⟨gb416, 2, none⟩) (Kd.R_far (p := ⟨gb416, 1, none⟩) (Kd.R_far (p := ⟨gb416, 0, none⟩) (Kd.R_types HO_381002.out BK416.out (by decide)) (fun _ hk => hk.2) (.int .i64 t407)) (fun _ hk => hk.2) (.int .i64 t408)) (fun _ hk => hk.2) (.slice Ao106 t409.length co106)) (fun _ hk => hk.2) (.slice Ao107 t412.length co107)) (fun _ h_ => h_.1))) hb); have n5_ := Aside0.mk (Kd.R_below (by (with_reducible repeat (first | apply Kd.R_alloc | apply Kd.R_drewN | apply Kd.R_drew)); exact (Kd.R_mono (Kd.R_far (p := ⟨gb416, 3, none⟩) (Kd.R_far (p := ⟨gb416, 2, none⟩) (Kd.R_far (p := ⟨gb416, 1, none⟩) (Kd.R_far (p := ⟨gb416, 0, none⟩) (Kd.R_types HO_381003.out BK416.out (by decide)) (fun _ hk => hk.2) (.int .i64 t407)) (fun _ hk => hk.2) (.int .i64 t408)) (fun _ hk => hk.2) (.slice Ao106 t409.length co106)) (fun _ hk => hk.2) (.slice Ao107 t412.length co107)) (fun _ h_ => h_.1))) hb); have n6_ := Aside0.mk (Kd.PB_below (by (with_reducible repeat (first | apply Kd.PB_alloc | apply Kd.PB_drewN | apply Kd.PB_drew)); exact (Kd.PB_mono (Kd.PB_far (p := ⟨gb416, 3, none⟩) (Kd.PB_far (p := ⟨gb416, 2, none⟩) (Kd.PB_far (p := ⟨gb416, 1, none⟩) (Kd.PB_far (p := ⟨gb416, 0, none⟩) (Kd.PB_types HO403.out BK416.out (by decide)) (fun _ hk => hk.2) (.int .i64 t407)) (fun _ hk => hk.2) (.int .i64 t408)) (fun _ hk => hk.2) (.slice Ao106 t409.length co106)) (fun _ hk => hk.2) (.slice Ao107 t412.length co107)) (fun _ h_ => h_.1))) hb); have n7_ := Aside0.mk (Kd.PB_below (by (with_reducible repeat (first | apply Kd.PB_alloc | apply Kd.PB_drewN | apply Kd.PB_drew)); exact (Kd.PB_mono (Kd.PB_far (p := ⟨gb416, 3, none⟩) (Kd.PB_far (p := ⟨gb416, 2, none⟩) (Kd.PB_far (p := ⟨gb416, 1, none⟩) (Kd.PB_far (p := ⟨gb416, 0, none⟩) (Kd.PB_types HO406.out BK416.out (by decide)) (fun _ hk => hk.2) (.int .i64 t407)) (fun _ hk => hk.2) (.int .i64 t408)) (fun _ hk => hk.2) (.slice Ao106 t409.length co106)) (fun _ hk => hk.2) (.slice Ao107 t412.length co107)) (fun _ h_ => h_.1))) hb); have n8_ := Aside0.mk (Kd.R_below (by (with_reducible repeat (first | apply Kd.R_alloc | apply Kd.R_drewN | apply Kd.R_drew)); exact (Kd.R_mono (Kd.R_far (p := ⟨gb416, 3, none⟩) (Kd.R_far (p := ⟨gb416, 2, none⟩) (Kd.R_far (p := ⟨gb416, 1, none⟩) (Kd.R_far (p := ⟨gb416, 0, none⟩) (Kd.R_types HO411.out BK416.out (by decide)) (fun _ hk => hk.2) (.int .i64 t407)) (fun _ hk => hk.2) (.int .i64 t408)) (fun _ hk => hk.2) (.slice Ao106 t409.length co106)) (fun _ hk => hk.2) (.slice Ao107 t412.length co107)) (fun _ h_ => h_.1))) hb); have n9_ := Aside0.mk (Kd.R_below (by (with_reducible repeat (first | apply Kd.R_alloc | apply Kd.R_drewN | apply Kd.R_drew)); exact (Kd.R_mono (Kd.R_far (p := ⟨gb416, 3, none⟩) (Kd.R_far (p := ⟨gb416, 2, none⟩) (Kd.R_far (p := ⟨gb416, 1, none⟩) (Kd.R_far (p := ⟨gb416, 0, none⟩) (Kd.R_types HO414.out BK416.out (by decide)) (fun _ hk => hk.2) (.int .i64 t407)) (fun _ hk => hk.2) (.int .i64 t408)) (fun _ hk => hk.2) (.slice Ao106 t409.length co106)) (fun _ hk => hk.2) (.slice Ao107 t412.length co107)) (fun _ h_ => h_.1))) hb); have n10_ := Aside0.mk (blk_below (g := gb342) (o := .cells #[.int .i64 a0_0, .int .i64 a0_1, .slice A0_2 l0_2.length c0_2, .slice A0_3 l0_3.length c0_3] 24 (0, 0)) (by (with_reducible repeat (first | refine blk_drewN ?_ _ | refine blk_drew ?_ | refine blk_alloc ?_ _)); refine blk_far ?_ NB342_416.out _; (with_reducible repeat (first | refine blk_drewN ?_ _ | refine blk_drew ?_ | refine blk_alloc ?_ _)); refine blk_far ?_ NB342_416.out _; (with_reducible repeat (first | refine blk_drewN ?_ _ | refine blk_drew ?_ | refine blk_alloc ?_ _)); refine blk_far ?_ NB342_416.out _; (with_reducible repeat (first | refine blk_drewN ?_ _ | refine blk_drew ?_ | refine blk_alloc ?_ _)); refine blk_far ?_ NB342_416.out _; (with_reducible repeat (first | refine blk_drewN ?_ _ | refine blk_drew ?_ | refine blk_alloc ?_ _)); exact BK342.out) hb); have n11_ := Aside0.mk (blk_below (g := gb361) (o := .cells #[.int .i64 t352, .int .i64 t353, .slice Ao23 t354.length co23, .slice Ao24 t357.length co24] 26 (0, 0)) (by (with_reducible repeat (first | refine blk_drewN ?_ _ | refine blk_drew ?_ | refine blk_alloc ?_ _)); refine blk_far ?_ NB361_416.out _; (with_reducible repeat (first | refine blk_drewN ?_ _ | refine blk_drew ?_ | refine blk_alloc ?_ _)); refine blk_far ?_ NB361_416.out _; (with_reducible repeat (first | refine blk_drewN ?_ _ | refine blk_drew ?_ | refine blk_alloc ?_ _)); refine blk_far ?_ NB361_416.out _; (with_reducible repeat (first | refine blk_drewN ?_ _ | refine blk_drew ?_ | refine blk_alloc ?_ _)); refine blk_far ?_ NB361_416.out _; (with_reducible repeat (first | refine blk_drewN ?_ _ | refine blk_drew ?_ | refine blk_alloc ?_ _)); exact BK361.out) hb); have n12_ := Aside0.mk (blk_below (g := gb370) (o := .cells #[.int .i64 t362, .int .i64 t363, .slice Ao31 t392.length co31, .slice Ao32 t393.length co32] 26 (0, 0)) (by (with_reducible repeat (first | refine blk_drewN ?_ _ | refine blk_drew ?_ | refine blk_alloc ?_ _)); refine blk_far ?_ NB370_416.out _; (with_reducible repeat (first | refine blk_drewN ?_ _ | refine blk_drew ?_ | refine blk_alloc ?_ _)); refine blk_far ?_ NB370_416.out _; (with_reducible repeat (first | refine blk_drewN ?_ _ | refine blk_drew ?_ | refine blk_alloc ?_ _)); refine blk_far ?_ NB370_416.out _; (with_reducible repeat (first | refine blk_drewN ?_ _ | refine blk_drew ?_ | refine blk_alloc ?_ _)); refine blk_far ?_ NB370_416.out _; (with_reducible repeat (first | refine blk_drewN ?_ _ | refine blk_drew ?_ | refine blk_alloc ?_ _)); exact BK370.out) hb); have n13_ := Aside0.mk (blk_below (g := gb380) (o := .cells #[.int .i64 t371, .int .i64 t372, .slice Ao39 t373.length co39, .slice Ao40 t376.length co40] 26 (0, 0)) (by (with_reducible repeat (first | refine blk_drewN ?_ _ | refine blk_drew ?_ | refine blk_alloc ?_ _)); refine blk_far ?_ NB380_416.out _; (with_reducible repeat (first | refine blk_drewN ?_ _ | refine blk_drew ?_ | refine blk_alloc ?_ _)); refine blk_far ?_ NB380_416.out _; (with_reducible repeat (first | refine blk_drewN ?_ _ | refine blk_drew ?_ | refine blk_alloc ?_ _)); refine blk_far ?_ NB380_416.out _; (with_reducible repeat (first | refine blk_drewN ?_ _ | refine blk_drew ?_ | refine blk_alloc ?_ _)); refine blk_far ?_ NB380_416.out _; (with_reducible repeat (first | refine blk_drewN ?_ _ | refine blk_drew ?_ | refine blk_alloc ?_ _)); exact BK380.out) hb); have n14_ := Aside0.mk (blk_below (g := gb416) (o := .cells #[.int .i64 t407, .int .i64 t408, .slice Ao106 t409.length co106, .slice Ao107 t412.length co107] 26 (0, 0)) (by (with_reducible repeat (first | refine blk_drewN ?_ _ | refine blk_drew ?_ | refine blk_alloc ?_ _)); refine blk_put (cs := #[.int .i64 t407, .int .i64 t408, .slice Ao106 t409.length co106, .slice none 0 0]) ?_ 3 _ rfl; (with_reducible repeat (first | refine blk_drewN ?_ _ | refine blk_drew ?_ | refine blk_alloc ?_ _)); refine blk_put (cs := #[.int .i64 t407, .int .i64 t408, .slice none 0 0, .slice none 0 0]) ?_ 2 _ rfl; (with_reducible repeat (first | refine blk_drewN ?_ _ | refine blk_drew ?_ | refine blk_alloc ?_ _)); refine blk_put (cs := #[.int .i64 t407, .int .i64 0, .slice none 0 0, .slice none 0 0]) ?_ 1 _ rfl; (with_reducible repeat (first | refine blk_drewN ?_ _ | refine blk_drew ?_ | refine blk_alloc ?_ _)); refine blk_put (cs := #[.int .i64 0, .int .i64 0, .slice none 0 0, .slice none 0 0]) ?_ 0 _ rfl; (with_reducible repeat (first | refine blk_drewN ?_ _ | refine blk_drew ?_ | refine blk_alloc ?_ _)); exact BK416.out) hb); have n15_ := Aside0.mk (below_step (by repeat (first | (with_reducible first | exact HB.out | apply below_alloc | apply pw_below_drewN | apply below_drew1 | refine below_set ?_ GE342.out | refine below_set ?_ GE361.out | refine below_set ?_ GE370.out | refine below_set ?_ GE380.out | refine below_set ?_ GE416.out) | exact HB.out)) hb); clear HO_362002; clear HO_362003; clear HO_371002; clear HO_371003; clear HO_381002; clear HO_381003; clear HO403; clear HO406; clear HO411; clear HO414; clear BK342; clear BK361; clear BK370; clear BK380; clear BK416; clear HB; have HO_362002 := n0_; have HO_362003 := n1_; have HO_371002 := n2_; have HO_371003 := n3_; have HO_381002 := n4_; have HO_381003 := n5_; have HO403 := n6_; have HO406 := n7_; have HO411 := n8_; have HO414 := n9_; have BK342 := n10_; have BK361 := n11_; have BK370 := n12_; have BK380 := n13_; have BK416 := n14_; have HB := n15_; clear n0_ n1_ n2_ n3_ n4_ n5_ n6_ n7_ n8_ n9_ n10_ n11_ n12_ n13_ n14_ n15_; (try clear hb); (try clear hb2); (try clear hk); (try clear hi)))
             go_meet
             case rel => exact ⟨_, ((t415 != t360)), (by first | rfl | (simp; done) | (simp [*]; done)), H', ⟨by have := HJ10.out; have := HJ55.out; first | omega | exact Nat.le_refl _⟩, ⟨by (try simp only [hl371002_55]); (try simp only [hl371003_55]); (with_reducible repeat (first | apply Kd.R_alloc | apply Kd.R_drewN | apply Kd.R_drew)); exact Kd.R_mono HO_362002.out (fun _ hk => ⟨hk.1.1.1.1.1, ⟨hk.1.1.1.1.2.1, ⟨hk.1.1.1.1.2.2.1, ⟨hk.1.1.1.1.2.2.2.1, ⟨hk.1.1.1.1.2.2.2.2, ⟨hk.1.2, hk.2⟩⟩⟩⟩⟩⟩)⟩, ⟨by (try simp only [hl371002_55]); (try simp only [hl371003_55]); (with_reducible repeat (first | apply Kd.R_alloc | apply Kd.R_drewN | apply Kd.R_drew)); exact Kd.R_mono HO_362003.out (fun _ hk => ⟨hk.1.1.1.1.1, ⟨hk.1.1.1.1.2.1, ⟨hk.1.1.1.1.2.2.1, ⟨hk.1.1.1.1.2.2.2.1, ⟨hk.1.1.1.1.2.2.2.2, ⟨hk.1.2, hk.2⟩⟩⟩⟩⟩⟩)⟩, ⟨by (try simp only [hl371002_55]); (try simp only [hl371003_55]); (with_reducible repeat (first | apply Kd.R_alloc | apply Kd.R_drewN | apply Kd.R_drew)); exact Kd.R_mono HO_371002.out (fun _ hk => ⟨hk.1.1.1.1.1, ⟨hk.1.1.1.1.2.1, ⟨hk.1.1.1.1.2.2.1, ⟨hk.1.1.1.1.2.2.2.1, ⟨hk.1.1.1.1.2.2.2.2, ⟨hk.1.2, hk.2⟩⟩⟩⟩⟩⟩)⟩, ⟨by (try simp only [hl371002_55]); (try simp only [hl371003_55]); (with_reducible repeat (first | apply Kd.R_alloc | apply Kd.R_drewN | apply Kd.R_drew)); exact Kd.R_mono HO_371003.out (fun _ hk => ⟨hk.1.1.1.1.1, ⟨hk.1.1.1.1.2.1, ⟨hk.1.1.1.1.2.2.1, ⟨hk.1.1.1.1.2.2.2.1, ⟨hk.1.1.1.1.2.2.2.2, ⟨hk.1.2, hk.2⟩⟩⟩⟩⟩⟩)⟩, ⟨by (try simp only [hl371002_55]); (try simp only [hl371003_55]); (with_reducible repeat (first | apply Kd.R_alloc | apply Kd.R_drewN | apply Kd.R_drew)); exact Kd.R_mono HO_381002.out (fun _ hk => ⟨hk.1.1.1.1.1, ⟨hk.1.1.1.1.2.1, ⟨hk.1.1.1.1.2.2.1, ⟨hk.1.1.1.1.2.2.2.1, ⟨hk.1.1.1.1.2.2.2.2, ⟨hk.1.2, hk.2⟩⟩⟩⟩⟩⟩)⟩, ⟨by (try simp only [hl371002_55]); (try simp only [hl371003_55]); (with_reducible repeat (first | apply Kd.R_alloc | apply Kd.R_drewN | apply Kd.R_drew)); exact Kd.R_mono HO_381003.out (fun _ hk => ⟨hk.1.1.1.1.1, ⟨hk.1.1.1.1.2.1, ⟨hk.1.1.1.1.2.2.1, ⟨hk.1.1.1.1.2.2.2.1, ⟨hk.1.1.1.1.2.2.2.2, ⟨hk.1.2, hk.2⟩⟩⟩⟩⟩⟩)⟩, ⟨by (try simp only [hl371002_55]); (try simp only [hl371003_55]); (with_reducible repeat (first | apply Kd.R_alloc | apply Kd.R_drewN | apply Kd.R_drew)); exact Kd.R_mono HO411.out (fun _ hk => ⟨hk.1.1.1.1.1.1.1.2, ⟨hk.1.1.1.1.1.1.2, ⟨hk.1.1.1.1.1.2, ⟨hk.1.1.1.1.2, ⟨hk.1.1.1.2, ⟨hk.1.1.2, hk.1.1.1.1.1.1.1.1⟩⟩⟩⟩⟩⟩)⟩, ⟨by (try simp only [hl371002_55]); (try simp only [hl371003_55]); (with_reducible repeat (first | apply Kd.R_alloc | apply Kd.R_drewN | apply Kd.R_drew)); exact Kd.R_mono HO414.out (fun _ hk => ⟨hk.1.1.1.1.1.1.1.2, ⟨hk.1.1.1.1.1.1.2, ⟨hk.1.1.1.1.1.2, ⟨hk.1.1.1.1.2, ⟨hk.1.1.1.2, ⟨hk.1.1.2, hk.1.1.1.1.1.1.1.1⟩⟩⟩⟩⟩⟩)⟩, ⟨by (try simp only [hl371002_55]); (try simp only [hl371003_55]); (with_reducible repeat (first | refine blk_drewN ?_ _ | refine blk_drew ?_ | refine blk_alloc ?_ _)); exact BK342.out⟩, ⟨by (try simp only [hl371002_55]); (try simp only [hl371003_55]); (with_reducible repeat (first | refine blk_drewN ?_ _ | refine blk_drew ?_ | refine blk_alloc ?_ _)); exact BK361.out⟩, ⟨by (try simp only [hl371002_55]); (try simp only [hl371003_55]); (with_reducible repeat (first | refine blk_drewN ?_ _ | refine blk_drew ?_ | refine blk_alloc ?_ _)); exact BK370.out⟩, ⟨by (try simp only [hl371002_55]); (try simp only [hl371003_55]); (with_reducible repeat (first | refine blk_drewN ?_ _ | refine blk_drew ?_ | refine blk_alloc ?_ _)); exact BK380.out⟩, ⟨by (try simp only [hl371002_55]); (try simp only [hl371003_55]); (with_reducible repeat (first | refine blk_drewN ?_ _ | refine blk_drew ?_ | refine blk_alloc ?_ _)); exact BK416.out⟩, ⟨by repeat (first | (with_reducible first | exact HB.out | apply below_alloc | apply pw_below_drewN | apply below_drew1 | refine below_set ?_ GE342.out | refine below_set ?_ GE361.out | refine below_set ?_ GE370.out | refine below_set ?_ GE380.out | refine below_set ?_ GE416.out) | exact HB.out)⟩⟩
            ·replace c109 := Bool.eq_false_iff.mpr c109
             subst c109
             have H1 : (laws_FnExactTurnFigure.j2 kj55 t395 true t371 t372 t396 t397) = some r := by rw [if_neg (show ¬ (false = true) by decide)] at H; exact H
             clear H
             have H := H1
             clear H1
             exact absurd HR_.out (by cases kj55 <;> simp [laws_FnExactTurnFigure.j2] at H <;> first | simp [← H] | simp [H] | simp_all)
           case rest =>
            clear HC85
            try clear c1
            try clear c2
            try clear p2
            try clear c3
            try clear c3b0
            try clear c4
            try clear c5
            try clear c6
            try clear c7
            try clear c8
            try clear c9
            try clear c10
            try clear c11
            try clear c12
            try clear c14
            try clear c15
            try clear c16
            try clear c17
            try clear c21
            try clear c28
            try clear c29
            try clear c30
            try clear c35
            try clear c36
            try clear c37
            try clear c42
            try clear c43
            try clear c44
            try clear c45
            try clear c47
            try clear c48
            try clear c51
            try clear c54
            try clear c62
            try clear c63
            try clear c64
            try clear c67
            try clear c67b0
            try clear c69
            try clear c70
            try clear c71
            try clear c72
            try clear c74
            try clear c75
            try clear c78
            try clear c81
            try clear c81b0
            try clear c82
            try clear c82b0
            try clear c82b1
            try clear c86
            try clear c87
            try clear c88
            try clear c93
            try clear c94
            try clear c101
            try clear c102
            try clear c103
            try clear c104
            try clear c109
            try clear c110
            try clear c111
            try clear c112
            try clear c113
            try clear c115
            try clear c116
            try clear c117
            try clear hcz105_0
            try clear hcz105_1
            try clear hcz105_2
            try clear hcz105_3
            try clear hcz114_0
            try clear hcz114_1
            try clear hcz114_2
            try clear hcz114_3
            try clear hcz118_0
            try clear hcz118_1
            try clear hcz118_2
            try clear hcz118_3
            try clear hcz13_0
            try clear hcz13_1
            try clear hcz13_2
            try clear hcz13_3
            try clear hcz15_0
            try clear hcz15_1
            try clear hcz15_2
            try clear hcz15_3
            try clear hcz22_0
            try clear hcz22_1
            try clear hcz22_2
            try clear hcz22_3
            try clear hcz25_0
            try clear hcz25_1
            try clear hcz25_2
            try clear hcz25_3
            try clear hcz30_0
            try clear hcz30_1
            try clear hcz30_2
            try clear hcz30_3
            try clear hcz38_0
            try clear hcz38_1
            try clear hcz38_2
            try clear hcz38_3
            try clear hcz46_0
            try clear hcz46_1
            try clear hcz46_2
            try clear hcz46_3
            try clear hcz49_0
            try clear hcz49_1
            try clear hcz49_2
            try clear hcz49_3
            try clear hcz5_0
            try clear hcz5_1
            try clear hcz5_2
            try clear hcz5_3
            try clear hcz65_0
            try clear hcz65_1
            try clear hcz65_2
            try clear hcz65_3
            try clear hcz73_0
            try clear hcz73_1
            try clear hcz73_2
            try clear hcz73_3
            try clear hcz76_0
            try clear hcz76_1
            try clear hcz76_2
            try clear hcz76_3
            try clear hcz89_0
            try clear hcz89_1
            try clear hcz89_2
            try clear hcz89_3
            try clear hcz91_0
            try clear hcz91_1
            try clear hcz91_2
            try clear hcz91_3
            try clear hcz95_0
            try clear hcz95_1
            try clear hcz95_2
            try clear hcz95_3
            try clear hfz105_0
            try clear hfz105_1
            try clear hfz105_2
            try clear hfz105_3
            try clear hfz114_0
            try clear hfz114_1
            try clear hfz114_2
            try clear hfz114_3
            try clear hfz118_0
            try clear hfz118_1
            try clear hfz118_2
            try clear hfz118_3
            try clear hfz13_0
            try clear hfz13_1
            try clear hfz13_2
            try clear hfz13_3
            try clear hfz15_0
            try clear hfz15_1
            try clear hfz15_2
            try clear hfz15_3
            try clear hfz22_0
            try clear hfz22_1
            try clear hfz22_2
            try clear hfz22_3
            try clear hfz25_0
            try clear hfz25_1
            try clear hfz25_2
            try clear hfz25_3
            try clear hfz30_0
            try clear hfz30_1
            try clear hfz30_2
            try clear hfz30_3
            try clear hfz38_0
            try clear hfz38_1
            try clear hfz38_2
            try clear hfz38_3
            try clear hfz46_0
            try clear hfz46_1
            try clear hfz46_2
            try clear hfz46_3
            try clear hfz49_0
            try clear hfz49_1
            try clear hfz49_2
            try clear hfz49_3
            try clear hfz5_0
            try clear hfz5_1
            try clear hfz5_2
            try clear hfz5_3
            try clear hfz65_0
            try clear hfz65_1
            try clear hfz65_2
            try clear hfz65_3
            try clear hfz73_0
            try clear hfz73_1
            try clear hfz73_2
            try clear hfz73_3
            try clear hfz76_0
            try clear hfz76_1
            try clear hfz76_2
            try clear hfz76_3
            try clear hfz89_0
            try clear hfz89_1
            try clear hfz89_2
            try clear hfz89_3
            try clear hfz91_0
            try clear hfz91_1
            try clear hfz91_2
            try clear hfz91_3
            try clear hfz95_0
            try clear hfz95_1
            try clear hfz95_2
            try clear hfz95_3
            try clear p2
            obtain ⟨kq, x87_84, rfl, HA, HJ84, HO_362002, HO_362003, HO_371002, HO_371003, HO_381002, HO_381003, HO_417002, HO_417003, BK342, BK361, BK370, BK380, BK416, HB⟩ := hcut
            have hl381002_84 := (Kd.R_reads' HO_381002.out).1
            rw [hl381002_84] at HO_381002
            (try simp only [hl381002_84])
            (try simp only [hl381002_84] at BK342)
            (try simp only [hl381002_84] at BK361)
            (try simp only [hl381002_84] at BK370)
            (try simp only [hl381002_84] at BK380)
            (try simp only [hl381002_84] at BK416)
            (try simp only [hl381002_84] at HO_362002)
            (try simp only [hl381002_84] at HO_362003)
            (try simp only [hl381002_84] at HO_371002)
            (try simp only [hl381002_84] at HO_371003)
            (try simp only [hl381002_84] at HO_381003)
            (try simp only [hl381002_84] at HO_417002)
            (try simp only [hl381002_84] at HO_417003)
            have hl381003_84 := (Kd.R_reads' HO_381003.out).1
            rw [hl381003_84] at HO_381003
            (try simp only [hl381003_84])
            (try simp only [hl381003_84] at BK342)
            (try simp only [hl381003_84] at BK361)
            (try simp only [hl381003_84] at BK370)
            (try simp only [hl381003_84] at BK380)
            (try simp only [hl381003_84] at BK416)
            (try simp only [hl381003_84] at HO_362002)
            (try simp only [hl381003_84] at HO_362003)
            (try simp only [hl381003_84] at HO_371002)
            (try simp only [hl381003_84] at HO_371003)
            (try simp only [hl381003_84] at HO_381002)
            (try simp only [hl381003_84] at HO_417002)
            (try simp only [hl381003_84] at HO_417003)
            cases kq with
            | zero => exact absurd HA.out (by simp [laws_FnExactTurnFigure.j2])
            | succ kj84 =>
             have H := HA.out
             clear HA
             simp only [laws_FnExactTurnFigure.j2] at H
             by_cases c120 : x87_84 = true
             ·subst c120
              have H1 : (some false) = some r := by rw [if_pos rfl] at H; exact H
              clear H
              have H := H1
              clear H1
              exact absurd ((Option.some.inj H).trans HR_.out) Bool.false_ne_true
             ·replace c120 := Bool.eq_false_iff.mpr c120
              subst c120
              have H1 : ((laws_heldFigure.f kj84 t371 t372 t396 t397 101).bind fun t418 => (if t418 < 0 then (some false) else (if t418 = t395 then (some true) else (some false)))) = some r := by rw [if_neg (show ¬ (false = true) by decide)] at H; exact H
              clear H
              have H := H1
              clear H1
              replace H := Option.bind_eq_some_iff.mp H
              obtain ⟨t418, A1210, H⟩ := H
              replace H : (if t418 < 0 then (some false) else (if t418 = t395 then (some true) else (some false))) = some r := H
              have A121 := Aside0.mk A1210
              clear A1210
              by_cases c122 : t418 < 0
              ·rw [if_pos c122] at H
               have c122b0 : decide (t418 < 0) = true := decide_eq_true c122
               clear c122
               exact absurd ((Option.some.inj H).trans HR_.out) Bool.false_ne_true
              ·rw [if_neg c122] at H
               have c122b0 : decide (t418 < 0) = false := decide_eq_false c122
               clear c122
               by_cases c123 : t418 = t395
               ·rw [if_pos c123] at H
                have c123b0 : (t418 == t395) = true := beq_iff_eq.mpr c123
                have c123b1 : (t418 != t395) = false := bne_eq_false_iff_eq.mpr c123
                clear c123
                obtain rfl := Option.some.inj H
                have hnb124 := NB380_342.out
                have hnc124 := NB342_380.out
                have hnb125 := NB380_361.out
                have hnc125 := NB361_380.out
                have hnb126 := NB380_370.out
                have hnc126 := NB370_380.out
                have hnb127 := NB380_416.out
                have hnc127 := NB416_380.out
                have hcz128_0 : wc.cell? ⟨gb380, 0, none⟩ = some (.int .i64 t371) := (blk_cell BK380.out 0).trans rfl
                have hcz128_1 : wc.cell? ⟨gb380, 1, none⟩ = some (.int .i64 t372) := (blk_cell BK380.out 1).trans rfl
                have hcz128_2 : wc.cell? ⟨gb380, 2, none⟩ = some (.slice Ao39 t396.length co39) := (blk_cell BK380.out 2).trans rfl
                have hcz128_3 : wc.cell? ⟨gb380, 3, none⟩ = some (.slice Ao40 t397.length co40) := (blk_cell BK380.out 3).trans rfl
                have hfz128_0 := blk_frozen BK380.out 0
                have hfz128_1 := blk_frozen BK380.out 1
                have hfz128_2 := blk_frozen BK380.out 2
                have hfz128_3 := blk_frozen BK380.out 3
                go_wp2_with (first | ((with_reducible refine gate_callee (f := 17) rfl ?_); refine goesL_ (some 90) rfl rfl Tryd.func17 (by kernel_rfl) rfl #[.agg #[.int .i64 t371, .int .i64 t372, .slice Ao39 t396.length co39, .slice Ao40 t397.length co40], .int .i64 101] rfl (by (try simp only [List.map_toArray, List.map_cons, List.map_nil]); first | done | rfl | (simp only [List.length_drop, List.length_take]; rfl)) ?_; (with_reducible refine (laws_heldFigure.calls kj84 t371 t372 _ _ t396 _ _ t397 101 t418 _ ?side1 ?side2 ?side3 ?side4 A121.out).mono ?_); (case side1 => repeat (first | exact (Kd.R_reads' HO_381002.out).2.2 | (with_reducible refine Kd.C_alloc ?_ _) | (with_reducible refine Kd.C_drewN ?_ _) | (with_reducible refine Kd.C_drew ?_))); (case side2 => exact (Kd.R_reads' HO_381002.out).2.1); (case side3 => repeat (first | exact (Kd.R_reads' HO_381003.out).2.2 | (with_reducible refine Kd.C_alloc ?_ _) | (with_reducible refine Kd.C_drewN ?_ _) | (with_reducible refine Kd.C_drew ?_))); (case side4 => exact (Kd.R_reads' HO_381003.out).2.1); rintro e w129 ⟨rfl, hb⟩; refine ⟨_, rfl, ?_⟩; have n0_ := Aside0.mk (Kd.R_below (by (with_reducible repeat (first | apply Kd.R_alloc | apply Kd.R_drewN | apply Kd.R_drew)); exact HO_362002.out) hb); have n1_ := Aside0.mk (Kd.R_below (by (with_reducible repeat (first | apply Kd.R_alloc | apply Kd.R_drewN | apply Kd.R_drew)); exact HO_362003.out) hb); have n2_ := Aside0.mk (Kd.R_below (by (with_reducible repeat (first | apply Kd.R_alloc | apply Kd.R_drewN | apply Kd.R_drew)); exact HO_371002.out) hb); have n3_ := Aside0.mk (Kd.R_below (by (with_reducible repeat (first | apply Kd.R_alloc | apply Kd.R_drewN | apply Kd.R_drew)); exact HO_371003.out) hb); have n4_ := Aside0.mk (Kd.R_below (by (with_reducible repeat (first | apply Kd.R_alloc | apply Kd.R_drewN | apply Kd.R_drew)); exact HO_381002.out) hb); have n5_ := Aside0.mk (Kd.R_below (by (with_reducible repeat (first | apply Kd.R_alloc | apply Kd.R_drewN | apply Kd.R_drew)); exact HO_381003.out) hb); have n6_ := Aside0.mk (Kd.R_below (by (with_reducible repeat (first | apply Kd.R_alloc | apply Kd.R_drewN | apply Kd.R_drew)); exact HO_417002.out) hb); have n7_ := Aside0.mk (Kd.R_below (by (with_reducible repeat (first | apply Kd.R_alloc | apply Kd.R_drewN | apply Kd.R_drew)); exact HO_417003.out) hb); have n8_ := Aside0.mk (blk_below (g := gb342) (o := .cells #[.int .i64 a0_0, .int .i64 a0_1, .slice A0_2 l0_2.length c0_2, .slice A0_3 l0_3.length c0_3] 24 (0, 0)) (by (with_reducible repeat (first | refine blk_drewN ?_ _ | refine blk_drew ?_ | refine blk_alloc ?_ _)); exact BK342.out) hb); have n9_ := Aside0.mk (blk_below (g := gb361) (o := .cells #[.int .i64 t352, .int .i64 t353, .slice Ao23 t354.length co23, .slice Ao24 t357.length co24] 26 (0, 0)) (by (with_reducible repeat (first | refine blk_drewN ?_ _ | refine blk_drew ?_ | refine blk_alloc ?_ _)); exact BK361.out) hb); have n10_ := Aside0.mk (blk_below (g := gb370) (o := .cells #[.int .i64 t362, .int .i64 t363, .slice Ao31 t392.length co31, .slice Ao32 t393.length co32] 26 (0, 0)) (by (with_reducible repeat (first | refine blk_drewN ?_ _ | refine blk_drew ?_ | refine blk_alloc ?_ _)); exact BK370.out) hb); have n11_ := Aside0.mk (blk_below (g := gb380) (o := .cells #[.int .i64 t371, .int .i64 t372, .slice Ao39 t396.length co39, .slice Ao40 t397.length co40] 26 (0, 0)) (by (with_reducible repeat (first | refine blk_drewN ?_ _ | refine blk_drew ?_ | refine blk_alloc ?_ _)); exact BK380.out) hb); have n12_ := Aside0.mk (blk_below (g := gb416) (o := .cells #[.int .i64 t407, .int .i64 t408, .slice Ao106 t409.length co106, .slice Ao107 t412.length co107] 26 (0, 0)) (by (with_reducible repeat (first | refine blk_drewN ?_ _ | refine blk_drew ?_ | refine blk_alloc ?_ _)); exact BK416.out) hb); have n13_ := Aside0.mk (below_step (by repeat (first | (with_reducible first | exact HB.out | apply below_alloc | apply pw_below_drewN | apply below_drew1 | refine below_set ?_ GE342.out | refine below_set ?_ GE361.out | refine below_set ?_ GE370.out | refine below_set ?_ GE380.out | refine below_set ?_ GE416.out) | exact HB.out)) hb); clear HO_362002; clear HO_362003; clear HO_371002; clear HO_371003; clear HO_381002; clear HO_381003; clear HO_417002; clear HO_417003; clear BK342; clear BK361; clear BK370; clear BK380; clear BK416; clear HB; have HO_362002 := n0_; have HO_362003 := n1_; have HO_371002 := n2_; have HO_371003 := n3_; have HO_381002 := n4_; have HO_381003 := n5_; have HO_417002 := n6_; have HO_417003 := n7_; have BK342 := n8_; have BK361 := n9_; have BK370 := n10_; have BK380 := n11_; have BK416 := n12_; have HB := n13_; clear n0_ n1_ n2_ n3_ n4_ n5_ n6_ n7_ n8_ n9_ n10_ n11_ n12_ n13_; (try clear hb); (try clear hb2); (try clear hk); (try clear hi)))
                go_ret
                exact ⟨by first | rfl | (simp [errW_none, errW_some] <;> rfl) | (simp [*, errW_none, errW_some] <;> rfl), by repeat (first | (with_reducible first | exact HB.out | apply below_alloc | apply pw_below_drewN | apply below_drew1 | refine below_set ?_ GE342.out | refine below_set ?_ GE361.out | refine below_set ?_ GE370.out | refine below_set ?_ GE380.out | refine below_set ?_ GE416.out) | exact HB.out)⟩
               ·rw [if_neg c123] at H
                have c123b0 : (t418 == t395) = false := beq_eq_false_iff_ne.mpr c123
                have c123b1 : (t418 != t395) = true := bne_iff_ne.mpr c123
                exact absurd ((Option.some.inj H).trans HR_.out) Bool.false_ne_true
          ·rw [if_neg c82] at H
           have c82b0 : (t398 == t395) = false := beq_eq_false_iff_ne.mpr c82
           have c82b1 : (t398 != t395) = true := bne_iff_ne.mpr c82
           exact absurd ((Option.some.inj H).trans HR_.out) Bool.false_ne_true
     ·replace c54 := Bool.eq_false_iff.mpr c54
      subst c54
      have H1 : (some false) = some r := by rw [if_neg (show ¬ (false = true) by decide)] at H; exact H
      clear H
      have H := H1
      clear H1
      exact absurd ((Option.some.inj H).trans HR_.out) Bool.false_ne_true

/-- THE ONE PURE STATEMENT of laws_FnExactTurnFigure. -/
def laws_FnExactTurnFigure.Pure : Prop := ∀ (a0_0 : Int) (a0_1 : Int) (l0_2 : List Int) (l0_3 : List Int), (Lit.int .i64 a0_0).wf = true → (Lit.int .i64 a0_1).wf = true → l0_2.length ≤ maxLen → (∀ x ∈ l0_2, (Lit.int .i64 x).wf = true) → l0_3.length ≤ maxLen → (∀ x ∈ l0_3, (Lit.int .i64 x).wf = true) → ∃ k, laws_FnExactTurnFigure.f k a0_0 a0_1 l0_2 l0_3 = some true

end Go.Proofs.YtmlkihaoeopobaaDoor.Q
