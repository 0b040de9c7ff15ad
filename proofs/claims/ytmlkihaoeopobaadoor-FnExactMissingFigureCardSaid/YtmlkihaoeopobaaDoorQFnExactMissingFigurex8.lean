-- written by a program of this session, pm.py, for this claim
-- half the indentation
import Derived.Test.YtmlkihaoeopobaaDoorQFnExactMissingFigurex0
import Derived.Test.YtmlkihaoeopobaaDoorQFnExactMissingFigurex1
import Derived.Test.YtmlkihaoeopobaaDoorQFnExactMissingFigurex2
import Derived.Test.YtmlkihaoeopobaaDoorQFnExactMissingFigurex4
import Derived.Test.YtmlkihaoeopobaaDoorQFnExactMissingFigurex7
namespace Go.Proofs.YtmlkihaoeopobaaDoor.Q
open Go.RowKit Go.Proofs.YtmlkihaoeopobaaDoorW.PrintWords Go.Proofs.YtmlkihaoeopobaaDoorW.PrintLast Go.Proofs.YtmlkihaoeopobaaDoorW.PrintMore
attribute [local go_sem] max2_int min2_int max_two min_two max_three min_three max_four min_four   -- for this text's walks alone
set_option linter.unusedVariables false
set_option linter.unusedSimpArgs false

/-! ### laws_FnExactMissingFigure: function 4 -/
mutual
def laws_FnExactMissingFigure.j0 : Nat → Bool → Bool → Bool → Int → Int → List Int → List Int → Int → Int → List Int → List Int → Int → Int → List Int → List Int → Int → Int → List Int → List Int → Option (Bool)
 | 0, _, _, _, _, _, _, _, _, _, _, _, _, _, _, _, _, _, _, _ => none
 | k + 1, x5, x8, x40, x272000, x272001, x272002, x272003, x291000, x291001, x291002, x291003, x300000, x300001, x300002, x300003, x310000, x310001, x310002, x310003 => if x40 = true then (some false) else ((laws_toFigure.f x272000 x272001 x272002 x272003 false).bind fun bt311 => ((laws_intactFigure.f x300000 x300001 x300002 x300003 bt311.1 bt311.2.1 bt311.2.2.1 bt311.2.2.2).bind fun t319 => (if t319 = true then ((laws_markFigure.f k x300000 x300001 x300002 x300003 101).bind fun bt320 => (if bt320.1 < 0 then (laws_FnExactMissingFigure.j1 k x5 true x272000 x272001 x272002 x272003 x291000 x291001 x291002 x291003 x310000 x310001 x310002 x310003) else ((laws_eqFigure.f k x310000 x310001 x310002 x310003 x291000 x291001 x291002 x291003).bind fun t323 => (if t323 = true then (laws_FnExactMissingFigure.j1 k x5 (x8 != x5) x272000 x272001 x272002 x272003 x291000 x291001 x291002 x291003 x310000 x310001 x310002 x310003) else (laws_FnExactMissingFigure.j1 k x5 true x272000 x272001 x272002 x272003 x291000 x291001 x291002 x291003 x310000 x310001 x310002 x310003))))) else (some false))))
def laws_FnExactMissingFigure.j1 : Nat → Bool → Bool → Int → Int → List Int → List Int → Int → Int → List Int → List Int → Int → Int → List Int → List Int → Option (Bool)
 | 0, _, _, _, _, _, _, _, _, _, _, _, _, _, _ => none
 | k + 1, x5, x61, x272000, x272001, x272002, x272003, x291000, x291001, x291002, x291003, x310000, x310001, x310002, x310003 => if x61 = true then (some false) else ((laws_markFigure.f k x310000 x310001 x310002 x310003 101).bind fun bt324 => ((laws_heldFigure.f k x310000 x310001 bt324.2.1 bt324.2.2 101).bind fun t327 => (if t327 < 0 then (some false) else (if t327 = bt324.1 then ((laws_toFigure.f x272000 x272001 x272002 x272003 true).bind fun bt328 => ((impl_MissingFigure.f k bt328.1 bt328.2.1 bt328.2.2.1 bt328.2.2.2).bind fun bt336 => ((laws_eqFigure.f k bt336.1 bt336.2.1 bt336.2.2.1 bt336.2.2.2.1 x291000 x291001 x291002 x291003).bind fun t346 => (if t346 = true then (laws_FnExactMissingFigure.j2 k bt324.1 (bt336.2.2.2.2 != x5) x310000 x310001 bt324.2.1 bt324.2.2) else (laws_FnExactMissingFigure.j2 k bt324.1 true x310000 x310001 bt324.2.1 bt324.2.2))))) else (some false)))))
def laws_FnExactMissingFigure.j2 : Nat → Int → Bool → Int → Int → List Int → List Int → Option (Bool)
 | 0, _, _, _, _, _, _ => none
 | k + 1, x10, x87, x310000, x310001, x310002, x310003 => if x87 = true then (some false) else ((laws_heldFigure.f k x310000 x310001 x310002 x310003 101).bind fun t347 => (if t347 < 0 then (some false) else (if t347 = x10 then (some true) else (some false))))
end
def laws_FnExactMissingFigure.f (k : Nat) (a0_0 : Int) (a0_1 : Int) (l0_2 : List Int) (l0_3 : List Int) : Option (Bool) := (laws_szFigure.f a0_0 a0_1 l0_2 l0_3 1000000).bind fun t272 => (if t272 < 0 then (some true) else ((laws_toFigure.f a0_0 a0_1 l0_2 l0_3 false).bind fun bt273 => ((spec_MissingFigure.f k bt273.1 bt273.2.1 bt273.2.2.1 bt273.2.2.2).bind fun bt281 => ((laws_toFigure.f a0_0 a0_1 l0_2 l0_3 false).bind fun bt291 => ((impl_MissingFigure.f k bt291.1 bt291.2.1 bt291.2.2.1 bt291.2.2.2).bind fun bt300 => ((laws_eqFigure.f k bt300.1 bt300.2.1 bt300.2.2.1 bt300.2.2.2.1 bt281.1 bt281.2.1 bt281.2.2.1 bt281.2.2.2.1).bind fun t310 => (if t310 = true then (laws_FnExactMissingFigure.j0 k bt281.2.2.2.2 bt300.2.2.2.2 (bt300.2.2.2.2 != bt281.2.2.2.2) a0_0 a0_1 l0_2 l0_3 bt281.1 bt281.2.1 bt281.2.2.1 bt281.2.2.2.1 bt291.1 bt291.2.1 bt291.2.2.1 bt291.2.2.2 bt300.1 bt300.2.1 bt300.2.2.1 bt300.2.2.2.1) else (laws_FnExactMissingFigure.j0 k bt281.2.2.2.2 bt300.2.2.2.2 true a0_0 a0_1 l0_2 l0_3 bt281.1 bt281.2.1 bt281.2.2.1 bt281.2.2.2.1 bt291.1 bt291.2.1 bt291.2.2.1 bt291.2.2.2 bt300.1 bt300.2.1 bt300.2.2.1 bt300.2.2.2.1))))))))
theorem laws_FnExactMissingFigure.mono_l : ∀ k, (∀ y0 y1 y2 y3 y4 y5 y6 y7 y8 y9 y10 y11 y12 y13 y14 y15 y16 y17 y18, LeO (laws_FnExactMissingFigure.j0 k y0 y1 y2 y3 y4 y5 y6 y7 y8 y9 y10 y11 y12 y13 y14 y15 y16 y17 y18) (laws_FnExactMissingFigure.j0 (k + 1) y0 y1 y2 y3 y4 y5 y6 y7 y8 y9 y10 y11 y12 y13 y14 y15 y16 y17 y18)) ∧ (∀ y0 y1 y2 y3 y4 y5 y6 y7 y8 y9 y10 y11 y12 y13, LeO (laws_FnExactMissingFigure.j1 k y0 y1 y2 y3 y4 y5 y6 y7 y8 y9 y10 y11 y12 y13) (laws_FnExactMissingFigure.j1 (k + 1) y0 y1 y2 y3 y4 y5 y6 y7 y8 y9 y10 y11 y12 y13)) ∧ (∀ y0 y1 y2 y3 y4 y5, LeO (laws_FnExactMissingFigure.j2 k y0 y1 y2 y3 y4 y5) (laws_FnExactMissingFigure.j2 (k + 1) y0 y1 y2 y3 y4 y5))
 | 0 => ⟨fun _ _ _ _ _ _ _ _ _ _ _ _ _ _ _ _ _ _ _ r h => by simp [laws_FnExactMissingFigure.j0] at h, fun _ _ _ _ _ _ _ _ _ _ _ _ _ _ r h => by simp [laws_FnExactMissingFigure.j1] at h, fun _ _ _ _ _ _ r h => by simp [laws_FnExactMissingFigure.j2] at h⟩
 | k + 1 => by
  obtain ⟨ih0, ih1, ih2⟩ := laws_FnExactMissingFigure.mono_l k
  refine ⟨?_, ?_, ?_⟩
  ·intro y0 y1 y2 y3 y4 y5 y6 y7 y8 y9 y10 y11 y12 y13 y14 y15 y16 y17 y18
   unfold laws_FnExactMissingFigure.j0
   repeat' first
   | (with_reducible exact ih0 _ _ _ _ _ _ _ _ _ _ _ _ _ _ _ _ _ _ _)
   | (with_reducible exact ih1 _ _ _ _ _ _ _ _ _ _ _ _ _ _)
   | (with_reducible exact ih2 _ _ _ _ _ _)
   | (with_reducible exact impl_MissingFigure.mono _ _ _ _ _)
   | (with_reducible exact laws_eqFigure.mono _ _ _ _ _ _ _ _ _)
   | (with_reducible exact laws_heldFigure.mono _ _ _ _ _ _)
   | (with_reducible exact laws_markFigure.mono _ _ _ _ _ _)
   | (with_reducible exact spec_MissingFigure.mono _ _ _ _ _)
   | (with_reducible exact LeO.refl _)
   | (with_reducible exact LeO.none _)
   | (with_reducible refine LeO.ite ?_ ?_)
   | (with_reducible refine LeO.bind ?_ (fun _ => ?_))
   | exact ih0 _ _ _ _ _ _ _ _ _ _ _ _ _ _ _ _ _ _ _
   | exact ih1 _ _ _ _ _ _ _ _ _ _ _ _ _ _
   | exact ih2 _ _ _ _ _ _
   | exact impl_MissingFigure.mono _ _ _ _ _
   | exact laws_eqFigure.mono _ _ _ _ _ _ _ _ _
   | exact laws_heldFigure.mono _ _ _ _ _ _
   | exact laws_markFigure.mono _ _ _ _ _ _
   | exact spec_MissingFigure.mono _ _ _ _ _
   | exact LeO.none _
   | refine LeO.ite ?_ ?_
   | refine LeO.bind ?_ (fun _ => ?_)
  ·intro y0 y1 y2 y3 y4 y5 y6 y7 y8 y9 y10 y11 y12 y13
   unfold laws_FnExactMissingFigure.j1
   repeat' first
   | (with_reducible exact ih0 _ _ _ _ _ _ _ _ _ _ _ _ _ _ _ _ _ _ _)
   | (with_reducible exact ih1 _ _ _ _ _ _ _ _ _ _ _ _ _ _)
   | (with_reducible exact ih2 _ _ _ _ _ _)
   | (with_reducible exact impl_MissingFigure.mono _ _ _ _ _)
   | (with_reducible exact laws_eqFigure.mono _ _ _ _ _ _ _ _ _)
   | (with_reducible exact laws_heldFigure.mono _ _ _ _ _ _)
   | (with_reducible exact laws_markFigure.mono _ _ _ _ _ _)
   | (with_reducible exact spec_MissingFigure.mono _ _ _ _ _)
   | (with_reducible exact LeO.refl _)
   | (with_reducible exact LeO.none _)
   | (with_reducible refine LeO.ite ?_ ?_)
   | (with_reducible refine LeO.bind ?_ (fun _ => ?_))
   | exact ih0 _ _ _ _ _ _ _ _ _ _ _ _ _ _ _ _ _ _ _
   | exact ih1 _ _ _ _ _ _ _ _ _ _ _ _ _ _
   | exact ih2 _ _ _ _ _ _
   | exact impl_MissingFigure.mono _ _ _ _ _
   | exact laws_eqFigure.mono _ _ _ _ _ _ _ _ _
   | exact laws_heldFigure.mono _ _ _ _ _ _
   | exact laws_markFigure.mono _ _ _ _ _ _
   | exact spec_MissingFigure.mono _ _ _ _ _
   | exact LeO.none _
   | refine LeO.ite ?_ ?_
   | refine LeO.bind ?_ (fun _ => ?_)
  ·intro y0 y1 y2 y3 y4 y5
   unfold laws_FnExactMissingFigure.j2
   repeat' first
   | (with_reducible exact ih0 _ _ _ _ _ _ _ _ _ _ _ _ _ _ _ _ _ _ _)
   | (with_reducible exact ih1 _ _ _ _ _ _ _ _ _ _ _ _ _ _)
   | (with_reducible exact ih2 _ _ _ _ _ _)
   | (with_reducible exact impl_MissingFigure.mono _ _ _ _ _)
   | (with_reducible exact laws_eqFigure.mono _ _ _ _ _ _ _ _ _)
   | (with_reducible exact laws_heldFigure.mono _ _ _ _ _ _)
   | (with_reducible exact laws_markFigure.mono _ _ _ _ _ _)
   | (with_reducible exact spec_MissingFigure.mono _ _ _ _ _)
   | (with_reducible exact LeO.refl _)
   | (with_reducible exact LeO.none _)
   | (with_reducible refine LeO.ite ?_ ?_)
   | (with_reducible refine LeO.bind ?_ (fun _ => ?_))
   | exact ih0 _ _ _ _ _ _ _ _ _ _ _ _ _ _ _ _ _ _ _
   | exact ih1 _ _ _ _ _ _ _ _ _ _ _ _ _ _
   | exact ih2 _ _ _ _ _ _
   | exact impl_MissingFigure.mono _ _ _ _ _
   | exact laws_eqFigure.mono _ _ _ _ _ _ _ _ _
   | exact laws_heldFigure.mono _ _ _ _ _ _
   | exact laws_markFigure.mono _ _ _ _ _ _
   | exact spec_MissingFigure.mono _ _ _ _ _
   | exact LeO.none _
   | refine LeO.ite ?_ ?_
   | refine LeO.bind ?_ (fun _ => ?_)
theorem laws_FnExactMissingFigure.mono : ∀ a0 a1 a2 a3 k, LeO (laws_FnExactMissingFigure.f k a0 a1 a2 a3) (laws_FnExactMissingFigure.f (k + 1) a0 a1 a2 a3) := by
 intro a0 a1 a2 a3 k
 obtain ⟨ih0, ih1, ih2⟩ := laws_FnExactMissingFigure.mono_l k
 unfold laws_FnExactMissingFigure.f
 repeat' first
   | (with_reducible exact ih0 _ _ _ _ _ _ _ _ _ _ _ _ _ _ _ _ _ _ _)
   | (with_reducible exact ih1 _ _ _ _ _ _ _ _ _ _ _ _ _ _)
   | (with_reducible exact ih2 _ _ _ _ _ _)
   | (with_reducible exact impl_MissingFigure.mono _ _ _ _ _)
   | (with_reducible exact laws_eqFigure.mono _ _ _ _ _ _ _ _ _)
   | (with_reducible exact laws_heldFigure.mono _ _ _ _ _ _)
   | (with_reducible exact laws_markFigure.mono _ _ _ _ _ _)
   | (with_reducible exact spec_MissingFigure.mono _ _ _ _ _)
   | (with_reducible exact LeO.refl _)
   | (with_reducible exact LeO.none _)
   | (with_reducible refine LeO.ite ?_ ?_)
   | (with_reducible refine LeO.bind ?_ (fun _ => ?_))
   | exact ih0 _ _ _ _ _ _ _ _ _ _ _ _ _ _ _ _ _ _ _
   | exact ih1 _ _ _ _ _ _ _ _ _ _ _ _ _ _
   | exact ih2 _ _ _ _ _ _
   | exact impl_MissingFigure.mono _ _ _ _ _
   | exact laws_eqFigure.mono _ _ _ _ _ _ _ _ _
   | exact laws_heldFigure.mono _ _ _ _ _ _
   | exact laws_markFigure.mono _ _ _ _ _ _
   | exact spec_MissingFigure.mono _ _ _ _ _
   | exact LeO.none _
   | refine LeO.ite ?_ ?_
   | refine LeO.bind ?_ (fun _ => ?_)
set_option maxHeartbeats 8000000 in
set_option maxRecDepth 100000 in
theorem laws_FnExactMissingFigure.calls (k : Nat) (a0_0 : Int) (a0_1 : Int) (A0_2 : Option Addr) (c0_2 : Nat) (l0_2 : List Int) (A0_3 : Option Addr) (c0_3 : Nat) (l0_3 : List Int) (r : Bool) (w : World) (hr0_2 : Kd.C (Kd.int .i64) w A0_2 l0_2.length l0_2) (hc0_2 : l0_2.length ≤ c0_2) (hr0_3 : Kd.C (Kd.int .i64) w A0_3 l0_3.length l0_3) (hc0_3 : l0_3.length ≤ c0_3) (hG : LaidG w) (hr_ : r = true) (h : laws_FnExactMissingFigure.f k a0_0 a0_1 l0_2 l0_3 = some r) :
  Calls Tryd.prog 4 #[.agg #[.int .i64 a0_0, .int .i64 a0_1, .slice A0_2 l0_2.length c0_2, .slice A0_3 l0_3.length c0_3]] w fun e w' => e = .returned (.bool r) ∧ Below w.heap.size w w' := by
 have hu24 := Tryd.underlying24
 have hu26 := Tryd.underlying26
 have HR0_2 := Aside0.mk hr0_2
 have HC0_2 := Aside0.mk hc0_2
 clear hr0_2 hc0_2
 have HR0_3 := Aside0.mk hr0_3
 have HC0_3 := Aside0.mk hc0_3
 clear hr0_3 hc0_3
 have HG := Aside0.mk hG
 clear hG
 have HR_ := Aside0.mk hr_
 clear hr_
 have HB := Aside0.mk (Below.refl w.heap.size w)
 have H : ((laws_szFigure.f a0_0 a0_1 l0_2 l0_3 1000000).bind fun t272 => (if t272 < 0 then (some true) else ((laws_toFigure.f a0_0 a0_1 l0_2 l0_3 false).bind fun bt273 => ((spec_MissingFigure.f k bt273.1 bt273.2.1 bt273.2.2.1 bt273.2.2.2).bind fun bt281 => ((laws_toFigure.f a0_0 a0_1 l0_2 l0_3 false).bind fun bt291 => ((impl_MissingFigure.f k bt291.1 bt291.2.1 bt291.2.2.1 bt291.2.2.2).bind fun bt300 => ((laws_eqFigure.f k bt300.1 bt300.2.1 bt300.2.2.1 bt300.2.2.2.1 bt281.1 bt281.2.1 bt281.2.2.1 bt281.2.2.2.1).bind fun t310 => (if t310 = true then (laws_FnExactMissingFigure.j0 k bt281.2.2.2.2 bt300.2.2.2.2 (bt300.2.2.2.2 != bt281.2.2.2.2) a0_0 a0_1 l0_2 l0_3 bt281.1 bt281.2.1 bt281.2.2.1 bt281.2.2.2.1 bt291.1 bt291.2.1 bt291.2.2.1 bt291.2.2.2 bt300.1 bt300.2.1 bt300.2.2.1 bt300.2.2.2.1) else (laws_FnExactMissingFigure.j0 k bt281.2.2.2.2 bt300.2.2.2.2 true a0_0 a0_1 l0_2 l0_3 bt281.1 bt281.2.1 bt281.2.2.1 bt281.2.2.2.1 bt291.1 bt291.2.1 bt291.2.2.1 bt291.2.2.2 bt300.1 bt300.2.1 bt300.2.2.1 bt300.2.2.2.1))))))))) = some r := h
 clear h
 replace H := Option.bind_eq_some_iff.mp H
 obtain ⟨t272, A20, H⟩ := H
 replace H : (if t272 < 0 then (some true) else ((laws_toFigure.f a0_0 a0_1 l0_2 l0_3 false).bind fun bt273 => ((spec_MissingFigure.f k bt273.1 bt273.2.1 bt273.2.2.1 bt273.2.2.2).bind fun bt281 => ((laws_toFigure.f a0_0 a0_1 l0_2 l0_3 false).bind fun bt291 => ((impl_MissingFigure.f k bt291.1 bt291.2.1 bt291.2.2.1 bt291.2.2.2).bind fun bt300 => ((laws_eqFigure.f k bt300.1 bt300.2.1 bt300.2.2.1 bt300.2.2.2.1 bt281.1 bt281.2.1 bt281.2.2.1 bt281.2.2.2.1).bind fun t310 => (if t310 = true then (laws_FnExactMissingFigure.j0 k bt281.2.2.2.2 bt300.2.2.2.2 (bt300.2.2.2.2 != bt281.2.2.2.2) a0_0 a0_1 l0_2 l0_3 bt281.1 bt281.2.1 bt281.2.2.1 bt281.2.2.2.1 bt291.1 bt291.2.1 bt291.2.2.1 bt291.2.2.2 bt300.1 bt300.2.1 bt300.2.2.1 bt300.2.2.2.1) else (laws_FnExactMissingFigure.j0 k bt281.2.2.2.2 bt300.2.2.2.2 true a0_0 a0_1 l0_2 l0_3 bt281.1 bt281.2.1 bt281.2.2.1 bt281.2.2.2.1 bt291.1 bt291.2.1 bt291.2.2.1 bt291.2.2.2 bt300.1 bt300.2.1 bt300.2.2.1 bt300.2.2.2.1)))))))) = some r := H
 have A2 := Aside0.mk A20
 clear A20
 by_cases c3 : t272 < 0
 ·rw [if_pos c3] at H
  have c3b0 : decide (t272 < 0) = true := decide_eq_true c3
  clear c3
  obtain rfl := Option.some.inj H
  go_enter Tryd.func4, Tryd.ntmps4
  go_wp2_with (first | ((with_reducible refine gate_dst (N := 1) rfl ?_); refine box_event ?hg (N := 1) ?hd (cs := #[.int .i64 a0_0, .int .i64 a0_1, .slice A0_2 l0_2.length c0_2, .slice A0_3 l0_3.length c0_3]) (t := 24) ?hr ?_; (case hd => rfl); (case hg => rfl); (case hr => first | (go_simp; done) | (go_simp; rfl)); intro gb271 hg w4 hbox hb; have n0_ := Aside0.mk (below_step (by repeat (first | (with_reducible first | exact HB.out | apply below_alloc | apply pw_below_drewN | apply below_drew1) | exact HB.out)) hb); have n1_ := Aside0.mk (hbox); have n2_ := Aside0.mk ((by rw [hg]; exact (below_size (by repeat (first | (with_reducible first | exact HB.out | apply below_alloc | apply pw_below_drewN | apply below_drew1) | exact HB.out))) : w.heap.size ≤ gb271)); have n3_ := Aside0.mk ((by rw [hg]; exact (below_size (by repeat (first | (with_reducible first | exact HB.out | apply below_alloc | apply pw_below_drewN | apply below_drew1) | exact HB.out))) : w.heap.size ≤ gb271)); clear HB; have HB := n0_; have BK271 := n1_; have GW271 := n2_; have GE271 := n3_; clear n0_ n1_ n2_ n3_; clear hb hbox hg; have hcz5_0 : w4.cell? ⟨gb271, 0, none⟩ = some (.int .i64 a0_0) := (blk_cell BK271.out 0).trans rfl; have hcz5_1 : w4.cell? ⟨gb271, 1, none⟩ = some (.int .i64 a0_1) := (blk_cell BK271.out 1).trans rfl; have hcz5_2 : w4.cell? ⟨gb271, 2, none⟩ = some (.slice A0_2 l0_2.length c0_2) := (blk_cell BK271.out 2).trans rfl; have hcz5_3 : w4.cell? ⟨gb271, 3, none⟩ = some (.slice A0_3 l0_3.length c0_3) := (blk_cell BK271.out 3).trans rfl; have hfz5_0 := blk_frozen BK271.out 0; have hfz5_1 := blk_frozen BK271.out 1; have hfz5_2 := blk_frozen BK271.out 2; have hfz5_3 := blk_frozen BK271.out 3) | ((with_reducible refine gate_callee (f := 10) rfl ?_); refine goesL_ (some 16) rfl rfl Tryd.func10 (by kernel_rfl) rfl #[.agg #[.int .i64 a0_0, .int .i64 a0_1, .slice A0_2 l0_2.length c0_2, .slice A0_3 l0_3.length c0_3], .int .i64 1000000] rfl (by (try simp only [List.map_toArray, List.map_cons, List.map_nil]); first | done | rfl | (simp only [List.length_drop, List.length_take]; rfl)) ?_; (with_reducible refine (laws_szFigure.calls a0_0 a0_1 _ _ l0_2 _ _ l0_3 1000000 t272 _ ?side1 ?side2 ?side3 ?side4 A2.out).mono ?_); (case side1 => repeat (first | exact (Kd.C_below HR0_2.out HB.out) | (with_reducible refine Kd.C_alloc ?_ _) | (with_reducible refine Kd.C_drewN ?_ _) | (with_reducible refine Kd.C_drew ?_))); (case side2 => exact HC0_2.out); (case side3 => repeat (first | exact (Kd.C_below HR0_3.out HB.out) | (with_reducible refine Kd.C_alloc ?_ _) | (with_reducible refine Kd.C_drewN ?_ _) | (with_reducible refine Kd.C_drew ?_))); (case side4 => exact HC0_3.out); rintro e w6 ⟨rfl, hb⟩; refine ⟨_, rfl, ?_⟩; have n0_ := Aside0.mk (blk_below (g := gb271) (o := .cells #[.int .i64 a0_0, .int .i64 a0_1, .slice A0_2 l0_2.length c0_2, .slice A0_3 l0_3.length c0_3] 24 (0, 0)) (by (with_reducible repeat (first | refine blk_drewN ?_ _ | refine blk_drew ?_ | refine blk_alloc ?_ _)); exact BK271.out) hb); have n1_ := Aside0.mk (below_step (by repeat (first | (with_reducible first | exact HB.out | apply below_alloc | apply pw_below_drewN | apply below_drew1 | refine below_set ?_ GE271.out) | exact HB.out)) hb); clear BK271; clear HB; have BK271 := n0_; have HB := n1_; clear n0_ n1_; (try clear hb); (try clear hb2); (try clear hk); (try clear hi)))
  go_ret
  exact ⟨by first | rfl | (simp [errW_none, errW_some] <;> rfl) | (simp [*, errW_none, errW_some] <;> rfl), by repeat (first | (with_reducible first | exact HB.out | apply below_alloc | apply pw_below_drewN | apply below_drew1 | refine below_set ?_ GE271.out) | exact HB.out)⟩
 ·rw [if_neg c3] at H
  have c3b0 : decide (t272 < 0) = false := decide_eq_false c3
  clear c3
  replace H := Option.bind_eq_some_iff.mp H
  obtain ⟨⟨t273, t274, t275, t278⟩, A70, H⟩ := H
  replace H : ((spec_MissingFigure.f k t273 t274 t275 t278).bind fun bt281 => ((laws_toFigure.f a0_0 a0_1 l0_2 l0_3 false).bind fun bt291 => ((impl_MissingFigure.f k bt291.1 bt291.2.1 bt291.2.2.1 bt291.2.2.2).bind fun bt300 => ((laws_eqFigure.f k bt300.1 bt300.2.1 bt300.2.2.1 bt300.2.2.2.1 bt281.1 bt281.2.1 bt281.2.2.1 bt281.2.2.2.1).bind fun t310 => (if t310 = true then (laws_FnExactMissingFigure.j0 k bt281.2.2.2.2 bt300.2.2.2.2 (bt300.2.2.2.2 != bt281.2.2.2.2) a0_0 a0_1 l0_2 l0_3 bt281.1 bt281.2.1 bt281.2.2.1 bt281.2.2.2.1 bt291.1 bt291.2.1 bt291.2.2.1 bt291.2.2.2 bt300.1 bt300.2.1 bt300.2.2.1 bt300.2.2.2.1) else (laws_FnExactMissingFigure.j0 k bt281.2.2.2.2 bt300.2.2.2.2 true a0_0 a0_1 l0_2 l0_3 bt281.1 bt281.2.1 bt281.2.2.1 bt281.2.2.2.1 bt291.1 bt291.2.1 bt291.2.2.1 bt291.2.2.2 bt300.1 bt300.2.1 bt300.2.2.1 bt300.2.2.2.1)))))) = some r := H
  have A7 := Aside0.mk A70
  clear A70
  replace H := Option.bind_eq_some_iff.mp H
  obtain ⟨⟨t281, t282, t283, t286, t289⟩, A80, H⟩ := H
  replace H : ((laws_toFigure.f a0_0 a0_1 l0_2 l0_3 false).bind fun bt291 => ((impl_MissingFigure.f k bt291.1 bt291.2.1 bt291.2.2.1 bt291.2.2.2).bind fun bt300 => ((laws_eqFigure.f k bt300.1 bt300.2.1 bt300.2.2.1 bt300.2.2.2.1 t281 t282 t283 t286).bind fun t310 => (if t310 = true then (laws_FnExactMissingFigure.j0 k t289 bt300.2.2.2.2 (bt300.2.2.2.2 != t289) a0_0 a0_1 l0_2 l0_3 t281 t282 t283 t286 bt291.1 bt291.2.1 bt291.2.2.1 bt291.2.2.2 bt300.1 bt300.2.1 bt300.2.2.1 bt300.2.2.2.1) else (laws_FnExactMissingFigure.j0 k t289 bt300.2.2.2.2 true a0_0 a0_1 l0_2 l0_3 t281 t282 t283 t286 bt291.1 bt291.2.1 bt291.2.2.1 bt291.2.2.2 bt300.1 bt300.2.1 bt300.2.2.1 bt300.2.2.2.1))))) = some r := H
  have A8 := Aside0.mk A80
  clear A80
  replace H := Option.bind_eq_some_iff.mp H
  obtain ⟨⟨t291, t292, t293, t296⟩, A90, H⟩ := H
  replace H : ((impl_MissingFigure.f k t291 t292 t293 t296).bind fun bt300 => ((laws_eqFigure.f k bt300.1 bt300.2.1 bt300.2.2.1 bt300.2.2.2.1 t281 t282 t283 t286).bind fun t310 => (if t310 = true then (laws_FnExactMissingFigure.j0 k t289 bt300.2.2.2.2 (bt300.2.2.2.2 != t289) a0_0 a0_1 l0_2 l0_3 t281 t282 t283 t286 t291 t292 t293 t296 bt300.1 bt300.2.1 bt300.2.2.1 bt300.2.2.2.1) else (laws_FnExactMissingFigure.j0 k t289 bt300.2.2.2.2 true a0_0 a0_1 l0_2 l0_3 t281 t282 t283 t286 t291 t292 t293 t296 bt300.1 bt300.2.1 bt300.2.2.1 bt300.2.2.2.1)))) = some r := H
  have A9 := Aside0.mk A90
  clear A90
  replace H := Option.bind_eq_some_iff.mp H
  obtain ⟨⟨t300, t301, t302, t305, t308⟩, A100, H⟩ := H
  replace H : ((laws_eqFigure.f k t300 t301 t302 t305 t281 t282 t283 t286).bind fun t310 => (if t310 = true then (laws_FnExactMissingFigure.j0 k t289 t308 (t308 != t289) a0_0 a0_1 l0_2 l0_3 t281 t282 t283 t286 t291 t292 t293 t296 t300 t301 t302 t305) else (laws_FnExactMissingFigure.j0 k t289 t308 true a0_0 a0_1 l0_2 l0_3 t281 t282 t283 t286 t291 t292 t293 t296 t300 t301 t302 t305))) = some r := H
  have A10 := Aside0.mk A100
  clear A100
  have HC11 := Aside0.mk H
  clear H
  go_enter Tryd.func4, Tryd.ntmps4
  go_upto_region 8 with (first | ((with_reducible refine gate_dst (N := 1) rfl ?_); refine box_event ?hg (N := 1) ?hd (cs := #[.int .i64 a0_0, .int .i64 a0_1, .slice A0_2 l0_2.length c0_2, .slice A0_3 l0_3.length c0_3]) (t := 24) ?hr ?_; (case hd => rfl); (case hg => rfl); (case hr => first | (go_simp; done) | (go_simp; rfl)); intro gb271 hg w12 hbox hb; have n0_ := Aside0.mk (below_step (by repeat (first | (with_reducible first | exact HB.out | apply below_alloc | apply pw_below_drewN | apply below_drew1) | exact HB.out)) hb); have n1_ := Aside0.mk (hbox); have n2_ := Aside0.mk ((by rw [hg]; exact (below_size (by repeat (first | (with_reducible first | exact HB.out | apply below_alloc | apply pw_below_drewN | apply below_drew1) | exact HB.out))) : w.heap.size ≤ gb271)); have n3_ := Aside0.mk ((by rw [hg]; exact (below_size (by repeat (first | (with_reducible first | exact HB.out | apply below_alloc | apply pw_below_drewN | apply below_drew1) | exact HB.out))) : w.heap.size ≤ gb271)); clear HB; have HB := n0_; have BK271 := n1_; have GW271 := n2_; have GE271 := n3_; clear n0_ n1_ n2_ n3_; clear hb hbox hg; have hcz13_0 : w12.cell? ⟨gb271, 0, none⟩ = some (.int .i64 a0_0) := (blk_cell BK271.out 0).trans rfl; have hcz13_1 : w12.cell? ⟨gb271, 1, none⟩ = some (.int .i64 a0_1) := (blk_cell BK271.out 1).trans rfl; have hcz13_2 : w12.cell? ⟨gb271, 2, none⟩ = some (.slice A0_2 l0_2.length c0_2) := (blk_cell BK271.out 2).trans rfl; have hcz13_3 : w12.cell? ⟨gb271, 3, none⟩ = some (.slice A0_3 l0_3.length c0_3) := (blk_cell BK271.out 3).trans rfl; have hfz13_0 := blk_frozen BK271.out 0; have hfz13_1 := blk_frozen BK271.out 1; have hfz13_2 := blk_frozen BK271.out 2; have hfz13_3 := blk_frozen BK271.out 3) | ((with_reducible refine gate_callee (f := 10) rfl ?_); refine goesL_ (some 16) rfl rfl Tryd.func10 (by kernel_rfl) rfl #[.agg #[.int .i64 a0_0, .int .i64 a0_1, .slice A0_2 l0_2.length c0_2, .slice A0_3 l0_3.length c0_3], .int .i64 1000000] rfl (by (try simp only [List.map_toArray, List.map_cons, List.map_nil]); first | done | rfl | (simp only [List.length_drop, List.length_take]; rfl)) ?_; (with_reducible refine (laws_szFigure.calls a0_0 a0_1 _ _ l0_2 _ _ l0_3 1000000 t272 _ ?side1 ?side2 ?side3 ?side4 A2.out).mono ?_); (case side1 => repeat (first | exact (Kd.C_below HR0_2.out HB.out) | (with_reducible refine Kd.C_alloc ?_ _) | (with_reducible refine Kd.C_drewN ?_ _) | (with_reducible refine Kd.C_drew ?_))); (case side2 => exact HC0_2.out); (case side3 => repeat (first | exact (Kd.C_below HR0_3.out HB.out) | (with_reducible refine Kd.C_alloc ?_ _) | (with_reducible refine Kd.C_drewN ?_ _) | (with_reducible refine Kd.C_drew ?_))); (case side4 => exact HC0_3.out); rintro e w14 ⟨rfl, hb⟩; refine ⟨_, rfl, ?_⟩; have n0_ := Aside0.mk (blk_below (g := gb271) (o := .cells #[.int .i64 a0_0, .int .i64 a0_1, .slice A0_2 l0_2.length c0_2, .slice A0_3 l0_3.length c0_3] 24 (0, 0)) (by (with_reducible repeat (first | refine blk_drewN ?_ _ | refine blk_drew ?_ | refine blk_alloc ?_ _)); exact BK271.out) hb); have n1_ := Aside0.mk (below_step (by repeat (first | (with_reducible first | exact HB.out | apply below_alloc | apply pw_below_drewN | apply below_drew1 | refine below_set ?_ GE271.out) | exact HB.out)) hb); clear BK271; clear HB; have BK271 := n0_; have HB := n1_; clear n0_ n1_; (try clear hb); (try clear hb2); (try clear hk); (try clear hi); have hcz15_0 : w14.cell? ⟨gb271, 0, none⟩ = some (.int .i64 a0_0) := (blk_cell BK271.out 0).trans rfl; have hcz15_1 : w14.cell? ⟨gb271, 1, none⟩ = some (.int .i64 a0_1) := (blk_cell BK271.out 1).trans rfl; have hcz15_2 : w14.cell? ⟨gb271, 2, none⟩ = some (.slice A0_2 l0_2.length c0_2) := (blk_cell BK271.out 2).trans rfl; have hcz15_3 : w14.cell? ⟨gb271, 3, none⟩ = some (.slice A0_3 l0_3.length c0_3) := (blk_cell BK271.out 3).trans rfl; have hfz15_0 := blk_frozen BK271.out 0; have hfz15_1 := blk_frozen BK271.out 1; have hfz15_2 := blk_frozen BK271.out 2; have hfz15_3 := blk_frozen BK271.out 3) | ((with_reducible refine gate_callee (f := 12) rfl ?_); refine goesL_ (some 21) rfl rfl Tryd.func12 (by kernel_rfl) rfl #[.agg #[.int .i64 a0_0, .int .i64 a0_1, .slice A0_2 l0_2.length c0_2, .slice A0_3 l0_3.length c0_3], .bool false] rfl (by (try simp only [List.map_toArray, List.map_cons, List.map_nil]); first | done | rfl | (simp only [List.length_drop, List.length_take]; rfl)) ?_; (with_reducible refine (laws_toFigure.calls a0_0 a0_1 _ _ l0_2 _ _ l0_3 false t273 t274 t275 t278 _ ?side1 ?side2 ?side3 ?side4 A7.out).mono ?_); (case side1 => repeat (first | exact (Kd.C_below HR0_2.out HB.out) | (with_reducible refine Kd.C_alloc ?_ _) | (with_reducible refine Kd.C_drewN ?_ _) | (with_reducible refine Kd.C_drew ?_))); (case side2 => exact HC0_2.out); (case side3 => repeat (first | exact (Kd.C_below HR0_3.out HB.out) | (with_reducible refine Kd.C_alloc ?_ _) | (with_reducible refine Kd.C_drewN ?_ _) | (with_reducible refine Kd.C_drew ?_))); (case side4 => exact HC0_3.out); rintro e w16 ⟨v276, v279, rfl, ho0, ho1, hb⟩; refine ⟨_, rfl, ?_⟩; have n0_ := Aside0.mk (Kd.PB_lower ho0 (below_size (by repeat (first | (with_reducible first | exact HB.out | apply below_alloc | apply pw_below_drewN | apply below_drew1 | refine below_set ?_ GE271.out) | exact HB.out)))); have n1_ := Aside0.mk (Kd.PB_lower ho1 (below_size (by repeat (first | (with_reducible first | exact HB.out | apply below_alloc | apply pw_below_drewN | apply below_drew1 | refine below_set ?_ GE271.out) | exact HB.out)))); have n2_ := Aside0.mk (blk_below (g := gb271) (o := .cells #[.int .i64 a0_0, .int .i64 a0_1, .slice A0_2 l0_2.length c0_2, .slice A0_3 l0_3.length c0_3] 24 (0, 0)) (by (with_reducible repeat (first | refine blk_drewN ?_ _ | refine blk_drew ?_ | refine blk_alloc ?_ _)); exact BK271.out) hb); have n3_ := Aside0.mk (below_step (by repeat (first | (with_reducible first | exact HB.out | apply below_alloc | apply pw_below_drewN | apply below_drew1 | refine below_set ?_ GE271.out) | exact HB.out)) hb); clear BK271; clear HB; have HO277 := n0_; have HO280 := n1_; have BK271 := n2_; have HB := n3_; clear n0_ n1_ n2_ n3_; (try clear hb); (try clear hb2); (try clear hk); (try clear hi); (try clear ho0); (try clear ho1); obtain ⟨Ao17, co17, eo17⟩ := Kd.PB_slice HO277.out; subst eo17; obtain ⟨Ao18, co18, eo18⟩ := Kd.PB_slice HO280.out; subst eo18) | ((with_reducible refine gate_callee (f := 18) rfl ?_); refine goesL_ (some 22) rfl rfl Tryd.func18 (by kernel_rfl) rfl #[.agg #[.int .i64 t273, .int .i64 t274, .slice Ao17 t275.length co17, .slice Ao18 t278.length co18]] rfl (by (try simp only [List.map_toArray, List.map_cons, List.map_nil]); first | done | rfl | (simp only [List.length_drop, List.length_take]; rfl)) ?_; (with_reducible refine (spec_MissingFigure.calls k t273 t274 _ _ t275 _ _ t278 t281 t282 t283 t286 t289 _ ?side1 ?side2 ?side3 ?side4 A8.out).mono ?_); (case side1 => repeat (first | exact (Kd.PB_reads' HO277.out).2.2 | (with_reducible refine Kd.C_alloc ?_ _) | (with_reducible refine Kd.C_drewN ?_ _) | (with_reducible refine Kd.C_drew ?_))); (case side2 => exact (Kd.PB_reads' HO277.out).2.1); (case side3 => repeat (first | exact (Kd.PB_reads' HO280.out).2.2 | (with_reducible refine Kd.C_alloc ?_ _) | (with_reducible refine Kd.C_drewN ?_ _) | (with_reducible refine Kd.C_drew ?_))); (case side4 => exact (Kd.PB_reads' HO280.out).2.1); rintro e w19 ⟨v284, v287, rfl, ho0, ho1, hb⟩; refine ⟨_, rfl, ?_⟩; have n0_ := Aside0.mk (Kd.PB_mono (Kd.PB_told (Kd.PB_told (Kd.PB_old (by (with_reducible repeat (first | apply Kd.PB_alloc | apply Kd.PB_drewN | apply Kd.PB_drew)); exact HO277.out) hb) (Kd.R_base ho0)) (Kd.R_base ho1)) (fun _ h_ => h_.1)); have n1_ := Aside0.mk (Kd.PB_mono (Kd.PB_told (Kd.PB_told (Kd.PB_old (by (with_reducible repeat (first | apply Kd.PB_alloc | apply Kd.PB_drewN | apply Kd.PB_drew)); exact HO280.out) hb) (Kd.R_base ho0)) (Kd.R_base ho1)) (fun _ h_ => h_.1)); have n2_ := Aside0.mk (Kd.R_lower (Kd.R_new' (Kd.R_new' ho0 (Kd.PB_lt (by (with_reducible repeat (first | apply Kd.PB_alloc | apply Kd.PB_drewN | apply Kd.PB_drew)); exact HO277.out))) (Kd.PB_lt (by (with_reducible repeat (first | apply Kd.PB_alloc | apply Kd.PB_drewN | apply Kd.PB_drew)); exact HO280.out))) (below_size (by repeat (first | (with_reducible first | exact HB.out | apply below_alloc | apply pw_below_drewN | apply below_drew1 | refine below_set ?_ GE271.out) | exact HB.out)))); have n3_ := Aside0.mk (Kd.R_lower (Kd.R_new' (Kd.R_new' ho1 (Kd.PB_lt (by (with_reducible repeat (first | apply Kd.PB_alloc | apply Kd.PB_drewN | apply Kd.PB_drew)); exact HO277.out))) (Kd.PB_lt (by (with_reducible repeat (first | apply Kd.PB_alloc | apply Kd.PB_drewN | apply Kd.PB_drew)); exact HO280.out))) (below_size (by repeat (first | (with_reducible first | exact HB.out | apply below_alloc | apply pw_below_drewN | apply below_drew1 | refine below_set ?_ GE271.out) | exact HB.out)))); have n4_ := Aside0.mk (blk_below (g := gb271) (o := .cells #[.int .i64 a0_0, .int .i64 a0_1, .slice A0_2 l0_2.length c0_2, .slice A0_3 l0_3.length c0_3] 24 (0, 0)) (by (with_reducible repeat (first | refine blk_drewN ?_ _ | refine blk_drew ?_ | refine blk_alloc ?_ _)); exact BK271.out) hb); have n5_ := Aside0.mk (below_step (by repeat (first | (with_reducible first | exact HB.out | apply below_alloc | apply pw_below_drewN | apply below_drew1 | refine below_set ?_ GE271.out) | exact HB.out)) hb); clear HO277; clear HO280; clear BK271; clear HB; have HO277 := n0_; have HO280 := n1_; have HO285 := n2_; have HO288 := n3_; have BK271 := n4_; have HB := n5_; clear n0_ n1_ n2_ n3_ n4_ n5_; (try clear hb); (try clear hb2); (try clear hk); (try clear hi); (try clear ho0); (try clear ho1)) | ((with_reducible refine gate_dst (N := 4) rfl ?_); refine box_event ?hg (N := 4) ?hd (cs := #[.int .i64 0, .int .i64 0, .slice none 0 0, .slice none 0 0]) (t := 26) ?hr ?_; (case hd => rfl); (case hg => rfl); (case hr => first | (go_simp; done) | (go_simp; rfl)); intro gb290 hg w20 hbox hb; have n0_ := Aside0.mk (Kd.PB_below (by (with_reducible repeat (first | apply Kd.PB_alloc | apply Kd.PB_drewN | apply Kd.PB_drew)); exact HO277.out) hb); have n1_ := Aside0.mk (Kd.PB_below (by (with_reducible repeat (first | apply Kd.PB_alloc | apply Kd.PB_drewN | apply Kd.PB_drew)); exact HO280.out) hb); have n2_ := Aside0.mk (Kd.R_below (by (with_reducible repeat (first | apply Kd.R_alloc | apply Kd.R_drewN | apply Kd.R_drew)); exact HO285.out) hb); have n3_ := Aside0.mk (Kd.R_below (by (with_reducible repeat (first | apply Kd.R_alloc | apply Kd.R_drewN | apply Kd.R_drew)); exact HO288.out) hb); have n4_ := Aside0.mk (blk_below (g := gb271) (o := .cells #[.int .i64 a0_0, .int .i64 a0_1, .slice A0_2 l0_2.length c0_2, .slice A0_3 l0_3.length c0_3] 24 (0, 0)) (by (with_reducible repeat (first | refine blk_drewN ?_ _ | refine blk_drew ?_ | refine blk_alloc ?_ _)); exact BK271.out) hb); have n5_ := Aside0.mk (below_step (by repeat (first | (with_reducible first | exact HB.out | apply below_alloc | apply pw_below_drewN | apply below_drew1 | refine below_set ?_ GE271.out) | exact HB.out)) hb); have n6_ := Aside0.mk (hbox); have n7_ := Aside0.mk ((by rw [hg]; exact (below_size (by repeat (first | (with_reducible first | exact HB.out | apply below_alloc | apply pw_below_drewN | apply below_drew1 | refine below_set ?_ GE271.out) | exact HB.out))) : w.heap.size ≤ gb290)); have n8_ := Aside0.mk ((by rw [hg]; exact (below_size (by repeat (first | (with_reducible first | exact HB.out | apply below_alloc | apply pw_below_drewN | apply below_drew1 | refine below_set ?_ GE271.out) | exact HB.out))) : w.heap.size ≤ gb290)); have n9_ := Aside0.mk ((by rw [hg]; exact Nat.ne_of_lt (blk_lt (g := gb271) (o := .cells #[.int .i64 a0_0, .int .i64 a0_1, .slice A0_2 l0_2.length c0_2, .slice A0_3 l0_3.length c0_3] 24 (0, 0)) (by (with_reducible repeat (first | refine blk_drewN ?_ _ | refine blk_drew ?_ | refine blk_alloc ?_ _)); exact BK271.out)) : gb271 ≠ gb290)); have n10_ := Aside0.mk ((by rw [hg]; exact Nat.ne_of_gt (blk_lt (g := gb271) (o := .cells #[.int .i64 a0_0, .int .i64 a0_1, .slice A0_2 l0_2.length c0_2, .slice A0_3 l0_3.length c0_3] 24 (0, 0)) (by (with_reducible repeat (first | refine blk_drewN ?_ _ | refine blk_drew ?_ | refine blk_alloc ?_ _)); exact BK271.out)) : gb290 ≠ gb271)); clear HO277; clear HO280; clear HO285; clear HO288; clear BK271; clear HB; have HO277 := n0_; have HO280 := n1_; have HO285 := n2_; have HO288 := n3_; have BK271 := n4_; have HB := n5_; have BK290 := n6_; have GW290 := n7_; have GE290 := n8_; have NB271_290 := n9_; have NB290_271 := n10_; clear n0_ n1_ n2_ n3_ n4_ n5_ n6_ n7_ n8_ n9_ n10_; clear hb hbox hg; have hnb21 := NB290_271.out; have hnc21 := NB271_290.out; have hcz22_0 : w20.cell? ⟨gb290, 0, none⟩ = some (.int .i64 0) := (blk_cell BK290.out 0).trans rfl; have hcz22_1 : w20.cell? ⟨gb290, 1, none⟩ = some (.int .i64 0) := (blk_cell BK290.out 1).trans rfl; have hcz22_2 : w20.cell? ⟨gb290, 2, none⟩ = some (.slice none 0 0) := (blk_cell BK290.out 2).trans rfl; have hcz22_3 : w20.cell? ⟨gb290, 3, none⟩ = some (.slice none 0 0) := (blk_cell BK290.out 3).trans rfl; have hfz22_0 := blk_frozen BK290.out 0; have hfz22_1 := blk_frozen BK290.out 1; have hfz22_2 := blk_frozen BK290.out 2; have hfz22_3 := blk_frozen BK290.out 3; obtain ⟨Ao23, co23, eo23⟩ := Kd.R_slice HO285.out; subst eo23; obtain ⟨Ao24, co24, eo24⟩ := Kd.R_slice HO288.out; subst eo24; have hcz25_0 : w20.cell? ⟨gb271, 0, none⟩ = some (.int .i64 a0_0) := (blk_cell BK271.out 0).trans rfl; have hcz25_1 : w20.cell? ⟨gb271, 1, none⟩ = some (.int .i64 a0_1) := (blk_cell BK271.out 1).trans rfl; have hcz25_2 : w20.cell? ⟨gb271, 2, none⟩ = some (.slice A0_2 l0_2.length c0_2) := (blk_cell BK271.out 2).trans rfl; have hcz25_3 : w20.cell? ⟨gb271, 3, none⟩ = some (.slice A0_3 l0_3.length c0_3) := (blk_cell BK271.out 3).trans rfl; have hfz25_0 := blk_frozen BK271.out 0; have hfz25_1 := blk_frozen BK271.out 1; have hfz25_2 := blk_frozen BK271.out 2; have hfz25_3 := blk_frozen BK271.out 3) | ((with_reducible refine gate_callee (f := 12) rfl ?_); refine goesL_ (some 26) rfl rfl Tryd.func12 (by kernel_rfl) rfl #[.agg #[.int .i64 a0_0, .int .i64 a0_1, .slice A0_2 l0_2.length c0_2, .slice A0_3 l0_3.length c0_3], .bool false] rfl (by (try simp only [List.map_toArray, List.map_cons, List.map_nil]); first | done | rfl | (simp only [List.length_drop, List.length_take]; rfl)) ?_; (with_reducible refine (laws_toFigure.calls a0_0 a0_1 _ _ l0_2 _ _ l0_3 false t291 t292 t293 t296 _ ?side1 ?side2 ?side3 ?side4 A9.out).mono ?_); (case side1 => exact Kd.C_below HR0_2.out (by repeat (first | (with_reducible first | exact HB.out | apply below_alloc | apply pw_below_drewN | apply below_drew1 | refine below_set ?_ GE271.out | refine below_set ?_ GE290.out) | exact HB.out))); (case side2 => exact HC0_2.out); (case side3 => exact Kd.C_below HR0_3.out (by repeat (first | (with_reducible first | exact HB.out | apply below_alloc | apply pw_below_drewN | apply below_drew1 | refine below_set ?_ GE271.out | refine below_set ?_ GE290.out) | exact HB.out))); (case side4 => exact HC0_3.out); rintro e w26 ⟨v294, v297, rfl, ho0, ho1, hb⟩; refine ⟨_, rfl, ?_⟩; have n0_ := Aside0.mk (Kd.PB_mono (Kd.PB_told (Kd.PB_told (Kd.PB_old (by (with_reducible repeat (first | apply Kd.PB_alloc | apply Kd.PB_drewN | apply Kd.PB_drew)); exact (Kd.PB_mono (Kd.PB_far (p := ⟨gb290, 3, none⟩) (Kd.PB_far (p := ⟨gb290, 2, none⟩) (Kd.PB_far (p := ⟨gb290, 1, none⟩) (Kd.PB_far (p := ⟨gb290, 0, none⟩) (Kd.PB_types HO277.out BK290.out (by decide)) (fun _ hk => hk.2) (.int .i64 t281)) (fun _ hk => hk.2) (.int .i64 t282)) (fun _ hk => hk.2) (.slice Ao23 t283.length co23)) (fun _ hk => hk.2) (.slice Ao24 t286.length co24)) (fun _ h_ => h_.1))) hb) (Kd.PB_base ho0)) (Kd.PB_base ho1)) (fun _ h_ => h_.1)); have n1_ := Aside0.mk (Kd.PB_mono (Kd.PB_told (Kd.PB_told (Kd.PB_old (by (with_reducible repeat (first | apply Kd.PB_alloc | apply Kd.PB_drewN | apply Kd.PB_drew)); exact (Kd.PB_mono (Kd.PB_far (p := ⟨gb290, 3, none⟩) (Kd.PB_far (p := ⟨gb290, 2, none⟩) (Kd.PB_far (p := ⟨gb290, 1, none⟩) (Kd.PB_far (p := ⟨gb290, 0, none⟩) (Kd.PB_types HO280.out BK290.out (by decide)) (fun _ hk => hk.2) (.int .i64 t281)) (fun _ hk => hk.2) (.int .i64 t282)) (fun _ hk => hk.2) (.slice Ao23 t283.length co23)) (fun _ hk => hk.2) (.slice Ao24 t286.length co24)) (fun _ h_ => h_.1))) hb) (Kd.PB_base ho0)) (Kd.PB_base ho1)) (fun _ h_ => h_.1)); have n2_ := Aside0.mk (Kd.R_mono (Kd.R_told (Kd.R_told (Kd.R_old (by (with_reducible repeat (first | apply Kd.R_alloc | apply Kd.R_drewN | apply Kd.R_drew)); exact (Kd.R_mono (Kd.R_far (p := ⟨gb290, 3, none⟩) (Kd.R_far (p := ⟨gb290, 2, none⟩) (Kd.R_far (p := ⟨gb290, 1, none⟩) (Kd.R_far (p := ⟨gb290, 0, none⟩) (Kd.R_types HO285.out BK290.out (by decide)) (fun _ hk => hk.2) (.int .i64 t281)) (fun _ hk => hk.2) (.int .i64 t282)) (fun _ hk => hk.2) (.slice Ao23 t283.length co23)) (fun _ hk => hk.2) (.slice Ao24 t286.length co24)) (fun _ h_ => h_.1))) hb) (Kd.PB_base ho0)) (Kd.PB_base ho1)) (fun _ h_ => h_.1)); have n3_ := Aside0.mk (Kd.R_mono (Kd.R_told (Kd.R_told (Kd.R_old (by (with_reducible repeat (first | apply Kd.R_alloc | apply Kd.R_drewN | apply Kd.R_drew)); exact (Kd.R_mono (Kd.R_far (p := ⟨gb290, 3, none⟩) (Kd.R_far (p := ⟨gb290, 2, none⟩) (Kd.R_far (p := ⟨gb290, 1, none⟩) (Kd.R_far (p := ⟨gb290, 0, none⟩) (Kd.R_types HO288.out BK290.out (by decide)) (fun _ hk => hk.2) (.int .i64 t281)) (fun _ hk => hk.2) (.int .i64 t282)) (fun _ hk => hk.2) (.slice Ao23 t283.length co23)) (fun _ hk => hk.2) (.slice Ao24 t286.length co24)) (fun _ h_ => h_.1))) hb) (Kd.PB_base ho0)) (Kd.PB_base ho1)) (fun _ h_ => h_.1)); have n4_ := Aside0.mk (Kd.PB_lower (Kd.PB_new' (Kd.PB_new' (Kd.PB_new' (Kd.PB_new' ho0 (Kd.PB_lt (by (with_reducible repeat (first | apply Kd.PB_alloc | apply Kd.PB_drewN | apply Kd.PB_drew)); exact (Kd.PB_mono (Kd.PB_far (p := ⟨gb290, 3, none⟩) (Kd.PB_far (p := ⟨gb290, 2, none⟩) (Kd.PB_far (p := ⟨gb290, 1, none⟩) (Kd.PB_far (p := ⟨gb290, 0, none⟩) (Kd.PB_types HO277.out BK290.out (by decide)) (fun _ hk => hk.2) (.int .i64 t281)) (fun _ hk => hk.2) (.int .i64 t282)) (fun _ hk => hk.2) (.slice Ao23 t283.length co23)) (fun _ hk => hk.2) (.slice Ao24 t286.length co24)) (fun _ h_ => h_.1))))) (Kd.PB_lt (by (with_reducible repeat (first | apply Kd.PB_alloc | apply Kd.PB_drewN | apply Kd.PB_drew)); exact (Kd.PB_mono (Kd.PB_far (p := ⟨gb290, 3, none⟩) (Kd.PB_far (p := ⟨gb290, 2, none⟩) (Kd.PB_far (p := ⟨gb290, 1, none⟩) (Kd.PB_far (p := ⟨gb290, 0, none⟩) (Kd.PB_types HO280.out BK290.out (by decide)) (fun _ hk => hk.2) (.int .i64 t281)) (fun _ hk => hk.2) (.int .i64 t282)) (fun _ hk => hk.2) (.slice Ao23 t283.length co23)) (fun _ hk => hk.2) (.slice Ao24 t286.length co24)) (fun _ h_ => h_.1))))) (Kd.R_lt (by (with_reducible repeat (first | apply Kd.R_alloc | apply Kd.R_drewN | apply Kd.R_drew)); exact (Kd.R_mono (Kd.R_far (p := ⟨gb290, 3, none⟩) (Kd.R_far (p := ⟨gb290, 2, none⟩) (Kd.R_far (p := ⟨gb290, 1, none⟩) (Kd.R_far (p := ⟨gb290, 0, none⟩) (Kd.R_types HO285.out BK290.out (by decide)) (fun _ hk => hk.2) (.int .i64 t281)) (fun _ hk => hk.2) (.int .i64 t282)) (fun _ hk => hk.2) (.slice Ao23 t283.length co23)) (fun _ hk => hk.2) (.slice Ao24 t286.length co24)) (fun _ h_ => h_.1))))) (Kd.R_lt (by (with_reducible repeat (first | apply Kd.R_alloc | apply Kd.R_drewN | apply Kd.R_drew)); exact (Kd.R_mono (Kd.R_far (p := ⟨gb290, 3, none⟩) (Kd.R_far (p := ⟨gb290, 2, none⟩) (Kd.R_far (p := ⟨gb290, 1, none⟩) (Kd.R_far (p := ⟨gb290, 0, none⟩) (Kd.R_types HO288.out BK290.out (by decide)) (fun _ hk => hk.2) (.int .i64 t281)) (fun _ hk => hk.2) (.int .i64 t282)) (fun _ hk => hk.2) (.slice Ao23 t283.length co23)) (fun _ hk => hk.2) (.slice Ao24 t286.length co24)) (fun _ h_ => h_.1))))) (below_size (by repeat (first | (with_reducible first | exact HB.out | apply below_alloc | apply pw_below_drewN | apply below_drew1 | refine below_set ?_ GE271.out | refine below_set ?_ GE290.out) | exact HB.out)))); have n5_ := Aside0.mk (Kd.PB_lower (Kd.PB_new' (Kd.PB_new' (Kd.PB_new' (Kd.PB_new' ho1 (Kd.PB_lt (by (with_reducible repeat (first | apply Kd.PB_alloc | apply Kd.PB_drewN | apply Kd.PB_drew)); exact (Kd.PB_mono (Kd.PB_far (p := ⟨gb290, 3, none⟩) (Kd.PB_far (p := ⟨gb290, 2, none⟩) (Kd.PB_far (p := ⟨gb290, 1, none⟩) (Kd.PB_far (p := ⟨gb290, 0, none⟩) (Kd.PB_types HO277.out BK290.out (by decide)) (fun _ hk => hk.2) (.int .i64 t281)) (fun _ hk => hk.2) (.int .i64 t282)) (fun _ hk => hk.2) (.slice Ao23 t283.length co23)) (fun _ hk => hk.2) (.slice Ao24 t286.length co24)) (fun _ h_ => h_.1))))) (Kd.PB_lt (by (with_reducible repeat (first | apply Kd.PB_alloc | apply Kd.PB_drewN | apply Kd.PB_drew)); exact (Kd.PB_mono (Kd.PB_far (p := ⟨gb290, 3, none⟩) (Kd.PB_far (p := ⟨gb290, 2, none⟩) (Kd.PB_far (p := ⟨gb290, 1, none⟩) (Kd.PB_far (p := ⟨gb290, 0, none⟩) (Kd.PB_types HO280.out BK290.out (by decide)) (fun _ hk => hk.2) (.int .i64 t281)) (fun _ hk => hk.2) (.int .i64 t282)) (fun _ hk => hk.2) (.slice Ao23 t283.length co23)) (fun _ hk => hk.2) (.slice Ao24 t286.length co24)) (fun _ h_ => h_.1))))) (Kd.R_lt (by (with_reducible repeat (first | apply Kd.R_alloc | apply Kd.R_drewN | apply Kd.R_drew)); exact (Kd.R_mono (Kd.R_far (p := ⟨gb290, 3, none⟩) (Kd.R_far (p := ⟨gb290, 2, none⟩) (Kd.R_far (p := ⟨gb290, 1, none⟩) (Kd.R_far (p := ⟨gb290, 0, none⟩) (Kd.R_types HO285.out BK290.out (by decide)) (fun _ hk => hk.2) (.int .i64 t281)) (fun _ hk => hk.2) (.int .i64 t282)) (fun _ hk => hk.2) (.slice Ao23 t283.length co23)) (fun _ hk => hk.2) (.slice Ao24 t286.length co24)) (fun _ h_ => h_.1))))) (Kd.R_lt (by (with_reducible repeat (first | apply Kd.R_alloc | apply Kd.R_drewN | apply Kd.R_drew)); exact (Kd.R_mono (Kd.R_far (p := ⟨gb290, 3, none⟩) (Kd.R_far (p := ⟨gb290, 2, none⟩) (Kd.R_far (p := ⟨gb290, 1, none⟩) (Kd.R_far (p := ⟨gb290, 0, none⟩) (Kd.R_types HO288.out BK290.out (by decide)) (fun _ hk => hk.2) (.int .i64 t281)) (fun _ hk => hk.2) (.int .i64 t282)) (fun _ hk => hk.2) (.slice Ao23 t283.length co23)) (fun _ hk => hk.2) (.slice Ao24 t286.length co24)) (fun _ h_ => h_.1))))) (below_size (by repeat (first | (with_reducible first | exact HB.out | apply below_alloc | apply pw_below_drewN | apply below_drew1 | refine below_set ?_ GE271.out | refine below_set ?_ GE290.out) | exact HB.out)))); have n6_ := Aside0.mk (blk_below (g := gb271) (o := .cells #[.int .i64 a0_0, .int .i64 a0_1, .slice A0_2 l0_2.length c0_2, .slice A0_3 l0_3.length c0_3] 24 (0, 0)) (by (with_reducible repeat (first | refine blk_drewN ?_ _ | refine blk_drew ?_ | refine blk_alloc ?_ _)); refine blk_far ?_ NB271_290.out _; (with_reducible repeat (first | refine blk_drewN ?_ _ | refine blk_drew ?_ | refine blk_alloc ?_ _)); refine blk_far ?_ NB271_290.out _; (with_reducible repeat (first | refine blk_drewN ?_ _ | refine blk_drew ?_ | refine blk_alloc ?_ _)); refine blk_far ?_ NB271_290.out _; (with_reducible repeat (first | refine blk_drewN ?_ _ | refine blk_drew ?_ | refine blk_alloc ?_ _)); refine blk_far ?_ NB271_290.out _; (with_reducible repeat (first | refine blk_drewN ?_ _ | refine blk_drew ?_ | refine blk_alloc ?_ _)); exact BK271.out) hb); have n7_ := Aside0.mk (blk_below (g := gb290) (o := .cells #[.int .i64 t281, .int .i64 t282, .slice Ao23 t283.length co23, .slice Ao24 t286.length co24] 26 (0, 0)) (by (with_reducible repeat (first | refine blk_drewN ?_ _ | refine blk_drew ?_ | refine blk_alloc ?_ _)); refine blk_put (cs := #[.int .i64 t281, .int .i64 t282, .slice Ao23 t283.length co23, .slice none 0 0]) ?_ 3 _ rfl; (with_reducible repeat (first | refine blk_drewN ?_ _ | refine blk_drew ?_ | refine blk_alloc ?_ _)); refine blk_put (cs := #[.int .i64 t281, .int .i64 t282, .slice none 0 0, .slice none 0 0]) ?_ 2 _ rfl; (with_reducible repeat (first | refine blk_drewN ?_ _ | refine blk_drew ?_ | refine blk_alloc ?_ _)); refine blk_put (cs := #[.int .i64 t281, .int .i64 0, .slice none 0 0, .slice none 0 0]) ?_ 1 _ rfl; (with_reducible repeat (first | refine blk_drewN ?_ _ | refine blk_drew ?_ | refine blk_alloc ?_ _)); refine blk_put (cs := #[.int .i64 0, .int .i64 0, .slice none 0 0, .slice none 0 0]) ?_ 0 _ rfl; (with_reducible repeat (first | refine blk_drewN ?_ _ | refine blk_drew ?_ | refine blk_alloc ?_ _)); exact BK290.out) hb); have n8_ := Aside0.mk (below_step (by repeat (first | (with_reducible first | exact HB.out | apply below_alloc | apply pw_below_drewN | apply below_drew1 | refine below_set ?_ GE271.out | refine below_set ?_ GE290.out) | exact HB.out)) hb); clear HO277; clear HO280; clear HO285; clear HO288; clear BK271; clear BK290; clear HB; have HO277 := n0_; have HO280 := n1_; have HO285 := n2_; have HO288 := n3_; have HO295 := n4_; have HO298 := n5_; have BK271 := n6_; have BK290 := n7_; have HB := n8_; clear n0_ n1_ n2_ n3_ n4_ n5_ n6_ n7_ n8_; (try clear hb); (try clear hb2); (try clear hk); (try clear hi); (try clear ho0); (try clear ho1)) | ((with_reducible refine gate_dst (N := 6) rfl ?_); refine box_event ?hg (N := 6) ?hd (cs := #[.int .i64 0, .int .i64 0, .slice none 0 0, .slice none 0 0]) (t := 26) ?hr ?_; (case hd => rfl); (case hg => rfl); (case hr => first | (go_simp; done) | (go_simp; rfl)); intro gb299 hg w27 hbox hb; have n0_ := Aside0.mk (Kd.PB_below (by (with_reducible repeat (first | apply Kd.PB_alloc | apply Kd.PB_drewN | apply Kd.PB_drew)); exact HO277.out) hb); have n1_ := Aside0.mk (Kd.PB_below (by (with_reducible repeat (first | apply Kd.PB_alloc | apply Kd.PB_drewN | apply Kd.PB_drew)); exact HO280.out) hb); have n2_ := Aside0.mk (Kd.R_below (by (with_reducible repeat (first | apply Kd.R_alloc | apply Kd.R_drewN | apply Kd.R_drew)); exact HO285.out) hb); have n3_ := Aside0.mk (Kd.R_below (by (with_reducible repeat (first | apply Kd.R_alloc | apply Kd.R_drewN | apply Kd.R_drew)); exact HO288.out) hb); have n4_ := Aside0.mk (Kd.PB_below (by (with_reducible repeat (first | apply Kd.PB_alloc | apply Kd.PB_drewN | apply Kd.PB_drew)); exact HO295.out) hb); have n5_ := Aside0.mk (Kd.PB_below (by (with_reducible repeat (first | apply Kd.PB_alloc | apply Kd.PB_drewN | apply Kd.PB_drew)); exact HO298.out) hb); have n6_ := Aside0.mk (blk_below (g := gb271) (o := .cells #[.int .i64 a0_0, .int .i64 a0_1, .slice A0_2 l0_2.length c0_2, .slice A0_3 l0_3.length c0_3] 24 (0, 0)) (by (with_reducible repeat (first | refine blk_drewN ?_ _ | refine blk_drew ?_ | refine blk_alloc ?_ _)); exact BK271.out) hb); have n7_ := Aside0.mk (blk_below (g := gb290) (o := .cells #[.int .i64 t281, .int .i64 t282, .slice Ao23 t283.length co23, .slice Ao24 t286.length co24] 26 (0, 0)) (by (with_reducible repeat (first | refine blk_drewN ?_ _ | refine blk_drew ?_ | refine blk_alloc ?_ _)); exact BK290.out) hb); have n8_ := Aside0.mk (below_step (by repeat (first | (with_reducible first | exact HB.out | apply below_alloc | apply pw_below_drewN | apply below_drew1 | refine below_set ?_ GE271.out | refine below_set ?_ GE290.out) | exact HB.out)) hb); have n9_ := Aside0.mk (hbox); have n10_ := Aside0.mk ((by rw [hg]; exact (below_size (by repeat (first | (with_reducible first | exact HB.out | apply below_alloc | apply pw_below_drewN | apply below_drew1 | refine below_set ?_ GE271.out | refine below_set ?_ GE290.out) | exact HB.out))) : w.heap.size ≤ gb299)); have n11_ := Aside0.mk ((by rw [hg]; exact (below_size (by repeat (first | (with_reducible first | exact HB.out | apply below_alloc | apply pw_below_drewN | apply below_drew1 | refine below_set ?_ GE271.out | refine below_set ?_ GE290.out) | exact HB.out))) : w.heap.size ≤ gb299)); have n12_ := Aside0.mk ((by rw [hg]; exact Nat.ne_of_lt (blk_lt (g := gb271) (o := .cells #[.int .i64 a0_0, .int .i64 a0_1, .slice A0_2 l0_2.length c0_2, .slice A0_3 l0_3.length c0_3] 24 (0, 0)) (by (with_reducible repeat (first | refine blk_drewN ?_ _ | refine blk_drew ?_ | refine blk_alloc ?_ _)); exact BK271.out)) : gb271 ≠ gb299)); have n13_ := Aside0.mk ((by rw [hg]; exact Nat.ne_of_gt (blk_lt (g := gb271) (o := .cells #[.int .i64 a0_0, .int .i64 a0_1, .slice A0_2 l0_2.length c0_2, .slice A0_3 l0_3.length c0_3] 24 (0, 0)) (by (with_reducible repeat (first | refine blk_drewN ?_ _ | refine blk_drew ?_ | refine blk_alloc ?_ _)); exact BK271.out)) : gb299 ≠ gb271)); have n14_ := Aside0.mk ((by rw [hg]; exact Nat.ne_of_lt (blk_lt (g := gb290) (o := .cells #[.int .i64 t281, .int .i64 t282, .slice Ao23 t283.length co23, .slice Ao24 t286.length co24] 26 (0, 0)) (by (with_reducible repeat (first | refine blk_drewN ?_ _ | refine blk_drew ?_ | refine blk_alloc ?_ _)); exact BK290.out)) : gb290 ≠ gb299)); have n15_ := Aside0.mk ((by rw [hg]; exact Nat.ne_of_gt (blk_lt (g := gb290) (o := .cells #[.int .i64 t281, .int .i64 t282, .slice Ao23 t283.length co23, .slice Ao24 t286.length co24] 26 (0, 0)) (by (with_reducible repeat (first | refine blk_drewN ?_ _ | refine blk_drew ?_ | refine blk_alloc ?_ _)); exact BK290.out)) : gb299 ≠ gb290)); clear HO277; clear HO280; clear HO285; clear HO288; clear HO295; clear HO298; clear BK271; clear BK290; clear HB; have HO277 := n0_; have HO280 := n1_; have HO285 := n2_; have HO288 := n3_; have HO295 := n4_; have HO298 := n5_; have BK271 := n6_; have BK290 := n7_; have HB := n8_; have BK299 := n9_; have GW299 := n10_; have GE299 := n11_; have NB271_299 := n12_; have NB299_271 := n13_; have NB290_299 := n14_; have NB299_290 := n15_; clear n0_ n1_ n2_ n3_ n4_ n5_ n6_ n7_ n8_ n9_ n10_ n11_ n12_ n13_ n14_ n15_; clear hb hbox hg; have hnb28 := NB299_271.out; have hnc28 := NB271_299.out; have hnb29 := NB299_290.out; have hnc29 := NB290_299.out; have hcz30_0 : w27.cell? ⟨gb299, 0, none⟩ = some (.int .i64 0) := (blk_cell BK299.out 0).trans rfl; have hcz30_1 : w27.cell? ⟨gb299, 1, none⟩ = some (.int .i64 0) := (blk_cell BK299.out 1).trans rfl; have hcz30_2 : w27.cell? ⟨gb299, 2, none⟩ = some (.slice none 0 0) := (blk_cell BK299.out 2).trans rfl; have hcz30_3 : w27.cell? ⟨gb299, 3, none⟩ = some (.slice none 0 0) := (blk_cell BK299.out 3).trans rfl; have hfz30_0 := blk_frozen BK299.out 0; have hfz30_1 := blk_frozen BK299.out 1; have hfz30_2 := blk_frozen BK299.out 2; have hfz30_3 := blk_frozen BK299.out 3; obtain ⟨Ao31, co31, eo31⟩ := Kd.PB_slice HO295.out; subst eo31; obtain ⟨Ao32, co32, eo32⟩ := Kd.PB_slice HO298.out; subst eo32) | ((with_reducible refine gate_callee (f := 19) rfl ?_); refine goesL_ (some 29) rfl rfl Tryd.func19 (by kernel_rfl) rfl #[.agg #[.int .i64 t291, .int .i64 t292, .slice Ao31 t293.length co31, .slice Ao32 t296.length co32]] rfl (by (try simp only [List.map_toArray, List.map_cons, List.map_nil]); first | done | rfl | (simp only [List.length_drop, List.length_take]; rfl)) ?_; (with_reducible refine (impl_MissingFigure.calls k t291 t292 _ _ t293 _ _ t296 t300 t301 t302 t305 t308 _ ?side1 ?side2 ?side3 ?side4 ?side5 A10.out).mono ?_); (case side1 => refine (Kd.PB_reads' (b := false) (e := 3) (base := w.heap.size) (ok := fun k_ => ((((some k_ ≠ (.slice Ao32 t296.length co32 : Value).ownBlock ∧ some k_ ≠ (.slice Ao17 t275.length co17 : Value).ownBlock) ∧ some k_ ≠ (.slice Ao18 t278.length co18 : Value).ownBlock) ∧ some k_ ≠ (.slice Ao23 t283.length co23 : Value).ownBlock) ∧ some k_ ≠ (.slice Ao24 t286.length co24 : Value).ownBlock)) (n := t293.length) (c := co31) ?_).2.2; exact (by (with_reducible repeat (first | apply Kd.PB_alloc | apply Kd.PB_drewN | apply Kd.PB_drew)); exact (Kd.PB_mono (Kd.PB_far (p := ⟨gb299, 3, none⟩) (Kd.PB_far (p := ⟨gb299, 2, none⟩) (Kd.PB_far (p := ⟨gb299, 1, none⟩) (Kd.PB_far (p := ⟨gb299, 0, none⟩) (Kd.PB_types HO295.out BK299.out (by decide)) (fun _ hk => hk.2) (.int .i64 t291)) (fun _ hk => hk.2) (.int .i64 t292)) (fun _ hk => hk.2) (.slice Ao31 t293.length co31)) (fun _ hk => hk.2) (.slice Ao32 t296.length co32)) (fun _ h_ => h_.1)))); (case side2 => exact (Kd.PB_reads' HO295.out).2.1); (case side3 => refine (Kd.PB_reads' (b := false) (e := 3) (base := w.heap.size) (ok := fun k_ => ((((some k_ ≠ (.slice Ao31 t293.length co31 : Value).ownBlock ∧ some k_ ≠ (.slice Ao17 t275.length co17 : Value).ownBlock) ∧ some k_ ≠ (.slice Ao18 t278.length co18 : Value).ownBlock) ∧ some k_ ≠ (.slice Ao23 t283.length co23 : Value).ownBlock) ∧ some k_ ≠ (.slice Ao24 t286.length co24 : Value).ownBlock)) (n := t296.length) (c := co32) ?_).2.2; exact (by (with_reducible repeat (first | apply Kd.PB_alloc | apply Kd.PB_drewN | apply Kd.PB_drew)); exact (Kd.PB_mono (Kd.PB_far (p := ⟨gb299, 3, none⟩) (Kd.PB_far (p := ⟨gb299, 2, none⟩) (Kd.PB_far (p := ⟨gb299, 1, none⟩) (Kd.PB_far (p := ⟨gb299, 0, none⟩) (Kd.PB_types HO298.out BK299.out (by decide)) (fun _ hk => hk.2) (.int .i64 t291)) (fun _ hk => hk.2) (.int .i64 t292)) (fun _ hk => hk.2) (.slice Ao31 t293.length co31)) (fun _ hk => hk.2) (.slice Ao32 t296.length co32)) (fun _ h_ => h_.1)))); (case side4 => exact (Kd.PB_reads' HO298.out).2.1); (case side5 => first | exact LaidG_below HG.out (by repeat (first | (with_reducible first | exact HB.out | apply below_alloc | apply pw_below_drewN | apply below_drew1 | refine below_set ?_ GE271.out | refine below_set ?_ GE290.out | refine below_set ?_ GE299.out) | exact HB.out)) | (repeat (first | exact HG.out | (with_reducible refine LaidG_alloc ?_ _) | (with_reducible refine LaidG_drewN ?_ _) | (with_reducible refine LaidG_drew ?_)))); rintro e w33 ⟨v303, v306, rfl, ho0, ho1, hb⟩; refine ⟨_, rfl, ?_⟩; have n0_ := Aside0.mk (Kd.PB_mono (Kd.PB_told (Kd.PB_told (Kd.PB_old (by (with_reducible repeat (first | apply Kd.PB_alloc | apply Kd.PB_drewN | apply Kd.PB_drew)); exact (Kd.PB_mono (Kd.PB_far (p := ⟨gb299, 3, none⟩) (Kd.PB_far (p := ⟨gb299, 2, none⟩) (Kd.PB_far (p := ⟨gb299, 1, none⟩) (Kd.PB_far (p := ⟨gb299, 0, none⟩) (Kd.PB_types HO277.out BK299.out (by decide)) (fun _ hk => hk.2) (.int .i64 t291)) (fun _ hk => hk.2) (.int .i64 t292)) (fun _ hk => hk.2) (.slice Ao31 t293.length co31)) (fun _ hk => hk.2) (.slice Ao32 t296.length co32)) (fun _ h_ => h_.1))) hb) (Kd.R_base ho0)) (Kd.R_base ho1)) (fun _ h_ => h_.1)); have n1_ := Aside0.mk (Kd.PB_mono (Kd.PB_told (Kd.PB_told (Kd.PB_old (by (with_reducible repeat (first | apply Kd.PB_alloc | apply Kd.PB_drewN | apply Kd.PB_drew)); exact (Kd.PB_mono (Kd.PB_far (p := ⟨gb299, 3, none⟩) (Kd.PB_far (p := ⟨gb299, 2, none⟩) (Kd.PB_far (p := ⟨gb299, 1, none⟩) (Kd.PB_far (p := ⟨gb299, 0, none⟩) (Kd.PB_types HO280.out BK299.out (by decide)) (fun _ hk => hk.2) (.int .i64 t291)) (fun _ hk => hk.2) (.int .i64 t292)) (fun _ hk => hk.2) (.slice Ao31 t293.length co31)) (fun _ hk => hk.2) (.slice Ao32 t296.length co32)) (fun _ h_ => h_.1))) hb) (Kd.R_base ho0)) (Kd.R_base ho1)) (fun _ h_ => h_.1)); have n2_ := Aside0.mk (Kd.R_mono (Kd.R_told (Kd.R_told (Kd.R_old (by (with_reducible repeat (first | apply Kd.R_alloc | apply Kd.R_drewN | apply Kd.R_drew)); exact (Kd.R_mono (Kd.R_far (p := ⟨gb299, 3, none⟩) (Kd.R_far (p := ⟨gb299, 2, none⟩) (Kd.R_far (p := ⟨gb299, 1, none⟩) (Kd.R_far (p := ⟨gb299, 0, none⟩) (Kd.R_types HO285.out BK299.out (by decide)) (fun _ hk => hk.2) (.int .i64 t291)) (fun _ hk => hk.2) (.int .i64 t292)) (fun _ hk => hk.2) (.slice Ao31 t293.length co31)) (fun _ hk => hk.2) (.slice Ao32 t296.length co32)) (fun _ h_ => h_.1))) hb) (Kd.R_base ho0)) (Kd.R_base ho1)) (fun _ h_ => h_.1)); have n3_ := Aside0.mk (Kd.R_mono (Kd.R_told (Kd.R_told (Kd.R_old (by (with_reducible repeat (first | apply Kd.R_alloc | apply Kd.R_drewN | apply Kd.R_drew)); exact (Kd.R_mono (Kd.R_far (p := ⟨gb299, 3, none⟩) (Kd.R_far (p := ⟨gb299, 2, none⟩) (Kd.R_far (p := ⟨gb299, 1, none⟩) (Kd.R_far (p := ⟨gb299, 0, none⟩) (Kd.R_types HO288.out BK299.out (by decide)) (fun _ hk => hk.2) (.int .i64 t291)) (fun _ hk => hk.2) (.int .i64 t292)) (fun _ hk => hk.2) (.slice Ao31 t293.length co31)) (fun _ hk => hk.2) (.slice Ao32 t296.length co32)) (fun _ h_ => h_.1))) hb) (Kd.R_base ho0)) (Kd.R_base ho1)) (fun _ h_ => h_.1)); have n4_ := Aside0.mk (Kd.PB_mono (Kd.PB_told (Kd.PB_told (Kd.PB_old (by (with_reducible repeat (first | apply Kd.PB_alloc | apply Kd.PB_drewN | apply Kd.PB_drew)); exact (Kd.PB_mono (Kd.PB_far (p := ⟨gb299, 3, none⟩) (Kd.PB_far (p := ⟨gb299, 2, none⟩) (Kd.PB_far (p := ⟨gb299, 1, none⟩) (Kd.PB_far (p := ⟨gb299, 0, none⟩) (Kd.PB_types HO295.out BK299.out (by decide)) (fun _ hk => hk.2) (.int .i64 t291)) (fun _ hk => hk.2) (.int .i64 t292)) (fun _ hk => hk.2) (.slice Ao31 t293.length co31)) (fun _ hk => hk.2) (.slice Ao32 t296.length co32)) (fun _ h_ => h_.1))) hb) (Kd.R_base ho0)) (Kd.R_base ho1)) (fun _ h_ => h_.1)); have n5_ := Aside0.mk (Kd.PB_mono (Kd.PB_told (Kd.PB_told (Kd.PB_old (by (with_reducible repeat (first | apply Kd.PB_alloc | apply Kd.PB_drewN | apply Kd.PB_drew)); exact (Kd.PB_mono (Kd.PB_far (p := ⟨gb299, 3, none⟩) (Kd.PB_far (p := ⟨gb299, 2, none⟩) (Kd.PB_far (p := ⟨gb299, 1, none⟩) (Kd.PB_far (p := ⟨gb299, 0, none⟩) (Kd.PB_types HO298.out BK299.out (by decide)) (fun _ hk => hk.2) (.int .i64 t291)) (fun _ hk => hk.2) (.int .i64 t292)) (fun _ hk => hk.2) (.slice Ao31 t293.length co31)) (fun _ hk => hk.2) (.slice Ao32 t296.length co32)) (fun _ h_ => h_.1))) hb) (Kd.R_base ho0)) (Kd.R_base ho1)) (fun _ h_ => h_.1)); have n6_ := Aside0.mk (Kd.R_lower (Kd.R_new' (Kd.R_new' (Kd.R_new' (Kd.R_new' (Kd.R_new' (Kd.R_new' ho0 (Kd.PB_lt (by (with_reducible repeat (first | apply Kd.PB_alloc | apply Kd.PB_drewN | apply Kd.PB_drew)); exact (Kd.PB_mono (Kd.PB_far (p := ⟨gb299, 3, none⟩) (Kd.PB_far (p := ⟨gb299, 2, none⟩) (Kd.PB_far (p := ⟨gb299, 1, none⟩) (Kd.PB_far (p := ⟨gb299, 0, none⟩) (Kd.PB_types HO277.out BK299.out (by decide)) (fun _ hk => hk.2) (.int .i64 t291)) (fun _ hk => hk.2) (.int .i64 t292)) (fun _ hk => hk.2) (.slice Ao31 t293.length co31)) (fun _ hk => hk.2) (.slice Ao32 t296.length co32)) (fun _ h_ => h_.1))))) (Kd.PB_lt (by (with_reducible repeat (first | apply Kd.PB_alloc | apply Kd.PB_drewN | apply Kd.PB_drew)); exact (Kd.PB_mono (Kd.PB_far (p := ⟨gb299, 3, none⟩) (Kd.PB_far (p := ⟨gb299, 2, none⟩) (Kd.PB_far (p := ⟨gb299, 1, none⟩) (Kd.PB_far (p := ⟨gb299, 0, none⟩) (Kd.PB_types HO280.out BK299.out (by decide)) (fun _ hk => hk.2) (.int .i64 t291)) (fun _ hk => hk.2) (.int .i64 t292)) (fun _ hk => hk.2) (.slice Ao31 t293.length co31)) (fun _ hk => hk.2) (.slice Ao32 t296.length co32)) (fun _ h_ => h_.1))))) (Kd.R_lt (by (with_reducible repeat (first | apply Kd.R_alloc | apply Kd.R_drewN | apply Kd.R_drew)); exact (Kd.R_mono (Kd.R_far (p := ⟨gb299, 3, none⟩) (Kd.R_far (p := ⟨gb299, 2, none⟩) (Kd.R_far (p := ⟨gb299, 1, none⟩) (Kd.R_far (p := ⟨gb299, 0, none⟩) (Kd.R_types HO285.out BK299.out (by decide)) (fun _ hk => hk.2) (.int .i64 t291)) (fun _ hk => hk.2) (.int .i64 t292)) (fun _ hk => hk.2) (.slice Ao31 t293.length co31)) (fun _ hk => hk.2) (.slice Ao32 t296.length co32)) (fun _ h_ => h_.1))))) (Kd.R_lt (by (with_reducible repeat (first | apply Kd.R_alloc | apply Kd.R_drewN | apply Kd.R_drew)); exact (Kd.R_mono (Kd.R_far (p := ⟨gb299, 3, none⟩) (Kd.R_far (p := ⟨gb299, 2, none⟩) (Kd.R_far (p := ⟨gb299, 1, none⟩) (Kd.R_far (p := ⟨gb299, 0, none⟩) (Kd.R_types HO288.out BK299.out (by decide)) (fun _ hk => hk.2) (.int .i64 t291)) (fun _ hk => hk.2) (.int .i64 t292)) (fun _ hk => hk.2) (.slice Ao31 t293.length co31)) (fun _ hk => hk.2) (.slice Ao32 t296.length co32)) (fun _ h_ => h_.1))))) (Kd.PB_lt (by (with_reducible repeat (first | apply Kd.PB_alloc | apply Kd.PB_drewN | apply Kd.PB_drew)); exact (Kd.PB_mono (Kd.PB_far (p := ⟨gb299, 3, none⟩) (Kd.PB_far (p := ⟨gb299, 2, none⟩) (Kd.PB_far (p := ⟨gb299, 1, none⟩) (Kd.PB_far (p := ⟨gb299, 0, none⟩) (Kd.PB_types HO295.out BK299.out (by decide)) (fun _ hk => hk.2) (.int .i64 t291)) (fun _ hk => hk.2) (.int .i64 t292)) (fun _ hk => hk.2) (.slice Ao31 t293.length co31)) (fun _ hk => hk.2) (.slice Ao32 t296.length co32)) (fun _ h_ => h_.1))))) (Kd.PB_lt (by (with_reducible repeat (first | apply Kd.PB_alloc | apply Kd.PB_drewN | apply Kd.PB_drew)); exact (Kd.PB_mono (Kd.PB_far (p := ⟨gb299, 3, none⟩) (Kd.PB_far (p := ⟨gb299, 2, none⟩) (Kd.PB_far (p := ⟨gb299, 1, none⟩) (Kd.PB_far (p := ⟨gb299, 0, none⟩) (Kd.PB_types HO298.out BK299.out (by decide)) (fun _ hk => hk.2) (.int .i64 t291)) (fun _ hk => hk.2) (.int .i64 t292)) (fun _ hk => hk.2) (.slice Ao31 t293.length co31)) (fun _ hk => hk.2) (.slice Ao32 t296.length co32)) (fun _ h_ => h_.1))))) (below_size (by repeat (first | (with_reducible first | exact HB.out | apply below_alloc | apply pw_below_drewN | apply below_drew1 | refine below_set ?_ GE271.out | refine below_set ?_ GE290.out | refine below_set ?_ GE299.out) | exact HB.out)))); have n7_ := Aside0.mk (Kd.R_lower (Kd.R_new' (Kd.R_new' (Kd.R_new' (Kd.R_new' (Kd.R_new' (Kd.R_new' ho1 (Kd.PB_lt (by (with_reducible repeat (first | apply Kd.PB_alloc | apply Kd.PB_drewN | apply Kd.PB_drew)); exact (Kd.PB_mono (Kd.PB_far (p := ⟨gb299, 3, none⟩) (Kd.PB_far (p := ⟨gb299, 2, none⟩) (Kd.PB_far (p := ⟨gb299, 1, none⟩) (Kd.PB_far (p := ⟨gb299, 0, none⟩) (Kd.PB_types HO277.out BK299.out (by decide)) (fun _ hk => hk.2) (.int .i64 t291)) (fun _ hk => hk.2) (.int .i64 t292)) (fun _ hk => hk.2) (.slice Ao31 t293.length co31)) (fun _ hk => hk.2) (.slice Ao32 t296.length co32)) (fun _ h_ => h_.1))))) (Kd.PB_lt (by (with_reducible repeat (first | apply Kd.PB_alloc | apply Kd.PB_drewN | apply Kd.PB_drew)); exact (Kd.PB_mono (Kd.PB_far (p := ⟨gb299, 3, none⟩) (Kd.PB_far (p := ⟨gb299, 2, none⟩) (Kd.PB_far (p := ⟨gb299, 1, none⟩) (Kd.PB_far (p := ⟨gb299, 0, none⟩) (Kd.PB_types HO280.out BK299.out (by decide)) (fun _ hk => hk.2) (.int .i64 t291)) (fun _ hk => hk.2) (.int .i64 t292)) (fun _ hk => hk.2) (.slice Ao31 t293.length co31)) (fun _ hk => hk.2) (.slice Ao32 t296.length co32)) (fun _ h_ => h_.1))))) (Kd.R_lt (by (with_reducible repeat (first | apply Kd.R_alloc | apply Kd.R_drewN | apply Kd.R_drew)); exact (Kd.R_mono (Kd.R_far (p := ⟨gb299, 3, none⟩) (Kd.R_far (p := ⟨gb299, 2, none⟩) (Kd.R_far (p := ⟨gb299, 1, none⟩) (Kd.R_far (p := ⟨gb299, 0, none⟩) (Kd.R_types HO285.out BK299.out (by decide)) (fun _ hk => hk.2) (.int .i64 t291)) (fun _ hk => hk.2) (.int .i64 t292)) (fun _ hk => hk.2) (.slice Ao31 t293.length co31)) (fun _ hk => hk.2) (.slice Ao32 t296.length co32)) (fun _ h_ => h_.1))))) (Kd.R_lt (by (with_reducible repeat (first | apply Kd.R_alloc | apply Kd.R_drewN | apply Kd.R_drew)); exact (Kd.R_mono (Kd.R_far (p := ⟨gb299, 3, none⟩) (Kd.R_far (p := ⟨gb299, 2, none⟩) (Kd.R_far (p := ⟨gb299, 1, none⟩) (Kd.R_far (p := ⟨gb299, 0, none⟩) (Kd.R_types HO288.out BK299.out (by decide)) (fun _ hk => hk.2) (.int .i64 t291)) (fun _ hk => hk.2) (.int .i64 t292)) (fun _ hk => hk.2) (.slice Ao31 t293.length co31)) (fun _ hk => hk.2) (.slice Ao32 t296.length co32)) (fun _ h_ => h_.1))))) (Kd.PB_lt (by (with_reducible repeat (first | apply Kd.PB_alloc | apply Kd.PB_drewN | apply Kd.PB_drew)); exact (Kd.PB_mono (Kd.PB_far (p := ⟨gb299, 3, none⟩) (Kd.PB_far (p := ⟨gb299, 2, none⟩) (Kd.PB_far (p := ⟨gb299, 1, none⟩) (Kd.PB_far (p := ⟨gb299, 0, none⟩) (Kd.PB_types HO295.out BK299.out (by decide)) (fun _ hk => hk.2) (.int .i64 t291)) (fun _ hk => hk.2) (.int .i64 t292)) (fun _ hk => hk.2) (.slice Ao31 t293.length co31)) (fun _ hk => hk.2) (.slice Ao32 t296.length co32)) (fun _ h_ => h_.1))))) (Kd.PB_lt (by (with_reducible repeat (first | apply Kd.PB_alloc | apply Kd.PB_drewN | apply Kd.PB_drew)); exact (Kd.PB_mono (Kd.PB_far (p := ⟨gb299, 3, none⟩) (Kd.PB_far (p := ⟨gb299, 2, none⟩) (Kd.PB_far (p := ⟨gb299, 1, none⟩) (Kd.PB_far (p := ⟨gb299, 0, none⟩) (Kd.PB_types HO298.out BK299.out (by decide)) (fun _ hk => hk.2) (.int .i64 t291)) (fun _ hk => hk.2) (.int .i64 t292)) (fun _ hk => hk.2) (.slice Ao31 t293.length co31)) (fun _ hk => hk.2) (.slice Ao32 t296.length co32)) (fun _ h_ => h_.1))))) (below_size (by repeat (first | (with_reducible first | exact HB.out | apply below_alloc | apply pw_below_drewN | apply below_drew1 | refine below_set ?_ GE271.out | refine below_set ?_ GE290.out | refine below_set ?_ GE299.out) | exact HB.out)))); have n8_ := Aside0.mk (blk_below (g := gb271) (o := .cells #[.int .i64 a0_0, .int .i64 a0_1, .slice A0_2 l0_2.length c0_2, .slice A0_3 l0_3.length c0_3] 24 (0, 0)) (by (with_reducible repeat (first | refine blk_drewN ?_ _ | refine blk_drew ?_ | refine blk_alloc ?_ _)); refine blk_far ?_ NB271_299.out _; (with_reducible repeat (first | refine blk_drewN ?_ _ | refine blk_drew ?_ | refine blk_alloc ?_ _)); refine blk_far ?_ NB271_299.out _; (with_reducible repeat (first | refine blk_drewN ?_ _ | refine blk_drew ?_ | refine blk_alloc ?_ _)); refine blk_far ?_ NB271_299.out _; (with_reducible repeat (first | refine blk_drewN ?_ _ | refine blk_drew ?_ | refine blk_alloc ?_ _)); refine blk_far ?_ NB271_299.out _; (with_reducible repeat (first | refine blk_drewN ?_ _ | refine blk_drew ?_ | refine blk_alloc ?_ _)); exact BK271.out) hb); have n9_ := Aside0.mk (blk_below (g := gb290) (o := .cells #[.int .i64 t281, .int .i64 t282, .slice Ao23 t283.length co23, .slice Ao24 t286.length co24] 26 (0, 0)) (by (with_reducible repeat (first | refine blk_drewN ?_ _ | refine blk_drew ?_ | refine blk_alloc ?_ _)); refine blk_far ?_ NB290_299.out _; (with_reducible repeat (first | refine blk_drewN ?_ _ | refine blk_drew ?_ | refine blk_alloc ?_ _)); refine blk_far ?_ NB290_299.out _; (with_reducible repeat (first | refine blk_drewN ?_ _ | refine blk_drew ?_ | refine blk_alloc ?_ _)); refine blk_far ?_ NB290_299.out _; (with_reducible repeat (first | refine blk_drewN ?_ _ | refine blk_drew ?_ | refine blk_alloc ?_ _)); refine blk_far ?_ NB290_299.out _; (with_reducible repeat (first | refine blk_drewN ?_ _ | refine blk_drew ?_ | refine blk_alloc ?_ _)); exact BK290.out) hb); have n10_ := Aside0.mk (blk_below (g := gb299) (o := .cells #[.int .i64 t291, .int .i64 t292, .slice Ao31 t293.length co31, .slice Ao32 t296.length co32] 26 (0, 0)) (by (with_reducible repeat (first | refine blk_drewN ?_ _ | refine blk_drew ?_ | refine blk_alloc ?_ _)); refine blk_put (cs := #[.int .i64 t291, .int .i64 t292, .slice Ao31 t293.length co31, .slice none 0 0]) ?_ 3 _ rfl; (with_reducible repeat (first | refine blk_drewN ?_ _ | refine blk_drew ?_ | refine blk_alloc ?_ _)); refine blk_put (cs := #[.int .i64 t291, .int .i64 t292, .slice none 0 0, .slice none 0 0]) ?_ 2 _ rfl; (with_reducible repeat (first | refine blk_drewN ?_ _ | refine blk_drew ?_ | refine blk_alloc ?_ _)); refine blk_put (cs := #[.int .i64 t291, .int .i64 0, .slice none 0 0, .slice none 0 0]) ?_ 1 _ rfl; (with_reducible repeat (first | refine blk_drewN ?_ _ | refine blk_drew ?_ | refine blk_alloc ?_ _)); refine blk_put (cs := #[.int .i64 0, .int .i64 0, .slice none 0 0, .slice none 0 0]) ?_ 0 _ rfl; (with_reducible repeat (first | refine blk_drewN ?_ _ | refine blk_drew ?_ | refine blk_alloc ?_ _)); exact BK299.out) hb); have n11_ := Aside0.mk (below_step (by repeat (first | (with_reducible first | exact HB.out | apply below_alloc | apply pw_below_drewN | apply below_drew1 | refine below_set ?_ GE271.out | refine below_set ?_ GE290.out | refine below_set ?_ GE299.out) | exact HB.out)) hb); clear HO277; clear HO280; clear HO285; clear HO288; clear HO295; clear HO298; clear BK271; clear BK290; clear BK299; clear HB; have HO277 := n0_; have HO280 := n1_; have HO285 := n2_; have HO288 := n3_; have HO295 := n4_; have HO298 := n5_; have HO304 := n6_; have HO307 := n7_; have BK271 := n8_; have BK290 := n9_; have BK299 := n10_; have HB := n11_; clear n0_ n1_ n2_ n3_ n4_ n5_ n6_ n7_ n8_ n9_ n10_ n11_; (try clear hb); (try clear hb2); (try clear hk); (try clear hi); (try clear ho0); (try clear ho1)) | ((with_reducible refine gate_dst (N := 7) rfl ?_); refine box_event ?hg (N := 7) ?hd (cs := #[.int .i64 0, .int .i64 0, .slice none 0 0, .slice none 0 0]) (t := 26) ?hr ?_; (case hd => rfl); (case hg => rfl); (case hr => first | (go_simp; done) | (go_simp; rfl)); intro gb309 hg w34 hbox hb; have n0_ := Aside0.mk (Kd.PB_below (by (with_reducible repeat (first | apply Kd.PB_alloc | apply Kd.PB_drewN | apply Kd.PB_drew)); exact HO277.out) hb); have n1_ := Aside0.mk (Kd.PB_below (by (with_reducible repeat (first | apply Kd.PB_alloc | apply Kd.PB_drewN | apply Kd.PB_drew)); exact HO280.out) hb); have n2_ := Aside0.mk (Kd.R_below (by (with_reducible repeat (first | apply Kd.R_alloc | apply Kd.R_drewN | apply Kd.R_drew)); exact HO285.out) hb); have n3_ := Aside0.mk (Kd.R_below (by (with_reducible repeat (first | apply Kd.R_alloc | apply Kd.R_drewN | apply Kd.R_drew)); exact HO288.out) hb); have n4_ := Aside0.mk (Kd.PB_below (by (with_reducible repeat (first | apply Kd.PB_alloc | apply Kd.PB_drewN | apply Kd.PB_drew)); exact HO295.out) hb); have n5_ := Aside0.mk (Kd.PB_below (by (with_reducible repeat (first | apply Kd.PB_alloc | apply Kd.PB_drewN | apply Kd.PB_drew)); exact HO298.out) hb); have n6_ := Aside0.mk (Kd.R_below (by (with_reducible repeat (first | apply Kd.R_alloc | apply Kd.R_drewN | apply Kd.R_drew)); exact HO304.out) hb); have n7_ := Aside0.mk (Kd.R_below (by (with_reducible repeat (first | apply Kd.R_alloc | apply Kd.R_drewN | apply Kd.R_drew)); exact HO307.out) hb); have n8_ := Aside0.mk (blk_below (g := gb271) (o := .cells #[.int .i64 a0_0, .int .i64 a0_1, .slice A0_2 l0_2.length c0_2, .slice A0_3 l0_3.length c0_3] 24 (0, 0)) (by (with_reducible repeat (first | refine blk_drewN ?_ _ | refine blk_drew ?_ | refine blk_alloc ?_ _)); exact BK271.out) hb); have n9_ := Aside0.mk (blk_below (g := gb290) (o := .cells #[.int .i64 t281, .int .i64 t282, .slice Ao23 t283.length co23, .slice Ao24 t286.length co24] 26 (0, 0)) (by (with_reducible repeat (first | refine blk_drewN ?_ _ | refine blk_drew ?_ | refine blk_alloc ?_ _)); exact BK290.out) hb); have n10_ := Aside0.mk (blk_below (g := gb299) (o := .cells #[.int .i64 t291, .int .i64 t292, .slice Ao31 t293.length co31, .slice Ao32 t296.length co32] 26 (0, 0)) (by (with_reducible repeat (first | refine blk_drewN ?_ _ | refine blk_drew ?_ | refine blk_alloc ?_ _)); exact BK299.out) hb); have n11_ := Aside0.mk (below_step (by repeat (first | (with_reducible first | exact HB.out | apply below_alloc | apply pw_below_drewN | apply below_drew1 | refine below_set ?_ GE271.out | refine below_set ?_ GE290.out | refine below_set ?_ GE299.out) | exact HB.out)) hb); have n12_ := Aside0.mk (hbox); have n13_ := Aside0.mk ((by rw [hg]; exact (below_size (by repeat (first | (with_reducible first | exact HB.out | apply below_alloc | apply pw_below_drewN | apply below_drew1 | refine below_set ?_ GE271.out | refine below_set ?_ GE290.out | refine below_set ?_ GE299.out) | exact HB.out))) : w.heap.size ≤ gb309)); have n14_ := Aside0.mk ((by rw [hg]; exact (below_size (by repeat (first | (with_reducible first | exact HB.out | apply below_alloc | apply pw_below_drewN | apply below_drew1 | refine below_set ?_ GE271.out | refine below_set ?_ GE290.out | refine below_set ?_ GE299.out) | exact HB.out))) : w.heap.size ≤ gb309)); have n15_ := Aside0.mk ((by rw [hg]; exact Nat.ne_of_lt (blk_lt (g := gb271) (o := .cells #[.int .i64 a0_0, .int .i64 a0_1, .slice A0_2 l0_2.length c0_2, .slice A0_3 l0_3.length c0_3] 24 (0, 0)) (by (with_reducible repeat (first | refine blk_drewN ?_ _ | refine blk_drew ?_ | refine blk_alloc ?_ _)); exact BK271.out)) : gb271 ≠ gb309)); have n16_ := Aside0.mk ((by rw [hg]; exact Nat.ne_of_gt (blk_lt (g := gb271) (o := .cells #[.int .i64 a0_0, .int .i64 a0_1, .slice A0_2 l0_2.length c0_2, .slice A0_3 l0_3.length c0_3] 24 (0, 0)) (by (with_reducible repeat (first | refine blk_drewN ?_ _ | refine blk_drew ?_ | refine blk_alloc ?_ _)); exact BK271.out)) : gb309 ≠ gb271)); have n17_ := Aside0.mk ((by rw [hg]; exact Nat.ne_of_lt (blk_lt (g := gb290) (o := .cells #[.int .i64 t281, .int .i64 t282, .slice Ao23 t283.length co23, .slice Ao24 t286.length co24] 26 (0, 0)) (by (with_reducible repeat (first | refine blk_drewN ?_ _ | refine blk_drew ?_ | refine blk_alloc ?_ _)); exact BK290.out)) : gb290 ≠ gb309)); have n18_ := Aside0.mk ((by rw [hg]; exact Nat.ne_of_gt (blk_lt (g := gb290) (o := .cells #[.int .i64 t281, .int .i64 t282, .slice Ao23 t283.length co23, .slice Ao24 t286.length co24] 26 (0, 0)) (by (with_reducible repeat (first | refine blk_drewN ?_ _ | refine blk_drew ?_ | refine blk_alloc ?_ _)); exact BK290.out)) : gb309 ≠ gb290)); have n19_ := Aside0.mk ((by rw [hg]; exact Nat.ne_of_lt (blk_lt (g := gb299) (o := .cells #[.int .i64 t291, .int .i64 t292, .slice Ao31 t293.length co31, .slice Ao32 t296.length co32] 26 (0, 0)) (by (with_reducible repeat (first | refine blk_drewN ?_ _ | refine blk_drew ?_ | refine blk_alloc ?_ _)); exact BK299.out)) : gb299 ≠ gb309)); have n20_ := Aside0.mk ((by rw [hg]; exact Nat.ne_of_gt (blk_lt (g := gb299) (o := .cells #[.int .i64 t291, .int .i64 t292, .slice Ao31 t293.length co31, .slice Ao32 t296.length co32] 26 (0, 0)) (by (with_reducible repeat (first | refine blk_drewN ?_ _ | refine blk_drew ?_ | refine blk_alloc ?_ _)); exact BK299.out)) : gb309 ≠ gb299)); clear HO277; clear HO280; clear HO285; clear HO288; clear HO295; clear HO298; clear HO304; clear HO307; clear BK271; clear BK290; clear BK299; clear HB; have HO277 := n0_; have HO280 := n1_; have HO285 := n2_; have HO288 := n3_; have HO295 := n4_; have HO298 := n5_; have HO304 := n6_; have HO307 := n7_; have BK271 := n8_; have BK290 := n9_; have BK299 := n10_; have HB := n11_; have BK309 := n12_; have GW309 := n13_; have GE309 := n14_; have NB271_309 := n15_; have NB309_271 := n16_; have NB290_309 := n17_; have NB309_290 := n18_; have NB299_309 := n19_; have NB309_299 := n20_; clear n0_ n1_ n2_ n3_ n4_ n5_ n6_ n7_ n8_ n9_ n10_ n11_ n12_ n13_ n14_ n15_ n16_ n17_ n18_ n19_ n20_; clear hb hbox hg; have hnb35 := NB309_271.out; have hnc35 := NB271_309.out; have hnb36 := NB309_290.out; have hnc36 := NB290_309.out; have hnb37 := NB309_299.out; have hnc37 := NB299_309.out; have hcz38_0 : w34.cell? ⟨gb309, 0, none⟩ = some (.int .i64 0) := (blk_cell BK309.out 0).trans rfl; have hcz38_1 : w34.cell? ⟨gb309, 1, none⟩ = some (.int .i64 0) := (blk_cell BK309.out 1).trans rfl; have hcz38_2 : w34.cell? ⟨gb309, 2, none⟩ = some (.slice none 0 0) := (blk_cell BK309.out 2).trans rfl; have hcz38_3 : w34.cell? ⟨gb309, 3, none⟩ = some (.slice none 0 0) := (blk_cell BK309.out 3).trans rfl; have hfz38_0 := blk_frozen BK309.out 0; have hfz38_1 := blk_frozen BK309.out 1; have hfz38_2 := blk_frozen BK309.out 2; have hfz38_3 := blk_frozen BK309.out 3; obtain ⟨Ao39, co39, eo39⟩ := Kd.R_slice HO304.out; subst eo39; obtain ⟨Ao40, co40, eo40⟩ := Kd.R_slice HO307.out; subst eo40))
  (try simp only [Act.put, List.setIfInBounds_toArray, List.set_cons_zero, List.set_cons_succ])
  go_cut [40] (fun v40 wc => ∃ (kq : Nat) (x40_10 : Bool), v40 = .bool x40_10 ∧ Aside0 (laws_FnExactMissingFigure.j0 kq t289 t308 x40_10 a0_0 a0_1 l0_2 l0_3 t281 t282 t283 t286 t291 t292 t293 t296 t300 t301 t302 t305 = some r) ∧ Aside0 (kq ≤ k) ∧ Aside0 (Kd.R (Kd.int .i64) 3 wc w.heap.size (fun k_ => some k_ ≠ ((.slice Ao24 t286.length co24) : Value).ownBlock ∧ some k_ ≠ ((.slice Ao31 t293.length co31) : Value).ownBlock ∧ some k_ ≠ ((.slice Ao32 t296.length co32) : Value).ownBlock ∧ some k_ ≠ ((.slice Ao39 t302.length co39) : Value).ownBlock ∧ some k_ ≠ ((.slice Ao40 t305.length co40) : Value).ownBlock) (.slice Ao23 t283.length co23) t283) ∧ Aside0 (Kd.R (Kd.int .i64) 3 wc w.heap.size (fun k_ => some k_ ≠ ((.slice Ao23 t283.length co23) : Value).ownBlock ∧ some k_ ≠ ((.slice Ao31 t293.length co31) : Value).ownBlock ∧ some k_ ≠ ((.slice Ao32 t296.length co32) : Value).ownBlock ∧ some k_ ≠ ((.slice Ao39 t302.length co39) : Value).ownBlock ∧ some k_ ≠ ((.slice Ao40 t305.length co40) : Value).ownBlock) (.slice Ao24 t286.length co24) t286) ∧ Aside0 (Kd.PB false (Kd.int .i64) 3 wc w.heap.size (fun k_ => some k_ ≠ ((.slice Ao23 t283.length co23) : Value).ownBlock ∧ some k_ ≠ ((.slice Ao24 t286.length co24) : Value).ownBlock ∧ some k_ ≠ ((.slice Ao32 t296.length co32) : Value).ownBlock ∧ some k_ ≠ ((.slice Ao39 t302.length co39) : Value).ownBlock ∧ some k_ ≠ ((.slice Ao40 t305.length co40) : Value).ownBlock) (.slice Ao31 t293.length co31) t293) ∧ Aside0 (Kd.PB false (Kd.int .i64) 3 wc w.heap.size (fun k_ => some k_ ≠ ((.slice Ao23 t283.length co23) : Value).ownBlock ∧ some k_ ≠ ((.slice Ao24 t286.length co24) : Value).ownBlock ∧ some k_ ≠ ((.slice Ao31 t293.length co31) : Value).ownBlock ∧ some k_ ≠ ((.slice Ao39 t302.length co39) : Value).ownBlock ∧ some k_ ≠ ((.slice Ao40 t305.length co40) : Value).ownBlock) (.slice Ao32 t296.length co32) t296) ∧ Aside0 (Kd.R (Kd.int .i64) 3 wc w.heap.size (fun k_ => some k_ ≠ ((.slice Ao23 t283.length co23) : Value).ownBlock ∧ some k_ ≠ ((.slice Ao24 t286.length co24) : Value).ownBlock ∧ some k_ ≠ ((.slice Ao31 t293.length co31) : Value).ownBlock ∧ some k_ ≠ ((.slice Ao32 t296.length co32) : Value).ownBlock ∧ some k_ ≠ ((.slice Ao40 t305.length co40) : Value).ownBlock) (.slice Ao39 t302.length co39) t302) ∧ Aside0 (Kd.R (Kd.int .i64) 3 wc w.heap.size (fun k_ => some k_ ≠ ((.slice Ao23 t283.length co23) : Value).ownBlock ∧ some k_ ≠ ((.slice Ao24 t286.length co24) : Value).ownBlock ∧ some k_ ≠ ((.slice Ao31 t293.length co31) : Value).ownBlock ∧ some k_ ≠ ((.slice Ao32 t296.length co32) : Value).ownBlock ∧ some k_ ≠ ((.slice Ao39 t302.length co39) : Value).ownBlock) (.slice Ao40 t305.length co40) t305) ∧ Aside0 (wc.heap[gb271]? = some (.cells #[.int .i64 a0_0, .int .i64 a0_1, (.slice A0_2 l0_2.length c0_2), (.slice A0_3 l0_3.length c0_3)] 24 (0, 0))) ∧ Aside0 (wc.heap[gb290]? = some (.cells #[.int .i64 t281, .int .i64 t282, (.slice Ao23 t283.length co23), (.slice Ao24 t286.length co24)] 26 (0, 0))) ∧ Aside0 (wc.heap[gb299]? = some (.cells #[.int .i64 t291, .int .i64 t292, (.slice Ao31 t293.length co31), (.slice Ao32 t296.length co32)] 26 (0, 0))) ∧ Aside0 (wc.heap[gb309]? = some (.cells #[.int .i64 t300, .int .i64 t301, (.slice Ao39 t302.length co39), (.slice Ao40 t305.length co40)] 26 (0, 0))) ∧ Aside0 (Below w.heap.size w wc))
  case first =>
   have H := HC11.out
   clear HC11
   replace H := Option.bind_eq_some_iff.mp H
   obtain ⟨t310, A410, H⟩ := H
   replace H : (if t310 = true then (laws_FnExactMissingFigure.j0 k t289 t308 (t308 != t289) a0_0 a0_1 l0_2 l0_3 t281 t282 t283 t286 t291 t292 t293 t296 t300 t301 t302 t305) else (laws_FnExactMissingFigure.j0 k t289 t308 true a0_0 a0_1 l0_2 l0_3 t281 t282 t283 t286 t291 t292 t293 t296 t300 t301 t302 t305)) = some r := H
   have A41 := Aside0.mk A410
   clear A410
   by_cases c42 : t310 = true
   ·subst c42
    have H1 : (laws_FnExactMissingFigure.j0 k t289 t308 (t308 != t289) a0_0 a0_1 l0_2 l0_3 t281 t282 t283 t286 t291 t292 t293 t296 t300 t301 t302 t305) = some r := by rw [if_pos rfl] at H; exact H
    clear H
    have H := H1
    clear H1
    have H' := Aside0.mk H
    clear H
    have hnb43 := NB309_271.out
    have hnc43 := NB271_309.out
    have hnb44 := NB309_290.out
    have hnc44 := NB290_309.out
    have hnb45 := NB309_299.out
    have hnc45 := NB299_309.out
    have hcz46_0 : w34.cell? ⟨gb309, 0, none⟩ = some (.int .i64 0) := (blk_cell BK309.out 0).trans rfl
    have hcz46_1 : w34.cell? ⟨gb309, 1, none⟩ = some (.int .i64 0) := (blk_cell BK309.out 1).trans rfl
    have hcz46_2 : w34.cell? ⟨gb309, 2, none⟩ = some (.slice none 0 0) := (blk_cell BK309.out 2).trans rfl
    have hcz46_3 : w34.cell? ⟨gb309, 3, none⟩ = some (.slice none 0 0) := (blk_cell BK309.out 3).trans rfl
    have hfz46_0 := blk_frozen BK309.out 0
    have hfz46_1 := blk_frozen BK309.out 1
    have hfz46_2 := blk_frozen BK309.out 2
    have hfz46_3 := blk_frozen BK309.out 3
    have hnb47 := NB290_271.out
    have hnc47 := NB271_290.out
    have hnb48 := NB290_299.out
    have hnc48 := NB299_290.out
    have hcz49_0 : w34.cell? ⟨gb290, 0, none⟩ = some (.int .i64 t281) := (blk_cell BK290.out 0).trans rfl
    have hcz49_1 : w34.cell? ⟨gb290, 1, none⟩ = some (.int .i64 t282) := (blk_cell BK290.out 1).trans rfl
    have hcz49_2 : w34.cell? ⟨gb290, 2, none⟩ = some (.slice Ao23 t283.length co23) := (blk_cell BK290.out 2).trans rfl
    have hcz49_3 : w34.cell? ⟨gb290, 3, none⟩ = some (.slice Ao24 t286.length co24) := (blk_cell BK290.out 3).trans rfl
    have hfz49_0 := blk_frozen BK290.out 0
    have hfz49_1 := blk_frozen BK290.out 1
    have hfz49_2 := blk_frozen BK290.out 2
    have hfz49_3 := blk_frozen BK290.out 3
    go_wp2_with (first | ((with_reducible refine gate_callee (f := 14) rfl ?_); refine goesL_ (some 34) rfl rfl Tryd.func14 (by kernel_rfl) rfl #[.agg #[.int .i64 t300, .int .i64 t301, .slice Ao39 t302.length co39, .slice Ao40 t305.length co40], .agg #[.int .i64 t281, .int .i64 t282, .slice Ao23 t283.length co23, .slice Ao24 t286.length co24]] rfl (by (try simp only [List.map_toArray, List.map_cons, List.map_nil]); first | done | rfl | (simp only [List.length_drop, List.length_take]; rfl)) ?_; (with_reducible refine (laws_eqFigure.calls k t300 t301 _ _ t302 _ _ t305 t281 t282 _ _ t283 _ _ t286 true _ ?side1 ?side2 ?side3 ?side4 ?side5 ?side6 ?side7 ?side8 A41.out).mono ?_); (case side1 => refine (Kd.R_reads' (e := 3) (base := w.heap.size) (ok := fun k_ => ((((((some k_ ≠ (.slice Ao40 t305.length co40 : Value).ownBlock ∧ some k_ ≠ (.slice Ao17 t275.length co17 : Value).ownBlock) ∧ some k_ ≠ (.slice Ao18 t278.length co18 : Value).ownBlock) ∧ some k_ ≠ (.slice Ao23 t283.length co23 : Value).ownBlock) ∧ some k_ ≠ (.slice Ao24 t286.length co24 : Value).ownBlock) ∧ some k_ ≠ (.slice Ao31 t293.length co31 : Value).ownBlock) ∧ some k_ ≠ (.slice Ao32 t296.length co32 : Value).ownBlock)) (n := t302.length) (c := co39) ?_).2.2; exact (by (with_reducible repeat (first | apply Kd.R_alloc | apply Kd.R_drewN | apply Kd.R_drew)); exact (Kd.R_mono (Kd.R_far (p := ⟨gb309, 3, none⟩) (Kd.R_far (p := ⟨gb309, 2, none⟩) (Kd.R_far (p := ⟨gb309, 1, none⟩) (Kd.R_far (p := ⟨gb309, 0, none⟩) (Kd.R_types HO304.out BK309.out (by decide)) (fun _ hk => hk.2) (.int .i64 t300)) (fun _ hk => hk.2) (.int .i64 t301)) (fun _ hk => hk.2) (.slice Ao39 t302.length co39)) (fun _ hk => hk.2) (.slice Ao40 t305.length co40)) (fun _ h_ => h_.1)))); (case side2 => exact (Kd.R_reads' HO304.out).2.1); (case side3 => refine (Kd.R_reads' (e := 3) (base := w.heap.size) (ok := fun k_ => ((((((some k_ ≠ (.slice Ao39 t302.length co39 : Value).ownBlock ∧ some k_ ≠ (.slice Ao17 t275.length co17 : Value).ownBlock) ∧ some k_ ≠ (.slice Ao18 t278.length co18 : Value).ownBlock) ∧ some k_ ≠ (.slice Ao23 t283.length co23 : Value).ownBlock) ∧ some k_ ≠ (.slice Ao24 t286.length co24 : Value).ownBlock) ∧ some k_ ≠ (.slice Ao31 t293.length co31 : Value).ownBlock) ∧ some k_ ≠ (.slice Ao32 t296.length co32 : Value).ownBlock)) (n := t305.length) (c := co40) ?_).2.2; exact (by (with_reducible repeat (first | apply Kd.R_alloc | apply Kd.R_drewN | apply Kd.R_drew)); exact (Kd.R_mono (Kd.R_far (p := ⟨gb309, 3, none⟩) (Kd.R_far (p := ⟨gb309, 2, none⟩) (Kd.R_far (p := ⟨gb309, 1, none⟩) (Kd.R_far (p := ⟨gb309, 0, none⟩) (Kd.R_types HO307.out BK309.out (by decide)) (fun _ hk => hk.2) (.int .i64 t300)) (fun _ hk => hk.2) (.int .i64 t301)) (fun _ hk => hk.2) (.slice Ao39 t302.length co39)) (fun _ hk => hk.2) (.slice Ao40 t305.length co40)) (fun _ h_ => h_.1)))); (case side4 => exact (Kd.R_reads' HO307.out).2.1); (case side5 => refine (Kd.R_reads' (e := 3) (base := w.heap.size) (ok := fun k_ => ((((((some k_ ≠ (.slice Ao24 t286.length co24 : Value).ownBlock ∧ some k_ ≠ (.slice Ao17 t275.length co17 : Value).ownBlock) ∧ some k_ ≠ (.slice Ao18 t278.length co18 : Value).ownBlock) ∧ some k_ ≠ (.slice Ao31 t293.length co31 : Value).ownBlock) ∧ some k_ ≠ (.slice Ao32 t296.length co32 : Value).ownBlock) ∧ some k_ ≠ (.slice Ao39 t302.length co39 : Value).ownBlock) ∧ some k_ ≠ (.slice Ao40 t305.length co40 : Value).ownBlock)) (n := t283.length) (c := co23) ?_).2.2; exact (by (with_reducible repeat (first | apply Kd.R_alloc | apply Kd.R_drewN | apply Kd.R_drew)); exact (Kd.R_mono (Kd.R_far (p := ⟨gb309, 3, none⟩) (Kd.R_far (p := ⟨gb309, 2, none⟩) (Kd.R_far (p := ⟨gb309, 1, none⟩) (Kd.R_far (p := ⟨gb309, 0, none⟩) (Kd.R_types HO285.out BK309.out (by decide)) (fun _ hk => hk.2) (.int .i64 t300)) (fun _ hk => hk.2) (.int .i64 t301)) (fun _ hk => hk.2) (.slice Ao39 t302.length co39)) (fun _ hk => hk.2) (.slice Ao40 t305.length co40)) (fun _ h_ => h_.1)))); (case side6 => exact (Kd.R_reads' HO285.out).2.1); (case side7 => refine (Kd.R_reads' (e := 3) (base := w.heap.size) (ok := fun k_ => ((((((some k_ ≠ (.slice Ao23 t283.length co23 : Value).ownBlock ∧ some k_ ≠ (.slice Ao17 t275.length co17 : Value).ownBlock) ∧ some k_ ≠ (.slice Ao18 t278.length co18 : Value).ownBlock) ∧ some k_ ≠ (.slice Ao31 t293.length co31 : Value).ownBlock) ∧ some k_ ≠ (.slice Ao32 t296.length co32 : Value).ownBlock) ∧ some k_ ≠ (.slice Ao39 t302.length co39 : Value).ownBlock) ∧ some k_ ≠ (.slice Ao40 t305.length co40 : Value).ownBlock)) (n := t286.length) (c := co24) ?_).2.2; exact (by (with_reducible repeat (first | apply Kd.R_alloc | apply Kd.R_drewN | apply Kd.R_drew)); exact (Kd.R_mono (Kd.R_far (p := ⟨gb309, 3, none⟩) (Kd.R_far (p := ⟨gb309, 2, none⟩) (Kd.R_far (p := ⟨gb309, 1, none⟩) (Kd.R_far (p := ⟨gb309, 0, none⟩) (Kd.R_types HO288.out BK309.out (by decide)) (fun _ hk => hk.2) (.int .i64 t300)) (fun _ hk => hk.2) (.int .i64 t301)) (fun _ hk => hk.2) (.slice Ao39 t302.length co39)) (fun _ hk => hk.2) (.slice Ao40 t305.length co40)) (fun _ h_ => h_.1)))); (case side8 => exact (Kd.R_reads' HO288.out).2.1); rintro e w50 ⟨rfl, hb⟩; refine ⟨_, rfl, ?_⟩; have n0_ := Aside0.mk (Kd.PB_below (by (with_reducible repeat (first | apply Kd.PB_alloc | apply Kd.PB_drewN | apply Kd.PB_drew)); exact (Kd.PB_mono (Kd.PB_far (p := ⟨gb309, 3, none⟩) (Kd.PB_far (p := ⟨gb309, 2, none⟩) (Kd.PB_far (p := ⟨gb309, 1, none⟩) (Kd.PB_far (p := ⟨gb309, 0, none⟩) (Kd.PB_types HO277.out BK309.out (by decide)) (fun _ hk => hk.2) (.int .i64 t300)) (fun _ hk => hk.2) (.int .i64 t301)) (fun _ hk => hk.2) (.slice Ao39 t302.length co39)) (fun _ hk => hk.2) (.slice Ao40 t305.length co40)) (fun _ h_ => h_.1))) hb); have n1_ := Aside0.mk (Kd.PB_below (by (with_reducible repeat (first | apply Kd.PB_alloc | apply Kd.PB_drewN | apply Kd.PB_drew)); exact (Kd.PB_mono (Kd.PB_far (p := ⟨gb309, 3, none⟩) (Kd.PB_far (p := ⟨gb309, 2, none⟩) (Kd.PB_far (p := ⟨gb309, 1, none⟩) (Kd.PB_far (p := ⟨gb309, 0, none⟩) (Kd.PB_types HO280.out BK309.out (by decide)) (fun _ hk => hk.2) (.int .i64 t300)) (fun _ hk => hk.2) (.int .i64 t301)) (fun _ hk => hk.2) (.slice Ao39 t302.length co39)) (fun _ hk => hk.2) (.slice Ao40 t305.length co40)) (fun _ h_ => h_.1))) hb); have n2_ := Aside0.mk (Kd.R_below (by (with_reducible repeat (first | apply Kd.R_alloc | apply Kd.R_drewN | apply Kd.R_drew)); exact (Kd.R_mono (Kd.R_far (p := ⟨gb309, 3, none⟩) (Kd.R_far (p := ⟨gb309, 2, none⟩) (Kd.R_far (p := ⟨gb309, 1, none⟩) (Kd.R_far (p := ⟨gb309, 0, none⟩) (Kd.R_types HO285.out BK309.out (by decide)) (fun _ hk => hk.2) (.int .i64 t300)) (fun _ hk => hk.2) (.int .i64 t301)) (fun _ hk => hk.2) (.slice Ao39 t302.length co39)) (fun _ hk => hk.2) (.slice Ao40 t305.length co40)) (fun _ h_ => h_.1))) hb); have n3_ := Aside0.mk (Kd.R_below (by (with_reducible repeat (first | apply Kd.R_alloc | apply Kd.R_drewN | apply Kd.R_drew)); exact (Kd.R_mono (Kd.R_far (p := ⟨gb309, 3, none⟩) (Kd.R_far (p := ⟨gb309, 2, none⟩) (Kd.R_far (p := ⟨gb309, 1, none⟩) (Kd.R_far (p := ⟨gb309, 0, none⟩) (Kd.R_types HO288.out BK309.out (by decide)) (fun _ hk => hk.2) (.int .i64 t300)) (fun _ hk => hk.2) (.int .i64 t301)) (fun _ hk => hk.2) (.slice Ao39 t302.length co39)) (fun _ hk => hk.2) (.slice Ao40 t305.length co40)) (fun _ h_ => h_.1))) hb); have n4_ := Aside0.mk (Kd.PB_below (by (with_reducible repeat (first | apply Kd.PB_alloc | apply Kd.PB_drewN | apply Kd.PB_drew)); exact (Kd.PB_mono (Kd.PB_far (p := ⟨gb309, 3, none⟩) (Kd.PB_far (p := ⟨gb309, 2, none⟩) (Kd.PB_far (p := ⟨gb309, 1, none⟩) (Kd.PB_far (p := ⟨gb309, 0, none⟩) (Kd.PB_types HO295.out BK309.out (by decide)) (fun _ hk => hk.2) (.int .i64 t300)) (fun _ hk => hk.2) (.int .i64 t301)) (fun _ hk => hk.2) (.slice Ao39 t302.length co39)) (fun _ hk => hk.2) (.slice Ao40 t305.length co40)) (fun _ h_ => h_.1))) hb); have n5_ := Aside0.mk (Kd.PB_below (by (with_reducible repeat (first | apply Kd.PB_alloc | apply Kd.PB_drewN | apply Kd.PB_drew)); exact (Kd.PB_mono (Kd.PB_far (p := ⟨gb309, 3, none⟩) (Kd.PB_far (p := ⟨gb309, 2, none⟩) (Kd.PB_far (p := ⟨gb309, 1, none⟩) (Kd.PB_far (p := ⟨gb309, 0, none⟩) (Kd.PB_types HO298.out BK309.out (by decide)) (fun _ hk => hk.2) (.int .i64 t300)) (fun _ hk => hk.2) (.int .i64 t301)) (fun _ hk => hk.2) (.slice Ao39 t302.length co39)) (fun _ hk => hk.2) (.slice Ao40 t305.length co40)) (fun _ h_ => h_.1))) hb); have n6_ := Aside0.mk (Kd.R_below (by (with_reducible repeat (first | apply Kd.R_alloc | apply Kd.R_drewN | apply Kd.R_drew)); exact (Kd.R_mono (Kd.R_far (p := ⟨gb309, 3, none⟩) (Kd.R_far (p := ⟨gb309, 2, none⟩) (Kd.R_far (p := ⟨gb309, 1, none⟩) (Kd.R_far (p := ⟨gb309, 0, none⟩) (Kd.R_types HO304.out BK309.out (by decide)) (fun _ hk => hk.2) (.int .i64 t300)) (fun _ hk => hk.2) (.int .i64 t301)) (fun _ hk => hk.2) (.slice Ao39 t302.length co39)) (fun _ hk => hk.2) (.slice Ao40 t305.length co40)) (fun _ h_ => h_.1))) hb); have n7_ := Aside0.mk (Kd.R_below (by (with_reducible repeat (first | apply Kd.R_alloc | apply Kd.R_drewN | apply Kd.R_drew)); exact (Kd.R_mono (Kd.R_far (p := ⟨gb309, 3, none⟩) (Kd.R_far (p := ⟨gb309, 2, none⟩) (Kd.R_far (p := ⟨gb309, 1, none⟩) (Kd.R_far (p := ⟨gb309, 0, none⟩) (Kd.R_types HO307.out BK309.out (by decide)) (fun _ hk => hk.2) (.int .i64 t300)) (fun _ hk => hk.2) (.int .i64 t301)) (fun _ hk => hk.2) (.slice Ao39 t302.length co39)) (fun _ hk => hk.2) (.slice Ao40 t305.length co40)) (fun _ h_ => h_.1))) hb); have n8_ := Aside0.mk (blk_below (g := gb271) (o := .cells #[.int .i64 a0_0, .int .i64 a0_1, .slice A0_2 l0_2.length c0_2, .slice A0_3 l0_3.length c0_3] 24 (0, 0)) (by (with_reducible repeat (first | refine blk_drewN ?_ _ | refine blk_drew ?_ | refine blk_alloc ?_ _)); refine blk_far ?_ NB271_309.out _; (with_reducible repeat (first | refine blk_drewN ?_ _ | refine blk_drew ?_ | refine blk_alloc ?_ _)); refine blk_far ?_ NB271_309.out _; (with_reducible repeat (first | refine blk_drewN ?_ _ | refine blk_drew ?_ | refine blk_alloc ?_ _)); refine blk_far ?_ NB271_309.out _; (with_reducible repeat (first | refine blk_drewN ?_ _ | refine blk_drew ?_ | refine blk_alloc ?_ _)); refine blk_far ?_ NB271_309.out _; (with_reducible repeat (first | refine blk_drewN ?_ _ | refine blk_drew ?_ | refine blk_alloc ?_ _)); exact BK271.out) hb); have n9_ := Aside0.mk (blk_below (g := gb290) (o := .cells #[.int .i64 t281, .int .i64 t282, .slice Ao23 t283.length co23, .slice Ao24 t286.length co24] 26 (0, 0)) (by (with_reducible repeat (first | refine blk_drewN ?_ _ | refine blk_drew ?_ | refine blk_alloc ?_ _)); refine blk_far ?_ NB290_309.out _; (with_reducible repeat (first | refine blk_drewN ?_ _ | refine blk_drew ?_ | refine blk_alloc ?_ _)); refine blk_far ?_ NB290_309.out _; (with_reducible repeat (first | refine blk_drewN ?_ _ | refine blk_drew ?_ | refine blk_alloc ?_ _)); refine blk_far ?_ NB290_309.out _; (with_reducible repeat (first | refine blk_drewN ?_ _ | refine blk_drew ?_ | refine blk_alloc ?_ _)); refine blk_far ?_ NB290_309.out _; (with_reducible repeat (first | refine blk_drewN ?_ _ | refine blk_drew ?_ | refine blk_alloc ?_ _)); exact BK290.out) hb); have n10_ := Aside0.mk (blk_below (g := gb299) (o := .cells #[.int .i64 t291, .int .i64 t292, .slice Ao31 t293.length co31, .slice Ao32 t296.length co32] 26 (0, 0)) (by (with_reducible repeat (first | refine blk_drewN ?_ _ | refine blk_drew ?_ | refine blk_alloc ?_ _)); refine blk_far ?_ NB299_309.out _; (with_reducible repeat (first | refine blk_drewN ?_ _ | refine blk_drew ?_ | refine blk_alloc ?_ _)); refine blk_far ?_ NB299_309.out _; (with_reducible repeat (first | refine blk_drewN ?_ _ | refine blk_drew ?_ | refine blk_alloc ?_ _)); refine blk_far ?_ NB299_309.out _; (with_reducible repeat (first | refine blk_drewN ?_ _ | refine blk_drew ?_ | refine blk_alloc ?_ _)); refine blk_far ?_ NB299_309.out _; (with_reducible repeat (first | refine blk_drewN ?_ _ | refine blk_drew ?_ | refine blk_alloc ?_ _)); exact BK299.out) hb); have n11_ := Aside0.mk (blk_below (g := gb309) (o := .cells #[.int .i64 t300, .int .i64 t301, .slice Ao39 t302.length co39, .slice Ao40 t305.length co40] 26 (0, 0)) (by (with_reducible repeat (first | refine blk_drewN ?_ _ | refine blk_drew ?_ | refine blk_alloc ?_ _)); refine blk_put (cs := #[.int .i64 t300, .int .i64 t301, .slice Ao39 t302.length co39, .slice none 0 0]) ?_ 3 _ rfl; (with_reducible repeat (first | refine blk_drewN ?_ _ | refine blk_drew ?_ | refine blk_alloc ?_ _)); refine blk_put (cs := #[.int .i64 t300, .int .i64 t301, .slice none 0 0, .slice none 0 0]) ?_ 2 _ rfl; (with_reducible repeat (first | refine blk_drewN ?_ _ | refine blk_drew ?_ | refine blk_alloc ?_ _)); refine blk_put (cs := #[.int .i64 t300, .int .i64 0, .slice none 0 0, .slice none 0 0]) ?_ 1 _ rfl; (with_reducible repeat (first | refine blk_drewN ?_ _ | refine blk_drew ?_ | refine blk_alloc ?_ _)); refine blk_put (cs := #[.int .i64 0, .int .i64 0, .slice none 0 0, .slice none 0 0]) ?_ 0 _ rfl; (with_reducible repeat (first | refine blk_drewN ?_ _ | refine blk_drew ?_ | refine blk_alloc ?_ _)); exact BK309.out) hb); have n12_ := Aside0.mk (below_step (by repeat (first | (with_reducible first | exact HB.out | apply below_alloc | apply pw_below_drewN | apply below_drew1 | refine below_set ?_ GE271.out | refine below_set ?_ GE290.out | refine below_set ?_ GE299.out | refine below_set ?_ GE309.out) | exact HB.out)) hb); clear HO277; clear HO280; clear HO285; clear HO288; clear HO295; clear HO298; clear HO304; clear HO307; clear BK271; clear BK290; clear BK299; clear BK309; clear HB; have HO277 := n0_; have HO280 := n1_; have HO285 := n2_; have HO288 := n3_; have HO295 := n4_; have HO298 := n5_; have HO304 := n6_; have HO307 := n7_; have BK271 := n8_; have BK290 := n9_; have BK299 := n10_; have BK309 := n11_; have HB := n12_; clear n0_ n1_ n2_ n3_ n4_ n5_ n6_ n7_ n8_ n9_ n10_ n11_ n12_; (try clear hb); (try clear hb2); (try clear hk); (try clear hi)))
    go_meet
    case rel => exact ⟨_, ((t308 != t289)), (by first | rfl | (simp; done) | (simp [*]; done)), H', ⟨by first | omega | exact Nat.le_refl _⟩, ⟨by (with_reducible repeat (first | apply Kd.R_alloc | apply Kd.R_drewN | apply Kd.R_drew)); exact Kd.R_mono HO285.out (fun _ hk => ⟨hk.1.1.1.1.1.1, ⟨hk.1.1.1.2, ⟨hk.1.1.2, ⟨hk.1.2, hk.2⟩⟩⟩⟩)⟩, ⟨by (with_reducible repeat (first | apply Kd.R_alloc | apply Kd.R_drewN | apply Kd.R_drew)); exact Kd.R_mono HO288.out (fun _ hk => ⟨hk.1.1.1.1.1.1, ⟨hk.1.1.1.2, ⟨hk.1.1.2, ⟨hk.1.2, hk.2⟩⟩⟩⟩)⟩, ⟨by (with_reducible repeat (first | apply Kd.PB_alloc | apply Kd.PB_drewN | apply Kd.PB_drew)); exact Kd.PB_mono HO295.out (fun _ hk => ⟨hk.1.1.1.2, ⟨hk.1.1.2, ⟨hk.1.1.1.1.1.1, ⟨hk.1.2, hk.2⟩⟩⟩⟩)⟩, ⟨by (with_reducible repeat (first | apply Kd.PB_alloc | apply Kd.PB_drewN | apply Kd.PB_drew)); exact Kd.PB_mono HO298.out (fun _ hk => ⟨hk.1.1.1.2, ⟨hk.1.1.2, ⟨hk.1.1.1.1.1.1, ⟨hk.1.2, hk.2⟩⟩⟩⟩)⟩, ⟨by (with_reducible repeat (first | apply Kd.R_alloc | apply Kd.R_drewN | apply Kd.R_drew)); exact Kd.R_mono HO304.out (fun _ hk => ⟨hk.1.1.1.2, ⟨hk.1.1.2, ⟨hk.1.2, ⟨hk.2, hk.1.1.1.1.1.1⟩⟩⟩⟩)⟩, ⟨by (with_reducible repeat (first | apply Kd.R_alloc | apply Kd.R_drewN | apply Kd.R_drew)); exact Kd.R_mono HO307.out (fun _ hk => ⟨hk.1.1.1.2, ⟨hk.1.1.2, ⟨hk.1.2, ⟨hk.2, hk.1.1.1.1.1.1⟩⟩⟩⟩)⟩, ⟨by (with_reducible repeat (first | refine blk_drewN ?_ _ | refine blk_drew ?_ | refine blk_alloc ?_ _)); exact BK271.out⟩, ⟨by (with_reducible repeat (first | refine blk_drewN ?_ _ | refine blk_drew ?_ | refine blk_alloc ?_ _)); exact BK290.out⟩, ⟨by (with_reducible repeat (first | refine blk_drewN ?_ _ | refine blk_drew ?_ | refine blk_alloc ?_ _)); exact BK299.out⟩, ⟨by (with_reducible repeat (first | refine blk_drewN ?_ _ | refine blk_drew ?_ | refine blk_alloc ?_ _)); exact BK309.out⟩, ⟨by repeat (first | (with_reducible first | exact HB.out | apply below_alloc | apply pw_below_drewN | apply below_drew1 | refine below_set ?_ GE271.out | refine below_set ?_ GE290.out | refine below_set ?_ GE299.out | refine below_set ?_ GE309.out) | exact HB.out)⟩⟩
   ·replace c42 := Bool.eq_false_iff.mpr c42
    subst c42
    have H1 : (laws_FnExactMissingFigure.j0 k t289 t308 true a0_0 a0_1 l0_2 l0_3 t281 t282 t283 t286 t291 t292 t293 t296 t300 t301 t302 t305) = some r := by rw [if_neg (show ¬ (false = true) by decide)] at H; exact H
    clear H
    have H := H1
    clear H1
    exact absurd HR_.out (by cases k <;> simp [laws_FnExactMissingFigure.j0] at H <;> first | simp [← H] | simp [H] | simp_all)
  case rest =>
   clear HC11
   try clear c1
   try clear c2
   try clear p2
   try clear c3
   try clear c3b0
   try clear c4
   try clear c10
   try clear c12
   try clear c14
   try clear c18
   try clear c19
   try clear c21
   try clear c28
   try clear c29
   try clear c35
   try clear c36
   try clear c37
   try clear c42
   try clear c43
   try clear c44
   try clear c45
   try clear c47
   try clear c48
   try clear hcz13_0
   try clear hcz13_1
   try clear hcz13_2
   try clear hcz13_3
   try clear hcz15_0
   try clear hcz15_1
   try clear hcz15_2
   try clear hcz15_3
   try clear hcz22_0
   try clear hcz22_1
   try clear hcz22_2
   try clear hcz22_3
   try clear hcz25_0
   try clear hcz25_1
   try clear hcz25_2
   try clear hcz25_3
   try clear hcz30_0
   try clear hcz30_1
   try clear hcz30_2
   try clear hcz30_3
   try clear hcz38_0
   try clear hcz38_1
   try clear hcz38_2
   try clear hcz38_3
   try clear hcz46_0
   try clear hcz46_1
   try clear hcz46_2
   try clear hcz46_3
   try clear hcz49_0
   try clear hcz49_1
   try clear hcz49_2
   try clear hcz49_3
   try clear hcz5_0
   try clear hcz5_1
   try clear hcz5_2
   try clear hcz5_3
   try clear hfz13_0
   try clear hfz13_1
   try clear hfz13_2
   try clear hfz13_3
   try clear hfz15_0
   try clear hfz15_1
   try clear hfz15_2
   try clear hfz15_3
   try clear hfz22_0
   try clear hfz22_1
   try clear hfz22_2
   try clear hfz22_3
   try clear hfz25_0
   try clear hfz25_1
   try clear hfz25_2
   try clear hfz25_3
   try clear hfz30_0
   try clear hfz30_1
   try clear hfz30_2
   try clear hfz30_3
   try clear hfz38_0
   try clear hfz38_1
   try clear hfz38_2
   try clear hfz38_3
   try clear hfz46_0
   try clear hfz46_1
   try clear hfz46_2
   try clear hfz46_3
   try clear hfz49_0
   try clear hfz49_1
   try clear hfz49_2
   try clear hfz49_3
   try clear hfz5_0
   try clear hfz5_1
   try clear hfz5_2
   try clear hfz5_3
   obtain ⟨kq, x40_10, rfl, HA, HJ10, HO_291002, HO_291003, HO_300002, HO_300003, HO_310002, HO_310003, BK271, BK290, BK299, BK309, HB⟩ := hcut
   cases kq with
   | zero => exact absurd HA.out (by simp [laws_FnExactMissingFigure.j0])
   | succ kj10 =>
    have H := HA.out
    clear HA
    simp only [laws_FnExactMissingFigure.j0] at H
    by_cases c51 : x40_10 = true
    ·subst c51
     have H1 : (some false) = some r := by rw [if_pos rfl] at H; exact H
     clear H
     have H := H1
     clear H1
     exact absurd ((Option.some.inj H).trans HR_.out) Bool.false_ne_true
    ·replace c51 := Bool.eq_false_iff.mpr c51
     subst c51
     have H1 : ((laws_toFigure.f a0_0 a0_1 l0_2 l0_3 false).bind fun bt311 => ((laws_intactFigure.f t291 t292 t293 t296 bt311.1 bt311.2.1 bt311.2.2.1 bt311.2.2.2).bind fun t319 => (if t319 = true then ((laws_markFigure.f kj10 t291 t292 t293 t296 101).bind fun bt320 => (if bt320.1 < 0 then (laws_FnExactMissingFigure.j1 kj10 t289 true a0_0 a0_1 l0_2 l0_3 t281 t282 t283 t286 t300 t301 t302 t305) else ((laws_eqFigure.f kj10 t300 t301 t302 t305 t281 t282 t283 t286).bind fun t323 => (if t323 = true then (laws_FnExactMissingFigure.j1 kj10 t289 (t308 != t289) a0_0 a0_1 l0_2 l0_3 t281 t282 t283 t286 t300 t301 t302 t305) else (laws_FnExactMissingFigure.j1 kj10 t289 true a0_0 a0_1 l0_2 l0_3 t281 t282 t283 t286 t300 t301 t302 t305))))) else (some false)))) = some r := by rw [if_neg (show ¬ (false = true) by decide)] at H; exact H
     clear H
     have H := H1
     clear H1
     replace H := Option.bind_eq_some_iff.mp H
     obtain ⟨⟨t311, t312, t313, t316⟩, A520, H⟩ := H
     replace H : ((laws_intactFigure.f t291 t292 t293 t296 t311 t312 t313 t316).bind fun t319 => (if t319 = true then ((laws_markFigure.f kj10 t291 t292 t293 t296 101).bind fun bt320 => (if bt320.1 < 0 then (laws_FnExactMissingFigure.j1 kj10 t289 true a0_0 a0_1 l0_2 l0_3 t281 t282 t283 t286 t300 t301 t302 t305) else ((laws_eqFigure.f kj10 t300 t301 t302 t305 t281 t282 t283 t286).bind fun t323 => (if t323 = true then (laws_FnExactMissingFigure.j1 kj10 t289 (t308 != t289) a0_0 a0_1 l0_2 l0_3 t281 t282 t283 t286 t300 t301 t302 t305) else (laws_FnExactMissingFigure.j1 kj10 t289 true a0_0 a0_1 l0_2 l0_3 t281 t282 t283 t286 t300 t301 t302 t305))))) else (some false))) = some r := H
     have A52 := Aside0.mk A520
     clear A520
     replace H := Option.bind_eq_some_iff.mp H
     obtain ⟨t319, A530, H⟩ := H
     replace H : (if t319 = true then ((laws_markFigure.f kj10 t291 t292 t293 t296 101).bind fun bt320 => (if bt320.1 < 0 then (laws_FnExactMissingFigure.j1 kj10 t289 true a0_0 a0_1 l0_2 l0_3 t281 t282 t283 t286 t300 t301 t302 t305) else ((laws_eqFigure.f kj10 t300 t301 t302 t305 t281 t282 t283 t286).bind fun t323 => (if t323 = true then (laws_FnExactMissingFigure.j1 kj10 t289 (t308 != t289) a0_0 a0_1 l0_2 l0_3 t281 t282 t283 t286 t300 t301 t302 t305) else (laws_FnExactMissingFigure.j1 kj10 t289 true a0_0 a0_1 l0_2 l0_3 t281 t282 t283 t286 t300 t301 t302 t305))))) else (some false)) = some r := H
     have A53 := Aside0.mk A530
     clear A530
     by_cases c54 : t319 = true
     ·subst c54
      have H1 : ((laws_markFigure.f kj10 t291 t292 t293 t296 101).bind fun bt320 => (if bt320.1 < 0 then (laws_FnExactMissingFigure.j1 kj10 t289 true a0_0 a0_1 l0_2 l0_3 t281 t282 t283 t286 t300 t301 t302 t305) else ((laws_eqFigure.f kj10 t300 t301 t302 t305 t281 t282 t283 t286).bind fun t323 => (if t323 = true then (laws_FnExactMissingFigure.j1 kj10 t289 (t308 != t289) a0_0 a0_1 l0_2 l0_3 t281 t282 t283 t286 t300 t301 t302 t305) else (laws_FnExactMissingFigure.j1 kj10 t289 true a0_0 a0_1 l0_2 l0_3 t281 t282 t283 t286 t300 t301 t302 t305))))) = some r := by rw [if_pos rfl] at H; exact H
      clear H
      have H := H1
      clear H1
      replace H := Option.bind_eq_some_iff.mp H
      obtain ⟨⟨t320, t321, t322⟩, A550, H⟩ := H
      replace H : (if t320 < 0 then (laws_FnExactMissingFigure.j1 kj10 t289 true a0_0 a0_1 l0_2 l0_3 t281 t282 t283 t286 t300 t301 t302 t305) else ((laws_eqFigure.f kj10 t300 t301 t302 t305 t281 t282 t283 t286).bind fun t323 => (if t323 = true then (laws_FnExactMissingFigure.j1 kj10 t289 (t308 != t289) a0_0 a0_1 l0_2 l0_3 t281 t282 t283 t286 t300 t301 t302 t305) else (laws_FnExactMissingFigure.j1 kj10 t289 true a0_0 a0_1 l0_2 l0_3 t281 t282 t283 t286 t300 t301 t302 t305)))) = some r := H
      have A55 := Aside0.mk A550
      clear A550
      have HC56 := Aside0.mk H
      clear H
      try go_wp2
      have n0_ := Aside0.mk (Kd.R_drew HO_291002.out)
      have n1_ := Aside0.mk (Kd.R_drew HO_291003.out)
      have n2_ := Aside0.mk (Kd.PB_drew HO_300002.out)
      have n3_ := Aside0.mk (Kd.PB_drew HO_300003.out)
      have n4_ := Aside0.mk (Kd.R_drew HO_310002.out)
      have n5_ := Aside0.mk (Kd.R_drew HO_310003.out)
      have n6_ := Aside0.mk (blk_drew BK271.out)
      have n7_ := Aside0.mk (blk_drew BK290.out)
      have n8_ := Aside0.mk (blk_drew BK299.out)
      have n9_ := Aside0.mk (blk_drew BK309.out)
      have n10_ := Aside0.mk (below_drew1 HB.out)
      clear HO_291002
      clear HO_291003
      clear HO_300002
      clear HO_300003
      clear HO_310002
      clear HO_310003
      clear BK271
      clear BK290
      clear BK299
      clear BK309
      clear HB
      have HO_291002 := n0_
      have HO_291003 := n1_
      have HO_300002 := n2_
      have HO_300003 := n3_
      have HO_310002 := n4_
      have HO_310003 := n5_
      have BK271 := n6_
      have BK290 := n7_
      have BK299 := n8_
      have BK309 := n9_
      have HB := n10_
      clear n0_ n1_ n2_ n3_ n4_ n5_ n6_ n7_ n8_ n9_ n10_
      refine start_ (n := 5) (S := fun w' => w'.cell? ⟨gb299, 0, none⟩ = some (.int .i64 t291) ∧ w'.cell? ⟨gb299, 1, none⟩ = some (.int .i64 t292) ∧ w'.cell? ⟨gb299, 2, none⟩ = some (.slice Ao31 t293.length co31) ∧ w'.cell? ⟨gb299, 3, none⟩ = some (.slice Ao32 t296.length co32) ∧ w'.cell? ⟨gb271, 0, none⟩ = some (.int .i64 a0_0) ∧ w'.cell? ⟨gb271, 1, none⟩ = some (.int .i64 a0_1) ∧ w'.cell? ⟨gb271, 2, none⟩ = some (.slice A0_2 l0_2.length c0_2) ∧ w'.cell? ⟨gb271, 3, none⟩ = some (.slice A0_3 l0_3.length c0_3)) (ds := []) #[false, false, false, false, false] (by kernel_rfl) rfl rfl ⟨(blk_cell BK299.out 0).trans rfl, (blk_cell BK299.out 1).trans rfl, (blk_cell BK299.out 2).trans rfl, (blk_cell BK299.out 3).trans rfl, (blk_cell BK271.out 0).trans rfl, (blk_cell BK271.out 1).trans rfl, (blk_cell BK271.out 2).trans rfl, (blk_cell BK271.out 3).trans rfl⟩ (fun hHeld => ?_)
      generalize wc.drew = w57 at HO_291002 HO_291003 HO_300002 HO_300003 HO_310002 HO_310003 BK271 BK290 BK299 BK309 HB hHeld ⊢
      refine take_ (i := 0) (N := some 41) (v := ?_) (a' := ?_) #[true, false, false, false, false] rfl rfl (by kernel_rfl) (fun _ _ _ h => h) (Or.inl ⟨by rfl, ?_⟩) hHeld ?_ ?_
      rotate_left
      ·rintro w' ⟨s0, s1, s2, s3, s4, s5, s6, s7⟩
       go_simp
       with_reducible rfl
      rotate_left
      ·simp only [Act.put, List.setIfInBounds_toArray, List.set_cons_zero, List.set_cons_succ, i64_w, i32_w]
       rfl
      refine take_ (i := 1) (N := some 42) (v := ?_) (a' := ?_) #[true, true, false, false, false] rfl rfl (by kernel_rfl) (fun _ _ _ h => h) (Or.inl ⟨by rfl, ?_⟩) hHeld ?_ ?_
      rotate_left
      ·rintro w' ⟨s0, s1, s2, s3, s4, s5, s6, s7⟩
       go_simp
       with_reducible rfl
      rotate_left
      ·simp only [Act.put, List.setIfInBounds_toArray, List.set_cons_zero, List.set_cons_succ, i64_w, i32_w]
       rfl
      refine one_ (i := 2) (N := some 43) #[true, true, true, false, false] rfl rfl (by kernel_rfl) (by decide) (fun K hK => ?_)
      refine goes_ Tryd.func12 (by kernel_rfl) rfl #[.agg #[.int .i64 a0_0, .int .i64 a0_1, .slice A0_2 l0_2.length c0_2, .slice A0_3 l0_3.length c0_3], .bool false] (by rfl) rfl rfl (by (try simp only [List.map_toArray, List.map_cons, List.map_nil]); first | done | rfl | (simp only [List.length_drop, List.length_take]; rfl)) ?_
      with_reducible refine (laws_toFigure.calls a0_0 a0_1 _ _ l0_2 _ _ l0_3 false t311 t312 t313 t316 _ ?side1 ?side2 ?side3 ?side4 A52.out).mono ?_
      (case side1 => repeat (first | exact (Kd.C_below HR0_2.out HB.out) | (with_reducible refine Kd.C_alloc ?_ _) | (with_reducible refine Kd.C_drewN ?_ _) | (with_reducible refine Kd.C_drew ?_)))
      (case side2 => exact HC0_2.out)
      (case side3 => repeat (first | exact (Kd.C_below HR0_3.out HB.out) | (with_reducible refine Kd.C_alloc ?_ _) | (with_reducible refine Kd.C_drewN ?_ _) | (with_reducible refine Kd.C_drew ?_)))
      (case side4 => exact HC0_3.out)
      rintro e w58 ⟨v314, v317, rfl, ho0, ho1, hb⟩
      refine ⟨_, rfl, ?_⟩
      have n0_ := Aside0.mk (Kd.R_mono (Kd.R_told (Kd.R_told (Kd.R_old (by (with_reducible repeat (first | apply Kd.R_alloc | apply Kd.R_drewN | apply Kd.R_drew)); exact HO_291002.out) hb) (Kd.PB_base ho0)) (Kd.PB_base ho1)) (fun _ h_ => h_.1))
      have n1_ := Aside0.mk (Kd.R_mono (Kd.R_told (Kd.R_told (Kd.R_old (by (with_reducible repeat (first | apply Kd.R_alloc | apply Kd.R_drewN | apply Kd.R_drew)); exact HO_291003.out) hb) (Kd.PB_base ho0)) (Kd.PB_base ho1)) (fun _ h_ => h_.1))
      have n2_ := Aside0.mk (Kd.PB_mono (Kd.PB_told (Kd.PB_told (Kd.PB_old (by (with_reducible repeat (first | apply Kd.PB_alloc | apply Kd.PB_drewN | apply Kd.PB_drew)); exact HO_300002.out) hb) (Kd.PB_base ho0)) (Kd.PB_base ho1)) (fun _ h_ => h_.1))
      have n3_ := Aside0.mk (Kd.PB_mono (Kd.PB_told (Kd.PB_told (Kd.PB_old (by (with_reducible repeat (first | apply Kd.PB_alloc | apply Kd.PB_drewN | apply Kd.PB_drew)); exact HO_300003.out) hb) (Kd.PB_base ho0)) (Kd.PB_base ho1)) (fun _ h_ => h_.1))
      have n4_ := Aside0.mk (Kd.R_mono (Kd.R_told (Kd.R_told (Kd.R_old (by (with_reducible repeat (first | apply Kd.R_alloc | apply Kd.R_drewN | apply Kd.R_drew)); exact HO_310002.out) hb) (Kd.PB_base ho0)) (Kd.PB_base ho1)) (fun _ h_ => h_.1))
      have n5_ := Aside0.mk (Kd.R_mono (Kd.R_told (Kd.R_told (Kd.R_old (by (with_reducible repeat (first | apply Kd.R_alloc | apply Kd.R_drewN | apply Kd.R_drew)); exact HO_310003.out) hb) (Kd.PB_base ho0)) (Kd.PB_base ho1)) (fun _ h_ => h_.1))
      have n6_ := Aside0.mk (Kd.PB_lower (Kd.PB_new' (Kd.PB_new' (Kd.PB_new' (Kd.PB_new' (Kd.PB_new' (Kd.PB_new' ho0 (Kd.R_lt (by (with_reducible repeat (first | apply Kd.R_alloc | apply Kd.R_drewN | apply Kd.R_drew)); exact HO_291002.out))) (Kd.R_lt (by (with_reducible repeat (first | apply Kd.R_alloc | apply Kd.R_drewN | apply Kd.R_drew)); exact HO_291003.out))) (Kd.PB_lt (by (with_reducible repeat (first | apply Kd.PB_alloc | apply Kd.PB_drewN | apply Kd.PB_drew)); exact HO_300002.out))) (Kd.PB_lt (by (with_reducible repeat (first | apply Kd.PB_alloc | apply Kd.PB_drewN | apply Kd.PB_drew)); exact HO_300003.out))) (Kd.R_lt (by (with_reducible repeat (first | apply Kd.R_alloc | apply Kd.R_drewN | apply Kd.R_drew)); exact HO_310002.out))) (Kd.R_lt (by (with_reducible repeat (first | apply Kd.R_alloc | apply Kd.R_drewN | apply Kd.R_drew)); exact HO_310003.out))) (below_size (by repeat (first | (with_reducible first | exact HB.out | apply below_alloc | apply pw_below_drewN | apply below_drew1 | refine below_set ?_ GE271.out | refine below_set ?_ GE290.out | refine below_set ?_ GE299.out | refine below_set ?_ GE309.out) | exact HB.out))))
      have n7_ := Aside0.mk (Kd.PB_lower (Kd.PB_new' (Kd.PB_new' (Kd.PB_new' (Kd.PB_new' (Kd.PB_new' (Kd.PB_new' ho1 (Kd.R_lt (by (with_reducible repeat (first | apply Kd.R_alloc | apply Kd.R_drewN | apply Kd.R_drew)); exact HO_291002.out))) (Kd.R_lt (by (with_reducible repeat (first | apply Kd.R_alloc | apply Kd.R_drewN | apply Kd.R_drew)); exact HO_291003.out))) (Kd.PB_lt (by (with_reducible repeat (first | apply Kd.PB_alloc | apply Kd.PB_drewN | apply Kd.PB_drew)); exact HO_300002.out))) (Kd.PB_lt (by (with_reducible repeat (first | apply Kd.PB_alloc | apply Kd.PB_drewN | apply Kd.PB_drew)); exact HO_300003.out))) (Kd.R_lt (by (with_reducible repeat (first | apply Kd.R_alloc | apply Kd.R_drewN | apply Kd.R_drew)); exact HO_310002.out))) (Kd.R_lt (by (with_reducible repeat (first | apply Kd.R_alloc | apply Kd.R_drewN | apply Kd.R_drew)); exact HO_310003.out))) (below_size (by repeat (first | (with_reducible first | exact HB.out | apply below_alloc | apply pw_below_drewN | apply below_drew1 | refine below_set ?_ GE271.out | refine below_set ?_ GE290.out | refine below_set ?_ GE299.out | refine below_set ?_ GE309.out) | exact HB.out))))
      have n8_ := Aside0.mk (blk_below (g := gb271) (o := .cells #[.int .i64 a0_0, .int .i64 a0_1, .slice A0_2 l0_2.length c0_2, .slice A0_3 l0_3.length c0_3] 24 (0, 0)) (by (with_reducible repeat (first | refine blk_drewN ?_ _ | refine blk_drew ?_ | refine blk_alloc ?_ _)); exact BK271.out) hb)
      have n9_ := Aside0.mk (blk_below (g := gb290) (o := .cells #[.int .i64 t281, .int .i64 t282, .slice Ao23 t283.length co23, .slice Ao24 t286.length co24] 26 (0, 0)) (by (with_reducible repeat (first | refine blk_drewN ?_ _ | refine blk_drew ?_ | refine blk_alloc ?_ _)); exact BK290.out) hb)
      have n10_ := Aside0.mk (blk_below (g := gb299) (o := .cells #[.int .i64 t291, .int .i64 t292, .slice Ao31 t293.length co31, .slice Ao32 t296.length co32] 26 (0, 0)) (by (with_reducible repeat (first | refine blk_drewN ?_ _ | refine blk_drew ?_ | refine blk_alloc ?_ _)); exact BK299.out) hb)
      have n11_ := Aside0.mk (blk_below (g := gb309) (o := .cells #[.int .i64 t300, .int .i64 t301, .slice Ao39 t302.length co39, .slice Ao40 t305.length co40] 26 (0, 0)) (by (with_reducible repeat (first | refine blk_drewN ?_ _ | refine blk_drew ?_ | refine blk_alloc ?_ _)); exact BK309.out) hb)
      have n12_ := Aside0.mk (below_step (by repeat (first | (with_reducible first | exact HB.out | apply below_alloc | apply pw_below_drewN | apply below_drew1 | refine below_set ?_ GE271.out | refine below_set ?_ GE290.out | refine below_set ?_ GE299.out | refine below_set ?_ GE309.out) | exact HB.out)) hb)
      clear HO_291002
      clear HO_291003
      clear HO_300002
      clear HO_300003
      clear HO_310002
      clear HO_310003
      clear BK271
      clear BK290
      clear BK299
      clear BK309
      clear HB
      have HO_291002 := n0_
      have HO_291003 := n1_
      have HO_300002 := n2_
      have HO_300003 := n3_
      have HO_310002 := n4_
      have HO_310003 := n5_
      have HO315 := n6_
      have HO318 := n7_
      have BK271 := n8_
      have BK290 := n9_
      have BK299 := n10_
      have BK309 := n11_
      have HB := n12_
      clear n0_ n1_ n2_ n3_ n4_ n5_ n6_ n7_ n8_ n9_ n10_ n11_ n12_
      (try clear hb)
      (try clear hb2)
      (try clear hk)
      (try clear hi)
      (try clear ho0)
      (try clear ho1)
      obtain ⟨Ao59, co59, eo59⟩ := Kd.PB_slice HO315.out
      (first | subst eo59 | (injection eo59 with f1_ f2_ f3_; have f4_ := f1_.symm; have f5_ := f3_.symm; clear f1_ f2_ f3_; subst f4_; subst f5_))
      obtain ⟨Ao60, co60, eo60⟩ := Kd.PB_slice HO318.out
      (first | subst eo60 | (injection eo60 with f1_ f2_ f3_; have f4_ := f1_.symm; have f5_ := f3_.symm; clear f1_ f2_ f3_; subst f4_; subst f5_))
      refine hK.out _ _ ⟨(blk_cell BK299.out 0).trans rfl, (blk_cell BK299.out 1).trans rfl, (blk_cell BK299.out 2).trans rfl, (blk_cell BK299.out 3).trans rfl, (blk_cell BK271.out 0).trans rfl, (blk_cell BK271.out 1).trans rfl, (blk_cell BK271.out 2).trans rfl, (blk_cell BK271.out 3).trans rfl⟩ (fun hHeld => ?_)
      clear hK K
      refine norm_ (a' := ?_) ?_ ?_
      rotate_left
      ·show Act.put _ (some 43) _ = _
       simp only [Act.put, List.setIfInBounds_toArray, List.set_cons_zero, List.set_cons_succ, i64_w, i32_w]
       rfl
      refine one_ (i := 3) (N := some 44) #[true, true, true, true, false] rfl rfl (by kernel_rfl) (by decide) (fun K hK => ?_)
      refine goes_ Tryd.func15 (by kernel_rfl) rfl #[.agg #[.int .i64 t291, .int .i64 t292, .slice Ao31 t293.length co31, .slice Ao32 t296.length co32], .agg #[.int .i64 t311, .int .i64 t312, .slice Ao59 t313.length co59, .slice Ao60 t316.length co60]] (by rfl) rfl rfl (by (try simp only [List.map_toArray, List.map_cons, List.map_nil]); first | done | rfl | (simp only [List.length_drop, List.length_take]; rfl)) ?_
      with_reducible refine (laws_intactFigure.calls t291 t292 _ _ t293 _ _ t296 t311 t312 _ _ t313 _ _ t316 true _ ?side1 ?side2 ?side3 ?side4 ?side5 ?side6 ?side7 ?side8 ?side9 ?side10 ?side11 ?side12 A53.out).mono ?_
      (case side1 => repeat (first | exact (Kd.PB_reads' HO_300002.out).2.2 | (with_reducible refine Kd.C_alloc ?_ _) | (with_reducible refine Kd.C_drewN ?_ _) | (with_reducible refine Kd.C_drew ?_)))
      (case side2 => exact (Kd.PB_reads' HO_300002.out).2.1)
      (case side3 => repeat (first | exact Kd.PB_sp HO_300002.out | (with_reducible refine Kd.Sp_alloc ?_ _) | (with_reducible refine Kd.Sp_drewN ?_ _) | (with_reducible refine Kd.Sp_drew ?_)))
      (case side4 => repeat (first | exact (Kd.PB_reads' HO_300003.out).2.2 | (with_reducible refine Kd.C_alloc ?_ _) | (with_reducible refine Kd.C_drewN ?_ _) | (with_reducible refine Kd.C_drew ?_)))
      (case side5 => exact (Kd.PB_reads' HO_300003.out).2.1)
      (case side6 => repeat (first | exact Kd.PB_sp HO_300003.out | (with_reducible refine Kd.Sp_alloc ?_ _) | (with_reducible refine Kd.Sp_drewN ?_ _) | (with_reducible refine Kd.Sp_drew ?_)))
      (case side7 => repeat (first | exact (Kd.PB_reads' HO315.out).2.2 | (with_reducible refine Kd.C_alloc ?_ _) | (with_reducible refine Kd.C_drewN ?_ _) | (with_reducible refine Kd.C_drew ?_)))
      (case side8 => exact (Kd.PB_reads' HO315.out).2.1)
      (case side9 => repeat (first | exact Kd.PB_sp HO315.out | (with_reducible refine Kd.Sp_alloc ?_ _) | (with_reducible refine Kd.Sp_drewN ?_ _) | (with_reducible refine Kd.Sp_drew ?_)))
      (case side10 => repeat (first | exact (Kd.PB_reads' HO318.out).2.2 | (with_reducible refine Kd.C_alloc ?_ _) | (with_reducible refine Kd.C_drewN ?_ _) | (with_reducible refine Kd.C_drew ?_)))
      (case side11 => exact (Kd.PB_reads' HO318.out).2.1)
      (case side12 => repeat (first | exact Kd.PB_sp HO318.out | (with_reducible refine Kd.Sp_alloc ?_ _) | (with_reducible refine Kd.Sp_drewN ?_ _) | (with_reducible refine Kd.Sp_drew ?_)))
      rintro e w61 ⟨rfl, hb⟩
      refine ⟨_, rfl, ?_⟩
      have n0_ := Aside0.mk (Kd.R_below (by (with_reducible repeat (first | apply Kd.R_alloc | apply Kd.R_drewN | apply Kd.R_drew)); exact HO_291002.out) hb)
      have n1_ := Aside0.mk (Kd.R_below (by (with_reducible repeat (first | apply Kd.R_alloc | apply Kd.R_drewN | apply Kd.R_drew)); exact HO_291003.out) hb)
      have n2_ := Aside0.mk (Kd.PB_below (by (with_reducible repeat (first | apply Kd.PB_alloc | apply Kd.PB_drewN | apply Kd.PB_drew)); exact HO_300002.out) hb)
      have n3_ := Aside0.mk (Kd.PB_below (by (with_reducible repeat (first | apply Kd.PB_alloc | apply Kd.PB_drewN | apply Kd.PB_drew)); exact HO_300003.out) hb)
      have n4_ := Aside0.mk (Kd.R_below (by (with_reducible repeat (first | apply Kd.R_alloc | apply Kd.R_drewN | apply Kd.R_drew)); exact HO_310002.out) hb)
      have n5_ := Aside0.mk (Kd.R_below (by (with_reducible repeat (first | apply Kd.R_alloc | apply Kd.R_drewN | apply Kd.R_drew)); exact HO_310003.out) hb)
      have n6_ := Aside0.mk (Kd.PB_below (by (with_reducible repeat (first | apply Kd.PB_alloc | apply Kd.PB_drewN | apply Kd.PB_drew)); exact HO315.out) hb)
      have n7_ := Aside0.mk (Kd.PB_below (by (with_reducible repeat (first | apply Kd.PB_alloc | apply Kd.PB_drewN | apply Kd.PB_drew)); exact HO318.out) hb)
      have n8_ := Aside0.mk (blk_below (g := gb271) (o := .cells #[.int .i64 a0_0, .int .i64 a0_1, .slice A0_2 l0_2.length c0_2, .slice A0_3 l0_3.length c0_3] 24 (0, 0)) (by (with_reducible repeat (first | refine blk_drewN ?_ _ | refine blk_drew ?_ | refine blk_alloc ?_ _)); exact BK271.out) hb)
      have n9_ := Aside0.mk (blk_below (g := gb290) (o := .cells #[.int .i64 t281, .int .i64 t282, .slice Ao23 t283.length co23, .slice Ao24 t286.length co24] 26 (0, 0)) (by (with_reducible repeat (first | refine blk_drewN ?_ _ | refine blk_drew ?_ | refine blk_alloc ?_ _)); exact BK290.out) hb)
      have n10_ := Aside0.mk (blk_below (g := gb299) (o := .cells #[.int .i64 t291, .int .i64 t292, .slice Ao31 t293.length co31, .slice Ao32 t296.length co32] 26 (0, 0)) (by (with_reducible repeat (first | refine blk_drewN ?_ _ | refine blk_drew ?_ | refine blk_alloc ?_ _)); exact BK299.out) hb)
      have n11_ := Aside0.mk (blk_below (g := gb309) (o := .cells #[.int .i64 t300, .int .i64 t301, .slice Ao39 t302.length co39, .slice Ao40 t305.length co40] 26 (0, 0)) (by (with_reducible repeat (first | refine blk_drewN ?_ _ | refine blk_drew ?_ | refine blk_alloc ?_ _)); exact BK309.out) hb)
      have n12_ := Aside0.mk (below_step (by repeat (first | (with_reducible first | exact HB.out | apply below_alloc | apply pw_below_drewN | apply below_drew1 | refine below_set ?_ GE271.out | refine below_set ?_ GE290.out | refine below_set ?_ GE299.out | refine below_set ?_ GE309.out) | exact HB.out)) hb)
      clear HO_291002
      clear HO_291003
      clear HO_300002
      clear HO_300003
      clear HO_310002
      clear HO_310003
      clear HO315
      clear HO318
      clear BK271
      clear BK290
      clear BK299
      clear BK309
      clear HB
      have HO_291002 := n0_
      have HO_291003 := n1_
      have HO_300002 := n2_
      have HO_300003 := n3_
      have HO_310002 := n4_
      have HO_310003 := n5_
      have HO315 := n6_
      have HO318 := n7_
      have BK271 := n8_
      have BK290 := n9_
      have BK299 := n10_
      have BK309 := n11_
      have HB := n12_
      clear n0_ n1_ n2_ n3_ n4_ n5_ n6_ n7_ n8_ n9_ n10_ n11_ n12_
      (try clear hb)
      (try clear hb2)
      (try clear hk)
      (try clear hi)
      refine hK.out _ _ ⟨(blk_cell BK299.out 0).trans rfl, (blk_cell BK299.out 1).trans rfl, (blk_cell BK299.out 2).trans rfl, (blk_cell BK299.out 3).trans rfl, (blk_cell BK271.out 0).trans rfl, (blk_cell BK271.out 1).trans rfl, (blk_cell BK271.out 2).trans rfl, (blk_cell BK271.out 3).trans rfl⟩ (fun hHeld => ?_)
      clear hK K
      refine norm_ (a' := ?_) ?_ ?_
      rotate_left
      ·show Act.put _ (some 44) _ = _
       simp only [Act.put, List.setIfInBounds_toArray, List.set_cons_zero, List.set_cons_succ, i64_w, i32_w]
       rfl
      refine pure_ (i := 4) (N := some 45) (v := ?_) (a' := ?_) #[true, true, true, true, true] rfl rfl (by kernel_rfl) (fun _ _ _ h => h) (Or.inl ⟨by rfl, ?_⟩) ?_ ?_
      rotate_left
      ·intro w'
       go_simp
       with_reducible rfl
      rotate_left
      ·simp only [Act.put, List.setIfInBounds_toArray, List.set_cons_zero, List.set_cons_succ, i64_w, i32_w]
       rfl
      refine done_ (by kernel_rfl) ?_
      have hnb62 := NB299_271.out
      have hnc62 := NB271_299.out
      have hnb63 := NB299_290.out
      have hnc63 := NB290_299.out
      have hnb64 := NB299_309.out
      have hnc64 := NB309_299.out
      have hcz65_0 : w61.cell? ⟨gb299, 0, none⟩ = some (.int .i64 t291) := (blk_cell BK299.out 0).trans rfl
      have hcz65_1 : w61.cell? ⟨gb299, 1, none⟩ = some (.int .i64 t292) := (blk_cell BK299.out 1).trans rfl
      have hcz65_2 : w61.cell? ⟨gb299, 2, none⟩ = some (.slice Ao31 t293.length co31) := (blk_cell BK299.out 2).trans rfl
      have hcz65_3 : w61.cell? ⟨gb299, 3, none⟩ = some (.slice Ao32 t296.length co32) := (blk_cell BK299.out 3).trans rfl
      have hfz65_0 := blk_frozen BK299.out 0
      have hfz65_1 := blk_frozen BK299.out 1
      have hfz65_2 := blk_frozen BK299.out 2
      have hfz65_3 := blk_frozen BK299.out 3
      go_upto_region 14 with (first | ((with_reducible refine gate_callee (f := 16) rfl ?_); refine goesL_ (some 48) rfl rfl Tryd.func16 (by kernel_rfl) rfl #[.agg #[.int .i64 t291, .int .i64 t292, .slice Ao31 t293.length co31, .slice Ao32 t296.length co32], .int .i64 101] rfl (by (try simp only [List.map_toArray, List.map_cons, List.map_nil]); first | done | rfl | (simp only [List.length_drop, List.length_take]; rfl)) ?_; (with_reducible refine (laws_markFigure.calls kj10 t291 t292 (fun k_ => some k_ = (.slice Ao31 t293.length co31 : Value).ownBlock) (.slice Ao31 t293.length co31) t293 (fun k_ => some k_ = (.slice Ao32 t296.length co32 : Value).ownBlock) (.slice Ao32 t296.length co32) t296 101 t320 t321 t322 w _ ?side1 ?side2 ?side3 ?side4 ?side5 A55.out).mono ?_); (case side1 => repeat (first | (with_reducible first | exact HB.out | apply below_alloc | apply pw_below_drewN | apply below_drew1 | refine below_set ?_ GE271.out | refine below_set ?_ GE290.out | refine below_set ?_ GE299.out | refine below_set ?_ GE309.out) | exact HB.out)); (case side2 => exact Kd.R_tight rfl (Kd.PB_R HO_300002.out)); (case side3 => exact fun k_ e_ => (HO_300002.out.1.1 k_ e_.symm).1.1.2.2.1); (case side4 => exact Kd.R_tight rfl (Kd.PB_R HO_300003.out)); (case side5 => exact fun k_ e_ => (HO_300003.out.1.1 k_ e_.symm).1.1.2.2.1); rintro e w66 ⟨rfl, hy0, hy1, hb, hkp⟩; refine ⟨_, rfl, ?_⟩; have n0_ := Aside0.mk (Kd.R_mono (ok' := fun k_ => some k_ ≠ (.slice Ao24 t286.length co24 : Value).ownBlock ∧ some k_ ≠ (.slice Ao31 t293.length co31 : Value).ownBlock ∧ some k_ ≠ (.slice Ao32 t296.length co32 : Value).ownBlock ∧ some k_ ≠ (.slice Ao39 t302.length co39 : Value).ownBlock ∧ some k_ ≠ (.slice Ao40 t305.length co40 : Value).ownBlock ∧ some k_ ≠ (.slice Ao59 t313.length co59 : Value).ownBlock ∧ some k_ ≠ (.slice Ao60 t316.length co60 : Value).ownBlock) (Kd.R_keptB (HO_291002.out) hkp (fun k_ hk_ hs_ => Or.elim hs_ (fun e_ => (hk_.1.1.2.1) e_) (fun e_ => (hk_.1.1.2.2.1) e_))) (fun k_ hk_ => ⟨hk_.1.1.1.1, hk_.1.1.1.2.1, hk_.1.1.1.2.2.1, hk_.1.1.1.2.2.2.1, hk_.1.1.1.2.2.2.2, hk_.1.1.2, hk_.1.2⟩)); have n1_ := Aside0.mk (Kd.R_mono (ok' := fun k_ => some k_ ≠ (.slice Ao23 t283.length co23 : Value).ownBlock ∧ some k_ ≠ (.slice Ao31 t293.length co31 : Value).ownBlock ∧ some k_ ≠ (.slice Ao32 t296.length co32 : Value).ownBlock ∧ some k_ ≠ (.slice Ao39 t302.length co39 : Value).ownBlock ∧ some k_ ≠ (.slice Ao40 t305.length co40 : Value).ownBlock ∧ some k_ ≠ (.slice Ao59 t313.length co59 : Value).ownBlock ∧ some k_ ≠ (.slice Ao60 t316.length co60 : Value).ownBlock) (Kd.R_keptB (HO_291003.out) hkp (fun k_ hk_ hs_ => Or.elim hs_ (fun e_ => (hk_.1.1.2.1) e_) (fun e_ => (hk_.1.1.2.2.1) e_))) (fun k_ hk_ => ⟨hk_.1.1.1.1, hk_.1.1.1.2.1, hk_.1.1.1.2.2.1, hk_.1.1.1.2.2.2.1, hk_.1.1.1.2.2.2.2, hk_.1.1.2, hk_.1.2⟩)); have n2_ := Aside0.mk (Kd.R_reok rfl hy0 (fun k_ e_ => HO_300002.out.1.1 k_ e_)); have n3_ := Aside0.mk (Kd.R_reok rfl hy1 (fun k_ e_ => HO_300003.out.1.1 k_ e_)); have n4_ := Aside0.mk (Kd.R_mono (ok' := fun k_ => some k_ ≠ (.slice Ao23 t283.length co23 : Value).ownBlock ∧ some k_ ≠ (.slice Ao24 t286.length co24 : Value).ownBlock ∧ some k_ ≠ (.slice Ao31 t293.length co31 : Value).ownBlock ∧ some k_ ≠ (.slice Ao32 t296.length co32 : Value).ownBlock ∧ some k_ ≠ (.slice Ao40 t305.length co40 : Value).ownBlock ∧ some k_ ≠ (.slice Ao59 t313.length co59 : Value).ownBlock ∧ some k_ ≠ (.slice Ao60 t316.length co60 : Value).ownBlock) (Kd.R_keptB (HO_310002.out) hkp (fun k_ hk_ hs_ => Or.elim hs_ (fun e_ => (hk_.1.1.2.2.1) e_) (fun e_ => (hk_.1.1.2.2.2.1) e_))) (fun k_ hk_ => ⟨hk_.1.1.1.1, hk_.1.1.1.2.1, hk_.1.1.1.2.2.1, hk_.1.1.1.2.2.2.1, hk_.1.1.1.2.2.2.2, hk_.1.1.2, hk_.1.2⟩)); have n5_ := Aside0.mk (Kd.R_mono (ok' := fun k_ => some k_ ≠ (.slice Ao23 t283.length co23 : Value).ownBlock ∧ some k_ ≠ (.slice Ao24 t286.length co24 : Value).ownBlock ∧ some k_ ≠ (.slice Ao31 t293.length co31 : Value).ownBlock ∧ some k_ ≠ (.slice Ao32 t296.length co32 : Value).ownBlock ∧ some k_ ≠ (.slice Ao39 t302.length co39 : Value).ownBlock ∧ some k_ ≠ (.slice Ao59 t313.length co59 : Value).ownBlock ∧ some k_ ≠ (.slice Ao60 t316.length co60 : Value).ownBlock) (Kd.R_keptB (HO_310003.out) hkp (fun k_ hk_ hs_ => Or.elim hs_ (fun e_ => (hk_.1.1.2.2.1) e_) (fun e_ => (hk_.1.1.2.2.2.1) e_))) (fun k_ hk_ => ⟨hk_.1.1.1.1, hk_.1.1.1.2.1, hk_.1.1.1.2.2.1, hk_.1.1.1.2.2.2.1, hk_.1.1.1.2.2.2.2, hk_.1.1.2, hk_.1.2⟩)); have n6_ := Aside0.mk (blk_kept (by (with_reducible repeat (first | refine blk_drewN ?_ _ | refine blk_drew ?_ | refine blk_alloc ?_ _)); exact BK271.out) hkp (fun hs_ => Or.elim hs_ (fun e_ => (fun e_ => (Kd.R_ne (Kd.PB_R HO_300002.out) BK271.out (by decide)) e_) e_) (fun e_ => (fun e_ => (Kd.R_ne (Kd.PB_R HO_300003.out) BK271.out (by decide)) e_) e_))); have n7_ := Aside0.mk (blk_kept (by (with_reducible repeat (first | refine blk_drewN ?_ _ | refine blk_drew ?_ | refine blk_alloc ?_ _)); exact BK290.out) hkp (fun hs_ => Or.elim hs_ (fun e_ => (fun e_ => (Kd.R_ne (Kd.PB_R HO_300002.out) BK290.out (by decide)) e_) e_) (fun e_ => (fun e_ => (Kd.R_ne (Kd.PB_R HO_300003.out) BK290.out (by decide)) e_) e_))); have n8_ := Aside0.mk (blk_kept (by (with_reducible repeat (first | refine blk_drewN ?_ _ | refine blk_drew ?_ | refine blk_alloc ?_ _)); exact BK299.out) hkp (fun hs_ => Or.elim hs_ (fun e_ => (fun e_ => (Kd.R_ne (Kd.PB_R HO_300002.out) BK299.out (by decide)) e_) e_) (fun e_ => (fun e_ => (Kd.R_ne (Kd.PB_R HO_300003.out) BK299.out (by decide)) e_) e_))); have n9_ := Aside0.mk (blk_kept (by (with_reducible repeat (first | refine blk_drewN ?_ _ | refine blk_drew ?_ | refine blk_alloc ?_ _)); exact BK309.out) hkp (fun hs_ => Or.elim hs_ (fun e_ => (fun e_ => (Kd.R_ne (Kd.PB_R HO_300002.out) BK309.out (by decide)) e_) e_) (fun e_ => (fun e_ => (Kd.R_ne (Kd.PB_R HO_300003.out) BK309.out (by decide)) e_) e_))); have n10_ := Aside0.mk (Kd.PB_mono (ok' := fun k_ => some k_ ≠ (.slice Ao23 t283.length co23 : Value).ownBlock ∧ some k_ ≠ (.slice Ao24 t286.length co24 : Value).ownBlock ∧ some k_ ≠ (.slice Ao31 t293.length co31 : Value).ownBlock ∧ some k_ ≠ (.slice Ao32 t296.length co32 : Value).ownBlock ∧ some k_ ≠ (.slice Ao39 t302.length co39 : Value).ownBlock ∧ some k_ ≠ (.slice Ao40 t305.length co40 : Value).ownBlock ∧ some k_ ≠ (.slice Ao60 t316.length co60 : Value).ownBlock) (Kd.PB_keptB (HO315.out) hkp (fun k_ hk_ hs_ => Or.elim hs_ (fun e_ => (hk_.1.1.1.2) e_) (fun e_ => (hk_.1.1.2) e_))) (fun k_ hk_ => ⟨hk_.1.1.1.1.1.1.2, hk_.1.1.1.1.1.2, hk_.1.1.1.1.2, hk_.1.1.1.2, hk_.1.1.2, hk_.1.2, hk_.1.1.1.1.1.1.1⟩)); have n11_ := Aside0.mk (Kd.PB_mono (ok' := fun k_ => some k_ ≠ (.slice Ao23 t283.length co23 : Value).ownBlock ∧ some k_ ≠ (.slice Ao24 t286.length co24 : Value).ownBlock ∧ some k_ ≠ (.slice Ao31 t293.length co31 : Value).ownBlock ∧ some k_ ≠ (.slice Ao32 t296.length co32 : Value).ownBlock ∧ some k_ ≠ (.slice Ao39 t302.length co39 : Value).ownBlock ∧ some k_ ≠ (.slice Ao40 t305.length co40 : Value).ownBlock ∧ some k_ ≠ (.slice Ao59 t313.length co59 : Value).ownBlock) (Kd.PB_keptB (HO318.out) hkp (fun k_ hk_ hs_ => Or.elim hs_ (fun e_ => (hk_.1.1.1.2) e_) (fun e_ => (hk_.1.1.2) e_))) (fun k_ hk_ => ⟨hk_.1.1.1.1.1.1.2, hk_.1.1.1.1.1.2, hk_.1.1.1.1.2, hk_.1.1.1.2, hk_.1.1.2, hk_.1.2, hk_.1.1.1.1.1.1.1⟩)); have n12_ := Aside0.mk (hb); clear HO_291002; clear HO_291003; clear HO_300002; clear HO_300003; clear HO_310002; clear HO_310003; clear BK271; clear BK290; clear BK299; clear BK309; clear HO315; clear HO318; clear HB; have HO_291002 := n0_; have HO_291003 := n1_; have HO_300002 := n2_; have HO_300003 := n3_; have HO_310002 := n4_; have HO_310003 := n5_; have BK271 := n6_; have BK290 := n7_; have BK299 := n8_; have BK309 := n9_; have HO315 := n10_; have HO318 := n11_; have HB := n12_; clear n0_ n1_ n2_ n3_ n4_ n5_ n6_ n7_ n8_ n9_ n10_ n11_ n12_; (try clear hb); (try clear hkp); (try clear hy0); (try clear hy1)))
      (try simp only [Act.put, List.setIfInBounds_toArray, List.set_cons_zero, List.set_cons_succ])
      go_cut [61] (fun v61 wc => ∃ (kq : Nat) (x61_55 : Bool), v61 = .bool x61_55 ∧ Aside0 (laws_FnExactMissingFigure.j1 kq t289 x61_55 a0_0 a0_1 l0_2 l0_3 t281 t282 t283 t286 t300 t301 t302 t305 = some r) ∧ Aside0 (kq ≤ kj10) ∧ Aside0 (Kd.R (Kd.int .i64) 3 wc w.heap.size (fun k_ => some k_ ≠ ((.slice Ao24 t286.length co24) : Value).ownBlock ∧ some k_ ≠ ((.slice Ao31 t293.length co31) : Value).ownBlock ∧ some k_ ≠ ((.slice Ao32 t296.length co32) : Value).ownBlock ∧ some k_ ≠ ((.slice Ao39 t302.length co39) : Value).ownBlock ∧ some k_ ≠ ((.slice Ao40 t305.length co40) : Value).ownBlock) (.slice Ao23 t283.length co23) t283) ∧ Aside0 (Kd.R (Kd.int .i64) 3 wc w.heap.size (fun k_ => some k_ ≠ ((.slice Ao23 t283.length co23) : Value).ownBlock ∧ some k_ ≠ ((.slice Ao31 t293.length co31) : Value).ownBlock ∧ some k_ ≠ ((.slice Ao32 t296.length co32) : Value).ownBlock ∧ some k_ ≠ ((.slice Ao39 t302.length co39) : Value).ownBlock ∧ some k_ ≠ ((.slice Ao40 t305.length co40) : Value).ownBlock) (.slice Ao24 t286.length co24) t286) ∧ Aside0 (Kd.R (Kd.int .i64) 3 wc w.heap.size (fun k_ => some k_ ≠ ((.slice Ao23 t283.length co23) : Value).ownBlock ∧ some k_ ≠ ((.slice Ao24 t286.length co24) : Value).ownBlock ∧ some k_ ≠ ((.slice Ao32 t296.length co32) : Value).ownBlock ∧ some k_ ≠ ((.slice Ao39 t302.length co39) : Value).ownBlock ∧ some k_ ≠ ((.slice Ao40 t305.length co40) : Value).ownBlock) (.slice Ao31 t293.length co31) t321) ∧ Aside0 (Kd.R (Kd.int .i64) 3 wc w.heap.size (fun k_ => some k_ ≠ ((.slice Ao23 t283.length co23) : Value).ownBlock ∧ some k_ ≠ ((.slice Ao24 t286.length co24) : Value).ownBlock ∧ some k_ ≠ ((.slice Ao31 t293.length co31) : Value).ownBlock ∧ some k_ ≠ ((.slice Ao39 t302.length co39) : Value).ownBlock ∧ some k_ ≠ ((.slice Ao40 t305.length co40) : Value).ownBlock) (.slice Ao32 t296.length co32) t322) ∧ Aside0 (Kd.R (Kd.int .i64) 3 wc w.heap.size (fun k_ => some k_ ≠ ((.slice Ao23 t283.length co23) : Value).ownBlock ∧ some k_ ≠ ((.slice Ao24 t286.length co24) : Value).ownBlock ∧ some k_ ≠ ((.slice Ao31 t293.length co31) : Value).ownBlock ∧ some k_ ≠ ((.slice Ao32 t296.length co32) : Value).ownBlock ∧ some k_ ≠ ((.slice Ao40 t305.length co40) : Value).ownBlock) (.slice Ao39 t302.length co39) t302) ∧ Aside0 (Kd.R (Kd.int .i64) 3 wc w.heap.size (fun k_ => some k_ ≠ ((.slice Ao23 t283.length co23) : Value).ownBlock ∧ some k_ ≠ ((.slice Ao24 t286.length co24) : Value).ownBlock ∧ some k_ ≠ ((.slice Ao31 t293.length co31) : Value).ownBlock ∧ some k_ ≠ ((.slice Ao32 t296.length co32) : Value).ownBlock ∧ some k_ ≠ ((.slice Ao39 t302.length co39) : Value).ownBlock) (.slice Ao40 t305.length co40) t305) ∧ Aside0 (wc.heap[gb271]? = some (.cells #[.int .i64 a0_0, .int .i64 a0_1, (.slice A0_2 l0_2.length c0_2), (.slice A0_3 l0_3.length c0_3)] 24 (0, 0))) ∧ Aside0 (wc.heap[gb290]? = some (.cells #[.int .i64 t281, .int .i64 t282, (.slice Ao23 t283.length co23), (.slice Ao24 t286.length co24)] 26 (0, 0))) ∧ Aside0 (wc.heap[gb299]? = some (.cells #[.int .i64 t291, .int .i64 t292, (.slice Ao31 t293.length co31), (.slice Ao32 t296.length co32)] 26 (0, 0))) ∧ Aside0 (wc.heap[gb309]? = some (.cells #[.int .i64 t300, .int .i64 t301, (.slice Ao39 t302.length co39), (.slice Ao40 t305.length co40)] 26 (0, 0))) ∧ Aside0 (Below w.heap.size w wc))
      case first =>
       have H := HC56.out
       clear HC56
       by_cases c67 : t320 < 0
       ·rw [if_pos c67] at H
        have c67b0 : decide (t320 < 0) = true := decide_eq_true c67
        clear c67
        (first | rw [c67b0] | (simp only [i64_w, i32_w]; rw [c67b0]) | skip)
        exact absurd HR_.out (by cases kj10 <;> simp [laws_FnExactMissingFigure.j1] at H <;> first | simp [← H] | simp [H] | simp_all)
       ·rw [if_neg c67] at H
        have c67b0 : decide (t320 < 0) = false := decide_eq_false c67
        clear c67
        (first | rw [c67b0] | (simp only [i64_w, i32_w]; rw [c67b0]) | skip)
        replace H := Option.bind_eq_some_iff.mp H
        obtain ⟨t323, A680, H⟩ := H
        replace H : (if t323 = true then (laws_FnExactMissingFigure.j1 kj10 t289 (t308 != t289) a0_0 a0_1 l0_2 l0_3 t281 t282 t283 t286 t300 t301 t302 t305) else (laws_FnExactMissingFigure.j1 kj10 t289 true a0_0 a0_1 l0_2 l0_3 t281 t282 t283 t286 t300 t301 t302 t305)) = some r := H
        have A68 := Aside0.mk A680
        clear A680
        by_cases c69 : t323 = true
        ·subst c69
         have H1 : (laws_FnExactMissingFigure.j1 kj10 t289 (t308 != t289) a0_0 a0_1 l0_2 l0_3 t281 t282 t283 t286 t300 t301 t302 t305) = some r := by rw [if_pos rfl] at H; exact H
         clear H
         have H := H1
         clear H1
         have H' := Aside0.mk H
         clear H
         have hnb70 := NB309_271.out
         have hnc70 := NB271_309.out
         have hnb71 := NB309_290.out
         have hnc71 := NB290_309.out
         have hnb72 := NB309_299.out
         have hnc72 := NB299_309.out
         have hcz73_0 : w66.cell? ⟨gb309, 0, none⟩ = some (.int .i64 t300) := (blk_cell BK309.out 0).trans rfl
         have hcz73_1 : w66.cell? ⟨gb309, 1, none⟩ = some (.int .i64 t301) := (blk_cell BK309.out 1).trans rfl
         have hcz73_2 : w66.cell? ⟨gb309, 2, none⟩ = some (.slice Ao39 t302.length co39) := (blk_cell BK309.out 2).trans rfl
         have hcz73_3 : w66.cell? ⟨gb309, 3, none⟩ = some (.slice Ao40 t305.length co40) := (blk_cell BK309.out 3).trans rfl
         have hfz73_0 := blk_frozen BK309.out 0
         have hfz73_1 := blk_frozen BK309.out 1
         have hfz73_2 := blk_frozen BK309.out 2
         have hfz73_3 := blk_frozen BK309.out 3
         have hnb74 := NB290_271.out
         have hnc74 := NB271_290.out
         have hnb75 := NB290_299.out
         have hnc75 := NB299_290.out
         have hcz76_0 : w66.cell? ⟨gb290, 0, none⟩ = some (.int .i64 t281) := (blk_cell BK290.out 0).trans rfl
         have hcz76_1 : w66.cell? ⟨gb290, 1, none⟩ = some (.int .i64 t282) := (blk_cell BK290.out 1).trans rfl
         have hcz76_2 : w66.cell? ⟨gb290, 2, none⟩ = some (.slice Ao23 t283.length co23) := (blk_cell BK290.out 2).trans rfl
         have hcz76_3 : w66.cell? ⟨gb290, 3, none⟩ = some (.slice Ao24 t286.length co24) := (blk_cell BK290.out 3).trans rfl
         have hfz76_0 := blk_frozen BK290.out 0
         have hfz76_1 := blk_frozen BK290.out 1
         have hfz76_2 := blk_frozen BK290.out 2
         have hfz76_3 := blk_frozen BK290.out 3
         go_wp2_with (first | (go_at_call 14; (with_reducible refine (laws_eqFigure.calls kj10 t300 t301 _ _ t302 _ _ t305 t281 t282 _ _ t283 _ _ t286 true _ ?side1 ?side2 ?side3 ?side4 ?side5 ?side6 ?side7 ?side8 A68.out).mono ?_); (case side1 => repeat (first | exact (Kd.R_reads' HO_310002.out).2.2 | (with_reducible refine Kd.C_alloc ?_ _) | (with_reducible refine Kd.C_drewN ?_ _) | (with_reducible refine Kd.C_drew ?_))); (case side2 => exact (Kd.R_reads' HO_310002.out).2.1); (case side3 => repeat (first | exact (Kd.R_reads' HO_310003.out).2.2 | (with_reducible refine Kd.C_alloc ?_ _) | (with_reducible refine Kd.C_drewN ?_ _) | (with_reducible refine Kd.C_drew ?_))); (case side4 => exact (Kd.R_reads' HO_310003.out).2.1); (case side5 => repeat (first | exact (Kd.R_reads' HO_291002.out).2.2 | (with_reducible refine Kd.C_alloc ?_ _) | (with_reducible refine Kd.C_drewN ?_ _) | (with_reducible refine Kd.C_drew ?_))); (case side6 => exact (Kd.R_reads' HO_291002.out).2.1); (case side7 => repeat (first | exact (Kd.R_reads' HO_291003.out).2.2 | (with_reducible refine Kd.C_alloc ?_ _) | (with_reducible refine Kd.C_drewN ?_ _) | (with_reducible refine Kd.C_drew ?_))); (case side8 => exact (Kd.R_reads' HO_291003.out).2.1); rintro e w77 ⟨rfl, hb⟩; have n0_ := Aside0.mk (Kd.R_below (by (with_reducible repeat (first | apply Kd.R_alloc | apply Kd.R_drewN | apply Kd.R_drew)); exact HO_291002.out) hb); have n1_ := Aside0.mk (Kd.R_below (by (with_reducible repeat (first | apply Kd.R_alloc | apply Kd.R_drewN | apply Kd.R_drew)); exact HO_291003.out) hb); have n2_ := Aside0.mk (Kd.R_below (by (with_reducible repeat (first | apply Kd.R_alloc | apply Kd.R_drewN | apply Kd.R_drew)); exact HO_300002.out) hb); have n3_ := Aside0.mk (Kd.R_below (by (with_reducible repeat (first | apply Kd.R_alloc | apply Kd.R_drewN | apply Kd.R_drew)); exact HO_300003.out) hb); have n4_ := Aside0.mk (Kd.R_below (by (with_reducible repeat (first | apply Kd.R_alloc | apply Kd.R_drewN | apply Kd.R_drew)); exact HO_310002.out) hb); have n5_ := Aside0.mk (Kd.R_below (by (with_reducible repeat (first | apply Kd.R_alloc | apply Kd.R_drewN | apply Kd.R_drew)); exact HO_310003.out) hb); have n6_ := Aside0.mk (Kd.PB_below (by (with_reducible repeat (first | apply Kd.PB_alloc | apply Kd.PB_drewN | apply Kd.PB_drew)); exact HO315.out) hb); have n7_ := Aside0.mk (Kd.PB_below (by (with_reducible repeat (first | apply Kd.PB_alloc | apply Kd.PB_drewN | apply Kd.PB_drew)); exact HO318.out) hb); have n8_ := Aside0.mk (blk_below (g := gb271) (o := .cells #[.int .i64 a0_0, .int .i64 a0_1, .slice A0_2 l0_2.length c0_2, .slice A0_3 l0_3.length c0_3] 24 (0, 0)) (by (with_reducible repeat (first | refine blk_drewN ?_ _ | refine blk_drew ?_ | refine blk_alloc ?_ _)); exact BK271.out) hb); have n9_ := Aside0.mk (blk_below (g := gb290) (o := .cells #[.int .i64 t281, .int .i64 t282, .slice Ao23 t283.length co23, .slice Ao24 t286.length co24] 26 (0, 0)) (by (with_reducible repeat (first | refine blk_drewN ?_ _ | refine blk_drew ?_ | refine blk_alloc ?_ _)); exact BK290.out) hb); have n10_ := Aside0.mk (blk_below (g := gb299) (o := .cells #[.int .i64 t291, .int .i64 t292, .slice Ao31 t293.length co31, .slice Ao32 t296.length co32] 26 (0, 0)) (by (with_reducible repeat (first | refine blk_drewN ?_ _ | refine blk_drew ?_ | refine blk_alloc ?_ _)); exact BK299.out) hb); have n11_ := Aside0.mk (blk_below (g := gb309) (o := .cells #[.int .i64 t300, .int .i64 t301, .slice Ao39 t302.length co39, .slice Ao40 t305.length co40] 26 (0, 0)) (by (with_reducible repeat (first | refine blk_drewN ?_ _ | refine blk_drew ?_ | refine blk_alloc ?_ _)); exact BK309.out) hb); have n12_ := Aside0.mk (below_step (by repeat (first | (with_reducible first | exact HB.out | apply below_alloc | apply pw_below_drewN | apply below_drew1 | refine below_set ?_ GE271.out | refine below_set ?_ GE290.out | refine below_set ?_ GE299.out | refine below_set ?_ GE309.out) | exact HB.out)) hb); clear HO_291002; clear HO_291003; clear HO_300002; clear HO_300003; clear HO_310002; clear HO_310003; clear HO315; clear HO318; clear BK271; clear BK290; clear BK299; clear BK309; clear HB; have HO_291002 := n0_; have HO_291003 := n1_; have HO_300002 := n2_; have HO_300003 := n3_; have HO_310002 := n4_; have HO_310003 := n5_; have HO315 := n6_; have HO318 := n7_; have BK271 := n8_; have BK290 := n9_; have BK299 := n10_; have BK309 := n11_; have HB := n12_; clear n0_ n1_ n2_ n3_ n4_ n5_ n6_ n7_ n8_ n9_ n10_ n11_ n12_; (try clear hb); (try clear hb2); (try clear hk); (try clear hi)))
         go_meet
         case rel => exact ⟨_, ((t308 != t289)), (by first | rfl | (simp; done) | (simp [*]; done)), H', ⟨by have := HJ10.out; first | omega | exact Nat.le_refl _⟩, ⟨by (with_reducible repeat (first | apply Kd.R_alloc | apply Kd.R_drewN | apply Kd.R_drew)); exact Kd.R_mono HO_291002.out (fun _ hk => ⟨hk.1, ⟨hk.2.1, ⟨hk.2.2.1, ⟨hk.2.2.2.1, hk.2.2.2.2.1⟩⟩⟩⟩)⟩, ⟨by (with_reducible repeat (first | apply Kd.R_alloc | apply Kd.R_drewN | apply Kd.R_drew)); exact Kd.R_mono HO_291003.out (fun _ hk => ⟨hk.1, ⟨hk.2.1, ⟨hk.2.2.1, ⟨hk.2.2.2.1, hk.2.2.2.2.1⟩⟩⟩⟩)⟩, ⟨by (with_reducible repeat (first | apply Kd.R_alloc | apply Kd.R_drewN | apply Kd.R_drew)); exact Kd.R_mono HO_300002.out (fun _ hk => ⟨hk.1.1.1, ⟨hk.1.1.2.1, ⟨hk.1.1.2.2.1, ⟨hk.1.1.2.2.2.1, hk.1.1.2.2.2.2⟩⟩⟩⟩)⟩, ⟨by (with_reducible repeat (first | apply Kd.R_alloc | apply Kd.R_drewN | apply Kd.R_drew)); exact Kd.R_mono HO_300003.out (fun _ hk => ⟨hk.1.1.1, ⟨hk.1.1.2.1, ⟨hk.1.1.2.2.1, ⟨hk.1.1.2.2.2.1, hk.1.1.2.2.2.2⟩⟩⟩⟩)⟩, ⟨by (with_reducible repeat (first | apply Kd.R_alloc | apply Kd.R_drewN | apply Kd.R_drew)); exact Kd.R_mono HO_310002.out (fun _ hk => ⟨hk.1, ⟨hk.2.1, ⟨hk.2.2.1, ⟨hk.2.2.2.1, hk.2.2.2.2.1⟩⟩⟩⟩)⟩, ⟨by (with_reducible repeat (first | apply Kd.R_alloc | apply Kd.R_drewN | apply Kd.R_drew)); exact Kd.R_mono HO_310003.out (fun _ hk => ⟨hk.1, ⟨hk.2.1, ⟨hk.2.2.1, ⟨hk.2.2.2.1, hk.2.2.2.2.1⟩⟩⟩⟩)⟩, ⟨by (with_reducible repeat (first | refine blk_drewN ?_ _ | refine blk_drew ?_ | refine blk_alloc ?_ _)); exact BK271.out⟩, ⟨by (with_reducible repeat (first | refine blk_drewN ?_ _ | refine blk_drew ?_ | refine blk_alloc ?_ _)); exact BK290.out⟩, ⟨by (with_reducible repeat (first | refine blk_drewN ?_ _ | refine blk_drew ?_ | refine blk_alloc ?_ _)); exact BK299.out⟩, ⟨by (with_reducible repeat (first | refine blk_drewN ?_ _ | refine blk_drew ?_ | refine blk_alloc ?_ _)); exact BK309.out⟩, ⟨by repeat (first | (with_reducible first | exact HB.out | apply below_alloc | apply pw_below_drewN | apply below_drew1 | refine below_set ?_ GE271.out | refine below_set ?_ GE290.out | refine below_set ?_ GE299.out | refine below_set ?_ GE309.out) | exact HB.out)⟩⟩
        ·replace c69 := Bool.eq_false_iff.mpr c69
         subst c69
         have H1 : (laws_FnExactMissingFigure.j1 kj10 t289 true a0_0 a0_1 l0_2 l0_3 t281 t282 t283 t286 t300 t301 t302 t305) = some r := by rw [if_neg (show ¬ (false = true) by decide)] at H; exact H
         clear H
         have H := H1
         clear H1
         exact absurd HR_.out (by cases kj10 <;> simp [laws_FnExactMissingFigure.j1] at H <;> first | simp [← H] | simp [H] | simp_all)
      case rest =>
       clear HC56
       try clear c1
       try clear c2
       try clear p2
       try clear c3
       try clear c3b0
       try clear c4
       try clear c5
       try clear c6
       try clear c7
       try clear c10
       try clear c12
       try clear c14
       try clear c15
       try clear c16
       try clear c18
       try clear c19
       try clear c21
       try clear c28
       try clear c29
       try clear c35
       try clear c36
       try clear c37
       try clear c42
       try clear c43
       try clear c44
       try clear c45
       try clear c47
       try clear c48
       try clear c51
       try clear c54
       try clear c62
       try clear c63
       try clear c64
       try clear c67
       try clear c67b0
       try clear c69
       try clear c70
       try clear c71
       try clear c72
       try clear c74
       try clear c75
       try clear hcz13_0
       try clear hcz13_1
       try clear hcz13_2
       try clear hcz13_3
       try clear hcz15_0
       try clear hcz15_1
       try clear hcz15_2
       try clear hcz15_3
       try clear hcz22_0
       try clear hcz22_1
       try clear hcz22_2
       try clear hcz22_3
       try clear hcz25_0
       try clear hcz25_1
       try clear hcz25_2
       try clear hcz25_3
       try clear hcz30_0
       try clear hcz30_1
       try clear hcz30_2
       try clear hcz30_3
       try clear hcz38_0
       try clear hcz38_1
       try clear hcz38_2
       try clear hcz38_3
       try clear hcz46_0
       try clear hcz46_1
       try clear hcz46_2
       try clear hcz46_3
       try clear hcz49_0
       try clear hcz49_1
       try clear hcz49_2
       try clear hcz49_3
       try clear hcz5_0
       try clear hcz5_1
       try clear hcz5_2
       try clear hcz5_3
       try clear hcz65_0
       try clear hcz65_1
       try clear hcz65_2
       try clear hcz65_3
       try clear hcz73_0
       try clear hcz73_1
       try clear hcz73_2
       try clear hcz73_3
       try clear hcz76_0
       try clear hcz76_1
       try clear hcz76_2
       try clear hcz76_3
       try clear hfz13_0
       try clear hfz13_1
       try clear hfz13_2
       try clear hfz13_3
       try clear hfz15_0
       try clear hfz15_1
       try clear hfz15_2
       try clear hfz15_3
       try clear hfz22_0
       try clear hfz22_1
       try clear hfz22_2
       try clear hfz22_3
       try clear hfz25_0
       try clear hfz25_1
       try clear hfz25_2
       try clear hfz25_3
       try clear hfz30_0
       try clear hfz30_1
       try clear hfz30_2
       try clear hfz30_3
       try clear hfz38_0
       try clear hfz38_1
       try clear hfz38_2
       try clear hfz38_3
       try clear hfz46_0
       try clear hfz46_1
       try clear hfz46_2
       try clear hfz46_3
       try clear hfz49_0
       try clear hfz49_1
       try clear hfz49_2
       try clear hfz49_3
       try clear hfz5_0
       try clear hfz5_1
       try clear hfz5_2
       try clear hfz5_3
       try clear hfz65_0
       try clear hfz65_1
       try clear hfz65_2
       try clear hfz65_3
       try clear hfz73_0
       try clear hfz73_1
       try clear hfz73_2
       try clear hfz73_3
       try clear hfz76_0
       try clear hfz76_1
       try clear hfz76_2
       try clear hfz76_3
       try clear p2
       obtain ⟨kq, x61_55, rfl, HA, HJ55, HO_291002, HO_291003, HO_300002, HO_300003, HO_310002, HO_310003, BK271, BK290, BK299, BK309, HB⟩ := hcut
       have hl300002_55 := (Kd.R_reads' HO_300002.out).1
       rw [hl300002_55] at HO_300002
       (try simp only [hl300002_55])
       (try simp only [hl300002_55] at BK271)
       (try simp only [hl300002_55] at BK290)
       (try simp only [hl300002_55] at BK299)
       (try simp only [hl300002_55] at BK309)
       (try simp only [hl300002_55] at HO_291002)
       (try simp only [hl300002_55] at HO_291003)
       (try simp only [hl300002_55] at HO_300003)
       (try simp only [hl300002_55] at HO_310002)
       (try simp only [hl300002_55] at HO_310003)
       have hl300003_55 := (Kd.R_reads' HO_300003.out).1
       rw [hl300003_55] at HO_300003
       (try simp only [hl300003_55])
       (try simp only [hl300003_55] at BK271)
       (try simp only [hl300003_55] at BK290)
       (try simp only [hl300003_55] at BK299)
       (try simp only [hl300003_55] at BK309)
       (try simp only [hl300003_55] at HO_291002)
       (try simp only [hl300003_55] at HO_291003)
       (try simp only [hl300003_55] at HO_300002)
       (try simp only [hl300003_55] at HO_310002)
       (try simp only [hl300003_55] at HO_310003)
       cases kq with
       | zero => exact absurd HA.out (by simp [laws_FnExactMissingFigure.j1])
       | succ kj55 =>
        have H := HA.out
        clear HA
        simp only [laws_FnExactMissingFigure.j1] at H
        by_cases c78 : x61_55 = true
        ·subst c78
         have H1 : (some false) = some r := by rw [if_pos rfl] at H; exact H
         clear H
         have H := H1
         clear H1
         exact absurd ((Option.some.inj H).trans HR_.out) Bool.false_ne_true
        ·replace c78 := Bool.eq_false_iff.mpr c78
         subst c78
         have H1 : ((laws_markFigure.f kj55 t300 t301 t302 t305 101).bind fun bt324 => ((laws_heldFigure.f kj55 t300 t301 bt324.2.1 bt324.2.2 101).bind fun t327 => (if t327 < 0 then (some false) else (if t327 = bt324.1 then ((laws_toFigure.f a0_0 a0_1 l0_2 l0_3 true).bind fun bt328 => ((impl_MissingFigure.f kj55 bt328.1 bt328.2.1 bt328.2.2.1 bt328.2.2.2).bind fun bt336 => ((laws_eqFigure.f kj55 bt336.1 bt336.2.1 bt336.2.2.1 bt336.2.2.2.1 t281 t282 t283 t286).bind fun t346 => (if t346 = true then (laws_FnExactMissingFigure.j2 kj55 bt324.1 (bt336.2.2.2.2 != t289) t300 t301 bt324.2.1 bt324.2.2) else (laws_FnExactMissingFigure.j2 kj55 bt324.1 true t300 t301 bt324.2.1 bt324.2.2))))) else (some false))))) = some r := by rw [if_neg (show ¬ (false = true) by decide)] at H; exact H
         clear H
         have H := H1
         clear H1
         replace H := Option.bind_eq_some_iff.mp H
         obtain ⟨⟨t324, t325, t326⟩, A790, H⟩ := H
         replace H : ((laws_heldFigure.f kj55 t300 t301 t325 t326 101).bind fun t327 => (if t327 < 0 then (some false) else (if t327 = t324 then ((laws_toFigure.f a0_0 a0_1 l0_2 l0_3 true).bind fun bt328 => ((impl_MissingFigure.f kj55 bt328.1 bt328.2.1 bt328.2.2.1 bt328.2.2.2).bind fun bt336 => ((laws_eqFigure.f kj55 bt336.1 bt336.2.1 bt336.2.2.1 bt336.2.2.2.1 t281 t282 t283 t286).bind fun t346 => (if t346 = true then (laws_FnExactMissingFigure.j2 kj55 t324 (bt336.2.2.2.2 != t289) t300 t301 t325 t326) else (laws_FnExactMissingFigure.j2 kj55 t324 true t300 t301 t325 t326))))) else (some false)))) = some r := H
         have A79 := Aside0.mk A790
         clear A790
         replace H := Option.bind_eq_some_iff.mp H
         obtain ⟨t327, A800, H⟩ := H
         replace H : (if t327 < 0 then (some false) else (if t327 = t324 then ((laws_toFigure.f a0_0 a0_1 l0_2 l0_3 true).bind fun bt328 => ((impl_MissingFigure.f kj55 bt328.1 bt328.2.1 bt328.2.2.1 bt328.2.2.2).bind fun bt336 => ((laws_eqFigure.f kj55 bt336.1 bt336.2.1 bt336.2.2.1 bt336.2.2.2.1 t281 t282 t283 t286).bind fun t346 => (if t346 = true then (laws_FnExactMissingFigure.j2 kj55 t324 (bt336.2.2.2.2 != t289) t300 t301 t325 t326) else (laws_FnExactMissingFigure.j2 kj55 t324 true t300 t301 t325 t326))))) else (some false))) = some r := H
         have A80 := Aside0.mk A800
         clear A800
         by_cases c81 : t327 < 0
         ·rw [if_pos c81] at H
          have c81b0 : decide (t327 < 0) = true := decide_eq_true c81
          clear c81
          exact absurd ((Option.some.inj H).trans HR_.out) Bool.false_ne_true
         ·rw [if_neg c81] at H
          have c81b0 : decide (t327 < 0) = false := decide_eq_false c81
          clear c81
          by_cases c82 : t327 = t324
          ·rw [if_pos c82] at H
           have c82b0 : (t327 == t324) = true := beq_iff_eq.mpr c82
           have c82b1 : (t327 != t324) = false := bne_eq_false_iff_eq.mpr c82
           clear c82
           replace H := Option.bind_eq_some_iff.mp H
           obtain ⟨⟨t328, t329, t330, t333⟩, A830, H⟩ := H
           replace H : ((impl_MissingFigure.f kj55 t328 t329 t330 t333).bind fun bt336 => ((laws_eqFigure.f kj55 bt336.1 bt336.2.1 bt336.2.2.1 bt336.2.2.2.1 t281 t282 t283 t286).bind fun t346 => (if t346 = true then (laws_FnExactMissingFigure.j2 kj55 t324 (bt336.2.2.2.2 != t289) t300 t301 t325 t326) else (laws_FnExactMissingFigure.j2 kj55 t324 true t300 t301 t325 t326)))) = some r := H
           have A83 := Aside0.mk A830
           clear A830
           replace H := Option.bind_eq_some_iff.mp H
           obtain ⟨⟨t336, t337, t338, t341, t344⟩, A840, H⟩ := H
           replace H : ((laws_eqFigure.f kj55 t336 t337 t338 t341 t281 t282 t283 t286).bind fun t346 => (if t346 = true then (laws_FnExactMissingFigure.j2 kj55 t324 (t344 != t289) t300 t301 t325 t326) else (laws_FnExactMissingFigure.j2 kj55 t324 true t300 t301 t325 t326))) = some r := H
           have A84 := Aside0.mk A840
           clear A840
           have HC85 := Aside0.mk H
           clear H
           have hnb86 := NB309_271.out
           have hnc86 := NB271_309.out
           have hnb87 := NB309_290.out
           have hnc87 := NB290_309.out
           have hnb88 := NB309_299.out
           have hnc88 := NB299_309.out
           have hcz89_0 : wc.cell? ⟨gb309, 0, none⟩ = some (.int .i64 t300) := (blk_cell BK309.out 0).trans rfl
           have hcz89_1 : wc.cell? ⟨gb309, 1, none⟩ = some (.int .i64 t301) := (blk_cell BK309.out 1).trans rfl
           have hcz89_2 : wc.cell? ⟨gb309, 2, none⟩ = some (.slice Ao39 t302.length co39) := (blk_cell BK309.out 2).trans rfl
           have hcz89_3 : wc.cell? ⟨gb309, 3, none⟩ = some (.slice Ao40 t305.length co40) := (blk_cell BK309.out 3).trans rfl
           have hfz89_0 := blk_frozen BK309.out 0
           have hfz89_1 := blk_frozen BK309.out 1
           have hfz89_2 := blk_frozen BK309.out 2
           have hfz89_3 := blk_frozen BK309.out 3
           go_upto_region 25 with (first | ((with_reducible refine gate_callee (f := 16) rfl ?_); refine goesL_ (some 64) rfl rfl Tryd.func16 (by kernel_rfl) rfl #[.agg #[.int .i64 t300, .int .i64 t301, .slice Ao39 t302.length co39, .slice Ao40 t305.length co40], .int .i64 101] rfl (by (try simp only [List.map_toArray, List.map_cons, List.map_nil]); first | done | rfl | (simp only [List.length_drop, List.length_take]; rfl)) ?_; (with_reducible refine (laws_markFigure.calls kj55 t300 t301 (fun k_ => some k_ = (.slice Ao39 t302.length co39 : Value).ownBlock) (.slice Ao39 t302.length co39) t302 (fun k_ => some k_ = (.slice Ao40 t305.length co40 : Value).ownBlock) (.slice Ao40 t305.length co40) t305 101 t324 t325 t326 w _ ?side1 ?side2 ?side3 ?side4 ?side5 A79.out).mono ?_); (case side1 => repeat (first | (with_reducible first | exact HB.out | apply below_alloc | apply pw_below_drewN | apply below_drew1 | refine below_set ?_ GE271.out | refine below_set ?_ GE290.out | refine below_set ?_ GE299.out | refine below_set ?_ GE309.out) | exact HB.out)); (case side2 => exact Kd.R_tight rfl HO_310002.out); (case side3 => exact fun k_ e_ => (HO_310002.out.1 k_ e_.symm).2.2.2.2); (case side4 => exact Kd.R_tight rfl HO_310003.out); (case side5 => exact fun k_ e_ => (HO_310003.out.1 k_ e_.symm).2.2.2.2); rintro e w90 ⟨rfl, hy0, hy1, hb, hkp⟩; refine ⟨_, rfl, ?_⟩; have n0_ := Aside0.mk (Kd.R_mono (ok' := fun k_ => some k_ ≠ (.slice Ao24 t286.length co24 : Value).ownBlock ∧ some k_ ≠ (.slice Ao31 t321.length co31 : Value).ownBlock ∧ some k_ ≠ (.slice Ao32 t322.length co32 : Value).ownBlock ∧ some k_ ≠ (.slice Ao39 t302.length co39 : Value).ownBlock ∧ some k_ ≠ (.slice Ao40 t305.length co40 : Value).ownBlock) (Kd.R_keptB (HO_291002.out) hkp (fun k_ hk_ hs_ => Or.elim hs_ (fun e_ => (hk_.2.2.2.1) e_) (fun e_ => (hk_.2.2.2.2) e_))) (fun k_ hk_ => ⟨hk_.1.1, hk_.1.2.1, hk_.1.2.2.1, hk_.1.2.2.2.1, hk_.1.2.2.2.2⟩)); have n1_ := Aside0.mk (Kd.R_mono (ok' := fun k_ => some k_ ≠ (.slice Ao23 t283.length co23 : Value).ownBlock ∧ some k_ ≠ (.slice Ao31 t321.length co31 : Value).ownBlock ∧ some k_ ≠ (.slice Ao32 t322.length co32 : Value).ownBlock ∧ some k_ ≠ (.slice Ao39 t302.length co39 : Value).ownBlock ∧ some k_ ≠ (.slice Ao40 t305.length co40 : Value).ownBlock) (Kd.R_keptB (HO_291003.out) hkp (fun k_ hk_ hs_ => Or.elim hs_ (fun e_ => (hk_.2.2.2.1) e_) (fun e_ => (hk_.2.2.2.2) e_))) (fun k_ hk_ => ⟨hk_.1.1, hk_.1.2.1, hk_.1.2.2.1, hk_.1.2.2.2.1, hk_.1.2.2.2.2⟩)); have n2_ := Aside0.mk (Kd.R_mono (ok' := fun k_ => some k_ ≠ (.slice Ao23 t283.length co23 : Value).ownBlock ∧ some k_ ≠ (.slice Ao24 t286.length co24 : Value).ownBlock ∧ some k_ ≠ (.slice Ao32 t322.length co32 : Value).ownBlock ∧ some k_ ≠ (.slice Ao39 t302.length co39 : Value).ownBlock ∧ some k_ ≠ (.slice Ao40 t305.length co40 : Value).ownBlock) (Kd.R_keptB (HO_300002.out) hkp (fun k_ hk_ hs_ => Or.elim hs_ (fun e_ => (hk_.2.2.2.1) e_) (fun e_ => (hk_.2.2.2.2) e_))) (fun k_ hk_ => ⟨hk_.1.1, hk_.1.2.1, hk_.1.2.2.1, hk_.1.2.2.2.1, hk_.1.2.2.2.2⟩)); have n3_ := Aside0.mk (Kd.R_mono (ok' := fun k_ => some k_ ≠ (.slice Ao23 t283.length co23 : Value).ownBlock ∧ some k_ ≠ (.slice Ao24 t286.length co24 : Value).ownBlock ∧ some k_ ≠ (.slice Ao31 t321.length co31 : Value).ownBlock ∧ some k_ ≠ (.slice Ao39 t302.length co39 : Value).ownBlock ∧ some k_ ≠ (.slice Ao40 t305.length co40 : Value).ownBlock) (Kd.R_keptB (HO_300003.out) hkp (fun k_ hk_ hs_ => Or.elim hs_ (fun e_ => (hk_.2.2.2.1) e_) (fun e_ => (hk_.2.2.2.2) e_))) (fun k_ hk_ => ⟨hk_.1.1, hk_.1.2.1, hk_.1.2.2.1, hk_.1.2.2.2.1, hk_.1.2.2.2.2⟩)); have n4_ := Aside0.mk (Kd.R_reok rfl hy0 (fun k_ e_ => HO_310002.out.1 k_ e_)); have n5_ := Aside0.mk (Kd.R_reok rfl hy1 (fun k_ e_ => HO_310003.out.1 k_ e_)); have n6_ := Aside0.mk (blk_kept (by (with_reducible repeat (first | refine blk_drewN ?_ _ | refine blk_drew ?_ | refine blk_alloc ?_ _)); exact BK271.out) hkp (fun hs_ => Or.elim hs_ (fun e_ => (fun e_ => (Kd.R_ne HO_310002.out BK271.out (by decide)) e_) e_) (fun e_ => (fun e_ => (Kd.R_ne HO_310003.out BK271.out (by decide)) e_) e_))); have n7_ := Aside0.mk (blk_kept (by (with_reducible repeat (first | refine blk_drewN ?_ _ | refine blk_drew ?_ | refine blk_alloc ?_ _)); exact BK290.out) hkp (fun hs_ => Or.elim hs_ (fun e_ => (fun e_ => (Kd.R_ne HO_310002.out BK290.out (by decide)) e_) e_) (fun e_ => (fun e_ => (Kd.R_ne HO_310003.out BK290.out (by decide)) e_) e_))); have n8_ := Aside0.mk (blk_kept (by (with_reducible repeat (first | refine blk_drewN ?_ _ | refine blk_drew ?_ | refine blk_alloc ?_ _)); exact BK299.out) hkp (fun hs_ => Or.elim hs_ (fun e_ => (fun e_ => (Kd.R_ne HO_310002.out BK299.out (by decide)) e_) e_) (fun e_ => (fun e_ => (Kd.R_ne HO_310003.out BK299.out (by decide)) e_) e_))); have n9_ := Aside0.mk (blk_kept (by (with_reducible repeat (first | refine blk_drewN ?_ _ | refine blk_drew ?_ | refine blk_alloc ?_ _)); exact BK309.out) hkp (fun hs_ => Or.elim hs_ (fun e_ => (fun e_ => (Kd.R_ne HO_310002.out BK309.out (by decide)) e_) e_) (fun e_ => (fun e_ => (Kd.R_ne HO_310003.out BK309.out (by decide)) e_) e_))); have n10_ := Aside0.mk (hb); clear HO_291002; clear HO_291003; clear HO_300002; clear HO_300003; clear HO_310002; clear HO_310003; clear BK271; clear BK290; clear BK299; clear BK309; clear HB; have HO_291002 := n0_; have HO_291003 := n1_; have HO_300002 := n2_; have HO_300003 := n3_; have HO_310002 := n4_; have HO_310003 := n5_; have BK271 := n6_; have BK290 := n7_; have BK299 := n8_; have BK309 := n9_; have HB := n10_; clear n0_ n1_ n2_ n3_ n4_ n5_ n6_ n7_ n8_ n9_ n10_; (try clear hb); (try clear hkp); (try clear hy0); (try clear hy1); have hcz91_0 : w90.cell? ⟨gb309, 0, none⟩ = some (.int .i64 t300) := (blk_cell BK309.out 0).trans rfl; have hcz91_1 : w90.cell? ⟨gb309, 1, none⟩ = some (.int .i64 t301) := (blk_cell BK309.out 1).trans rfl; have hcz91_2 : w90.cell? ⟨gb309, 2, none⟩ = some (.slice Ao39 t302.length co39) := (blk_cell BK309.out 2).trans rfl; have hcz91_3 : w90.cell? ⟨gb309, 3, none⟩ = some (.slice Ao40 t305.length co40) := (blk_cell BK309.out 3).trans rfl; have hfz91_0 := blk_frozen BK309.out 0; have hfz91_1 := blk_frozen BK309.out 1; have hfz91_2 := blk_frozen BK309.out 2; have hfz91_3 := blk_frozen BK309.out 3) | ((with_reducible refine gate_callee (f := 17) rfl ?_); refine goesL_ (some 67) rfl rfl Tryd.func17 (by kernel_rfl) rfl #[.agg #[.int .i64 t300, .int .i64 t301, .slice Ao39 t325.length co39, .slice Ao40 t326.length co40], .int .i64 101] rfl (by (try simp only [List.map_toArray, List.map_cons, List.map_nil]); first | done | (rw [show t325.length = t302.length from (Kd.R_reads' HO_310002.out).1.symm, show t326.length = t305.length from (Kd.R_reads' HO_310003.out).1.symm] <;> rfl) | rfl | (simp only [List.length_drop, List.length_take]; rfl)) ?_; (with_reducible refine (laws_heldFigure.calls kj55 t300 t301 _ _ t325 _ _ t326 101 t327 _ ?side1 ?side2 ?side3 ?side4 A80.out).mono ?_); (case side1 => repeat (first | exact (Kd.R_reads' HO_310002.out).2.2 | (with_reducible refine Kd.C_alloc ?_ _) | (with_reducible refine Kd.C_drewN ?_ _) | (with_reducible refine Kd.C_drew ?_))); (case side2 => rw [show t325.length = t302.length from (Kd.R_reads' HO_310002.out).1.symm]; exact (Kd.R_reads' HO_310002.out).2.1); (case side3 => repeat (first | exact (Kd.R_reads' HO_310003.out).2.2 | (with_reducible refine Kd.C_alloc ?_ _) | (with_reducible refine Kd.C_drewN ?_ _) | (with_reducible refine Kd.C_drew ?_))); (case side4 => rw [show t326.length = t305.length from (Kd.R_reads' HO_310003.out).1.symm]; exact (Kd.R_reads' HO_310003.out).2.1); rintro e w92 ⟨rfl, hb⟩; refine ⟨_, rfl, ?_⟩; have n0_ := Aside0.mk (Kd.R_below (by (with_reducible repeat (first | apply Kd.R_alloc | apply Kd.R_drewN | apply Kd.R_drew)); exact HO_291002.out) hb); have n1_ := Aside0.mk (Kd.R_below (by (with_reducible repeat (first | apply Kd.R_alloc | apply Kd.R_drewN | apply Kd.R_drew)); exact HO_291003.out) hb); have n2_ := Aside0.mk (Kd.R_below (by (with_reducible repeat (first | apply Kd.R_alloc | apply Kd.R_drewN | apply Kd.R_drew)); exact HO_300002.out) hb); have n3_ := Aside0.mk (Kd.R_below (by (with_reducible repeat (first | apply Kd.R_alloc | apply Kd.R_drewN | apply Kd.R_drew)); exact HO_300003.out) hb); have n4_ := Aside0.mk (Kd.R_below (by (with_reducible repeat (first | apply Kd.R_alloc | apply Kd.R_drewN | apply Kd.R_drew)); exact HO_310002.out) hb); have n5_ := Aside0.mk (Kd.R_below (by (with_reducible repeat (first | apply Kd.R_alloc | apply Kd.R_drewN | apply Kd.R_drew)); exact HO_310003.out) hb); have n6_ := Aside0.mk (blk_below (g := gb271) (o := .cells #[.int .i64 a0_0, .int .i64 a0_1, .slice A0_2 l0_2.length c0_2, .slice A0_3 l0_3.length c0_3] 24 (0, 0)) (by (with_reducible repeat (first | refine blk_drewN ?_ _ | refine blk_drew ?_ | refine blk_alloc ?_ _)); exact BK271.out) hb); have n7_ := Aside0.mk (blk_below (g := gb290) (o := .cells #[.int .i64 t281, .int .i64 t282, .slice Ao23 t283.length co23, .slice Ao24 t286.length co24] 26 (0, 0)) (by (with_reducible repeat (first | refine blk_drewN ?_ _ | refine blk_drew ?_ | refine blk_alloc ?_ _)); exact BK290.out) hb); have n8_ := Aside0.mk (blk_below (g := gb299) (o := .cells #[.int .i64 t291, .int .i64 t292, .slice Ao31 t321.length co31, .slice Ao32 t322.length co32] 26 (0, 0)) (by (with_reducible repeat (first | refine blk_drewN ?_ _ | refine blk_drew ?_ | refine blk_alloc ?_ _)); exact BK299.out) hb); have n9_ := Aside0.mk (blk_below (g := gb309) (o := .cells #[.int .i64 t300, .int .i64 t301, .slice Ao39 t302.length co39, .slice Ao40 t305.length co40] 26 (0, 0)) (by (with_reducible repeat (first | refine blk_drewN ?_ _ | refine blk_drew ?_ | refine blk_alloc ?_ _)); exact BK309.out) hb); have n10_ := Aside0.mk (below_step (by repeat (first | (with_reducible first | exact HB.out | apply below_alloc | apply pw_below_drewN | apply below_drew1 | refine below_set ?_ GE271.out | refine below_set ?_ GE290.out | refine below_set ?_ GE299.out | refine below_set ?_ GE309.out) | exact HB.out)) hb); clear HO_291002; clear HO_291003; clear HO_300002; clear HO_300003; clear HO_310002; clear HO_310003; clear BK271; clear BK290; clear BK299; clear BK309; clear HB; have HO_291002 := n0_; have HO_291003 := n1_; have HO_300002 := n2_; have HO_300003 := n3_; have HO_310002 := n4_; have HO_310003 := n5_; have BK271 := n6_; have BK290 := n7_; have BK299 := n8_; have BK309 := n9_; have HB := n10_; clear n0_ n1_ n2_ n3_ n4_ n5_ n6_ n7_ n8_ n9_ n10_; (try clear hb); (try clear hb2); (try clear hk); (try clear hi); have hnb93 := NB271_290.out; have hnc93 := NB290_271.out; have hnb94 := NB271_299.out; have hnc94 := NB299_271.out; have hcz95_0 : w92.cell? ⟨gb271, 0, none⟩ = some (.int .i64 a0_0) := (blk_cell BK271.out 0).trans rfl; have hcz95_1 : w92.cell? ⟨gb271, 1, none⟩ = some (.int .i64 a0_1) := (blk_cell BK271.out 1).trans rfl; have hcz95_2 : w92.cell? ⟨gb271, 2, none⟩ = some (.slice A0_2 l0_2.length c0_2) := (blk_cell BK271.out 2).trans rfl; have hcz95_3 : w92.cell? ⟨gb271, 3, none⟩ = some (.slice A0_3 l0_3.length c0_3) := (blk_cell BK271.out 3).trans rfl; have hfz95_0 := blk_frozen BK271.out 0; have hfz95_1 := blk_frozen BK271.out 1; have hfz95_2 := blk_frozen BK271.out 2; have hfz95_3 := blk_frozen BK271.out 3) | ((with_reducible refine gate_callee (f := 12) rfl ?_); refine goesL_ (some 75) rfl rfl Tryd.func12 (by kernel_rfl) rfl #[.agg #[.int .i64 a0_0, .int .i64 a0_1, .slice A0_2 l0_2.length c0_2, .slice A0_3 l0_3.length c0_3], .bool true] rfl (by (try simp only [List.map_toArray, List.map_cons, List.map_nil]); first | done | rfl | (simp only [List.length_drop, List.length_take]; rfl)) ?_; (with_reducible refine (laws_toFigure.calls a0_0 a0_1 _ _ l0_2 _ _ l0_3 true t328 t329 t330 t333 _ ?side1 ?side2 ?side3 ?side4 A83.out).mono ?_); (case side1 => repeat (first | exact (Kd.C_below HR0_2.out HB.out) | (with_reducible refine Kd.C_alloc ?_ _) | (with_reducible refine Kd.C_drewN ?_ _) | (with_reducible refine Kd.C_drew ?_))); (case side2 => exact HC0_2.out); (case side3 => repeat (first | exact (Kd.C_below HR0_3.out HB.out) | (with_reducible refine Kd.C_alloc ?_ _) | (with_reducible refine Kd.C_drewN ?_ _) | (with_reducible refine Kd.C_drew ?_))); (case side4 => exact HC0_3.out); rintro e w96 ⟨v331, v334, rfl, ho0, ho1, hb⟩; refine ⟨_, rfl, ?_⟩; have n0_ := Aside0.mk (Kd.R_mono (Kd.R_told (Kd.R_told (Kd.R_old (by (with_reducible repeat (first | apply Kd.R_alloc | apply Kd.R_drewN | apply Kd.R_drew)); exact HO_291002.out) hb) (Kd.PB_base ho0)) (Kd.PB_base ho1)) (fun _ h_ => h_.1)); have n1_ := Aside0.mk (Kd.R_mono (Kd.R_told (Kd.R_told (Kd.R_old (by (with_reducible repeat (first | apply Kd.R_alloc | apply Kd.R_drewN | apply Kd.R_drew)); exact HO_291003.out) hb) (Kd.PB_base ho0)) (Kd.PB_base ho1)) (fun _ h_ => h_.1)); have n2_ := Aside0.mk (Kd.R_mono (Kd.R_told (Kd.R_told (Kd.R_old (by (with_reducible repeat (first | apply Kd.R_alloc | apply Kd.R_drewN | apply Kd.R_drew)); exact HO_300002.out) hb) (Kd.PB_base ho0)) (Kd.PB_base ho1)) (fun _ h_ => h_.1)); have n3_ := Aside0.mk (Kd.R_mono (Kd.R_told (Kd.R_told (Kd.R_old (by (with_reducible repeat (first | apply Kd.R_alloc | apply Kd.R_drewN | apply Kd.R_drew)); exact HO_300003.out) hb) (Kd.PB_base ho0)) (Kd.PB_base ho1)) (fun _ h_ => h_.1)); have n4_ := Aside0.mk (Kd.R_mono (Kd.R_told (Kd.R_told (Kd.R_old (by (with_reducible repeat (first | apply Kd.R_alloc | apply Kd.R_drewN | apply Kd.R_drew)); exact HO_310002.out) hb) (Kd.PB_base ho0)) (Kd.PB_base ho1)) (fun _ h_ => h_.1)); have n5_ := Aside0.mk (Kd.R_mono (Kd.R_told (Kd.R_told (Kd.R_old (by (with_reducible repeat (first | apply Kd.R_alloc | apply Kd.R_drewN | apply Kd.R_drew)); exact HO_310003.out) hb) (Kd.PB_base ho0)) (Kd.PB_base ho1)) (fun _ h_ => h_.1)); have n6_ := Aside0.mk (Kd.PB_lower (Kd.PB_new' (Kd.PB_new' (Kd.PB_new' (Kd.PB_new' (Kd.PB_new' (Kd.PB_new' ho0 (Kd.R_lt (by (with_reducible repeat (first | apply Kd.R_alloc | apply Kd.R_drewN | apply Kd.R_drew)); exact HO_291002.out))) (Kd.R_lt (by (with_reducible repeat (first | apply Kd.R_alloc | apply Kd.R_drewN | apply Kd.R_drew)); exact HO_291003.out))) (Kd.R_lt (by (with_reducible repeat (first | apply Kd.R_alloc | apply Kd.R_drewN | apply Kd.R_drew)); exact HO_300002.out))) (Kd.R_lt (by (with_reducible repeat (first | apply Kd.R_alloc | apply Kd.R_drewN | apply Kd.R_drew)); exact HO_300003.out))) (Kd.R_lt (by (with_reducible repeat (first | apply Kd.R_alloc | apply Kd.R_drewN | apply Kd.R_drew)); exact HO_310002.out))) (Kd.R_lt (by (with_reducible repeat (first | apply Kd.R_alloc | apply Kd.R_drewN | apply Kd.R_drew)); exact HO_310003.out))) (below_size (by repeat (first | (with_reducible first | exact HB.out | apply below_alloc | apply pw_below_drewN | apply below_drew1 | refine below_set ?_ GE271.out | refine below_set ?_ GE290.out | refine below_set ?_ GE299.out | refine below_set ?_ GE309.out) | exact HB.out)))); have n7_ := Aside0.mk (Kd.PB_lower (Kd.PB_new' (Kd.PB_new' (Kd.PB_new' (Kd.PB_new' (Kd.PB_new' (Kd.PB_new' ho1 (Kd.R_lt (by (with_reducible repeat (first | apply Kd.R_alloc | apply Kd.R_drewN | apply Kd.R_drew)); exact HO_291002.out))) (Kd.R_lt (by (with_reducible repeat (first | apply Kd.R_alloc | apply Kd.R_drewN | apply Kd.R_drew)); exact HO_291003.out))) (Kd.R_lt (by (with_reducible repeat (first | apply Kd.R_alloc | apply Kd.R_drewN | apply Kd.R_drew)); exact HO_300002.out))) (Kd.R_lt (by (with_reducible repeat (first | apply Kd.R_alloc | apply Kd.R_drewN | apply Kd.R_drew)); exact HO_300003.out))) (Kd.R_lt (by (with_reducible repeat (first | apply Kd.R_alloc | apply Kd.R_drewN | apply Kd.R_drew)); exact HO_310002.out))) (Kd.R_lt (by (with_reducible repeat (first | apply Kd.R_alloc | apply Kd.R_drewN | apply Kd.R_drew)); exact HO_310003.out))) (below_size (by repeat (first | (with_reducible first | exact HB.out | apply below_alloc | apply pw_below_drewN | apply below_drew1 | refine below_set ?_ GE271.out | refine below_set ?_ GE290.out | refine below_set ?_ GE299.out | refine below_set ?_ GE309.out) | exact HB.out)))); have n8_ := Aside0.mk (blk_below (g := gb271) (o := .cells #[.int .i64 a0_0, .int .i64 a0_1, .slice A0_2 l0_2.length c0_2, .slice A0_3 l0_3.length c0_3] 24 (0, 0)) (by (with_reducible repeat (first | refine blk_drewN ?_ _ | refine blk_drew ?_ | refine blk_alloc ?_ _)); exact BK271.out) hb); have n9_ := Aside0.mk (blk_below (g := gb290) (o := .cells #[.int .i64 t281, .int .i64 t282, .slice Ao23 t283.length co23, .slice Ao24 t286.length co24] 26 (0, 0)) (by (with_reducible repeat (first | refine blk_drewN ?_ _ | refine blk_drew ?_ | refine blk_alloc ?_ _)); exact BK290.out) hb); have n10_ := Aside0.mk (blk_below (g := gb299) (o := .cells #[.int .i64 t291, .int .i64 t292, .slice Ao31 t321.length co31, .slice Ao32 t322.length co32] 26 (0, 0)) (by (with_reducible repeat (first | refine blk_drewN ?_ _ | refine blk_drew ?_ | refine blk_alloc ?_ _)); exact BK299.out) hb); have n11_ := Aside0.mk (blk_below (g := gb309) (o := .cells #[.int .i64 t300, .int .i64 t301, .slice Ao39 t302.length co39, .slice Ao40 t305.length co40] 26 (0, 0)) (by (with_reducible repeat (first | refine blk_drewN ?_ _ | refine blk_drew ?_ | refine blk_alloc ?_ _)); exact BK309.out) hb); have n12_ := Aside0.mk (below_step (by repeat (first | (with_reducible first | exact HB.out | apply below_alloc | apply pw_below_drewN | apply below_drew1 | refine below_set ?_ GE271.out | refine below_set ?_ GE290.out | refine below_set ?_ GE299.out | refine below_set ?_ GE309.out) | exact HB.out)) hb); clear HO_291002; clear HO_291003; clear HO_300002; clear HO_300003; clear HO_310002; clear HO_310003; clear BK271; clear BK290; clear BK299; clear BK309; clear HB; have HO_291002 := n0_; have HO_291003 := n1_; have HO_300002 := n2_; have HO_300003 := n3_; have HO_310002 := n4_; have HO_310003 := n5_; have HO332 := n6_; have HO335 := n7_; have BK271 := n8_; have BK290 := n9_; have BK299 := n10_; have BK309 := n11_; have HB := n12_; clear n0_ n1_ n2_ n3_ n4_ n5_ n6_ n7_ n8_ n9_ n10_ n11_ n12_; (try clear hb); (try clear hb2); (try clear hk); (try clear hi); (try clear ho0); (try clear ho1); obtain ⟨Ao97, co97, eo97⟩ := Kd.PB_slice HO332.out; subst eo97; obtain ⟨Ao98, co98, eo98⟩ := Kd.PB_slice HO335.out; subst eo98) | ((with_reducible refine gate_callee (f := 19) rfl ?_); refine goesL_ (some 76) rfl rfl Tryd.func19 (by kernel_rfl) rfl #[.agg #[.int .i64 t328, .int .i64 t329, .slice Ao97 t330.length co97, .slice Ao98 t333.length co98]] rfl (by (try simp only [List.map_toArray, List.map_cons, List.map_nil]); first | done | rfl | (simp only [List.length_drop, List.length_take]; rfl)) ?_; (with_reducible refine (impl_MissingFigure.calls kj55 t328 t329 _ _ t330 _ _ t333 t336 t337 t338 t341 t344 _ ?side1 ?side2 ?side3 ?side4 ?side5 A84.out).mono ?_); (case side1 => repeat (first | exact (Kd.PB_reads' HO332.out).2.2 | (with_reducible refine Kd.C_alloc ?_ _) | (with_reducible refine Kd.C_drewN ?_ _) | (with_reducible refine Kd.C_drew ?_))); (case side2 => exact (Kd.PB_reads' HO332.out).2.1); (case side3 => repeat (first | exact (Kd.PB_reads' HO335.out).2.2 | (with_reducible refine Kd.C_alloc ?_ _) | (with_reducible refine Kd.C_drewN ?_ _) | (with_reducible refine Kd.C_drew ?_))); (case side4 => exact (Kd.PB_reads' HO335.out).2.1); (case side5 => first | exact LaidG_below HG.out (by repeat (first | (with_reducible first | exact HB.out | apply below_alloc | apply pw_below_drewN | apply below_drew1 | refine below_set ?_ GE271.out | refine below_set ?_ GE290.out | refine below_set ?_ GE299.out | refine below_set ?_ GE309.out) | exact HB.out)) | (repeat (first | exact HG.out | (with_reducible refine LaidG_alloc ?_ _) | (with_reducible refine LaidG_drewN ?_ _) | (with_reducible refine LaidG_drew ?_)))); rintro e w99 ⟨v339, v342, rfl, ho0, ho1, hb⟩; refine ⟨_, rfl, ?_⟩; have n0_ := Aside0.mk (Kd.R_mono (Kd.R_told (Kd.R_told (Kd.R_old (by (with_reducible repeat (first | apply Kd.R_alloc | apply Kd.R_drewN | apply Kd.R_drew)); exact HO_291002.out) hb) (Kd.R_base ho0)) (Kd.R_base ho1)) (fun _ h_ => h_.1)); have n1_ := Aside0.mk (Kd.R_mono (Kd.R_told (Kd.R_told (Kd.R_old (by (with_reducible repeat (first | apply Kd.R_alloc | apply Kd.R_drewN | apply Kd.R_drew)); exact HO_291003.out) hb) (Kd.R_base ho0)) (Kd.R_base ho1)) (fun _ h_ => h_.1)); have n2_ := Aside0.mk (Kd.R_mono (Kd.R_told (Kd.R_told (Kd.R_old (by (with_reducible repeat (first | apply Kd.R_alloc | apply Kd.R_drewN | apply Kd.R_drew)); exact HO_300002.out) hb) (Kd.R_base ho0)) (Kd.R_base ho1)) (fun _ h_ => h_.1)); have n3_ := Aside0.mk (Kd.R_mono (Kd.R_told (Kd.R_told (Kd.R_old (by (with_reducible repeat (first | apply Kd.R_alloc | apply Kd.R_drewN | apply Kd.R_drew)); exact HO_300003.out) hb) (Kd.R_base ho0)) (Kd.R_base ho1)) (fun _ h_ => h_.1)); have n4_ := Aside0.mk (Kd.R_mono (Kd.R_told (Kd.R_told (Kd.R_old (by (with_reducible repeat (first | apply Kd.R_alloc | apply Kd.R_drewN | apply Kd.R_drew)); exact HO_310002.out) hb) (Kd.R_base ho0)) (Kd.R_base ho1)) (fun _ h_ => h_.1)); have n5_ := Aside0.mk (Kd.R_mono (Kd.R_told (Kd.R_told (Kd.R_old (by (with_reducible repeat (first | apply Kd.R_alloc | apply Kd.R_drewN | apply Kd.R_drew)); exact HO_310003.out) hb) (Kd.R_base ho0)) (Kd.R_base ho1)) (fun _ h_ => h_.1)); have n6_ := Aside0.mk (Kd.PB_mono (Kd.PB_told (Kd.PB_told (Kd.PB_old (by (with_reducible repeat (first | apply Kd.PB_alloc | apply Kd.PB_drewN | apply Kd.PB_drew)); exact HO332.out) hb) (Kd.R_base ho0)) (Kd.R_base ho1)) (fun _ h_ => h_.1)); have n7_ := Aside0.mk (Kd.PB_mono (Kd.PB_told (Kd.PB_told (Kd.PB_old (by (with_reducible repeat (first | apply Kd.PB_alloc | apply Kd.PB_drewN | apply Kd.PB_drew)); exact HO335.out) hb) (Kd.R_base ho0)) (Kd.R_base ho1)) (fun _ h_ => h_.1)); have n8_ := Aside0.mk (Kd.R_lower (Kd.R_new' (Kd.R_new' (Kd.R_new' (Kd.R_new' (Kd.R_new' (Kd.R_new' (Kd.R_new' (Kd.R_new' ho0 (Kd.R_lt (by (with_reducible repeat (first | apply Kd.R_alloc | apply Kd.R_drewN | apply Kd.R_drew)); exact HO_291002.out))) (Kd.R_lt (by (with_reducible repeat (first | apply Kd.R_alloc | apply Kd.R_drewN | apply Kd.R_drew)); exact HO_291003.out))) (Kd.R_lt (by (with_reducible repeat (first | apply Kd.R_alloc | apply Kd.R_drewN | apply Kd.R_drew)); exact HO_300002.out))) (Kd.R_lt (by (with_reducible repeat (first | apply Kd.R_alloc | apply Kd.R_drewN | apply Kd.R_drew)); exact HO_300003.out))) (Kd.R_lt (by (with_reducible repeat (first | apply Kd.R_alloc | apply Kd.R_drewN | apply Kd.R_drew)); exact HO_310002.out))) (Kd.R_lt (by (with_reducible repeat (first | apply Kd.R_alloc | apply Kd.R_drewN | apply Kd.R_drew)); exact HO_310003.out))) (Kd.PB_lt (by (with_reducible repeat (first | apply Kd.PB_alloc | apply Kd.PB_drewN | apply Kd.PB_drew)); exact HO332.out))) (Kd.PB_lt (by (with_reducible repeat (first | apply Kd.PB_alloc | apply Kd.PB_drewN | apply Kd.PB_drew)); exact HO335.out))) (below_size (by repeat (first | (with_reducible first | exact HB.out | apply below_alloc | apply pw_below_drewN | apply below_drew1 | refine below_set ?_ GE271.out | refine below_set ?_ GE290.out | refine below_set ?_ GE299.out | refine below_set ?_ GE309.out) | exact HB.out)))); have n9_ := Aside0.mk (Kd.R_lower (Kd.R_new' (Kd.R_new' (Kd.R_new' (Kd.R_new' (Kd.R_new' (Kd.R_new' (Kd.R_new' (Kd.R_new' ho1 (Kd.R_lt (by (with_reducible repeat (first | apply Kd.R_alloc | apply Kd.R_drewN | apply Kd.R_drew)); exact HO_291002.out))) (Kd.R_lt (by (with_reducible repeat (first | apply Kd.R_alloc | apply Kd.R_drewN | apply Kd.R_drew)); exact HO_291003.out))) (Kd.R_lt (by (with_reducible repeat (first | apply Kd.R_alloc | apply Kd.R_drewN | apply Kd.R_drew)); exact HO_300002.out))) (Kd.R_lt (by (with_reducible repeat (first | apply Kd.R_alloc | apply Kd.R_drewN | apply Kd.R_drew)); exact HO_300003.out))) (Kd.R_lt (by (with_reducible repeat (first | apply Kd.R_alloc | apply Kd.R_drewN | apply Kd.R_drew)); exact HO_310002.out))) (Kd.R_lt (by (with_reducible repeat (first | apply Kd.R_alloc | apply Kd.R_drewN | apply Kd.R_drew)); exact HO_310003.out))) (Kd.PB_lt (by (with_reducible repeat (first | apply Kd.PB_alloc | apply Kd.PB_drewN | apply Kd.PB_drew)); exact HO332.out))) (Kd.PB_lt (by (with_reducible repeat (first | apply Kd.PB_alloc | apply Kd.PB_drewN | apply Kd.PB_drew)); exact HO335.out))) (below_size (by repeat (first | (with_reducible first | exact HB.out | apply below_alloc | apply pw_below_drewN | apply below_drew1 | refine below_set ?_ GE271.out | refine below_set ?_ GE290.out | refine below_set ?_ GE299.out | refine below_set ?_ GE309.out) | exact HB.out)))); have n10_ := Aside0.mk (blk_below (g := gb271) (o := .cells #[.int .i64 a0_0, .int .i64 a0_1, .slice A0_2 l0_2.length c0_2, .slice A0_3 l0_3.length c0_3] 24 (0, 0)) (by (with_reducible repeat (first | refine blk_drewN ?_ _ | refine blk_drew ?_ | refine blk_alloc ?_ _)); exact BK271.out) hb); have n11_ := Aside0.mk (blk_below (g := gb290) (o := .cells #[.int .i64 t281, .int .i64 t282, .slice Ao23 t283.length co23, .slice Ao24 t286.length co24] 26 (0, 0)) (by (with_reducible repeat (first | refine blk_drewN ?_ _ | refine blk_drew ?_ | refine blk_alloc ?_ _)); exact BK290.out) hb); have n12_ := Aside0.mk (blk_below (g := gb299) (o := .cells #[.int .i64 t291, .int .i64 t292, .slice Ao31 t321.length co31, .slice Ao32 t322.length co32] 26 (0, 0)) (by (with_reducible repeat (first | refine blk_drewN ?_ _ | refine blk_drew ?_ | refine blk_alloc ?_ _)); exact BK299.out) hb); have n13_ := Aside0.mk (blk_below (g := gb309) (o := .cells #[.int .i64 t300, .int .i64 t301, .slice Ao39 t302.length co39, .slice Ao40 t305.length co40] 26 (0, 0)) (by (with_reducible repeat (first | refine blk_drewN ?_ _ | refine blk_drew ?_ | refine blk_alloc ?_ _)); exact BK309.out) hb); have n14_ := Aside0.mk (below_step (by repeat (first | (with_reducible first | exact HB.out | apply below_alloc | apply pw_below_drewN | apply below_drew1 | refine below_set ?_ GE271.out | refine below_set ?_ GE290.out | refine below_set ?_ GE299.out | refine below_set ?_ GE309.out) | exact HB.out)) hb); clear HO_291002; clear HO_291003; clear HO_300002; clear HO_300003; clear HO_310002; clear HO_310003; clear HO332; clear HO335; clear BK271; clear BK290; clear BK299; clear BK309; clear HB; have HO_291002 := n0_; have HO_291003 := n1_; have HO_300002 := n2_; have HO_300003 := n3_; have HO_310002 := n4_; have HO_310003 := n5_; have HO332 := n6_; have HO335 := n7_; have HO340 := n8_; have HO343 := n9_; have BK271 := n10_; have BK290 := n11_; have BK299 := n12_; have BK309 := n13_; have HB := n14_; clear n0_ n1_ n2_ n3_ n4_ n5_ n6_ n7_ n8_ n9_ n10_ n11_ n12_ n13_ n14_; (try clear hb); (try clear hb2); (try clear hk); (try clear hi); (try clear ho0); (try clear ho1)) | ((with_reducible refine gate_dst (N := 12) rfl ?_); refine box_event ?hg (N := 12) ?hd (cs := #[.int .i64 0, .int .i64 0, .slice none 0 0, .slice none 0 0]) (t := 26) ?hr ?_; (case hd => rfl); (case hg => rfl); (case hr => first | (go_simp; done) | (go_simp; rfl)); intro gb345 hg w100 hbox hb; have n0_ := Aside0.mk (Kd.R_below (by (with_reducible repeat (first | apply Kd.R_alloc | apply Kd.R_drewN | apply Kd.R_drew)); exact HO_291002.out) hb); have n1_ := Aside0.mk (Kd.R_below (by (with_reducible repeat (first | apply Kd.R_alloc | apply Kd.R_drewN | apply Kd.R_drew)); exact HO_291003.out) hb); have n2_ := Aside0.mk (Kd.R_below (by (with_reducible repeat (first | apply Kd.R_alloc | apply Kd.R_drewN | apply Kd.R_drew)); exact HO_300002.out) hb); have n3_ := Aside0.mk (Kd.R_below (by (with_reducible repeat (first | apply Kd.R_alloc | apply Kd.R_drewN | apply Kd.R_drew)); exact HO_300003.out) hb); have n4_ := Aside0.mk (Kd.R_below (by (with_reducible repeat (first | apply Kd.R_alloc | apply Kd.R_drewN | apply Kd.R_drew)); exact HO_310002.out) hb); have n5_ := Aside0.mk (Kd.R_below (by (with_reducible repeat (first | apply Kd.R_alloc | apply Kd.R_drewN | apply Kd.R_drew)); exact HO_310003.out) hb); have n6_ := Aside0.mk (Kd.PB_below (by (with_reducible repeat (first | apply Kd.PB_alloc | apply Kd.PB_drewN | apply Kd.PB_drew)); exact HO332.out) hb); have n7_ := Aside0.mk (Kd.PB_below (by (with_reducible repeat (first | apply Kd.PB_alloc | apply Kd.PB_drewN | apply Kd.PB_drew)); exact HO335.out) hb); have n8_ := Aside0.mk (Kd.R_below (by (with_reducible repeat (first | apply Kd.R_alloc | apply Kd.R_drewN | apply Kd.R_drew)); exact HO340.out) hb); have n9_ := Aside0.mk (Kd.R_below (by (with_reducible repeat (first | apply Kd.R_alloc | apply Kd.R_drewN | apply Kd.R_drew)); exact HO343.out) hb); have n10_ := Aside0.mk (blk_below (g := gb271) (o := .cells #[.int .i64 a0_0, .int .i64 a0_1, .slice A0_2 l0_2.length c0_2, .slice A0_3 l0_3.length c0_3] 24 (0, 0)) (by (with_reducible repeat (first | refine blk_drewN ?_ _ | refine blk_drew ?_ | refine blk_alloc ?_ _)); exact BK271.out) hb); have n11_ := Aside0.mk (blk_below (g := gb290) (o := .cells #[.int .i64 t281, .int .i64 t282, .slice Ao23 t283.length co23, .slice Ao24 t286.length co24] 26 (0, 0)) (by (with_reducible repeat (first | refine blk_drewN ?_ _ | refine blk_drew ?_ | refine blk_alloc ?_ _)); exact BK290.out) hb); have n12_ := Aside0.mk (blk_below (g := gb299) (o := .cells #[.int .i64 t291, .int .i64 t292, .slice Ao31 t321.length co31, .slice Ao32 t322.length co32] 26 (0, 0)) (by (with_reducible repeat (first | refine blk_drewN ?_ _ | refine blk_drew ?_ | refine blk_alloc ?_ _)); exact BK299.out) hb); have n13_ := Aside0.mk (blk_below (g := gb309) (o := .cells #[.int .i64 t300, .int .i64 t301, .slice Ao39 t302.length co39, .slice Ao40 t305.length co40] 26 (0, 0)) (by (with_reducible repeat (first | refine blk_drewN ?_ _ | refine blk_drew ?_ | refine blk_alloc ?_ _)); exact BK309.out) hb); have n14_ := Aside0.mk (below_step (by repeat (first | (with_reducible first | exact HB.out | apply below_alloc | apply pw_below_drewN | apply below_drew1 | refine below_set ?_ GE271.out | refine below_set ?_ GE290.out | refine below_set ?_ GE299.out | refine below_set ?_ GE309.out) | exact HB.out)) hb); have n15_ := Aside0.mk (hbox); have n16_ := Aside0.mk ((by rw [hg]; exact (below_size (by repeat (first | (with_reducible first | exact HB.out | apply below_alloc | apply pw_below_drewN | apply below_drew1 | refine below_set ?_ GE271.out | refine below_set ?_ GE290.out | refine below_set ?_ GE299.out | refine below_set ?_ GE309.out) | exact HB.out))) : w.heap.size ≤ gb345)); have n17_ := Aside0.mk ((by rw [hg]; exact (below_size (by repeat (first | (with_reducible first | exact HB.out | apply below_alloc | apply pw_below_drewN | apply below_drew1 | refine below_set ?_ GE271.out | refine below_set ?_ GE290.out | refine below_set ?_ GE299.out | refine below_set ?_ GE309.out) | exact HB.out))) : w.heap.size ≤ gb345)); have n18_ := Aside0.mk ((by rw [hg]; exact Nat.ne_of_lt (blk_lt (g := gb271) (o := .cells #[.int .i64 a0_0, .int .i64 a0_1, .slice A0_2 l0_2.length c0_2, .slice A0_3 l0_3.length c0_3] 24 (0, 0)) (by (with_reducible repeat (first | refine blk_drewN ?_ _ | refine blk_drew ?_ | refine blk_alloc ?_ _)); exact BK271.out)) : gb271 ≠ gb345)); have n19_ := Aside0.mk ((by rw [hg]; exact Nat.ne_of_gt (blk_lt (g := gb271) (o := .cells #[.int .i64 a0_0, .int .i64 a0_1, .slice A0_2 l0_2.length c0_2, .slice A0_3 l0_3.length c0_3] 24 (0, 0)) (by (with_reducible repeat (first | refine blk_drewN ?_ _ | refine blk_drew ?_ | refine blk_alloc ?_ _)); exact BK271.out)) : gb345 ≠ gb271)); have n20_ := Aside0.mk ((by rw [hg]; exact Nat.ne_of_lt (blk_lt (g := gb290) (o := .cells #[.int .i64 t281, .int .i64 t282, .slice Ao23 t283.length co23, .slice Ao24 t286.length co24] 26 (0, 0)) (by (with_reducible repeat (first | refine blk_drewN ?_ _ | refine blk_drew ?_ | refine blk_alloc ?_ _)); exact BK290.out)) : gb290 ≠ gb345)); have n21_ := Aside0.mk ((by rw [hg]; exact Nat.ne_of_gt (blk_lt (g := gb290) (o := .cells #[.int .i64 t281, .int .i64 t282, .slice Ao23 t283.length co23, .slice Ao24 t286.length co24] 26 (0, 0)) (by (with_reducible repeat (first | refine blk_drewN ?_ _ | refine blk_drew ?_ | refine blk_alloc ?_ _)); exact BK290.out)) : gb345 ≠ gb290)); have n22_ := Aside0.mk ((by rw [hg]; exact Nat.ne_of_lt (blk_lt (g := gb299) (o := .cells #[.int .i64 t291, .int .i64 t292, .slice Ao31 t321.length co31, .slice Ao32 t322.length co32] 26 (0, 0)) (by (with_reducible repeat (first | refine blk_drewN ?_ _ | refine blk_drew ?_ | refine blk_alloc ?_ _)); exact BK299.out)) : gb299 ≠ gb345)); have n23_ := Aside0.mk ((by rw [hg]; exact Nat.ne_of_gt (blk_lt (g := gb299) (o := .cells #[.int .i64 t291, .int .i64 t292, .slice Ao31 t321.length co31, .slice Ao32 t322.length co32] 26 (0, 0)) (by (with_reducible repeat (first | refine blk_drewN ?_ _ | refine blk_drew ?_ | refine blk_alloc ?_ _)); exact BK299.out)) : gb345 ≠ gb299)); have n24_ := Aside0.mk ((by rw [hg]; exact Nat.ne_of_lt (blk_lt (g := gb309) (o := .cells #[.int .i64 t300, .int .i64 t301, .slice Ao39 t302.length co39, .slice Ao40 t305.length co40] 26 (0, 0)) (by (with_reducible repeat (first | refine blk_drewN ?_ _ | refine blk_drew ?_ | refine blk_alloc ?_ _)); exact BK309.out)) : gb309 ≠ gb345)); have n25_ := Aside0.mk ((by rw [hg]; exact Nat.ne_of_gt (blk_lt (g := gb309) (o := .cells #[.int .i64 t300, .int .i64 t301, .slice Ao39 t302.length co39, .slice Ao40 t305.length co40] 26 (0, 0)) (by (with_reducible repeat (first | refine blk_drewN ?_ _ | refine blk_drew ?_ | refine blk_alloc ?_ _)); exact BK309.out)) : gb345 ≠ gb309)); clear HO_291002; clear HO_291003; clear HO_300002; clear HO_300003; clear HO_310002; clear HO_310003; clear HO332; clear HO335; clear HO340; clear HO343; clear BK271; clear BK290; clear BK299; clear BK309; clear HB; have HO_291002 := n0_; have HO_291003 := n1_; have HO_300002 := n2_; have HO_300003 := n3_; have HO_310002 := n4_; have HO_310003 := n5_; have HO332 := n6_; have HO335 := n7_; have HO340 := n8_; have HO343 := n9_; have BK271 := n10_; have BK290 := n11_; have BK299 := n12_; have BK309 := n13_; have HB := n14_; have BK345 := n15_; have GW345 := n16_; have GE345 := n17_; have NB271_345 := n18_; have NB345_271 := n19_; have NB290_345 := n20_; have NB345_290 := n21_; have NB299_345 := n22_; have NB345_299 := n23_; have NB309_345 := n24_; have NB345_309 := n25_; clear n0_ n1_ n2_ n3_ n4_ n5_ n6_ n7_ n8_ n9_ n10_ n11_ n12_ n13_ n14_ n15_ n16_ n17_ n18_ n19_ n20_ n21_ n22_ n23_ n24_ n25_; clear hb hbox hg; have hnb101 := NB345_271.out; have hnc101 := NB271_345.out; have hnb102 := NB345_290.out; have hnc102 := NB290_345.out; have hnb103 := NB345_299.out; have hnc103 := NB299_345.out; have hnb104 := NB345_309.out; have hnc104 := NB309_345.out; have hcz105_0 : w100.cell? ⟨gb345, 0, none⟩ = some (.int .i64 0) := (blk_cell BK345.out 0).trans rfl; have hcz105_1 : w100.cell? ⟨gb345, 1, none⟩ = some (.int .i64 0) := (blk_cell BK345.out 1).trans rfl; have hcz105_2 : w100.cell? ⟨gb345, 2, none⟩ = some (.slice none 0 0) := (blk_cell BK345.out 2).trans rfl; have hcz105_3 : w100.cell? ⟨gb345, 3, none⟩ = some (.slice none 0 0) := (blk_cell BK345.out 3).trans rfl; have hfz105_0 := blk_frozen BK345.out 0; have hfz105_1 := blk_frozen BK345.out 1; have hfz105_2 := blk_frozen BK345.out 2; have hfz105_3 := blk_frozen BK345.out 3; obtain ⟨Ao106, co106, eo106⟩ := Kd.R_slice HO340.out; subst eo106; obtain ⟨Ao107, co107, eo107⟩ := Kd.R_slice HO343.out; subst eo107))
           (try simp only [Act.put, List.setIfInBounds_toArray, List.set_cons_zero, List.set_cons_succ])
           go_cut [87] (fun v87 wc => ∃ (kq : Nat) (x87_84 : Bool), v87 = .bool x87_84 ∧ Aside0 (laws_FnExactMissingFigure.j2 kq t324 x87_84 t300 t301 t325 t326 = some r) ∧ Aside0 (kq ≤ kj55) ∧ Aside0 (Kd.R (Kd.int .i64) 3 wc w.heap.size (fun k_ => some k_ ≠ ((.slice Ao24 t286.length co24) : Value).ownBlock ∧ some k_ ≠ ((.slice Ao31 t321.length co31) : Value).ownBlock ∧ some k_ ≠ ((.slice Ao32 t322.length co32) : Value).ownBlock ∧ some k_ ≠ ((.slice Ao39 t302.length co39) : Value).ownBlock ∧ some k_ ≠ ((.slice Ao40 t305.length co40) : Value).ownBlock ∧ some k_ ≠ ((.slice Ao106 t338.length co106) : Value).ownBlock ∧ some k_ ≠ ((.slice Ao107 t341.length co107) : Value).ownBlock) (.slice Ao23 t283.length co23) t283) ∧ Aside0 (Kd.R (Kd.int .i64) 3 wc w.heap.size (fun k_ => some k_ ≠ ((.slice Ao23 t283.length co23) : Value).ownBlock ∧ some k_ ≠ ((.slice Ao31 t321.length co31) : Value).ownBlock ∧ some k_ ≠ ((.slice Ao32 t322.length co32) : Value).ownBlock ∧ some k_ ≠ ((.slice Ao39 t302.length co39) : Value).ownBlock ∧ some k_ ≠ ((.slice Ao40 t305.length co40) : Value).ownBlock ∧ some k_ ≠ ((.slice Ao106 t338.length co106) : Value).ownBlock ∧ some k_ ≠ ((.slice Ao107 t341.length co107) : Value).ownBlock) (.slice Ao24 t286.length co24) t286) ∧ Aside0 (Kd.R (Kd.int .i64) 3 wc w.heap.size (fun k_ => some k_ ≠ ((.slice Ao23 t283.length co23) : Value).ownBlock ∧ some k_ ≠ ((.slice Ao24 t286.length co24) : Value).ownBlock ∧ some k_ ≠ ((.slice Ao32 t322.length co32) : Value).ownBlock ∧ some k_ ≠ ((.slice Ao39 t302.length co39) : Value).ownBlock ∧ some k_ ≠ ((.slice Ao40 t305.length co40) : Value).ownBlock ∧ some k_ ≠ ((.slice Ao106 t338.length co106) : Value).ownBlock ∧ some k_ ≠ ((.slice Ao107 t341.length co107) : Value).ownBlock) (.slice Ao31 t321.length co31) t321) ∧ Aside0 (Kd.R (Kd.int .i64) 3 wc w.heap.size (fun k_ => some k_ ≠ ((.slice Ao23 t283.length co23) : Value).ownBlock ∧ some k_ ≠ ((.slice Ao24 t286.length co24) : Value).ownBlock ∧ some k_ ≠ ((.slice Ao31 t321.length co31) : Value).ownBlock ∧ some k_ ≠ ((.slice Ao39 t302.length co39) : Value).ownBlock ∧ some k_ ≠ ((.slice Ao40 t305.length co40) : Value).ownBlock ∧ some k_ ≠ ((.slice Ao106 t338.length co106) : Value).ownBlock ∧ some k_ ≠ ((.slice Ao107 t341.length co107) : Value).ownBlock) (.slice Ao32 t322.length co32) t322) ∧ Aside0 (Kd.R (Kd.int .i64) 3 wc w.heap.size (fun k_ => some k_ ≠ ((.slice Ao23 t283.length co23) : Value).ownBlock ∧ some k_ ≠ ((.slice Ao24 t286.length co24) : Value).ownBlock ∧ some k_ ≠ ((.slice Ao31 t321.length co31) : Value).ownBlock ∧ some k_ ≠ ((.slice Ao32 t322.length co32) : Value).ownBlock ∧ some k_ ≠ ((.slice Ao40 t305.length co40) : Value).ownBlock ∧ some k_ ≠ ((.slice Ao106 t338.length co106) : Value).ownBlock ∧ some k_ ≠ ((.slice Ao107 t341.length co107) : Value).ownBlock) (.slice Ao39 t302.length co39) t325) ∧ Aside0 (Kd.R (Kd.int .i64) 3 wc w.heap.size (fun k_ => some k_ ≠ ((.slice Ao23 t283.length co23) : Value).ownBlock ∧ some k_ ≠ ((.slice Ao24 t286.length co24) : Value).ownBlock ∧ some k_ ≠ ((.slice Ao31 t321.length co31) : Value).ownBlock ∧ some k_ ≠ ((.slice Ao32 t322.length co32) : Value).ownBlock ∧ some k_ ≠ ((.slice Ao39 t302.length co39) : Value).ownBlock ∧ some k_ ≠ ((.slice Ao106 t338.length co106) : Value).ownBlock ∧ some k_ ≠ ((.slice Ao107 t341.length co107) : Value).ownBlock) (.slice Ao40 t305.length co40) t326) ∧ Aside0 (Kd.R (Kd.int .i64) 3 wc w.heap.size (fun k_ => some k_ ≠ ((.slice Ao23 t283.length co23) : Value).ownBlock ∧ some k_ ≠ ((.slice Ao24 t286.length co24) : Value).ownBlock ∧ some k_ ≠ ((.slice Ao31 t321.length co31) : Value).ownBlock ∧ some k_ ≠ ((.slice Ao32 t322.length co32) : Value).ownBlock ∧ some k_ ≠ ((.slice Ao39 t302.length co39) : Value).ownBlock ∧ some k_ ≠ ((.slice Ao40 t305.length co40) : Value).ownBlock ∧ some k_ ≠ ((.slice Ao107 t341.length co107) : Value).ownBlock) (.slice Ao106 t338.length co106) t338) ∧ Aside0 (Kd.R (Kd.int .i64) 3 wc w.heap.size (fun k_ => some k_ ≠ ((.slice Ao23 t283.length co23) : Value).ownBlock ∧ some k_ ≠ ((.slice Ao24 t286.length co24) : Value).ownBlock ∧ some k_ ≠ ((.slice Ao31 t321.length co31) : Value).ownBlock ∧ some k_ ≠ ((.slice Ao32 t322.length co32) : Value).ownBlock ∧ some k_ ≠ ((.slice Ao39 t302.length co39) : Value).ownBlock ∧ some k_ ≠ ((.slice Ao40 t305.length co40) : Value).ownBlock ∧ some k_ ≠ ((.slice Ao106 t338.length co106) : Value).ownBlock) (.slice Ao107 t341.length co107) t341) ∧ Aside0 (wc.heap[gb271]? = some (.cells #[.int .i64 a0_0, .int .i64 a0_1, (.slice A0_2 l0_2.length c0_2), (.slice A0_3 l0_3.length c0_3)] 24 (0, 0))) ∧ Aside0 (wc.heap[gb290]? = some (.cells #[.int .i64 t281, .int .i64 t282, (.slice Ao23 t283.length co23), (.slice Ao24 t286.length co24)] 26 (0, 0))) ∧ Aside0 (wc.heap[gb299]? = some (.cells #[.int .i64 t291, .int .i64 t292, (.slice Ao31 t321.length co31), (.slice Ao32 t322.length co32)] 26 (0, 0))) ∧ Aside0 (wc.heap[gb309]? = some (.cells #[.int .i64 t300, .int .i64 t301, (.slice Ao39 t302.length co39), (.slice Ao40 t305.length co40)] 26 (0, 0))) ∧ Aside0 (wc.heap[gb345]? = some (.cells #[.int .i64 t336, .int .i64 t337, (.slice Ao106 t338.length co106), (.slice Ao107 t341.length co107)] 26 (0, 0))) ∧ Aside0 (Below w.heap.size w wc))
           case first =>
            have H := HC85.out
            clear HC85
            replace H := Option.bind_eq_some_iff.mp H
            obtain ⟨t346, A1080, H⟩ := H
            replace H : (if t346 = true then (laws_FnExactMissingFigure.j2 kj55 t324 (t344 != t289) t300 t301 t325 t326) else (laws_FnExactMissingFigure.j2 kj55 t324 true t300 t301 t325 t326)) = some r := H
            have A108 := Aside0.mk A1080
            clear A1080
            by_cases c109 : t346 = true
            ·subst c109
             have H1 : (laws_FnExactMissingFigure.j2 kj55 t324 (t344 != t289) t300 t301 t325 t326) = some r := by rw [if_pos rfl] at H; exact H
             clear H
             have H := H1
             clear H1
             have H' := Aside0.mk H
             clear H
             have hnb110 := NB345_271.out
             have hnc110 := NB271_345.out
             have hnb111 := NB345_290.out
             have hnc111 := NB290_345.out
             have hnb112 := NB345_299.out
             have hnc112 := NB299_345.out
             have hnb113 := NB345_309.out
             have hnc113 := NB309_345.out
             have hcz114_0 : w100.cell? ⟨gb345, 0, none⟩ = some (.int .i64 0) := (blk_cell BK345.out 0).trans rfl
             have hcz114_1 : w100.cell? ⟨gb345, 1, none⟩ = some (.int .i64 0) := (blk_cell BK345.out 1).trans rfl
             have hcz114_2 : w100.cell? ⟨gb345, 2, none⟩ = some (.slice none 0 0) := (blk_cell BK345.out 2).trans rfl
             have hcz114_3 : w100.cell? ⟨gb345, 3, none⟩ = some (.slice none 0 0) := (blk_cell BK345.out 3).trans rfl
             have hfz114_0 := blk_frozen BK345.out 0
             have hfz114_1 := blk_frozen BK345.out 1
             have hfz114_2 := blk_frozen BK345.out 2
             have hfz114_3 := blk_frozen BK345.out 3
             have hnb115 := NB290_271.out
             have hnc115 := NB271_290.out
             have hnb116 := NB290_299.out
             have hnc116 := NB299_290.out
             have hnb117 := NB290_309.out
             have hnc117 := NB309_290.out
             have hcz118_0 : w100.cell? ⟨gb290, 0, none⟩ = some (.int .i64 t281) := (blk_cell BK290.out 0).trans rfl
             have hcz118_1 : w100.cell? ⟨gb290, 1, none⟩ = some (.int .i64 t282) := (blk_cell BK290.out 1).trans rfl
             have hcz118_2 : w100.cell? ⟨gb290, 2, none⟩ = some (.slice Ao23 t283.length co23) := (blk_cell BK290.out 2).trans rfl
             have hcz118_3 : w100.cell? ⟨gb290, 3, none⟩ = some (.slice Ao24 t286.length co24) := (blk_cell BK290.out 3).trans rfl
             have hfz118_0 := blk_frozen BK290.out 0
             have hfz118_1 := blk_frozen BK290.out 1
             have hfz118_2 := blk_frozen BK290.out 2
             have hfz118_3 := blk_frozen BK290.out 3
             go_wp2_with (first | ((with_reducible refine gate_callee (f := 14) rfl ?_); refine goesL_ (some 81) rfl rfl Tryd.func14 (by kernel_rfl) rfl #[.agg #[.int .i64 t336, .int .i64 t337, .slice Ao106 t338.length co106, .slice Ao107 t341.length co107], .agg #[.int .i64 t281, .int .i64 t282, .slice Ao23 t283.length co23, .slice Ao24 t286.length co24]] rfl (by (try simp only [List.map_toArray, List.map_cons, List.map_nil]); first | done | rfl | (simp only [List.length_drop, List.length_take]; rfl)) ?_; (with_reducible refine (laws_eqFigure.calls kj55 t336 t337 _ _ t338 _ _ t341 t281 t282 _ _ t283 _ _ t286 true _ ?side1 ?side2 ?side3 ?side4 ?side5 ?side6 ?side7 ?side8 A108.out).mono ?_); (case side1 => refine (Kd.R_reads' (e := 3) (base := w.heap.size) (ok := fun k_ => ((((((((some k_ ≠ (.slice Ao107 t341.length co107 : Value).ownBlock ∧ some k_ ≠ (.slice Ao23 t283.length co23 : Value).ownBlock) ∧ some k_ ≠ (.slice Ao24 t286.length co24 : Value).ownBlock) ∧ some k_ ≠ (.slice Ao31 t321.length co31 : Value).ownBlock) ∧ some k_ ≠ (.slice Ao32 t322.length co32 : Value).ownBlock) ∧ some k_ ≠ (.slice Ao39 t302.length co39 : Value).ownBlock) ∧ some k_ ≠ (.slice Ao40 t305.length co40 : Value).ownBlock) ∧ some k_ ≠ (.slice Ao97 t330.length co97 : Value).ownBlock) ∧ some k_ ≠ (.slice Ao98 t333.length co98 : Value).ownBlock)) (n := t338.length) (c := co106) ?_).2.2; exact (by (with_reducible repeat (first | apply Kd.R_alloc | apply Kd.R_drewN | apply Kd.R_drew)); exact (Kd.R_mono (Kd.R_far (p := ⟨gb345, 3, none⟩) (Kd.R_far (p := ⟨gb345, 2, none⟩) (Kd.R_far (p := ⟨gb345, 1, none⟩) (Kd.R_far (p := ⟨gb345, 0, none⟩) (Kd.R_types HO340.out BK345.out (by decide)) (fun _ hk => hk.2) (.int .i64 t336)) (fun _ hk => hk.2) (.int .i64 t337)) (fun _ hk => hk.2) (.slice Ao106 t338.length co106)) (fun _ hk => hk.2) (.slice Ao107 t341.length co107)) (fun _ h_ => h_.1)))); (case side2 => exact (Kd.R_reads' HO340.out).2.1); (case side3 => refine (Kd.R_reads' (e := 3) (base := w.heap.size) (ok := fun k_ => ((((((((some k_ ≠ (.slice Ao106 t338.length co106 : Value).ownBlock ∧ some k_ ≠ (.slice Ao23 t283.length co23 : Value).ownBlock) ∧ some k_ ≠ (.slice Ao24 t286.length co24 : Value).ownBlock) ∧ some k_ ≠ (.slice Ao31 t321.length co31 : Value).ownBlock) ∧ some k_ ≠ (.slice Ao32 t322.length co32 : Value).ownBlock) ∧ some k_ ≠ (.slice Ao39 t302.length co39 : Value).ownBlock) ∧ some k_ ≠ (.slice Ao40 t305.length co40 : Value).ownBlock) ∧ some k_ ≠ (.slice Ao97 t330.length co97 : Value).ownBlock) ∧ some k_ ≠ (.slice Ao98 t333.length co98 : Value).ownBlock)) (n := t341.length) (c := co107) ?_).2.2; exact (by (with_reducible repeat (first | apply Kd.R_alloc | apply Kd.R_drewN | apply Kd.R_drew)); exact (Kd.R_mono (Kd.R_far (p := ⟨gb345, 3, none⟩) (Kd.R_far (p := ⟨gb345, 2, none⟩) (Kd.R_far (p := ⟨gb345, 1, none⟩) (Kd.R_far (p := ⟨gb345, 0, none⟩) (Kd.R_types HO343.out BK345.out (by decide)) (fun _ hk => hk.2) (.int .i64 t336)) (fun _ hk => hk.2) (.int .i64 t337)) (fun _ hk => hk.2) (.slice Ao106 t338.length co106)) (fun _ hk => hk.2) (.slice Ao107 t341.length co107)) (fun _ h_ => h_.1)))); (case side4 => exact (Kd.R_reads' HO343.out).2.1); (case side5 => refine (Kd.R_reads' (e := 3) (base := w.heap.size) (ok := fun k_ => (((((some k_ ≠ (.slice Ao24 t286.length co24 : Value).ownBlock ∧ (some k_ ≠ (.slice Ao31 t321.length co31 : Value).ownBlock ∧ (some k_ ≠ (.slice Ao32 t322.length co32 : Value).ownBlock ∧ (some k_ ≠ (.slice Ao39 t302.length co39 : Value).ownBlock ∧ some k_ ≠ (.slice Ao40 t305.length co40 : Value).ownBlock)))) ∧ some k_ ≠ (.slice Ao97 t330.length co97 : Value).ownBlock) ∧ some k_ ≠ (.slice Ao98 t333.length co98 : Value).ownBlock) ∧ some k_ ≠ (.slice Ao106 t338.length co106 : Value).ownBlock) ∧ some k_ ≠ (.slice Ao107 t341.length co107 : Value).ownBlock)) (n := t283.length) (c := co23) ?_).2.2; exact (by (with_reducible repeat (first | apply Kd.R_alloc | apply Kd.R_drewN | apply Kd.R_drew)); exact (Kd.R_mono (Kd.R_far (p := ⟨gb345, 3, none⟩) (Kd.R_far (p := ⟨gb345, 2, none⟩) (Kd.R_far (p := ⟨gb345, 1, none⟩) (Kd.R_far (p := ⟨gb345, 0, none⟩) (Kd.R_types HO_291002.out BK345.out (by decide)) (fun _ hk => hk.2) (.int .i64 t336)) (fun _ hk => hk.2) (.int .i64 t337)) (fun _ hk => hk.2) (.slice Ao106 t338.length co106)) (fun _ hk => hk.2) (.slice Ao107 t341.length co107)) (fun _ h_ => h_.1)))); (case side6 => exact (Kd.R_reads' HO_291002.out).2.1); (case side7 => refine (Kd.R_reads' (e := 3) (base := w.heap.size) (ok := fun k_ => (((((some k_ ≠ (.slice Ao23 t283.length co23 : Value).ownBlock ∧ (some k_ ≠ (.slice Ao31 t321.length co31 : Value).ownBlock ∧ (some k_ ≠ (.slice Ao32 t322.length co32 : Value).ownBlock ∧ (some k_ ≠ (.slice Ao39 t302.length co39 : Value).ownBlock ∧ some k_ ≠ (.slice Ao40 t305.length co40 : Value).ownBlock)))) ∧ some k_ ≠ (.slice Ao97 t330.length co97 : Value).ownBlock) ∧ some k_ ≠ (.slice Ao98 t333.length co98 : Value).ownBlock) ∧ some k_ ≠ (.slice Ao106 t338.length co106 : Value).ownBlock) ∧ some k_ ≠ (.slice Ao107 t341.length co107 : Value).ownBlock)) (n := t286.length) (c := co24) ?_).2.2; exact (by (with_reducible repeat (first | apply Kd.R_alloc | apply Kd.R_drewN | apply Kd.R_drew)); exact (Kd.R_mono (Kd.R_far (p := ⟨gb345, 3, none⟩) (Kd.R_far (p := ⟨gb345, 2, none⟩) (Kd.R_far (p := ⟨gb345, 1, none⟩) (Kd.R_far (p := ⟨gb345, 0, none⟩) (Kd.R_types HO_291003.out BK345.out (by decide)) (fun _ hk => hk.2) (.int .i64 t336)) (fun _ hk => hk.2) (.int .i64 t337)) (fun _ hk => hk.2) (.slice Ao106 t338.length co106)) (fun _ hk => hk.2) (.slice Ao107 t341.length co107)) (fun _ h_ => h_.1)))); (case side8 => exact (Kd.R_reads' HO_291003.out).2.1); rintro e w119 ⟨rfl, hb⟩; refine ⟨_, rfl, ?_⟩; have n0_ := Aside0.mk (Kd.R_below (by (with_reducible repeat (first | apply Kd.R_alloc | apply Kd.R_drewN | apply Kd.R_drew)); exact (Kd.R_mono (Kd.R_far (p := ⟨gb345, 3, none⟩) (Kd.R_far (p := ⟨gb345, 2, none⟩) (Kd.R_far (p := ⟨gb345, 1, none⟩) (Kd.R_far (p := ⟨gb345, 0, none⟩) (Kd.R_types HO_291002.out BK345.out (by decide)) (fun _ hk => hk.2) (.int .i64 t336)) (fun _ hk => hk.2) (.int .i64 t337)) (fun _ hk => hk.2) (.slice Ao106 t338.length co106)) (fun _ hk => hk.2) (.slice Ao107 t341.length co107)) (fun _ h_ => h_.1))) hb); have n1_ := Aside0.mk (Kd.R_below (by (with_reducible repeat (first | apply Kd.R_alloc | apply Kd.R_drewN | apply Kd.R_drew)); exact (Kd.R_mono (Kd.R_far (p := ⟨gb345, 3, none⟩) (Kd.R_far (p := ⟨gb345, 2, none⟩) (Kd.R_far (p := ⟨gb345, 1, none⟩) (Kd.R_far (p := ⟨gb345, 0, none⟩) (Kd.R_types HO_291003.out BK345.out (by decide)) (fun _ hk => hk.2) (.int .i64 t336)) (fun _ hk => hk.2) (.int .i64 t337)) (fun _ hk => hk.2) (.slice Ao106 t338.length co106)) (fun _ hk => hk.2) (.slice Ao107 t341.length co107)) (fun _ h_ => h_.1))) hb); have n2_ := Aside0.mk (Kd.R_below (by (with_reducible repeat (first | apply Kd.R_alloc | apply Kd.R_drewN | apply Kd.R_drew)); exact (Kd.R_mono (Kd.R_far (p := ⟨gb345, 3, none⟩) (Kd.R_far (p := ⟨gb345, 2, none⟩) (Kd.R_far (p := ⟨gb345, 1, none⟩) (Kd.R_far (p := ⟨gb345, 0, none⟩) (Kd.R_types HO_300002.out BK345.out (by decide)) (fun _ hk => hk.2) (.int .i64 t336)) (fun _ hk => hk.2) (.int .i64 t337)) (fun _ hk => hk.2) (.slice Ao106 t338.length co106)) (fun _ hk => hk.2) (.slice Ao107 t341.length co107)) (fun _ h_ => h_.1))) hb); have n3_ := Aside0.mk (Kd.R_below (by (with_reducible repeat (first | apply Kd.R_alloc | apply Kd.R_drewN | apply Kd.R_drew)); exact (Kd.R_mono (Kd.R_far (p := ⟨gb345, 3, none⟩) (Kd.R_far (p := ⟨gb345, 2, none⟩) (Kd.R_far (p := ⟨gb345, 1, none⟩) (Kd.R_far (p := ⟨gb345, 0, none⟩) (Kd.R_types HO_300003.out BK345.out (by decide)) (fun _ hk => hk.2) (.int .i64 t336)) (fun _ hk => hk.2) (.int .i64 t337)) (fun _ hk => hk.2) (.slice Ao106 t338.length co106)) (fun _ hk => hk.2) (.slice Ao107 t341.length co107)) (fun _ h_ => h_.1))) hb); have n4_ := Aside0.mk (Kd.R_below (by (with_reducible repeat (first | apply Kd.R_alloc | apply Kd.R_drewN | apply Kd.R_drew)); exact (Kd.R_mono (Kd.R_far (p := ⟨gb345, 3, none⟩) (Kd.R_far (p := ⟨gb345, 2, none⟩) (Kd.R_far (p := ⟨gb345, 1, none⟩) (Kd.R_far (p := ⟨gb345, 0, none⟩) (Kd.R_types HO_310002.out BK345.out (by decide)) (fun _ hk => hk.2) (.int .i64 t336)) (fun _ hk => hk.2) (.int .i64 t337)) (fun _ hk => hk.2) (.slice Ao106 t338.length co106)) (fun _ hk => hk.2) (.slice Ao107 t341.length co107)) (fun _ h_ => h_.1))) hb); have n5_ := Aside0.mk (Kd.R_below (by (with_reducible repeat (first | apply Kd.R_alloc | apply Kd.R_drewN | apply Kd.R_drew)); exact (Kd.R_mono (Kd.R_far (p := ⟨gb345, 3, none⟩) (Kd.R_far (p := ⟨gb345, 2, none⟩) (Kd.R_far (p := ⟨gb345, 1, none⟩) (Kd.R_far (p := ⟨gb345, 0, none⟩) (Kd.R_types HO_310003.out BK345.out (by decide)) (fun _ hk => hk.2) (.int .i64 t336)) (fun _ hk => hk.2) (.int .i64 t337)) (fun _ hk => hk.2) (.slice Ao106 t338.length co106)) (fun _ hk => hk.2) (.slice Ao107 t341.length co107)) (fun _ h_ => h_.1))) hb); have n6_ := Aside0.mk (Kd.PB_below (by (with_reducible repeat (first | apply Kd.PB_alloc | apply Kd.PB_drewN | apply Kd.PB_drew)); exact (Kd.PB_mono (Kd.PB_far (p := ⟨gb345, 3, none⟩) (Kd.PB_far (p := ⟨gb345, 2, none⟩) (Kd.PB_far (p := ⟨gb345, 1, none⟩) (Kd.PB_far (p := ⟨gb345, 0, none⟩) (Kd.PB_types HO332.out BK345.out (by decide)) (fun _ hk => hk.2) (.int .i64 t336)) (fun _ hk => hk.2) (.int .i64 t337)) (fun _ hk => hk.2) (.slice Ao106 t338.length co106)) (fun _ hk => hk.2) (.slice Ao107 t341.length co107)) (fun _ h_ => h_.1))) hb); have n7_ := Aside0.mk (Kd.PB_below (by (with_reducible repeat (first | apply Kd.PB_alloc | apply Kd.PB_drewN | apply Kd.PB_drew)); exact (Kd.PB_mono (Kd.PB_far (p := ⟨gb345, 3, none⟩) (Kd.PB_far (p := ⟨gb345, 2, none⟩) (Kd.PB_far (p := ⟨gb345, 1, none⟩) (Kd.PB_far (p := ⟨gb345, 0, none⟩) (Kd.PB_types HO335.out BK345.out (by decide)) (fun _ hk => hk.2) (.int .i64 t336)) (fun _ hk => hk.2) (.int .i64 t337)) (fun _ hk => hk.2) (.slice Ao106 t338.length co106)) (fun _ hk => hk.2) (.slice Ao107 t341.length co107)) (fun _ h_ => h_.1))) hb); have n8_ := Aside0.mk (Kd.R_below (by (with_reducible repeat (first | apply Kd.R_alloc | apply Kd.R_drewN | apply Kd.R_drew)); exact (Kd.R_mono (Kd.R_far (p := ⟨gb345, 3, none⟩) (Kd.R_far (p := ⟨gb345, 2, none⟩) (Kd.R_far (p := ⟨gb345, 1, none⟩) (Kd.R_far (p := ⟨gb345, 0, none⟩) (Kd.R_types HO340.out BK345.out (by decide)) (fun _ hk => hk.2) (.int .i64 t336)) (fun _ hk => hk.2) (.int .i64 t337)) (fun _ hk => hk.2) (.slice Ao106 t338.length co106)) (fun _ hk => hk.2) (.slice Ao107 t341.length co107)) (fun _ h_ => h_.1))) hb); have n9_ := Aside0.mk (Kd.R_below (by (with_reducible repeat (first | apply Kd.R_alloc | apply Kd.R_drewN | apply Kd.R_drew)); exact (Kd.R_mono (Kd.R_far (p := ⟨gb345, 3, none⟩) (Kd.R_far (p := ⟨gb345, 2, none⟩) (Kd.R_far (p := ⟨gb345, 1, none⟩) (Kd.R_far (p := ⟨gb345, 0, none⟩) (Kd.R_types HO343.out BK345.out (by decide)) (fun _ hk => hk.2) (.int .i64 t336)) (fun _ hk => hk.2) (.int .i64 t337)) (fun _ hk => hk.2) (.slice Ao106 t338.length co106)) (fun _ hk => hk.2) (.slice Ao107 t341.length co107)) (fun _ h_ => h_.1))) hb); have n10_ := Aside0.mk (blk_below (g := gb271) (o := .cells #[.int .i64 a0_0, .int .i64 a0_1, .slice A0_2 l0_2.length c0_2, .slice A0_3 l0_3.length c0_3] 24 (0, 0)) (by (with_reducible repeat (first | refine blk_drewN ?_ _ | refine blk_drew ?_ | refine blk_alloc ?_ _)); refine blk_far ?_ NB271_345.out _; (with_reducible repeat (first | refine blk_drewN ?_ _ | refine blk_drew ?_ | refine blk_alloc ?_ _)); refine blk_far ?_ NB271_345.out _; (with_reducible repeat (first | refine blk_drewN ?_ _ | refine blk_drew ?_ | refine blk_alloc ?_ _)); refine blk_far ?_ NB271_345.out _; (with_reducible repeat (first | refine blk_drewN ?_ _ | refine blk_drew ?_ | refine blk_alloc ?_ _)); refine blk_far ?_ NB271_345.out _; (with_reducible repeat (first | refine blk_drewN ?_ _ | refine blk_drew ?_ | refine blk_alloc ?_ _)); exact BK271.out) hb); have n11_ := Aside0.mk (blk_below (g := gb290) (o := .cells #[.int .i64 t281, .int .i64 t282, .slice Ao23 t283.length co23, .slice Ao24 t286.length co24] 26 (0, 0)) (by (with_reducible repeat (first | refine blk_drewN ?_ _ | refine blk_drew ?_ | refine blk_alloc ?_ _)); refine blk_far ?_ NB290_345.out _; (with_reducible repeat (first | refine blk_drewN ?_ _ | refine blk_drew ?_ | refine blk_alloc ?_ _)); refine blk_far ?_ NB290_345.out _; (with_reducible repeat (first | refine blk_drewN ?_ _ | refine blk_drew ?_ | refine blk_alloc ?_ _)); refine blk_far ?_ NB290_345.out _; (with_reducible repeat (first | refine blk_drewN ?_ _ | refine blk_drew ?_ | refine blk_alloc ?_ _)); refine blk_far ?_ NB290_345.out _; (with_reducible repeat (first | refine blk_drewN ?_ _ | refine blk_drew ?_ | refine blk_alloc ?_ _)); exact BK290.out) hb); have n12_ := Aside0.mk (blk_below (g := gb299) (o := .cells #[.int .i64 t291, .int .i64 t292, .slice Ao31 t321.length co31, .slice Ao32 t322.length co32] 26 (0, 0)) (by (with_reducible repeat (first | refine blk_drewN ?_ _ | refine blk_drew ?_ | refine blk_alloc ?_ _)); refine blk_far ?_ NB299_345.out _; (with_reducible repeat (first | refine blk_drewN ?_ _ | refine blk_drew ?_ | refine blk_alloc ?_ _)); refine blk_far ?_ NB299_345.out _; (with_reducible repeat (first | refine blk_drewN ?_ _ | refine blk_drew ?_ | refine blk_alloc ?_ _)); refine blk_far ?_ NB299_345.out _; (with_reducible repeat (first | refine blk_drewN ?_ _ | refine blk_drew ?_ | refine blk_alloc ?_ _)); refine blk_far ?_ NB299_345.out _; (with_reducible repeat (first | refine blk_drewN ?_ _ | refine blk_drew ?_ | refine blk_alloc ?_ _)); exact BK299.out) hb); have n13_ := Aside0.mk (blk_below (g := gb309) (o := .cells #[.int .i64 t300, .int .i64 t301, .slice Ao39 t302.length co39, .slice Ao40 t305.length co40] 26 (0, 0)) (by (with_reducible repeat (first | refine blk_drewN ?_ _ | refine blk_drew ?_ | refine blk_alloc ?_ _)); refine blk_far ?_ NB309_345.out _; (with_reducible repeat (first | refine blk_drewN ?_ _ | refine blk_drew ?_ | refine blk_alloc ?_ _)); refine blk_far ?_ NB309_345.out _; (with_reducible repeat (first | refine blk_drewN ?_ _ | refine blk_drew ?_ | refine blk_alloc ?_ _)); refine blk_far ?_ NB309_345.out _; (with_reducible repeat (first | refine blk_drewN ?_ _ | refine blk_drew ?_ | refine blk_alloc ?_ _)); refine blk_far ?_ NB309_345.out _; (with_reducible repeat (first | refine blk_drewN ?_ _ | refine blk_drew ?_ | refine blk_alloc ?_ _)); exact BK309.out) hb); have n14_ := Aside0.mk (blk_below (g := gb345) (o := .cells #[.int .i64 t336, .int .i64 t337, .slice Ao106 t338.length co106, .slice Ao107 t341.length co107] 26 (0, 0)) (by (with_reducible repeat (first | refine blk_drewN ?_ _ | refine blk_drew ?_ | refine blk_alloc ?_ _)); refine blk_put (cs := #[.int .i64 t336, .int .i64 t337, .slice Ao106 t338.length co106, .slice none 0 0]) ?_ 3 _ rfl; (with_reducible repeat (first | refine blk_drewN ?_ _ | refine blk_drew ?_ | refine blk_alloc ?_ _)); refine blk_put (cs := #[.int .i64 t336, .int .i64 t337, .slice none 0 0, .slice none 0 0]) ?_ 2 _ rfl; (with_reducible repeat (first | refine blk_drewN ?_ _ | refine blk_drew ?_ | refine blk_alloc ?_ _)); refine blk_put (cs := #[.int .i64 t336, .int .i64 0, .slice none 0 0, .slice none 0 0]) ?_ 1 _ rfl; (with_reducible repeat (first | refine blk_drewN ?_ _ | refine blk_drew ?_ | refine blk_alloc ?_ _)); refine blk_put (cs := #[.int .i64 0, .int .i64 0, .slice none 0 0, .slice none 0 0]) ?_ 0 _ rfl; (with_reducible repeat (first | refine blk_drewN ?_ _ | refine blk_drew ?_ | refine blk_alloc ?_ _)); exact BK345.out) hb); have n15_ := Aside0.mk (below_step (by repeat (first | (with_reducible first | exact HB.out | apply below_alloc | apply pw_below_drewN | apply below_drew1 | refine below_set ?_ GE271.out | refine below_set ?_ GE290.out | refine below_set ?_ GE299.out | refine below_set ?_ GE309.out | refine below_set ?_ GE345.out) | exact HB.out)) hb); clear HO_291002; clear HO_291003; clear HO_300002; clear HO_300003; clear HO_310002; clear HO_310003; clear HO332; clear HO335; clear HO340; clear HO343; clear BK271; clear BK290; clear BK299; clear BK309; clear BK345; clear HB; have HO_291002 := n0_; have HO_291003 := n1_; have HO_300002 := n2_; have HO_300003 := n3_; have HO_310002 := n4_; have HO_310003 := n5_; have HO332 := n6_; have HO335 := n7_; have HO340 := n8_; have HO343 := n9_; have BK271 := n10_; have BK290 := n11_; have BK299 := n12_; have BK309 := n13_; have BK345 := n14_; have HB := n15_; clear n0_ n1_ n2_ n3_ n4_ n5_ n6_ n7_ n8_ n9_ n10_ n11_ n12_ n13_ n14_ n15_; (try clear hb); (try clear hb2); (try clear hk); (try clear hi)))
             go_meet
             case rel => exact ⟨_, ((t344 != t289)), (by first | rfl | (simp; done) | (simp [*]; done)), H', ⟨by have := HJ10.out; have := HJ55.out; first | omega | exact Nat.le_refl _⟩, ⟨by (try simp only [hl300002_55]); (try simp only [hl300003_55]); (with_reducible repeat (first | apply Kd.R_alloc | apply Kd.R_drewN | apply Kd.R_drew)); exact Kd.R_mono HO_291002.out (fun _ hk => ⟨hk.1.1.1.1.1, ⟨hk.1.1.1.1.2.1, ⟨hk.1.1.1.1.2.2.1, ⟨hk.1.1.1.1.2.2.2.1, ⟨hk.1.1.1.1.2.2.2.2, ⟨hk.1.2, hk.2⟩⟩⟩⟩⟩⟩)⟩, ⟨by (try simp only [hl300002_55]); (try simp only [hl300003_55]); (with_reducible repeat (first | apply Kd.R_alloc | apply Kd.R_drewN | apply Kd.R_drew)); exact Kd.R_mono HO_291003.out (fun _ hk => ⟨hk.1.1.1.1.1, ⟨hk.1.1.1.1.2.1, ⟨hk.1.1.1.1.2.2.1, ⟨hk.1.1.1.1.2.2.2.1, ⟨hk.1.1.1.1.2.2.2.2, ⟨hk.1.2, hk.2⟩⟩⟩⟩⟩⟩)⟩, ⟨by (try simp only [hl300002_55]); (try simp only [hl300003_55]); (with_reducible repeat (first | apply Kd.R_alloc | apply Kd.R_drewN | apply Kd.R_drew)); exact Kd.R_mono HO_300002.out (fun _ hk => ⟨hk.1.1.1.1.1, ⟨hk.1.1.1.1.2.1, ⟨hk.1.1.1.1.2.2.1, ⟨hk.1.1.1.1.2.2.2.1, ⟨hk.1.1.1.1.2.2.2.2, ⟨hk.1.2, hk.2⟩⟩⟩⟩⟩⟩)⟩, ⟨by (try simp only [hl300002_55]); (try simp only [hl300003_55]); (with_reducible repeat (first | apply Kd.R_alloc | apply Kd.R_drewN | apply Kd.R_drew)); exact Kd.R_mono HO_300003.out (fun _ hk => ⟨hk.1.1.1.1.1, ⟨hk.1.1.1.1.2.1, ⟨hk.1.1.1.1.2.2.1, ⟨hk.1.1.1.1.2.2.2.1, ⟨hk.1.1.1.1.2.2.2.2, ⟨hk.1.2, hk.2⟩⟩⟩⟩⟩⟩)⟩, ⟨by (try simp only [hl300002_55]); (try simp only [hl300003_55]); (with_reducible repeat (first | apply Kd.R_alloc | apply Kd.R_drewN | apply Kd.R_drew)); exact Kd.R_mono HO_310002.out (fun _ hk => ⟨hk.1.1.1.1.1, ⟨hk.1.1.1.1.2.1, ⟨hk.1.1.1.1.2.2.1, ⟨hk.1.1.1.1.2.2.2.1, ⟨hk.1.1.1.1.2.2.2.2, ⟨hk.1.2, hk.2⟩⟩⟩⟩⟩⟩)⟩, ⟨by (try simp only [hl300002_55]); (try simp only [hl300003_55]); (with_reducible repeat (first | apply Kd.R_alloc | apply Kd.R_drewN | apply Kd.R_drew)); exact Kd.R_mono HO_310003.out (fun _ hk => ⟨hk.1.1.1.1.1, ⟨hk.1.1.1.1.2.1, ⟨hk.1.1.1.1.2.2.1, ⟨hk.1.1.1.1.2.2.2.1, ⟨hk.1.1.1.1.2.2.2.2, ⟨hk.1.2, hk.2⟩⟩⟩⟩⟩⟩)⟩, ⟨by (try simp only [hl300002_55]); (try simp only [hl300003_55]); (with_reducible repeat (first | apply Kd.R_alloc | apply Kd.R_drewN | apply Kd.R_drew)); exact Kd.R_mono HO340.out (fun _ hk => ⟨hk.1.1.1.1.1.1.1.2, ⟨hk.1.1.1.1.1.1.2, ⟨hk.1.1.1.1.1.2, ⟨hk.1.1.1.1.2, ⟨hk.1.1.1.2, ⟨hk.1.1.2, hk.1.1.1.1.1.1.1.1⟩⟩⟩⟩⟩⟩)⟩, ⟨by (try simp only [hl300002_55]); (try simp only [hl300003_55]); (with_reducible repeat (first | apply Kd.R_alloc | apply Kd.R_drewN | apply Kd.R_drew)); exact Kd.R_mono HO343.out (fun _ hk => ⟨hk.1.1.1.1.1.1.1.2, ⟨hk.1.1.1.1.1.1.2, ⟨hk.1.1.1.1.1.2, ⟨hk.1.1.1.1.2, ⟨hk.1.1.1.2, ⟨hk.1.1.2, hk.1.1.1.1.1.1.1.1⟩⟩⟩⟩⟩⟩)⟩, ⟨by (try simp only [hl300002_55]); (try simp only [hl300003_55]); (with_reducible repeat (first | refine blk_drewN ?_ _ | refine blk_drew ?_ | refine blk_alloc ?_ _)); exact BK271.out⟩, ⟨by (try simp only [hl300002_55]); (try simp only [hl300003_55]); (with_reducible repeat (first | refine blk_drewN ?_ _ | refine blk_drew ?_ | refine blk_alloc ?_ _)); exact BK290.out⟩, ⟨by (try simp only [hl300002_55]); (try simp only [hl300003_55]); (with_reducible repeat (first | refine blk_drewN ?_ _ | refine blk_drew ?_ | refine blk_alloc ?_ _)); exact BK299.out⟩, ⟨by (try simp only [hl300002_55]); (try simp only [hl300003_55]); (with_reducible repeat (first | refine blk_drewN ?_ _ | refine blk_drew ?_ | refine blk_alloc ?_ _)); exact BK309.out⟩, ⟨by (try simp only [hl300002_55]); (try simp only [hl300003_55]); (with_reducible repeat (first | refine blk_drewN ?_ _ | refine blk_drew ?_ | refine blk_alloc ?_ _)); exact BK345.out⟩, ⟨by repeat (first | (with_reducible first | exact HB.out | apply below_alloc | apply pw_below_drewN | apply below_drew1 | refine below_set ?_ GE271.out | refine below_set ?_ GE290.out | refine below_set ?_ GE299.out | refine below_set ?_ GE309.out | refine below_set ?_ GE345.out) | exact HB.out)⟩⟩
            ·replace c109 := Bool.eq_false_iff.mpr c109
             subst c109
             have H1 : (laws_FnExactMissingFigure.j2 kj55 t324 true t300 t301 t325 t326) = some r := by rw [if_neg (show ¬ (false = true) by decide)] at H; exact H
             clear H
             have H := H1
             clear H1
             exact absurd HR_.out (by cases kj55 <;> simp [laws_FnExactMissingFigure.j2] at H <;> first | simp [← H] | simp [H] | simp_all)
           case rest =>
            clear HC85
            try clear c1
            try clear c2
            try clear p2
            try clear c3
            try clear c3b0
            try clear c4
            try clear c5
            try clear c6
            try clear c7
            try clear c8
            try clear c9
            try clear c10
            try clear c11
            try clear c12
            try clear c14
            try clear c15
            try clear c16
            try clear c17
            try clear c18
            try clear c19
            try clear c21
            try clear c28
            try clear c29
            try clear c35
            try clear c36
            try clear c37
            try clear c42
            try clear c43
            try clear c44
            try clear c45
            try clear c47
            try clear c48
            try clear c51
            try clear c54
            try clear c62
            try clear c63
            try clear c64
            try clear c67
            try clear c67b0
            try clear c69
            try clear c70
            try clear c71
            try clear c72
            try clear c74
            try clear c75
            try clear c78
            try clear c81
            try clear c81b0
            try clear c82
            try clear c82b0
            try clear c82b1
            try clear c86
            try clear c87
            try clear c88
            try clear c93
            try clear c94
            try clear c101
            try clear c102
            try clear c103
            try clear c104
            try clear c109
            try clear c110
            try clear c111
            try clear c112
            try clear c113
            try clear c115
            try clear c116
            try clear c117
            try clear hcz105_0
            try clear hcz105_1
            try clear hcz105_2
            try clear hcz105_3
            try clear hcz114_0
            try clear hcz114_1
            try clear hcz114_2
            try clear hcz114_3
            try clear hcz118_0
            try clear hcz118_1
            try clear hcz118_2
            try clear hcz118_3
            try clear hcz13_0
            try clear hcz13_1
            try clear hcz13_2
            try clear hcz13_3
            try clear hcz15_0
            try clear hcz15_1
            try clear hcz15_2
            try clear hcz15_3
            try clear hcz22_0
            try clear hcz22_1
            try clear hcz22_2
            try clear hcz22_3
            try clear hcz25_0
            try clear hcz25_1
            try clear hcz25_2
            try clear hcz25_3
            try clear hcz30_0
            try clear hcz30_1
            try clear hcz30_2
            try clear hcz30_3
            try clear hcz38_0
            try clear hcz38_1
            try clear hcz38_2
            try clear hcz38_3
            try clear hcz46_0
            try clear hcz46_1
            try clear hcz46_2
            try clear hcz46_3
            try clear hcz49_0
            try clear hcz49_1
            try clear hcz49_2
            try clear hcz49_3
            try clear hcz5_0
            try clear hcz5_1
            try clear hcz5_2
            try clear hcz5_3
            try clear hcz65_0
            try clear hcz65_1
            try clear hcz65_2
            try clear hcz65_3
            try clear hcz73_0
            try clear hcz73_1
            try clear hcz73_2
            try clear hcz73_3
            try clear hcz76_0
            try clear hcz76_1
            try clear hcz76_2
            try clear hcz76_3
            try clear hcz89_0
            try clear hcz89_1
            try clear hcz89_2
            try clear hcz89_3
            try clear hcz91_0
            try clear hcz91_1
            try clear hcz91_2
            try clear hcz91_3
            try clear hcz95_0
            try clear hcz95_1
            try clear hcz95_2
            try clear hcz95_3
            try clear hfz105_0
            try clear hfz105_1
            try clear hfz105_2
            try clear hfz105_3
            try clear hfz114_0
            try clear hfz114_1
            try clear hfz114_2
            try clear hfz114_3
            try clear hfz118_0
            try clear hfz118_1
            try clear hfz118_2
            try clear hfz118_3
            try clear hfz13_0
            try clear hfz13_1
            try clear hfz13_2
            try clear hfz13_3
            try clear hfz15_0
            try clear hfz15_1
            try clear hfz15_2
            try clear hfz15_3
            try clear hfz22_0
            try clear hfz22_1
            try clear hfz22_2
            try clear hfz22_3
            try clear hfz25_0
            try clear hfz25_1
            try clear hfz25_2
            try clear hfz25_3
            try clear hfz30_0
            try clear hfz30_1
            try clear hfz30_2
            try clear hfz30_3
            try clear hfz38_0
            try clear hfz38_1
            try clear hfz38_2
            try clear hfz38_3
            try clear hfz46_0
            try clear hfz46_1
            try clear hfz46_2
            try clear hfz46_3
            try clear hfz49_0
            try clear hfz49_1
            try clear hfz49_2
            try clear hfz49_3
            try clear hfz5_0
            try clear hfz5_1
            try clear hfz5_2
            try clear hfz5_3
            try clear hfz65_0
            try clear hfz65_1
            try clear hfz65_2
            try clear hfz65_3
            try clear hfz73_0
            try clear hfz73_1
            try clear hfz73_2
            try clear hfz73_3
            try clear hfz76_0
            try clear hfz76_1
            try clear hfz76_2
            try clear hfz76_3
            try clear hfz89_0
            try clear hfz89_1
            try clear hfz89_2
            try clear hfz89_3
            try clear hfz91_0
            try clear hfz91_1
            try clear hfz91_2
            try clear hfz91_3
            try clear hfz95_0
            try clear hfz95_1
            try clear hfz95_2
            try clear hfz95_3
            try clear p2
            obtain ⟨kq, x87_84, rfl, HA, HJ84, HO_291002, HO_291003, HO_300002, HO_300003, HO_310002, HO_310003, HO_346002, HO_346003, BK271, BK290, BK299, BK309, BK345, HB⟩ := hcut
            have hl310002_84 := (Kd.R_reads' HO_310002.out).1
            rw [hl310002_84] at HO_310002
            (try simp only [hl310002_84])
            (try simp only [hl310002_84] at BK271)
            (try simp only [hl310002_84] at BK290)
            (try simp only [hl310002_84] at BK299)
            (try simp only [hl310002_84] at BK309)
            (try simp only [hl310002_84] at BK345)
            (try simp only [hl310002_84] at HO_291002)
            (try simp only [hl310002_84] at HO_291003)
            (try simp only [hl310002_84] at HO_300002)
            (try simp only [hl310002_84] at HO_300003)
            (try simp only [hl310002_84] at HO_310003)
            (try simp only [hl310002_84] at HO_346002)
            (try simp only [hl310002_84] at HO_346003)
            have hl310003_84 := (Kd.R_reads' HO_310003.out).1
            rw [hl310003_84] at HO_310003
            (try simp only [hl310003_84])
            (try simp only [hl310003_84] at BK271)
            (try simp only [hl310003_84] at BK290)
            (try simp only [hl310003_84] at BK299)
            (try simp only [hl310003_84] at BK309)
            (try simp only [hl310003_84] at BK345)
            (try simp only [hl310003_84] at HO_291002)
            (try simp only [hl310003_84] at HO_291003)
            (try simp only [hl310003_84] at HO_300002)
            (try simp only [hl310003_84] at HO_300003)
            (try simp only [hl310003_84] at HO_310002)
            (try simp only [hl310003_84] at HO_346002)
            (try simp only [hl310003_84] at HO_346003)
            cases kq with
            | zero => exact absurd HA.out (by simp [laws_FnExactMissingFigure.j2])
            | succ kj84 =>
             have H := HA.out
             clear HA
             simp only [laws_FnExactMissingFigure.j2] at H
             by_cases c120 : x87_84 = true
             ·subst c120
              have H1 : (some false) = some r := by rw [if_pos rfl] at H; exact H
              clear H
              have H := H1
              clear H1
              exact absurd ((Option.some.inj H).trans HR_.out) Bool.false_ne_true
             ·replace c120 := Bool.eq_false_iff.mpr c120
              subst c120
              have H1 : ((laws_heldFigure.f kj84 t300 t301 t325 t326 101).bind fun t347 => (if t347 < 0 then (some false) else (if t347 = t324 then (some true) else (some false)))) = some r := by rw [if_neg (show ¬ (false = true) by decide)] at H; exact H
              clear H
              have H := H1
              clear H1
              replace H := Option.bind_eq_some_iff.mp H
              obtain ⟨t347, A1210, H⟩ := H
              replace H : (if t347 < 0 then (some false) else (if t347 = t324 then (some true) else (some false))) = some r := H
              have A121 := Aside0.mk A1210
              clear A1210
              by_cases c122 : t347 < 0
              ·rw [if_pos c122] at H
               have c122b0 : decide (t347 < 0) = true := decide_eq_true c122
               clear c122
               exact absurd ((Option.some.inj H).trans HR_.out) Bool.false_ne_true
              ·rw [if_neg c122] at H
               have c122b0 : decide (t347 < 0) = false := decide_eq_false c122
               clear c122
               by_cases c123 : t347 = t324
               ·rw [if_pos c123] at H
                have c123b0 : (t347 == t324) = true := beq_iff_eq.mpr c123
                have c123b1 : (t347 != t324) = false := bne_eq_false_iff_eq.mpr c123
                clear c123
                obtain rfl := Option.some.inj H
                have hnb124 := NB309_271.out
                have hnc124 := NB271_309.out
                have hnb125 := NB309_290.out
                have hnc125 := NB290_309.out
                have hnb126 := NB309_299.out
                have hnc126 := NB299_309.out
                have hnb127 := NB309_345.out
                have hnc127 := NB345_309.out
                have hcz128_0 : wc.cell? ⟨gb309, 0, none⟩ = some (.int .i64 t300) := (blk_cell BK309.out 0).trans rfl
                have hcz128_1 : wc.cell? ⟨gb309, 1, none⟩ = some (.int .i64 t301) := (blk_cell BK309.out 1).trans rfl
                have hcz128_2 : wc.cell? ⟨gb309, 2, none⟩ = some (.slice Ao39 t325.length co39) := (blk_cell BK309.out 2).trans rfl
                have hcz128_3 : wc.cell? ⟨gb309, 3, none⟩ = some (.slice Ao40 t326.length co40) := (blk_cell BK309.out 3).trans rfl
                have hfz128_0 := blk_frozen BK309.out 0
                have hfz128_1 := blk_frozen BK309.out 1
                have hfz128_2 := blk_frozen BK309.out 2
                have hfz128_3 := blk_frozen BK309.out 3
                go_wp2_with (first | ((with_reducible refine gate_callee (f := 17) rfl ?_); refine goesL_ (some 90) rfl rfl Tryd.func17 (by kernel_rfl) rfl #[.agg #[.int .i64 t300, .int .i64 t301, .slice Ao39 t325.length co39, .slice Ao40 t326.length co40], .int .i64 101] rfl (by (try simp only [List.map_toArray, List.map_cons, List.map_nil]); first | done | rfl | (simp only [List.length_drop, List.length_take]; rfl)) ?_; (with_reducible refine (laws_heldFigure.calls kj84 t300 t301 _ _ t325 _ _ t326 101 t347 _ ?side1 ?side2 ?side3 ?side4 A121.out).mono ?_); (case side1 => repeat (first | exact (Kd.R_reads' HO_310002.out).2.2 | (with_reducible refine Kd.C_alloc ?_ _) | (with_reducible refine Kd.C_drewN ?_ _) | (with_reducible refine Kd.C_drew ?_))); (case side2 => exact (Kd.R_reads' HO_310002.out).2.1); (case side3 => repeat (first | exact (Kd.R_reads' HO_310003.out).2.2 | (with_reducible refine Kd.C_alloc ?_ _) | (with_reducible refine Kd.C_drewN ?_ _) | (with_reducible refine Kd.C_drew ?_))); (case side4 => exact (Kd.R_reads' HO_310003.out).2.1); rintro e w129 ⟨rfl, hb⟩; refine ⟨_, rfl, ?_⟩; have n0_ := Aside0.mk (Kd.R_below (by (with_reducible repeat (first | apply Kd.R_alloc | apply Kd.R_drewN | apply Kd.R_drew)); exact HO_291002.out) hb); have n1_ := Aside0.mk (Kd.R_below (by (with_reducible repeat (first | apply Kd.R_alloc | apply Kd.R_drewN | apply Kd.R_drew)); exact HO_291003.out) hb); have n2_ := Aside0.mk (Kd.R_below (by (with_reducible repeat (first | apply Kd.R_alloc | apply Kd.R_drewN | apply Kd.R_drew)); exact HO_300002.out) hb); have n3_ := Aside0.mk (Kd.R_below (by (with_reducible repeat (first | apply Kd.R_alloc | apply Kd.R_drewN | apply Kd.R_drew)); exact HO_300003.out) hb); have n4_ := Aside0.mk (Kd.R_below (by (with_reducible repeat (first | apply Kd.R_alloc | apply Kd.R_drewN | apply Kd.R_drew)); exact HO_310002.out) hb); have n5_ := Aside0.mk (Kd.R_below (by (with_reducible repeat (first | apply Kd.R_alloc | apply Kd.R_drewN | apply Kd.R_drew)); exact HO_310003.out) hb); have n6_ := Aside0.mk (Kd.R_below (by (with_reducible repeat (first | apply Kd.R_alloc | apply Kd.R_drewN | apply Kd.R_drew)); exact HO_346002.out) hb); have n7_ := Aside0.mk (Kd.R_below (by (with_reducible repeat (first | apply Kd.R_alloc | apply Kd.R_drewN | apply Kd.R_drew)); exact HO_346003.out) hb); have n8_ := Aside0.mk (blk_below (g := gb271) (o := .cells #[.int .i64 a0_0, .int .i64 a0_1, .slice A0_2 l0_2.length c0_2, .slice A0_3 l0_3.length c0_3] 24 (0, 0)) (by (with_reducible repeat (first | refine blk_drewN ?_ _ | refine blk_drew ?_ | refine blk_alloc ?_ _)); exact BK271.out) hb); have n9_ := Aside0.mk (blk_below (g := gb290) (o := .cells #[.int .i64 t281, .int .i64 t282, .slice Ao23 t283.length co23, .slice Ao24 t286.length co24] 26 (0, 0)) (by (with_reducible repeat (first | refine blk_drewN ?_ _ | refine blk_drew ?_ | refine blk_alloc ?_ _)); exact BK290.out) hb); have n10_ := Aside0.mk (blk_below (g := gb299) (o := .cells #[.int .i64 t291, .int .i64 t292, .slice Ao31 t321.length co31, .slice Ao32 t322.length co32] 26 (0, 0)) (by (with_reducible repeat (first | refine blk_drewN ?_ _ | refine blk_drew ?_ | refine blk_alloc ?_ _)); exact BK299.out) hb); have n11_ := Aside0.mk (blk_below (g := gb309) (o := .cells #[.int .i64 t300, .int .i64 t301, .slice Ao39 t325.length co39, .slice Ao40 t326.length co40] 26 (0, 0)) (by (with_reducible repeat (first | refine blk_drewN ?_ _ | refine blk_drew ?_ | refine blk_alloc ?_ _)); exact BK309.out) hb); have n12_ := Aside0.mk (blk_below (g := gb345) (o := .cells #[.int .i64 t336, .int .i64 t337, .slice Ao106 t338.length co106, .slice Ao107 t341.length co107] 26 (0, 0)) (by (with_reducible repeat (first | refine blk_drewN ?_ _ | refine blk_drew ?_ | refine blk_alloc ?_ _)); exact BK345.out) hb); have n13_ := Aside0.mk (below_step (by repeat (first | (with_reducible first | exact HB.out | apply below_alloc | apply pw_below_drewN | apply below_drew1 | refine below_set ?_ GE271.out | refine below_set ?_ GE290.out | refine below_set ?_ GE299.out | refine below_set ?_ GE309.out | refine below_set ?_ GE345.out) | exact HB.out)) hb); clear HO_291002; clear HO_291003; clear HO_300002; clear HO_300003; clear HO_310002; clear HO_310003; clear HO_346002; clear HO_346003; clear BK271; clear BK290; clear BK299; clear BK309; clear BK345; clear HB; have HO_291002 := n0_; have HO_291003 := n1_; have HO_300002 := n2_; have HO_300003 := n3_; have HO_310002 := n4_; have HO_310003 := n5_; have HO_346002 := n6_; have HO_346003 := n7_; have BK271 := n8_; have BK290 := n9_; have BK299 := n10_; have BK309 := n11_; have BK345 := n12_; have HB := n13_; clear n0_ n1_ n2_ n3_ n4_ n5_ n6_ n7_ n8_ n9_ n10_ n11_ n12_ n13_; (try clear hb); (try clear hb2); (try clear hk); (try clear hi)))
                go_ret
                exact ⟨by first | rfl | (simp [errW_none, errW_some] <;> rfl) | (simp [*, errW_none, errW_some] <;> rfl), by repeat (first | (with_reducible first | exact HB.out | apply below_alloc | apply pw_below_drewN | apply below_drew1 | refine below_set ?_ GE271.out | refine below_set ?_ GE290.out | refine below_set ?_ GE299.out | refine below_set ?_ GE309.out | refine below_set ?_ GE345.out) | exact HB.out)⟩
               ·rw [if_neg c123] at H
                have c123b0 : (t347 == t324) = false := beq_eq_false_iff_ne.mpr c123
                have c123b1 : (t347 != t324) = true := bne_iff_ne.mpr c123
                exact absurd ((Option.some.inj H).trans HR_.out) Bool.false_ne_true
          ·rw [if_neg c82] at H
           have c82b0 : (t327 == t324) = false := beq_eq_false_iff_ne.mpr c82
           have c82b1 : (t327 != t324) = true := bne_iff_ne.mpr c82
           exact absurd ((Option.some.inj H).trans HR_.out) Bool.false_ne_true
     ·replace c54 := Bool.eq_false_iff.mpr c54
      subst c54
      have H1 : (some false) = some r := by rw [if_neg (show ¬ (false = true) by decide)] at H; exact H
      clear H
      have H := H1
      clear H1
      exact absurd ((Option.some.inj H).trans HR_.out) Bool.false_ne_true

/-- THE ONE PURE STATEMENT of laws_FnExactMissingFigure. -/
def laws_FnExactMissingFigure.Pure : Prop := ∀ (a0_0 : Int) (a0_1 : Int) (l0_2 : List Int) (l0_3 : List Int), (Lit.int .i64 a0_0).wf = true → (Lit.int .i64 a0_1).wf = true → l0_2.length ≤ maxLen → (∀ x ∈ l0_2, (Lit.int .i64 x).wf = true) → l0_3.length ≤ maxLen → (∀ x ∈ l0_3, (Lit.int .i64 x).wf = true) → ∃ k, laws_FnExactMissingFigure.f k a0_0 a0_1 l0_2 l0_3 = some true

end Go.Proofs.YtmlkihaoeopobaaDoor.Q
