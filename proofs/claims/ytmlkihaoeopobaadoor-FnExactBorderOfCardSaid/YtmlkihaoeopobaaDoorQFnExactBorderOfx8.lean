-- written by a program of this session, pm.py, for this claim
-- half the indentation
import Derived.Test.YtmlkihaoeopobaaDoorQFnExactBorderOfx0
import Derived.Test.YtmlkihaoeopobaaDoorQFnExactBorderOfx1
import Derived.Test.YtmlkihaoeopobaaDoorQFnExactBorderOfx4
import Derived.Test.YtmlkihaoeopobaaDoorQFnExactBorderOfx5
import Derived.Test.YtmlkihaoeopobaaDoorQFnExactBorderOfx7
namespace Go.Proofs.YtmlkihaoeopobaaDoor.Q
open Go.RowKit Go.Proofs.YtmlkihaoeopobaaDoorW.PrintWords Go.Proofs.YtmlkihaoeopobaaDoorW.PrintLast Go.Proofs.YtmlkihaoeopobaaDoorW.PrintMore
attribute [local go_sem] max2_int min2_int max_two min_two max_three min_three max_four min_four   -- for this text's walks alone
set_option linter.unusedVariables false
set_option linter.unusedSimpArgs false

/-! ### laws_FnExactBorderOf: function 6 -/
mutual
def laws_FnExactBorderOf.j0 : Nat → Int → Int → List Int → Bool → List Int → Bool → Bool → Int → Int → List Int → List Int → Int → Int → List Int → List Int → Option (Bool)
 | 0, _, _, _, _, _, _, _, _, _, _, _, _, _, _, _ => none
 | k + 1, x0, x1, x2, x8, x9, x11, x45, x333000, x333001, x333002, x333003, x346000, x346001, x346002, x346003 => if x45 = true then (some false) else ((laws_toIntS.f x2 false).bind fun t347 => ((laws_intactIntS.f x9 t347).bind fun t350 => (if t350 = true then ((laws_markIntS.f k x9 101).bind fun bt351 => (if bt351.1 < 0 then (laws_FnExactBorderOf.j1 k x0 x1 x2 x8 true x333000 x333001 x333002 x333003 x346000 x346001 x346002 x346003) else ((laws_eqFigure.f k x346000 x346001 x346002 x346003 x333000 x333001 x333002 x333003).bind fun t353 => (if t353 = true then (laws_FnExactBorderOf.j1 k x0 x1 x2 x8 (x11 != x8) x333000 x333001 x333002 x333003 x346000 x346001 x346002 x346003) else (laws_FnExactBorderOf.j1 k x0 x1 x2 x8 true x333000 x333001 x333002 x333003 x346000 x346001 x346002 x346003))))) else (some false))))
def laws_FnExactBorderOf.j1 : Nat → Int → Int → List Int → Bool → Bool → Int → Int → List Int → List Int → Int → Int → List Int → List Int → Option (Bool)
 | 0, _, _, _, _, _, _, _, _, _, _, _, _, _ => none
 | k + 1, x0, x1, x2, x8, x66, x333000, x333001, x333002, x333003, x346000, x346001, x346002, x346003 => if x66 = true then (some false) else ((laws_markFigure.f k x346000 x346001 x346002 x346003 101).bind fun bt354 => ((laws_heldFigure.f k x346000 x346001 bt354.2.1 bt354.2.2 101).bind fun t357 => (if t357 < 0 then (some false) else (if t357 = bt354.1 then ((laws_toIntS.f x2 true).bind fun t358 => ((impl_BorderOf.f k x0 x1 t358).bind fun bt361 => ((laws_eqFigure.f k bt361.1 bt361.2.1 bt361.2.2.1 bt361.2.2.2.1 x333000 x333001 x333002 x333003).bind fun t371 => (if t371 = true then (laws_FnExactBorderOf.j2 k bt354.1 (bt361.2.2.2.2 != x8) x346000 x346001 bt354.2.1 bt354.2.2) else (laws_FnExactBorderOf.j2 k bt354.1 true x346000 x346001 bt354.2.1 bt354.2.2))))) else (some false)))))
def laws_FnExactBorderOf.j2 : Nat → Int → Bool → Int → Int → List Int → List Int → Option (Bool)
 | 0, _, _, _, _, _, _ => none
 | k + 1, x13, x94, x346000, x346001, x346002, x346003 => if x94 = true then (some false) else ((laws_heldFigure.f k x346000 x346001 x346002 x346003 101).bind fun t372 => (if t372 < 0 then (some false) else (if t372 = x13 then (some true) else (some false))))
end
def laws_FnExactBorderOf.f (k : Nat) (a0 : Int) (a1 : Int) (l2 : List Int) : Option (Bool) := if (l2.length : Int) > 1000000 then (some true) else ((laws_toIntS.f l2 false).bind fun t320 => ((spec_BorderOf.f k a0 a1 t320).bind fun bt323 => ((laws_toIntS.f l2 false).bind fun t333 => ((impl_BorderOf.f k a0 a1 t333).bind fun bt336 => ((laws_eqFigure.f k bt336.1 bt336.2.1 bt336.2.2.1 bt336.2.2.2.1 bt323.1 bt323.2.1 bt323.2.2.1 bt323.2.2.2.1).bind fun t346 => (if t346 = true then (laws_FnExactBorderOf.j0 k a0 a1 l2 bt323.2.2.2.2 t333 bt336.2.2.2.2 (bt336.2.2.2.2 != bt323.2.2.2.2) bt323.1 bt323.2.1 bt323.2.2.1 bt323.2.2.2.1 bt336.1 bt336.2.1 bt336.2.2.1 bt336.2.2.2.1) else (laws_FnExactBorderOf.j0 k a0 a1 l2 bt323.2.2.2.2 t333 bt336.2.2.2.2 true bt323.1 bt323.2.1 bt323.2.2.1 bt323.2.2.2.1 bt336.1 bt336.2.1 bt336.2.2.1 bt336.2.2.2.1)))))))
theorem laws_FnExactBorderOf.mono_l : ∀ k, (∀ y0 y1 y2 y3 y4 y5 y6 y7 y8 y9 y10 y11 y12 y13 y14, LeO (laws_FnExactBorderOf.j0 k y0 y1 y2 y3 y4 y5 y6 y7 y8 y9 y10 y11 y12 y13 y14) (laws_FnExactBorderOf.j0 (k + 1) y0 y1 y2 y3 y4 y5 y6 y7 y8 y9 y10 y11 y12 y13 y14)) ∧ (∀ y0 y1 y2 y3 y4 y5 y6 y7 y8 y9 y10 y11 y12, LeO (laws_FnExactBorderOf.j1 k y0 y1 y2 y3 y4 y5 y6 y7 y8 y9 y10 y11 y12) (laws_FnExactBorderOf.j1 (k + 1) y0 y1 y2 y3 y4 y5 y6 y7 y8 y9 y10 y11 y12)) ∧ (∀ y0 y1 y2 y3 y4 y5, LeO (laws_FnExactBorderOf.j2 k y0 y1 y2 y3 y4 y5) (laws_FnExactBorderOf.j2 (k + 1) y0 y1 y2 y3 y4 y5))
 | 0 => ⟨fun _ _ _ _ _ _ _ _ _ _ _ _ _ _ _ r h => by simp [laws_FnExactBorderOf.j0] at h, fun _ _ _ _ _ _ _ _ _ _ _ _ _ r h => by simp [laws_FnExactBorderOf.j1] at h, fun _ _ _ _ _ _ r h => by simp [laws_FnExactBorderOf.j2] at h⟩
 | k + 1 => by
  obtain ⟨ih0, ih1, ih2⟩ := laws_FnExactBorderOf.mono_l k
  refine ⟨?_, ?_, ?_⟩
  ·intro y0 y1 y2 y3 y4 y5 y6 y7 y8 y9 y10 y11 y12 y13 y14
   unfold laws_FnExactBorderOf.j0
   repeat' first
   | (with_reducible exact ih0 _ _ _ _ _ _ _ _ _ _ _ _ _ _ _)
   | (with_reducible exact ih1 _ _ _ _ _ _ _ _ _ _ _ _ _)
   | (with_reducible exact ih2 _ _ _ _ _ _)
   | (with_reducible exact impl_BorderOf.mono _ _ _ _)
   | (with_reducible exact laws_eqFigure.mono _ _ _ _ _ _ _ _ _)
   | (with_reducible exact laws_heldFigure.mono _ _ _ _ _ _)
   | (with_reducible exact laws_markFigure.mono _ _ _ _ _ _)
   | (with_reducible exact laws_markIntS.mono _ _ _)
   | (with_reducible exact spec_BorderOf.mono _ _ _ _)
   | (with_reducible exact LeO.refl _)
   | (with_reducible exact LeO.none _)
   | (with_reducible refine LeO.ite ?_ ?_)
   | (with_reducible refine LeO.bind ?_ (fun _ => ?_))
   | exact ih0 _ _ _ _ _ _ _ _ _ _ _ _ _ _ _
   | exact ih1 _ _ _ _ _ _ _ _ _ _ _ _ _
   | exact ih2 _ _ _ _ _ _
   | exact impl_BorderOf.mono _ _ _ _
   | exact laws_eqFigure.mono _ _ _ _ _ _ _ _ _
   | exact laws_heldFigure.mono _ _ _ _ _ _
   | exact laws_markFigure.mono _ _ _ _ _ _
   | exact laws_markIntS.mono _ _ _
   | exact spec_BorderOf.mono _ _ _ _
   | exact LeO.none _
   | refine LeO.ite ?_ ?_
   | refine LeO.bind ?_ (fun _ => ?_)
  ·intro y0 y1 y2 y3 y4 y5 y6 y7 y8 y9 y10 y11 y12
   unfold laws_FnExactBorderOf.j1
   repeat' first
   | (with_reducible exact ih0 _ _ _ _ _ _ _ _ _ _ _ _ _ _ _)
   | (with_reducible exact ih1 _ _ _ _ _ _ _ _ _ _ _ _ _)
   | (with_reducible exact ih2 _ _ _ _ _ _)
   | (with_reducible exact impl_BorderOf.mono _ _ _ _)
   | (with_reducible exact laws_eqFigure.mono _ _ _ _ _ _ _ _ _)
   | (with_reducible exact laws_heldFigure.mono _ _ _ _ _ _)
   | (with_reducible exact laws_markFigure.mono _ _ _ _ _ _)
   | (with_reducible exact laws_markIntS.mono _ _ _)
   | (with_reducible exact spec_BorderOf.mono _ _ _ _)
   | (with_reducible exact LeO.refl _)
   | (with_reducible exact LeO.none _)
   | (with_reducible refine LeO.ite ?_ ?_)
   | (with_reducible refine LeO.bind ?_ (fun _ => ?_))
   | exact ih0 _ _ _ _ _ _ _ _ _ _ _ _ _ _ _
   | exact ih1 _ _ _ _ _ _ _ _ _ _ _ _ _
   | exact ih2 _ _ _ _ _ _
   | exact impl_BorderOf.mono _ _ _ _
   | exact laws_eqFigure.mono _ _ _ _ _ _ _ _ _
   | exact laws_heldFigure.mono _ _ _ _ _ _
   | exact laws_markFigure.mono _ _ _ _ _ _
   | exact laws_markIntS.mono _ _ _
   | exact spec_BorderOf.mono _ _ _ _
   | exact LeO.none _
   | refine LeO.ite ?_ ?_
   | refine LeO.bind ?_ (fun _ => ?_)
  ·intro y0 y1 y2 y3 y4 y5
   unfold laws_FnExactBorderOf.j2
   repeat' first
   | (with_reducible exact ih0 _ _ _ _ _ _ _ _ _ _ _ _ _ _ _)
   | (with_reducible exact ih1 _ _ _ _ _ _ _ _ _ _ _ _ _)
   | (with_reducible exact ih2 _ _ _ _ _ _)
   | (with_reducible exact impl_BorderOf.mono _ _ _ _)
   | (with_reducible exact laws_eqFigure.mono _ _ _ _ _ _ _ _ _)
   | (with_reducible exact laws_heldFigure.mono _ _ _ _ _ _)
   | (with_reducible exact laws_markFigure.mono _ _ _ _ _ _)
   | (with_reducible exact laws_markIntS.mono _ _ _)
   | (with_reducible exact spec_BorderOf.mono _ _ _ _)
   | (with_reducible exact LeO.refl _)
   | (with_reducible exact LeO.none _)
   | (with_reducible refine LeO.ite ?_ ?_)
   | (with_reducible refine LeO.bind ?_ (fun _ => ?_))
   | exact ih0 _ _ _ _ _ _ _ _ _ _ _ _ _ _ _
   | exact ih1 _ _ _ _ _ _ _ _ _ _ _ _ _
   | exact ih2 _ _ _ _ _ _
   | exact impl_BorderOf.mono _ _ _ _
   | exact laws_eqFigure.mono _ _ _ _ _ _ _ _ _
   | exact laws_heldFigure.mono _ _ _ _ _ _
   | exact laws_markFigure.mono _ _ _ _ _ _
   | exact laws_markIntS.mono _ _ _
   | exact spec_BorderOf.mono _ _ _ _
   | exact LeO.none _
   | refine LeO.ite ?_ ?_
   | refine LeO.bind ?_ (fun _ => ?_)
theorem laws_FnExactBorderOf.mono : ∀ a0 a1 a2 k, LeO (laws_FnExactBorderOf.f k a0 a1 a2) (laws_FnExactBorderOf.f (k + 1) a0 a1 a2) := by
 intro a0 a1 a2 k
 obtain ⟨ih0, ih1, ih2⟩ := laws_FnExactBorderOf.mono_l k
 unfold laws_FnExactBorderOf.f
 repeat' first
   | (with_reducible exact ih0 _ _ _ _ _ _ _ _ _ _ _ _ _ _ _)
   | (with_reducible exact ih1 _ _ _ _ _ _ _ _ _ _ _ _ _)
   | (with_reducible exact ih2 _ _ _ _ _ _)
   | (with_reducible exact impl_BorderOf.mono _ _ _ _)
   | (with_reducible exact laws_eqFigure.mono _ _ _ _ _ _ _ _ _)
   | (with_reducible exact laws_heldFigure.mono _ _ _ _ _ _)
   | (with_reducible exact laws_markFigure.mono _ _ _ _ _ _)
   | (with_reducible exact laws_markIntS.mono _ _ _)
   | (with_reducible exact spec_BorderOf.mono _ _ _ _)
   | (with_reducible exact LeO.refl _)
   | (with_reducible exact LeO.none _)
   | (with_reducible refine LeO.ite ?_ ?_)
   | (with_reducible refine LeO.bind ?_ (fun _ => ?_))
   | exact ih0 _ _ _ _ _ _ _ _ _ _ _ _ _ _ _
   | exact ih1 _ _ _ _ _ _ _ _ _ _ _ _ _
   | exact ih2 _ _ _ _ _ _
   | exact impl_BorderOf.mono _ _ _ _
   | exact laws_eqFigure.mono _ _ _ _ _ _ _ _ _
   | exact laws_heldFigure.mono _ _ _ _ _ _
   | exact laws_markFigure.mono _ _ _ _ _ _
   | exact laws_markIntS.mono _ _ _
   | exact spec_BorderOf.mono _ _ _ _
   | exact LeO.none _
   | refine LeO.ite ?_ ?_
   | refine LeO.bind ?_ (fun _ => ?_)
set_option maxHeartbeats 8000000 in
set_option maxRecDepth 100000 in
theorem laws_FnExactBorderOf.calls (k : Nat) (a0 : Int) (a1 : Int) (A2 : Option Addr) (c2 : Nat) (l2 : List Int) (r : Bool) (w : World) (hr2 : Kd.C (Kd.int .i64) w A2 l2.length l2) (hc2 : l2.length ≤ c2) (hG : LaidG w) (hr_ : r = true) (h : laws_FnExactBorderOf.f k a0 a1 l2 = some r) :
  Calls Tryd.prog 6 #[.int .i64 a0, .int .i64 a1, .slice A2 l2.length c2] w fun e w' => e = .returned (.bool r) ∧ Below w.heap.size w w' := by
 have hu26 := Tryd.underlying26
 have HR2 := Aside0.mk hr2
 have HC2 := Aside0.mk hc2
 clear hr2 hc2
 have HG := Aside0.mk hG
 clear hG
 have HR_ := Aside0.mk hr_
 clear hr_
 have HB := Aside0.mk (Below.refl w.heap.size w)
 have H : (if (l2.length : Int) > 1000000 then (some true) else ((laws_toIntS.f l2 false).bind fun t320 => ((spec_BorderOf.f k a0 a1 t320).bind fun bt323 => ((laws_toIntS.f l2 false).bind fun t333 => ((impl_BorderOf.f k a0 a1 t333).bind fun bt336 => ((laws_eqFigure.f k bt336.1 bt336.2.1 bt336.2.2.1 bt336.2.2.2.1 bt323.1 bt323.2.1 bt323.2.2.1 bt323.2.2.2.1).bind fun t346 => (if t346 = true then (laws_FnExactBorderOf.j0 k a0 a1 l2 bt323.2.2.2.2 t333 bt336.2.2.2.2 (bt336.2.2.2.2 != bt323.2.2.2.2) bt323.1 bt323.2.1 bt323.2.2.1 bt323.2.2.2.1 bt336.1 bt336.2.1 bt336.2.2.1 bt336.2.2.2.1) else (laws_FnExactBorderOf.j0 k a0 a1 l2 bt323.2.2.2.2 t333 bt336.2.2.2.2 true bt323.1 bt323.2.1 bt323.2.2.1 bt323.2.2.2.1 bt336.1 bt336.2.1 bt336.2.2.1 bt336.2.2.2.1)))))))) = some r := h
 clear h
 by_cases c4 : (l2.length : Int) > 1000000
 ·rw [if_pos c4] at H
  have c4b0 : decide (1000000 < (l2.length : Int)) = true := decide_eq_true c4
  have c4b1 : decide (1000000 < l2.length) = true := decide_eq_true (by omega)
  clear c4
  obtain rfl := Option.some.inj H
  go_enter Tryd.func6, Tryd.ntmps6
  go_wp2
  go_ret
  exact ⟨by first | rfl | (simp [errW_none, errW_some] <;> rfl) | (simp [*, errW_none, errW_some] <;> rfl), by repeat (first | (with_reducible first | exact HB.out | apply below_alloc | apply pw_below_drewN | apply below_drew1) | exact HB.out)⟩
 ·rw [if_neg c4] at H
  have c4b0 : decide (1000000 < (l2.length : Int)) = false := decide_eq_false c4
  have c4b1 : decide (1000000 < l2.length) = false := decide_eq_false (by omega)
  clear c4
  replace H := Option.bind_eq_some_iff.mp H
  obtain ⟨t320, A50, H⟩ := H
  replace H : ((spec_BorderOf.f k a0 a1 t320).bind fun bt323 => ((laws_toIntS.f l2 false).bind fun t333 => ((impl_BorderOf.f k a0 a1 t333).bind fun bt336 => ((laws_eqFigure.f k bt336.1 bt336.2.1 bt336.2.2.1 bt336.2.2.2.1 bt323.1 bt323.2.1 bt323.2.2.1 bt323.2.2.2.1).bind fun t346 => (if t346 = true then (laws_FnExactBorderOf.j0 k a0 a1 l2 bt323.2.2.2.2 t333 bt336.2.2.2.2 (bt336.2.2.2.2 != bt323.2.2.2.2) bt323.1 bt323.2.1 bt323.2.2.1 bt323.2.2.2.1 bt336.1 bt336.2.1 bt336.2.2.1 bt336.2.2.2.1) else (laws_FnExactBorderOf.j0 k a0 a1 l2 bt323.2.2.2.2 t333 bt336.2.2.2.2 true bt323.1 bt323.2.1 bt323.2.2.1 bt323.2.2.2.1 bt336.1 bt336.2.1 bt336.2.2.1 bt336.2.2.2.1)))))) = some r := H
  have A5 := Aside0.mk A50
  clear A50
  replace H := Option.bind_eq_some_iff.mp H
  obtain ⟨⟨t323, t324, t325, t328, t331⟩, A60, H⟩ := H
  replace H : ((laws_toIntS.f l2 false).bind fun t333 => ((impl_BorderOf.f k a0 a1 t333).bind fun bt336 => ((laws_eqFigure.f k bt336.1 bt336.2.1 bt336.2.2.1 bt336.2.2.2.1 t323 t324 t325 t328).bind fun t346 => (if t346 = true then (laws_FnExactBorderOf.j0 k a0 a1 l2 t331 t333 bt336.2.2.2.2 (bt336.2.2.2.2 != t331) t323 t324 t325 t328 bt336.1 bt336.2.1 bt336.2.2.1 bt336.2.2.2.1) else (laws_FnExactBorderOf.j0 k a0 a1 l2 t331 t333 bt336.2.2.2.2 true t323 t324 t325 t328 bt336.1 bt336.2.1 bt336.2.2.1 bt336.2.2.2.1))))) = some r := H
  have A6 := Aside0.mk A60
  clear A60
  replace H := Option.bind_eq_some_iff.mp H
  obtain ⟨t333, A70, H⟩ := H
  replace H : ((impl_BorderOf.f k a0 a1 t333).bind fun bt336 => ((laws_eqFigure.f k bt336.1 bt336.2.1 bt336.2.2.1 bt336.2.2.2.1 t323 t324 t325 t328).bind fun t346 => (if t346 = true then (laws_FnExactBorderOf.j0 k a0 a1 l2 t331 t333 bt336.2.2.2.2 (bt336.2.2.2.2 != t331) t323 t324 t325 t328 bt336.1 bt336.2.1 bt336.2.2.1 bt336.2.2.2.1) else (laws_FnExactBorderOf.j0 k a0 a1 l2 t331 t333 bt336.2.2.2.2 true t323 t324 t325 t328 bt336.1 bt336.2.1 bt336.2.2.1 bt336.2.2.2.1)))) = some r := H
  have A7 := Aside0.mk A70
  clear A70
  replace H := Option.bind_eq_some_iff.mp H
  obtain ⟨⟨t336, t337, t338, t341, t344⟩, A80, H⟩ := H
  replace H : ((laws_eqFigure.f k t336 t337 t338 t341 t323 t324 t325 t328).bind fun t346 => (if t346 = true then (laws_FnExactBorderOf.j0 k a0 a1 l2 t331 t333 t344 (t344 != t331) t323 t324 t325 t328 t336 t337 t338 t341) else (laws_FnExactBorderOf.j0 k a0 a1 l2 t331 t333 t344 true t323 t324 t325 t328 t336 t337 t338 t341))) = some r := H
  have A8 := Aside0.mk A80
  clear A80
  have HC9 := Aside0.mk H
  clear H
  go_enter Tryd.func6, Tryd.ntmps6
  go_upto_region 6 with (first | ((with_reducible refine gate_callee (f := 23) rfl ?_); refine goesL_ (some 24) rfl rfl Tryd.func23 (by kernel_rfl) rfl #[.slice A2 l2.length c2, .bool false] rfl (by (try simp only [List.map_toArray, List.map_cons, List.map_nil]); first | done | rfl | (simp only [List.length_drop, List.length_take]; rfl)) ?_; (with_reducible refine (laws_toIntS.calls _ _ l2 false t320 _ ?side1 ?side2 A5.out).mono ?_); (case side1 => repeat (first | exact HR2.out | (with_reducible refine Kd.C_alloc ?_ _) | (with_reducible refine Kd.C_drewN ?_ _) | (with_reducible refine Kd.C_drew ?_))); (case side2 => exact HC2.out); rintro e w10 ⟨v321, rfl, ho0, hb⟩; refine ⟨_, rfl, ?_⟩; have n0_ := Aside0.mk (Kd.PB_lower ho0 (below_size (by repeat (first | (with_reducible first | exact HB.out | apply below_alloc | apply pw_below_drewN | apply below_drew1) | exact HB.out)))); have n1_ := Aside0.mk (below_step (by repeat (first | (with_reducible first | exact HB.out | apply below_alloc | apply pw_below_drewN | apply below_drew1) | exact HB.out)) hb); clear HB; have HO322 := n0_; have HB := n1_; clear n0_ n1_; (try clear hb); (try clear hb2); (try clear hk); (try clear hi); (try clear ho0); obtain ⟨Ao11, co11, eo11⟩ := Kd.PB_slice HO322.out; subst eo11) | ((with_reducible refine gate_callee (f := 22) rfl ?_); refine goesL_ (some 25) rfl rfl Tryd.func22 (by kernel_rfl) rfl #[.int .i64 a0, .int .i64 a1, .slice Ao11 t320.length co11] rfl (by (try simp only [List.map_toArray, List.map_cons, List.map_nil]); first | done | rfl | (simp only [List.length_drop, List.length_take]; rfl)) ?_; (with_reducible refine (spec_BorderOf.calls k a0 a1 _ _ t320 t323 t324 t325 t328 t331 _ ?side1 ?side2 A6.out).mono ?_); (case side1 => repeat (first | exact (Kd.PB_reads' HO322.out).2.2 | (with_reducible refine Kd.C_alloc ?_ _) | (with_reducible refine Kd.C_drewN ?_ _) | (with_reducible refine Kd.C_drew ?_))); (case side2 => exact (Kd.PB_reads' HO322.out).2.1); rintro e w12 ⟨v326, v329, rfl, ho0, ho1, hb⟩; refine ⟨_, rfl, ?_⟩; have n0_ := Aside0.mk (Kd.PB_mono (Kd.PB_told (Kd.PB_told (Kd.PB_old (by (with_reducible repeat (first | apply Kd.PB_alloc | apply Kd.PB_drewN | apply Kd.PB_drew)); exact HO322.out) hb) (Kd.R_base ho0)) (Kd.R_base ho1)) (fun _ h_ => h_.1)); have n1_ := Aside0.mk (Kd.R_lower (Kd.R_new' ho0 (Kd.PB_lt (by (with_reducible repeat (first | apply Kd.PB_alloc | apply Kd.PB_drewN | apply Kd.PB_drew)); exact HO322.out))) (below_size (by repeat (first | (with_reducible first | exact HB.out | apply below_alloc | apply pw_below_drewN | apply below_drew1) | exact HB.out)))); have n2_ := Aside0.mk (Kd.R_lower (Kd.R_new' ho1 (Kd.PB_lt (by (with_reducible repeat (first | apply Kd.PB_alloc | apply Kd.PB_drewN | apply Kd.PB_drew)); exact HO322.out))) (below_size (by repeat (first | (with_reducible first | exact HB.out | apply below_alloc | apply pw_below_drewN | apply below_drew1) | exact HB.out)))); have n3_ := Aside0.mk (below_step (by repeat (first | (with_reducible first | exact HB.out | apply below_alloc | apply pw_below_drewN | apply below_drew1) | exact HB.out)) hb); clear HO322; clear HB; have HO322 := n0_; have HO327 := n1_; have HO330 := n2_; have HB := n3_; clear n0_ n1_ n2_ n3_; (try clear hb); (try clear hb2); (try clear hk); (try clear hi); (try clear ho0); (try clear ho1)) | ((with_reducible refine gate_dst (N := 7) rfl ?_); refine box_event ?hg (N := 7) ?hd (cs := #[.int .i64 0, .int .i64 0, .slice none 0 0, .slice none 0 0]) (t := 26) ?hr ?_; (case hd => rfl); (case hg => rfl); (case hr => first | (go_simp; done) | (go_simp; rfl)); intro gb332 hg w13 hbox hb; have n0_ := Aside0.mk (Kd.PB_below (by (with_reducible repeat (first | apply Kd.PB_alloc | apply Kd.PB_drewN | apply Kd.PB_drew)); exact HO322.out) hb); have n1_ := Aside0.mk (Kd.R_below (by (with_reducible repeat (first | apply Kd.R_alloc | apply Kd.R_drewN | apply Kd.R_drew)); exact HO327.out) hb); have n2_ := Aside0.mk (Kd.R_below (by (with_reducible repeat (first | apply Kd.R_alloc | apply Kd.R_drewN | apply Kd.R_drew)); exact HO330.out) hb); have n3_ := Aside0.mk (below_step (by repeat (first | (with_reducible first | exact HB.out | apply below_alloc | apply pw_below_drewN | apply below_drew1) | exact HB.out)) hb); have n4_ := Aside0.mk (hbox); have n5_ := Aside0.mk ((by rw [hg]; exact (below_size (by repeat (first | (with_reducible first | exact HB.out | apply below_alloc | apply pw_below_drewN | apply below_drew1) | exact HB.out))) : w.heap.size ≤ gb332)); have n6_ := Aside0.mk ((by rw [hg]; exact (below_size (by repeat (first | (with_reducible first | exact HB.out | apply below_alloc | apply pw_below_drewN | apply below_drew1) | exact HB.out))) : w.heap.size ≤ gb332)); clear HO322; clear HO327; clear HO330; clear HB; have HO322 := n0_; have HO327 := n1_; have HO330 := n2_; have HB := n3_; have BK332 := n4_; have GW332 := n5_; have GE332 := n6_; clear n0_ n1_ n2_ n3_ n4_ n5_ n6_; clear hb hbox hg; have hcz14_0 : w13.cell? ⟨gb332, 0, none⟩ = some (.int .i64 0) := (blk_cell BK332.out 0).trans rfl; have hcz14_1 : w13.cell? ⟨gb332, 1, none⟩ = some (.int .i64 0) := (blk_cell BK332.out 1).trans rfl; have hcz14_2 : w13.cell? ⟨gb332, 2, none⟩ = some (.slice none 0 0) := (blk_cell BK332.out 2).trans rfl; have hcz14_3 : w13.cell? ⟨gb332, 3, none⟩ = some (.slice none 0 0) := (blk_cell BK332.out 3).trans rfl; have hfz14_0 := blk_frozen BK332.out 0; have hfz14_1 := blk_frozen BK332.out 1; have hfz14_2 := blk_frozen BK332.out 2; have hfz14_3 := blk_frozen BK332.out 3; obtain ⟨Ao15, co15, eo15⟩ := Kd.R_slice HO327.out; subst eo15; obtain ⟨Ao16, co16, eo16⟩ := Kd.R_slice HO330.out; subst eo16) | ((with_reducible refine gate_callee (f := 23) rfl ?_); refine goesL_ (some 29) rfl rfl Tryd.func23 (by kernel_rfl) rfl #[.slice A2 l2.length c2, .bool false] rfl (by (try simp only [List.map_toArray, List.map_cons, List.map_nil]); first | done | rfl | (simp only [List.length_drop, List.length_take]; rfl)) ?_; (with_reducible refine (laws_toIntS.calls _ _ l2 false t333 _ ?side1 ?side2 A7.out).mono ?_); (case side1 => exact Kd.C_below HR2.out (by repeat (first | (with_reducible first | exact HB.out | apply below_alloc | apply pw_below_drewN | apply below_drew1 | refine below_set ?_ GE332.out) | exact HB.out))); (case side2 => exact HC2.out); rintro e w17 ⟨v334, rfl, ho0, hb⟩; refine ⟨_, rfl, ?_⟩; have n0_ := Aside0.mk (Kd.PB_elder' (by (with_reducible repeat (first | apply Kd.PB_alloc | apply Kd.PB_drewN | apply Kd.PB_drew)); exact (Kd.PB_mono (Kd.PB_far (p := ⟨gb332, 3, none⟩) (Kd.PB_far (p := ⟨gb332, 2, none⟩) (Kd.PB_far (p := ⟨gb332, 1, none⟩) (Kd.PB_far (p := ⟨gb332, 0, none⟩) (Kd.PB_types HO322.out BK332.out (by decide)) (fun _ hk => hk.2) (.int .i64 t323)) (fun _ hk => hk.2) (.int .i64 t324)) (fun _ hk => hk.2) (.slice Ao15 t325.length co15)) (fun _ hk => hk.2) (.slice Ao16 t328.length co16)) (fun _ h_ => h_.1))) (Kd.PB_base ho0) hb); have n1_ := Aside0.mk (Kd.R_elder' (by (with_reducible repeat (first | apply Kd.R_alloc | apply Kd.R_drewN | apply Kd.R_drew)); exact (Kd.R_mono (Kd.R_far (p := ⟨gb332, 3, none⟩) (Kd.R_far (p := ⟨gb332, 2, none⟩) (Kd.R_far (p := ⟨gb332, 1, none⟩) (Kd.R_far (p := ⟨gb332, 0, none⟩) (Kd.R_types HO327.out BK332.out (by decide)) (fun _ hk => hk.2) (.int .i64 t323)) (fun _ hk => hk.2) (.int .i64 t324)) (fun _ hk => hk.2) (.slice Ao15 t325.length co15)) (fun _ hk => hk.2) (.slice Ao16 t328.length co16)) (fun _ h_ => h_.1))) (Kd.PB_base ho0) hb); have n2_ := Aside0.mk (Kd.R_elder' (by (with_reducible repeat (first | apply Kd.R_alloc | apply Kd.R_drewN | apply Kd.R_drew)); exact (Kd.R_mono (Kd.R_far (p := ⟨gb332, 3, none⟩) (Kd.R_far (p := ⟨gb332, 2, none⟩) (Kd.R_far (p := ⟨gb332, 1, none⟩) (Kd.R_far (p := ⟨gb332, 0, none⟩) (Kd.R_types HO330.out BK332.out (by decide)) (fun _ hk => hk.2) (.int .i64 t323)) (fun _ hk => hk.2) (.int .i64 t324)) (fun _ hk => hk.2) (.slice Ao15 t325.length co15)) (fun _ hk => hk.2) (.slice Ao16 t328.length co16)) (fun _ h_ => h_.1))) (Kd.PB_base ho0) hb); have n3_ := Aside0.mk (Kd.PB_lower (Kd.PB_new' (Kd.PB_new' (Kd.PB_new' ho0 (Kd.PB_lt (by (with_reducible repeat (first | apply Kd.PB_alloc | apply Kd.PB_drewN | apply Kd.PB_drew)); exact (Kd.PB_mono (Kd.PB_far (p := ⟨gb332, 3, none⟩) (Kd.PB_far (p := ⟨gb332, 2, none⟩) (Kd.PB_far (p := ⟨gb332, 1, none⟩) (Kd.PB_far (p := ⟨gb332, 0, none⟩) (Kd.PB_types HO322.out BK332.out (by decide)) (fun _ hk => hk.2) (.int .i64 t323)) (fun _ hk => hk.2) (.int .i64 t324)) (fun _ hk => hk.2) (.slice Ao15 t325.length co15)) (fun _ hk => hk.2) (.slice Ao16 t328.length co16)) (fun _ h_ => h_.1))))) (Kd.R_lt (by (with_reducible repeat (first | apply Kd.R_alloc | apply Kd.R_drewN | apply Kd.R_drew)); exact (Kd.R_mono (Kd.R_far (p := ⟨gb332, 3, none⟩) (Kd.R_far (p := ⟨gb332, 2, none⟩) (Kd.R_far (p := ⟨gb332, 1, none⟩) (Kd.R_far (p := ⟨gb332, 0, none⟩) (Kd.R_types HO327.out BK332.out (by decide)) (fun _ hk => hk.2) (.int .i64 t323)) (fun _ hk => hk.2) (.int .i64 t324)) (fun _ hk => hk.2) (.slice Ao15 t325.length co15)) (fun _ hk => hk.2) (.slice Ao16 t328.length co16)) (fun _ h_ => h_.1))))) (Kd.R_lt (by (with_reducible repeat (first | apply Kd.R_alloc | apply Kd.R_drewN | apply Kd.R_drew)); exact (Kd.R_mono (Kd.R_far (p := ⟨gb332, 3, none⟩) (Kd.R_far (p := ⟨gb332, 2, none⟩) (Kd.R_far (p := ⟨gb332, 1, none⟩) (Kd.R_far (p := ⟨gb332, 0, none⟩) (Kd.R_types HO330.out BK332.out (by decide)) (fun _ hk => hk.2) (.int .i64 t323)) (fun _ hk => hk.2) (.int .i64 t324)) (fun _ hk => hk.2) (.slice Ao15 t325.length co15)) (fun _ hk => hk.2) (.slice Ao16 t328.length co16)) (fun _ h_ => h_.1))))) (below_size (by repeat (first | (with_reducible first | exact HB.out | apply below_alloc | apply pw_below_drewN | apply below_drew1 | refine below_set ?_ GE332.out) | exact HB.out)))); have n4_ := Aside0.mk (blk_below (g := gb332) (o := .cells #[.int .i64 t323, .int .i64 t324, .slice Ao15 t325.length co15, .slice Ao16 t328.length co16] 26 (0, 0)) (by (with_reducible repeat (first | refine blk_drewN ?_ _ | refine blk_drew ?_ | refine blk_alloc ?_ _)); refine blk_put (cs := #[.int .i64 t323, .int .i64 t324, .slice Ao15 t325.length co15, .slice none 0 0]) ?_ 3 _ rfl; (with_reducible repeat (first | refine blk_drewN ?_ _ | refine blk_drew ?_ | refine blk_alloc ?_ _)); refine blk_put (cs := #[.int .i64 t323, .int .i64 t324, .slice none 0 0, .slice none 0 0]) ?_ 2 _ rfl; (with_reducible repeat (first | refine blk_drewN ?_ _ | refine blk_drew ?_ | refine blk_alloc ?_ _)); refine blk_put (cs := #[.int .i64 t323, .int .i64 0, .slice none 0 0, .slice none 0 0]) ?_ 1 _ rfl; (with_reducible repeat (first | refine blk_drewN ?_ _ | refine blk_drew ?_ | refine blk_alloc ?_ _)); refine blk_put (cs := #[.int .i64 0, .int .i64 0, .slice none 0 0, .slice none 0 0]) ?_ 0 _ rfl; (with_reducible repeat (first | refine blk_drewN ?_ _ | refine blk_drew ?_ | refine blk_alloc ?_ _)); exact BK332.out) hb); have n5_ := Aside0.mk (below_step (by repeat (first | (with_reducible first | exact HB.out | apply below_alloc | apply pw_below_drewN | apply below_drew1 | refine below_set ?_ GE332.out) | exact HB.out)) hb); clear HO322; clear HO327; clear HO330; clear BK332; clear HB; have HO322 := n0_; have HO327 := n1_; have HO330 := n2_; have HO335 := n3_; have BK332 := n4_; have HB := n5_; clear n0_ n1_ n2_ n3_ n4_ n5_; (try clear hb); (try clear hb2); (try clear hk); (try clear hi); (try clear ho0); obtain ⟨Ao18, co18, eo18⟩ := Kd.PB_slice HO335.out; subst eo18) | ((with_reducible refine gate_callee (f := 24) rfl ?_); refine goesL_ (some 34) rfl rfl Tryd.func24 (by kernel_rfl) rfl #[.int .i64 a0, .int .i64 a1, .slice Ao18 t333.length co18] rfl (by (try simp only [List.map_toArray, List.map_cons, List.map_nil]); first | done | rfl | (simp only [List.length_drop, List.length_take]; rfl)) ?_; (with_reducible refine (impl_BorderOf.calls k a0 a1 _ _ t333 t336 t337 t338 t341 t344 _ ?side1 ?side2 ?side3 A8.out).mono ?_); (case side1 => repeat (first | exact (Kd.PB_reads' HO335.out).2.2 | (with_reducible refine Kd.C_alloc ?_ _) | (with_reducible refine Kd.C_drewN ?_ _) | (with_reducible refine Kd.C_drew ?_))); (case side2 => exact (Kd.PB_reads' HO335.out).2.1); (case side3 => first | exact LaidG_below HG.out (by repeat (first | (with_reducible first | exact HB.out | apply below_alloc | apply pw_below_drewN | apply below_drew1 | refine below_set ?_ GE332.out) | exact HB.out)) | (repeat (first | exact HG.out | (with_reducible refine LaidG_alloc ?_ _) | (with_reducible refine LaidG_drewN ?_ _) | (with_reducible refine LaidG_drew ?_)))); rintro e w19 ⟨v339, v342, rfl, ho0, ho1, hb⟩; refine ⟨_, rfl, ?_⟩; have n0_ := Aside0.mk (Kd.PB_mono (Kd.PB_told (Kd.PB_told (Kd.PB_old (by (with_reducible repeat (first | apply Kd.PB_alloc | apply Kd.PB_drewN | apply Kd.PB_drew)); exact HO322.out) hb) (Kd.R_base ho0)) (Kd.R_base ho1)) (fun _ h_ => h_.1)); have n1_ := Aside0.mk (Kd.R_mono (Kd.R_told (Kd.R_told (Kd.R_old (by (with_reducible repeat (first | apply Kd.R_alloc | apply Kd.R_drewN | apply Kd.R_drew)); exact HO327.out) hb) (Kd.R_base ho0)) (Kd.R_base ho1)) (fun _ h_ => h_.1)); have n2_ := Aside0.mk (Kd.R_mono (Kd.R_told (Kd.R_told (Kd.R_old (by (with_reducible repeat (first | apply Kd.R_alloc | apply Kd.R_drewN | apply Kd.R_drew)); exact HO330.out) hb) (Kd.R_base ho0)) (Kd.R_base ho1)) (fun _ h_ => h_.1)); have n3_ := Aside0.mk (Kd.PB_mono (Kd.PB_told (Kd.PB_told (Kd.PB_old (by (with_reducible repeat (first | apply Kd.PB_alloc | apply Kd.PB_drewN | apply Kd.PB_drew)); exact HO335.out) hb) (Kd.R_base ho0)) (Kd.R_base ho1)) (fun _ h_ => h_.1)); have n4_ := Aside0.mk (Kd.R_lower (Kd.R_new' (Kd.R_new' (Kd.R_new' (Kd.R_new' ho0 (Kd.PB_lt (by (with_reducible repeat (first | apply Kd.PB_alloc | apply Kd.PB_drewN | apply Kd.PB_drew)); exact HO322.out))) (Kd.R_lt (by (with_reducible repeat (first | apply Kd.R_alloc | apply Kd.R_drewN | apply Kd.R_drew)); exact HO327.out))) (Kd.R_lt (by (with_reducible repeat (first | apply Kd.R_alloc | apply Kd.R_drewN | apply Kd.R_drew)); exact HO330.out))) (Kd.PB_lt (by (with_reducible repeat (first | apply Kd.PB_alloc | apply Kd.PB_drewN | apply Kd.PB_drew)); exact HO335.out))) (below_size (by repeat (first | (with_reducible first | exact HB.out | apply below_alloc | apply pw_below_drewN | apply below_drew1 | refine below_set ?_ GE332.out) | exact HB.out)))); have n5_ := Aside0.mk (Kd.R_lower (Kd.R_new' (Kd.R_new' (Kd.R_new' (Kd.R_new' ho1 (Kd.PB_lt (by (with_reducible repeat (first | apply Kd.PB_alloc | apply Kd.PB_drewN | apply Kd.PB_drew)); exact HO322.out))) (Kd.R_lt (by (with_reducible repeat (first | apply Kd.R_alloc | apply Kd.R_drewN | apply Kd.R_drew)); exact HO327.out))) (Kd.R_lt (by (with_reducible repeat (first | apply Kd.R_alloc | apply Kd.R_drewN | apply Kd.R_drew)); exact HO330.out))) (Kd.PB_lt (by (with_reducible repeat (first | apply Kd.PB_alloc | apply Kd.PB_drewN | apply Kd.PB_drew)); exact HO335.out))) (below_size (by repeat (first | (with_reducible first | exact HB.out | apply below_alloc | apply pw_below_drewN | apply below_drew1 | refine below_set ?_ GE332.out) | exact HB.out)))); have n6_ := Aside0.mk (blk_below (g := gb332) (o := .cells #[.int .i64 t323, .int .i64 t324, .slice Ao15 t325.length co15, .slice Ao16 t328.length co16] 26 (0, 0)) (by (with_reducible repeat (first | refine blk_drewN ?_ _ | refine blk_drew ?_ | refine blk_alloc ?_ _)); exact BK332.out) hb); have n7_ := Aside0.mk (below_step (by repeat (first | (with_reducible first | exact HB.out | apply below_alloc | apply pw_below_drewN | apply below_drew1 | refine below_set ?_ GE332.out) | exact HB.out)) hb); clear HO322; clear HO327; clear HO330; clear HO335; clear BK332; clear HB; have HO322 := n0_; have HO327 := n1_; have HO330 := n2_; have HO335 := n3_; have HO340 := n4_; have HO343 := n5_; have BK332 := n6_; have HB := n7_; clear n0_ n1_ n2_ n3_ n4_ n5_ n6_ n7_; (try clear hb); (try clear hb2); (try clear hk); (try clear hi); (try clear ho0); (try clear ho1)) | ((with_reducible refine gate_dst (N := 10) rfl ?_); refine box_event ?hg (N := 10) ?hd (cs := #[.int .i64 0, .int .i64 0, .slice none 0 0, .slice none 0 0]) (t := 26) ?hr ?_; (case hd => rfl); (case hg => rfl); (case hr => first | (go_simp; done) | (go_simp; rfl)); intro gb345 hg w20 hbox hb; have n0_ := Aside0.mk (Kd.PB_below (by (with_reducible repeat (first | apply Kd.PB_alloc | apply Kd.PB_drewN | apply Kd.PB_drew)); exact HO322.out) hb); have n1_ := Aside0.mk (Kd.R_below (by (with_reducible repeat (first | apply Kd.R_alloc | apply Kd.R_drewN | apply Kd.R_drew)); exact HO327.out) hb); have n2_ := Aside0.mk (Kd.R_below (by (with_reducible repeat (first | apply Kd.R_alloc | apply Kd.R_drewN | apply Kd.R_drew)); exact HO330.out) hb); have n3_ := Aside0.mk (Kd.PB_below (by (with_reducible repeat (first | apply Kd.PB_alloc | apply Kd.PB_drewN | apply Kd.PB_drew)); exact HO335.out) hb); have n4_ := Aside0.mk (Kd.R_below (by (with_reducible repeat (first | apply Kd.R_alloc | apply Kd.R_drewN | apply Kd.R_drew)); exact HO340.out) hb); have n5_ := Aside0.mk (Kd.R_below (by (with_reducible repeat (first | apply Kd.R_alloc | apply Kd.R_drewN | apply Kd.R_drew)); exact HO343.out) hb); have n6_ := Aside0.mk (blk_below (g := gb332) (o := .cells #[.int .i64 t323, .int .i64 t324, .slice Ao15 t325.length co15, .slice Ao16 t328.length co16] 26 (0, 0)) (by (with_reducible repeat (first | refine blk_drewN ?_ _ | refine blk_drew ?_ | refine blk_alloc ?_ _)); exact BK332.out) hb); have n7_ := Aside0.mk (below_step (by repeat (first | (with_reducible first | exact HB.out | apply below_alloc | apply pw_below_drewN | apply below_drew1 | refine below_set ?_ GE332.out) | exact HB.out)) hb); have n8_ := Aside0.mk (hbox); have n9_ := Aside0.mk ((by rw [hg]; exact (below_size (by repeat (first | (with_reducible first | exact HB.out | apply below_alloc | apply pw_below_drewN | apply below_drew1 | refine below_set ?_ GE332.out) | exact HB.out))) : w.heap.size ≤ gb345)); have n10_ := Aside0.mk ((by rw [hg]; exact (below_size (by repeat (first | (with_reducible first | exact HB.out | apply below_alloc | apply pw_below_drewN | apply below_drew1 | refine below_set ?_ GE332.out) | exact HB.out))) : w.heap.size ≤ gb345)); have n11_ := Aside0.mk ((by rw [hg]; exact Nat.ne_of_lt (blk_lt (g := gb332) (o := .cells #[.int .i64 t323, .int .i64 t324, .slice Ao15 t325.length co15, .slice Ao16 t328.length co16] 26 (0, 0)) (by (with_reducible repeat (first | refine blk_drewN ?_ _ | refine blk_drew ?_ | refine blk_alloc ?_ _)); exact BK332.out)) : gb332 ≠ gb345)); have n12_ := Aside0.mk ((by rw [hg]; exact Nat.ne_of_gt (blk_lt (g := gb332) (o := .cells #[.int .i64 t323, .int .i64 t324, .slice Ao15 t325.length co15, .slice Ao16 t328.length co16] 26 (0, 0)) (by (with_reducible repeat (first | refine blk_drewN ?_ _ | refine blk_drew ?_ | refine blk_alloc ?_ _)); exact BK332.out)) : gb345 ≠ gb332)); clear HO322; clear HO327; clear HO330; clear HO335; clear HO340; clear HO343; clear BK332; clear HB; have HO322 := n0_; have HO327 := n1_; have HO330 := n2_; have HO335 := n3_; have HO340 := n4_; have HO343 := n5_; have BK332 := n6_; have HB := n7_; have BK345 := n8_; have GW345 := n9_; have GE345 := n10_; have NB332_345 := n11_; have NB345_332 := n12_; clear n0_ n1_ n2_ n3_ n4_ n5_ n6_ n7_ n8_ n9_ n10_ n11_ n12_; clear hb hbox hg; have hnb21 := NB345_332.out; have hnc21 := NB332_345.out; have hcz22_0 : w20.cell? ⟨gb345, 0, none⟩ = some (.int .i64 0) := (blk_cell BK345.out 0).trans rfl; have hcz22_1 : w20.cell? ⟨gb345, 1, none⟩ = some (.int .i64 0) := (blk_cell BK345.out 1).trans rfl; have hcz22_2 : w20.cell? ⟨gb345, 2, none⟩ = some (.slice none 0 0) := (blk_cell BK345.out 2).trans rfl; have hcz22_3 : w20.cell? ⟨gb345, 3, none⟩ = some (.slice none 0 0) := (blk_cell BK345.out 3).trans rfl; have hfz22_0 := blk_frozen BK345.out 0; have hfz22_1 := blk_frozen BK345.out 1; have hfz22_2 := blk_frozen BK345.out 2; have hfz22_3 := blk_frozen BK345.out 3; obtain ⟨Ao23, co23, eo23⟩ := Kd.R_slice HO340.out; subst eo23; obtain ⟨Ao24, co24, eo24⟩ := Kd.R_slice HO343.out; subst eo24))
  (try simp only [Act.put, List.setIfInBounds_toArray, List.set_cons_zero, List.set_cons_succ])
  go_cut [45] (fun v45 wc => ∃ (kq : Nat) (x45_8 : Bool), v45 = .bool x45_8 ∧ Aside0 (laws_FnExactBorderOf.j0 kq a0 a1 l2 t331 t333 t344 x45_8 t323 t324 t325 t328 t336 t337 t338 t341 = some r) ∧ Aside0 (kq ≤ k) ∧ Aside0 (Kd.PB false (Kd.int .i64) 3 wc w.heap.size (fun k_ => some k_ ≠ ((.slice Ao15 t325.length co15) : Value).ownBlock ∧ some k_ ≠ ((.slice Ao16 t328.length co16) : Value).ownBlock ∧ some k_ ≠ ((.slice Ao23 t338.length co23) : Value).ownBlock ∧ some k_ ≠ ((.slice Ao24 t341.length co24) : Value).ownBlock) (.slice Ao18 t333.length co18) t333) ∧ Aside0 (Kd.R (Kd.int .i64) 3 wc w.heap.size (fun k_ => some k_ ≠ ((.slice Ao18 t333.length co18) : Value).ownBlock ∧ some k_ ≠ ((.slice Ao16 t328.length co16) : Value).ownBlock ∧ some k_ ≠ ((.slice Ao23 t338.length co23) : Value).ownBlock ∧ some k_ ≠ ((.slice Ao24 t341.length co24) : Value).ownBlock) (.slice Ao15 t325.length co15) t325) ∧ Aside0 (Kd.R (Kd.int .i64) 3 wc w.heap.size (fun k_ => some k_ ≠ ((.slice Ao18 t333.length co18) : Value).ownBlock ∧ some k_ ≠ ((.slice Ao15 t325.length co15) : Value).ownBlock ∧ some k_ ≠ ((.slice Ao23 t338.length co23) : Value).ownBlock ∧ some k_ ≠ ((.slice Ao24 t341.length co24) : Value).ownBlock) (.slice Ao16 t328.length co16) t328) ∧ Aside0 (Kd.R (Kd.int .i64) 3 wc w.heap.size (fun k_ => some k_ ≠ ((.slice Ao18 t333.length co18) : Value).ownBlock ∧ some k_ ≠ ((.slice Ao15 t325.length co15) : Value).ownBlock ∧ some k_ ≠ ((.slice Ao16 t328.length co16) : Value).ownBlock ∧ some k_ ≠ ((.slice Ao24 t341.length co24) : Value).ownBlock) (.slice Ao23 t338.length co23) t338) ∧ Aside0 (Kd.R (Kd.int .i64) 3 wc w.heap.size (fun k_ => some k_ ≠ ((.slice Ao18 t333.length co18) : Value).ownBlock ∧ some k_ ≠ ((.slice Ao15 t325.length co15) : Value).ownBlock ∧ some k_ ≠ ((.slice Ao16 t328.length co16) : Value).ownBlock ∧ some k_ ≠ ((.slice Ao23 t338.length co23) : Value).ownBlock) (.slice Ao24 t341.length co24) t341) ∧ Aside0 (wc.heap[gb332]? = some (.cells #[.int .i64 t323, .int .i64 t324, (.slice Ao15 t325.length co15), (.slice Ao16 t328.length co16)] 26 (0, 0))) ∧ Aside0 (wc.heap[gb345]? = some (.cells #[.int .i64 t336, .int .i64 t337, (.slice Ao23 t338.length co23), (.slice Ao24 t341.length co24)] 26 (0, 0))) ∧ Aside0 (Below w.heap.size w wc))
  case first =>
   have H := HC9.out
   clear HC9
   replace H := Option.bind_eq_some_iff.mp H
   obtain ⟨t346, A250, H⟩ := H
   replace H : (if t346 = true then (laws_FnExactBorderOf.j0 k a0 a1 l2 t331 t333 t344 (t344 != t331) t323 t324 t325 t328 t336 t337 t338 t341) else (laws_FnExactBorderOf.j0 k a0 a1 l2 t331 t333 t344 true t323 t324 t325 t328 t336 t337 t338 t341)) = some r := H
   have A25 := Aside0.mk A250
   clear A250
   by_cases c26 : t346 = true
   ·subst c26
    have H1 : (laws_FnExactBorderOf.j0 k a0 a1 l2 t331 t333 t344 (t344 != t331) t323 t324 t325 t328 t336 t337 t338 t341) = some r := by rw [if_pos rfl] at H; exact H
    clear H
    have H := H1
    clear H1
    have H' := Aside0.mk H
    clear H
    have hnb27 := NB345_332.out
    have hnc27 := NB332_345.out
    have hcz28_0 : w20.cell? ⟨gb345, 0, none⟩ = some (.int .i64 0) := (blk_cell BK345.out 0).trans rfl
    have hcz28_1 : w20.cell? ⟨gb345, 1, none⟩ = some (.int .i64 0) := (blk_cell BK345.out 1).trans rfl
    have hcz28_2 : w20.cell? ⟨gb345, 2, none⟩ = some (.slice none 0 0) := (blk_cell BK345.out 2).trans rfl
    have hcz28_3 : w20.cell? ⟨gb345, 3, none⟩ = some (.slice none 0 0) := (blk_cell BK345.out 3).trans rfl
    have hfz28_0 := blk_frozen BK345.out 0
    have hfz28_1 := blk_frozen BK345.out 1
    have hfz28_2 := blk_frozen BK345.out 2
    have hfz28_3 := blk_frozen BK345.out 3
    have hcz29_0 : w20.cell? ⟨gb332, 0, none⟩ = some (.int .i64 t323) := (blk_cell BK332.out 0).trans rfl
    have hcz29_1 : w20.cell? ⟨gb332, 1, none⟩ = some (.int .i64 t324) := (blk_cell BK332.out 1).trans rfl
    have hcz29_2 : w20.cell? ⟨gb332, 2, none⟩ = some (.slice Ao15 t325.length co15) := (blk_cell BK332.out 2).trans rfl
    have hcz29_3 : w20.cell? ⟨gb332, 3, none⟩ = some (.slice Ao16 t328.length co16) := (blk_cell BK332.out 3).trans rfl
    have hfz29_0 := blk_frozen BK332.out 0
    have hfz29_1 := blk_frozen BK332.out 1
    have hfz29_2 := blk_frozen BK332.out 2
    have hfz29_3 := blk_frozen BK332.out 3
    go_wp2_with (first | ((with_reducible refine gate_callee (f := 14) rfl ?_); refine goesL_ (some 39) rfl rfl Tryd.func14 (by kernel_rfl) rfl #[.agg #[.int .i64 t336, .int .i64 t337, .slice Ao23 t338.length co23, .slice Ao24 t341.length co24], .agg #[.int .i64 t323, .int .i64 t324, .slice Ao15 t325.length co15, .slice Ao16 t328.length co16]] rfl (by (try simp only [List.map_toArray, List.map_cons, List.map_nil]); first | done | rfl | (simp only [List.length_drop, List.length_take]; rfl)) ?_; (with_reducible refine (laws_eqFigure.calls k t336 t337 _ _ t338 _ _ t341 t323 t324 _ _ t325 _ _ t328 true _ ?side1 ?side2 ?side3 ?side4 ?side5 ?side6 ?side7 ?side8 A25.out).mono ?_); (case side1 => refine (Kd.R_reads' (e := 3) (base := w.heap.size) (ok := fun k_ => ((((some k_ ≠ (.slice Ao24 t341.length co24 : Value).ownBlock ∧ some k_ ≠ (.slice Ao11 t320.length co11 : Value).ownBlock) ∧ some k_ ≠ (.slice Ao15 t325.length co15 : Value).ownBlock) ∧ some k_ ≠ (.slice Ao16 t328.length co16 : Value).ownBlock) ∧ some k_ ≠ (.slice Ao18 t333.length co18 : Value).ownBlock)) (n := t338.length) (c := co23) ?_).2.2; exact (by (with_reducible repeat (first | apply Kd.R_alloc | apply Kd.R_drewN | apply Kd.R_drew)); exact (Kd.R_mono (Kd.R_far (p := ⟨gb345, 3, none⟩) (Kd.R_far (p := ⟨gb345, 2, none⟩) (Kd.R_far (p := ⟨gb345, 1, none⟩) (Kd.R_far (p := ⟨gb345, 0, none⟩) (Kd.R_types HO340.out BK345.out (by decide)) (fun _ hk => hk.2) (.int .i64 t336)) (fun _ hk => hk.2) (.int .i64 t337)) (fun _ hk => hk.2) (.slice Ao23 t338.length co23)) (fun _ hk => hk.2) (.slice Ao24 t341.length co24)) (fun _ h_ => h_.1)))); (case side2 => exact (Kd.R_reads' HO340.out).2.1); (case side3 => refine (Kd.R_reads' (e := 3) (base := w.heap.size) (ok := fun k_ => ((((some k_ ≠ (.slice Ao23 t338.length co23 : Value).ownBlock ∧ some k_ ≠ (.slice Ao11 t320.length co11 : Value).ownBlock) ∧ some k_ ≠ (.slice Ao15 t325.length co15 : Value).ownBlock) ∧ some k_ ≠ (.slice Ao16 t328.length co16 : Value).ownBlock) ∧ some k_ ≠ (.slice Ao18 t333.length co18 : Value).ownBlock)) (n := t341.length) (c := co24) ?_).2.2; exact (by (with_reducible repeat (first | apply Kd.R_alloc | apply Kd.R_drewN | apply Kd.R_drew)); exact (Kd.R_mono (Kd.R_far (p := ⟨gb345, 3, none⟩) (Kd.R_far (p := ⟨gb345, 2, none⟩) (Kd.R_far (p := ⟨gb345, 1, none⟩) (Kd.R_far (p := ⟨gb345, 0, none⟩) (Kd.R_types HO343.out BK345.out (by decide)) (fun _ hk => hk.2) (.int .i64 t336)) (fun _ hk => hk.2) (.int .i64 t337)) (fun _ hk => hk.2) (.slice Ao23 t338.length co23)) (fun _ hk => hk.2) (.slice Ao24 t341.length co24)) (fun _ h_ => h_.1)))); (case side4 => exact (Kd.R_reads' HO343.out).2.1); (case side5 => refine (Kd.R_reads' (e := 3) (base := w.heap.size) (ok := fun k_ => ((((some k_ ≠ (.slice Ao16 t328.length co16 : Value).ownBlock ∧ some k_ ≠ (.slice Ao11 t320.length co11 : Value).ownBlock) ∧ some k_ ≠ (.slice Ao18 t333.length co18 : Value).ownBlock) ∧ some k_ ≠ (.slice Ao23 t338.length co23 : Value).ownBlock) ∧ some k_ ≠ (.slice Ao24 t341.length co24 : Value).ownBlock)) (n := t325.length) (c := co15) ?_).2.2; exact (by (with_reducible repeat (first | apply Kd.R_alloc | apply Kd.R_drewN | apply Kd.R_drew)); exact (Kd.R_mono (Kd.R_far (p := ⟨gb345, 3, none⟩) (Kd.R_far (p := ⟨gb345, 2, none⟩) (Kd.R_far (p := ⟨gb345, 1, none⟩) (Kd.R_far (p := ⟨gb345, 0, none⟩) (Kd.R_types HO327.out BK345.out (by decide)) (fun _ hk => hk.2) (.int .i64 t336)) (fun _ hk => hk.2) (.int .i64 t337)) (fun _ hk => hk.2) (.slice Ao23 t338.length co23)) (fun _ hk => hk.2) (.slice Ao24 t341.length co24)) (fun _ h_ => h_.1)))); (case side6 => exact (Kd.R_reads' HO327.out).2.1); (case side7 => refine (Kd.R_reads' (e := 3) (base := w.heap.size) (ok := fun k_ => ((((some k_ ≠ (.slice Ao15 t325.length co15 : Value).ownBlock ∧ some k_ ≠ (.slice Ao11 t320.length co11 : Value).ownBlock) ∧ some k_ ≠ (.slice Ao18 t333.length co18 : Value).ownBlock) ∧ some k_ ≠ (.slice Ao23 t338.length co23 : Value).ownBlock) ∧ some k_ ≠ (.slice Ao24 t341.length co24 : Value).ownBlock)) (n := t328.length) (c := co16) ?_).2.2; exact (by (with_reducible repeat (first | apply Kd.R_alloc | apply Kd.R_drewN | apply Kd.R_drew)); exact (Kd.R_mono (Kd.R_far (p := ⟨gb345, 3, none⟩) (Kd.R_far (p := ⟨gb345, 2, none⟩) (Kd.R_far (p := ⟨gb345, 1, none⟩) (Kd.R_far (p := ⟨gb345, 0, none⟩) (Kd.R_types HO330.out BK345.out (by decide)) (fun _ hk => hk.2) (.int .i64 t336)) (fun _ hk => hk.2) (.int .i64 t337)) (fun _ hk => hk.2) (.slice Ao23 t338.length co23)) (fun _ hk => hk.2) (.slice Ao24 t341.length co24)) (fun _ h_ => h_.1)))); (case side8 => exact (Kd.R_reads' HO330.out).2.1); rintro e w30 ⟨rfl, hb⟩; refine ⟨_, rfl, ?_⟩; have n0_ := Aside0.mk (Kd.PB_below (by (with_reducible repeat (first | apply Kd.PB_alloc | apply Kd.PB_drewN | apply Kd.PB_drew)); exact (Kd.PB_mono (Kd.PB_far (p := ⟨gb345, 3, none⟩) (Kd.PB_far (p := ⟨gb345, 2, none⟩) (Kd.PB_far (p := ⟨gb345, 1, none⟩) (Kd.PB_far (p := ⟨gb345, 0, none⟩) (Kd.PB_types HO322.out BK345.out (by decide)) (fun _ hk => hk.2) (.int .i64 t336)) (fun _ hk => hk.2) (.int .i64 t337)) (fun _ hk => hk.2) (.slice Ao23 t338.length co23)) (fun _ hk => hk.2) (.slice Ao24 t341.length co24)) (fun _ h_ => h_.1))) hb); have n1_ := Aside0.mk (Kd.R_below (by (with_reducible repeat (first | apply Kd.R_alloc | apply Kd.R_drewN | apply Kd.R_drew)); exact (Kd.R_mono (Kd.R_far (p := ⟨gb345, 3, none⟩) (Kd.R_far (p := ⟨gb345, 2, none⟩) (Kd.R_far (p := ⟨gb345, 1, none⟩) (Kd.R_far (p := ⟨gb345, 0, none⟩) (Kd.R_types HO327.out BK345.out (by decide)) (fun _ hk => hk.2) (.int .i64 t336)) (fun _ hk => hk.2) (.int .i64 t337)) (fun _ hk => hk.2) (.slice Ao23 t338.length co23)) (fun _ hk => hk.2) (.slice Ao24 t341.length co24)) (fun _ h_ => h_.1))) hb); have n2_ := Aside0.mk (Kd.R_below (by (with_reducible repeat (first | apply Kd.R_alloc | apply Kd.R_drewN | apply Kd.R_drew)); exact (Kd.R_mono (Kd.R_far (p := ⟨gb345, 3, none⟩) (Kd.R_far (p := ⟨gb345, 2, none⟩) (Kd.R_far (p := ⟨gb345, 1, none⟩) (Kd.R_far (p := ⟨gb345, 0, none⟩) (Kd.R_types HO330.out BK345.out (by decide)) (fun _ hk => hk.2) (.int .i64 t336)) (fun _ hk => hk.2) (.int .i64 t337)) (fun _ hk => hk.2) (.slice Ao23 t338.length co23)) (fun _ hk => hk.2) (.slice Ao24 t341.length co24)) (fun _ h_ => h_.1))) hb); have n3_ := Aside0.mk (Kd.PB_below (by (with_reducible repeat (first | apply Kd.PB_alloc | apply Kd.PB_drewN | apply Kd.PB_drew)); exact (Kd.PB_mono (Kd.PB_far (p := ⟨gb345, 3, none⟩) (Kd.PB_far (p := ⟨gb345, 2, none⟩) (Kd.PB_far (p := ⟨gb345, 1, none⟩) (Kd.PB_far (p := ⟨gb345, 0, none⟩) (Kd.PB_types HO335.out BK345.out (by decide)) (fun _ hk => hk.2) (.int .i64 t336)) (fun _ hk => hk.2) (.int .i64 t337)) (fun _ hk => hk.2) (.slice Ao23 t338.length co23)) (fun _ hk => hk.2) (.slice Ao24 t341.length co24)) (fun _ h_ => h_.1))) hb); have n4_ := Aside0.mk (Kd.R_below (by (with_reducible repeat (first | apply Kd.R_alloc | apply Kd.R_drewN | apply Kd.R_drew)); exact (Kd.R_mono (Kd.R_far (p := ⟨gb345, 3, none⟩) (Kd.R_far (p := ⟨gb345, 2, none⟩) (Kd.R_far (p := ⟨gb345, 1, none⟩) (Kd.R_far (p := ⟨gb345, 0, none⟩) (Kd.R_types HO340.out BK345.out (by decide)) (fun _ hk => hk.2) (.int .i64 t336)) (fun _ hk => hk.2) (.int .i64 t337)) (fun _ hk => hk.2) (.slice Ao23 t338.length co23)) (fun _ hk => hk.2) (.slice Ao24 t341.length co24)) (fun _ h_ => h_.1))) hb); have n5_ := Aside0.mk (Kd.R_below (by (with_reducible repeat (first | apply Kd.R_alloc | apply Kd.R_drewN | apply Kd.R_drew)); exact (Kd.R_mono (Kd.R_far (p := ⟨gb345, 3, none⟩) (Kd.R_far (p := ⟨gb345, 2, none⟩) (Kd.R_far (p := ⟨gb345, 1, none⟩) (Kd.R_far (p := ⟨gb345, 0, none⟩) (Kd.R_types HO343.out BK345.out (by decide)) (fun _ hk => hk.2) (.int .i64 t336)) (fun _ hk => hk.2) (.int .i64 t337)) (fun _ hk => hk.2) (.slice Ao23 t338.length co23)) (fun _ hk => hk.2) (.slice Ao24 t341.length co24)) (fun _ h_ => h_.1))) hb); have n6_ := Aside0.mk (blk_below (g := gb332) (o := .cells #[.int .i64 t323, .int .i64 t324, .slice Ao15 t325.length co15, .slice Ao16 t328.length co16] 26 (0, 0)) (by (with_reducible repeat (first | refine blk_drewN ?_ _ | refine blk_drew ?_ | refine blk_alloc ?_ _)); refine blk_far ?_ NB332_345.out _; (with_reducible repeat (first | refine blk_drewN ?_ _ | refine blk_drew ?_ | refine blk_alloc ?_ _)); refine blk_far ?_ NB332_345.out _; (with_reducible repeat (first | refine blk_drewN ?_ _ | refine blk_drew ?_ | refine blk_alloc ?_ _)); refine blk_far ?_ NB332_345.out _; (with_reducible repeat (first | refine blk_drewN ?_ _ | refine blk_drew ?_ | refine blk_alloc ?_ _)); refine blk_far ?_ NB332_345.out _; (with_reducible repeat (first | refine blk_drewN ?_ _ | refine blk_drew ?_ | refine blk_alloc ?_ _)); exact BK332.out) hb); have n7_ := Aside0.mk (blk_below (g := gb345) (o := .cells #[.int .i64 t336, .int .i64 t337, .slice Ao23 t338.length co23, .slice Ao24 t341.length co24] 26 (0, 0)) (by (with_reducible repeat (first | refine blk_drewN ?_ _ | refine blk_drew ?_ | refine blk_alloc ?_ _)); refine blk_put (cs := #[.int .i64 t336, .int .i64 t337, .slice Ao23 t338.length co23, .slice none 0 0]) ?_ 3 _ rfl; (with_reducible repeat (first | refine blk_drewN ?_ _ | refine blk_drew ?_ | refine blk_alloc ?_ _)); refine blk_put (cs := #[.int .i64 t336, .int .i64 t337, .slice none 0 0, .slice none 0 0]) ?_ 2 _ rfl; (with_reducible repeat (first | refine blk_drewN ?_ _ | refine blk_drew ?_ | refine blk_alloc ?_ _)); refine blk_put (cs := #[.int .i64 t336, .int .i64 0, .slice none 0 0, .slice none 0 0]) ?_ 1 _ rfl; (with_reducible repeat (first | refine blk_drewN ?_ _ | refine blk_drew ?_ | refine blk_alloc ?_ _)); refine blk_put (cs := #[.int .i64 0, .int .i64 0, .slice none 0 0, .slice none 0 0]) ?_ 0 _ rfl; (with_reducible repeat (first | refine blk_drewN ?_ _ | refine blk_drew ?_ | refine blk_alloc ?_ _)); exact BK345.out) hb); have n8_ := Aside0.mk (below_step (by repeat (first | (with_reducible first | exact HB.out | apply below_alloc | apply pw_below_drewN | apply below_drew1 | refine below_set ?_ GE332.out | refine below_set ?_ GE345.out) | exact HB.out)) hb); clear HO322; clear HO327; clear HO330; clear HO335; clear HO340; clear HO343; clear BK332; clear BK345; clear HB; have HO322 := n0_; have HO327 := n1_; have HO330 := n2_; have HO335 := n3_; have HO340 := n4_; have HO343 := n5_; have BK332 := n6_; have BK345 := n7_; have HB := n8_; clear n0_ n1_ n2_ n3_ n4_ n5_ n6_ n7_ n8_; (try clear hb); (try clear hb2); (try clear hk); (try clear hi)))
    go_meet
    case rel => exact ⟨_, ((t344 != t331)), (by first | rfl | (simp; done) | (simp [*]; done)), H', ⟨by first | omega | exact Nat.le_refl _⟩, ⟨by (with_reducible repeat (first | apply Kd.PB_alloc | apply Kd.PB_drewN | apply Kd.PB_drew)); exact Kd.PB_mono HO335.out (fun _ hk => ⟨hk.1.1.1.2, ⟨hk.1.1.2, ⟨hk.1.2, hk.2⟩⟩⟩)⟩, ⟨by (with_reducible repeat (first | apply Kd.R_alloc | apply Kd.R_drewN | apply Kd.R_drew)); exact Kd.R_mono HO327.out (fun _ hk => ⟨hk.1.1.2, ⟨hk.1.1.1.1, ⟨hk.1.2, hk.2⟩⟩⟩)⟩, ⟨by (with_reducible repeat (first | apply Kd.R_alloc | apply Kd.R_drewN | apply Kd.R_drew)); exact Kd.R_mono HO330.out (fun _ hk => ⟨hk.1.1.2, ⟨hk.1.1.1.1, ⟨hk.1.2, hk.2⟩⟩⟩)⟩, ⟨by (with_reducible repeat (first | apply Kd.R_alloc | apply Kd.R_drewN | apply Kd.R_drew)); exact Kd.R_mono HO340.out (fun _ hk => ⟨hk.2, ⟨hk.1.1.2, ⟨hk.1.2, hk.1.1.1.1⟩⟩⟩)⟩, ⟨by (with_reducible repeat (first | apply Kd.R_alloc | apply Kd.R_drewN | apply Kd.R_drew)); exact Kd.R_mono HO343.out (fun _ hk => ⟨hk.2, ⟨hk.1.1.2, ⟨hk.1.2, hk.1.1.1.1⟩⟩⟩)⟩, ⟨by (with_reducible repeat (first | refine blk_drewN ?_ _ | refine blk_drew ?_ | refine blk_alloc ?_ _)); exact BK332.out⟩, ⟨by (with_reducible repeat (first | refine blk_drewN ?_ _ | refine blk_drew ?_ | refine blk_alloc ?_ _)); exact BK345.out⟩, ⟨by repeat (first | (with_reducible first | exact HB.out | apply below_alloc | apply pw_below_drewN | apply below_drew1 | refine below_set ?_ GE332.out | refine below_set ?_ GE345.out) | exact HB.out)⟩⟩
   ·replace c26 := Bool.eq_false_iff.mpr c26
    subst c26
    have H1 : (laws_FnExactBorderOf.j0 k a0 a1 l2 t331 t333 t344 true t323 t324 t325 t328 t336 t337 t338 t341) = some r := by rw [if_neg (show ¬ (false = true) by decide)] at H; exact H
    clear H
    have H := H1
    clear H1
    exact absurd HR_.out (by cases k <;> simp [laws_FnExactBorderOf.j0] at H <;> first | simp [← H] | simp [H] | simp_all)
  case rest =>
   clear HC9
   try clear c1
   try clear c2
   try clear p2
   try clear c4
   try clear c4b0
   try clear c4b1
   try clear c6
   try clear c14
   try clear c21
   try clear c22
   try clear c23
   try clear c24
   try clear c26
   try clear c27
   try clear hcz14_0
   try clear hcz14_1
   try clear hcz14_2
   try clear hcz14_3
   try clear hcz22_0
   try clear hcz22_1
   try clear hcz22_2
   try clear hcz22_3
   try clear hcz28_0
   try clear hcz28_1
   try clear hcz28_2
   try clear hcz28_3
   try clear hcz29_0
   try clear hcz29_1
   try clear hcz29_2
   try clear hcz29_3
   try clear hfz14_0
   try clear hfz14_1
   try clear hfz14_2
   try clear hfz14_3
   try clear hfz22_0
   try clear hfz22_1
   try clear hfz22_2
   try clear hfz22_3
   try clear hfz28_0
   try clear hfz28_1
   try clear hfz28_2
   try clear hfz28_3
   try clear hfz29_0
   try clear hfz29_1
   try clear hfz29_2
   try clear hfz29_3
   obtain ⟨kq, x45_8, rfl, HA, HJ8, HO_9, HO_333002, HO_333003, HO_346002, HO_346003, BK332, BK345, HB⟩ := hcut
   cases kq with
   | zero => exact absurd HA.out (by simp [laws_FnExactBorderOf.j0])
   | succ kj8 =>
    have H := HA.out
    clear HA
    simp only [laws_FnExactBorderOf.j0] at H
    by_cases c31 : x45_8 = true
    ·subst c31
     have H1 : (some false) = some r := by rw [if_pos rfl] at H; exact H
     clear H
     have H := H1
     clear H1
     exact absurd ((Option.some.inj H).trans HR_.out) Bool.false_ne_true
    ·replace c31 := Bool.eq_false_iff.mpr c31
     subst c31
     have H1 : ((laws_toIntS.f l2 false).bind fun t347 => ((laws_intactIntS.f t333 t347).bind fun t350 => (if t350 = true then ((laws_markIntS.f kj8 t333 101).bind fun bt351 => (if bt351.1 < 0 then (laws_FnExactBorderOf.j1 kj8 a0 a1 l2 t331 true t323 t324 t325 t328 t336 t337 t338 t341) else ((laws_eqFigure.f kj8 t336 t337 t338 t341 t323 t324 t325 t328).bind fun t353 => (if t353 = true then (laws_FnExactBorderOf.j1 kj8 a0 a1 l2 t331 (t344 != t331) t323 t324 t325 t328 t336 t337 t338 t341) else (laws_FnExactBorderOf.j1 kj8 a0 a1 l2 t331 true t323 t324 t325 t328 t336 t337 t338 t341))))) else (some false)))) = some r := by rw [if_neg (show ¬ (false = true) by decide)] at H; exact H
     clear H
     have H := H1
     clear H1
     replace H := Option.bind_eq_some_iff.mp H
     obtain ⟨t347, A320, H⟩ := H
     replace H : ((laws_intactIntS.f t333 t347).bind fun t350 => (if t350 = true then ((laws_markIntS.f kj8 t333 101).bind fun bt351 => (if bt351.1 < 0 then (laws_FnExactBorderOf.j1 kj8 a0 a1 l2 t331 true t323 t324 t325 t328 t336 t337 t338 t341) else ((laws_eqFigure.f kj8 t336 t337 t338 t341 t323 t324 t325 t328).bind fun t353 => (if t353 = true then (laws_FnExactBorderOf.j1 kj8 a0 a1 l2 t331 (t344 != t331) t323 t324 t325 t328 t336 t337 t338 t341) else (laws_FnExactBorderOf.j1 kj8 a0 a1 l2 t331 true t323 t324 t325 t328 t336 t337 t338 t341))))) else (some false))) = some r := H
     have A32 := Aside0.mk A320
     clear A320
     replace H := Option.bind_eq_some_iff.mp H
     obtain ⟨t350, A330, H⟩ := H
     replace H : (if t350 = true then ((laws_markIntS.f kj8 t333 101).bind fun bt351 => (if bt351.1 < 0 then (laws_FnExactBorderOf.j1 kj8 a0 a1 l2 t331 true t323 t324 t325 t328 t336 t337 t338 t341) else ((laws_eqFigure.f kj8 t336 t337 t338 t341 t323 t324 t325 t328).bind fun t353 => (if t353 = true then (laws_FnExactBorderOf.j1 kj8 a0 a1 l2 t331 (t344 != t331) t323 t324 t325 t328 t336 t337 t338 t341) else (laws_FnExactBorderOf.j1 kj8 a0 a1 l2 t331 true t323 t324 t325 t328 t336 t337 t338 t341))))) else (some false)) = some r := H
     have A33 := Aside0.mk A330
     clear A330
     by_cases c34 : t350 = true
     ·subst c34
      have H1 : ((laws_markIntS.f kj8 t333 101).bind fun bt351 => (if bt351.1 < 0 then (laws_FnExactBorderOf.j1 kj8 a0 a1 l2 t331 true t323 t324 t325 t328 t336 t337 t338 t341) else ((laws_eqFigure.f kj8 t336 t337 t338 t341 t323 t324 t325 t328).bind fun t353 => (if t353 = true then (laws_FnExactBorderOf.j1 kj8 a0 a1 l2 t331 (t344 != t331) t323 t324 t325 t328 t336 t337 t338 t341) else (laws_FnExactBorderOf.j1 kj8 a0 a1 l2 t331 true t323 t324 t325 t328 t336 t337 t338 t341))))) = some r := by rw [if_pos rfl] at H; exact H
      clear H
      have H := H1
      clear H1
      replace H := Option.bind_eq_some_iff.mp H
      obtain ⟨⟨t351, t352⟩, A350, H⟩ := H
      replace H : (if t351 < 0 then (laws_FnExactBorderOf.j1 kj8 a0 a1 l2 t331 true t323 t324 t325 t328 t336 t337 t338 t341) else ((laws_eqFigure.f kj8 t336 t337 t338 t341 t323 t324 t325 t328).bind fun t353 => (if t353 = true then (laws_FnExactBorderOf.j1 kj8 a0 a1 l2 t331 (t344 != t331) t323 t324 t325 t328 t336 t337 t338 t341) else (laws_FnExactBorderOf.j1 kj8 a0 a1 l2 t331 true t323 t324 t325 t328 t336 t337 t338 t341)))) = some r := H
      have A35 := Aside0.mk A350
      clear A350
      have HC36 := Aside0.mk H
      clear H
      go_upto_region 12 with (first | ((with_reducible refine gate_callee (f := 23) rfl ?_); refine goesL_ (some 48) rfl rfl Tryd.func23 (by kernel_rfl) rfl #[.slice A2 l2.length c2, .bool false] rfl (by (try simp only [List.map_toArray, List.map_cons, List.map_nil]); first | done | rfl | (simp only [List.length_drop, List.length_take]; rfl)) ?_; (with_reducible refine (laws_toIntS.calls _ _ l2 false t347 _ ?side1 ?side2 A32.out).mono ?_); (case side1 => repeat (first | exact (Kd.C_below HR2.out HB.out) | (with_reducible refine Kd.C_alloc ?_ _) | (with_reducible refine Kd.C_drewN ?_ _) | (with_reducible refine Kd.C_drew ?_))); (case side2 => exact HC2.out); rintro e w37 ⟨v348, rfl, ho0, hb⟩; refine ⟨_, rfl, ?_⟩; have n0_ := Aside0.mk (Kd.PB_elder' (by (with_reducible repeat (first | apply Kd.PB_alloc | apply Kd.PB_drewN | apply Kd.PB_drew)); exact HO_9.out) (Kd.PB_base ho0) hb); have n1_ := Aside0.mk (Kd.R_elder' (by (with_reducible repeat (first | apply Kd.R_alloc | apply Kd.R_drewN | apply Kd.R_drew)); exact HO_333002.out) (Kd.PB_base ho0) hb); have n2_ := Aside0.mk (Kd.R_elder' (by (with_reducible repeat (first | apply Kd.R_alloc | apply Kd.R_drewN | apply Kd.R_drew)); exact HO_333003.out) (Kd.PB_base ho0) hb); have n3_ := Aside0.mk (Kd.R_elder' (by (with_reducible repeat (first | apply Kd.R_alloc | apply Kd.R_drewN | apply Kd.R_drew)); exact HO_346002.out) (Kd.PB_base ho0) hb); have n4_ := Aside0.mk (Kd.R_elder' (by (with_reducible repeat (first | apply Kd.R_alloc | apply Kd.R_drewN | apply Kd.R_drew)); exact HO_346003.out) (Kd.PB_base ho0) hb); have n5_ := Aside0.mk (Kd.PB_lower (Kd.PB_new' (Kd.PB_new' (Kd.PB_new' (Kd.PB_new' (Kd.PB_new' ho0 (Kd.PB_lt (by (with_reducible repeat (first | apply Kd.PB_alloc | apply Kd.PB_drewN | apply Kd.PB_drew)); exact HO_9.out))) (Kd.R_lt (by (with_reducible repeat (first | apply Kd.R_alloc | apply Kd.R_drewN | apply Kd.R_drew)); exact HO_333002.out))) (Kd.R_lt (by (with_reducible repeat (first | apply Kd.R_alloc | apply Kd.R_drewN | apply Kd.R_drew)); exact HO_333003.out))) (Kd.R_lt (by (with_reducible repeat (first | apply Kd.R_alloc | apply Kd.R_drewN | apply Kd.R_drew)); exact HO_346002.out))) (Kd.R_lt (by (with_reducible repeat (first | apply Kd.R_alloc | apply Kd.R_drewN | apply Kd.R_drew)); exact HO_346003.out))) (below_size (by repeat (first | (with_reducible first | exact HB.out | apply below_alloc | apply pw_below_drewN | apply below_drew1 | refine below_set ?_ GE332.out | refine below_set ?_ GE345.out) | exact HB.out)))); have n6_ := Aside0.mk (blk_below (g := gb332) (o := .cells #[.int .i64 t323, .int .i64 t324, .slice Ao15 t325.length co15, .slice Ao16 t328.length co16] 26 (0, 0)) (by (with_reducible repeat (first | refine blk_drewN ?_ _ | refine blk_drew ?_ | refine blk_alloc ?_ _)); exact BK332.out) hb); have n7_ := Aside0.mk (blk_below (g := gb345) (o := .cells #[.int .i64 t336, .int .i64 t337, .slice Ao23 t338.length co23, .slice Ao24 t341.length co24] 26 (0, 0)) (by (with_reducible repeat (first | refine blk_drewN ?_ _ | refine blk_drew ?_ | refine blk_alloc ?_ _)); exact BK345.out) hb); have n8_ := Aside0.mk (below_step (by repeat (first | (with_reducible first | exact HB.out | apply below_alloc | apply pw_below_drewN | apply below_drew1 | refine below_set ?_ GE332.out | refine below_set ?_ GE345.out) | exact HB.out)) hb); clear HO_9; clear HO_333002; clear HO_333003; clear HO_346002; clear HO_346003; clear BK332; clear BK345; clear HB; have HO_9 := n0_; have HO_333002 := n1_; have HO_333003 := n2_; have HO_346002 := n3_; have HO_346003 := n4_; have HO349 := n5_; have BK332 := n6_; have BK345 := n7_; have HB := n8_; clear n0_ n1_ n2_ n3_ n4_ n5_ n6_ n7_ n8_; (try clear hb); (try clear hb2); (try clear hk); (try clear hi); (try clear ho0); obtain ⟨Ao38, co38, eo38⟩ := Kd.PB_slice HO349.out; subst eo38) | ((with_reducible refine gate_callee (f := 25) rfl ?_); refine goesL_ (some 49) rfl rfl Tryd.func25 (by kernel_rfl) rfl #[.slice Ao18 t333.length co18, .slice Ao38 t347.length co38] rfl (by (try simp only [List.map_toArray, List.map_cons, List.map_nil]); first | done | rfl | (simp only [List.length_drop, List.length_take]; rfl)) ?_; (with_reducible refine (laws_intactIntS.calls _ _ t333 _ _ t347 true _ ?side1 ?side2 ?side3 ?side4 ?side5 ?side6 A33.out).mono ?_); (case side1 => repeat (first | exact (Kd.PB_reads' HO_9.out).2.2 | (with_reducible refine Kd.C_alloc ?_ _) | (with_reducible refine Kd.C_drewN ?_ _) | (with_reducible refine Kd.C_drew ?_))); (case side2 => exact (Kd.PB_reads' HO_9.out).2.1); (case side3 => repeat (first | exact Kd.PB_sp HO_9.out | (with_reducible refine Kd.Sp_alloc ?_ _) | (with_reducible refine Kd.Sp_drewN ?_ _) | (with_reducible refine Kd.Sp_drew ?_))); (case side4 => repeat (first | exact (Kd.PB_reads' HO349.out).2.2 | (with_reducible refine Kd.C_alloc ?_ _) | (with_reducible refine Kd.C_drewN ?_ _) | (with_reducible refine Kd.C_drew ?_))); (case side5 => exact (Kd.PB_reads' HO349.out).2.1); (case side6 => repeat (first | exact Kd.PB_sp HO349.out | (with_reducible refine Kd.Sp_alloc ?_ _) | (with_reducible refine Kd.Sp_drewN ?_ _) | (with_reducible refine Kd.Sp_drew ?_))); rintro e w' ⟨rfl, ⟨nd, rfl⟩⟩; refine ⟨_, rfl, ?_⟩) | ((with_reducible refine gate_callee (f := 26) rfl ?_); refine goesL_ (some 53) rfl rfl Tryd.func26 (by kernel_rfl) rfl #[.slice Ao18 t333.length co18, .int .i64 101] rfl (by (try simp only [List.map_toArray, List.map_cons, List.map_nil]); first | done | rfl | (simp only [List.length_drop, List.length_take]; rfl)) ?_; (with_reducible refine (laws_markIntS.calls kj8 (fun k_ => some k_ = (.slice Ao18 t333.length co18 : Value).ownBlock) (.slice Ao18 t333.length co18) t333 101 t351 t352 w _ ?side1 ?side2 A35.out).mono ?_); (case side1 => repeat (first | (with_reducible first | exact HB.out | apply below_alloc | apply pw_below_drewN | apply below_drew1 | refine below_set ?_ GE332.out | refine below_set ?_ GE345.out) | exact HB.out)); (case side2 => exact Kd.R_tight rfl (Kd.PB_R HO_9.out)); rintro e w39 ⟨rfl, hy0, hb, hkp⟩; refine ⟨_, rfl, ?_⟩; have n0_ := Aside0.mk (Kd.R_reok rfl hy0 (fun k_ e_ => HO_9.out.1.1 k_ e_)); have n1_ := Aside0.mk (Kd.R_mono (ok' := fun k_ => some k_ ≠ (.slice Ao18 t333.length co18 : Value).ownBlock ∧ some k_ ≠ (.slice Ao16 t328.length co16 : Value).ownBlock ∧ some k_ ≠ (.slice Ao23 t338.length co23 : Value).ownBlock ∧ some k_ ≠ (.slice Ao24 t341.length co24 : Value).ownBlock ∧ some k_ ≠ (.slice Ao38 t347.length co38 : Value).ownBlock) (Kd.R_keptB (HO_333002.out) hkp (fun k_ hk_ hs_ => (hk_.1.1) hs_)) (fun k_ hk_ => ⟨hk_.1.1.1, hk_.1.1.2.1, hk_.1.1.2.2.1, hk_.1.1.2.2.2, hk_.1.2⟩)); have n2_ := Aside0.mk (Kd.R_mono (ok' := fun k_ => some k_ ≠ (.slice Ao18 t333.length co18 : Value).ownBlock ∧ some k_ ≠ (.slice Ao15 t325.length co15 : Value).ownBlock ∧ some k_ ≠ (.slice Ao23 t338.length co23 : Value).ownBlock ∧ some k_ ≠ (.slice Ao24 t341.length co24 : Value).ownBlock ∧ some k_ ≠ (.slice Ao38 t347.length co38 : Value).ownBlock) (Kd.R_keptB (HO_333003.out) hkp (fun k_ hk_ hs_ => (hk_.1.1) hs_)) (fun k_ hk_ => ⟨hk_.1.1.1, hk_.1.1.2.1, hk_.1.1.2.2.1, hk_.1.1.2.2.2, hk_.1.2⟩)); have n3_ := Aside0.mk (Kd.R_mono (ok' := fun k_ => some k_ ≠ (.slice Ao18 t333.length co18 : Value).ownBlock ∧ some k_ ≠ (.slice Ao15 t325.length co15 : Value).ownBlock ∧ some k_ ≠ (.slice Ao16 t328.length co16 : Value).ownBlock ∧ some k_ ≠ (.slice Ao24 t341.length co24 : Value).ownBlock ∧ some k_ ≠ (.slice Ao38 t347.length co38 : Value).ownBlock) (Kd.R_keptB (HO_346002.out) hkp (fun k_ hk_ hs_ => (hk_.1.1) hs_)) (fun k_ hk_ => ⟨hk_.1.1.1, hk_.1.1.2.1, hk_.1.1.2.2.1, hk_.1.1.2.2.2, hk_.1.2⟩)); have n4_ := Aside0.mk (Kd.R_mono (ok' := fun k_ => some k_ ≠ (.slice Ao18 t333.length co18 : Value).ownBlock ∧ some k_ ≠ (.slice Ao15 t325.length co15 : Value).ownBlock ∧ some k_ ≠ (.slice Ao16 t328.length co16 : Value).ownBlock ∧ some k_ ≠ (.slice Ao23 t338.length co23 : Value).ownBlock ∧ some k_ ≠ (.slice Ao38 t347.length co38 : Value).ownBlock) (Kd.R_keptB (HO_346003.out) hkp (fun k_ hk_ hs_ => (hk_.1.1) hs_)) (fun k_ hk_ => ⟨hk_.1.1.1, hk_.1.1.2.1, hk_.1.1.2.2.1, hk_.1.1.2.2.2, hk_.1.2⟩)); have n5_ := Aside0.mk (blk_kept (by (with_reducible repeat (first | refine blk_drewN ?_ _ | refine blk_drew ?_ | refine blk_alloc ?_ _)); exact BK332.out) hkp (fun hs_ => (fun e_ => (Kd.R_ne (Kd.PB_R HO_9.out) BK332.out (by decide)) e_) hs_)); have n6_ := Aside0.mk (blk_kept (by (with_reducible repeat (first | refine blk_drewN ?_ _ | refine blk_drew ?_ | refine blk_alloc ?_ _)); exact BK345.out) hkp (fun hs_ => (fun e_ => (Kd.R_ne (Kd.PB_R HO_9.out) BK345.out (by decide)) e_) hs_)); have n7_ := Aside0.mk (Kd.PB_mono (ok' := fun k_ => some k_ ≠ (.slice Ao18 t333.length co18 : Value).ownBlock ∧ some k_ ≠ (.slice Ao15 t325.length co15 : Value).ownBlock ∧ some k_ ≠ (.slice Ao16 t328.length co16 : Value).ownBlock ∧ some k_ ≠ (.slice Ao23 t338.length co23 : Value).ownBlock ∧ some k_ ≠ (.slice Ao24 t341.length co24 : Value).ownBlock) (Kd.PB_keptB (HO349.out) hkp (fun k_ hk_ hs_ => (hk_.1.1.1.1.2) hs_)) (fun k_ hk_ => ⟨hk_.1.1.1.1.1.2, hk_.1.1.1.1.2, hk_.1.1.1.2, hk_.1.1.2, hk_.1.2⟩)); have n8_ := Aside0.mk (hb); clear HO_9; clear HO_333002; clear HO_333003; clear HO_346002; clear HO_346003; clear BK332; clear BK345; clear HO349; clear HB; have HO_9 := n0_; have HO_333002 := n1_; have HO_333003 := n2_; have HO_346002 := n3_; have HO_346003 := n4_; have BK332 := n5_; have BK345 := n6_; have HO349 := n7_; have HB := n8_; clear n0_ n1_ n2_ n3_ n4_ n5_ n6_ n7_ n8_; (try clear hb); (try clear hkp); (try clear hy0)))
      (try simp only [Act.put, List.setIfInBounds_toArray, List.set_cons_zero, List.set_cons_succ])
      go_cut [66] (fun v66 wc => ∃ (kq : Nat) (x66_35 : Bool), v66 = .bool x66_35 ∧ Aside0 (laws_FnExactBorderOf.j1 kq a0 a1 l2 t331 x66_35 t323 t324 t325 t328 t336 t337 t338 t341 = some r) ∧ Aside0 (kq ≤ kj8) ∧ Aside0 (Kd.R (Kd.int .i64) 3 wc w.heap.size (fun k_ => some k_ ≠ ((.slice Ao16 t328.length co16) : Value).ownBlock ∧ some k_ ≠ ((.slice Ao23 t338.length co23) : Value).ownBlock ∧ some k_ ≠ ((.slice Ao24 t341.length co24) : Value).ownBlock) (.slice Ao15 t325.length co15) t325) ∧ Aside0 (Kd.R (Kd.int .i64) 3 wc w.heap.size (fun k_ => some k_ ≠ ((.slice Ao15 t325.length co15) : Value).ownBlock ∧ some k_ ≠ ((.slice Ao23 t338.length co23) : Value).ownBlock ∧ some k_ ≠ ((.slice Ao24 t341.length co24) : Value).ownBlock) (.slice Ao16 t328.length co16) t328) ∧ Aside0 (Kd.R (Kd.int .i64) 3 wc w.heap.size (fun k_ => some k_ ≠ ((.slice Ao15 t325.length co15) : Value).ownBlock ∧ some k_ ≠ ((.slice Ao16 t328.length co16) : Value).ownBlock ∧ some k_ ≠ ((.slice Ao24 t341.length co24) : Value).ownBlock) (.slice Ao23 t338.length co23) t338) ∧ Aside0 (Kd.R (Kd.int .i64) 3 wc w.heap.size (fun k_ => some k_ ≠ ((.slice Ao15 t325.length co15) : Value).ownBlock ∧ some k_ ≠ ((.slice Ao16 t328.length co16) : Value).ownBlock ∧ some k_ ≠ ((.slice Ao23 t338.length co23) : Value).ownBlock) (.slice Ao24 t341.length co24) t341) ∧ Aside0 (wc.heap[gb332]? = some (.cells #[.int .i64 t323, .int .i64 t324, (.slice Ao15 t325.length co15), (.slice Ao16 t328.length co16)] 26 (0, 0))) ∧ Aside0 (wc.heap[gb345]? = some (.cells #[.int .i64 t336, .int .i64 t337, (.slice Ao23 t338.length co23), (.slice Ao24 t341.length co24)] 26 (0, 0))) ∧ Aside0 (Below w.heap.size w wc))
      case first =>
       have H := HC36.out
       clear HC36
       by_cases c40 : t351 < 0
       ·rw [if_pos c40] at H
        have c40b0 : decide (t351 < 0) = true := decide_eq_true c40
        clear c40
        (first | rw [c40b0] | (simp only [i64_w, i32_w]; rw [c40b0]) | skip)
        exact absurd HR_.out (by cases kj8 <;> simp [laws_FnExactBorderOf.j1] at H <;> first | simp [← H] | simp [H] | simp_all)
       ·rw [if_neg c40] at H
        have c40b0 : decide (t351 < 0) = false := decide_eq_false c40
        clear c40
        (first | rw [c40b0] | (simp only [i64_w, i32_w]; rw [c40b0]) | skip)
        replace H := Option.bind_eq_some_iff.mp H
        obtain ⟨t353, A410, H⟩ := H
        replace H : (if t353 = true then (laws_FnExactBorderOf.j1 kj8 a0 a1 l2 t331 (t344 != t331) t323 t324 t325 t328 t336 t337 t338 t341) else (laws_FnExactBorderOf.j1 kj8 a0 a1 l2 t331 true t323 t324 t325 t328 t336 t337 t338 t341)) = some r := H
        have A41 := Aside0.mk A410
        clear A410
        by_cases c42 : t353 = true
        ·subst c42
         have H1 : (laws_FnExactBorderOf.j1 kj8 a0 a1 l2 t331 (t344 != t331) t323 t324 t325 t328 t336 t337 t338 t341) = some r := by rw [if_pos rfl] at H; exact H
         clear H
         have H := H1
         clear H1
         have H' := Aside0.mk H
         clear H
         have hnb43 := NB345_332.out
         have hnc43 := NB332_345.out
         have hcz44_0 : w39.cell? ⟨gb345, 0, none⟩ = some (.int .i64 t336) := (blk_cell BK345.out 0).trans rfl
         have hcz44_1 : w39.cell? ⟨gb345, 1, none⟩ = some (.int .i64 t337) := (blk_cell BK345.out 1).trans rfl
         have hcz44_2 : w39.cell? ⟨gb345, 2, none⟩ = some (.slice Ao23 t338.length co23) := (blk_cell BK345.out 2).trans rfl
         have hcz44_3 : w39.cell? ⟨gb345, 3, none⟩ = some (.slice Ao24 t341.length co24) := (blk_cell BK345.out 3).trans rfl
         have hfz44_0 := blk_frozen BK345.out 0
         have hfz44_1 := blk_frozen BK345.out 1
         have hfz44_2 := blk_frozen BK345.out 2
         have hfz44_3 := blk_frozen BK345.out 3
         have hcz45_0 : w39.cell? ⟨gb332, 0, none⟩ = some (.int .i64 t323) := (blk_cell BK332.out 0).trans rfl
         have hcz45_1 : w39.cell? ⟨gb332, 1, none⟩ = some (.int .i64 t324) := (blk_cell BK332.out 1).trans rfl
         have hcz45_2 : w39.cell? ⟨gb332, 2, none⟩ = some (.slice Ao15 t325.length co15) := (blk_cell BK332.out 2).trans rfl
         have hcz45_3 : w39.cell? ⟨gb332, 3, none⟩ = some (.slice Ao16 t328.length co16) := (blk_cell BK332.out 3).trans rfl
         have hfz45_0 := blk_frozen BK332.out 0
         have hfz45_1 := blk_frozen BK332.out 1
         have hfz45_2 := blk_frozen BK332.out 2
         have hfz45_3 := blk_frozen BK332.out 3
         go_wp2_with (first | (go_at_call 14; (with_reducible refine (laws_eqFigure.calls kj8 t336 t337 _ _ t338 _ _ t341 t323 t324 _ _ t325 _ _ t328 true _ ?side1 ?side2 ?side3 ?side4 ?side5 ?side6 ?side7 ?side8 A41.out).mono ?_); (case side1 => repeat (first | exact (Kd.R_reads' HO_346002.out).2.2 | (with_reducible refine Kd.C_alloc ?_ _) | (with_reducible refine Kd.C_drewN ?_ _) | (with_reducible refine Kd.C_drew ?_))); (case side2 => exact (Kd.R_reads' HO_346002.out).2.1); (case side3 => repeat (first | exact (Kd.R_reads' HO_346003.out).2.2 | (with_reducible refine Kd.C_alloc ?_ _) | (with_reducible refine Kd.C_drewN ?_ _) | (with_reducible refine Kd.C_drew ?_))); (case side4 => exact (Kd.R_reads' HO_346003.out).2.1); (case side5 => repeat (first | exact (Kd.R_reads' HO_333002.out).2.2 | (with_reducible refine Kd.C_alloc ?_ _) | (with_reducible refine Kd.C_drewN ?_ _) | (with_reducible refine Kd.C_drew ?_))); (case side6 => exact (Kd.R_reads' HO_333002.out).2.1); (case side7 => repeat (first | exact (Kd.R_reads' HO_333003.out).2.2 | (with_reducible refine Kd.C_alloc ?_ _) | (with_reducible refine Kd.C_drewN ?_ _) | (with_reducible refine Kd.C_drew ?_))); (case side8 => exact (Kd.R_reads' HO_333003.out).2.1); rintro e w46 ⟨rfl, hb⟩; have n0_ := Aside0.mk (Kd.R_below (by (with_reducible repeat (first | apply Kd.R_alloc | apply Kd.R_drewN | apply Kd.R_drew)); exact HO_9.out) hb); have n1_ := Aside0.mk (Kd.R_below (by (with_reducible repeat (first | apply Kd.R_alloc | apply Kd.R_drewN | apply Kd.R_drew)); exact HO_333002.out) hb); have n2_ := Aside0.mk (Kd.R_below (by (with_reducible repeat (first | apply Kd.R_alloc | apply Kd.R_drewN | apply Kd.R_drew)); exact HO_333003.out) hb); have n3_ := Aside0.mk (Kd.R_below (by (with_reducible repeat (first | apply Kd.R_alloc | apply Kd.R_drewN | apply Kd.R_drew)); exact HO_346002.out) hb); have n4_ := Aside0.mk (Kd.R_below (by (with_reducible repeat (first | apply Kd.R_alloc | apply Kd.R_drewN | apply Kd.R_drew)); exact HO_346003.out) hb); have n5_ := Aside0.mk (Kd.PB_below (by (with_reducible repeat (first | apply Kd.PB_alloc | apply Kd.PB_drewN | apply Kd.PB_drew)); exact HO349.out) hb); have n6_ := Aside0.mk (blk_below (g := gb332) (o := .cells #[.int .i64 t323, .int .i64 t324, .slice Ao15 t325.length co15, .slice Ao16 t328.length co16] 26 (0, 0)) (by (with_reducible repeat (first | refine blk_drewN ?_ _ | refine blk_drew ?_ | refine blk_alloc ?_ _)); exact BK332.out) hb); have n7_ := Aside0.mk (blk_below (g := gb345) (o := .cells #[.int .i64 t336, .int .i64 t337, .slice Ao23 t338.length co23, .slice Ao24 t341.length co24] 26 (0, 0)) (by (with_reducible repeat (first | refine blk_drewN ?_ _ | refine blk_drew ?_ | refine blk_alloc ?_ _)); exact BK345.out) hb); have n8_ := Aside0.mk (below_step (by repeat (first | (with_reducible first | exact HB.out | apply below_alloc | apply pw_below_drewN | apply below_drew1 | refine below_set ?_ GE332.out | refine below_set ?_ GE345.out) | exact HB.out)) hb); clear HO_9; clear HO_333002; clear HO_333003; clear HO_346002; clear HO_346003; clear HO349; clear BK332; clear BK345; clear HB; have HO_9 := n0_; have HO_333002 := n1_; have HO_333003 := n2_; have HO_346002 := n3_; have HO_346003 := n4_; have HO349 := n5_; have BK332 := n6_; have BK345 := n7_; have HB := n8_; clear n0_ n1_ n2_ n3_ n4_ n5_ n6_ n7_ n8_; (try clear hb); (try clear hb2); (try clear hk); (try clear hi)))
         go_meet
         case rel => exact ⟨_, ((t344 != t331)), (by first | rfl | (simp; done) | (simp [*]; done)), H', ⟨by have := HJ8.out; first | omega | exact Nat.le_refl _⟩, ⟨by (with_reducible repeat (first | apply Kd.R_alloc | apply Kd.R_drewN | apply Kd.R_drew)); exact Kd.R_mono HO_333002.out (fun _ hk => ⟨hk.2.1, ⟨hk.2.2.1, hk.2.2.2.1⟩⟩)⟩, ⟨by (with_reducible repeat (first | apply Kd.R_alloc | apply Kd.R_drewN | apply Kd.R_drew)); exact Kd.R_mono HO_333003.out (fun _ hk => ⟨hk.2.1, ⟨hk.2.2.1, hk.2.2.2.1⟩⟩)⟩, ⟨by (with_reducible repeat (first | apply Kd.R_alloc | apply Kd.R_drewN | apply Kd.R_drew)); exact Kd.R_mono HO_346002.out (fun _ hk => ⟨hk.2.1, ⟨hk.2.2.1, hk.2.2.2.1⟩⟩)⟩, ⟨by (with_reducible repeat (first | apply Kd.R_alloc | apply Kd.R_drewN | apply Kd.R_drew)); exact Kd.R_mono HO_346003.out (fun _ hk => ⟨hk.2.1, ⟨hk.2.2.1, hk.2.2.2.1⟩⟩)⟩, ⟨by (with_reducible repeat (first | refine blk_drewN ?_ _ | refine blk_drew ?_ | refine blk_alloc ?_ _)); exact BK332.out⟩, ⟨by (with_reducible repeat (first | refine blk_drewN ?_ _ | refine blk_drew ?_ | refine blk_alloc ?_ _)); exact BK345.out⟩, ⟨by repeat (first | (with_reducible first | exact HB.out | apply below_alloc | apply pw_below_drewN | apply below_drew1 | refine below_set ?_ GE332.out | refine below_set ?_ GE345.out) | exact HB.out)⟩⟩
        ·replace c42 := Bool.eq_false_iff.mpr c42
         subst c42
         have H1 : (laws_FnExactBorderOf.j1 kj8 a0 a1 l2 t331 true t323 t324 t325 t328 t336 t337 t338 t341) = some r := by rw [if_neg (show ¬ (false = true) by decide)] at H; exact H
         clear H
         have H := H1
         clear H1
         exact absurd HR_.out (by cases kj8 <;> simp [laws_FnExactBorderOf.j1] at H <;> first | simp [← H] | simp [H] | simp_all)
      case rest =>
       clear HC36
       try clear c1
       try clear c2
       try clear p2
       try clear c3
       try clear c4
       try clear c4b0
       try clear c4b1
       try clear c6
       try clear c14
       try clear c21
       try clear c22
       try clear c23
       try clear c24
       try clear c25
       try clear c26
       try clear c27
       try clear c31
       try clear c34
       try clear c40
       try clear c40b0
       try clear c42
       try clear c43
       try clear hcz14_0
       try clear hcz14_1
       try clear hcz14_2
       try clear hcz14_3
       try clear hcz22_0
       try clear hcz22_1
       try clear hcz22_2
       try clear hcz22_3
       try clear hcz28_0
       try clear hcz28_1
       try clear hcz28_2
       try clear hcz28_3
       try clear hcz29_0
       try clear hcz29_1
       try clear hcz29_2
       try clear hcz29_3
       try clear hcz44_0
       try clear hcz44_1
       try clear hcz44_2
       try clear hcz44_3
       try clear hcz45_0
       try clear hcz45_1
       try clear hcz45_2
       try clear hcz45_3
       try clear hfz14_0
       try clear hfz14_1
       try clear hfz14_2
       try clear hfz14_3
       try clear hfz22_0
       try clear hfz22_1
       try clear hfz22_2
       try clear hfz22_3
       try clear hfz28_0
       try clear hfz28_1
       try clear hfz28_2
       try clear hfz28_3
       try clear hfz29_0
       try clear hfz29_1
       try clear hfz29_2
       try clear hfz29_3
       try clear hfz44_0
       try clear hfz44_1
       try clear hfz44_2
       try clear hfz44_3
       try clear hfz45_0
       try clear hfz45_1
       try clear hfz45_2
       try clear hfz45_3
       try clear p2
       obtain ⟨kq, x66_35, rfl, HA, HJ35, HO_333002, HO_333003, HO_346002, HO_346003, BK332, BK345, HB⟩ := hcut
       cases kq with
       | zero => exact absurd HA.out (by simp [laws_FnExactBorderOf.j1])
       | succ kj35 =>
        have H := HA.out
        clear HA
        simp only [laws_FnExactBorderOf.j1] at H
        by_cases c47 : x66_35 = true
        ·subst c47
         have H1 : (some false) = some r := by rw [if_pos rfl] at H; exact H
         clear H
         have H := H1
         clear H1
         exact absurd ((Option.some.inj H).trans HR_.out) Bool.false_ne_true
        ·replace c47 := Bool.eq_false_iff.mpr c47
         subst c47
         have H1 : ((laws_markFigure.f kj35 t336 t337 t338 t341 101).bind fun bt354 => ((laws_heldFigure.f kj35 t336 t337 bt354.2.1 bt354.2.2 101).bind fun t357 => (if t357 < 0 then (some false) else (if t357 = bt354.1 then ((laws_toIntS.f l2 true).bind fun t358 => ((impl_BorderOf.f kj35 a0 a1 t358).bind fun bt361 => ((laws_eqFigure.f kj35 bt361.1 bt361.2.1 bt361.2.2.1 bt361.2.2.2.1 t323 t324 t325 t328).bind fun t371 => (if t371 = true then (laws_FnExactBorderOf.j2 kj35 bt354.1 (bt361.2.2.2.2 != t331) t336 t337 bt354.2.1 bt354.2.2) else (laws_FnExactBorderOf.j2 kj35 bt354.1 true t336 t337 bt354.2.1 bt354.2.2))))) else (some false))))) = some r := by rw [if_neg (show ¬ (false = true) by decide)] at H; exact H
         clear H
         have H := H1
         clear H1
         replace H := Option.bind_eq_some_iff.mp H
         obtain ⟨⟨t354, t355, t356⟩, A480, H⟩ := H
         replace H : ((laws_heldFigure.f kj35 t336 t337 t355 t356 101).bind fun t357 => (if t357 < 0 then (some false) else (if t357 = t354 then ((laws_toIntS.f l2 true).bind fun t358 => ((impl_BorderOf.f kj35 a0 a1 t358).bind fun bt361 => ((laws_eqFigure.f kj35 bt361.1 bt361.2.1 bt361.2.2.1 bt361.2.2.2.1 t323 t324 t325 t328).bind fun t371 => (if t371 = true then (laws_FnExactBorderOf.j2 kj35 t354 (bt361.2.2.2.2 != t331) t336 t337 t355 t356) else (laws_FnExactBorderOf.j2 kj35 t354 true t336 t337 t355 t356))))) else (some false)))) = some r := H
         have A48 := Aside0.mk A480
         clear A480
         replace H := Option.bind_eq_some_iff.mp H
         obtain ⟨t357, A490, H⟩ := H
         replace H : (if t357 < 0 then (some false) else (if t357 = t354 then ((laws_toIntS.f l2 true).bind fun t358 => ((impl_BorderOf.f kj35 a0 a1 t358).bind fun bt361 => ((laws_eqFigure.f kj35 bt361.1 bt361.2.1 bt361.2.2.1 bt361.2.2.2.1 t323 t324 t325 t328).bind fun t371 => (if t371 = true then (laws_FnExactBorderOf.j2 kj35 t354 (bt361.2.2.2.2 != t331) t336 t337 t355 t356) else (laws_FnExactBorderOf.j2 kj35 t354 true t336 t337 t355 t356))))) else (some false))) = some r := H
         have A49 := Aside0.mk A490
         clear A490
         by_cases c50 : t357 < 0
         ·rw [if_pos c50] at H
          have c50b0 : decide (t357 < 0) = true := decide_eq_true c50
          clear c50
          exact absurd ((Option.some.inj H).trans HR_.out) Bool.false_ne_true
         ·rw [if_neg c50] at H
          have c50b0 : decide (t357 < 0) = false := decide_eq_false c50
          clear c50
          by_cases c51 : t357 = t354
          ·rw [if_pos c51] at H
           have c51b0 : (t357 == t354) = true := beq_iff_eq.mpr c51
           have c51b1 : (t357 != t354) = false := bne_eq_false_iff_eq.mpr c51
           clear c51
           replace H := Option.bind_eq_some_iff.mp H
           obtain ⟨t358, A520, H⟩ := H
           replace H : ((impl_BorderOf.f kj35 a0 a1 t358).bind fun bt361 => ((laws_eqFigure.f kj35 bt361.1 bt361.2.1 bt361.2.2.1 bt361.2.2.2.1 t323 t324 t325 t328).bind fun t371 => (if t371 = true then (laws_FnExactBorderOf.j2 kj35 t354 (bt361.2.2.2.2 != t331) t336 t337 t355 t356) else (laws_FnExactBorderOf.j2 kj35 t354 true t336 t337 t355 t356)))) = some r := H
           have A52 := Aside0.mk A520
           clear A520
           replace H := Option.bind_eq_some_iff.mp H
           obtain ⟨⟨t361, t362, t363, t366, t369⟩, A530, H⟩ := H
           replace H : ((laws_eqFigure.f kj35 t361 t362 t363 t366 t323 t324 t325 t328).bind fun t371 => (if t371 = true then (laws_FnExactBorderOf.j2 kj35 t354 (t369 != t331) t336 t337 t355 t356) else (laws_FnExactBorderOf.j2 kj35 t354 true t336 t337 t355 t356))) = some r := H
           have A53 := Aside0.mk A530
           clear A530
           have HC54 := Aside0.mk H
           clear H
           have hnb55 := NB345_332.out
           have hnc55 := NB332_345.out
           have hcz56_0 : wc.cell? ⟨gb345, 0, none⟩ = some (.int .i64 t336) := (blk_cell BK345.out 0).trans rfl
           have hcz56_1 : wc.cell? ⟨gb345, 1, none⟩ = some (.int .i64 t337) := (blk_cell BK345.out 1).trans rfl
           have hcz56_2 : wc.cell? ⟨gb345, 2, none⟩ = some (.slice Ao23 t338.length co23) := (blk_cell BK345.out 2).trans rfl
           have hcz56_3 : wc.cell? ⟨gb345, 3, none⟩ = some (.slice Ao24 t341.length co24) := (blk_cell BK345.out 3).trans rfl
           have hfz56_0 := blk_frozen BK345.out 0
           have hfz56_1 := blk_frozen BK345.out 1
           have hfz56_2 := blk_frozen BK345.out 2
           have hfz56_3 := blk_frozen BK345.out 3
           go_upto_region 23 with (first | ((with_reducible refine gate_callee (f := 16) rfl ?_); refine goesL_ (some 69) rfl rfl Tryd.func16 (by kernel_rfl) rfl #[.agg #[.int .i64 t336, .int .i64 t337, .slice Ao23 t338.length co23, .slice Ao24 t341.length co24], .int .i64 101] rfl (by (try simp only [List.map_toArray, List.map_cons, List.map_nil]); first | done | rfl | (simp only [List.length_drop, List.length_take]; rfl)) ?_; (with_reducible refine (laws_markFigure.calls kj35 t336 t337 (fun k_ => some k_ = (.slice Ao23 t338.length co23 : Value).ownBlock) (.slice Ao23 t338.length co23) t338 (fun k_ => some k_ = (.slice Ao24 t341.length co24 : Value).ownBlock) (.slice Ao24 t341.length co24) t341 101 t354 t355 t356 w _ ?side1 ?side2 ?side3 ?side4 ?side5 A48.out).mono ?_); (case side1 => repeat (first | (with_reducible first | exact HB.out | apply below_alloc | apply pw_below_drewN | apply below_drew1 | refine below_set ?_ GE332.out | refine below_set ?_ GE345.out) | exact HB.out)); (case side2 => exact Kd.R_tight rfl HO_346002.out); (case side3 => exact fun k_ e_ => (HO_346002.out.1 k_ e_.symm).2.2); (case side4 => exact Kd.R_tight rfl HO_346003.out); (case side5 => exact fun k_ e_ => (HO_346003.out.1 k_ e_.symm).2.2); rintro e w57 ⟨rfl, hy0, hy1, hb, hkp⟩; refine ⟨_, rfl, ?_⟩; have n0_ := Aside0.mk (Kd.R_mono (ok' := fun k_ => some k_ ≠ (.slice Ao16 t328.length co16 : Value).ownBlock ∧ some k_ ≠ (.slice Ao23 t338.length co23 : Value).ownBlock ∧ some k_ ≠ (.slice Ao24 t341.length co24 : Value).ownBlock) (Kd.R_keptB (HO_333002.out) hkp (fun k_ hk_ hs_ => Or.elim hs_ (fun e_ => (hk_.2.1) e_) (fun e_ => (hk_.2.2) e_))) (fun k_ hk_ => ⟨hk_.1.1, hk_.1.2.1, hk_.1.2.2⟩)); have n1_ := Aside0.mk (Kd.R_mono (ok' := fun k_ => some k_ ≠ (.slice Ao15 t325.length co15 : Value).ownBlock ∧ some k_ ≠ (.slice Ao23 t338.length co23 : Value).ownBlock ∧ some k_ ≠ (.slice Ao24 t341.length co24 : Value).ownBlock) (Kd.R_keptB (HO_333003.out) hkp (fun k_ hk_ hs_ => Or.elim hs_ (fun e_ => (hk_.2.1) e_) (fun e_ => (hk_.2.2) e_))) (fun k_ hk_ => ⟨hk_.1.1, hk_.1.2.1, hk_.1.2.2⟩)); have n2_ := Aside0.mk (Kd.R_reok rfl hy0 (fun k_ e_ => HO_346002.out.1 k_ e_)); have n3_ := Aside0.mk (Kd.R_reok rfl hy1 (fun k_ e_ => HO_346003.out.1 k_ e_)); have n4_ := Aside0.mk (blk_kept (by (with_reducible repeat (first | refine blk_drewN ?_ _ | refine blk_drew ?_ | refine blk_alloc ?_ _)); exact BK332.out) hkp (fun hs_ => Or.elim hs_ (fun e_ => (fun e_ => (Kd.R_ne HO_346002.out BK332.out (by decide)) e_) e_) (fun e_ => (fun e_ => (Kd.R_ne HO_346003.out BK332.out (by decide)) e_) e_))); have n5_ := Aside0.mk (blk_kept (by (with_reducible repeat (first | refine blk_drewN ?_ _ | refine blk_drew ?_ | refine blk_alloc ?_ _)); exact BK345.out) hkp (fun hs_ => Or.elim hs_ (fun e_ => (fun e_ => (Kd.R_ne HO_346002.out BK345.out (by decide)) e_) e_) (fun e_ => (fun e_ => (Kd.R_ne HO_346003.out BK345.out (by decide)) e_) e_))); have n6_ := Aside0.mk (hb); clear HO_333002; clear HO_333003; clear HO_346002; clear HO_346003; clear BK332; clear BK345; clear HB; have HO_333002 := n0_; have HO_333003 := n1_; have HO_346002 := n2_; have HO_346003 := n3_; have BK332 := n4_; have BK345 := n5_; have HB := n6_; clear n0_ n1_ n2_ n3_ n4_ n5_ n6_; (try clear hb); (try clear hkp); (try clear hy0); (try clear hy1); have hcz58_0 : w57.cell? ⟨gb345, 0, none⟩ = some (.int .i64 t336) := (blk_cell BK345.out 0).trans rfl; have hcz58_1 : w57.cell? ⟨gb345, 1, none⟩ = some (.int .i64 t337) := (blk_cell BK345.out 1).trans rfl; have hcz58_2 : w57.cell? ⟨gb345, 2, none⟩ = some (.slice Ao23 t338.length co23) := (blk_cell BK345.out 2).trans rfl; have hcz58_3 : w57.cell? ⟨gb345, 3, none⟩ = some (.slice Ao24 t341.length co24) := (blk_cell BK345.out 3).trans rfl; have hfz58_0 := blk_frozen BK345.out 0; have hfz58_1 := blk_frozen BK345.out 1; have hfz58_2 := blk_frozen BK345.out 2; have hfz58_3 := blk_frozen BK345.out 3) | ((with_reducible refine gate_callee (f := 17) rfl ?_); refine goesL_ (some 72) rfl rfl Tryd.func17 (by kernel_rfl) rfl #[.agg #[.int .i64 t336, .int .i64 t337, .slice Ao23 t355.length co23, .slice Ao24 t356.length co24], .int .i64 101] rfl (by (try simp only [List.map_toArray, List.map_cons, List.map_nil]); first | done | (rw [show t355.length = t338.length from (Kd.R_reads' HO_346002.out).1.symm, show t356.length = t341.length from (Kd.R_reads' HO_346003.out).1.symm] <;> rfl) | rfl | (simp only [List.length_drop, List.length_take]; rfl)) ?_; (with_reducible refine (laws_heldFigure.calls kj35 t336 t337 _ _ t355 _ _ t356 101 t357 _ ?side1 ?side2 ?side3 ?side4 A49.out).mono ?_); (case side1 => repeat (first | exact (Kd.R_reads' HO_346002.out).2.2 | (with_reducible refine Kd.C_alloc ?_ _) | (with_reducible refine Kd.C_drewN ?_ _) | (with_reducible refine Kd.C_drew ?_))); (case side2 => rw [show t355.length = t338.length from (Kd.R_reads' HO_346002.out).1.symm]; exact (Kd.R_reads' HO_346002.out).2.1); (case side3 => repeat (first | exact (Kd.R_reads' HO_346003.out).2.2 | (with_reducible refine Kd.C_alloc ?_ _) | (with_reducible refine Kd.C_drewN ?_ _) | (with_reducible refine Kd.C_drew ?_))); (case side4 => rw [show t356.length = t341.length from (Kd.R_reads' HO_346003.out).1.symm]; exact (Kd.R_reads' HO_346003.out).2.1); rintro e w59 ⟨rfl, hb⟩; refine ⟨_, rfl, ?_⟩; have n0_ := Aside0.mk (Kd.R_below (by (with_reducible repeat (first | apply Kd.R_alloc | apply Kd.R_drewN | apply Kd.R_drew)); exact HO_333002.out) hb); have n1_ := Aside0.mk (Kd.R_below (by (with_reducible repeat (first | apply Kd.R_alloc | apply Kd.R_drewN | apply Kd.R_drew)); exact HO_333003.out) hb); have n2_ := Aside0.mk (Kd.R_below (by (with_reducible repeat (first | apply Kd.R_alloc | apply Kd.R_drewN | apply Kd.R_drew)); exact HO_346002.out) hb); have n3_ := Aside0.mk (Kd.R_below (by (with_reducible repeat (first | apply Kd.R_alloc | apply Kd.R_drewN | apply Kd.R_drew)); exact HO_346003.out) hb); have n4_ := Aside0.mk (blk_below (g := gb332) (o := .cells #[.int .i64 t323, .int .i64 t324, .slice Ao15 t325.length co15, .slice Ao16 t328.length co16] 26 (0, 0)) (by (with_reducible repeat (first | refine blk_drewN ?_ _ | refine blk_drew ?_ | refine blk_alloc ?_ _)); exact BK332.out) hb); have n5_ := Aside0.mk (blk_below (g := gb345) (o := .cells #[.int .i64 t336, .int .i64 t337, .slice Ao23 t338.length co23, .slice Ao24 t341.length co24] 26 (0, 0)) (by (with_reducible repeat (first | refine blk_drewN ?_ _ | refine blk_drew ?_ | refine blk_alloc ?_ _)); exact BK345.out) hb); have n6_ := Aside0.mk (below_step (by repeat (first | (with_reducible first | exact HB.out | apply below_alloc | apply pw_below_drewN | apply below_drew1 | refine below_set ?_ GE332.out | refine below_set ?_ GE345.out) | exact HB.out)) hb); clear HO_333002; clear HO_333003; clear HO_346002; clear HO_346003; clear BK332; clear BK345; clear HB; have HO_333002 := n0_; have HO_333003 := n1_; have HO_346002 := n2_; have HO_346003 := n3_; have BK332 := n4_; have BK345 := n5_; have HB := n6_; clear n0_ n1_ n2_ n3_ n4_ n5_ n6_; (try clear hb); (try clear hb2); (try clear hk); (try clear hi)) | ((with_reducible refine gate_callee (f := 23) rfl ?_); refine goesL_ (some 82) rfl rfl Tryd.func23 (by kernel_rfl) rfl #[.slice A2 l2.length c2, .bool true] rfl (by (try simp only [List.map_toArray, List.map_cons, List.map_nil]); first | done | rfl | (simp only [List.length_drop, List.length_take]; rfl)) ?_; (with_reducible refine (laws_toIntS.calls _ _ l2 true t358 _ ?side1 ?side2 A52.out).mono ?_); (case side1 => repeat (first | exact (Kd.C_below HR2.out HB.out) | (with_reducible refine Kd.C_alloc ?_ _) | (with_reducible refine Kd.C_drewN ?_ _) | (with_reducible refine Kd.C_drew ?_))); (case side2 => exact HC2.out); rintro e w60 ⟨v359, rfl, ho0, hb⟩; refine ⟨_, rfl, ?_⟩; have n0_ := Aside0.mk (Kd.R_elder' (by (with_reducible repeat (first | apply Kd.R_alloc | apply Kd.R_drewN | apply Kd.R_drew)); exact HO_333002.out) (Kd.PB_base ho0) hb); have n1_ := Aside0.mk (Kd.R_elder' (by (with_reducible repeat (first | apply Kd.R_alloc | apply Kd.R_drewN | apply Kd.R_drew)); exact HO_333003.out) (Kd.PB_base ho0) hb); have n2_ := Aside0.mk (Kd.R_elder' (by (with_reducible repeat (first | apply Kd.R_alloc | apply Kd.R_drewN | apply Kd.R_drew)); exact HO_346002.out) (Kd.PB_base ho0) hb); have n3_ := Aside0.mk (Kd.R_elder' (by (with_reducible repeat (first | apply Kd.R_alloc | apply Kd.R_drewN | apply Kd.R_drew)); exact HO_346003.out) (Kd.PB_base ho0) hb); have n4_ := Aside0.mk (Kd.PB_lower (Kd.PB_new' (Kd.PB_new' (Kd.PB_new' (Kd.PB_new' ho0 (Kd.R_lt (by (with_reducible repeat (first | apply Kd.R_alloc | apply Kd.R_drewN | apply Kd.R_drew)); exact HO_333002.out))) (Kd.R_lt (by (with_reducible repeat (first | apply Kd.R_alloc | apply Kd.R_drewN | apply Kd.R_drew)); exact HO_333003.out))) (Kd.R_lt (by (with_reducible repeat (first | apply Kd.R_alloc | apply Kd.R_drewN | apply Kd.R_drew)); exact HO_346002.out))) (Kd.R_lt (by (with_reducible repeat (first | apply Kd.R_alloc | apply Kd.R_drewN | apply Kd.R_drew)); exact HO_346003.out))) (below_size (by repeat (first | (with_reducible first | exact HB.out | apply below_alloc | apply pw_below_drewN | apply below_drew1 | refine below_set ?_ GE332.out | refine below_set ?_ GE345.out) | exact HB.out)))); have n5_ := Aside0.mk (blk_below (g := gb332) (o := .cells #[.int .i64 t323, .int .i64 t324, .slice Ao15 t325.length co15, .slice Ao16 t328.length co16] 26 (0, 0)) (by (with_reducible repeat (first | refine blk_drewN ?_ _ | refine blk_drew ?_ | refine blk_alloc ?_ _)); exact BK332.out) hb); have n6_ := Aside0.mk (blk_below (g := gb345) (o := .cells #[.int .i64 t336, .int .i64 t337, .slice Ao23 t338.length co23, .slice Ao24 t341.length co24] 26 (0, 0)) (by (with_reducible repeat (first | refine blk_drewN ?_ _ | refine blk_drew ?_ | refine blk_alloc ?_ _)); exact BK345.out) hb); have n7_ := Aside0.mk (below_step (by repeat (first | (with_reducible first | exact HB.out | apply below_alloc | apply pw_below_drewN | apply below_drew1 | refine below_set ?_ GE332.out | refine below_set ?_ GE345.out) | exact HB.out)) hb); clear HO_333002; clear HO_333003; clear HO_346002; clear HO_346003; clear BK332; clear BK345; clear HB; have HO_333002 := n0_; have HO_333003 := n1_; have HO_346002 := n2_; have HO_346003 := n3_; have HO360 := n4_; have BK332 := n5_; have BK345 := n6_; have HB := n7_; clear n0_ n1_ n2_ n3_ n4_ n5_ n6_ n7_; (try clear hb); (try clear hb2); (try clear hk); (try clear hi); (try clear ho0); obtain ⟨Ao61, co61, eo61⟩ := Kd.PB_slice HO360.out; subst eo61) | ((with_reducible refine gate_callee (f := 24) rfl ?_); refine goesL_ (some 83) rfl rfl Tryd.func24 (by kernel_rfl) rfl #[.int .i64 a0, .int .i64 a1, .slice Ao61 t358.length co61] rfl (by (try simp only [List.map_toArray, List.map_cons, List.map_nil]); first | done | rfl | (simp only [List.length_drop, List.length_take]; rfl)) ?_; (with_reducible refine (impl_BorderOf.calls kj35 a0 a1 _ _ t358 t361 t362 t363 t366 t369 _ ?side1 ?side2 ?side3 A53.out).mono ?_); (case side1 => repeat (first | exact (Kd.PB_reads' HO360.out).2.2 | (with_reducible refine Kd.C_alloc ?_ _) | (with_reducible refine Kd.C_drewN ?_ _) | (with_reducible refine Kd.C_drew ?_))); (case side2 => exact (Kd.PB_reads' HO360.out).2.1); (case side3 => first | exact LaidG_below HG.out (by repeat (first | (with_reducible first | exact HB.out | apply below_alloc | apply pw_below_drewN | apply below_drew1 | refine below_set ?_ GE332.out | refine below_set ?_ GE345.out) | exact HB.out)) | (repeat (first | exact HG.out | (with_reducible refine LaidG_alloc ?_ _) | (with_reducible refine LaidG_drewN ?_ _) | (with_reducible refine LaidG_drew ?_)))); rintro e w62 ⟨v364, v367, rfl, ho0, ho1, hb⟩; refine ⟨_, rfl, ?_⟩; have n0_ := Aside0.mk (Kd.R_mono (Kd.R_told (Kd.R_told (Kd.R_old (by (with_reducible repeat (first | apply Kd.R_alloc | apply Kd.R_drewN | apply Kd.R_drew)); exact HO_333002.out) hb) (Kd.R_base ho0)) (Kd.R_base ho1)) (fun _ h_ => h_.1)); have n1_ := Aside0.mk (Kd.R_mono (Kd.R_told (Kd.R_told (Kd.R_old (by (with_reducible repeat (first | apply Kd.R_alloc | apply Kd.R_drewN | apply Kd.R_drew)); exact HO_333003.out) hb) (Kd.R_base ho0)) (Kd.R_base ho1)) (fun _ h_ => h_.1)); have n2_ := Aside0.mk (Kd.R_mono (Kd.R_told (Kd.R_told (Kd.R_old (by (with_reducible repeat (first | apply Kd.R_alloc | apply Kd.R_drewN | apply Kd.R_drew)); exact HO_346002.out) hb) (Kd.R_base ho0)) (Kd.R_base ho1)) (fun _ h_ => h_.1)); have n3_ := Aside0.mk (Kd.R_mono (Kd.R_told (Kd.R_told (Kd.R_old (by (with_reducible repeat (first | apply Kd.R_alloc | apply Kd.R_drewN | apply Kd.R_drew)); exact HO_346003.out) hb) (Kd.R_base ho0)) (Kd.R_base ho1)) (fun _ h_ => h_.1)); have n4_ := Aside0.mk (Kd.PB_mono (Kd.PB_told (Kd.PB_told (Kd.PB_old (by (with_reducible repeat (first | apply Kd.PB_alloc | apply Kd.PB_drewN | apply Kd.PB_drew)); exact HO360.out) hb) (Kd.R_base ho0)) (Kd.R_base ho1)) (fun _ h_ => h_.1)); have n5_ := Aside0.mk (Kd.R_lower (Kd.R_new' (Kd.R_new' (Kd.R_new' (Kd.R_new' (Kd.R_new' ho0 (Kd.R_lt (by (with_reducible repeat (first | apply Kd.R_alloc | apply Kd.R_drewN | apply Kd.R_drew)); exact HO_333002.out))) (Kd.R_lt (by (with_reducible repeat (first | apply Kd.R_alloc | apply Kd.R_drewN | apply Kd.R_drew)); exact HO_333003.out))) (Kd.R_lt (by (with_reducible repeat (first | apply Kd.R_alloc | apply Kd.R_drewN | apply Kd.R_drew)); exact HO_346002.out))) (Kd.R_lt (by (with_reducible repeat (first | apply Kd.R_alloc | apply Kd.R_drewN | apply Kd.R_drew)); exact HO_346003.out))) (Kd.PB_lt (by (with_reducible repeat (first | apply Kd.PB_alloc | apply Kd.PB_drewN | apply Kd.PB_drew)); exact HO360.out))) (below_size (by repeat (first | (with_reducible first | exact HB.out | apply below_alloc | apply pw_below_drewN | apply below_drew1 | refine below_set ?_ GE332.out | refine below_set ?_ GE345.out) | exact HB.out)))); have n6_ := Aside0.mk (Kd.R_lower (Kd.R_new' (Kd.R_new' (Kd.R_new' (Kd.R_new' (Kd.R_new' ho1 (Kd.R_lt (by (with_reducible repeat (first | apply Kd.R_alloc | apply Kd.R_drewN | apply Kd.R_drew)); exact HO_333002.out))) (Kd.R_lt (by (with_reducible repeat (first | apply Kd.R_alloc | apply Kd.R_drewN | apply Kd.R_drew)); exact HO_333003.out))) (Kd.R_lt (by (with_reducible repeat (first | apply Kd.R_alloc | apply Kd.R_drewN | apply Kd.R_drew)); exact HO_346002.out))) (Kd.R_lt (by (with_reducible repeat (first | apply Kd.R_alloc | apply Kd.R_drewN | apply Kd.R_drew)); exact HO_346003.out))) (Kd.PB_lt (by (with_reducible repeat (first | apply Kd.PB_alloc | apply Kd.PB_drewN | apply Kd.PB_drew)); exact HO360.out))) (below_size (by repeat (first | (with_reducible first | exact HB.out | apply below_alloc | apply pw_below_drewN | apply below_drew1 | refine below_set ?_ GE332.out | refine below_set ?_ GE345.out) | exact HB.out)))); have n7_ := Aside0.mk (blk_below (g := gb332) (o := .cells #[.int .i64 t323, .int .i64 t324, .slice Ao15 t325.length co15, .slice Ao16 t328.length co16] 26 (0, 0)) (by (with_reducible repeat (first | refine blk_drewN ?_ _ | refine blk_drew ?_ | refine blk_alloc ?_ _)); exact BK332.out) hb); have n8_ := Aside0.mk (blk_below (g := gb345) (o := .cells #[.int .i64 t336, .int .i64 t337, .slice Ao23 t338.length co23, .slice Ao24 t341.length co24] 26 (0, 0)) (by (with_reducible repeat (first | refine blk_drewN ?_ _ | refine blk_drew ?_ | refine blk_alloc ?_ _)); exact BK345.out) hb); have n9_ := Aside0.mk (below_step (by repeat (first | (with_reducible first | exact HB.out | apply below_alloc | apply pw_below_drewN | apply below_drew1 | refine below_set ?_ GE332.out | refine below_set ?_ GE345.out) | exact HB.out)) hb); clear HO_333002; clear HO_333003; clear HO_346002; clear HO_346003; clear HO360; clear BK332; clear BK345; clear HB; have HO_333002 := n0_; have HO_333003 := n1_; have HO_346002 := n2_; have HO_346003 := n3_; have HO360 := n4_; have HO365 := n5_; have HO368 := n6_; have BK332 := n7_; have BK345 := n8_; have HB := n9_; clear n0_ n1_ n2_ n3_ n4_ n5_ n6_ n7_ n8_ n9_; (try clear hb); (try clear hb2); (try clear hk); (try clear hi); (try clear ho0); (try clear ho1)) | ((with_reducible refine gate_dst (N := 15) rfl ?_); refine box_event ?hg (N := 15) ?hd (cs := #[.int .i64 0, .int .i64 0, .slice none 0 0, .slice none 0 0]) (t := 26) ?hr ?_; (case hd => rfl); (case hg => rfl); (case hr => first | (go_simp; done) | (go_simp; rfl)); intro gb370 hg w63 hbox hb; have n0_ := Aside0.mk (Kd.R_below (by (with_reducible repeat (first | apply Kd.R_alloc | apply Kd.R_drewN | apply Kd.R_drew)); exact HO_333002.out) hb); have n1_ := Aside0.mk (Kd.R_below (by (with_reducible repeat (first | apply Kd.R_alloc | apply Kd.R_drewN | apply Kd.R_drew)); exact HO_333003.out) hb); have n2_ := Aside0.mk (Kd.R_below (by (with_reducible repeat (first | apply Kd.R_alloc | apply Kd.R_drewN | apply Kd.R_drew)); exact HO_346002.out) hb); have n3_ := Aside0.mk (Kd.R_below (by (with_reducible repeat (first | apply Kd.R_alloc | apply Kd.R_drewN | apply Kd.R_drew)); exact HO_346003.out) hb); have n4_ := Aside0.mk (Kd.PB_below (by (with_reducible repeat (first | apply Kd.PB_alloc | apply Kd.PB_drewN | apply Kd.PB_drew)); exact HO360.out) hb); have n5_ := Aside0.mk (Kd.R_below (by (with_reducible repeat (first | apply Kd.R_alloc | apply Kd.R_drewN | apply Kd.R_drew)); exact HO365.out) hb); have n6_ := Aside0.mk (Kd.R_below (by (with_reducible repeat (first | apply Kd.R_alloc | apply Kd.R_drewN | apply Kd.R_drew)); exact HO368.out) hb); have n7_ := Aside0.mk (blk_below (g := gb332) (o := .cells #[.int .i64 t323, .int .i64 t324, .slice Ao15 t325.length co15, .slice Ao16 t328.length co16] 26 (0, 0)) (by (with_reducible repeat (first | refine blk_drewN ?_ _ | refine blk_drew ?_ | refine blk_alloc ?_ _)); exact BK332.out) hb); have n8_ := Aside0.mk (blk_below (g := gb345) (o := .cells #[.int .i64 t336, .int .i64 t337, .slice Ao23 t338.length co23, .slice Ao24 t341.length co24] 26 (0, 0)) (by (with_reducible repeat (first | refine blk_drewN ?_ _ | refine blk_drew ?_ | refine blk_alloc ?_ _)); exact BK345.out) hb); have n9_ := Aside0.mk (below_step (by repeat (first | (with_reducible first | exact HB.out | apply below_alloc | apply pw_below_drewN | apply below_drew1 | refine below_set ?_ GE332.out | refine below_set ?_ GE345.out) | exact HB.out)) hb); have n10_ := Aside0.mk (hbox); have n11_ := Aside0.mk ((by rw [hg]; exact (below_size (by repeat (first | (with_reducible first | exact HB.out | apply below_alloc | apply pw_below_drewN | apply below_drew1 | refine below_set ?_ GE332.out | refine below_set ?_ GE345.out) | exact HB.out))) : w.heap.size ≤ gb370)); have n12_ := Aside0.mk ((by rw [hg]; exact (below_size (by repeat (first | (with_reducible first | exact HB.out | apply below_alloc | apply pw_below_drewN | apply below_drew1 | refine below_set ?_ GE332.out | refine below_set ?_ GE345.out) | exact HB.out))) : w.heap.size ≤ gb370)); have n13_ := Aside0.mk ((by rw [hg]; exact Nat.ne_of_lt (blk_lt (g := gb332) (o := .cells #[.int .i64 t323, .int .i64 t324, .slice Ao15 t325.length co15, .slice Ao16 t328.length co16] 26 (0, 0)) (by (with_reducible repeat (first | refine blk_drewN ?_ _ | refine blk_drew ?_ | refine blk_alloc ?_ _)); exact BK332.out)) : gb332 ≠ gb370)); have n14_ := Aside0.mk ((by rw [hg]; exact Nat.ne_of_gt (blk_lt (g := gb332) (o := .cells #[.int .i64 t323, .int .i64 t324, .slice Ao15 t325.length co15, .slice Ao16 t328.length co16] 26 (0, 0)) (by (with_reducible repeat (first | refine blk_drewN ?_ _ | refine blk_drew ?_ | refine blk_alloc ?_ _)); exact BK332.out)) : gb370 ≠ gb332)); have n15_ := Aside0.mk ((by rw [hg]; exact Nat.ne_of_lt (blk_lt (g := gb345) (o := .cells #[.int .i64 t336, .int .i64 t337, .slice Ao23 t338.length co23, .slice Ao24 t341.length co24] 26 (0, 0)) (by (with_reducible repeat (first | refine blk_drewN ?_ _ | refine blk_drew ?_ | refine blk_alloc ?_ _)); exact BK345.out)) : gb345 ≠ gb370)); have n16_ := Aside0.mk ((by rw [hg]; exact Nat.ne_of_gt (blk_lt (g := gb345) (o := .cells #[.int .i64 t336, .int .i64 t337, .slice Ao23 t338.length co23, .slice Ao24 t341.length co24] 26 (0, 0)) (by (with_reducible repeat (first | refine blk_drewN ?_ _ | refine blk_drew ?_ | refine blk_alloc ?_ _)); exact BK345.out)) : gb370 ≠ gb345)); clear HO_333002; clear HO_333003; clear HO_346002; clear HO_346003; clear HO360; clear HO365; clear HO368; clear BK332; clear BK345; clear HB; have HO_333002 := n0_; have HO_333003 := n1_; have HO_346002 := n2_; have HO_346003 := n3_; have HO360 := n4_; have HO365 := n5_; have HO368 := n6_; have BK332 := n7_; have BK345 := n8_; have HB := n9_; have BK370 := n10_; have GW370 := n11_; have GE370 := n12_; have NB332_370 := n13_; have NB370_332 := n14_; have NB345_370 := n15_; have NB370_345 := n16_; clear n0_ n1_ n2_ n3_ n4_ n5_ n6_ n7_ n8_ n9_ n10_ n11_ n12_ n13_ n14_ n15_ n16_; clear hb hbox hg; have hnb64 := NB370_332.out; have hnc64 := NB332_370.out; have hnb65 := NB370_345.out; have hnc65 := NB345_370.out; have hcz66_0 : w63.cell? ⟨gb370, 0, none⟩ = some (.int .i64 0) := (blk_cell BK370.out 0).trans rfl; have hcz66_1 : w63.cell? ⟨gb370, 1, none⟩ = some (.int .i64 0) := (blk_cell BK370.out 1).trans rfl; have hcz66_2 : w63.cell? ⟨gb370, 2, none⟩ = some (.slice none 0 0) := (blk_cell BK370.out 2).trans rfl; have hcz66_3 : w63.cell? ⟨gb370, 3, none⟩ = some (.slice none 0 0) := (blk_cell BK370.out 3).trans rfl; have hfz66_0 := blk_frozen BK370.out 0; have hfz66_1 := blk_frozen BK370.out 1; have hfz66_2 := blk_frozen BK370.out 2; have hfz66_3 := blk_frozen BK370.out 3; obtain ⟨Ao67, co67, eo67⟩ := Kd.R_slice HO365.out; subst eo67; obtain ⟨Ao68, co68, eo68⟩ := Kd.R_slice HO368.out; subst eo68))
           (try simp only [Act.put, List.setIfInBounds_toArray, List.set_cons_zero, List.set_cons_succ])
           go_cut [94] (fun v94 wc => ∃ (kq : Nat) (x94_53 : Bool), v94 = .bool x94_53 ∧ Aside0 (laws_FnExactBorderOf.j2 kq t354 x94_53 t336 t337 t355 t356 = some r) ∧ Aside0 (kq ≤ kj35) ∧ Aside0 (Kd.R (Kd.int .i64) 3 wc w.heap.size (fun k_ => some k_ ≠ ((.slice Ao16 t328.length co16) : Value).ownBlock ∧ some k_ ≠ ((.slice Ao23 t338.length co23) : Value).ownBlock ∧ some k_ ≠ ((.slice Ao24 t341.length co24) : Value).ownBlock ∧ some k_ ≠ ((.slice Ao67 t363.length co67) : Value).ownBlock ∧ some k_ ≠ ((.slice Ao68 t366.length co68) : Value).ownBlock) (.slice Ao15 t325.length co15) t325) ∧ Aside0 (Kd.R (Kd.int .i64) 3 wc w.heap.size (fun k_ => some k_ ≠ ((.slice Ao15 t325.length co15) : Value).ownBlock ∧ some k_ ≠ ((.slice Ao23 t338.length co23) : Value).ownBlock ∧ some k_ ≠ ((.slice Ao24 t341.length co24) : Value).ownBlock ∧ some k_ ≠ ((.slice Ao67 t363.length co67) : Value).ownBlock ∧ some k_ ≠ ((.slice Ao68 t366.length co68) : Value).ownBlock) (.slice Ao16 t328.length co16) t328) ∧ Aside0 (Kd.R (Kd.int .i64) 3 wc w.heap.size (fun k_ => some k_ ≠ ((.slice Ao15 t325.length co15) : Value).ownBlock ∧ some k_ ≠ ((.slice Ao16 t328.length co16) : Value).ownBlock ∧ some k_ ≠ ((.slice Ao24 t341.length co24) : Value).ownBlock ∧ some k_ ≠ ((.slice Ao67 t363.length co67) : Value).ownBlock ∧ some k_ ≠ ((.slice Ao68 t366.length co68) : Value).ownBlock) (.slice Ao23 t338.length co23) t355) ∧ Aside0 (Kd.R (Kd.int .i64) 3 wc w.heap.size (fun k_ => some k_ ≠ ((.slice Ao15 t325.length co15) : Value).ownBlock ∧ some k_ ≠ ((.slice Ao16 t328.length co16) : Value).ownBlock ∧ some k_ ≠ ((.slice Ao23 t338.length co23) : Value).ownBlock ∧ some k_ ≠ ((.slice Ao67 t363.length co67) : Value).ownBlock ∧ some k_ ≠ ((.slice Ao68 t366.length co68) : Value).ownBlock) (.slice Ao24 t341.length co24) t356) ∧ Aside0 (Kd.R (Kd.int .i64) 3 wc w.heap.size (fun k_ => some k_ ≠ ((.slice Ao15 t325.length co15) : Value).ownBlock ∧ some k_ ≠ ((.slice Ao16 t328.length co16) : Value).ownBlock ∧ some k_ ≠ ((.slice Ao23 t338.length co23) : Value).ownBlock ∧ some k_ ≠ ((.slice Ao24 t341.length co24) : Value).ownBlock ∧ some k_ ≠ ((.slice Ao68 t366.length co68) : Value).ownBlock) (.slice Ao67 t363.length co67) t363) ∧ Aside0 (Kd.R (Kd.int .i64) 3 wc w.heap.size (fun k_ => some k_ ≠ ((.slice Ao15 t325.length co15) : Value).ownBlock ∧ some k_ ≠ ((.slice Ao16 t328.length co16) : Value).ownBlock ∧ some k_ ≠ ((.slice Ao23 t338.length co23) : Value).ownBlock ∧ some k_ ≠ ((.slice Ao24 t341.length co24) : Value).ownBlock ∧ some k_ ≠ ((.slice Ao67 t363.length co67) : Value).ownBlock) (.slice Ao68 t366.length co68) t366) ∧ Aside0 (wc.heap[gb332]? = some (.cells #[.int .i64 t323, .int .i64 t324, (.slice Ao15 t325.length co15), (.slice Ao16 t328.length co16)] 26 (0, 0))) ∧ Aside0 (wc.heap[gb345]? = some (.cells #[.int .i64 t336, .int .i64 t337, (.slice Ao23 t338.length co23), (.slice Ao24 t341.length co24)] 26 (0, 0))) ∧ Aside0 (wc.heap[gb370]? = some (.cells #[.int .i64 t361, .int .i64 t362, (.slice Ao67 t363.length co67), (.slice Ao68 t366.length co68)] 26 (0, 0))) ∧ Aside0 (Below w.heap.size w wc))
           case first =>
            have H := HC54.out
            clear HC54
            replace H := Option.bind_eq_some_iff.mp H
            obtain ⟨t371, A690, H⟩ := H
            replace H : (if t371 = true then (laws_FnExactBorderOf.j2 kj35 t354 (t369 != t331) t336 t337 t355 t356) else (laws_FnExactBorderOf.j2 kj35 t354 true t336 t337 t355 t356)) = some r := H
            have A69 := Aside0.mk A690
            clear A690
            by_cases c70 : t371 = true
            ·subst c70
             have H1 : (laws_FnExactBorderOf.j2 kj35 t354 (t369 != t331) t336 t337 t355 t356) = some r := by rw [if_pos rfl] at H; exact H
             clear H
             have H := H1
             clear H1
             have H' := Aside0.mk H
             clear H
             have hnb71 := NB370_332.out
             have hnc71 := NB332_370.out
             have hnb72 := NB370_345.out
             have hnc72 := NB345_370.out
             have hcz73_0 : w63.cell? ⟨gb370, 0, none⟩ = some (.int .i64 0) := (blk_cell BK370.out 0).trans rfl
             have hcz73_1 : w63.cell? ⟨gb370, 1, none⟩ = some (.int .i64 0) := (blk_cell BK370.out 1).trans rfl
             have hcz73_2 : w63.cell? ⟨gb370, 2, none⟩ = some (.slice none 0 0) := (blk_cell BK370.out 2).trans rfl
             have hcz73_3 : w63.cell? ⟨gb370, 3, none⟩ = some (.slice none 0 0) := (blk_cell BK370.out 3).trans rfl
             have hfz73_0 := blk_frozen BK370.out 0
             have hfz73_1 := blk_frozen BK370.out 1
             have hfz73_2 := blk_frozen BK370.out 2
             have hfz73_3 := blk_frozen BK370.out 3
             have hnb74 := NB332_345.out
             have hnc74 := NB345_332.out
             have hcz75_0 : w63.cell? ⟨gb332, 0, none⟩ = some (.int .i64 t323) := (blk_cell BK332.out 0).trans rfl
             have hcz75_1 : w63.cell? ⟨gb332, 1, none⟩ = some (.int .i64 t324) := (blk_cell BK332.out 1).trans rfl
             have hcz75_2 : w63.cell? ⟨gb332, 2, none⟩ = some (.slice Ao15 t325.length co15) := (blk_cell BK332.out 2).trans rfl
             have hcz75_3 : w63.cell? ⟨gb332, 3, none⟩ = some (.slice Ao16 t328.length co16) := (blk_cell BK332.out 3).trans rfl
             have hfz75_0 := blk_frozen BK332.out 0
             have hfz75_1 := blk_frozen BK332.out 1
             have hfz75_2 := blk_frozen BK332.out 2
             have hfz75_3 := blk_frozen BK332.out 3
             go_wp2_with (first | ((with_reducible refine gate_callee (f := 14) rfl ?_); refine goesL_ (some 88) rfl rfl Tryd.func14 (by kernel_rfl) rfl #[.agg #[.int .i64 t361, .int .i64 t362, .slice Ao67 t363.length co67, .slice Ao68 t366.length co68], .agg #[.int .i64 t323, .int .i64 t324, .slice Ao15 t325.length co15, .slice Ao16 t328.length co16]] rfl (by (try simp only [List.map_toArray, List.map_cons, List.map_nil]); first | done | rfl | (simp only [List.length_drop, List.length_take]; rfl)) ?_; (with_reducible refine (laws_eqFigure.calls kj35 t361 t362 _ _ t363 _ _ t366 t323 t324 _ _ t325 _ _ t328 true _ ?side1 ?side2 ?side3 ?side4 ?side5 ?side6 ?side7 ?side8 A69.out).mono ?_); (case side1 => refine (Kd.R_reads' (e := 3) (base := w.heap.size) (ok := fun k_ => (((((some k_ ≠ (.slice Ao68 t366.length co68 : Value).ownBlock ∧ some k_ ≠ (.slice Ao15 t325.length co15 : Value).ownBlock) ∧ some k_ ≠ (.slice Ao16 t328.length co16 : Value).ownBlock) ∧ some k_ ≠ (.slice Ao23 t338.length co23 : Value).ownBlock) ∧ some k_ ≠ (.slice Ao24 t341.length co24 : Value).ownBlock) ∧ some k_ ≠ (.slice Ao61 t358.length co61 : Value).ownBlock)) (n := t363.length) (c := co67) ?_).2.2; exact (by (with_reducible repeat (first | apply Kd.R_alloc | apply Kd.R_drewN | apply Kd.R_drew)); exact (Kd.R_mono (Kd.R_far (p := ⟨gb370, 3, none⟩) (Kd.R_far (p := ⟨gb370, 2, none⟩) (Kd.R_far (p := ⟨gb370, 1, none⟩) (Kd.R_far (p := ⟨gb370, 0, none⟩) (Kd.R_types HO365.out BK370.out (by decide)) (fun _ hk => hk.2) (.int .i64 t361)) (fun _ hk => hk.2) (.int .i64 t362)) (fun _ hk => hk.2) (.slice Ao67 t363.length co67)) (fun _ hk => hk.2) (.slice Ao68 t366.length co68)) (fun _ h_ => h_.1)))); (case side2 => exact (Kd.R_reads' HO365.out).2.1); (case side3 => refine (Kd.R_reads' (e := 3) (base := w.heap.size) (ok := fun k_ => (((((some k_ ≠ (.slice Ao67 t363.length co67 : Value).ownBlock ∧ some k_ ≠ (.slice Ao15 t325.length co15 : Value).ownBlock) ∧ some k_ ≠ (.slice Ao16 t328.length co16 : Value).ownBlock) ∧ some k_ ≠ (.slice Ao23 t338.length co23 : Value).ownBlock) ∧ some k_ ≠ (.slice Ao24 t341.length co24 : Value).ownBlock) ∧ some k_ ≠ (.slice Ao61 t358.length co61 : Value).ownBlock)) (n := t366.length) (c := co68) ?_).2.2; exact (by (with_reducible repeat (first | apply Kd.R_alloc | apply Kd.R_drewN | apply Kd.R_drew)); exact (Kd.R_mono (Kd.R_far (p := ⟨gb370, 3, none⟩) (Kd.R_far (p := ⟨gb370, 2, none⟩) (Kd.R_far (p := ⟨gb370, 1, none⟩) (Kd.R_far (p := ⟨gb370, 0, none⟩) (Kd.R_types HO368.out BK370.out (by decide)) (fun _ hk => hk.2) (.int .i64 t361)) (fun _ hk => hk.2) (.int .i64 t362)) (fun _ hk => hk.2) (.slice Ao67 t363.length co67)) (fun _ hk => hk.2) (.slice Ao68 t366.length co68)) (fun _ h_ => h_.1)))); (case side4 => exact (Kd.R_reads' HO368.out).2.1); (case side5 => refine (Kd.R_reads' (e := 3) (base := w.heap.size) (ok := fun k_ => ((((some k_ ≠ (.slice Ao16 t328.length co16 : Value).ownBlock ∧ (some k_ ≠ (.slice Ao23 t338.length co23 : Value).ownBlock ∧ some k_ ≠ (.slice Ao24 t341.length co24 : Value).ownBlock)) ∧ some k_ ≠ (.slice Ao61 t358.length co61 : Value).ownBlock) ∧ some k_ ≠ (.slice Ao67 t363.length co67 : Value).ownBlock) ∧ some k_ ≠ (.slice Ao68 t366.length co68 : Value).ownBlock)) (n := t325.length) (c := co15) ?_).2.2; exact (by (with_reducible repeat (first | apply Kd.R_alloc | apply Kd.R_drewN | apply Kd.R_drew)); exact (Kd.R_mono (Kd.R_far (p := ⟨gb370, 3, none⟩) (Kd.R_far (p := ⟨gb370, 2, none⟩) (Kd.R_far (p := ⟨gb370, 1, none⟩) (Kd.R_far (p := ⟨gb370, 0, none⟩) (Kd.R_types HO_333002.out BK370.out (by decide)) (fun _ hk => hk.2) (.int .i64 t361)) (fun _ hk => hk.2) (.int .i64 t362)) (fun _ hk => hk.2) (.slice Ao67 t363.length co67)) (fun _ hk => hk.2) (.slice Ao68 t366.length co68)) (fun _ h_ => h_.1)))); (case side6 => exact (Kd.R_reads' HO_333002.out).2.1); (case side7 => refine (Kd.R_reads' (e := 3) (base := w.heap.size) (ok := fun k_ => ((((some k_ ≠ (.slice Ao15 t325.length co15 : Value).ownBlock ∧ (some k_ ≠ (.slice Ao23 t338.length co23 : Value).ownBlock ∧ some k_ ≠ (.slice Ao24 t341.length co24 : Value).ownBlock)) ∧ some k_ ≠ (.slice Ao61 t358.length co61 : Value).ownBlock) ∧ some k_ ≠ (.slice Ao67 t363.length co67 : Value).ownBlock) ∧ some k_ ≠ (.slice Ao68 t366.length co68 : Value).ownBlock)) (n := t328.length) (c := co16) ?_).2.2; exact (by (with_reducible repeat (first | apply Kd.R_alloc | apply Kd.R_drewN | apply Kd.R_drew)); exact (Kd.R_mono (Kd.R_far (p := ⟨gb370, 3, none⟩) (Kd.R_far (p := ⟨gb370, 2, none⟩) (Kd.R_far (p := ⟨gb370, 1, none⟩) (Kd.R_far (p := ⟨gb370, 0, none⟩) (Kd.R_types HO_333003.out BK370.out (by decide)) (fun _ hk => hk.2) (.int .i64 t361)) (fun _ hk => hk.2) (.int .i64 t362)) (fun _ hk => hk.2) (.slice Ao67 t363.length co67)) (fun _ hk => hk.2) (.slice Ao68 t366.length co68)) (fun _ h_ => h_.1)))); (case side8 => exact (Kd.R_reads' HO_333003.out).2.1); rintro e w76 ⟨rfl, hb⟩; refine ⟨_, rfl, ?_⟩; have n0_ := Aside0.mk (Kd.R_below (by (with_reducible repeat (first | apply Kd.R_alloc | apply Kd.R_drewN | apply Kd.R_drew)); exact (Kd.R_mono (Kd.R_far (p := ⟨gb370, 3, none⟩) (Kd.R_far (p := ⟨gb370, 2, none⟩) (Kd.R_far (p := ⟨gb370, 1, none⟩) (Kd.R_far (p := ⟨gb370, 0, none⟩) (Kd.R_types HO_333002.out BK370.out (by decide)) (fun _ hk => hk.2) (.int .i64 t361)) (fun _ hk => hk.2) (.int .i64 t362)) (fun _ hk => hk.2) (.slice Ao67 t363.length co67)) (fun _ hk => hk.2) (.slice Ao68 t366.length co68)) (fun _ h_ => h_.1))) hb); have n1_ := Aside0.mk (Kd.R_below (by (with_reducible repeat (first | apply Kd.R_alloc | apply Kd.R_drewN | apply Kd.R_drew)); exact (Kd.R_mono (Kd.R_far (p := ⟨gb370, 3, none⟩) (Kd.R_far (p := ⟨gb370, 2, none⟩) (Kd.R_far (p := ⟨gb370, 1, none⟩) (Kd.R_far (p := ⟨gb370, 0, none⟩) (Kd.R_types HO_333003.out BK370.out (by decide)) (fun _ hk => hk.2) (.int .i64 t361)) (fun _ hk => hk.2) (.int .i64 t362)) (fun _ hk => hk.2) (.slice Ao67 t363.length co67)) (fun _ hk => hk.2) (.slice Ao68 t366.length co68)) (fun _ h_ => h_.1))) hb); have n2_ := Aside0.mk (Kd.R_below (by (with_reducible repeat (first | apply Kd.R_alloc | apply Kd.R_drewN | apply Kd.R_drew)); exact (Kd.R_mono (Kd.R_far (p := ⟨gb370, 3, none⟩) (Kd.R_far (p := ⟨gb370, 2, none⟩) (Kd.R_far (p := ⟨gb370, 1, none⟩) (Kd.R_far (p := ⟨gb370, 0, none⟩) (Kd.R_types HO_346002.out BK370.out (by decide)) (fun _ hk => hk.2) (.int .i64 t361)) (fun _ hk => hk.2) (.int .i64 t362)) (fun _ hk => hk.2) (.slice Ao67 t363.length co67)) (fun _ hk => hk.2) (.slice Ao68 t366.length co68)) (fun _ h_ => h_.1))) hb); have n3_ := Aside0.mk (Kd.R_below (by (with_reducible repeat (first | apply Kd.R_alloc | apply Kd.R_drewN | apply Kd.R_drew)); exact (Kd.R_mono (Kd.R_far (p := ⟨gb370, 3, none⟩) (Kd.R_far (p := ⟨gb370, 2, none⟩) (Kd.R_far (p := ⟨gb370, 1, none⟩) (Kd.R_far (p := ⟨gb370, 0, none⟩) (Kd.R_types HO_346003.out BK370.out (by decide)) (fun _ hk => hk.2) (.int .i64 t361)) (fun _ hk => hk.2) (.int .i64 t362)) (fun _ hk => hk.2) (.slice Ao67 t363.length co67)) (fun _ hk => hk.2) (.slice Ao68 t366.length co68)) (fun _ h_ => h_.1))) hb); have n4_ := Aside0.mk (Kd.PB_below (by (with_reducible repeat (first | apply Kd.PB_alloc | apply Kd.PB_drewN | apply Kd.PB_drew)); exact (Kd.PB_mono (Kd.PB_far (p := ⟨gb370, 3, none⟩) (Kd.PB_far (p := ⟨gb370, 2, none⟩) (Kd.PB_far (p := ⟨gb370, 1, none⟩) (Kd.PB_far (p := ⟨gb370, 0, none⟩) (Kd.PB_types HO360.out BK370.out (by decide)) (fun _ hk => hk.2) (.int .i64 t361)) (fun _ hk => hk.2) (.int .i64 t362)) (fun _ hk => hk.2) (.slice Ao67 t363.length co67)) (fun _ hk => hk.2) (.slice Ao68 t366.length co68)) (fun _ h_ => h_.1))) hb); have n5_ := Aside0.mk (Kd.R_below (by (with_reducible repeat (first | apply Kd.R_alloc | apply Kd.R_drewN | apply Kd.R_drew)); exact (Kd.R_mono (Kd.R_far (p := ⟨gb370, 3, none⟩) (Kd.R_far (p := ⟨gb370, 2, none⟩) (Kd.R_far (p := ⟨gb370, 1, none⟩) (Kd.R_far (p := ⟨gb370, 0, none⟩) (Kd.R_types HO365.out BK370.out (by decide)) (fun _ hk => hk.2) (.int .i64 t361)) (fun _ hk => hk.2) (.int .i64 t362)) (fun _ hk => hk.2) (.slice Ao67 t363.length co67)) (fun _ hk => hk.2) (.slice Ao68 t366.length co68)) (fun _ h_ => h_.1))) hb); have n6_ := Aside0.mk (Kd.R_below (by (with_reducible repeat (first | apply Kd.R_alloc | apply Kd.R_drewN | apply Kd.R_drew)); exact (Kd.R_mono (Kd.R_far (p := ⟨gb370, 3, none⟩) (Kd.R_far (p := ⟨gb370, 2, none⟩) (Kd.R_far (p := ⟨gb370, 1, none⟩) (Kd.R_far (p := ⟨gb370, 0, none⟩) (Kd.R_types HO368.out BK370.out (by decide)) (fun _ hk => hk.2) (.int .i64 t361)) (fun _ hk => hk.2) (.int .i64 t362)) (fun _ hk => hk.2) (.slice Ao67 t363.length co67)) (fun _ hk => hk.2) (.slice Ao68 t366.length co68)) (fun _ h_ => h_.1))) hb); have n7_ := Aside0.mk (blk_below (g := gb332) (o := .cells #[.int .i64 t323, .int .i64 t324, .slice Ao15 t325.length co15, .slice Ao16 t328.length co16] 26 (0, 0)) (by (with_reducible repeat (first | refine blk_drewN ?_ _ | refine blk_drew ?_ | refine blk_alloc ?_ _)); refine blk_far ?_ NB332_370.out _; (with_reducible repeat (first | refine blk_drewN ?_ _ | refine blk_drew ?_ | refine blk_alloc ?_ _)); refine blk_far ?_ NB332_370.out _; (with_reducible repeat (first | refine blk_drewN ?_ _ | refine blk_drew ?_ | refine blk_alloc ?_ _)); refine blk_far ?_ NB332_370.out _; (with_reducible repeat (first | refine blk_drewN ?_ _ | refine blk_drew ?_ | refine blk_alloc ?_ _)); refine blk_far ?_ NB332_370.out _; (with_reducible repeat (first | refine blk_drewN ?_ _ | refine blk_drew ?_ | refine blk_alloc ?_ _)); exact BK332.out) hb); have n8_ := Aside0.mk (blk_below (g := gb345) (o := .cells #[.int .i64 t336, .int .i64 t337, .slice Ao23 t338.length co23, .slice Ao24 t341.length co24] 26 (0, 0)) (by (with_reducible repeat (first | refine blk_drewN ?_ _ | refine blk_drew ?_ | refine blk_alloc ?_ _)); refine blk_far ?_ NB345_370.out _; (with_reducible repeat (first | refine blk_drewN ?_ _ | refine blk_drew ?_ | refine blk_alloc ?_ _)); refine blk_far ?_ NB345_370.out _; (with_reducible repeat (first | refine blk_drewN ?_ _ | refine blk_drew ?_ | refine blk_alloc ?_ _)); refine blk_far ?_ NB345_370.out _; (with_reducible repeat (first | refine blk_drewN ?_ _ | refine blk_drew ?_ | refine blk_alloc ?_ _)); refine blk_far ?_ NB345_370.out _; (with_reducible repeat (first | refine blk_drewN ?_ _ | refine blk_drew ?_ | refine blk_alloc ?_ _)); exact BK345.out) hb); have n9_ := Aside0.mk (blk_below (g := gb370) (o := .cells #[.int .i64 t361, .int .i64 t362, .slice Ao67 t363.length co67, .slice Ao68 t366.length co68] 26 (0, 0)) (by (with_reducible repeat (first | refine blk_drewN ?_ _ | refine blk_drew ?_ | refine blk_alloc ?_ _)); refine blk_put (cs := #[.int .i64 t361, .int .i64 t362, .slice Ao67 t363.length co67, .slice none 0 0]) ?_ 3 _ rfl; (with_reducible repeat (first | refine blk_drewN ?_ _ | refine blk_drew ?_ | refine blk_alloc ?_ _)); refine blk_put (cs := #[.int .i64 t361, .int .i64 t362, .slice none 0 0, .slice none 0 0]) ?_ 2 _ rfl; (with_reducible repeat (first | refine blk_drewN ?_ _ | refine blk_drew ?_ | refine blk_alloc ?_ _)); refine blk_put (cs := #[.int .i64 t361, .int .i64 0, .slice none 0 0, .slice none 0 0]) ?_ 1 _ rfl; (with_reducible repeat (first | refine blk_drewN ?_ _ | refine blk_drew ?_ | refine blk_alloc ?_ _)); refine blk_put (cs := #[.int .i64 0, .int .i64 0, .slice none 0 0, .slice none 0 0]) ?_ 0 _ rfl; (with_reducible repeat (first | refine blk_drewN ?_ _ | refine blk_drew ?_ | refine blk_alloc ?_ _)); exact BK370.out) hb); have n10_ := Aside0.mk (below_step (by repeat (first | (with_reducible first | exact HB.out | apply below_alloc | apply pw_below_drewN | apply below_drew1 | refine below_set ?_ GE332.out | refine below_set ?_ GE345.out | refine below_set ?_ GE370.out) | exact HB.out)) hb); clear HO_333002; clear HO_333003; clear HO_346002; clear HO_346003; clear HO360; clear HO365; clear HO368; clear BK332; clear BK345; clear BK370; clear HB; have HO_333002 := n0_; have HO_333003 := n1_; have HO_346002 := n2_; have HO_346003 := n3_; have HO360 := n4_; have HO365 := n5_; have HO368 := n6_; have BK332 := n7_; have BK345 := n8_; have BK370 := n9_; have HB := n10_; clear n0_ n1_ n2_ n3_ n4_ n5_ n6_ n7_ n8_ n9_ n10_; (try clear hb); (try clear hb2); (try clear hk); (try clear hi)))
             go_meet
             case rel => exact ⟨_, ((t369 != t331)), (by first | rfl | (simp; done) | (simp [*]; done)), H', ⟨by have := HJ8.out; have := HJ35.out; first | omega | exact Nat.le_refl _⟩, ⟨by (with_reducible repeat (first | apply Kd.R_alloc | apply Kd.R_drewN | apply Kd.R_drew)); exact Kd.R_mono HO_333002.out (fun _ hk => ⟨hk.1.1.1.1, ⟨hk.1.1.1.2.1, ⟨hk.1.1.1.2.2, ⟨hk.1.2, hk.2⟩⟩⟩⟩)⟩, ⟨by (with_reducible repeat (first | apply Kd.R_alloc | apply Kd.R_drewN | apply Kd.R_drew)); exact Kd.R_mono HO_333003.out (fun _ hk => ⟨hk.1.1.1.1, ⟨hk.1.1.1.2.1, ⟨hk.1.1.1.2.2, ⟨hk.1.2, hk.2⟩⟩⟩⟩)⟩, ⟨by (with_reducible repeat (first | apply Kd.R_alloc | apply Kd.R_drewN | apply Kd.R_drew)); exact Kd.R_mono HO_346002.out (fun _ hk => ⟨hk.1.1.1.1, ⟨hk.1.1.1.2.1, ⟨hk.1.1.1.2.2, ⟨hk.1.2, hk.2⟩⟩⟩⟩)⟩, ⟨by (with_reducible repeat (first | apply Kd.R_alloc | apply Kd.R_drewN | apply Kd.R_drew)); exact Kd.R_mono HO_346003.out (fun _ hk => ⟨hk.1.1.1.1, ⟨hk.1.1.1.2.1, ⟨hk.1.1.1.2.2, ⟨hk.1.2, hk.2⟩⟩⟩⟩)⟩, ⟨by (with_reducible repeat (first | apply Kd.R_alloc | apply Kd.R_drewN | apply Kd.R_drew)); exact Kd.R_mono HO365.out (fun _ hk => ⟨hk.1.1.1.1.2, ⟨hk.1.1.1.2, ⟨hk.1.1.2, ⟨hk.1.2, hk.1.1.1.1.1⟩⟩⟩⟩)⟩, ⟨by (with_reducible repeat (first | apply Kd.R_alloc | apply Kd.R_drewN | apply Kd.R_drew)); exact Kd.R_mono HO368.out (fun _ hk => ⟨hk.1.1.1.1.2, ⟨hk.1.1.1.2, ⟨hk.1.1.2, ⟨hk.1.2, hk.1.1.1.1.1⟩⟩⟩⟩)⟩, ⟨by (with_reducible repeat (first | refine blk_drewN ?_ _ | refine blk_drew ?_ | refine blk_alloc ?_ _)); exact BK332.out⟩, ⟨by (with_reducible repeat (first | refine blk_drewN ?_ _ | refine blk_drew ?_ | refine blk_alloc ?_ _)); exact BK345.out⟩, ⟨by (with_reducible repeat (first | refine blk_drewN ?_ _ | refine blk_drew ?_ | refine blk_alloc ?_ _)); exact BK370.out⟩, ⟨by repeat (first | (with_reducible first | exact HB.out | apply below_alloc | apply pw_below_drewN | apply below_drew1 | refine below_set ?_ GE332.out | refine below_set ?_ GE345.out | refine below_set ?_ GE370.out) | exact HB.out)⟩⟩
            ·replace c70 := Bool.eq_false_iff.mpr c70
             subst c70
             have H1 : (laws_FnExactBorderOf.j2 kj35 t354 true t336 t337 t355 t356) = some r := by rw [if_neg (show ¬ (false = true) by decide)] at H; exact H
             clear H
             have H := H1
             clear H1
             exact absurd HR_.out (by cases kj35 <;> simp [laws_FnExactBorderOf.j2] at H <;> first | simp [← H] | simp [H] | simp_all)
           case rest =>
            clear HC54
            try clear c1
            try clear c2
            try clear p2
            try clear c3
            try clear c4
            try clear c4b0
            try clear c4b1
            try clear c5
            try clear c6
            try clear c7
            try clear c14
            try clear c16
            try clear c17
            try clear c21
            try clear c22
            try clear c23
            try clear c24
            try clear c25
            try clear c26
            try clear c27
            try clear c31
            try clear c34
            try clear c40
            try clear c40b0
            try clear c42
            try clear c43
            try clear c47
            try clear c50
            try clear c50b0
            try clear c51
            try clear c51b0
            try clear c51b1
            try clear c55
            try clear c64
            try clear c65
            try clear c70
            try clear c71
            try clear c72
            try clear c74
            try clear hcz14_0
            try clear hcz14_1
            try clear hcz14_2
            try clear hcz14_3
            try clear hcz22_0
            try clear hcz22_1
            try clear hcz22_2
            try clear hcz22_3
            try clear hcz28_0
            try clear hcz28_1
            try clear hcz28_2
            try clear hcz28_3
            try clear hcz29_0
            try clear hcz29_1
            try clear hcz29_2
            try clear hcz29_3
            try clear hcz44_0
            try clear hcz44_1
            try clear hcz44_2
            try clear hcz44_3
            try clear hcz45_0
            try clear hcz45_1
            try clear hcz45_2
            try clear hcz45_3
            try clear hcz56_0
            try clear hcz56_1
            try clear hcz56_2
            try clear hcz56_3
            try clear hcz58_0
            try clear hcz58_1
            try clear hcz58_2
            try clear hcz58_3
            try clear hcz66_0
            try clear hcz66_1
            try clear hcz66_2
            try clear hcz66_3
            try clear hcz73_0
            try clear hcz73_1
            try clear hcz73_2
            try clear hcz73_3
            try clear hcz75_0
            try clear hcz75_1
            try clear hcz75_2
            try clear hcz75_3
            try clear hfz14_0
            try clear hfz14_1
            try clear hfz14_2
            try clear hfz14_3
            try clear hfz22_0
            try clear hfz22_1
            try clear hfz22_2
            try clear hfz22_3
            try clear hfz28_0
            try clear hfz28_1
            try clear hfz28_2
            try clear hfz28_3
            try clear hfz29_0
            try clear hfz29_1
            try clear hfz29_2
            try clear hfz29_3
            try clear hfz44_0
            try clear hfz44_1
            try clear hfz44_2
            try clear hfz44_3
            try clear hfz45_0
            try clear hfz45_1
            try clear hfz45_2
            try clear hfz45_3
            try clear hfz56_0
            try clear hfz56_1
            try clear hfz56_2
            try clear hfz56_3
            try clear hfz58_0
            try clear hfz58_1
            try clear hfz58_2
            try clear hfz58_3
            try clear hfz66_0
            try clear hfz66_1
            try clear hfz66_2
            try clear hfz66_3
            try clear hfz73_0
            try clear hfz73_1
            try clear hfz73_2
            try clear hfz73_3
            try clear hfz75_0
            try clear hfz75_1
            try clear hfz75_2
            try clear hfz75_3
            try clear p2
            obtain ⟨kq, x94_53, rfl, HA, HJ53, HO_333002, HO_333003, HO_346002, HO_346003, HO_371002, HO_371003, BK332, BK345, BK370, HB⟩ := hcut
            have hl346002_53 := (Kd.R_reads' HO_346002.out).1
            rw [hl346002_53] at HO_346002
            (try simp only [hl346002_53])
            (try simp only [hl346002_53] at BK332)
            (try simp only [hl346002_53] at BK345)
            (try simp only [hl346002_53] at BK370)
            (try simp only [hl346002_53] at HO_333002)
            (try simp only [hl346002_53] at HO_333003)
            (try simp only [hl346002_53] at HO_346003)
            (try simp only [hl346002_53] at HO_371002)
            (try simp only [hl346002_53] at HO_371003)
            have hl346003_53 := (Kd.R_reads' HO_346003.out).1
            rw [hl346003_53] at HO_346003
            (try simp only [hl346003_53])
            (try simp only [hl346003_53] at BK332)
            (try simp only [hl346003_53] at BK345)
            (try simp only [hl346003_53] at BK370)
            (try simp only [hl346003_53] at HO_333002)
            (try simp only [hl346003_53] at HO_333003)
            (try simp only [hl346003_53] at HO_346002)
            (try simp only [hl346003_53] at HO_371002)
            (try simp only [hl346003_53] at HO_371003)
            cases kq with
            | zero => exact absurd HA.out (by simp [laws_FnExactBorderOf.j2])
            | succ kj53 =>
             have H := HA.out
             clear HA
             simp only [laws_FnExactBorderOf.j2] at H
             by_cases c77 : x94_53 = true
             ·subst c77
              have H1 : (some false) = some r := by rw [if_pos rfl] at H; exact H
              clear H
              have H := H1
              clear H1
              exact absurd ((Option.some.inj H).trans HR_.out) Bool.false_ne_true
             ·replace c77 := Bool.eq_false_iff.mpr c77
              subst c77
              have H1 : ((laws_heldFigure.f kj53 t336 t337 t355 t356 101).bind fun t372 => (if t372 < 0 then (some false) else (if t372 = t354 then (some true) else (some false)))) = some r := by rw [if_neg (show ¬ (false = true) by decide)] at H; exact H
              clear H
              have H := H1
              clear H1
              replace H := Option.bind_eq_some_iff.mp H
              obtain ⟨t372, A780, H⟩ := H
              replace H : (if t372 < 0 then (some false) else (if t372 = t354 then (some true) else (some false))) = some r := H
              have A78 := Aside0.mk A780
              clear A780
              by_cases c79 : t372 < 0
              ·rw [if_pos c79] at H
               have c79b0 : decide (t372 < 0) = true := decide_eq_true c79
               clear c79
               exact absurd ((Option.some.inj H).trans HR_.out) Bool.false_ne_true
              ·rw [if_neg c79] at H
               have c79b0 : decide (t372 < 0) = false := decide_eq_false c79
               clear c79
               by_cases c80 : t372 = t354
               ·rw [if_pos c80] at H
                have c80b0 : (t372 == t354) = true := beq_iff_eq.mpr c80
                have c80b1 : (t372 != t354) = false := bne_eq_false_iff_eq.mpr c80
                clear c80
                obtain rfl := Option.some.inj H
                have hnb81 := NB345_332.out
                have hnc81 := NB332_345.out
                have hnb82 := NB345_370.out
                have hnc82 := NB370_345.out
                have hcz83_0 : wc.cell? ⟨gb345, 0, none⟩ = some (.int .i64 t336) := (blk_cell BK345.out 0).trans rfl
                have hcz83_1 : wc.cell? ⟨gb345, 1, none⟩ = some (.int .i64 t337) := (blk_cell BK345.out 1).trans rfl
                have hcz83_2 : wc.cell? ⟨gb345, 2, none⟩ = some (.slice Ao23 t355.length co23) := (blk_cell BK345.out 2).trans rfl
                have hcz83_3 : wc.cell? ⟨gb345, 3, none⟩ = some (.slice Ao24 t356.length co24) := (blk_cell BK345.out 3).trans rfl
                have hfz83_0 := blk_frozen BK345.out 0
                have hfz83_1 := blk_frozen BK345.out 1
                have hfz83_2 := blk_frozen BK345.out 2
                have hfz83_3 := blk_frozen BK345.out 3
                go_wp2_with (first | ((with_reducible refine gate_callee (f := 17) rfl ?_); refine goesL_ (some 97) rfl rfl Tryd.func17 (by kernel_rfl) rfl #[.agg #[.int .i64 t336, .int .i64 t337, .slice Ao23 t355.length co23, .slice Ao24 t356.length co24], .int .i64 101] rfl (by (try simp only [List.map_toArray, List.map_cons, List.map_nil]); first | done | rfl | (simp only [List.length_drop, List.length_take]; rfl)) ?_; (with_reducible refine (laws_heldFigure.calls kj53 t336 t337 _ _ t355 _ _ t356 101 t372 _ ?side1 ?side2 ?side3 ?side4 A78.out).mono ?_); (case side1 => repeat (first | exact (Kd.R_reads' HO_346002.out).2.2 | (with_reducible refine Kd.C_alloc ?_ _) | (with_reducible refine Kd.C_drewN ?_ _) | (with_reducible refine Kd.C_drew ?_))); (case side2 => exact (Kd.R_reads' HO_346002.out).2.1); (case side3 => repeat (first | exact (Kd.R_reads' HO_346003.out).2.2 | (with_reducible refine Kd.C_alloc ?_ _) | (with_reducible refine Kd.C_drewN ?_ _) | (with_reducible refine Kd.C_drew ?_))); (case side4 => exact (Kd.R_reads' HO_346003.out).2.1); rintro e w84 ⟨rfl, hb⟩; refine ⟨_, rfl, ?_⟩; have n0_ := Aside0.mk (Kd.R_below (by (with_reducible repeat (first | apply Kd.R_alloc | apply Kd.R_drewN | apply Kd.R_drew)); exact HO_333002.out) hb); have n1_ := Aside0.mk (Kd.R_below (by (with_reducible repeat (first | apply Kd.R_alloc | apply Kd.R_drewN | apply Kd.R_drew)); exact HO_333003.out) hb); have n2_ := Aside0.mk (Kd.R_below (by (with_reducible repeat (first | apply Kd.R_alloc | apply Kd.R_drewN | apply Kd.R_drew)); exact HO_346002.out) hb); have n3_ := Aside0.mk (Kd.R_below (by (with_reducible repeat (first | apply Kd.R_alloc | apply Kd.R_drewN | apply Kd.R_drew)); exact HO_346003.out) hb); have n4_ := Aside0.mk (Kd.R_below (by (with_reducible repeat (first | apply Kd.R_alloc | apply Kd.R_drewN | apply Kd.R_drew)); exact HO_371002.out) hb); have n5_ := Aside0.mk (Kd.R_below (by (with_reducible repeat (first | apply Kd.R_alloc | apply Kd.R_drewN | apply Kd.R_drew)); exact HO_371003.out) hb); have n6_ := Aside0.mk (blk_below (g := gb332) (o := .cells #[.int .i64 t323, .int .i64 t324, .slice Ao15 t325.length co15, .slice Ao16 t328.length co16] 26 (0, 0)) (by (with_reducible repeat (first | refine blk_drewN ?_ _ | refine blk_drew ?_ | refine blk_alloc ?_ _)); exact BK332.out) hb); have n7_ := Aside0.mk (blk_below (g := gb345) (o := .cells #[.int .i64 t336, .int .i64 t337, .slice Ao23 t355.length co23, .slice Ao24 t356.length co24] 26 (0, 0)) (by (with_reducible repeat (first | refine blk_drewN ?_ _ | refine blk_drew ?_ | refine blk_alloc ?_ _)); exact BK345.out) hb); have n8_ := Aside0.mk (blk_below (g := gb370) (o := .cells #[.int .i64 t361, .int .i64 t362, .slice Ao67 t363.length co67, .slice Ao68 t366.length co68] 26 (0, 0)) (by (with_reducible repeat (first | refine blk_drewN ?_ _ | refine blk_drew ?_ | refine blk_alloc ?_ _)); exact BK370.out) hb); have n9_ := Aside0.mk (below_step (by repeat (first | (with_reducible first | exact HB.out | apply below_alloc | apply pw_below_drewN | apply below_drew1 | refine below_set ?_ GE332.out | refine below_set ?_ GE345.out | refine below_set ?_ GE370.out) | exact HB.out)) hb); clear HO_333002; clear HO_333003; clear HO_346002; clear HO_346003; clear HO_371002; clear HO_371003; clear BK332; clear BK345; clear BK370; clear HB; have HO_333002 := n0_; have HO_333003 := n1_; have HO_346002 := n2_; have HO_346003 := n3_; have HO_371002 := n4_; have HO_371003 := n5_; have BK332 := n6_; have BK345 := n7_; have BK370 := n8_; have HB := n9_; clear n0_ n1_ n2_ n3_ n4_ n5_ n6_ n7_ n8_ n9_; (try clear hb); (try clear hb2); (try clear hk); (try clear hi)))
                go_ret
                exact ⟨by first | rfl | (simp [errW_none, errW_some] <;> rfl) | (simp [*, errW_none, errW_some] <;> rfl), by repeat (first | (with_reducible first | exact HB.out | apply below_alloc | apply pw_below_drewN | apply below_drew1 | refine below_set ?_ GE332.out | refine below_set ?_ GE345.out | refine below_set ?_ GE370.out) | exact HB.out)⟩
               ·rw [if_neg c80] at H
                have c80b0 : (t372 == t354) = false := beq_eq_false_iff_ne.mpr c80
                have c80b1 : (t372 != t354) = true := bne_iff_ne.mpr c80
                exact absurd ((Option.some.inj H).trans HR_.out) Bool.false_ne_true
          ·rw [if_neg c51] at H
           have c51b0 : (t357 == t354) = false := beq_eq_false_iff_ne.mpr c51
           have c51b1 : (t357 != t354) = true := bne_iff_ne.mpr c51
           exact absurd ((Option.some.inj H).trans HR_.out) Bool.false_ne_true
     ·replace c34 := Bool.eq_false_iff.mpr c34
      subst c34
      have H1 : (some false) = some r := by rw [if_neg (show ¬ (false = true) by decide)] at H; exact H
      clear H
      have H := H1
      clear H1
      exact absurd ((Option.some.inj H).trans HR_.out) Bool.false_ne_true

/-- THE ONE PURE STATEMENT of laws_FnExactBorderOf. -/
def laws_FnExactBorderOf.Pure : Prop := ∀ (a0 : Int) (a1 : Int) (l2 : List Int), (Lit.int .i64 a0).wf = true → (Lit.int .i64 a1).wf = true → l2.length ≤ maxLen → (∀ x ∈ l2, (Lit.int .i64 x).wf = true) → ∃ k, laws_FnExactBorderOf.f k a0 a1 l2 = some true

end Go.Proofs.YtmlkihaoeopobaaDoor.Q
