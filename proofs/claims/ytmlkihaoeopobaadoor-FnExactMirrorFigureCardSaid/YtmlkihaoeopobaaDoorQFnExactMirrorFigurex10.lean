-- written by a program of this session, pm.py, for this claim
import Derived.Test.YtmlkihaoeopobaaDoorQFnExactMirrorFigurex0
import Derived.Test.YtmlkihaoeopobaaDoorQFnExactMirrorFigurex1
import Derived.Test.YtmlkihaoeopobaaDoorQFnExactMirrorFigurex2
import Derived.Test.YtmlkihaoeopobaaDoorQFnExactMirrorFigurex5
import Derived.Test.YtmlkihaoeopobaaDoorQFnExactMirrorFigurex8
import Derived.Test.YtmlkihaoeopobaaDoorQFnExactMirrorFigurex9
namespace Go.Proofs.YtmlkihaoeopobaaDoor.Q
open Go.RowKit Go.Proofs.YtmlkihaoeopobaaDoorW.PrintWords Go.Proofs.YtmlkihaoeopobaaDoorW.PrintLast Go.Proofs.YtmlkihaoeopobaaDoorW.PrintMore
attribute [local go_sem] max2_int min2_int max_two min_two max_three min_three max_four min_four   -- for this text's walks alone
set_option linter.unusedVariables false
set_option linter.unusedSimpArgs false

set_option hygiene false in
local macro "zq7_1z" : tactic => `(tactic| (with_reducible repeat (first | refine blk_drewN ?_ _ | refine blk_drew ?_ | refine blk_alloc ?_ _)))
set_option hygiene false in
local macro "zq7_2z" : tactic => `(tactic| (with_reducible repeat (first | apply Kd.R_alloc | apply Kd.R_drewN | apply Kd.R_drew)))
set_option hygiene false in
local macro "zq7_3z" : tactic => `(tactic| (first | (with_reducible first | exact HB.out | apply below_alloc | apply pw_below_drewN | apply below_drew1 | refine below_set ?_ GE341.out | refine below_set ?_ GE360.out | refine below_set ?_ GE369.out | refine below_set ?_ GE379.out) | exact HB.out))
set_option hygiene false in
local macro "zq7_4z" : tactic => `(tactic| (with_reducible repeat (first | apply Kd.PB_alloc | apply Kd.PB_drewN | apply Kd.PB_drew)))
set_option hygiene false in
local macro:max "zq7_5z" : term => `((blk_below (g := gb341) (o := .cells #[.int .i64 a0_0, .int .i64 a0_1, .slice A0_2 l0_2.length c0_2, .slice A0_3 l0_3.length c0_3] 24 (0, 0)) (by (zq7_1z); exact BK341.out) hb))
set_option hygiene false in
local macro:max "zq7_6z" : term => `((by (try simp only [List.map_toArray, List.map_cons, List.map_nil]); first | done | rfl | (simp only [List.length_drop, List.length_take]; rfl)))
set_option hygiene false in
local macro "zq7_7z" : tactic => `(tactic| (first | (with_reducible first | exact HB.out | apply below_alloc | apply pw_below_drewN | apply below_drew1 | refine below_set ?_ GE341.out | refine below_set ?_ GE360.out | refine below_set ?_ GE369.out | refine below_set ?_ GE379.out | refine below_set ?_ GE415.out) | exact HB.out))
set_option hygiene false in
local macro:max "zq7_8z" : term => `((blk_below (g := gb360) (o := .cells #[.int .i64 t351, .int .i64 t352, .slice Ao23 t353.length co23, .slice Ao24 t356.length co24] 26 (0, 0)) (by (zq7_1z); exact BK360.out) hb))
set_option hygiene false in
local macro:max "zq7_9z" : term => `((blk_below (g := gb379) (o := .cells #[.int .i64 t370, .int .i64 t371, .slice Ao39 t372.length co39, .slice Ao40 t375.length co40] 26 (0, 0)) (by (zq7_1z); exact BK379.out) hb))
set_option hygiene false in
local macro "zq7_10z" : tactic => `(tactic| (first | (with_reducible first | exact HB.out | apply below_alloc | apply pw_below_drewN | apply below_drew1 | refine below_set ?_ GE341.out) | exact HB.out))
set_option hygiene false in
local macro:max "zq7_11z" : term => `((by repeat (first | (with_reducible first | exact HB.out | apply below_alloc | apply pw_below_drewN | apply below_drew1 | refine below_set ?_ GE341.out | refine below_set ?_ GE360.out | refine below_set ?_ GE369.out) | exact HB.out)))
set_option hygiene false in
local macro:max "zq7_12z" : term => `((by repeat (first | (with_reducible first | exact HB.out | apply below_alloc | apply pw_below_drewN | apply below_drew1 | refine below_set ?_ GE341.out | refine below_set ?_ GE360.out) | exact HB.out)))
set_option hygiene false in
local macro:max "zq7_13z" : term => `((blk_below (g := gb369) (o := .cells #[.int .i64 t361, .int .i64 t362, .slice Ao31 t391.length co31, .slice Ao32 t392.length co32] 26 (0, 0)) (by (zq7_1z); exact BK369.out) hb))
set_option hygiene false in
local macro:max "zq7_14z" : term => `((by (zq7_2z); exact (Kd.R_mono (Kd.R_far (p := ⟨gb415, 3, none⟩) (Kd.R_far (p := ⟨gb415, 2, none⟩) (Kd.R_far (p := ⟨gb415, 1, none⟩) (Kd.R_far (p := ⟨gb415, 0, none⟩) (Kd.R_types HO_361002.out BK415.out (by decide)) (fun _ hk => hk.2) (.int .i64 t406)) (fun _ hk => hk.2) (.int .i64 t407)) (fun _ hk => hk.2) (.slice Ao129 t408.length co129)) (fun _ hk => hk.2) (.slice Ao130 t411.length co130)) (fun _ h_ => h_.1))))
set_option hygiene false in
local macro:max "zq7_15z" : term => `((by (zq7_2z); exact (Kd.R_mono (Kd.R_far (p := ⟨gb415, 3, none⟩) (Kd.R_far (p := ⟨gb415, 2, none⟩) (Kd.R_far (p := ⟨gb415, 1, none⟩) (Kd.R_far (p := ⟨gb415, 0, none⟩) (Kd.R_types HO_361003.out BK415.out (by decide)) (fun _ hk => hk.2) (.int .i64 t406)) (fun _ hk => hk.2) (.int .i64 t407)) (fun _ hk => hk.2) (.slice Ao129 t408.length co129)) (fun _ hk => hk.2) (.slice Ao130 t411.length co130)) (fun _ h_ => h_.1))))
set_option hygiene false in
local macro:max "zq7_16z" : term => `((by (zq7_4z); exact (Kd.PB_mono (Kd.PB_far (p := ⟨gb369, 3, none⟩) (Kd.PB_far (p := ⟨gb369, 2, none⟩) (Kd.PB_far (p := ⟨gb369, 1, none⟩) (Kd.PB_far (p := ⟨gb369, 0, none⟩) (Kd.PB_types HO365.out BK369.out (by decide)) (fun _ hk => hk.2) (.int .i64 t361)) (fun _ hk => hk.2) (.int .i64 t362)) (fun _ hk => hk.2) (.slice Ao31 t363.length co31)) (fun _ hk => hk.2) (.slice Ao32 t366.length co32)) (fun _ h_ => h_.1))))
set_option hygiene false in
local macro:max "zq7_17z" : term => `((by (zq7_4z); exact (Kd.PB_mono (Kd.PB_far (p := ⟨gb369, 3, none⟩) (Kd.PB_far (p := ⟨gb369, 2, none⟩) (Kd.PB_far (p := ⟨gb369, 1, none⟩) (Kd.PB_far (p := ⟨gb369, 0, none⟩) (Kd.PB_types HO368.out BK369.out (by decide)) (fun _ hk => hk.2) (.int .i64 t361)) (fun _ hk => hk.2) (.int .i64 t362)) (fun _ hk => hk.2) (.slice Ao31 t363.length co31)) (fun _ hk => hk.2) (.slice Ao32 t366.length co32)) (fun _ h_ => h_.1))))
set_option hygiene false in
local macro:max "zq7_18z" : term => `((by (zq7_2z); exact (Kd.R_mono (Kd.R_far (p := ⟨gb415, 3, none⟩) (Kd.R_far (p := ⟨gb415, 2, none⟩) (Kd.R_far (p := ⟨gb415, 1, none⟩) (Kd.R_far (p := ⟨gb415, 0, none⟩) (Kd.R_types HO410.out BK415.out (by decide)) (fun _ hk => hk.2) (.int .i64 t406)) (fun _ hk => hk.2) (.int .i64 t407)) (fun _ hk => hk.2) (.slice Ao129 t408.length co129)) (fun _ hk => hk.2) (.slice Ao130 t411.length co130)) (fun _ h_ => h_.1))))
set_option hygiene false in
local macro:max "zq7_19z" : term => `((by (zq7_2z); exact (Kd.R_mono (Kd.R_far (p := ⟨gb415, 3, none⟩) (Kd.R_far (p := ⟨gb415, 2, none⟩) (Kd.R_far (p := ⟨gb415, 1, none⟩) (Kd.R_far (p := ⟨gb415, 0, none⟩) (Kd.R_types HO413.out BK415.out (by decide)) (fun _ hk => hk.2) (.int .i64 t406)) (fun _ hk => hk.2) (.int .i64 t407)) (fun _ hk => hk.2) (.slice Ao129 t408.length co129)) (fun _ hk => hk.2) (.slice Ao130 t411.length co130)) (fun _ h_ => h_.1))))
set_option hygiene false in
local macro:max "zq7_20z" : term => `((by (zq7_2z); exact (Kd.R_mono (Kd.R_far (p := ⟨gb379, 3, none⟩) (Kd.R_far (p := ⟨gb379, 2, none⟩) (Kd.R_far (p := ⟨gb379, 1, none⟩) (Kd.R_far (p := ⟨gb379, 0, none⟩) (Kd.R_types HO374.out BK379.out (by decide)) (fun _ hk => hk.2) (.int .i64 t370)) (fun _ hk => hk.2) (.int .i64 t371)) (fun _ hk => hk.2) (.slice Ao39 t372.length co39)) (fun _ hk => hk.2) (.slice Ao40 t375.length co40)) (fun _ h_ => h_.1))))
set_option hygiene false in
local macro:max "zq7_21z" : term => `((by (zq7_2z); exact (Kd.R_mono (Kd.R_far (p := ⟨gb379, 3, none⟩) (Kd.R_far (p := ⟨gb379, 2, none⟩) (Kd.R_far (p := ⟨gb379, 1, none⟩) (Kd.R_far (p := ⟨gb379, 0, none⟩) (Kd.R_types HO377.out BK379.out (by decide)) (fun _ hk => hk.2) (.int .i64 t370)) (fun _ hk => hk.2) (.int .i64 t371)) (fun _ hk => hk.2) (.slice Ao39 t372.length co39)) (fun _ hk => hk.2) (.slice Ao40 t375.length co40)) (fun _ h_ => h_.1))))
set_option hygiene false in
local macro:max "zq7_22z" : term => `((by (zq7_2z); exact (Kd.R_mono (Kd.R_far (p := ⟨gb379, 3, none⟩) (Kd.R_far (p := ⟨gb379, 2, none⟩) (Kd.R_far (p := ⟨gb379, 1, none⟩) (Kd.R_far (p := ⟨gb379, 0, none⟩) (Kd.R_types HO355.out BK379.out (by decide)) (fun _ hk => hk.2) (.int .i64 t370)) (fun _ hk => hk.2) (.int .i64 t371)) (fun _ hk => hk.2) (.slice Ao39 t372.length co39)) (fun _ hk => hk.2) (.slice Ao40 t375.length co40)) (fun _ h_ => h_.1))))
set_option hygiene false in
local macro:max "zq7_23z" : term => `((by (zq7_2z); exact (Kd.R_mono (Kd.R_far (p := ⟨gb379, 3, none⟩) (Kd.R_far (p := ⟨gb379, 2, none⟩) (Kd.R_far (p := ⟨gb379, 1, none⟩) (Kd.R_far (p := ⟨gb379, 0, none⟩) (Kd.R_types HO358.out BK379.out (by decide)) (fun _ hk => hk.2) (.int .i64 t370)) (fun _ hk => hk.2) (.int .i64 t371)) (fun _ hk => hk.2) (.slice Ao39 t372.length co39)) (fun _ hk => hk.2) (.slice Ao40 t375.length co40)) (fun _ h_ => h_.1))))
set_option hygiene false in
local macro:max "zq7_24z" : term => `((blk_lt (g := gb341) (o := .cells #[.int .i64 a0_0, .int .i64 a0_1, .slice A0_2 l0_2.length c0_2, .slice A0_3 l0_3.length c0_3] 24 (0, 0)) (by (zq7_1z); exact BK341.out)))
set_option hygiene false in
local macro "zq7_25z" : tactic => `(tactic| (first | exact (Kd.R_reads' HO_380002.out).2.2 | (with_reducible refine Kd.C_alloc ?_ _) | (with_reducible refine Kd.C_drewN ?_ _) | (with_reducible refine Kd.C_drew ?_)))
set_option hygiene false in
local macro "zq7_26z" : tactic => `(tactic| (first | exact (Kd.R_reads' HO_380003.out).2.2 | (with_reducible refine Kd.C_alloc ?_ _) | (with_reducible refine Kd.C_drewN ?_ _) | (with_reducible refine Kd.C_drew ?_)))
set_option hygiene false in
local macro "zq7_27z" : tactic => `(tactic| (case rel => exact ⟨_, (true), (by first | rfl | (simp; done) | (simp [*]; done)), H', ⟨by have := HJ10.out; first | omega | exact Nat.le_refl _⟩, ⟨by (zq7_2z); exact Kd.R_mono HO_361002.out (fun _ hk => ⟨hk.1, ⟨hk.2.1, ⟨hk.2.2.1, ⟨hk.2.2.2.1, hk.2.2.2.2.1⟩⟩⟩⟩)⟩, ⟨by (zq7_2z); exact Kd.R_mono HO_361003.out (fun _ hk => ⟨hk.1, ⟨hk.2.1, ⟨hk.2.2.1, ⟨hk.2.2.2.1, hk.2.2.2.2.1⟩⟩⟩⟩)⟩, ⟨by (zq7_2z); exact Kd.R_mono HO_370002.out (fun _ hk => ⟨hk.1.1.1, ⟨hk.1.1.2.1, ⟨hk.1.1.2.2.1, ⟨hk.1.1.2.2.2.1, hk.1.1.2.2.2.2⟩⟩⟩⟩)⟩, ⟨by (zq7_2z); exact Kd.R_mono HO_370003.out (fun _ hk => ⟨hk.1.1.1, ⟨hk.1.1.2.1, ⟨hk.1.1.2.2.1, ⟨hk.1.1.2.2.2.1, hk.1.1.2.2.2.2⟩⟩⟩⟩)⟩, ⟨by (zq7_2z); exact Kd.R_mono HO_380002.out (fun _ hk => ⟨hk.1, ⟨hk.2.1, ⟨hk.2.2.1, ⟨hk.2.2.2.1, hk.2.2.2.2.1⟩⟩⟩⟩)⟩, ⟨by (zq7_2z); exact Kd.R_mono HO_380003.out (fun _ hk => ⟨hk.1, ⟨hk.2.1, ⟨hk.2.2.1, ⟨hk.2.2.2.1, hk.2.2.2.2.1⟩⟩⟩⟩)⟩, ⟨by (zq7_1z); exact BK341.out⟩, ⟨by (zq7_1z); exact BK360.out⟩, ⟨by (zq7_1z); exact BK369.out⟩, ⟨by (zq7_1z); exact BK379.out⟩, ⟨by repeat (zq7_3z)⟩⟩))
set_option hygiene false in
local macro:max "zq7_28z" : term => `((blk_below (g := gb369) (o := .cells #[.int .i64 t361, .int .i64 t362, .slice Ao31 t363.length co31, .slice Ao32 t366.length co32] 26 (0, 0)) (by (zq7_1z); exact BK369.out) hb))
set_option hygiene false in
local macro "zq7_29z" : tactic => `(tactic| (refine hK.out _ _ ⟨(blk_cell BK369.out 0).trans rfl, (blk_cell BK369.out 1).trans rfl, (blk_cell BK369.out 2).trans rfl, (blk_cell BK369.out 3).trans rfl, (blk_cell BK341.out 0).trans rfl, (blk_cell BK341.out 1).trans rfl, (blk_cell BK341.out 2).trans rfl, (blk_cell BK341.out 3).trans rfl⟩ (fun hHeld => ?_)))
set_option hygiene false in
local macro "zq7_30z" : tactic => `(tactic| (refine start_ (n := 5) (S := fun w' => w'.cell? ⟨gb369, 0, none⟩ = some (.int .i64 t361) ∧ w'.cell? ⟨gb369, 1, none⟩ = some (.int .i64 t362) ∧ w'.cell? ⟨gb369, 2, none⟩ = some (.slice Ao31 t363.length co31) ∧ w'.cell? ⟨gb369, 3, none⟩ = some (.slice Ao32 t366.length co32) ∧ w'.cell? ⟨gb341, 0, none⟩ = some (.int .i64 a0_0) ∧ w'.cell? ⟨gb341, 1, none⟩ = some (.int .i64 a0_1) ∧ w'.cell? ⟨gb341, 2, none⟩ = some (.slice A0_2 l0_2.length c0_2) ∧ w'.cell? ⟨gb341, 3, none⟩ = some (.slice A0_3 l0_3.length c0_3)) (ds := []) #[false, false, false, false, false] (by kernel_rfl) rfl rfl ⟨(blk_cell BK369.out 0).trans rfl, (blk_cell BK369.out 1).trans rfl, (blk_cell BK369.out 2).trans rfl, (blk_cell BK369.out 3).trans rfl, (blk_cell BK341.out 0).trans rfl, (blk_cell BK341.out 1).trans rfl, (blk_cell BK341.out 2).trans rfl, (blk_cell BK341.out 3).trans rfl⟩ (fun hHeld => ?_)))
set_option hygiene false in
local macro:max "zq7_31z" : term => `((by (zq7_4z); exact (Kd.PB_mono (Kd.PB_far (p := ⟨gb360, 3, none⟩) (Kd.PB_far (p := ⟨gb360, 2, none⟩) (Kd.PB_far (p := ⟨gb360, 1, none⟩) (Kd.PB_far (p := ⟨gb360, 0, none⟩) (Kd.PB_types HO347.out BK360.out (by decide)) (fun _ hk => hk.2) (.int .i64 t351)) (fun _ hk => hk.2) (.int .i64 t352)) (fun _ hk => hk.2) (.slice Ao23 t353.length co23)) (fun _ hk => hk.2) (.slice Ao24 t356.length co24)) (fun _ h_ => h_.1))))
set_option hygiene false in
local macro:max "zq7_32z" : term => `((by (zq7_4z); exact (Kd.PB_mono (Kd.PB_far (p := ⟨gb360, 3, none⟩) (Kd.PB_far (p := ⟨gb360, 2, none⟩) (Kd.PB_far (p := ⟨gb360, 1, none⟩) (Kd.PB_far (p := ⟨gb360, 0, none⟩) (Kd.PB_types HO350.out BK360.out (by decide)) (fun _ hk => hk.2) (.int .i64 t351)) (fun _ hk => hk.2) (.int .i64 t352)) (fun _ hk => hk.2) (.slice Ao23 t353.length co23)) (fun _ hk => hk.2) (.slice Ao24 t356.length co24)) (fun _ h_ => h_.1))))
set_option hygiene false in
local macro:max "zq7_33z" : term => `((by (zq7_4z); exact (Kd.PB_mono (Kd.PB_far (p := ⟨gb369, 3, none⟩) (Kd.PB_far (p := ⟨gb369, 2, none⟩) (Kd.PB_far (p := ⟨gb369, 1, none⟩) (Kd.PB_far (p := ⟨gb369, 0, none⟩) (Kd.PB_types HO347.out BK369.out (by decide)) (fun _ hk => hk.2) (.int .i64 t361)) (fun _ hk => hk.2) (.int .i64 t362)) (fun _ hk => hk.2) (.slice Ao31 t363.length co31)) (fun _ hk => hk.2) (.slice Ao32 t366.length co32)) (fun _ h_ => h_.1))))
set_option hygiene false in
local macro:max "zq7_34z" : term => `((by (zq7_4z); exact (Kd.PB_mono (Kd.PB_far (p := ⟨gb369, 3, none⟩) (Kd.PB_far (p := ⟨gb369, 2, none⟩) (Kd.PB_far (p := ⟨gb369, 1, none⟩) (Kd.PB_far (p := ⟨gb369, 0, none⟩) (Kd.PB_types HO350.out BK369.out (by decide)) (fun _ hk => hk.2) (.int .i64 t361)) (fun _ hk => hk.2) (.int .i64 t362)) (fun _ hk => hk.2) (.slice Ao31 t363.length co31)) (fun _ hk => hk.2) (.slice Ao32 t366.length co32)) (fun _ h_ => h_.1))))
set_option hygiene false in
local macro "zq7_35z" : tactic => `(tactic| simp only [Act.put, List.setIfInBounds_toArray, List.set_cons_zero, List.set_cons_succ, i64_w, i32_w])
set_option hygiene false in
local macro:max "zq7_36z" : term => `((by (zq7_2z); exact (Kd.R_mono (Kd.R_far (p := ⟨gb360, 3, none⟩) (Kd.R_far (p := ⟨gb360, 2, none⟩) (Kd.R_far (p := ⟨gb360, 1, none⟩) (Kd.R_far (p := ⟨gb360, 0, none⟩) (Kd.R_types HO355.out BK360.out (by decide)) (fun _ hk => hk.2) (.int .i64 t351)) (fun _ hk => hk.2) (.int .i64 t352)) (fun _ hk => hk.2) (.slice Ao23 t353.length co23)) (fun _ hk => hk.2) (.slice Ao24 t356.length co24)) (fun _ h_ => h_.1))))
set_option hygiene false in
local macro:max "zq7_37z" : term => `((by (zq7_2z); exact (Kd.R_mono (Kd.R_far (p := ⟨gb360, 3, none⟩) (Kd.R_far (p := ⟨gb360, 2, none⟩) (Kd.R_far (p := ⟨gb360, 1, none⟩) (Kd.R_far (p := ⟨gb360, 0, none⟩) (Kd.R_types HO358.out BK360.out (by decide)) (fun _ hk => hk.2) (.int .i64 t351)) (fun _ hk => hk.2) (.int .i64 t352)) (fun _ hk => hk.2) (.slice Ao23 t353.length co23)) (fun _ hk => hk.2) (.slice Ao24 t356.length co24)) (fun _ h_ => h_.1))))
set_option hygiene false in
local macro:max "zq7_38z" : term => `((by (zq7_2z); exact (Kd.R_mono (Kd.R_far (p := ⟨gb369, 3, none⟩) (Kd.R_far (p := ⟨gb369, 2, none⟩) (Kd.R_far (p := ⟨gb369, 1, none⟩) (Kd.R_far (p := ⟨gb369, 0, none⟩) (Kd.R_types HO355.out BK369.out (by decide)) (fun _ hk => hk.2) (.int .i64 t361)) (fun _ hk => hk.2) (.int .i64 t362)) (fun _ hk => hk.2) (.slice Ao31 t363.length co31)) (fun _ hk => hk.2) (.slice Ao32 t366.length co32)) (fun _ h_ => h_.1))))
set_option hygiene false in
local macro:max "zq7_39z" : term => `((by (zq7_2z); exact (Kd.R_mono (Kd.R_far (p := ⟨gb369, 3, none⟩) (Kd.R_far (p := ⟨gb369, 2, none⟩) (Kd.R_far (p := ⟨gb369, 1, none⟩) (Kd.R_far (p := ⟨gb369, 0, none⟩) (Kd.R_types HO358.out BK369.out (by decide)) (fun _ hk => hk.2) (.int .i64 t361)) (fun _ hk => hk.2) (.int .i64 t362)) (fun _ hk => hk.2) (.slice Ao31 t363.length co31)) (fun _ hk => hk.2) (.slice Ao32 t366.length co32)) (fun _ h_ => h_.1))))
set_option hygiene false in
local macro:max "zq7_40z" : term => `((blk_lt (g := gb360) (o := .cells #[.int .i64 t351, .int .i64 t352, .slice Ao23 t353.length co23, .slice Ao24 t356.length co24] 26 (0, 0)) (by (zq7_1z); exact BK360.out)))
set_option hygiene false in
local macro "zq7_41z" : tactic => `(tactic| (first | exact (Kd.C_below HR0_2.out HB.out) | (with_reducible refine Kd.C_alloc ?_ _) | (with_reducible refine Kd.C_drewN ?_ _) | (with_reducible refine Kd.C_drew ?_)))
set_option hygiene false in
local macro "zq7_42z" : tactic => `(tactic| (first | exact (Kd.C_below HR0_3.out HB.out) | (with_reducible refine Kd.C_alloc ?_ _) | (with_reducible refine Kd.C_drewN ?_ _) | (with_reducible refine Kd.C_drew ?_)))
set_option hygiene false in
local macro:max "zq7_43z" : term => `((blk_below (g := gb415) (o := .cells #[.int .i64 t406, .int .i64 t407, .slice Ao129 t408.length co129, .slice Ao130 t411.length co130] 26 (0, 0)) (by (zq7_1z); refine blk_put (cs := #[.int .i64 t406, .int .i64 t407, .slice Ao129 t408.length co129, .slice none 0 0]) ?_ 3 _ rfl; (zq7_1z); refine blk_put (cs := #[.int .i64 t406, .int .i64 t407, .slice none 0 0, .slice none 0 0]) ?_ 2 _ rfl; (zq7_1z); refine blk_put (cs := #[.int .i64 t406, .int .i64 0, .slice none 0 0, .slice none 0 0]) ?_ 1 _ rfl; (zq7_1z); refine blk_put (cs := #[.int .i64 0, .int .i64 0, .slice none 0 0, .slice none 0 0]) ?_ 0 _ rfl; (zq7_1z); exact BK415.out) hb))
set_option hygiene false in
local macro:max "zq7_44z" : term => `((by repeat (first | (with_reducible first | exact HB.out | apply below_alloc | apply pw_below_drewN | apply below_drew1) | exact HB.out)))
set_option hygiene false in
local macro:max "zq7_45z" : term => `((blk_below (g := gb379) (o := .cells #[.int .i64 t370, .int .i64 t371, .slice Ao39 t372.length co39, .slice Ao40 t375.length co40] 26 (0, 0)) (by (zq7_1z); refine blk_put (cs := #[.int .i64 t370, .int .i64 t371, .slice Ao39 t372.length co39, .slice none 0 0]) ?_ 3 _ rfl; (zq7_1z); refine blk_put (cs := #[.int .i64 t370, .int .i64 t371, .slice none 0 0, .slice none 0 0]) ?_ 2 _ rfl; (zq7_1z); refine blk_put (cs := #[.int .i64 t370, .int .i64 0, .slice none 0 0, .slice none 0 0]) ?_ 1 _ rfl; (zq7_1z); refine blk_put (cs := #[.int .i64 0, .int .i64 0, .slice none 0 0, .slice none 0 0]) ?_ 0 _ rfl; (zq7_1z); exact BK379.out) hb))
set_option hygiene false in
local macro:max "zq7_46z" : term => `((by (try simp only [List.map_toArray, List.map_cons, List.map_nil]); first | done | (rw [show t395.length = t372.length from (Kd.R_reads' HO_380002.out).1.symm, show t396.length = t375.length from (Kd.R_reads' HO_380003.out).1.symm] <;> rfl) | rfl | (simp only [List.length_drop, List.length_take]; rfl)))
set_option hygiene false in
local macro "zq7_47z" : tactic => `(tactic| (exact ⟨by first | rfl | (simp [errW_none, errW_some] <;> rfl) | (simp [*, errW_none, errW_some] <;> rfl), by repeat (zq7_3z)⟩))
set_option hygiene false in
local macro:max "zq7_48z" : term => `((Kd.PB_below (by (zq7_4z); exact (Kd.PB_mono (Kd.PB_far (p := ⟨gb415, 3, none⟩) (Kd.PB_far (p := ⟨gb415, 2, none⟩) (Kd.PB_far (p := ⟨gb415, 1, none⟩) (Kd.PB_far (p := ⟨gb415, 0, none⟩) (Kd.PB_types HO402.out BK415.out (by decide)) (fun _ hk => hk.2) (.int .i64 t406)) (fun _ hk => hk.2) (.int .i64 t407)) (fun _ hk => hk.2) (.slice Ao129 t408.length co129)) (fun _ hk => hk.2) (.slice Ao130 t411.length co130)) (fun _ h_ => h_.1))) hb))
set_option hygiene false in
local macro:max "zq7_49z" : term => `((Kd.PB_below (by (zq7_4z); exact (Kd.PB_mono (Kd.PB_far (p := ⟨gb415, 3, none⟩) (Kd.PB_far (p := ⟨gb415, 2, none⟩) (Kd.PB_far (p := ⟨gb415, 1, none⟩) (Kd.PB_far (p := ⟨gb415, 0, none⟩) (Kd.PB_types HO405.out BK415.out (by decide)) (fun _ hk => hk.2) (.int .i64 t406)) (fun _ hk => hk.2) (.int .i64 t407)) (fun _ hk => hk.2) (.slice Ao129 t408.length co129)) (fun _ hk => hk.2) (.slice Ao130 t411.length co130)) (fun _ h_ => h_.1))) hb))
set_option hygiene false in
local macro:max "zq7_50z" : term => `((blk_kept (by (zq7_1z); exact BK341.out) hkp (fun hs_ => Or.elim hs_ (fun e_ => (fun e_ => (Kd.R_ne HO_380002.out BK341.out (by decide)) e_) e_) (fun e_ => (fun e_ => (Kd.R_ne HO_380003.out BK341.out (by decide)) e_) e_))))
set_option hygiene false in
local macro:max "zq7_51z" : term => `((blk_kept (by (zq7_1z); exact BK360.out) hkp (fun hs_ => Or.elim hs_ (fun e_ => (fun e_ => (Kd.R_ne HO_380002.out BK360.out (by decide)) e_) e_) (fun e_ => (fun e_ => (Kd.R_ne HO_380003.out BK360.out (by decide)) e_) e_))))
set_option hygiene false in
local macro:max "zq7_52z" : term => `((blk_kept (by (zq7_1z); exact BK369.out) hkp (fun hs_ => Or.elim hs_ (fun e_ => (fun e_ => (Kd.R_ne HO_380002.out BK369.out (by decide)) e_) e_) (fun e_ => (fun e_ => (Kd.R_ne HO_380003.out BK369.out (by decide)) e_) e_))))
set_option hygiene false in
local macro:max "zq7_53z" : term => `((blk_kept (by (zq7_1z); exact BK379.out) hkp (fun hs_ => Or.elim hs_ (fun e_ => (fun e_ => (Kd.R_ne HO_380002.out BK379.out (by decide)) e_) e_) (fun e_ => (fun e_ => (Kd.R_ne HO_380003.out BK379.out (by decide)) e_) e_))))
set_option hygiene false in
local macro:max "zq7_54z" : term => `((Kd.PB_below (by (zq7_4z); exact (Kd.PB_mono (Kd.PB_far (p := ⟨gb379, 3, none⟩) (Kd.PB_far (p := ⟨gb379, 2, none⟩) (Kd.PB_far (p := ⟨gb379, 1, none⟩) (Kd.PB_far (p := ⟨gb379, 0, none⟩) (Kd.PB_types HO347.out BK379.out (by decide)) (fun _ hk => hk.2) (.int .i64 t370)) (fun _ hk => hk.2) (.int .i64 t371)) (fun _ hk => hk.2) (.slice Ao39 t372.length co39)) (fun _ hk => hk.2) (.slice Ao40 t375.length co40)) (fun _ h_ => h_.1))) hb))
set_option hygiene false in
local macro:max "zq7_55z" : term => `((Kd.PB_below (by (zq7_4z); exact (Kd.PB_mono (Kd.PB_far (p := ⟨gb379, 3, none⟩) (Kd.PB_far (p := ⟨gb379, 2, none⟩) (Kd.PB_far (p := ⟨gb379, 1, none⟩) (Kd.PB_far (p := ⟨gb379, 0, none⟩) (Kd.PB_types HO350.out BK379.out (by decide)) (fun _ hk => hk.2) (.int .i64 t370)) (fun _ hk => hk.2) (.int .i64 t371)) (fun _ hk => hk.2) (.slice Ao39 t372.length co39)) (fun _ hk => hk.2) (.slice Ao40 t375.length co40)) (fun _ h_ => h_.1))) hb))
set_option hygiene false in
local macro:max "zq7_56z" : term => `((Kd.PB_below (by (zq7_4z); exact (Kd.PB_mono (Kd.PB_far (p := ⟨gb379, 3, none⟩) (Kd.PB_far (p := ⟨gb379, 2, none⟩) (Kd.PB_far (p := ⟨gb379, 1, none⟩) (Kd.PB_far (p := ⟨gb379, 0, none⟩) (Kd.PB_types HO365.out BK379.out (by decide)) (fun _ hk => hk.2) (.int .i64 t370)) (fun _ hk => hk.2) (.int .i64 t371)) (fun _ hk => hk.2) (.slice Ao39 t372.length co39)) (fun _ hk => hk.2) (.slice Ao40 t375.length co40)) (fun _ h_ => h_.1))) hb))
set_option hygiene false in
local macro:max "zq7_57z" : term => `((Kd.PB_below (by (zq7_4z); exact (Kd.PB_mono (Kd.PB_far (p := ⟨gb379, 3, none⟩) (Kd.PB_far (p := ⟨gb379, 2, none⟩) (Kd.PB_far (p := ⟨gb379, 1, none⟩) (Kd.PB_far (p := ⟨gb379, 0, none⟩) (Kd.PB_types HO368.out BK379.out (by decide)) (fun _ hk => hk.2) (.int .i64 t370)) (fun _ hk => hk.2) (.int .i64 t371)) (fun _ hk => hk.2) (.slice Ao39 t372.length co39)) (fun _ hk => hk.2) (.slice Ao40 t375.length co40)) (fun _ h_ => h_.1))) hb))
set_option hygiene false in
local macro "zq7_58z" : tactic => `(tactic| (have n6_ := Aside0.mk (Kd.PB_lower (Kd.PB_new' (Kd.PB_new' (Kd.PB_new' (Kd.PB_new' (Kd.PB_new' (Kd.PB_new' ho0 (Kd.R_lt (by (zq7_2z); exact HO_361002.out))) (Kd.R_lt (by (zq7_2z); exact HO_361003.out))) (Kd.PB_lt (by (zq7_4z); exact HO_370002.out))) (Kd.PB_lt (by (zq7_4z); exact HO_370003.out))) (Kd.R_lt (by (zq7_2z); exact HO_380002.out))) (Kd.R_lt (by (zq7_2z); exact HO_380003.out))) (below_size (by repeat (zq7_3z))))))
set_option hygiene false in
local macro "zq7_59z" : tactic => `(tactic| (have n7_ := Aside0.mk (Kd.PB_lower (Kd.PB_new' (Kd.PB_new' (Kd.PB_new' (Kd.PB_new' (Kd.PB_new' (Kd.PB_new' ho1 (Kd.R_lt (by (zq7_2z); exact HO_361002.out))) (Kd.R_lt (by (zq7_2z); exact HO_361003.out))) (Kd.PB_lt (by (zq7_4z); exact HO_370002.out))) (Kd.PB_lt (by (zq7_4z); exact HO_370003.out))) (Kd.R_lt (by (zq7_2z); exact HO_380002.out))) (Kd.R_lt (by (zq7_2z); exact HO_380003.out))) (below_size (by repeat (zq7_3z))))))
set_option hygiene false in
local macro:max "zq7_60z" : term => `((by (zq7_2z); exact (Kd.R_mono (Kd.R_far (p := ⟨gb415, 3, none⟩) (Kd.R_far (p := ⟨gb415, 2, none⟩) (Kd.R_far (p := ⟨gb415, 1, none⟩) (Kd.R_far (p := ⟨gb415, 0, none⟩) (Kd.R_types HO_370002.out BK415.out (by decide)) (fun _ hk => hk.2) (.int .i64 t406)) (fun _ hk => hk.2) (.int .i64 t407)) (fun _ hk => hk.2) (.slice Ao129 t408.length co129)) (fun _ hk => hk.2) (.slice Ao130 t411.length co130)) (fun _ h_ => h_.1))))
set_option hygiene false in
local macro:max "zq7_61z" : term => `((by (zq7_2z); exact (Kd.R_mono (Kd.R_far (p := ⟨gb415, 3, none⟩) (Kd.R_far (p := ⟨gb415, 2, none⟩) (Kd.R_far (p := ⟨gb415, 1, none⟩) (Kd.R_far (p := ⟨gb415, 0, none⟩) (Kd.R_types HO_370003.out BK415.out (by decide)) (fun _ hk => hk.2) (.int .i64 t406)) (fun _ hk => hk.2) (.int .i64 t407)) (fun _ hk => hk.2) (.slice Ao129 t408.length co129)) (fun _ hk => hk.2) (.slice Ao130 t411.length co130)) (fun _ h_ => h_.1))))
set_option hygiene false in
local macro:max "zq7_62z" : term => `((by (zq7_2z); exact (Kd.R_mono (Kd.R_far (p := ⟨gb415, 3, none⟩) (Kd.R_far (p := ⟨gb415, 2, none⟩) (Kd.R_far (p := ⟨gb415, 1, none⟩) (Kd.R_far (p := ⟨gb415, 0, none⟩) (Kd.R_types HO_380002.out BK415.out (by decide)) (fun _ hk => hk.2) (.int .i64 t406)) (fun _ hk => hk.2) (.int .i64 t407)) (fun _ hk => hk.2) (.slice Ao129 t408.length co129)) (fun _ hk => hk.2) (.slice Ao130 t411.length co130)) (fun _ h_ => h_.1))))
set_option hygiene false in
local macro:max "zq7_63z" : term => `((by (zq7_2z); exact (Kd.R_mono (Kd.R_far (p := ⟨gb415, 3, none⟩) (Kd.R_far (p := ⟨gb415, 2, none⟩) (Kd.R_far (p := ⟨gb415, 1, none⟩) (Kd.R_far (p := ⟨gb415, 0, none⟩) (Kd.R_types HO_380003.out BK415.out (by decide)) (fun _ hk => hk.2) (.int .i64 t406)) (fun _ hk => hk.2) (.int .i64 t407)) (fun _ hk => hk.2) (.slice Ao129 t408.length co129)) (fun _ hk => hk.2) (.slice Ao130 t411.length co130)) (fun _ h_ => h_.1))))
/-! ### laws_FnExactMirrorFigure: function 7 -/
mutual
def laws_FnExactMirrorFigure.j0 : Nat → Bool → Bool → Bool → Int → Int → List Int → List Int → Int → Int → List Int → List Int → Int → Int → List Int → List Int → Int → Int → List Int → List Int → Option (Bool)
 | 0, _, _, _, _, _, _, _, _, _, _, _, _, _, _, _, _, _, _, _ => none
 | k + 1, x5, x8, x40, x342000, x342001, x342002, x342003, x361000, x361001, x361002, x361003, x370000, x370001, x370002, x370003, x380000, x380001, x380002, x380003 => if x40 = true then (some false) else ((laws_toFigure.f x342000 x342001 x342002 x342003 false).bind fun bt381 => ((laws_intactFigure.f x370000 x370001 x370002 x370003 bt381.1 bt381.2.1 bt381.2.2.1 bt381.2.2.2).bind fun t389 => (if t389 = true then ((laws_markFigure.f k x370000 x370001 x370002 x370003 101).bind fun bt390 => (if bt390.1 < 0 then (laws_FnExactMirrorFigure.j1 k x5 true x342000 x342001 x342002 x342003 x361000 x361001 x361002 x361003 x380000 x380001 x380002 x380003) else ((laws_eqFigure.f k x380000 x380001 x380002 x380003 x361000 x361001 x361002 x361003).bind fun t393 => (if t393 = true then (laws_FnExactMirrorFigure.j1 k x5 (x8 != x5) x342000 x342001 x342002 x342003 x361000 x361001 x361002 x361003 x380000 x380001 x380002 x380003) else (laws_FnExactMirrorFigure.j1 k x5 true x342000 x342001 x342002 x342003 x361000 x361001 x361002 x361003 x380000 x380001 x380002 x380003))))) else (some false))))
def laws_FnExactMirrorFigure.j1 : Nat → Bool → Bool → Int → Int → List Int → List Int → Int → Int → List Int → List Int → Int → Int → List Int → List Int → Option (Bool)
 | 0, _, _, _, _, _, _, _, _, _, _, _, _, _, _ => none
 | k + 1, x5, x61, x342000, x342001, x342002, x342003, x361000, x361001, x361002, x361003, x380000, x380001, x380002, x380003 => if x61 = true then (some false) else ((laws_markFigure.f k x380000 x380001 x380002 x380003 101).bind fun bt394 => ((laws_heldFigure.f k x380000 x380001 bt394.2.1 bt394.2.2 101).bind fun t397 => (if t397 < 0 then (some false) else (if t397 = bt394.1 then ((laws_toFigure.f x342000 x342001 x342002 x342003 true).bind fun bt398 => ((impl_MirrorFigure.f k bt398.1 bt398.2.1 bt398.2.2.1 bt398.2.2.2).bind fun bt406 => ((laws_eqFigure.f k bt406.1 bt406.2.1 bt406.2.2.1 bt406.2.2.2.1 x361000 x361001 x361002 x361003).bind fun t416 => (if t416 = true then (laws_FnExactMirrorFigure.j2 k bt394.1 (bt406.2.2.2.2 != x5) x380000 x380001 bt394.2.1 bt394.2.2) else (laws_FnExactMirrorFigure.j2 k bt394.1 true x380000 x380001 bt394.2.1 bt394.2.2))))) else (some false)))))
def laws_FnExactMirrorFigure.j2 : Nat → Int → Bool → Int → Int → List Int → List Int → Option (Bool)
 | 0, _, _, _, _, _, _ => none
 | k + 1, x10, x87, x380000, x380001, x380002, x380003 => if x87 = true then (some false) else ((laws_heldFigure.f k x380000 x380001 x380002 x380003 101).bind fun t417 => (if t417 < 0 then (some false) else (if t417 = x10 then (some true) else (some false))))
end
def laws_FnExactMirrorFigure.f (k : Nat) (a0_0 : Int) (a0_1 : Int) (l0_2 : List Int) (l0_3 : List Int) : Option (Bool) := (laws_szFigure.f a0_0 a0_1 l0_2 l0_3 1000000).bind fun t342 => (if t342 < 0 then (some true) else ((laws_toFigure.f a0_0 a0_1 l0_2 l0_3 false).bind fun bt343 => ((spec_MirrorFigure.f k bt343.1 bt343.2.1 bt343.2.2.1 bt343.2.2.2).bind fun bt351 => ((laws_toFigure.f a0_0 a0_1 l0_2 l0_3 false).bind fun bt361 => ((impl_MirrorFigure.f k bt361.1 bt361.2.1 bt361.2.2.1 bt361.2.2.2).bind fun bt370 => ((laws_eqFigure.f k bt370.1 bt370.2.1 bt370.2.2.1 bt370.2.2.2.1 bt351.1 bt351.2.1 bt351.2.2.1 bt351.2.2.2.1).bind fun t380 => (if t380 = true then (laws_FnExactMirrorFigure.j0 k bt351.2.2.2.2 bt370.2.2.2.2 (bt370.2.2.2.2 != bt351.2.2.2.2) a0_0 a0_1 l0_2 l0_3 bt351.1 bt351.2.1 bt351.2.2.1 bt351.2.2.2.1 bt361.1 bt361.2.1 bt361.2.2.1 bt361.2.2.2 bt370.1 bt370.2.1 bt370.2.2.1 bt370.2.2.2.1) else (laws_FnExactMirrorFigure.j0 k bt351.2.2.2.2 bt370.2.2.2.2 true a0_0 a0_1 l0_2 l0_3 bt351.1 bt351.2.1 bt351.2.2.1 bt351.2.2.2.1 bt361.1 bt361.2.1 bt361.2.2.1 bt361.2.2.2 bt370.1 bt370.2.1 bt370.2.2.1 bt370.2.2.2.1))))))))
theorem laws_FnExactMirrorFigure.mono_l : ∀ k, (∀ y0 y1 y2 y3 y4 y5 y6 y7 y8 y9 y10 y11 y12 y13 y14 y15 y16 y17 y18, LeO (laws_FnExactMirrorFigure.j0 k y0 y1 y2 y3 y4 y5 y6 y7 y8 y9 y10 y11 y12 y13 y14 y15 y16 y17 y18) (laws_FnExactMirrorFigure.j0 (k + 1) y0 y1 y2 y3 y4 y5 y6 y7 y8 y9 y10 y11 y12 y13 y14 y15 y16 y17 y18)) ∧ (∀ y0 y1 y2 y3 y4 y5 y6 y7 y8 y9 y10 y11 y12 y13, LeO (laws_FnExactMirrorFigure.j1 k y0 y1 y2 y3 y4 y5 y6 y7 y8 y9 y10 y11 y12 y13) (laws_FnExactMirrorFigure.j1 (k + 1) y0 y1 y2 y3 y4 y5 y6 y7 y8 y9 y10 y11 y12 y13)) ∧ (∀ y0 y1 y2 y3 y4 y5, LeO (laws_FnExactMirrorFigure.j2 k y0 y1 y2 y3 y4 y5) (laws_FnExactMirrorFigure.j2 (k + 1) y0 y1 y2 y3 y4 y5))
 | 0 => ⟨fun _ _ _ _ _ _ _ _ _ _ _ _ _ _ _ _ _ _ _ r h => by simp [laws_FnExactMirrorFigure.j0] at h, fun _ _ _ _ _ _ _ _ _ _ _ _ _ _ r h => by simp [laws_FnExactMirrorFigure.j1] at h, fun _ _ _ _ _ _ r h => by simp [laws_FnExactMirrorFigure.j2] at h⟩
 | k + 1 => by
  obtain ⟨ih0, ih1, ih2⟩ := laws_FnExactMirrorFigure.mono_l k
  refine ⟨?_, ?_, ?_⟩
  ·intro y0 y1 y2 y3 y4 y5 y6 y7 y8 y9 y10 y11 y12 y13 y14 y15 y16 y17 y18
   unfold laws_FnExactMirrorFigure.j0
   repeat' first
   | (with_reducible exact ih0 _ _ _ _ _ _ _ _ _ _ _ _ _ _ _ _ _ _ _)
   | (with_reducible exact ih1 _ _ _ _ _ _ _ _ _ _ _ _ _ _)
   | (with_reducible exact ih2 _ _ _ _ _ _)
   | (with_reducible exact impl_MirrorFigure.mono _ _ _ _ _)
   | (with_reducible exact laws_eqFigure.mono _ _ _ _ _ _ _ _ _)
   | (with_reducible exact laws_heldFigure.mono _ _ _ _ _ _)
   | (with_reducible exact laws_markFigure.mono _ _ _ _ _ _)
   | (with_reducible exact spec_MirrorFigure.mono _ _ _ _ _)
   | (with_reducible exact LeO.refl _)
   | (with_reducible exact LeO.none _)
   | (with_reducible refine LeO.ite ?_ ?_)
   | (with_reducible refine LeO.bind ?_ (fun _ => ?_))
   | exact ih0 _ _ _ _ _ _ _ _ _ _ _ _ _ _ _ _ _ _ _
   | exact ih1 _ _ _ _ _ _ _ _ _ _ _ _ _ _
   | exact ih2 _ _ _ _ _ _
   | exact impl_MirrorFigure.mono _ _ _ _ _
   | exact laws_eqFigure.mono _ _ _ _ _ _ _ _ _
   | exact laws_heldFigure.mono _ _ _ _ _ _
   | exact laws_markFigure.mono _ _ _ _ _ _
   | exact spec_MirrorFigure.mono _ _ _ _ _
   | exact LeO.none _
   | refine LeO.ite ?_ ?_
   | refine LeO.bind ?_ (fun _ => ?_)
  ·intro y0 y1 y2 y3 y4 y5 y6 y7 y8 y9 y10 y11 y12 y13
   unfold laws_FnExactMirrorFigure.j1
   repeat' first
   | (with_reducible exact ih0 _ _ _ _ _ _ _ _ _ _ _ _ _ _ _ _ _ _ _)
   | (with_reducible exact ih1 _ _ _ _ _ _ _ _ _ _ _ _ _ _)
   | (with_reducible exact ih2 _ _ _ _ _ _)
   | (with_reducible exact impl_MirrorFigure.mono _ _ _ _ _)
   | (with_reducible exact laws_eqFigure.mono _ _ _ _ _ _ _ _ _)
   | (with_reducible exact laws_heldFigure.mono _ _ _ _ _ _)
   | (with_reducible exact laws_markFigure.mono _ _ _ _ _ _)
   | (with_reducible exact spec_MirrorFigure.mono _ _ _ _ _)
   | (with_reducible exact LeO.refl _)
   | (with_reducible exact LeO.none _)
   | (with_reducible refine LeO.ite ?_ ?_)
   | (with_reducible refine LeO.bind ?_ (fun _ => ?_))
   | exact ih0 _ _ _ _ _ _ _ _ _ _ _ _ _ _ _ _ _ _ _
   | exact ih1 _ _ _ _ _ _ _ _ _ _ _ _ _ _
   | exact ih2 _ _ _ _ _ _
   | exact impl_MirrorFigure.mono _ _ _ _ _
   | exact laws_eqFigure.mono _ _ _ _ _ _ _ _ _
   | exact laws_heldFigure.mono _ _ _ _ _ _
   | exact laws_markFigure.mono _ _ _ _ _ _
   | exact spec_MirrorFigure.mono _ _ _ _ _
   | exact LeO.none _
   | refine LeO.ite ?_ ?_
   | refine LeO.bind ?_ (fun _ => ?_)
  ·intro y0 y1 y2 y3 y4 y5
   unfold laws_FnExactMirrorFigure.j2
   repeat' first
   | (with_reducible exact ih0 _ _ _ _ _ _ _ _ _ _ _ _ _ _ _ _ _ _ _)
   | (with_reducible exact ih1 _ _ _ _ _ _ _ _ _ _ _ _ _ _)
   | (with_reducible exact ih2 _ _ _ _ _ _)
   | (with_reducible exact impl_MirrorFigure.mono _ _ _ _ _)
   | (with_reducible exact laws_eqFigure.mono _ _ _ _ _ _ _ _ _)
   | (with_reducible exact laws_heldFigure.mono _ _ _ _ _ _)
   | (with_reducible exact laws_markFigure.mono _ _ _ _ _ _)
   | (with_reducible exact spec_MirrorFigure.mono _ _ _ _ _)
   | (with_reducible exact LeO.refl _)
   | (with_reducible exact LeO.none _)
   | (with_reducible refine LeO.ite ?_ ?_)
   | (with_reducible refine LeO.bind ?_ (fun _ => ?_))
   | exact ih0 _ _ _ _ _ _ _ _ _ _ _ _ _ _ _ _ _ _ _
   | exact ih1 _ _ _ _ _ _ _ _ _ _ _ _ _ _
   | exact ih2 _ _ _ _ _ _
   | exact impl_MirrorFigure.mono _ _ _ _ _
   | exact laws_eqFigure.mono _ _ _ _ _ _ _ _ _
   | exact laws_heldFigure.mono _ _ _ _ _ _
   | exact laws_markFigure.mono _ _ _ _ _ _
   | exact spec_MirrorFigure.mono _ _ _ _ _
   | exact LeO.none _
   | refine LeO.ite ?_ ?_
   | refine LeO.bind ?_ (fun _ => ?_)
theorem laws_FnExactMirrorFigure.mono : ∀ a0 a1 a2 a3 k, LeO (laws_FnExactMirrorFigure.f k a0 a1 a2 a3) (laws_FnExactMirrorFigure.f (k + 1) a0 a1 a2 a3) := by
 intro a0 a1 a2 a3 k
 obtain ⟨ih0, ih1, ih2⟩ := laws_FnExactMirrorFigure.mono_l k
 unfold laws_FnExactMirrorFigure.f
 repeat' first
   | (with_reducible exact ih0 _ _ _ _ _ _ _ _ _ _ _ _ _ _ _ _ _ _ _)
   | (with_reducible exact ih1 _ _ _ _ _ _ _ _ _ _ _ _ _ _)
   | (with_reducible exact ih2 _ _ _ _ _ _)
   | (with_reducible exact impl_MirrorFigure.mono _ _ _ _ _)
   | (with_reducible exact laws_eqFigure.mono _ _ _ _ _ _ _ _ _)
   | (with_reducible exact laws_heldFigure.mono _ _ _ _ _ _)
   | (with_reducible exact laws_markFigure.mono _ _ _ _ _ _)
   | (with_reducible exact spec_MirrorFigure.mono _ _ _ _ _)
   | (with_reducible exact LeO.refl _)
   | (with_reducible exact LeO.none _)
   | (with_reducible refine LeO.ite ?_ ?_)
   | (with_reducible refine LeO.bind ?_ (fun _ => ?_))
   | exact ih0 _ _ _ _ _ _ _ _ _ _ _ _ _ _ _ _ _ _ _
   | exact ih1 _ _ _ _ _ _ _ _ _ _ _ _ _ _
   | exact ih2 _ _ _ _ _ _
   | exact impl_MirrorFigure.mono _ _ _ _ _
   | exact laws_eqFigure.mono _ _ _ _ _ _ _ _ _
   | exact laws_heldFigure.mono _ _ _ _ _ _
   | exact laws_markFigure.mono _ _ _ _ _ _
   | exact spec_MirrorFigure.mono _ _ _ _ _
   | exact LeO.none _
   | refine LeO.ite ?_ ?_
   | refine LeO.bind ?_ (fun _ => ?_)
set_option maxHeartbeats 8000000 in
set_option maxRecDepth 100000 in
theorem laws_FnExactMirrorFigure.calls (k : Nat) (a0_0 : Int) (a0_1 : Int) (A0_2 : Option Addr) (c0_2 : Nat) (l0_2 : List Int) (A0_3 : Option Addr) (c0_3 : Nat) (l0_3 : List Int) (r : Bool) (w : World) (hr0_2 : Kd.C (Kd.int .i64) w A0_2 l0_2.length l0_2) (hc0_2 : l0_2.length ≤ c0_2) (hr0_3 : Kd.C (Kd.int .i64) w A0_3 l0_3.length l0_3) (hc0_3 : l0_3.length ≤ c0_3) (hG : LaidG w) (h : laws_FnExactMirrorFigure.f k a0_0 a0_1 l0_2 l0_3 = some r) :
  Calls Tryd.prog 7 #[.agg #[.int .i64 a0_0, .int .i64 a0_1, .slice A0_2 l0_2.length c0_2, .slice A0_3 l0_3.length c0_3]] w fun e w' => e = .returned (.bool r) ∧ Below w.heap.size w w' := by
 have hu24 := Tryd.underlying24
 have hu26 := Tryd.underlying26
 have HR0_2 := Aside0.mk hr0_2
 have HC0_2 := Aside0.mk hc0_2
 clear hr0_2 hc0_2
 have HR0_3 := Aside0.mk hr0_3
 have HC0_3 := Aside0.mk hc0_3
 clear hr0_3 hc0_3
 have HG := Aside0.mk hG
 clear hG
 have HB := Aside0.mk (Below.refl w.heap.size w)
 have H : ((laws_szFigure.f a0_0 a0_1 l0_2 l0_3 1000000).bind fun t342 => (if t342 < 0 then (some true) else ((laws_toFigure.f a0_0 a0_1 l0_2 l0_3 false).bind fun bt343 => ((spec_MirrorFigure.f k bt343.1 bt343.2.1 bt343.2.2.1 bt343.2.2.2).bind fun bt351 => ((laws_toFigure.f a0_0 a0_1 l0_2 l0_3 false).bind fun bt361 => ((impl_MirrorFigure.f k bt361.1 bt361.2.1 bt361.2.2.1 bt361.2.2.2).bind fun bt370 => ((laws_eqFigure.f k bt370.1 bt370.2.1 bt370.2.2.1 bt370.2.2.2.1 bt351.1 bt351.2.1 bt351.2.2.1 bt351.2.2.2.1).bind fun t380 => (if t380 = true then (laws_FnExactMirrorFigure.j0 k bt351.2.2.2.2 bt370.2.2.2.2 (bt370.2.2.2.2 != bt351.2.2.2.2) a0_0 a0_1 l0_2 l0_3 bt351.1 bt351.2.1 bt351.2.2.1 bt351.2.2.2.1 bt361.1 bt361.2.1 bt361.2.2.1 bt361.2.2.2 bt370.1 bt370.2.1 bt370.2.2.1 bt370.2.2.2.1) else (laws_FnExactMirrorFigure.j0 k bt351.2.2.2.2 bt370.2.2.2.2 true a0_0 a0_1 l0_2 l0_3 bt351.1 bt351.2.1 bt351.2.2.1 bt351.2.2.2.1 bt361.1 bt361.2.1 bt361.2.2.1 bt361.2.2.2 bt370.1 bt370.2.1 bt370.2.2.1 bt370.2.2.2.1))))))))) = some r := h
 clear h
 replace H := Option.bind_eq_some_iff.mp H
 obtain ⟨t342, A20, H⟩ := H
 replace H : (if t342 < 0 then (some true) else ((laws_toFigure.f a0_0 a0_1 l0_2 l0_3 false).bind fun bt343 => ((spec_MirrorFigure.f k bt343.1 bt343.2.1 bt343.2.2.1 bt343.2.2.2).bind fun bt351 => ((laws_toFigure.f a0_0 a0_1 l0_2 l0_3 false).bind fun bt361 => ((impl_MirrorFigure.f k bt361.1 bt361.2.1 bt361.2.2.1 bt361.2.2.2).bind fun bt370 => ((laws_eqFigure.f k bt370.1 bt370.2.1 bt370.2.2.1 bt370.2.2.2.1 bt351.1 bt351.2.1 bt351.2.2.1 bt351.2.2.2.1).bind fun t380 => (if t380 = true then (laws_FnExactMirrorFigure.j0 k bt351.2.2.2.2 bt370.2.2.2.2 (bt370.2.2.2.2 != bt351.2.2.2.2) a0_0 a0_1 l0_2 l0_3 bt351.1 bt351.2.1 bt351.2.2.1 bt351.2.2.2.1 bt361.1 bt361.2.1 bt361.2.2.1 bt361.2.2.2 bt370.1 bt370.2.1 bt370.2.2.1 bt370.2.2.2.1) else (laws_FnExactMirrorFigure.j0 k bt351.2.2.2.2 bt370.2.2.2.2 true a0_0 a0_1 l0_2 l0_3 bt351.1 bt351.2.1 bt351.2.2.1 bt351.2.2.2.1 bt361.1 bt361.2.1 bt361.2.2.1 bt361.2.2.2 bt370.1 bt370.2.1 bt370.2.2.1 bt370.2.2.2.1)))))))) = some r := H
 have A2 := Aside0.mk A20
 clear A20
 by_cases c3 : t342 < 0
 ·rw [if_pos c3] at H
  have c3b0 : decide (t342 < 0) = true := decide_eq_true c3
  clear c3
  obtain rfl := Option.some.inj H
  go_enter Tryd.func7, Tryd.ntmps7
  go_wp2_with (first | ((with_reducible refine gate_dst (N := 1) rfl ?_); refine box_event ?hg (N := 1) ?hd (cs := #[.int .i64 a0_0, .int .i64 a0_1, .slice A0_2 l0_2.length c0_2, .slice A0_3 l0_3.length c0_3]) (t := 24) ?hr ?_; (case hd => rfl); (case hg => rfl); (case hr => first | (go_simp; done) | (go_simp; rfl)); intro gb341 hg w4 hbox hb; have n0_ := Aside0.mk (below_step zq7_44z hb); have n1_ := Aside0.mk (hbox); have n2_ := Aside0.mk ((by rw [hg]; exact (below_size zq7_44z) : w.heap.size ≤ gb341)); have n3_ := Aside0.mk ((by rw [hg]; exact (below_size zq7_44z) : w.heap.size ≤ gb341)); clear HB; have HB := n0_; have BK341 := n1_; have GW341 := n2_; have GE341 := n3_; clear n0_ n1_ n2_ n3_; clear hb hbox hg; have hcz5_0 : w4.cell? ⟨gb341, 0, none⟩ = some (.int .i64 a0_0) := (blk_cell BK341.out 0).trans rfl; have hcz5_1 : w4.cell? ⟨gb341, 1, none⟩ = some (.int .i64 a0_1) := (blk_cell BK341.out 1).trans rfl; have hcz5_2 : w4.cell? ⟨gb341, 2, none⟩ = some (.slice A0_2 l0_2.length c0_2) := (blk_cell BK341.out 2).trans rfl; have hcz5_3 : w4.cell? ⟨gb341, 3, none⟩ = some (.slice A0_3 l0_3.length c0_3) := (blk_cell BK341.out 3).trans rfl; have hfz5_0 := blk_frozen BK341.out 0; have hfz5_1 := blk_frozen BK341.out 1; have hfz5_2 := blk_frozen BK341.out 2; have hfz5_3 := blk_frozen BK341.out 3) | ((with_reducible refine gate_callee (f := 10) rfl ?_); refine goesL_ (some 16) rfl rfl Tryd.func10 (by kernel_rfl) rfl #[.agg #[.int .i64 a0_0, .int .i64 a0_1, .slice A0_2 l0_2.length c0_2, .slice A0_3 l0_3.length c0_3], .int .i64 1000000] rfl zq7_6z ?_; (with_reducible refine (laws_szFigure.calls a0_0 a0_1 _ _ l0_2 _ _ l0_3 1000000 t342 _ ?side1 ?side2 ?side3 ?side4 A2.out).mono ?_); (case side1 => repeat (zq7_41z)); (case side2 => exact HC0_2.out); (case side3 => repeat (zq7_42z)); (case side4 => exact HC0_3.out); rintro e w6 ⟨rfl, hb⟩; refine ⟨_, rfl, ?_⟩; have n0_ := Aside0.mk zq7_5z; have n1_ := Aside0.mk (below_step (by repeat (zq7_10z)) hb); clear BK341; clear HB; have BK341 := n0_; have HB := n1_; clear n0_ n1_; (try clear hb); (try clear hb2); (try clear hk); (try clear hi)))
  go_ret
  exact ⟨by first | rfl | (simp [errW_none, errW_some] <;> rfl) | (simp [*, errW_none, errW_some] <;> rfl), by repeat (zq7_10z)⟩
 ·rw [if_neg c3] at H
  have c3b0 : decide (t342 < 0) = false := decide_eq_false c3
  clear c3
  replace H := Option.bind_eq_some_iff.mp H
  obtain ⟨⟨t343, t344, t345, t348⟩, A70, H⟩ := H
  replace H : ((spec_MirrorFigure.f k t343 t344 t345 t348).bind fun bt351 => ((laws_toFigure.f a0_0 a0_1 l0_2 l0_3 false).bind fun bt361 => ((impl_MirrorFigure.f k bt361.1 bt361.2.1 bt361.2.2.1 bt361.2.2.2).bind fun bt370 => ((laws_eqFigure.f k bt370.1 bt370.2.1 bt370.2.2.1 bt370.2.2.2.1 bt351.1 bt351.2.1 bt351.2.2.1 bt351.2.2.2.1).bind fun t380 => (if t380 = true then (laws_FnExactMirrorFigure.j0 k bt351.2.2.2.2 bt370.2.2.2.2 (bt370.2.2.2.2 != bt351.2.2.2.2) a0_0 a0_1 l0_2 l0_3 bt351.1 bt351.2.1 bt351.2.2.1 bt351.2.2.2.1 bt361.1 bt361.2.1 bt361.2.2.1 bt361.2.2.2 bt370.1 bt370.2.1 bt370.2.2.1 bt370.2.2.2.1) else (laws_FnExactMirrorFigure.j0 k bt351.2.2.2.2 bt370.2.2.2.2 true a0_0 a0_1 l0_2 l0_3 bt351.1 bt351.2.1 bt351.2.2.1 bt351.2.2.2.1 bt361.1 bt361.2.1 bt361.2.2.1 bt361.2.2.2 bt370.1 bt370.2.1 bt370.2.2.1 bt370.2.2.2.1)))))) = some r := H
  have A7 := Aside0.mk A70
  clear A70
  replace H := Option.bind_eq_some_iff.mp H
  obtain ⟨⟨t351, t352, t353, t356, t359⟩, A80, H⟩ := H
  replace H : ((laws_toFigure.f a0_0 a0_1 l0_2 l0_3 false).bind fun bt361 => ((impl_MirrorFigure.f k bt361.1 bt361.2.1 bt361.2.2.1 bt361.2.2.2).bind fun bt370 => ((laws_eqFigure.f k bt370.1 bt370.2.1 bt370.2.2.1 bt370.2.2.2.1 t351 t352 t353 t356).bind fun t380 => (if t380 = true then (laws_FnExactMirrorFigure.j0 k t359 bt370.2.2.2.2 (bt370.2.2.2.2 != t359) a0_0 a0_1 l0_2 l0_3 t351 t352 t353 t356 bt361.1 bt361.2.1 bt361.2.2.1 bt361.2.2.2 bt370.1 bt370.2.1 bt370.2.2.1 bt370.2.2.2.1) else (laws_FnExactMirrorFigure.j0 k t359 bt370.2.2.2.2 true a0_0 a0_1 l0_2 l0_3 t351 t352 t353 t356 bt361.1 bt361.2.1 bt361.2.2.1 bt361.2.2.2 bt370.1 bt370.2.1 bt370.2.2.1 bt370.2.2.2.1))))) = some r := H
  have A8 := Aside0.mk A80
  clear A80
  replace H := Option.bind_eq_some_iff.mp H
  obtain ⟨⟨t361, t362, t363, t366⟩, A90, H⟩ := H
  replace H : ((impl_MirrorFigure.f k t361 t362 t363 t366).bind fun bt370 => ((laws_eqFigure.f k bt370.1 bt370.2.1 bt370.2.2.1 bt370.2.2.2.1 t351 t352 t353 t356).bind fun t380 => (if t380 = true then (laws_FnExactMirrorFigure.j0 k t359 bt370.2.2.2.2 (bt370.2.2.2.2 != t359) a0_0 a0_1 l0_2 l0_3 t351 t352 t353 t356 t361 t362 t363 t366 bt370.1 bt370.2.1 bt370.2.2.1 bt370.2.2.2.1) else (laws_FnExactMirrorFigure.j0 k t359 bt370.2.2.2.2 true a0_0 a0_1 l0_2 l0_3 t351 t352 t353 t356 t361 t362 t363 t366 bt370.1 bt370.2.1 bt370.2.2.1 bt370.2.2.2.1)))) = some r := H
  have A9 := Aside0.mk A90
  clear A90
  replace H := Option.bind_eq_some_iff.mp H
  obtain ⟨⟨t370, t371, t372, t375, t378⟩, A100, H⟩ := H
  replace H : ((laws_eqFigure.f k t370 t371 t372 t375 t351 t352 t353 t356).bind fun t380 => (if t380 = true then (laws_FnExactMirrorFigure.j0 k t359 t378 (t378 != t359) a0_0 a0_1 l0_2 l0_3 t351 t352 t353 t356 t361 t362 t363 t366 t370 t371 t372 t375) else (laws_FnExactMirrorFigure.j0 k t359 t378 true a0_0 a0_1 l0_2 l0_3 t351 t352 t353 t356 t361 t362 t363 t366 t370 t371 t372 t375))) = some r := H
  have A10 := Aside0.mk A100
  clear A100
  have HC11 := Aside0.mk H
  clear H
  go_enter Tryd.func7, Tryd.ntmps7
  go_upto_region 8 with (first | ((with_reducible refine gate_dst (N := 1) rfl ?_); refine box_event ?hg (N := 1) ?hd (cs := #[.int .i64 a0_0, .int .i64 a0_1, .slice A0_2 l0_2.length c0_2, .slice A0_3 l0_3.length c0_3]) (t := 24) ?hr ?_; (case hd => rfl); (case hg => rfl); (case hr => first | (go_simp; done) | (go_simp; rfl)); intro gb341 hg w12 hbox hb; have n0_ := Aside0.mk (below_step zq7_44z hb); have n1_ := Aside0.mk (hbox); have n2_ := Aside0.mk ((by rw [hg]; exact (below_size zq7_44z) : w.heap.size ≤ gb341)); have n3_ := Aside0.mk ((by rw [hg]; exact (below_size zq7_44z) : w.heap.size ≤ gb341)); clear HB; have HB := n0_; have BK341 := n1_; have GW341 := n2_; have GE341 := n3_; clear n0_ n1_ n2_ n3_; clear hb hbox hg; have hcz13_0 : w12.cell? ⟨gb341, 0, none⟩ = some (.int .i64 a0_0) := (blk_cell BK341.out 0).trans rfl; have hcz13_1 : w12.cell? ⟨gb341, 1, none⟩ = some (.int .i64 a0_1) := (blk_cell BK341.out 1).trans rfl; have hcz13_2 : w12.cell? ⟨gb341, 2, none⟩ = some (.slice A0_2 l0_2.length c0_2) := (blk_cell BK341.out 2).trans rfl; have hcz13_3 : w12.cell? ⟨gb341, 3, none⟩ = some (.slice A0_3 l0_3.length c0_3) := (blk_cell BK341.out 3).trans rfl; have hfz13_0 := blk_frozen BK341.out 0; have hfz13_1 := blk_frozen BK341.out 1; have hfz13_2 := blk_frozen BK341.out 2; have hfz13_3 := blk_frozen BK341.out 3) | ((with_reducible refine gate_callee (f := 10) rfl ?_); refine goesL_ (some 16) rfl rfl Tryd.func10 (by kernel_rfl) rfl #[.agg #[.int .i64 a0_0, .int .i64 a0_1, .slice A0_2 l0_2.length c0_2, .slice A0_3 l0_3.length c0_3], .int .i64 1000000] rfl zq7_6z ?_; (with_reducible refine (laws_szFigure.calls a0_0 a0_1 _ _ l0_2 _ _ l0_3 1000000 t342 _ ?side1 ?side2 ?side3 ?side4 A2.out).mono ?_); (case side1 => repeat (zq7_41z)); (case side2 => exact HC0_2.out); (case side3 => repeat (zq7_42z)); (case side4 => exact HC0_3.out); rintro e w14 ⟨rfl, hb⟩; refine ⟨_, rfl, ?_⟩; have n0_ := Aside0.mk zq7_5z; have n1_ := Aside0.mk (below_step (by repeat (zq7_10z)) hb); clear BK341; clear HB; have BK341 := n0_; have HB := n1_; clear n0_ n1_; (try clear hb); (try clear hb2); (try clear hk); (try clear hi); have hcz15_0 : w14.cell? ⟨gb341, 0, none⟩ = some (.int .i64 a0_0) := (blk_cell BK341.out 0).trans rfl; have hcz15_1 : w14.cell? ⟨gb341, 1, none⟩ = some (.int .i64 a0_1) := (blk_cell BK341.out 1).trans rfl; have hcz15_2 : w14.cell? ⟨gb341, 2, none⟩ = some (.slice A0_2 l0_2.length c0_2) := (blk_cell BK341.out 2).trans rfl; have hcz15_3 : w14.cell? ⟨gb341, 3, none⟩ = some (.slice A0_3 l0_3.length c0_3) := (blk_cell BK341.out 3).trans rfl; have hfz15_0 := blk_frozen BK341.out 0; have hfz15_1 := blk_frozen BK341.out 1; have hfz15_2 := blk_frozen BK341.out 2; have hfz15_3 := blk_frozen BK341.out 3) | ((with_reducible refine gate_callee (f := 12) rfl ?_); refine goesL_ (some 21) rfl rfl Tryd.func12 (by kernel_rfl) rfl #[.agg #[.int .i64 a0_0, .int .i64 a0_1, .slice A0_2 l0_2.length c0_2, .slice A0_3 l0_3.length c0_3], .bool false] rfl zq7_6z ?_; (with_reducible refine (laws_toFigure.calls a0_0 a0_1 _ _ l0_2 _ _ l0_3 false t343 t344 t345 t348 _ ?side1 ?side2 ?side3 ?side4 A7.out).mono ?_); (case side1 => repeat (zq7_41z)); (case side2 => exact HC0_2.out); (case side3 => repeat (zq7_42z)); (case side4 => exact HC0_3.out); rintro e w16 ⟨v346, v349, rfl, ho0, ho1, hb⟩; refine ⟨_, rfl, ?_⟩; have n0_ := Aside0.mk (Kd.PB_lower ho0 (below_size (by repeat (zq7_10z)))); have n1_ := Aside0.mk (Kd.PB_lower ho1 (below_size (by repeat (zq7_10z)))); have n2_ := Aside0.mk zq7_5z; have n3_ := Aside0.mk (below_step (by repeat (zq7_10z)) hb); clear BK341; clear HB; have HO347 := n0_; have HO350 := n1_; have BK341 := n2_; have HB := n3_; clear n0_ n1_ n2_ n3_; (try clear hb); (try clear hb2); (try clear hk); (try clear hi); (try clear ho0); (try clear ho1); obtain ⟨Ao17, co17, eo17⟩ := Kd.PB_slice HO347.out; subst eo17; obtain ⟨Ao18, co18, eo18⟩ := Kd.PB_slice HO350.out; subst eo18) | ((with_reducible refine gate_callee (f := 27) rfl ?_); refine goesL_ (some 22) rfl rfl Tryd.func27 (by kernel_rfl) rfl #[.agg #[.int .i64 t343, .int .i64 t344, .slice Ao17 t345.length co17, .slice Ao18 t348.length co18]] rfl zq7_6z ?_; (with_reducible refine (spec_MirrorFigure.calls k t343 t344 _ _ t345 _ _ t348 t351 t352 t353 t356 t359 _ ?side1 ?side2 ?side3 ?side4 A8.out).mono ?_); (case side1 => repeat (first | exact (Kd.PB_reads' HO347.out).2.2 | (with_reducible refine Kd.C_alloc ?_ _) | (with_reducible refine Kd.C_drewN ?_ _) | (with_reducible refine Kd.C_drew ?_))); (case side2 => exact (Kd.PB_reads' HO347.out).2.1); (case side3 => repeat (first | exact (Kd.PB_reads' HO350.out).2.2 | (with_reducible refine Kd.C_alloc ?_ _) | (with_reducible refine Kd.C_drewN ?_ _) | (with_reducible refine Kd.C_drew ?_))); (case side4 => exact (Kd.PB_reads' HO350.out).2.1); rintro e w19 ⟨v354, v357, rfl, ho0, ho1, hb⟩; refine ⟨_, rfl, ?_⟩; have n0_ := Aside0.mk (Kd.PB_mono (Kd.PB_told (Kd.PB_told (Kd.PB_old (by (zq7_4z); exact HO347.out) hb) (Kd.R_base ho0)) (Kd.R_base ho1)) (fun _ h_ => h_.1)); have n1_ := Aside0.mk (Kd.PB_mono (Kd.PB_told (Kd.PB_told (Kd.PB_old (by (zq7_4z); exact HO350.out) hb) (Kd.R_base ho0)) (Kd.R_base ho1)) (fun _ h_ => h_.1)); have n2_ := Aside0.mk (Kd.R_lower (Kd.R_new' (Kd.R_new' ho0 (Kd.PB_lt (by (zq7_4z); exact HO347.out))) (Kd.PB_lt (by (zq7_4z); exact HO350.out))) (below_size (by repeat (zq7_10z)))); have n3_ := Aside0.mk (Kd.R_lower (Kd.R_new' (Kd.R_new' ho1 (Kd.PB_lt (by (zq7_4z); exact HO347.out))) (Kd.PB_lt (by (zq7_4z); exact HO350.out))) (below_size (by repeat (zq7_10z)))); have n4_ := Aside0.mk zq7_5z; have n5_ := Aside0.mk (below_step (by repeat (zq7_10z)) hb); clear HO347; clear HO350; clear BK341; clear HB; have HO347 := n0_; have HO350 := n1_; have HO355 := n2_; have HO358 := n3_; have BK341 := n4_; have HB := n5_; clear n0_ n1_ n2_ n3_ n4_ n5_; (try clear hb); (try clear hb2); (try clear hk); (try clear hi); (try clear ho0); (try clear ho1)) | ((with_reducible refine gate_dst (N := 4) rfl ?_); refine box_event ?hg (N := 4) ?hd (cs := #[.int .i64 0, .int .i64 0, .slice none 0 0, .slice none 0 0]) (t := 26) ?hr ?_; (case hd => rfl); (case hg => rfl); (case hr => first | (go_simp; done) | (go_simp; rfl)); intro gb360 hg w20 hbox hb; have n0_ := Aside0.mk (Kd.PB_below (by (zq7_4z); exact HO347.out) hb); have n1_ := Aside0.mk (Kd.PB_below (by (zq7_4z); exact HO350.out) hb); have n2_ := Aside0.mk (Kd.R_below (by (zq7_2z); exact HO355.out) hb); have n3_ := Aside0.mk (Kd.R_below (by (zq7_2z); exact HO358.out) hb); have n4_ := Aside0.mk zq7_5z; have n5_ := Aside0.mk (below_step (by repeat (zq7_10z)) hb); have n6_ := Aside0.mk (hbox); have n7_ := Aside0.mk ((by rw [hg]; exact (below_size (by repeat (zq7_10z))) : w.heap.size ≤ gb360)); have n8_ := Aside0.mk ((by rw [hg]; exact (below_size (by repeat (zq7_10z))) : w.heap.size ≤ gb360)); have n9_ := Aside0.mk ((by rw [hg]; exact Nat.ne_of_lt zq7_24z : gb341 ≠ gb360)); have n10_ := Aside0.mk ((by rw [hg]; exact Nat.ne_of_gt zq7_24z : gb360 ≠ gb341)); clear HO347; clear HO350; clear HO355; clear HO358; clear BK341; clear HB; have HO347 := n0_; have HO350 := n1_; have HO355 := n2_; have HO358 := n3_; have BK341 := n4_; have HB := n5_; have BK360 := n6_; have GW360 := n7_; have GE360 := n8_; have NB341_360 := n9_; have NB360_341 := n10_; clear n0_ n1_ n2_ n3_ n4_ n5_ n6_ n7_ n8_ n9_ n10_; clear hb hbox hg; have hnb21 := NB360_341.out; have hnc21 := NB341_360.out; have hcz22_0 : w20.cell? ⟨gb360, 0, none⟩ = some (.int .i64 0) := (blk_cell BK360.out 0).trans rfl; have hcz22_1 : w20.cell? ⟨gb360, 1, none⟩ = some (.int .i64 0) := (blk_cell BK360.out 1).trans rfl; have hcz22_2 : w20.cell? ⟨gb360, 2, none⟩ = some (.slice none 0 0) := (blk_cell BK360.out 2).trans rfl; have hcz22_3 : w20.cell? ⟨gb360, 3, none⟩ = some (.slice none 0 0) := (blk_cell BK360.out 3).trans rfl; have hfz22_0 := blk_frozen BK360.out 0; have hfz22_1 := blk_frozen BK360.out 1; have hfz22_2 := blk_frozen BK360.out 2; have hfz22_3 := blk_frozen BK360.out 3; obtain ⟨Ao23, co23, eo23⟩ := Kd.R_slice HO355.out; subst eo23; obtain ⟨Ao24, co24, eo24⟩ := Kd.R_slice HO358.out; subst eo24; have hcz25_0 : w20.cell? ⟨gb341, 0, none⟩ = some (.int .i64 a0_0) := (blk_cell BK341.out 0).trans rfl; have hcz25_1 : w20.cell? ⟨gb341, 1, none⟩ = some (.int .i64 a0_1) := (blk_cell BK341.out 1).trans rfl; have hcz25_2 : w20.cell? ⟨gb341, 2, none⟩ = some (.slice A0_2 l0_2.length c0_2) := (blk_cell BK341.out 2).trans rfl; have hcz25_3 : w20.cell? ⟨gb341, 3, none⟩ = some (.slice A0_3 l0_3.length c0_3) := (blk_cell BK341.out 3).trans rfl; have hfz25_0 := blk_frozen BK341.out 0; have hfz25_1 := blk_frozen BK341.out 1; have hfz25_2 := blk_frozen BK341.out 2; have hfz25_3 := blk_frozen BK341.out 3) | ((with_reducible refine gate_callee (f := 12) rfl ?_); refine goesL_ (some 26) rfl rfl Tryd.func12 (by kernel_rfl) rfl #[.agg #[.int .i64 a0_0, .int .i64 a0_1, .slice A0_2 l0_2.length c0_2, .slice A0_3 l0_3.length c0_3], .bool false] rfl zq7_6z ?_; (with_reducible refine (laws_toFigure.calls a0_0 a0_1 _ _ l0_2 _ _ l0_3 false t361 t362 t363 t366 _ ?side1 ?side2 ?side3 ?side4 A9.out).mono ?_); (case side1 => exact Kd.C_below HR0_2.out zq7_12z); (case side2 => exact HC0_2.out); (case side3 => exact Kd.C_below HR0_3.out zq7_12z); (case side4 => exact HC0_3.out); rintro e w26 ⟨v364, v367, rfl, ho0, ho1, hb⟩; refine ⟨_, rfl, ?_⟩; have n0_ := Aside0.mk (Kd.PB_mono (Kd.PB_told (Kd.PB_told (Kd.PB_old zq7_31z hb) (Kd.PB_base ho0)) (Kd.PB_base ho1)) (fun _ h_ => h_.1)); have n1_ := Aside0.mk (Kd.PB_mono (Kd.PB_told (Kd.PB_told (Kd.PB_old zq7_32z hb) (Kd.PB_base ho0)) (Kd.PB_base ho1)) (fun _ h_ => h_.1)); have n2_ := Aside0.mk (Kd.R_mono (Kd.R_told (Kd.R_told (Kd.R_old zq7_36z hb) (Kd.PB_base ho0)) (Kd.PB_base ho1)) (fun _ h_ => h_.1)); have n3_ := Aside0.mk (Kd.R_mono (Kd.R_told (Kd.R_told (Kd.R_old zq7_37z hb) (Kd.PB_base ho0)) (Kd.PB_base ho1)) (fun _ h_ => h_.1)); have n4_ := Aside0.mk (Kd.PB_lower (Kd.PB_new' (Kd.PB_new' (Kd.PB_new' (Kd.PB_new' ho0 (Kd.PB_lt zq7_31z)) (Kd.PB_lt zq7_32z)) (Kd.R_lt zq7_36z)) (Kd.R_lt zq7_37z)) (below_size zq7_12z)); have n5_ := Aside0.mk (Kd.PB_lower (Kd.PB_new' (Kd.PB_new' (Kd.PB_new' (Kd.PB_new' ho1 (Kd.PB_lt zq7_31z)) (Kd.PB_lt zq7_32z)) (Kd.R_lt zq7_36z)) (Kd.R_lt zq7_37z)) (below_size zq7_12z)); have n6_ := Aside0.mk (blk_below (g := gb341) (o := .cells #[.int .i64 a0_0, .int .i64 a0_1, .slice A0_2 l0_2.length c0_2, .slice A0_3 l0_3.length c0_3] 24 (0, 0)) (by (zq7_1z); refine blk_far ?_ NB341_360.out _; (zq7_1z); refine blk_far ?_ NB341_360.out _; (zq7_1z); refine blk_far ?_ NB341_360.out _; (zq7_1z); refine blk_far ?_ NB341_360.out _; (zq7_1z); exact BK341.out) hb); have n7_ := Aside0.mk (blk_below (g := gb360) (o := .cells #[.int .i64 t351, .int .i64 t352, .slice Ao23 t353.length co23, .slice Ao24 t356.length co24] 26 (0, 0)) (by (zq7_1z); refine blk_put (cs := #[.int .i64 t351, .int .i64 t352, .slice Ao23 t353.length co23, .slice none 0 0]) ?_ 3 _ rfl; (zq7_1z); refine blk_put (cs := #[.int .i64 t351, .int .i64 t352, .slice none 0 0, .slice none 0 0]) ?_ 2 _ rfl; (zq7_1z); refine blk_put (cs := #[.int .i64 t351, .int .i64 0, .slice none 0 0, .slice none 0 0]) ?_ 1 _ rfl; (zq7_1z); refine blk_put (cs := #[.int .i64 0, .int .i64 0, .slice none 0 0, .slice none 0 0]) ?_ 0 _ rfl; (zq7_1z); exact BK360.out) hb); have n8_ := Aside0.mk (below_step zq7_12z hb); clear HO347; clear HO350; clear HO355; clear HO358; clear BK341; clear BK360; clear HB; have HO347 := n0_; have HO350 := n1_; have HO355 := n2_; have HO358 := n3_; have HO365 := n4_; have HO368 := n5_; have BK341 := n6_; have BK360 := n7_; have HB := n8_; clear n0_ n1_ n2_ n3_ n4_ n5_ n6_ n7_ n8_; (try clear hb); (try clear hb2); (try clear hk); (try clear hi); (try clear ho0); (try clear ho1)) | ((with_reducible refine gate_dst (N := 6) rfl ?_); refine box_event ?hg (N := 6) ?hd (cs := #[.int .i64 0, .int .i64 0, .slice none 0 0, .slice none 0 0]) (t := 26) ?hr ?_; (case hd => rfl); (case hg => rfl); (case hr => first | (go_simp; done) | (go_simp; rfl)); intro gb369 hg w27 hbox hb; have n0_ := Aside0.mk (Kd.PB_below (by (zq7_4z); exact HO347.out) hb); have n1_ := Aside0.mk (Kd.PB_below (by (zq7_4z); exact HO350.out) hb); have n2_ := Aside0.mk (Kd.R_below (by (zq7_2z); exact HO355.out) hb); have n3_ := Aside0.mk (Kd.R_below (by (zq7_2z); exact HO358.out) hb); have n4_ := Aside0.mk (Kd.PB_below (by (zq7_4z); exact HO365.out) hb); have n5_ := Aside0.mk (Kd.PB_below (by (zq7_4z); exact HO368.out) hb); have n6_ := Aside0.mk zq7_5z; have n7_ := Aside0.mk zq7_8z; have n8_ := Aside0.mk (below_step zq7_12z hb); have n9_ := Aside0.mk (hbox); have n10_ := Aside0.mk ((by rw [hg]; exact (below_size zq7_12z) : w.heap.size ≤ gb369)); have n11_ := Aside0.mk ((by rw [hg]; exact (below_size zq7_12z) : w.heap.size ≤ gb369)); have n12_ := Aside0.mk ((by rw [hg]; exact Nat.ne_of_lt zq7_24z : gb341 ≠ gb369)); have n13_ := Aside0.mk ((by rw [hg]; exact Nat.ne_of_gt zq7_24z : gb369 ≠ gb341)); have n14_ := Aside0.mk ((by rw [hg]; exact Nat.ne_of_lt zq7_40z : gb360 ≠ gb369)); have n15_ := Aside0.mk ((by rw [hg]; exact Nat.ne_of_gt zq7_40z : gb369 ≠ gb360)); clear HO347; clear HO350; clear HO355; clear HO358; clear HO365; clear HO368; clear BK341; clear BK360; clear HB; have HO347 := n0_; have HO350 := n1_; have HO355 := n2_; have HO358 := n3_; have HO365 := n4_; have HO368 := n5_; have BK341 := n6_; have BK360 := n7_; have HB := n8_; have BK369 := n9_; have GW369 := n10_; have GE369 := n11_; have NB341_369 := n12_; have NB369_341 := n13_; have NB360_369 := n14_; have NB369_360 := n15_; clear n0_ n1_ n2_ n3_ n4_ n5_ n6_ n7_ n8_ n9_ n10_ n11_ n12_ n13_ n14_ n15_; clear hb hbox hg; have hnb28 := NB369_341.out; have hnc28 := NB341_369.out; have hnb29 := NB369_360.out; have hnc29 := NB360_369.out; have hcz30_0 : w27.cell? ⟨gb369, 0, none⟩ = some (.int .i64 0) := (blk_cell BK369.out 0).trans rfl; have hcz30_1 : w27.cell? ⟨gb369, 1, none⟩ = some (.int .i64 0) := (blk_cell BK369.out 1).trans rfl; have hcz30_2 : w27.cell? ⟨gb369, 2, none⟩ = some (.slice none 0 0) := (blk_cell BK369.out 2).trans rfl; have hcz30_3 : w27.cell? ⟨gb369, 3, none⟩ = some (.slice none 0 0) := (blk_cell BK369.out 3).trans rfl; have hfz30_0 := blk_frozen BK369.out 0; have hfz30_1 := blk_frozen BK369.out 1; have hfz30_2 := blk_frozen BK369.out 2; have hfz30_3 := blk_frozen BK369.out 3; obtain ⟨Ao31, co31, eo31⟩ := Kd.PB_slice HO365.out; subst eo31; obtain ⟨Ao32, co32, eo32⟩ := Kd.PB_slice HO368.out; subst eo32) | ((with_reducible refine gate_callee (f := 28) rfl ?_); refine goesL_ (some 29) rfl rfl Tryd.func28 (by kernel_rfl) rfl #[.agg #[.int .i64 t361, .int .i64 t362, .slice Ao31 t363.length co31, .slice Ao32 t366.length co32]] rfl zq7_6z ?_; (with_reducible refine (impl_MirrorFigure.calls k t361 t362 _ _ t363 _ _ t366 t370 t371 t372 t375 t378 _ ?side1 ?side2 ?side3 ?side4 ?side5 A10.out).mono ?_); (case side1 => refine (Kd.PB_reads' (b := false) (e := 3) (base := w.heap.size) (ok := fun k_ => ((((some k_ ≠ (.slice Ao32 t366.length co32 : Value).ownBlock ∧ some k_ ≠ (.slice Ao17 t345.length co17 : Value).ownBlock) ∧ some k_ ≠ (.slice Ao18 t348.length co18 : Value).ownBlock) ∧ some k_ ≠ (.slice Ao23 t353.length co23 : Value).ownBlock) ∧ some k_ ≠ (.slice Ao24 t356.length co24 : Value).ownBlock)) (n := t363.length) (c := co31) ?_).2.2; exact zq7_16z); (case side2 => exact (Kd.PB_reads' HO365.out).2.1); (case side3 => refine (Kd.PB_reads' (b := false) (e := 3) (base := w.heap.size) (ok := fun k_ => ((((some k_ ≠ (.slice Ao31 t363.length co31 : Value).ownBlock ∧ some k_ ≠ (.slice Ao17 t345.length co17 : Value).ownBlock) ∧ some k_ ≠ (.slice Ao18 t348.length co18 : Value).ownBlock) ∧ some k_ ≠ (.slice Ao23 t353.length co23 : Value).ownBlock) ∧ some k_ ≠ (.slice Ao24 t356.length co24 : Value).ownBlock)) (n := t366.length) (c := co32) ?_).2.2; exact zq7_17z); (case side4 => exact (Kd.PB_reads' HO368.out).2.1); (case side5 => first | exact LaidG_below HG.out zq7_11z | (repeat (first | exact HG.out | (with_reducible refine LaidG_alloc ?_ _) | (with_reducible refine LaidG_drewN ?_ _) | (with_reducible refine LaidG_drew ?_)))); rintro e w33 ⟨v373, v376, rfl, ho0, ho1, hb⟩; refine ⟨_, rfl, ?_⟩; have n0_ := Aside0.mk (Kd.PB_mono (Kd.PB_told (Kd.PB_told (Kd.PB_old zq7_33z hb) (Kd.R_base ho0)) (Kd.R_base ho1)) (fun _ h_ => h_.1)); have n1_ := Aside0.mk (Kd.PB_mono (Kd.PB_told (Kd.PB_told (Kd.PB_old zq7_34z hb) (Kd.R_base ho0)) (Kd.R_base ho1)) (fun _ h_ => h_.1)); have n2_ := Aside0.mk (Kd.R_mono (Kd.R_told (Kd.R_told (Kd.R_old zq7_38z hb) (Kd.R_base ho0)) (Kd.R_base ho1)) (fun _ h_ => h_.1)); have n3_ := Aside0.mk (Kd.R_mono (Kd.R_told (Kd.R_told (Kd.R_old zq7_39z hb) (Kd.R_base ho0)) (Kd.R_base ho1)) (fun _ h_ => h_.1)); have n4_ := Aside0.mk (Kd.PB_mono (Kd.PB_told (Kd.PB_told (Kd.PB_old zq7_16z hb) (Kd.R_base ho0)) (Kd.R_base ho1)) (fun _ h_ => h_.1)); have n5_ := Aside0.mk (Kd.PB_mono (Kd.PB_told (Kd.PB_told (Kd.PB_old zq7_17z hb) (Kd.R_base ho0)) (Kd.R_base ho1)) (fun _ h_ => h_.1)); have n6_ := Aside0.mk (Kd.R_lower (Kd.R_new' (Kd.R_new' (Kd.R_new' (Kd.R_new' (Kd.R_new' (Kd.R_new' ho0 (Kd.PB_lt zq7_33z)) (Kd.PB_lt zq7_34z)) (Kd.R_lt zq7_38z)) (Kd.R_lt zq7_39z)) (Kd.PB_lt zq7_16z)) (Kd.PB_lt zq7_17z)) (below_size zq7_11z)); have n7_ := Aside0.mk (Kd.R_lower (Kd.R_new' (Kd.R_new' (Kd.R_new' (Kd.R_new' (Kd.R_new' (Kd.R_new' ho1 (Kd.PB_lt zq7_33z)) (Kd.PB_lt zq7_34z)) (Kd.R_lt zq7_38z)) (Kd.R_lt zq7_39z)) (Kd.PB_lt zq7_16z)) (Kd.PB_lt zq7_17z)) (below_size zq7_11z)); have n8_ := Aside0.mk (blk_below (g := gb341) (o := .cells #[.int .i64 a0_0, .int .i64 a0_1, .slice A0_2 l0_2.length c0_2, .slice A0_3 l0_3.length c0_3] 24 (0, 0)) (by (zq7_1z); refine blk_far ?_ NB341_369.out _; (zq7_1z); refine blk_far ?_ NB341_369.out _; (zq7_1z); refine blk_far ?_ NB341_369.out _; (zq7_1z); refine blk_far ?_ NB341_369.out _; (zq7_1z); exact BK341.out) hb); have n9_ := Aside0.mk (blk_below (g := gb360) (o := .cells #[.int .i64 t351, .int .i64 t352, .slice Ao23 t353.length co23, .slice Ao24 t356.length co24] 26 (0, 0)) (by (zq7_1z); refine blk_far ?_ NB360_369.out _; (zq7_1z); refine blk_far ?_ NB360_369.out _; (zq7_1z); refine blk_far ?_ NB360_369.out _; (zq7_1z); refine blk_far ?_ NB360_369.out _; (zq7_1z); exact BK360.out) hb); have n10_ := Aside0.mk (blk_below (g := gb369) (o := .cells #[.int .i64 t361, .int .i64 t362, .slice Ao31 t363.length co31, .slice Ao32 t366.length co32] 26 (0, 0)) (by (zq7_1z); refine blk_put (cs := #[.int .i64 t361, .int .i64 t362, .slice Ao31 t363.length co31, .slice none 0 0]) ?_ 3 _ rfl; (zq7_1z); refine blk_put (cs := #[.int .i64 t361, .int .i64 t362, .slice none 0 0, .slice none 0 0]) ?_ 2 _ rfl; (zq7_1z); refine blk_put (cs := #[.int .i64 t361, .int .i64 0, .slice none 0 0, .slice none 0 0]) ?_ 1 _ rfl; (zq7_1z); refine blk_put (cs := #[.int .i64 0, .int .i64 0, .slice none 0 0, .slice none 0 0]) ?_ 0 _ rfl; (zq7_1z); exact BK369.out) hb); have n11_ := Aside0.mk (below_step zq7_11z hb); clear HO347; clear HO350; clear HO355; clear HO358; clear HO365; clear HO368; clear BK341; clear BK360; clear BK369; clear HB; have HO347 := n0_; have HO350 := n1_; have HO355 := n2_; have HO358 := n3_; have HO365 := n4_; have HO368 := n5_; have HO374 := n6_; have HO377 := n7_; have BK341 := n8_; have BK360 := n9_; have BK369 := n10_; have HB := n11_; clear n0_ n1_ n2_ n3_ n4_ n5_ n6_ n7_ n8_ n9_ n10_ n11_; (try clear hb); (try clear hb2); (try clear hk); (try clear hi); (try clear ho0); (try clear ho1)) | ((with_reducible refine gate_dst (N := 7) rfl ?_); refine box_event ?hg (N := 7) ?hd (cs := #[.int .i64 0, .int .i64 0, .slice none 0 0, .slice none 0 0]) (t := 26) ?hr ?_; (case hd => rfl); (case hg => rfl); (case hr => first | (go_simp; done) | (go_simp; rfl)); intro gb379 hg w34 hbox hb; have n0_ := Aside0.mk (Kd.PB_below (by (zq7_4z); exact HO347.out) hb); have n1_ := Aside0.mk (Kd.PB_below (by (zq7_4z); exact HO350.out) hb); have n2_ := Aside0.mk (Kd.R_below (by (zq7_2z); exact HO355.out) hb); have n3_ := Aside0.mk (Kd.R_below (by (zq7_2z); exact HO358.out) hb); have n4_ := Aside0.mk (Kd.PB_below (by (zq7_4z); exact HO365.out) hb); have n5_ := Aside0.mk (Kd.PB_below (by (zq7_4z); exact HO368.out) hb); have n6_ := Aside0.mk (Kd.R_below (by (zq7_2z); exact HO374.out) hb); have n7_ := Aside0.mk (Kd.R_below (by (zq7_2z); exact HO377.out) hb); have n8_ := Aside0.mk zq7_5z; have n9_ := Aside0.mk zq7_8z; have n10_ := Aside0.mk zq7_28z; have n11_ := Aside0.mk (below_step zq7_11z hb); have n12_ := Aside0.mk (hbox); have n13_ := Aside0.mk ((by rw [hg]; exact (below_size zq7_11z) : w.heap.size ≤ gb379)); have n14_ := Aside0.mk ((by rw [hg]; exact (below_size zq7_11z) : w.heap.size ≤ gb379)); have n15_ := Aside0.mk ((by rw [hg]; exact Nat.ne_of_lt zq7_24z : gb341 ≠ gb379)); have n16_ := Aside0.mk ((by rw [hg]; exact Nat.ne_of_gt zq7_24z : gb379 ≠ gb341)); have n17_ := Aside0.mk ((by rw [hg]; exact Nat.ne_of_lt zq7_40z : gb360 ≠ gb379)); have n18_ := Aside0.mk ((by rw [hg]; exact Nat.ne_of_gt zq7_40z : gb379 ≠ gb360)); have n19_ := Aside0.mk ((by rw [hg]; exact Nat.ne_of_lt (blk_lt (g := gb369) (o := .cells #[.int .i64 t361, .int .i64 t362, .slice Ao31 t363.length co31, .slice Ao32 t366.length co32] 26 (0, 0)) (by (zq7_1z); exact BK369.out)) : gb369 ≠ gb379)); have n20_ := Aside0.mk ((by rw [hg]; exact Nat.ne_of_gt (blk_lt (g := gb369) (o := .cells #[.int .i64 t361, .int .i64 t362, .slice Ao31 t363.length co31, .slice Ao32 t366.length co32] 26 (0, 0)) (by (zq7_1z); exact BK369.out)) : gb379 ≠ gb369)); clear HO347; clear HO350; clear HO355; clear HO358; clear HO365; clear HO368; clear HO374; clear HO377; clear BK341; clear BK360; clear BK369; clear HB; have HO347 := n0_; have HO350 := n1_; have HO355 := n2_; have HO358 := n3_; have HO365 := n4_; have HO368 := n5_; have HO374 := n6_; have HO377 := n7_; have BK341 := n8_; have BK360 := n9_; have BK369 := n10_; have HB := n11_; have BK379 := n12_; have GW379 := n13_; have GE379 := n14_; have NB341_379 := n15_; have NB379_341 := n16_; have NB360_379 := n17_; have NB379_360 := n18_; have NB369_379 := n19_; have NB379_369 := n20_; clear n0_ n1_ n2_ n3_ n4_ n5_ n6_ n7_ n8_ n9_ n10_ n11_ n12_ n13_ n14_ n15_ n16_ n17_ n18_ n19_ n20_; clear hb hbox hg; have hnb35 := NB379_341.out; have hnc35 := NB341_379.out; have hnb36 := NB379_360.out; have hnc36 := NB360_379.out; have hnb37 := NB379_369.out; have hnc37 := NB369_379.out; have hcz38_0 : w34.cell? ⟨gb379, 0, none⟩ = some (.int .i64 0) := (blk_cell BK379.out 0).trans rfl; have hcz38_1 : w34.cell? ⟨gb379, 1, none⟩ = some (.int .i64 0) := (blk_cell BK379.out 1).trans rfl; have hcz38_2 : w34.cell? ⟨gb379, 2, none⟩ = some (.slice none 0 0) := (blk_cell BK379.out 2).trans rfl; have hcz38_3 : w34.cell? ⟨gb379, 3, none⟩ = some (.slice none 0 0) := (blk_cell BK379.out 3).trans rfl; have hfz38_0 := blk_frozen BK379.out 0; have hfz38_1 := blk_frozen BK379.out 1; have hfz38_2 := blk_frozen BK379.out 2; have hfz38_3 := blk_frozen BK379.out 3; obtain ⟨Ao39, co39, eo39⟩ := Kd.R_slice HO374.out; subst eo39; obtain ⟨Ao40, co40, eo40⟩ := Kd.R_slice HO377.out; subst eo40))
  (try simp only [Act.put, List.setIfInBounds_toArray, List.set_cons_zero, List.set_cons_succ])
  go_cut [40] (fun v40 wc => ∃ (kq : Nat) (x40_10 : Bool), v40 = .bool x40_10 ∧ Aside0 (laws_FnExactMirrorFigure.j0 kq t359 t378 x40_10 a0_0 a0_1 l0_2 l0_3 t351 t352 t353 t356 t361 t362 t363 t366 t370 t371 t372 t375 = some r) ∧ Aside0 (kq ≤ k) ∧ Aside0 (Kd.R (Kd.int .i64) 3 wc w.heap.size (fun k_ => some k_ ≠ ((.slice Ao24 t356.length co24) : Value).ownBlock ∧ some k_ ≠ ((.slice Ao31 t363.length co31) : Value).ownBlock ∧ some k_ ≠ ((.slice Ao32 t366.length co32) : Value).ownBlock ∧ some k_ ≠ ((.slice Ao39 t372.length co39) : Value).ownBlock ∧ some k_ ≠ ((.slice Ao40 t375.length co40) : Value).ownBlock) (.slice Ao23 t353.length co23) t353) ∧ Aside0 (Kd.R (Kd.int .i64) 3 wc w.heap.size (fun k_ => some k_ ≠ ((.slice Ao23 t353.length co23) : Value).ownBlock ∧ some k_ ≠ ((.slice Ao31 t363.length co31) : Value).ownBlock ∧ some k_ ≠ ((.slice Ao32 t366.length co32) : Value).ownBlock ∧ some k_ ≠ ((.slice Ao39 t372.length co39) : Value).ownBlock ∧ some k_ ≠ ((.slice Ao40 t375.length co40) : Value).ownBlock) (.slice Ao24 t356.length co24) t356) ∧ Aside0 (Kd.PB false (Kd.int .i64) 3 wc w.heap.size (fun k_ => some k_ ≠ ((.slice Ao23 t353.length co23) : Value).ownBlock ∧ some k_ ≠ ((.slice Ao24 t356.length co24) : Value).ownBlock ∧ some k_ ≠ ((.slice Ao32 t366.length co32) : Value).ownBlock ∧ some k_ ≠ ((.slice Ao39 t372.length co39) : Value).ownBlock ∧ some k_ ≠ ((.slice Ao40 t375.length co40) : Value).ownBlock) (.slice Ao31 t363.length co31) t363) ∧ Aside0 (Kd.PB false (Kd.int .i64) 3 wc w.heap.size (fun k_ => some k_ ≠ ((.slice Ao23 t353.length co23) : Value).ownBlock ∧ some k_ ≠ ((.slice Ao24 t356.length co24) : Value).ownBlock ∧ some k_ ≠ ((.slice Ao31 t363.length co31) : Value).ownBlock ∧ some k_ ≠ ((.slice Ao39 t372.length co39) : Value).ownBlock ∧ some k_ ≠ ((.slice Ao40 t375.length co40) : Value).ownBlock) (.slice Ao32 t366.length co32) t366) ∧ Aside0 (Kd.R (Kd.int .i64) 3 wc w.heap.size (fun k_ => some k_ ≠ ((.slice Ao23 t353.length co23) : Value).ownBlock ∧ some k_ ≠ ((.slice Ao24 t356.length co24) : Value).ownBlock ∧ some k_ ≠ ((.slice Ao31 t363.length co31) : Value).ownBlock ∧ some k_ ≠ ((.slice Ao32 t366.length co32) : Value).ownBlock ∧ some k_ ≠ ((.slice Ao40 t375.length co40) : Value).ownBlock) (.slice Ao39 t372.length co39) t372) ∧ Aside0 (Kd.R (Kd.int .i64) 3 wc w.heap.size (fun k_ => some k_ ≠ ((.slice Ao23 t353.length co23) : Value).ownBlock ∧ some k_ ≠ ((.slice Ao24 t356.length co24) : Value).ownBlock ∧ some k_ ≠ ((.slice Ao31 t363.length co31) : Value).ownBlock ∧ some k_ ≠ ((.slice Ao32 t366.length co32) : Value).ownBlock ∧ some k_ ≠ ((.slice Ao39 t372.length co39) : Value).ownBlock) (.slice Ao40 t375.length co40) t375) ∧ Aside0 (wc.heap[gb341]? = some (.cells #[.int .i64 a0_0, .int .i64 a0_1, (.slice A0_2 l0_2.length c0_2), (.slice A0_3 l0_3.length c0_3)] 24 (0, 0))) ∧ Aside0 (wc.heap[gb360]? = some (.cells #[.int .i64 t351, .int .i64 t352, (.slice Ao23 t353.length co23), (.slice Ao24 t356.length co24)] 26 (0, 0))) ∧ Aside0 (wc.heap[gb369]? = some (.cells #[.int .i64 t361, .int .i64 t362, (.slice Ao31 t363.length co31), (.slice Ao32 t366.length co32)] 26 (0, 0))) ∧ Aside0 (wc.heap[gb379]? = some (.cells #[.int .i64 t370, .int .i64 t371, (.slice Ao39 t372.length co39), (.slice Ao40 t375.length co40)] 26 (0, 0))) ∧ Aside0 (Below w.heap.size w wc))
  case first =>
   have H := HC11.out
   clear HC11
   replace H := Option.bind_eq_some_iff.mp H
   obtain ⟨t380, A410, H⟩ := H
   replace H : (if t380 = true then (laws_FnExactMirrorFigure.j0 k t359 t378 (t378 != t359) a0_0 a0_1 l0_2 l0_3 t351 t352 t353 t356 t361 t362 t363 t366 t370 t371 t372 t375) else (laws_FnExactMirrorFigure.j0 k t359 t378 true a0_0 a0_1 l0_2 l0_3 t351 t352 t353 t356 t361 t362 t363 t366 t370 t371 t372 t375)) = some r := H
   have A41 := Aside0.mk A410
   clear A410
   by_cases c42 : t380 = true
   ·subst c42
    have H1 : (laws_FnExactMirrorFigure.j0 k t359 t378 (t378 != t359) a0_0 a0_1 l0_2 l0_3 t351 t352 t353 t356 t361 t362 t363 t366 t370 t371 t372 t375) = some r := by rw [if_pos rfl] at H; exact H
    clear H
    have H := H1
    clear H1
    have H' := Aside0.mk H
    clear H
    have hnb43 := NB379_341.out
    have hnc43 := NB341_379.out
    have hnb44 := NB379_360.out
    have hnc44 := NB360_379.out
    have hnb45 := NB379_369.out
    have hnc45 := NB369_379.out
    have hcz46_0 : w34.cell? ⟨gb379, 0, none⟩ = some (.int .i64 0) := (blk_cell BK379.out 0).trans rfl
    have hcz46_1 : w34.cell? ⟨gb379, 1, none⟩ = some (.int .i64 0) := (blk_cell BK379.out 1).trans rfl
    have hcz46_2 : w34.cell? ⟨gb379, 2, none⟩ = some (.slice none 0 0) := (blk_cell BK379.out 2).trans rfl
    have hcz46_3 : w34.cell? ⟨gb379, 3, none⟩ = some (.slice none 0 0) := (blk_cell BK379.out 3).trans rfl
    have hfz46_0 := blk_frozen BK379.out 0
    have hfz46_1 := blk_frozen BK379.out 1
    have hfz46_2 := blk_frozen BK379.out 2
    have hfz46_3 := blk_frozen BK379.out 3
    have hnb47 := NB360_341.out
    have hnc47 := NB341_360.out
    have hnb48 := NB360_369.out
    have hnc48 := NB369_360.out
    have hcz49_0 : w34.cell? ⟨gb360, 0, none⟩ = some (.int .i64 t351) := (blk_cell BK360.out 0).trans rfl
    have hcz49_1 : w34.cell? ⟨gb360, 1, none⟩ = some (.int .i64 t352) := (blk_cell BK360.out 1).trans rfl
    have hcz49_2 : w34.cell? ⟨gb360, 2, none⟩ = some (.slice Ao23 t353.length co23) := (blk_cell BK360.out 2).trans rfl
    have hcz49_3 : w34.cell? ⟨gb360, 3, none⟩ = some (.slice Ao24 t356.length co24) := (blk_cell BK360.out 3).trans rfl
    have hfz49_0 := blk_frozen BK360.out 0
    have hfz49_1 := blk_frozen BK360.out 1
    have hfz49_2 := blk_frozen BK360.out 2
    have hfz49_3 := blk_frozen BK360.out 3
    go_wp2_with (first | ((with_reducible refine gate_callee (f := 14) rfl ?_); refine goesL_ (some 34) rfl rfl Tryd.func14 (by kernel_rfl) rfl #[.agg #[.int .i64 t370, .int .i64 t371, .slice Ao39 t372.length co39, .slice Ao40 t375.length co40], .agg #[.int .i64 t351, .int .i64 t352, .slice Ao23 t353.length co23, .slice Ao24 t356.length co24]] rfl zq7_6z ?_; (with_reducible refine (laws_eqFigure.calls k t370 t371 _ _ t372 _ _ t375 t351 t352 _ _ t353 _ _ t356 true _ ?side1 ?side2 ?side3 ?side4 ?side5 ?side6 ?side7 ?side8 A41.out).mono ?_); (case side1 => refine (Kd.R_reads' (e := 3) (base := w.heap.size) (ok := fun k_ => ((((((some k_ ≠ (.slice Ao40 t375.length co40 : Value).ownBlock ∧ some k_ ≠ (.slice Ao17 t345.length co17 : Value).ownBlock) ∧ some k_ ≠ (.slice Ao18 t348.length co18 : Value).ownBlock) ∧ some k_ ≠ (.slice Ao23 t353.length co23 : Value).ownBlock) ∧ some k_ ≠ (.slice Ao24 t356.length co24 : Value).ownBlock) ∧ some k_ ≠ (.slice Ao31 t363.length co31 : Value).ownBlock) ∧ some k_ ≠ (.slice Ao32 t366.length co32 : Value).ownBlock)) (n := t372.length) (c := co39) ?_).2.2; exact zq7_20z); (case side2 => exact (Kd.R_reads' HO374.out).2.1); (case side3 => refine (Kd.R_reads' (e := 3) (base := w.heap.size) (ok := fun k_ => ((((((some k_ ≠ (.slice Ao39 t372.length co39 : Value).ownBlock ∧ some k_ ≠ (.slice Ao17 t345.length co17 : Value).ownBlock) ∧ some k_ ≠ (.slice Ao18 t348.length co18 : Value).ownBlock) ∧ some k_ ≠ (.slice Ao23 t353.length co23 : Value).ownBlock) ∧ some k_ ≠ (.slice Ao24 t356.length co24 : Value).ownBlock) ∧ some k_ ≠ (.slice Ao31 t363.length co31 : Value).ownBlock) ∧ some k_ ≠ (.slice Ao32 t366.length co32 : Value).ownBlock)) (n := t375.length) (c := co40) ?_).2.2; exact zq7_21z); (case side4 => exact (Kd.R_reads' HO377.out).2.1); (case side5 => refine (Kd.R_reads' (e := 3) (base := w.heap.size) (ok := fun k_ => ((((((some k_ ≠ (.slice Ao24 t356.length co24 : Value).ownBlock ∧ some k_ ≠ (.slice Ao17 t345.length co17 : Value).ownBlock) ∧ some k_ ≠ (.slice Ao18 t348.length co18 : Value).ownBlock) ∧ some k_ ≠ (.slice Ao31 t363.length co31 : Value).ownBlock) ∧ some k_ ≠ (.slice Ao32 t366.length co32 : Value).ownBlock) ∧ some k_ ≠ (.slice Ao39 t372.length co39 : Value).ownBlock) ∧ some k_ ≠ (.slice Ao40 t375.length co40 : Value).ownBlock)) (n := t353.length) (c := co23) ?_).2.2; exact zq7_22z); (case side6 => exact (Kd.R_reads' HO355.out).2.1); (case side7 => refine (Kd.R_reads' (e := 3) (base := w.heap.size) (ok := fun k_ => ((((((some k_ ≠ (.slice Ao23 t353.length co23 : Value).ownBlock ∧ some k_ ≠ (.slice Ao17 t345.length co17 : Value).ownBlock) ∧ some k_ ≠ (.slice Ao18 t348.length co18 : Value).ownBlock) ∧ some k_ ≠ (.slice Ao31 t363.length co31 : Value).ownBlock) ∧ some k_ ≠ (.slice Ao32 t366.length co32 : Value).ownBlock) ∧ some k_ ≠ (.slice Ao39 t372.length co39 : Value).ownBlock) ∧ some k_ ≠ (.slice Ao40 t375.length co40 : Value).ownBlock)) (n := t356.length) (c := co24) ?_).2.2; exact zq7_23z); (case side8 => exact (Kd.R_reads' HO358.out).2.1); rintro e w50 ⟨rfl, hb⟩; refine ⟨_, rfl, ?_⟩; have n0_ := Aside0.mk zq7_54z; have n1_ := Aside0.mk zq7_55z; have n2_ := Aside0.mk (Kd.R_below zq7_22z hb); have n3_ := Aside0.mk (Kd.R_below zq7_23z hb); have n4_ := Aside0.mk zq7_56z; have n5_ := Aside0.mk zq7_57z; have n6_ := Aside0.mk (Kd.R_below zq7_20z hb); have n7_ := Aside0.mk (Kd.R_below zq7_21z hb); have n8_ := Aside0.mk (blk_below (g := gb341) (o := .cells #[.int .i64 a0_0, .int .i64 a0_1, .slice A0_2 l0_2.length c0_2, .slice A0_3 l0_3.length c0_3] 24 (0, 0)) (by (zq7_1z); refine blk_far ?_ NB341_379.out _; (zq7_1z); refine blk_far ?_ NB341_379.out _; (zq7_1z); refine blk_far ?_ NB341_379.out _; (zq7_1z); refine blk_far ?_ NB341_379.out _; (zq7_1z); exact BK341.out) hb); have n9_ := Aside0.mk (blk_below (g := gb360) (o := .cells #[.int .i64 t351, .int .i64 t352, .slice Ao23 t353.length co23, .slice Ao24 t356.length co24] 26 (0, 0)) (by (zq7_1z); refine blk_far ?_ NB360_379.out _; (zq7_1z); refine blk_far ?_ NB360_379.out _; (zq7_1z); refine blk_far ?_ NB360_379.out _; (zq7_1z); refine blk_far ?_ NB360_379.out _; (zq7_1z); exact BK360.out) hb); have n10_ := Aside0.mk (blk_below (g := gb369) (o := .cells #[.int .i64 t361, .int .i64 t362, .slice Ao31 t363.length co31, .slice Ao32 t366.length co32] 26 (0, 0)) (by (zq7_1z); refine blk_far ?_ NB369_379.out _; (zq7_1z); refine blk_far ?_ NB369_379.out _; (zq7_1z); refine blk_far ?_ NB369_379.out _; (zq7_1z); refine blk_far ?_ NB369_379.out _; (zq7_1z); exact BK369.out) hb); have n11_ := Aside0.mk zq7_45z; have n12_ := Aside0.mk (below_step (by repeat (zq7_3z)) hb); clear HO347; clear HO350; clear HO355; clear HO358; clear HO365; clear HO368; clear HO374; clear HO377; clear BK341; clear BK360; clear BK369; clear BK379; clear HB; have HO347 := n0_; have HO350 := n1_; have HO355 := n2_; have HO358 := n3_; have HO365 := n4_; have HO368 := n5_; have HO374 := n6_; have HO377 := n7_; have BK341 := n8_; have BK360 := n9_; have BK369 := n10_; have BK379 := n11_; have HB := n12_; clear n0_ n1_ n2_ n3_ n4_ n5_ n6_ n7_ n8_ n9_ n10_ n11_ n12_; (try clear hb); (try clear hb2); (try clear hk); (try clear hi)))
    go_meet
    case rel => exact ⟨_, ((t378 != t359)), (by first | rfl | (simp; done) | (simp [*]; done)), H', ⟨by first | omega | exact Nat.le_refl _⟩, ⟨by (zq7_2z); exact Kd.R_mono HO355.out (fun _ hk => ⟨hk.1.1.1.1.1.1, ⟨hk.1.1.1.2, ⟨hk.1.1.2, ⟨hk.1.2, hk.2⟩⟩⟩⟩)⟩, ⟨by (zq7_2z); exact Kd.R_mono HO358.out (fun _ hk => ⟨hk.1.1.1.1.1.1, ⟨hk.1.1.1.2, ⟨hk.1.1.2, ⟨hk.1.2, hk.2⟩⟩⟩⟩)⟩, ⟨by (zq7_4z); exact Kd.PB_mono HO365.out (fun _ hk => ⟨hk.1.1.1.2, ⟨hk.1.1.2, ⟨hk.1.1.1.1.1.1, ⟨hk.1.2, hk.2⟩⟩⟩⟩)⟩, ⟨by (zq7_4z); exact Kd.PB_mono HO368.out (fun _ hk => ⟨hk.1.1.1.2, ⟨hk.1.1.2, ⟨hk.1.1.1.1.1.1, ⟨hk.1.2, hk.2⟩⟩⟩⟩)⟩, ⟨by (zq7_2z); exact Kd.R_mono HO374.out (fun _ hk => ⟨hk.1.1.1.2, ⟨hk.1.1.2, ⟨hk.1.2, ⟨hk.2, hk.1.1.1.1.1.1⟩⟩⟩⟩)⟩, ⟨by (zq7_2z); exact Kd.R_mono HO377.out (fun _ hk => ⟨hk.1.1.1.2, ⟨hk.1.1.2, ⟨hk.1.2, ⟨hk.2, hk.1.1.1.1.1.1⟩⟩⟩⟩)⟩, ⟨by (zq7_1z); exact BK341.out⟩, ⟨by (zq7_1z); exact BK360.out⟩, ⟨by (zq7_1z); exact BK369.out⟩, ⟨by (zq7_1z); exact BK379.out⟩, ⟨by repeat (zq7_3z)⟩⟩
   ·replace c42 := Bool.eq_false_iff.mpr c42
    subst c42
    have H1 : (laws_FnExactMirrorFigure.j0 k t359 t378 true a0_0 a0_1 l0_2 l0_3 t351 t352 t353 t356 t361 t362 t363 t366 t370 t371 t372 t375) = some r := by rw [if_neg (show ¬ (false = true) by decide)] at H; exact H
    clear H
    have H := H1
    clear H1
    have H' := Aside0.mk H
    clear H
    have hnb51 := NB379_341.out
    have hnc51 := NB341_379.out
    have hnb52 := NB379_360.out
    have hnc52 := NB360_379.out
    have hnb53 := NB379_369.out
    have hnc53 := NB369_379.out
    have hcz54_0 : w34.cell? ⟨gb379, 0, none⟩ = some (.int .i64 0) := (blk_cell BK379.out 0).trans rfl
    have hcz54_1 : w34.cell? ⟨gb379, 1, none⟩ = some (.int .i64 0) := (blk_cell BK379.out 1).trans rfl
    have hcz54_2 : w34.cell? ⟨gb379, 2, none⟩ = some (.slice none 0 0) := (blk_cell BK379.out 2).trans rfl
    have hcz54_3 : w34.cell? ⟨gb379, 3, none⟩ = some (.slice none 0 0) := (blk_cell BK379.out 3).trans rfl
    have hfz54_0 := blk_frozen BK379.out 0
    have hfz54_1 := blk_frozen BK379.out 1
    have hfz54_2 := blk_frozen BK379.out 2
    have hfz54_3 := blk_frozen BK379.out 3
    have hnb55 := NB360_341.out
    have hnc55 := NB341_360.out
    have hnb56 := NB360_369.out
    have hnc56 := NB369_360.out
    have hcz57_0 : w34.cell? ⟨gb360, 0, none⟩ = some (.int .i64 t351) := (blk_cell BK360.out 0).trans rfl
    have hcz57_1 : w34.cell? ⟨gb360, 1, none⟩ = some (.int .i64 t352) := (blk_cell BK360.out 1).trans rfl
    have hcz57_2 : w34.cell? ⟨gb360, 2, none⟩ = some (.slice Ao23 t353.length co23) := (blk_cell BK360.out 2).trans rfl
    have hcz57_3 : w34.cell? ⟨gb360, 3, none⟩ = some (.slice Ao24 t356.length co24) := (blk_cell BK360.out 3).trans rfl
    have hfz57_0 := blk_frozen BK360.out 0
    have hfz57_1 := blk_frozen BK360.out 1
    have hfz57_2 := blk_frozen BK360.out 2
    have hfz57_3 := blk_frozen BK360.out 3
    go_wp2_with (first | ((with_reducible refine gate_callee (f := 14) rfl ?_); refine goesL_ (some 34) rfl rfl Tryd.func14 (by kernel_rfl) rfl #[.agg #[.int .i64 t370, .int .i64 t371, .slice Ao39 t372.length co39, .slice Ao40 t375.length co40], .agg #[.int .i64 t351, .int .i64 t352, .slice Ao23 t353.length co23, .slice Ao24 t356.length co24]] rfl zq7_6z ?_; (with_reducible refine (laws_eqFigure.calls k t370 t371 _ _ t372 _ _ t375 t351 t352 _ _ t353 _ _ t356 false _ ?side1 ?side2 ?side3 ?side4 ?side5 ?side6 ?side7 ?side8 A41.out).mono ?_); (case side1 => refine (Kd.R_reads' (e := 3) (base := w.heap.size) (ok := fun k_ => ((((((some k_ ≠ (.slice Ao40 t375.length co40 : Value).ownBlock ∧ some k_ ≠ (.slice Ao17 t345.length co17 : Value).ownBlock) ∧ some k_ ≠ (.slice Ao18 t348.length co18 : Value).ownBlock) ∧ some k_ ≠ (.slice Ao23 t353.length co23 : Value).ownBlock) ∧ some k_ ≠ (.slice Ao24 t356.length co24 : Value).ownBlock) ∧ some k_ ≠ (.slice Ao31 t363.length co31 : Value).ownBlock) ∧ some k_ ≠ (.slice Ao32 t366.length co32 : Value).ownBlock)) (n := t372.length) (c := co39) ?_).2.2; exact zq7_20z); (case side2 => exact (Kd.R_reads' HO374.out).2.1); (case side3 => refine (Kd.R_reads' (e := 3) (base := w.heap.size) (ok := fun k_ => ((((((some k_ ≠ (.slice Ao39 t372.length co39 : Value).ownBlock ∧ some k_ ≠ (.slice Ao17 t345.length co17 : Value).ownBlock) ∧ some k_ ≠ (.slice Ao18 t348.length co18 : Value).ownBlock) ∧ some k_ ≠ (.slice Ao23 t353.length co23 : Value).ownBlock) ∧ some k_ ≠ (.slice Ao24 t356.length co24 : Value).ownBlock) ∧ some k_ ≠ (.slice Ao31 t363.length co31 : Value).ownBlock) ∧ some k_ ≠ (.slice Ao32 t366.length co32 : Value).ownBlock)) (n := t375.length) (c := co40) ?_).2.2; exact zq7_21z); (case side4 => exact (Kd.R_reads' HO377.out).2.1); (case side5 => refine (Kd.R_reads' (e := 3) (base := w.heap.size) (ok := fun k_ => ((((((some k_ ≠ (.slice Ao24 t356.length co24 : Value).ownBlock ∧ some k_ ≠ (.slice Ao17 t345.length co17 : Value).ownBlock) ∧ some k_ ≠ (.slice Ao18 t348.length co18 : Value).ownBlock) ∧ some k_ ≠ (.slice Ao31 t363.length co31 : Value).ownBlock) ∧ some k_ ≠ (.slice Ao32 t366.length co32 : Value).ownBlock) ∧ some k_ ≠ (.slice Ao39 t372.length co39 : Value).ownBlock) ∧ some k_ ≠ (.slice Ao40 t375.length co40 : Value).ownBlock)) (n := t353.length) (c := co23) ?_).2.2; exact zq7_22z); (case side6 => exact (Kd.R_reads' HO355.out).2.1); (case side7 => refine (Kd.R_reads' (e := 3) (base := w.heap.size) (ok := fun k_ => ((((((some k_ ≠ (.slice Ao23 t353.length co23 : Value).ownBlock ∧ some k_ ≠ (.slice Ao17 t345.length co17 : Value).ownBlock) ∧ some k_ ≠ (.slice Ao18 t348.length co18 : Value).ownBlock) ∧ some k_ ≠ (.slice Ao31 t363.length co31 : Value).ownBlock) ∧ some k_ ≠ (.slice Ao32 t366.length co32 : Value).ownBlock) ∧ some k_ ≠ (.slice Ao39 t372.length co39 : Value).ownBlock) ∧ some k_ ≠ (.slice Ao40 t375.length co40 : Value).ownBlock)) (n := t356.length) (c := co24) ?_).2.2; exact zq7_23z); (case side8 => exact (Kd.R_reads' HO358.out).2.1); rintro e w58 ⟨rfl, hb⟩; refine ⟨_, rfl, ?_⟩; have n0_ := Aside0.mk zq7_54z; have n1_ := Aside0.mk zq7_55z; have n2_ := Aside0.mk (Kd.R_below zq7_22z hb); have n3_ := Aside0.mk (Kd.R_below zq7_23z hb); have n4_ := Aside0.mk zq7_56z; have n5_ := Aside0.mk zq7_57z; have n6_ := Aside0.mk (Kd.R_below zq7_20z hb); have n7_ := Aside0.mk (Kd.R_below zq7_21z hb); have n8_ := Aside0.mk (blk_below (g := gb341) (o := .cells #[.int .i64 a0_0, .int .i64 a0_1, .slice A0_2 l0_2.length c0_2, .slice A0_3 l0_3.length c0_3] 24 (0, 0)) (by (zq7_1z); refine blk_far ?_ NB341_379.out _; (zq7_1z); refine blk_far ?_ NB341_379.out _; (zq7_1z); refine blk_far ?_ NB341_379.out _; (zq7_1z); refine blk_far ?_ NB341_379.out _; (zq7_1z); exact BK341.out) hb); have n9_ := Aside0.mk (blk_below (g := gb360) (o := .cells #[.int .i64 t351, .int .i64 t352, .slice Ao23 t353.length co23, .slice Ao24 t356.length co24] 26 (0, 0)) (by (zq7_1z); refine blk_far ?_ NB360_379.out _; (zq7_1z); refine blk_far ?_ NB360_379.out _; (zq7_1z); refine blk_far ?_ NB360_379.out _; (zq7_1z); refine blk_far ?_ NB360_379.out _; (zq7_1z); exact BK360.out) hb); have n10_ := Aside0.mk (blk_below (g := gb369) (o := .cells #[.int .i64 t361, .int .i64 t362, .slice Ao31 t363.length co31, .slice Ao32 t366.length co32] 26 (0, 0)) (by (zq7_1z); refine blk_far ?_ NB369_379.out _; (zq7_1z); refine blk_far ?_ NB369_379.out _; (zq7_1z); refine blk_far ?_ NB369_379.out _; (zq7_1z); refine blk_far ?_ NB369_379.out _; (zq7_1z); exact BK369.out) hb); have n11_ := Aside0.mk zq7_45z; have n12_ := Aside0.mk (below_step (by repeat (zq7_3z)) hb); clear HO347; clear HO350; clear HO355; clear HO358; clear HO365; clear HO368; clear HO374; clear HO377; clear BK341; clear BK360; clear BK369; clear BK379; clear HB; have HO347 := n0_; have HO350 := n1_; have HO355 := n2_; have HO358 := n3_; have HO365 := n4_; have HO368 := n5_; have HO374 := n6_; have HO377 := n7_; have BK341 := n8_; have BK360 := n9_; have BK369 := n10_; have BK379 := n11_; have HB := n12_; clear n0_ n1_ n2_ n3_ n4_ n5_ n6_ n7_ n8_ n9_ n10_ n11_ n12_; (try clear hb); (try clear hb2); (try clear hk); (try clear hi)))
    go_meet
    case rel => exact ⟨_, (true), (by first | rfl | (simp; done) | (simp [*]; done)), H', ⟨by first | omega | exact Nat.le_refl _⟩, ⟨by (zq7_2z); exact Kd.R_mono HO355.out (fun _ hk => ⟨hk.1.1.1.1.1.1, ⟨hk.1.1.1.2, ⟨hk.1.1.2, ⟨hk.1.2, hk.2⟩⟩⟩⟩)⟩, ⟨by (zq7_2z); exact Kd.R_mono HO358.out (fun _ hk => ⟨hk.1.1.1.1.1.1, ⟨hk.1.1.1.2, ⟨hk.1.1.2, ⟨hk.1.2, hk.2⟩⟩⟩⟩)⟩, ⟨by (zq7_4z); exact Kd.PB_mono HO365.out (fun _ hk => ⟨hk.1.1.1.2, ⟨hk.1.1.2, ⟨hk.1.1.1.1.1.1, ⟨hk.1.2, hk.2⟩⟩⟩⟩)⟩, ⟨by (zq7_4z); exact Kd.PB_mono HO368.out (fun _ hk => ⟨hk.1.1.1.2, ⟨hk.1.1.2, ⟨hk.1.1.1.1.1.1, ⟨hk.1.2, hk.2⟩⟩⟩⟩)⟩, ⟨by (zq7_2z); exact Kd.R_mono HO374.out (fun _ hk => ⟨hk.1.1.1.2, ⟨hk.1.1.2, ⟨hk.1.2, ⟨hk.2, hk.1.1.1.1.1.1⟩⟩⟩⟩)⟩, ⟨by (zq7_2z); exact Kd.R_mono HO377.out (fun _ hk => ⟨hk.1.1.1.2, ⟨hk.1.1.2, ⟨hk.1.2, ⟨hk.2, hk.1.1.1.1.1.1⟩⟩⟩⟩)⟩, ⟨by (zq7_1z); exact BK341.out⟩, ⟨by (zq7_1z); exact BK360.out⟩, ⟨by (zq7_1z); exact BK369.out⟩, ⟨by (zq7_1z); exact BK379.out⟩, ⟨by repeat (zq7_3z)⟩⟩
  case rest =>
   clear HC11
   try clear c1
   try clear c2
   try clear p2
   try clear c3
   try clear c3b0
   try clear c4
   try clear c5
   try clear c7
   try clear c10
   try clear c12
   try clear c14
   try clear c21
   try clear c27
   try clear c28
   try clear c29
   try clear c35
   try clear c36
   try clear c37
   try clear c42
   try clear c43
   try clear c44
   try clear c45
   try clear c47
   try clear c48
   try clear c51
   try clear c52
   try clear c53
   try clear c55
   try clear c56
   try clear hcz13_0
   try clear hcz13_1
   try clear hcz13_2
   try clear hcz13_3
   try clear hcz15_0
   try clear hcz15_1
   try clear hcz15_2
   try clear hcz15_3
   try clear hcz22_0
   try clear hcz22_1
   try clear hcz22_2
   try clear hcz22_3
   try clear hcz25_0
   try clear hcz25_1
   try clear hcz25_2
   try clear hcz25_3
   try clear hcz30_0
   try clear hcz30_1
   try clear hcz30_2
   try clear hcz30_3
   try clear hcz38_0
   try clear hcz38_1
   try clear hcz38_2
   try clear hcz38_3
   try clear hcz46_0
   try clear hcz46_1
   try clear hcz46_2
   try clear hcz46_3
   try clear hcz49_0
   try clear hcz49_1
   try clear hcz49_2
   try clear hcz49_3
   try clear hcz54_0
   try clear hcz54_1
   try clear hcz54_2
   try clear hcz54_3
   try clear hcz57_0
   try clear hcz57_1
   try clear hcz57_2
   try clear hcz57_3
   try clear hcz5_0
   try clear hcz5_1
   try clear hcz5_2
   try clear hcz5_3
   try clear hfz13_0
   try clear hfz13_1
   try clear hfz13_2
   try clear hfz13_3
   try clear hfz15_0
   try clear hfz15_1
   try clear hfz15_2
   try clear hfz15_3
   try clear hfz22_0
   try clear hfz22_1
   try clear hfz22_2
   try clear hfz22_3
   try clear hfz25_0
   try clear hfz25_1
   try clear hfz25_2
   try clear hfz25_3
   try clear hfz30_0
   try clear hfz30_1
   try clear hfz30_2
   try clear hfz30_3
   try clear hfz38_0
   try clear hfz38_1
   try clear hfz38_2
   try clear hfz38_3
   try clear hfz46_0
   try clear hfz46_1
   try clear hfz46_2
   try clear hfz46_3
   try clear hfz49_0
   try clear hfz49_1
   try clear hfz49_2
   try clear hfz49_3
   try clear hfz54_0
   try clear hfz54_1
   try clear hfz54_2
   try clear hfz54_3
   try clear hfz57_0
   try clear hfz57_1
   try clear hfz57_2
   try clear hfz57_3
   try clear hfz5_0
   try clear hfz5_1
   try clear hfz5_2
   try clear hfz5_3
   obtain ⟨kq, x40_10, rfl, HA, HJ10, HO_361002, HO_361003, HO_370002, HO_370003, HO_380002, HO_380003, BK341, BK360, BK369, BK379, HB⟩ := hcut
   cases kq with
   | zero => exact absurd HA.out (by simp [laws_FnExactMirrorFigure.j0])
   | succ kj10 =>
    have H := HA.out
    clear HA
    simp only [laws_FnExactMirrorFigure.j0] at H
    by_cases c59 : x40_10 = true
    ·subst c59
     have H1 : (some false) = some r := by rw [if_pos rfl] at H; exact H
     clear H
     have H := H1
     clear H1
     obtain rfl := Option.some.inj H
     go_wp2
     go_ret
     zq7_47z
    ·replace c59 := Bool.eq_false_iff.mpr c59
     subst c59
     have H1 : ((laws_toFigure.f a0_0 a0_1 l0_2 l0_3 false).bind fun bt381 => ((laws_intactFigure.f t361 t362 t363 t366 bt381.1 bt381.2.1 bt381.2.2.1 bt381.2.2.2).bind fun t389 => (if t389 = true then ((laws_markFigure.f kj10 t361 t362 t363 t366 101).bind fun bt390 => (if bt390.1 < 0 then (laws_FnExactMirrorFigure.j1 kj10 t359 true a0_0 a0_1 l0_2 l0_3 t351 t352 t353 t356 t370 t371 t372 t375) else ((laws_eqFigure.f kj10 t370 t371 t372 t375 t351 t352 t353 t356).bind fun t393 => (if t393 = true then (laws_FnExactMirrorFigure.j1 kj10 t359 (t378 != t359) a0_0 a0_1 l0_2 l0_3 t351 t352 t353 t356 t370 t371 t372 t375) else (laws_FnExactMirrorFigure.j1 kj10 t359 true a0_0 a0_1 l0_2 l0_3 t351 t352 t353 t356 t370 t371 t372 t375))))) else (some false)))) = some r := by rw [if_neg (show ¬ (false = true) by decide)] at H; exact H
     clear H
     have H := H1
     clear H1
     replace H := Option.bind_eq_some_iff.mp H
     obtain ⟨⟨t381, t382, t383, t386⟩, A600, H⟩ := H
     replace H : ((laws_intactFigure.f t361 t362 t363 t366 t381 t382 t383 t386).bind fun t389 => (if t389 = true then ((laws_markFigure.f kj10 t361 t362 t363 t366 101).bind fun bt390 => (if bt390.1 < 0 then (laws_FnExactMirrorFigure.j1 kj10 t359 true a0_0 a0_1 l0_2 l0_3 t351 t352 t353 t356 t370 t371 t372 t375) else ((laws_eqFigure.f kj10 t370 t371 t372 t375 t351 t352 t353 t356).bind fun t393 => (if t393 = true then (laws_FnExactMirrorFigure.j1 kj10 t359 (t378 != t359) a0_0 a0_1 l0_2 l0_3 t351 t352 t353 t356 t370 t371 t372 t375) else (laws_FnExactMirrorFigure.j1 kj10 t359 true a0_0 a0_1 l0_2 l0_3 t351 t352 t353 t356 t370 t371 t372 t375))))) else (some false))) = some r := H
     have A60 := Aside0.mk A600
     clear A600
     replace H := Option.bind_eq_some_iff.mp H
     obtain ⟨t389, A610, H⟩ := H
     replace H : (if t389 = true then ((laws_markFigure.f kj10 t361 t362 t363 t366 101).bind fun bt390 => (if bt390.1 < 0 then (laws_FnExactMirrorFigure.j1 kj10 t359 true a0_0 a0_1 l0_2 l0_3 t351 t352 t353 t356 t370 t371 t372 t375) else ((laws_eqFigure.f kj10 t370 t371 t372 t375 t351 t352 t353 t356).bind fun t393 => (if t393 = true then (laws_FnExactMirrorFigure.j1 kj10 t359 (t378 != t359) a0_0 a0_1 l0_2 l0_3 t351 t352 t353 t356 t370 t371 t372 t375) else (laws_FnExactMirrorFigure.j1 kj10 t359 true a0_0 a0_1 l0_2 l0_3 t351 t352 t353 t356 t370 t371 t372 t375))))) else (some false)) = some r := H
     have A61 := Aside0.mk A610
     clear A610
     by_cases c62 : t389 = true
     ·subst c62
      have H1 : ((laws_markFigure.f kj10 t361 t362 t363 t366 101).bind fun bt390 => (if bt390.1 < 0 then (laws_FnExactMirrorFigure.j1 kj10 t359 true a0_0 a0_1 l0_2 l0_3 t351 t352 t353 t356 t370 t371 t372 t375) else ((laws_eqFigure.f kj10 t370 t371 t372 t375 t351 t352 t353 t356).bind fun t393 => (if t393 = true then (laws_FnExactMirrorFigure.j1 kj10 t359 (t378 != t359) a0_0 a0_1 l0_2 l0_3 t351 t352 t353 t356 t370 t371 t372 t375) else (laws_FnExactMirrorFigure.j1 kj10 t359 true a0_0 a0_1 l0_2 l0_3 t351 t352 t353 t356 t370 t371 t372 t375))))) = some r := by rw [if_pos rfl] at H; exact H
      clear H
      have H := H1
      clear H1
      replace H := Option.bind_eq_some_iff.mp H
      obtain ⟨⟨t390, t391, t392⟩, A630, H⟩ := H
      replace H : (if t390 < 0 then (laws_FnExactMirrorFigure.j1 kj10 t359 true a0_0 a0_1 l0_2 l0_3 t351 t352 t353 t356 t370 t371 t372 t375) else ((laws_eqFigure.f kj10 t370 t371 t372 t375 t351 t352 t353 t356).bind fun t393 => (if t393 = true then (laws_FnExactMirrorFigure.j1 kj10 t359 (t378 != t359) a0_0 a0_1 l0_2 l0_3 t351 t352 t353 t356 t370 t371 t372 t375) else (laws_FnExactMirrorFigure.j1 kj10 t359 true a0_0 a0_1 l0_2 l0_3 t351 t352 t353 t356 t370 t371 t372 t375)))) = some r := H
      have A63 := Aside0.mk A630
      clear A630
      have HC64 := Aside0.mk H
      clear H
      try go_wp2
      have n0_ := Aside0.mk (Kd.R_drew HO_361002.out)
      have n1_ := Aside0.mk (Kd.R_drew HO_361003.out)
      have n2_ := Aside0.mk (Kd.PB_drew HO_370002.out)
      have n3_ := Aside0.mk (Kd.PB_drew HO_370003.out)
      have n4_ := Aside0.mk (Kd.R_drew HO_380002.out)
      have n5_ := Aside0.mk (Kd.R_drew HO_380003.out)
      have n6_ := Aside0.mk (blk_drew BK341.out)
      have n7_ := Aside0.mk (blk_drew BK360.out)
      have n8_ := Aside0.mk (blk_drew BK369.out)
      have n9_ := Aside0.mk (blk_drew BK379.out)
      have n10_ := Aside0.mk (below_drew1 HB.out)
      clear HO_361002
      clear HO_361003
      clear HO_370002
      clear HO_370003
      clear HO_380002
      clear HO_380003
      clear BK341
      clear BK360
      clear BK369
      clear BK379
      clear HB
      have HO_361002 := n0_
      have HO_361003 := n1_
      have HO_370002 := n2_
      have HO_370003 := n3_
      have HO_380002 := n4_
      have HO_380003 := n5_
      have BK341 := n6_
      have BK360 := n7_
      have BK369 := n8_
      have BK379 := n9_
      have HB := n10_
      clear n0_ n1_ n2_ n3_ n4_ n5_ n6_ n7_ n8_ n9_ n10_
      zq7_30z
      generalize wc.drew = w65 at HO_361002 HO_361003 HO_370002 HO_370003 HO_380002 HO_380003 BK341 BK360 BK369 BK379 HB hHeld ⊢
      refine take_ (i := 0) (N := some 41) (v := ?_) (a' := ?_) #[true, false, false, false, false] rfl rfl (by kernel_rfl) (fun _ _ _ h => h) (Or.inl ⟨by rfl, ?_⟩) hHeld ?_ ?_
      rotate_left
      ·rintro w' ⟨s0, s1, s2, s3, s4, s5, s6, s7⟩
       go_simp
       with_reducible rfl
      rotate_left
      ·zq7_35z
       rfl
      refine take_ (i := 1) (N := some 42) (v := ?_) (a' := ?_) #[true, true, false, false, false] rfl rfl (by kernel_rfl) (fun _ _ _ h => h) (Or.inl ⟨by rfl, ?_⟩) hHeld ?_ ?_
      rotate_left
      ·rintro w' ⟨s0, s1, s2, s3, s4, s5, s6, s7⟩
       go_simp
       with_reducible rfl
      rotate_left
      ·zq7_35z
       rfl
      refine one_ (i := 2) (N := some 43) #[true, true, true, false, false] rfl rfl (by kernel_rfl) (by decide) (fun K hK => ?_)
      refine goes_ Tryd.func12 (by kernel_rfl) rfl #[.agg #[.int .i64 a0_0, .int .i64 a0_1, .slice A0_2 l0_2.length c0_2, .slice A0_3 l0_3.length c0_3], .bool false] (by rfl) rfl rfl zq7_6z ?_
      with_reducible refine (laws_toFigure.calls a0_0 a0_1 _ _ l0_2 _ _ l0_3 false t381 t382 t383 t386 _ ?side1 ?side2 ?side3 ?side4 A60.out).mono ?_
      (case side1 => repeat (zq7_41z))
      (case side2 => exact HC0_2.out)
      (case side3 => repeat (zq7_42z))
      (case side4 => exact HC0_3.out)
      rintro e w66 ⟨v384, v387, rfl, ho0, ho1, hb⟩
      refine ⟨_, rfl, ?_⟩
      have n0_ := Aside0.mk (Kd.R_mono (Kd.R_told (Kd.R_told (Kd.R_old (by (zq7_2z); exact HO_361002.out) hb) (Kd.PB_base ho0)) (Kd.PB_base ho1)) (fun _ h_ => h_.1))
      have n1_ := Aside0.mk (Kd.R_mono (Kd.R_told (Kd.R_told (Kd.R_old (by (zq7_2z); exact HO_361003.out) hb) (Kd.PB_base ho0)) (Kd.PB_base ho1)) (fun _ h_ => h_.1))
      have n2_ := Aside0.mk (Kd.PB_mono (Kd.PB_told (Kd.PB_told (Kd.PB_old (by (zq7_4z); exact HO_370002.out) hb) (Kd.PB_base ho0)) (Kd.PB_base ho1)) (fun _ h_ => h_.1))
      have n3_ := Aside0.mk (Kd.PB_mono (Kd.PB_told (Kd.PB_told (Kd.PB_old (by (zq7_4z); exact HO_370003.out) hb) (Kd.PB_base ho0)) (Kd.PB_base ho1)) (fun _ h_ => h_.1))
      have n4_ := Aside0.mk (Kd.R_mono (Kd.R_told (Kd.R_told (Kd.R_old (by (zq7_2z); exact HO_380002.out) hb) (Kd.PB_base ho0)) (Kd.PB_base ho1)) (fun _ h_ => h_.1))
      have n5_ := Aside0.mk (Kd.R_mono (Kd.R_told (Kd.R_told (Kd.R_old (by (zq7_2z); exact HO_380003.out) hb) (Kd.PB_base ho0)) (Kd.PB_base ho1)) (fun _ h_ => h_.1))
      zq7_58z
      zq7_59z
      have n8_ := Aside0.mk zq7_5z
      have n9_ := Aside0.mk zq7_8z
      have n10_ := Aside0.mk zq7_28z
      have n11_ := Aside0.mk zq7_9z
      have n12_ := Aside0.mk (below_step (by repeat (zq7_3z)) hb)
      clear HO_361002
      clear HO_361003
      clear HO_370002
      clear HO_370003
      clear HO_380002
      clear HO_380003
      clear BK341
      clear BK360
      clear BK369
      clear BK379
      clear HB
      have HO_361002 := n0_
      have HO_361003 := n1_
      have HO_370002 := n2_
      have HO_370003 := n3_
      have HO_380002 := n4_
      have HO_380003 := n5_
      have HO385 := n6_
      have HO388 := n7_
      have BK341 := n8_
      have BK360 := n9_
      have BK369 := n10_
      have BK379 := n11_
      have HB := n12_
      clear n0_ n1_ n2_ n3_ n4_ n5_ n6_ n7_ n8_ n9_ n10_ n11_ n12_
      (try clear hb)
      (try clear hb2)
      (try clear hk)
      (try clear hi)
      (try clear ho0)
      (try clear ho1)
      obtain ⟨Ao67, co67, eo67⟩ := Kd.PB_slice HO385.out
      (first | subst eo67 | (injection eo67 with f1_ f2_ f3_; have f4_ := f1_.symm; have f5_ := f3_.symm; clear f1_ f2_ f3_; subst f4_; subst f5_))
      obtain ⟨Ao68, co68, eo68⟩ := Kd.PB_slice HO388.out
      (first | subst eo68 | (injection eo68 with f1_ f2_ f3_; have f4_ := f1_.symm; have f5_ := f3_.symm; clear f1_ f2_ f3_; subst f4_; subst f5_))
      zq7_29z
      clear hK K
      refine norm_ (a' := ?_) ?_ ?_
      rotate_left
      ·show Act.put _ (some 43) _ = _
       zq7_35z
       rfl
      refine one_ (i := 3) (N := some 44) #[true, true, true, true, false] rfl rfl (by kernel_rfl) (by decide) (fun K hK => ?_)
      refine goes_ Tryd.func15 (by kernel_rfl) rfl #[.agg #[.int .i64 t361, .int .i64 t362, .slice Ao31 t363.length co31, .slice Ao32 t366.length co32], .agg #[.int .i64 t381, .int .i64 t382, .slice Ao67 t383.length co67, .slice Ao68 t386.length co68]] (by rfl) rfl rfl zq7_6z ?_
      with_reducible refine (laws_intactFigure.calls t361 t362 _ _ t363 _ _ t366 t381 t382 _ _ t383 _ _ t386 true _ ?side1 ?side2 ?side3 ?side4 ?side5 ?side6 ?side7 ?side8 ?side9 ?side10 ?side11 ?side12 A61.out).mono ?_
      (case side1 => repeat (first | exact (Kd.PB_reads' HO_370002.out).2.2 | (with_reducible refine Kd.C_alloc ?_ _) | (with_reducible refine Kd.C_drewN ?_ _) | (with_reducible refine Kd.C_drew ?_)))
      (case side2 => exact (Kd.PB_reads' HO_370002.out).2.1)
      (case side3 => repeat (first | exact Kd.PB_sp HO_370002.out | (with_reducible refine Kd.Sp_alloc ?_ _) | (with_reducible refine Kd.Sp_drewN ?_ _) | (with_reducible refine Kd.Sp_drew ?_)))
      (case side4 => repeat (first | exact (Kd.PB_reads' HO_370003.out).2.2 | (with_reducible refine Kd.C_alloc ?_ _) | (with_reducible refine Kd.C_drewN ?_ _) | (with_reducible refine Kd.C_drew ?_)))
      (case side5 => exact (Kd.PB_reads' HO_370003.out).2.1)
      (case side6 => repeat (first | exact Kd.PB_sp HO_370003.out | (with_reducible refine Kd.Sp_alloc ?_ _) | (with_reducible refine Kd.Sp_drewN ?_ _) | (with_reducible refine Kd.Sp_drew ?_)))
      (case side7 => repeat (first | exact (Kd.PB_reads' HO385.out).2.2 | (with_reducible refine Kd.C_alloc ?_ _) | (with_reducible refine Kd.C_drewN ?_ _) | (with_reducible refine Kd.C_drew ?_)))
      (case side8 => exact (Kd.PB_reads' HO385.out).2.1)
      (case side9 => repeat (first | exact Kd.PB_sp HO385.out | (with_reducible refine Kd.Sp_alloc ?_ _) | (with_reducible refine Kd.Sp_drewN ?_ _) | (with_reducible refine Kd.Sp_drew ?_)))
      (case side10 => repeat (first | exact (Kd.PB_reads' HO388.out).2.2 | (with_reducible refine Kd.C_alloc ?_ _) | (with_reducible refine Kd.C_drewN ?_ _) | (with_reducible refine Kd.C_drew ?_)))
      (case side11 => exact (Kd.PB_reads' HO388.out).2.1)
      (case side12 => repeat (first | exact Kd.PB_sp HO388.out | (with_reducible refine Kd.Sp_alloc ?_ _) | (with_reducible refine Kd.Sp_drewN ?_ _) | (with_reducible refine Kd.Sp_drew ?_)))
      rintro e w69 ⟨rfl, hb⟩
      refine ⟨_, rfl, ?_⟩
      have n0_ := Aside0.mk (Kd.R_below (by (zq7_2z); exact HO_361002.out) hb)
      have n1_ := Aside0.mk (Kd.R_below (by (zq7_2z); exact HO_361003.out) hb)
      have n2_ := Aside0.mk (Kd.PB_below (by (zq7_4z); exact HO_370002.out) hb)
      have n3_ := Aside0.mk (Kd.PB_below (by (zq7_4z); exact HO_370003.out) hb)
      have n4_ := Aside0.mk (Kd.R_below (by (zq7_2z); exact HO_380002.out) hb)
      have n5_ := Aside0.mk (Kd.R_below (by (zq7_2z); exact HO_380003.out) hb)
      have n6_ := Aside0.mk (Kd.PB_below (by (zq7_4z); exact HO385.out) hb)
      have n7_ := Aside0.mk (Kd.PB_below (by (zq7_4z); exact HO388.out) hb)
      have n8_ := Aside0.mk zq7_5z
      have n9_ := Aside0.mk zq7_8z
      have n10_ := Aside0.mk zq7_28z
      have n11_ := Aside0.mk zq7_9z
      have n12_ := Aside0.mk (below_step (by repeat (zq7_3z)) hb)
      clear HO_361002
      clear HO_361003
      clear HO_370002
      clear HO_370003
      clear HO_380002
      clear HO_380003
      clear HO385
      clear HO388
      clear BK341
      clear BK360
      clear BK369
      clear BK379
      clear HB
      have HO_361002 := n0_
      have HO_361003 := n1_
      have HO_370002 := n2_
      have HO_370003 := n3_
      have HO_380002 := n4_
      have HO_380003 := n5_
      have HO385 := n6_
      have HO388 := n7_
      have BK341 := n8_
      have BK360 := n9_
      have BK369 := n10_
      have BK379 := n11_
      have HB := n12_
      clear n0_ n1_ n2_ n3_ n4_ n5_ n6_ n7_ n8_ n9_ n10_ n11_ n12_
      (try clear hb)
      (try clear hb2)
      (try clear hk)
      (try clear hi)
      zq7_29z
      clear hK K
      refine norm_ (a' := ?_) ?_ ?_
      rotate_left
      ·show Act.put _ (some 44) _ = _
       zq7_35z
       rfl
      refine pure_ (i := 4) (N := some 45) (v := ?_) (a' := ?_) #[true, true, true, true, true] rfl rfl (by kernel_rfl) (fun _ _ _ h => h) (Or.inl ⟨by rfl, ?_⟩) ?_ ?_
      rotate_left
      ·intro w'
       go_simp
       with_reducible rfl
      rotate_left
      ·zq7_35z
       rfl
      refine done_ (by kernel_rfl) ?_
      have hnb70 := NB369_341.out
      have hnc70 := NB341_369.out
      have hnb71 := NB369_360.out
      have hnc71 := NB360_369.out
      have hnb72 := NB369_379.out
      have hnc72 := NB379_369.out
      have hcz73_0 : w69.cell? ⟨gb369, 0, none⟩ = some (.int .i64 t361) := (blk_cell BK369.out 0).trans rfl
      have hcz73_1 : w69.cell? ⟨gb369, 1, none⟩ = some (.int .i64 t362) := (blk_cell BK369.out 1).trans rfl
      have hcz73_2 : w69.cell? ⟨gb369, 2, none⟩ = some (.slice Ao31 t363.length co31) := (blk_cell BK369.out 2).trans rfl
      have hcz73_3 : w69.cell? ⟨gb369, 3, none⟩ = some (.slice Ao32 t366.length co32) := (blk_cell BK369.out 3).trans rfl
      have hfz73_0 := blk_frozen BK369.out 0
      have hfz73_1 := blk_frozen BK369.out 1
      have hfz73_2 := blk_frozen BK369.out 2
      have hfz73_3 := blk_frozen BK369.out 3
      go_upto_region 14 with (first | ((with_reducible refine gate_callee (f := 16) rfl ?_); refine goesL_ (some 48) rfl rfl Tryd.func16 (by kernel_rfl) rfl #[.agg #[.int .i64 t361, .int .i64 t362, .slice Ao31 t363.length co31, .slice Ao32 t366.length co32], .int .i64 101] rfl zq7_6z ?_; (with_reducible refine (laws_markFigure.calls kj10 t361 t362 (fun k_ => some k_ = (.slice Ao31 t363.length co31 : Value).ownBlock) (.slice Ao31 t363.length co31) t363 (fun k_ => some k_ = (.slice Ao32 t366.length co32 : Value).ownBlock) (.slice Ao32 t366.length co32) t366 101 t390 t391 t392 w _ ?side1 ?side2 ?side3 ?side4 ?side5 A63.out).mono ?_); (case side1 => repeat (zq7_3z)); (case side2 => exact Kd.R_tight rfl (Kd.PB_R HO_370002.out)); (case side3 => exact fun k_ e_ => (HO_370002.out.1.1 k_ e_.symm).1.1.2.2.1); (case side4 => exact Kd.R_tight rfl (Kd.PB_R HO_370003.out)); (case side5 => exact fun k_ e_ => (HO_370003.out.1.1 k_ e_.symm).1.1.2.2.1); rintro e w74 ⟨rfl, hy0, hy1, hb, hkp⟩; refine ⟨_, rfl, ?_⟩; have n0_ := Aside0.mk (Kd.R_mono (ok' := fun k_ => some k_ ≠ (.slice Ao24 t356.length co24 : Value).ownBlock ∧ some k_ ≠ (.slice Ao31 t363.length co31 : Value).ownBlock ∧ some k_ ≠ (.slice Ao32 t366.length co32 : Value).ownBlock ∧ some k_ ≠ (.slice Ao39 t372.length co39 : Value).ownBlock ∧ some k_ ≠ (.slice Ao40 t375.length co40 : Value).ownBlock ∧ some k_ ≠ (.slice Ao67 t383.length co67 : Value).ownBlock ∧ some k_ ≠ (.slice Ao68 t386.length co68 : Value).ownBlock) (Kd.R_keptB (HO_361002.out) hkp (fun k_ hk_ hs_ => Or.elim hs_ (fun e_ => (hk_.1.1.2.1) e_) (fun e_ => (hk_.1.1.2.2.1) e_))) (fun k_ hk_ => ⟨hk_.1.1.1.1, hk_.1.1.1.2.1, hk_.1.1.1.2.2.1, hk_.1.1.1.2.2.2.1, hk_.1.1.1.2.2.2.2, hk_.1.1.2, hk_.1.2⟩)); have n1_ := Aside0.mk (Kd.R_mono (ok' := fun k_ => some k_ ≠ (.slice Ao23 t353.length co23 : Value).ownBlock ∧ some k_ ≠ (.slice Ao31 t363.length co31 : Value).ownBlock ∧ some k_ ≠ (.slice Ao32 t366.length co32 : Value).ownBlock ∧ some k_ ≠ (.slice Ao39 t372.length co39 : Value).ownBlock ∧ some k_ ≠ (.slice Ao40 t375.length co40 : Value).ownBlock ∧ some k_ ≠ (.slice Ao67 t383.length co67 : Value).ownBlock ∧ some k_ ≠ (.slice Ao68 t386.length co68 : Value).ownBlock) (Kd.R_keptB (HO_361003.out) hkp (fun k_ hk_ hs_ => Or.elim hs_ (fun e_ => (hk_.1.1.2.1) e_) (fun e_ => (hk_.1.1.2.2.1) e_))) (fun k_ hk_ => ⟨hk_.1.1.1.1, hk_.1.1.1.2.1, hk_.1.1.1.2.2.1, hk_.1.1.1.2.2.2.1, hk_.1.1.1.2.2.2.2, hk_.1.1.2, hk_.1.2⟩)); have n2_ := Aside0.mk (Kd.R_reok rfl hy0 (fun k_ e_ => HO_370002.out.1.1 k_ e_)); have n3_ := Aside0.mk (Kd.R_reok rfl hy1 (fun k_ e_ => HO_370003.out.1.1 k_ e_)); have n4_ := Aside0.mk (Kd.R_mono (ok' := fun k_ => some k_ ≠ (.slice Ao23 t353.length co23 : Value).ownBlock ∧ some k_ ≠ (.slice Ao24 t356.length co24 : Value).ownBlock ∧ some k_ ≠ (.slice Ao31 t363.length co31 : Value).ownBlock ∧ some k_ ≠ (.slice Ao32 t366.length co32 : Value).ownBlock ∧ some k_ ≠ (.slice Ao40 t375.length co40 : Value).ownBlock ∧ some k_ ≠ (.slice Ao67 t383.length co67 : Value).ownBlock ∧ some k_ ≠ (.slice Ao68 t386.length co68 : Value).ownBlock) (Kd.R_keptB (HO_380002.out) hkp (fun k_ hk_ hs_ => Or.elim hs_ (fun e_ => (hk_.1.1.2.2.1) e_) (fun e_ => (hk_.1.1.2.2.2.1) e_))) (fun k_ hk_ => ⟨hk_.1.1.1.1, hk_.1.1.1.2.1, hk_.1.1.1.2.2.1, hk_.1.1.1.2.2.2.1, hk_.1.1.1.2.2.2.2, hk_.1.1.2, hk_.1.2⟩)); have n5_ := Aside0.mk (Kd.R_mono (ok' := fun k_ => some k_ ≠ (.slice Ao23 t353.length co23 : Value).ownBlock ∧ some k_ ≠ (.slice Ao24 t356.length co24 : Value).ownBlock ∧ some k_ ≠ (.slice Ao31 t363.length co31 : Value).ownBlock ∧ some k_ ≠ (.slice Ao32 t366.length co32 : Value).ownBlock ∧ some k_ ≠ (.slice Ao39 t372.length co39 : Value).ownBlock ∧ some k_ ≠ (.slice Ao67 t383.length co67 : Value).ownBlock ∧ some k_ ≠ (.slice Ao68 t386.length co68 : Value).ownBlock) (Kd.R_keptB (HO_380003.out) hkp (fun k_ hk_ hs_ => Or.elim hs_ (fun e_ => (hk_.1.1.2.2.1) e_) (fun e_ => (hk_.1.1.2.2.2.1) e_))) (fun k_ hk_ => ⟨hk_.1.1.1.1, hk_.1.1.1.2.1, hk_.1.1.1.2.2.1, hk_.1.1.1.2.2.2.1, hk_.1.1.1.2.2.2.2, hk_.1.1.2, hk_.1.2⟩)); have n6_ := Aside0.mk (blk_kept (by (zq7_1z); exact BK341.out) hkp (fun hs_ => Or.elim hs_ (fun e_ => (fun e_ => (Kd.R_ne (Kd.PB_R HO_370002.out) BK341.out (by decide)) e_) e_) (fun e_ => (fun e_ => (Kd.R_ne (Kd.PB_R HO_370003.out) BK341.out (by decide)) e_) e_))); have n7_ := Aside0.mk (blk_kept (by (zq7_1z); exact BK360.out) hkp (fun hs_ => Or.elim hs_ (fun e_ => (fun e_ => (Kd.R_ne (Kd.PB_R HO_370002.out) BK360.out (by decide)) e_) e_) (fun e_ => (fun e_ => (Kd.R_ne (Kd.PB_R HO_370003.out) BK360.out (by decide)) e_) e_))); have n8_ := Aside0.mk (blk_kept (by (zq7_1z); exact BK369.out) hkp (fun hs_ => Or.elim hs_ (fun e_ => (fun e_ => (Kd.R_ne (Kd.PB_R HO_370002.out) BK369.out (by decide)) e_) e_) (fun e_ => (fun e_ => (Kd.R_ne (Kd.PB_R HO_370003.out) BK369.out (by decide)) e_) e_))); have n9_ := Aside0.mk (blk_kept (by (zq7_1z); exact BK379.out) hkp (fun hs_ => Or.elim hs_ (fun e_ => (fun e_ => (Kd.R_ne (Kd.PB_R HO_370002.out) BK379.out (by decide)) e_) e_) (fun e_ => (fun e_ => (Kd.R_ne (Kd.PB_R HO_370003.out) BK379.out (by decide)) e_) e_))); have n10_ := Aside0.mk (Kd.PB_mono (ok' := fun k_ => some k_ ≠ (.slice Ao23 t353.length co23 : Value).ownBlock ∧ some k_ ≠ (.slice Ao24 t356.length co24 : Value).ownBlock ∧ some k_ ≠ (.slice Ao31 t363.length co31 : Value).ownBlock ∧ some k_ ≠ (.slice Ao32 t366.length co32 : Value).ownBlock ∧ some k_ ≠ (.slice Ao39 t372.length co39 : Value).ownBlock ∧ some k_ ≠ (.slice Ao40 t375.length co40 : Value).ownBlock ∧ some k_ ≠ (.slice Ao68 t386.length co68 : Value).ownBlock) (Kd.PB_keptB (HO385.out) hkp (fun k_ hk_ hs_ => Or.elim hs_ (fun e_ => (hk_.1.1.1.2) e_) (fun e_ => (hk_.1.1.2) e_))) (fun k_ hk_ => ⟨hk_.1.1.1.1.1.1.2, hk_.1.1.1.1.1.2, hk_.1.1.1.1.2, hk_.1.1.1.2, hk_.1.1.2, hk_.1.2, hk_.1.1.1.1.1.1.1⟩)); have n11_ := Aside0.mk (Kd.PB_mono (ok' := fun k_ => some k_ ≠ (.slice Ao23 t353.length co23 : Value).ownBlock ∧ some k_ ≠ (.slice Ao24 t356.length co24 : Value).ownBlock ∧ some k_ ≠ (.slice Ao31 t363.length co31 : Value).ownBlock ∧ some k_ ≠ (.slice Ao32 t366.length co32 : Value).ownBlock ∧ some k_ ≠ (.slice Ao39 t372.length co39 : Value).ownBlock ∧ some k_ ≠ (.slice Ao40 t375.length co40 : Value).ownBlock ∧ some k_ ≠ (.slice Ao67 t383.length co67 : Value).ownBlock) (Kd.PB_keptB (HO388.out) hkp (fun k_ hk_ hs_ => Or.elim hs_ (fun e_ => (hk_.1.1.1.2) e_) (fun e_ => (hk_.1.1.2) e_))) (fun k_ hk_ => ⟨hk_.1.1.1.1.1.1.2, hk_.1.1.1.1.1.2, hk_.1.1.1.1.2, hk_.1.1.1.2, hk_.1.1.2, hk_.1.2, hk_.1.1.1.1.1.1.1⟩)); have n12_ := Aside0.mk (hb); clear HO_361002; clear HO_361003; clear HO_370002; clear HO_370003; clear HO_380002; clear HO_380003; clear BK341; clear BK360; clear BK369; clear BK379; clear HO385; clear HO388; clear HB; have HO_361002 := n0_; have HO_361003 := n1_; have HO_370002 := n2_; have HO_370003 := n3_; have HO_380002 := n4_; have HO_380003 := n5_; have BK341 := n6_; have BK360 := n7_; have BK369 := n8_; have BK379 := n9_; have HO385 := n10_; have HO388 := n11_; have HB := n12_; clear n0_ n1_ n2_ n3_ n4_ n5_ n6_ n7_ n8_ n9_ n10_ n11_ n12_; (try clear hb); (try clear hkp); (try clear hy0); (try clear hy1)))
      (try simp only [Act.put, List.setIfInBounds_toArray, List.set_cons_zero, List.set_cons_succ])
      go_cut [61] (fun v61 wc => ∃ (kq : Nat) (x61_63 : Bool), v61 = .bool x61_63 ∧ Aside0 (laws_FnExactMirrorFigure.j1 kq t359 x61_63 a0_0 a0_1 l0_2 l0_3 t351 t352 t353 t356 t370 t371 t372 t375 = some r) ∧ Aside0 (kq ≤ kj10) ∧ Aside0 (Kd.R (Kd.int .i64) 3 wc w.heap.size (fun k_ => some k_ ≠ ((.slice Ao24 t356.length co24) : Value).ownBlock ∧ some k_ ≠ ((.slice Ao31 t363.length co31) : Value).ownBlock ∧ some k_ ≠ ((.slice Ao32 t366.length co32) : Value).ownBlock ∧ some k_ ≠ ((.slice Ao39 t372.length co39) : Value).ownBlock ∧ some k_ ≠ ((.slice Ao40 t375.length co40) : Value).ownBlock) (.slice Ao23 t353.length co23) t353) ∧ Aside0 (Kd.R (Kd.int .i64) 3 wc w.heap.size (fun k_ => some k_ ≠ ((.slice Ao23 t353.length co23) : Value).ownBlock ∧ some k_ ≠ ((.slice Ao31 t363.length co31) : Value).ownBlock ∧ some k_ ≠ ((.slice Ao32 t366.length co32) : Value).ownBlock ∧ some k_ ≠ ((.slice Ao39 t372.length co39) : Value).ownBlock ∧ some k_ ≠ ((.slice Ao40 t375.length co40) : Value).ownBlock) (.slice Ao24 t356.length co24) t356) ∧ Aside0 (Kd.R (Kd.int .i64) 3 wc w.heap.size (fun k_ => some k_ ≠ ((.slice Ao23 t353.length co23) : Value).ownBlock ∧ some k_ ≠ ((.slice Ao24 t356.length co24) : Value).ownBlock ∧ some k_ ≠ ((.slice Ao32 t366.length co32) : Value).ownBlock ∧ some k_ ≠ ((.slice Ao39 t372.length co39) : Value).ownBlock ∧ some k_ ≠ ((.slice Ao40 t375.length co40) : Value).ownBlock) (.slice Ao31 t363.length co31) t391) ∧ Aside0 (Kd.R (Kd.int .i64) 3 wc w.heap.size (fun k_ => some k_ ≠ ((.slice Ao23 t353.length co23) : Value).ownBlock ∧ some k_ ≠ ((.slice Ao24 t356.length co24) : Value).ownBlock ∧ some k_ ≠ ((.slice Ao31 t363.length co31) : Value).ownBlock ∧ some k_ ≠ ((.slice Ao39 t372.length co39) : Value).ownBlock ∧ some k_ ≠ ((.slice Ao40 t375.length co40) : Value).ownBlock) (.slice Ao32 t366.length co32) t392) ∧ Aside0 (Kd.R (Kd.int .i64) 3 wc w.heap.size (fun k_ => some k_ ≠ ((.slice Ao23 t353.length co23) : Value).ownBlock ∧ some k_ ≠ ((.slice Ao24 t356.length co24) : Value).ownBlock ∧ some k_ ≠ ((.slice Ao31 t363.length co31) : Value).ownBlock ∧ some k_ ≠ ((.slice Ao32 t366.length co32) : Value).ownBlock ∧ some k_ ≠ ((.slice Ao40 t375.length co40) : Value).ownBlock) (.slice Ao39 t372.length co39) t372) ∧ Aside0 (Kd.R (Kd.int .i64) 3 wc w.heap.size (fun k_ => some k_ ≠ ((.slice Ao23 t353.length co23) : Value).ownBlock ∧ some k_ ≠ ((.slice Ao24 t356.length co24) : Value).ownBlock ∧ some k_ ≠ ((.slice Ao31 t363.length co31) : Value).ownBlock ∧ some k_ ≠ ((.slice Ao32 t366.length co32) : Value).ownBlock ∧ some k_ ≠ ((.slice Ao39 t372.length co39) : Value).ownBlock) (.slice Ao40 t375.length co40) t375) ∧ Aside0 (wc.heap[gb341]? = some (.cells #[.int .i64 a0_0, .int .i64 a0_1, (.slice A0_2 l0_2.length c0_2), (.slice A0_3 l0_3.length c0_3)] 24 (0, 0))) ∧ Aside0 (wc.heap[gb360]? = some (.cells #[.int .i64 t351, .int .i64 t352, (.slice Ao23 t353.length co23), (.slice Ao24 t356.length co24)] 26 (0, 0))) ∧ Aside0 (wc.heap[gb369]? = some (.cells #[.int .i64 t361, .int .i64 t362, (.slice Ao31 t363.length co31), (.slice Ao32 t366.length co32)] 26 (0, 0))) ∧ Aside0 (wc.heap[gb379]? = some (.cells #[.int .i64 t370, .int .i64 t371, (.slice Ao39 t372.length co39), (.slice Ao40 t375.length co40)] 26 (0, 0))) ∧ Aside0 (Below w.heap.size w wc))
      case first =>
       have H := HC64.out
       clear HC64
       by_cases c75 : t390 < 0
       ·rw [if_pos c75] at H
        have c75b0 : decide (t390 < 0) = true := decide_eq_true c75
        clear c75
        (first | rw [c75b0] | (simp only [i64_w, i32_w]; rw [c75b0]) | skip)
        have H' := Aside0.mk H
        clear H
        go_wp2
        go_meet
        zq7_27z
       ·rw [if_neg c75] at H
        have c75b0 : decide (t390 < 0) = false := decide_eq_false c75
        clear c75
        (first | rw [c75b0] | (simp only [i64_w, i32_w]; rw [c75b0]) | skip)
        replace H := Option.bind_eq_some_iff.mp H
        obtain ⟨t393, A760, H⟩ := H
        replace H : (if t393 = true then (laws_FnExactMirrorFigure.j1 kj10 t359 (t378 != t359) a0_0 a0_1 l0_2 l0_3 t351 t352 t353 t356 t370 t371 t372 t375) else (laws_FnExactMirrorFigure.j1 kj10 t359 true a0_0 a0_1 l0_2 l0_3 t351 t352 t353 t356 t370 t371 t372 t375)) = some r := H
        have A76 := Aside0.mk A760
        clear A760
        by_cases c77 : t393 = true
        ·subst c77
         have H1 : (laws_FnExactMirrorFigure.j1 kj10 t359 (t378 != t359) a0_0 a0_1 l0_2 l0_3 t351 t352 t353 t356 t370 t371 t372 t375) = some r := by rw [if_pos rfl] at H; exact H
         clear H
         have H := H1
         clear H1
         have H' := Aside0.mk H
         clear H
         have hnb78 := NB379_341.out
         have hnc78 := NB341_379.out
         have hnb79 := NB379_360.out
         have hnc79 := NB360_379.out
         have hnb80 := NB379_369.out
         have hnc80 := NB369_379.out
         have hcz81_0 : w74.cell? ⟨gb379, 0, none⟩ = some (.int .i64 t370) := (blk_cell BK379.out 0).trans rfl
         have hcz81_1 : w74.cell? ⟨gb379, 1, none⟩ = some (.int .i64 t371) := (blk_cell BK379.out 1).trans rfl
         have hcz81_2 : w74.cell? ⟨gb379, 2, none⟩ = some (.slice Ao39 t372.length co39) := (blk_cell BK379.out 2).trans rfl
         have hcz81_3 : w74.cell? ⟨gb379, 3, none⟩ = some (.slice Ao40 t375.length co40) := (blk_cell BK379.out 3).trans rfl
         have hfz81_0 := blk_frozen BK379.out 0
         have hfz81_1 := blk_frozen BK379.out 1
         have hfz81_2 := blk_frozen BK379.out 2
         have hfz81_3 := blk_frozen BK379.out 3
         have hnb82 := NB360_341.out
         have hnc82 := NB341_360.out
         have hnb83 := NB360_369.out
         have hnc83 := NB369_360.out
         have hcz84_0 : w74.cell? ⟨gb360, 0, none⟩ = some (.int .i64 t351) := (blk_cell BK360.out 0).trans rfl
         have hcz84_1 : w74.cell? ⟨gb360, 1, none⟩ = some (.int .i64 t352) := (blk_cell BK360.out 1).trans rfl
         have hcz84_2 : w74.cell? ⟨gb360, 2, none⟩ = some (.slice Ao23 t353.length co23) := (blk_cell BK360.out 2).trans rfl
         have hcz84_3 : w74.cell? ⟨gb360, 3, none⟩ = some (.slice Ao24 t356.length co24) := (blk_cell BK360.out 3).trans rfl
         have hfz84_0 := blk_frozen BK360.out 0
         have hfz84_1 := blk_frozen BK360.out 1
         have hfz84_2 := blk_frozen BK360.out 2
         have hfz84_3 := blk_frozen BK360.out 3
         go_wp2_with (first | (go_at_call 14; (with_reducible refine (laws_eqFigure.calls kj10 t370 t371 _ _ t372 _ _ t375 t351 t352 _ _ t353 _ _ t356 true _ ?side1 ?side2 ?side3 ?side4 ?side5 ?side6 ?side7 ?side8 A76.out).mono ?_); (case side1 => repeat (zq7_25z)); (case side2 => exact (Kd.R_reads' HO_380002.out).2.1); (case side3 => repeat (zq7_26z)); (case side4 => exact (Kd.R_reads' HO_380003.out).2.1); (case side5 => repeat (first | exact (Kd.R_reads' HO_361002.out).2.2 | (with_reducible refine Kd.C_alloc ?_ _) | (with_reducible refine Kd.C_drewN ?_ _) | (with_reducible refine Kd.C_drew ?_))); (case side6 => exact (Kd.R_reads' HO_361002.out).2.1); (case side7 => repeat (first | exact (Kd.R_reads' HO_361003.out).2.2 | (with_reducible refine Kd.C_alloc ?_ _) | (with_reducible refine Kd.C_drewN ?_ _) | (with_reducible refine Kd.C_drew ?_))); (case side8 => exact (Kd.R_reads' HO_361003.out).2.1); rintro e w85 ⟨rfl, hb⟩; have n0_ := Aside0.mk (Kd.R_below (by (zq7_2z); exact HO_361002.out) hb); have n1_ := Aside0.mk (Kd.R_below (by (zq7_2z); exact HO_361003.out) hb); have n2_ := Aside0.mk (Kd.R_below (by (zq7_2z); exact HO_370002.out) hb); have n3_ := Aside0.mk (Kd.R_below (by (zq7_2z); exact HO_370003.out) hb); have n4_ := Aside0.mk (Kd.R_below (by (zq7_2z); exact HO_380002.out) hb); have n5_ := Aside0.mk (Kd.R_below (by (zq7_2z); exact HO_380003.out) hb); have n6_ := Aside0.mk (Kd.PB_below (by (zq7_4z); exact HO385.out) hb); have n7_ := Aside0.mk (Kd.PB_below (by (zq7_4z); exact HO388.out) hb); have n8_ := Aside0.mk zq7_5z; have n9_ := Aside0.mk zq7_8z; have n10_ := Aside0.mk zq7_28z; have n11_ := Aside0.mk zq7_9z; have n12_ := Aside0.mk (below_step (by repeat (zq7_3z)) hb); clear HO_361002; clear HO_361003; clear HO_370002; clear HO_370003; clear HO_380002; clear HO_380003; clear HO385; clear HO388; clear BK341; clear BK360; clear BK369; clear BK379; clear HB; have HO_361002 := n0_; have HO_361003 := n1_; have HO_370002 := n2_; have HO_370003 := n3_; have HO_380002 := n4_; have HO_380003 := n5_; have HO385 := n6_; have HO388 := n7_; have BK341 := n8_; have BK360 := n9_; have BK369 := n10_; have BK379 := n11_; have HB := n12_; clear n0_ n1_ n2_ n3_ n4_ n5_ n6_ n7_ n8_ n9_ n10_ n11_ n12_; (try clear hb); (try clear hb2); (try clear hk); (try clear hi)))
         go_meet
         case rel => exact ⟨_, ((t378 != t359)), (by first | rfl | (simp; done) | (simp [*]; done)), H', ⟨by have := HJ10.out; first | omega | exact Nat.le_refl _⟩, ⟨by (zq7_2z); exact Kd.R_mono HO_361002.out (fun _ hk => ⟨hk.1, ⟨hk.2.1, ⟨hk.2.2.1, ⟨hk.2.2.2.1, hk.2.2.2.2.1⟩⟩⟩⟩)⟩, ⟨by (zq7_2z); exact Kd.R_mono HO_361003.out (fun _ hk => ⟨hk.1, ⟨hk.2.1, ⟨hk.2.2.1, ⟨hk.2.2.2.1, hk.2.2.2.2.1⟩⟩⟩⟩)⟩, ⟨by (zq7_2z); exact Kd.R_mono HO_370002.out (fun _ hk => ⟨hk.1.1.1, ⟨hk.1.1.2.1, ⟨hk.1.1.2.2.1, ⟨hk.1.1.2.2.2.1, hk.1.1.2.2.2.2⟩⟩⟩⟩)⟩, ⟨by (zq7_2z); exact Kd.R_mono HO_370003.out (fun _ hk => ⟨hk.1.1.1, ⟨hk.1.1.2.1, ⟨hk.1.1.2.2.1, ⟨hk.1.1.2.2.2.1, hk.1.1.2.2.2.2⟩⟩⟩⟩)⟩, ⟨by (zq7_2z); exact Kd.R_mono HO_380002.out (fun _ hk => ⟨hk.1, ⟨hk.2.1, ⟨hk.2.2.1, ⟨hk.2.2.2.1, hk.2.2.2.2.1⟩⟩⟩⟩)⟩, ⟨by (zq7_2z); exact Kd.R_mono HO_380003.out (fun _ hk => ⟨hk.1, ⟨hk.2.1, ⟨hk.2.2.1, ⟨hk.2.2.2.1, hk.2.2.2.2.1⟩⟩⟩⟩)⟩, ⟨by (zq7_1z); exact BK341.out⟩, ⟨by (zq7_1z); exact BK360.out⟩, ⟨by (zq7_1z); exact BK369.out⟩, ⟨by (zq7_1z); exact BK379.out⟩, ⟨by repeat (zq7_3z)⟩⟩
        ·replace c77 := Bool.eq_false_iff.mpr c77
         subst c77
         have H1 : (laws_FnExactMirrorFigure.j1 kj10 t359 true a0_0 a0_1 l0_2 l0_3 t351 t352 t353 t356 t370 t371 t372 t375) = some r := by rw [if_neg (show ¬ (false = true) by decide)] at H; exact H
         clear H
         have H := H1
         clear H1
         have H' := Aside0.mk H
         clear H
         have hnb86 := NB379_341.out
         have hnc86 := NB341_379.out
         have hnb87 := NB379_360.out
         have hnc87 := NB360_379.out
         have hnb88 := NB379_369.out
         have hnc88 := NB369_379.out
         have hcz89_0 : w74.cell? ⟨gb379, 0, none⟩ = some (.int .i64 t370) := (blk_cell BK379.out 0).trans rfl
         have hcz89_1 : w74.cell? ⟨gb379, 1, none⟩ = some (.int .i64 t371) := (blk_cell BK379.out 1).trans rfl
         have hcz89_2 : w74.cell? ⟨gb379, 2, none⟩ = some (.slice Ao39 t372.length co39) := (blk_cell BK379.out 2).trans rfl
         have hcz89_3 : w74.cell? ⟨gb379, 3, none⟩ = some (.slice Ao40 t375.length co40) := (blk_cell BK379.out 3).trans rfl
         have hfz89_0 := blk_frozen BK379.out 0
         have hfz89_1 := blk_frozen BK379.out 1
         have hfz89_2 := blk_frozen BK379.out 2
         have hfz89_3 := blk_frozen BK379.out 3
         have hnb90 := NB360_341.out
         have hnc90 := NB341_360.out
         have hnb91 := NB360_369.out
         have hnc91 := NB369_360.out
         have hcz92_0 : w74.cell? ⟨gb360, 0, none⟩ = some (.int .i64 t351) := (blk_cell BK360.out 0).trans rfl
         have hcz92_1 : w74.cell? ⟨gb360, 1, none⟩ = some (.int .i64 t352) := (blk_cell BK360.out 1).trans rfl
         have hcz92_2 : w74.cell? ⟨gb360, 2, none⟩ = some (.slice Ao23 t353.length co23) := (blk_cell BK360.out 2).trans rfl
         have hcz92_3 : w74.cell? ⟨gb360, 3, none⟩ = some (.slice Ao24 t356.length co24) := (blk_cell BK360.out 3).trans rfl
         have hfz92_0 := blk_frozen BK360.out 0
         have hfz92_1 := blk_frozen BK360.out 1
         have hfz92_2 := blk_frozen BK360.out 2
         have hfz92_3 := blk_frozen BK360.out 3
         go_wp2_with (first | (go_at_call 14; (with_reducible refine (laws_eqFigure.calls kj10 t370 t371 _ _ t372 _ _ t375 t351 t352 _ _ t353 _ _ t356 false _ ?side1 ?side2 ?side3 ?side4 ?side5 ?side6 ?side7 ?side8 A76.out).mono ?_); (case side1 => repeat (zq7_25z)); (case side2 => exact (Kd.R_reads' HO_380002.out).2.1); (case side3 => repeat (zq7_26z)); (case side4 => exact (Kd.R_reads' HO_380003.out).2.1); (case side5 => repeat (first | exact (Kd.R_reads' HO_361002.out).2.2 | (with_reducible refine Kd.C_alloc ?_ _) | (with_reducible refine Kd.C_drewN ?_ _) | (with_reducible refine Kd.C_drew ?_))); (case side6 => exact (Kd.R_reads' HO_361002.out).2.1); (case side7 => repeat (first | exact (Kd.R_reads' HO_361003.out).2.2 | (with_reducible refine Kd.C_alloc ?_ _) | (with_reducible refine Kd.C_drewN ?_ _) | (with_reducible refine Kd.C_drew ?_))); (case side8 => exact (Kd.R_reads' HO_361003.out).2.1); rintro e w93 ⟨rfl, hb⟩; have n0_ := Aside0.mk (Kd.R_below (by (zq7_2z); exact HO_361002.out) hb); have n1_ := Aside0.mk (Kd.R_below (by (zq7_2z); exact HO_361003.out) hb); have n2_ := Aside0.mk (Kd.R_below (by (zq7_2z); exact HO_370002.out) hb); have n3_ := Aside0.mk (Kd.R_below (by (zq7_2z); exact HO_370003.out) hb); have n4_ := Aside0.mk (Kd.R_below (by (zq7_2z); exact HO_380002.out) hb); have n5_ := Aside0.mk (Kd.R_below (by (zq7_2z); exact HO_380003.out) hb); have n6_ := Aside0.mk (Kd.PB_below (by (zq7_4z); exact HO385.out) hb); have n7_ := Aside0.mk (Kd.PB_below (by (zq7_4z); exact HO388.out) hb); have n8_ := Aside0.mk zq7_5z; have n9_ := Aside0.mk zq7_8z; have n10_ := Aside0.mk zq7_28z; have n11_ := Aside0.mk zq7_9z; have n12_ := Aside0.mk (below_step (by repeat (zq7_3z)) hb); clear HO_361002; clear HO_361003; clear HO_370002; clear HO_370003; clear HO_380002; clear HO_380003; clear HO385; clear HO388; clear BK341; clear BK360; clear BK369; clear BK379; clear HB; have HO_361002 := n0_; have HO_361003 := n1_; have HO_370002 := n2_; have HO_370003 := n3_; have HO_380002 := n4_; have HO_380003 := n5_; have HO385 := n6_; have HO388 := n7_; have BK341 := n8_; have BK360 := n9_; have BK369 := n10_; have BK379 := n11_; have HB := n12_; clear n0_ n1_ n2_ n3_ n4_ n5_ n6_ n7_ n8_ n9_ n10_ n11_ n12_; (try clear hb); (try clear hb2); (try clear hk); (try clear hi)))
         go_meet
         zq7_27z
      case rest =>
       clear HC64
       try clear c1
       try clear c2
       try clear p2
       try clear c3
       try clear c3b0
       try clear c4
       try clear c5
       try clear c6
       try clear c7
       try clear c8
       try clear c9
       try clear c10
       try clear c12
       try clear c14
       try clear c15
       try clear c16
       try clear c21
       try clear c27
       try clear c28
       try clear c29
       try clear c35
       try clear c36
       try clear c37
       try clear c42
       try clear c43
       try clear c44
       try clear c45
       try clear c47
       try clear c48
       try clear c51
       try clear c52
       try clear c53
       try clear c55
       try clear c56
       try clear c59
       try clear c62
       try clear c70
       try clear c71
       try clear c72
       try clear c75
       try clear c75b0
       try clear c77
       try clear c78
       try clear c79
       try clear c80
       try clear c82
       try clear c83
       try clear c86
       try clear c87
       try clear c88
       try clear c90
       try clear c91
       try clear hcz13_0
       try clear hcz13_1
       try clear hcz13_2
       try clear hcz13_3
       try clear hcz15_0
       try clear hcz15_1
       try clear hcz15_2
       try clear hcz15_3
       try clear hcz22_0
       try clear hcz22_1
       try clear hcz22_2
       try clear hcz22_3
       try clear hcz25_0
       try clear hcz25_1
       try clear hcz25_2
       try clear hcz25_3
       try clear hcz30_0
       try clear hcz30_1
       try clear hcz30_2
       try clear hcz30_3
       try clear hcz38_0
       try clear hcz38_1
       try clear hcz38_2
       try clear hcz38_3
       try clear hcz46_0
       try clear hcz46_1
       try clear hcz46_2
       try clear hcz46_3
       try clear hcz49_0
       try clear hcz49_1
       try clear hcz49_2
       try clear hcz49_3
       try clear hcz54_0
       try clear hcz54_1
       try clear hcz54_2
       try clear hcz54_3
       try clear hcz57_0
       try clear hcz57_1
       try clear hcz57_2
       try clear hcz57_3
       try clear hcz5_0
       try clear hcz5_1
       try clear hcz5_2
       try clear hcz5_3
       try clear hcz73_0
       try clear hcz73_1
       try clear hcz73_2
       try clear hcz73_3
       try clear hcz81_0
       try clear hcz81_1
       try clear hcz81_2
       try clear hcz81_3
       try clear hcz84_0
       try clear hcz84_1
       try clear hcz84_2
       try clear hcz84_3
       try clear hcz89_0
       try clear hcz89_1
       try clear hcz89_2
       try clear hcz89_3
       try clear hcz92_0
       try clear hcz92_1
       try clear hcz92_2
       try clear hcz92_3
       try clear hfz13_0
       try clear hfz13_1
       try clear hfz13_2
       try clear hfz13_3
       try clear hfz15_0
       try clear hfz15_1
       try clear hfz15_2
       try clear hfz15_3
       try clear hfz22_0
       try clear hfz22_1
       try clear hfz22_2
       try clear hfz22_3
       try clear hfz25_0
       try clear hfz25_1
       try clear hfz25_2
       try clear hfz25_3
       try clear hfz30_0
       try clear hfz30_1
       try clear hfz30_2
       try clear hfz30_3
       try clear hfz38_0
       try clear hfz38_1
       try clear hfz38_2
       try clear hfz38_3
       try clear hfz46_0
       try clear hfz46_1
       try clear hfz46_2
       try clear hfz46_3
       try clear hfz49_0
       try clear hfz49_1
       try clear hfz49_2
       try clear hfz49_3
       try clear hfz54_0
       try clear hfz54_1
       try clear hfz54_2
       try clear hfz54_3
       try clear hfz57_0
       try clear hfz57_1
       try clear hfz57_2
       try clear hfz57_3
       try clear hfz5_0
       try clear hfz5_1
       try clear hfz5_2
       try clear hfz5_3
       try clear hfz73_0
       try clear hfz73_1
       try clear hfz73_2
       try clear hfz73_3
       try clear hfz81_0
       try clear hfz81_1
       try clear hfz81_2
       try clear hfz81_3
       try clear hfz84_0
       try clear hfz84_1
       try clear hfz84_2
       try clear hfz84_3
       try clear hfz89_0
       try clear hfz89_1
       try clear hfz89_2
       try clear hfz89_3
       try clear hfz92_0
       try clear hfz92_1
       try clear hfz92_2
       try clear hfz92_3
       try clear p2
       obtain ⟨kq, x61_63, rfl, HA, HJ63, HO_361002, HO_361003, HO_370002, HO_370003, HO_380002, HO_380003, BK341, BK360, BK369, BK379, HB⟩ := hcut
       have hl370002_63 := (Kd.R_reads' HO_370002.out).1
       rw [hl370002_63] at HO_370002
       (try simp only [hl370002_63])
       (try simp only [hl370002_63] at BK341)
       (try simp only [hl370002_63] at BK360)
       (try simp only [hl370002_63] at BK369)
       (try simp only [hl370002_63] at BK379)
       (try simp only [hl370002_63] at HO_361002)
       (try simp only [hl370002_63] at HO_361003)
       (try simp only [hl370002_63] at HO_370003)
       (try simp only [hl370002_63] at HO_380002)
       (try simp only [hl370002_63] at HO_380003)
       have hl370003_63 := (Kd.R_reads' HO_370003.out).1
       rw [hl370003_63] at HO_370003
       (try simp only [hl370003_63])
       (try simp only [hl370003_63] at BK341)
       (try simp only [hl370003_63] at BK360)
       (try simp only [hl370003_63] at BK369)
       (try simp only [hl370003_63] at BK379)
       (try simp only [hl370003_63] at HO_361002)
       (try simp only [hl370003_63] at HO_361003)
       (try simp only [hl370003_63] at HO_370002)
       (try simp only [hl370003_63] at HO_380002)
       (try simp only [hl370003_63] at HO_380003)
       cases kq with
       | zero => exact absurd HA.out (by simp [laws_FnExactMirrorFigure.j1])
       | succ kj63 =>
        have H := HA.out
        clear HA
        simp only [laws_FnExactMirrorFigure.j1] at H
        by_cases c94 : x61_63 = true
        ·subst c94
         have H1 : (some false) = some r := by rw [if_pos rfl] at H; exact H
         clear H
         have H := H1
         clear H1
         obtain rfl := Option.some.inj H
         go_wp2
         go_ret
         zq7_47z
        ·replace c94 := Bool.eq_false_iff.mpr c94
         subst c94
         have H1 : ((laws_markFigure.f kj63 t370 t371 t372 t375 101).bind fun bt394 => ((laws_heldFigure.f kj63 t370 t371 bt394.2.1 bt394.2.2 101).bind fun t397 => (if t397 < 0 then (some false) else (if t397 = bt394.1 then ((laws_toFigure.f a0_0 a0_1 l0_2 l0_3 true).bind fun bt398 => ((impl_MirrorFigure.f kj63 bt398.1 bt398.2.1 bt398.2.2.1 bt398.2.2.2).bind fun bt406 => ((laws_eqFigure.f kj63 bt406.1 bt406.2.1 bt406.2.2.1 bt406.2.2.2.1 t351 t352 t353 t356).bind fun t416 => (if t416 = true then (laws_FnExactMirrorFigure.j2 kj63 bt394.1 (bt406.2.2.2.2 != t359) t370 t371 bt394.2.1 bt394.2.2) else (laws_FnExactMirrorFigure.j2 kj63 bt394.1 true t370 t371 bt394.2.1 bt394.2.2))))) else (some false))))) = some r := by rw [if_neg (show ¬ (false = true) by decide)] at H; exact H
         clear H
         have H := H1
         clear H1
         replace H := Option.bind_eq_some_iff.mp H
         obtain ⟨⟨t394, t395, t396⟩, A950, H⟩ := H
         replace H : ((laws_heldFigure.f kj63 t370 t371 t395 t396 101).bind fun t397 => (if t397 < 0 then (some false) else (if t397 = t394 then ((laws_toFigure.f a0_0 a0_1 l0_2 l0_3 true).bind fun bt398 => ((impl_MirrorFigure.f kj63 bt398.1 bt398.2.1 bt398.2.2.1 bt398.2.2.2).bind fun bt406 => ((laws_eqFigure.f kj63 bt406.1 bt406.2.1 bt406.2.2.1 bt406.2.2.2.1 t351 t352 t353 t356).bind fun t416 => (if t416 = true then (laws_FnExactMirrorFigure.j2 kj63 t394 (bt406.2.2.2.2 != t359) t370 t371 t395 t396) else (laws_FnExactMirrorFigure.j2 kj63 t394 true t370 t371 t395 t396))))) else (some false)))) = some r := H
         have A95 := Aside0.mk A950
         clear A950
         replace H := Option.bind_eq_some_iff.mp H
         obtain ⟨t397, A960, H⟩ := H
         replace H : (if t397 < 0 then (some false) else (if t397 = t394 then ((laws_toFigure.f a0_0 a0_1 l0_2 l0_3 true).bind fun bt398 => ((impl_MirrorFigure.f kj63 bt398.1 bt398.2.1 bt398.2.2.1 bt398.2.2.2).bind fun bt406 => ((laws_eqFigure.f kj63 bt406.1 bt406.2.1 bt406.2.2.1 bt406.2.2.2.1 t351 t352 t353 t356).bind fun t416 => (if t416 = true then (laws_FnExactMirrorFigure.j2 kj63 t394 (bt406.2.2.2.2 != t359) t370 t371 t395 t396) else (laws_FnExactMirrorFigure.j2 kj63 t394 true t370 t371 t395 t396))))) else (some false))) = some r := H
         have A96 := Aside0.mk A960
         clear A960
         by_cases c97 : t397 < 0
         ·rw [if_pos c97] at H
          have c97b0 : decide (t397 < 0) = true := decide_eq_true c97
          clear c97
          obtain rfl := Option.some.inj H
          have hnb98 := NB379_341.out
          have hnc98 := NB341_379.out
          have hnb99 := NB379_360.out
          have hnc99 := NB360_379.out
          have hnb100 := NB379_369.out
          have hnc100 := NB369_379.out
          have hcz101_0 : wc.cell? ⟨gb379, 0, none⟩ = some (.int .i64 t370) := (blk_cell BK379.out 0).trans rfl
          have hcz101_1 : wc.cell? ⟨gb379, 1, none⟩ = some (.int .i64 t371) := (blk_cell BK379.out 1).trans rfl
          have hcz101_2 : wc.cell? ⟨gb379, 2, none⟩ = some (.slice Ao39 t372.length co39) := (blk_cell BK379.out 2).trans rfl
          have hcz101_3 : wc.cell? ⟨gb379, 3, none⟩ = some (.slice Ao40 t375.length co40) := (blk_cell BK379.out 3).trans rfl
          have hfz101_0 := blk_frozen BK379.out 0
          have hfz101_1 := blk_frozen BK379.out 1
          have hfz101_2 := blk_frozen BK379.out 2
          have hfz101_3 := blk_frozen BK379.out 3
          go_wp2_with (first | ((with_reducible refine gate_callee (f := 16) rfl ?_); refine goesL_ (some 64) rfl rfl Tryd.func16 (by kernel_rfl) rfl #[.agg #[.int .i64 t370, .int .i64 t371, .slice Ao39 t372.length co39, .slice Ao40 t375.length co40], .int .i64 101] rfl zq7_6z ?_; (with_reducible refine (laws_markFigure.calls kj63 t370 t371 (fun k_ => some k_ = (.slice Ao39 t372.length co39 : Value).ownBlock) (.slice Ao39 t372.length co39) t372 (fun k_ => some k_ = (.slice Ao40 t375.length co40 : Value).ownBlock) (.slice Ao40 t375.length co40) t375 101 t394 t395 t396 w _ ?side1 ?side2 ?side3 ?side4 ?side5 A95.out).mono ?_); (case side1 => repeat (zq7_3z)); (case side2 => exact Kd.R_tight rfl HO_380002.out); (case side3 => exact fun k_ e_ => (HO_380002.out.1 k_ e_.symm).2.2.2.2); (case side4 => exact Kd.R_tight rfl HO_380003.out); (case side5 => exact fun k_ e_ => (HO_380003.out.1 k_ e_.symm).2.2.2.2); rintro e w102 ⟨rfl, hy0, hy1, hb, hkp⟩; refine ⟨_, rfl, ?_⟩; have n0_ := Aside0.mk (Kd.R_mono (ok' := fun k_ => some k_ ≠ (.slice Ao24 t356.length co24 : Value).ownBlock ∧ some k_ ≠ (.slice Ao31 t391.length co31 : Value).ownBlock ∧ some k_ ≠ (.slice Ao32 t392.length co32 : Value).ownBlock ∧ some k_ ≠ (.slice Ao39 t372.length co39 : Value).ownBlock ∧ some k_ ≠ (.slice Ao40 t375.length co40 : Value).ownBlock) (Kd.R_keptB (HO_361002.out) hkp (fun k_ hk_ hs_ => Or.elim hs_ (fun e_ => (hk_.2.2.2.1) e_) (fun e_ => (hk_.2.2.2.2) e_))) (fun k_ hk_ => ⟨hk_.1.1, hk_.1.2.1, hk_.1.2.2.1, hk_.1.2.2.2.1, hk_.1.2.2.2.2⟩)); have n1_ := Aside0.mk (Kd.R_mono (ok' := fun k_ => some k_ ≠ (.slice Ao23 t353.length co23 : Value).ownBlock ∧ some k_ ≠ (.slice Ao31 t391.length co31 : Value).ownBlock ∧ some k_ ≠ (.slice Ao32 t392.length co32 : Value).ownBlock ∧ some k_ ≠ (.slice Ao39 t372.length co39 : Value).ownBlock ∧ some k_ ≠ (.slice Ao40 t375.length co40 : Value).ownBlock) (Kd.R_keptB (HO_361003.out) hkp (fun k_ hk_ hs_ => Or.elim hs_ (fun e_ => (hk_.2.2.2.1) e_) (fun e_ => (hk_.2.2.2.2) e_))) (fun k_ hk_ => ⟨hk_.1.1, hk_.1.2.1, hk_.1.2.2.1, hk_.1.2.2.2.1, hk_.1.2.2.2.2⟩)); have n2_ := Aside0.mk (Kd.R_mono (ok' := fun k_ => some k_ ≠ (.slice Ao23 t353.length co23 : Value).ownBlock ∧ some k_ ≠ (.slice Ao24 t356.length co24 : Value).ownBlock ∧ some k_ ≠ (.slice Ao32 t392.length co32 : Value).ownBlock ∧ some k_ ≠ (.slice Ao39 t372.length co39 : Value).ownBlock ∧ some k_ ≠ (.slice Ao40 t375.length co40 : Value).ownBlock) (Kd.R_keptB (HO_370002.out) hkp (fun k_ hk_ hs_ => Or.elim hs_ (fun e_ => (hk_.2.2.2.1) e_) (fun e_ => (hk_.2.2.2.2) e_))) (fun k_ hk_ => ⟨hk_.1.1, hk_.1.2.1, hk_.1.2.2.1, hk_.1.2.2.2.1, hk_.1.2.2.2.2⟩)); have n3_ := Aside0.mk (Kd.R_mono (ok' := fun k_ => some k_ ≠ (.slice Ao23 t353.length co23 : Value).ownBlock ∧ some k_ ≠ (.slice Ao24 t356.length co24 : Value).ownBlock ∧ some k_ ≠ (.slice Ao31 t391.length co31 : Value).ownBlock ∧ some k_ ≠ (.slice Ao39 t372.length co39 : Value).ownBlock ∧ some k_ ≠ (.slice Ao40 t375.length co40 : Value).ownBlock) (Kd.R_keptB (HO_370003.out) hkp (fun k_ hk_ hs_ => Or.elim hs_ (fun e_ => (hk_.2.2.2.1) e_) (fun e_ => (hk_.2.2.2.2) e_))) (fun k_ hk_ => ⟨hk_.1.1, hk_.1.2.1, hk_.1.2.2.1, hk_.1.2.2.2.1, hk_.1.2.2.2.2⟩)); have n4_ := Aside0.mk (Kd.R_reok rfl hy0 (fun k_ e_ => HO_380002.out.1 k_ e_)); have n5_ := Aside0.mk (Kd.R_reok rfl hy1 (fun k_ e_ => HO_380003.out.1 k_ e_)); have n6_ := Aside0.mk zq7_50z; have n7_ := Aside0.mk zq7_51z; have n8_ := Aside0.mk zq7_52z; have n9_ := Aside0.mk zq7_53z; have n10_ := Aside0.mk (hb); clear HO_361002; clear HO_361003; clear HO_370002; clear HO_370003; clear HO_380002; clear HO_380003; clear BK341; clear BK360; clear BK369; clear BK379; clear HB; have HO_361002 := n0_; have HO_361003 := n1_; have HO_370002 := n2_; have HO_370003 := n3_; have HO_380002 := n4_; have HO_380003 := n5_; have BK341 := n6_; have BK360 := n7_; have BK369 := n8_; have BK379 := n9_; have HB := n10_; clear n0_ n1_ n2_ n3_ n4_ n5_ n6_ n7_ n8_ n9_ n10_; (try clear hb); (try clear hkp); (try clear hy0); (try clear hy1); have hcz103_0 : w102.cell? ⟨gb379, 0, none⟩ = some (.int .i64 t370) := (blk_cell BK379.out 0).trans rfl; have hcz103_1 : w102.cell? ⟨gb379, 1, none⟩ = some (.int .i64 t371) := (blk_cell BK379.out 1).trans rfl; have hcz103_2 : w102.cell? ⟨gb379, 2, none⟩ = some (.slice Ao39 t372.length co39) := (blk_cell BK379.out 2).trans rfl; have hcz103_3 : w102.cell? ⟨gb379, 3, none⟩ = some (.slice Ao40 t375.length co40) := (blk_cell BK379.out 3).trans rfl; have hfz103_0 := blk_frozen BK379.out 0; have hfz103_1 := blk_frozen BK379.out 1; have hfz103_2 := blk_frozen BK379.out 2; have hfz103_3 := blk_frozen BK379.out 3) | ((with_reducible refine gate_callee (f := 17) rfl ?_); refine goesL_ (some 67) rfl rfl Tryd.func17 (by kernel_rfl) rfl #[.agg #[.int .i64 t370, .int .i64 t371, .slice Ao39 t395.length co39, .slice Ao40 t396.length co40], .int .i64 101] rfl zq7_46z ?_; (with_reducible refine (laws_heldFigure.calls kj63 t370 t371 _ _ t395 _ _ t396 101 t397 _ ?side1 ?side2 ?side3 ?side4 A96.out).mono ?_); (case side1 => repeat (zq7_25z)); (case side2 => rw [show t395.length = t372.length from (Kd.R_reads' HO_380002.out).1.symm]; exact (Kd.R_reads' HO_380002.out).2.1); (case side3 => repeat (zq7_26z)); (case side4 => rw [show t396.length = t375.length from (Kd.R_reads' HO_380003.out).1.symm]; exact (Kd.R_reads' HO_380003.out).2.1); rintro e w104 ⟨rfl, hb⟩; refine ⟨_, rfl, ?_⟩; have n0_ := Aside0.mk (Kd.R_below (by (zq7_2z); exact HO_361002.out) hb); have n1_ := Aside0.mk (Kd.R_below (by (zq7_2z); exact HO_361003.out) hb); have n2_ := Aside0.mk (Kd.R_below (by (zq7_2z); exact HO_370002.out) hb); have n3_ := Aside0.mk (Kd.R_below (by (zq7_2z); exact HO_370003.out) hb); have n4_ := Aside0.mk (Kd.R_below (by (zq7_2z); exact HO_380002.out) hb); have n5_ := Aside0.mk (Kd.R_below (by (zq7_2z); exact HO_380003.out) hb); have n6_ := Aside0.mk zq7_5z; have n7_ := Aside0.mk zq7_8z; have n8_ := Aside0.mk zq7_13z; have n9_ := Aside0.mk zq7_9z; have n10_ := Aside0.mk (below_step (by repeat (zq7_3z)) hb); clear HO_361002; clear HO_361003; clear HO_370002; clear HO_370003; clear HO_380002; clear HO_380003; clear BK341; clear BK360; clear BK369; clear BK379; clear HB; have HO_361002 := n0_; have HO_361003 := n1_; have HO_370002 := n2_; have HO_370003 := n3_; have HO_380002 := n4_; have HO_380003 := n5_; have BK341 := n6_; have BK360 := n7_; have BK369 := n8_; have BK379 := n9_; have HB := n10_; clear n0_ n1_ n2_ n3_ n4_ n5_ n6_ n7_ n8_ n9_ n10_; (try clear hb); (try clear hb2); (try clear hk); (try clear hi)))
          go_ret
          zq7_47z
         ·rw [if_neg c97] at H
          have c97b0 : decide (t397 < 0) = false := decide_eq_false c97
          clear c97
          by_cases c105 : t397 = t394
          ·rw [if_pos c105] at H
           have c105b0 : (t397 == t394) = true := beq_iff_eq.mpr c105
           have c105b1 : (t397 != t394) = false := bne_eq_false_iff_eq.mpr c105
           clear c105
           replace H := Option.bind_eq_some_iff.mp H
           obtain ⟨⟨t398, t399, t400, t403⟩, A1060, H⟩ := H
           replace H : ((impl_MirrorFigure.f kj63 t398 t399 t400 t403).bind fun bt406 => ((laws_eqFigure.f kj63 bt406.1 bt406.2.1 bt406.2.2.1 bt406.2.2.2.1 t351 t352 t353 t356).bind fun t416 => (if t416 = true then (laws_FnExactMirrorFigure.j2 kj63 t394 (bt406.2.2.2.2 != t359) t370 t371 t395 t396) else (laws_FnExactMirrorFigure.j2 kj63 t394 true t370 t371 t395 t396)))) = some r := H
           have A106 := Aside0.mk A1060
           clear A1060
           replace H := Option.bind_eq_some_iff.mp H
           obtain ⟨⟨t406, t407, t408, t411, t414⟩, A1070, H⟩ := H
           replace H : ((laws_eqFigure.f kj63 t406 t407 t408 t411 t351 t352 t353 t356).bind fun t416 => (if t416 = true then (laws_FnExactMirrorFigure.j2 kj63 t394 (t414 != t359) t370 t371 t395 t396) else (laws_FnExactMirrorFigure.j2 kj63 t394 true t370 t371 t395 t396))) = some r := H
           have A107 := Aside0.mk A1070
           clear A1070
           have HC108 := Aside0.mk H
           clear H
           have hnb109 := NB379_341.out
           have hnc109 := NB341_379.out
           have hnb110 := NB379_360.out
           have hnc110 := NB360_379.out
           have hnb111 := NB379_369.out
           have hnc111 := NB369_379.out
           have hcz112_0 : wc.cell? ⟨gb379, 0, none⟩ = some (.int .i64 t370) := (blk_cell BK379.out 0).trans rfl
           have hcz112_1 : wc.cell? ⟨gb379, 1, none⟩ = some (.int .i64 t371) := (blk_cell BK379.out 1).trans rfl
           have hcz112_2 : wc.cell? ⟨gb379, 2, none⟩ = some (.slice Ao39 t372.length co39) := (blk_cell BK379.out 2).trans rfl
           have hcz112_3 : wc.cell? ⟨gb379, 3, none⟩ = some (.slice Ao40 t375.length co40) := (blk_cell BK379.out 3).trans rfl
           have hfz112_0 := blk_frozen BK379.out 0
           have hfz112_1 := blk_frozen BK379.out 1
           have hfz112_2 := blk_frozen BK379.out 2
           have hfz112_3 := blk_frozen BK379.out 3
           go_upto_region 25 with (first | ((with_reducible refine gate_callee (f := 16) rfl ?_); refine goesL_ (some 64) rfl rfl Tryd.func16 (by kernel_rfl) rfl #[.agg #[.int .i64 t370, .int .i64 t371, .slice Ao39 t372.length co39, .slice Ao40 t375.length co40], .int .i64 101] rfl zq7_6z ?_; (with_reducible refine (laws_markFigure.calls kj63 t370 t371 (fun k_ => some k_ = (.slice Ao39 t372.length co39 : Value).ownBlock) (.slice Ao39 t372.length co39) t372 (fun k_ => some k_ = (.slice Ao40 t375.length co40 : Value).ownBlock) (.slice Ao40 t375.length co40) t375 101 t394 t395 t396 w _ ?side1 ?side2 ?side3 ?side4 ?side5 A95.out).mono ?_); (case side1 => repeat (zq7_3z)); (case side2 => exact Kd.R_tight rfl HO_380002.out); (case side3 => exact fun k_ e_ => (HO_380002.out.1 k_ e_.symm).2.2.2.2); (case side4 => exact Kd.R_tight rfl HO_380003.out); (case side5 => exact fun k_ e_ => (HO_380003.out.1 k_ e_.symm).2.2.2.2); rintro e w113 ⟨rfl, hy0, hy1, hb, hkp⟩; refine ⟨_, rfl, ?_⟩; have n0_ := Aside0.mk (Kd.R_mono (ok' := fun k_ => some k_ ≠ (.slice Ao24 t356.length co24 : Value).ownBlock ∧ some k_ ≠ (.slice Ao31 t391.length co31 : Value).ownBlock ∧ some k_ ≠ (.slice Ao32 t392.length co32 : Value).ownBlock ∧ some k_ ≠ (.slice Ao39 t372.length co39 : Value).ownBlock ∧ some k_ ≠ (.slice Ao40 t375.length co40 : Value).ownBlock) (Kd.R_keptB (HO_361002.out) hkp (fun k_ hk_ hs_ => Or.elim hs_ (fun e_ => (hk_.2.2.2.1) e_) (fun e_ => (hk_.2.2.2.2) e_))) (fun k_ hk_ => ⟨hk_.1.1, hk_.1.2.1, hk_.1.2.2.1, hk_.1.2.2.2.1, hk_.1.2.2.2.2⟩)); have n1_ := Aside0.mk (Kd.R_mono (ok' := fun k_ => some k_ ≠ (.slice Ao23 t353.length co23 : Value).ownBlock ∧ some k_ ≠ (.slice Ao31 t391.length co31 : Value).ownBlock ∧ some k_ ≠ (.slice Ao32 t392.length co32 : Value).ownBlock ∧ some k_ ≠ (.slice Ao39 t372.length co39 : Value).ownBlock ∧ some k_ ≠ (.slice Ao40 t375.length co40 : Value).ownBlock) (Kd.R_keptB (HO_361003.out) hkp (fun k_ hk_ hs_ => Or.elim hs_ (fun e_ => (hk_.2.2.2.1) e_) (fun e_ => (hk_.2.2.2.2) e_))) (fun k_ hk_ => ⟨hk_.1.1, hk_.1.2.1, hk_.1.2.2.1, hk_.1.2.2.2.1, hk_.1.2.2.2.2⟩)); have n2_ := Aside0.mk (Kd.R_mono (ok' := fun k_ => some k_ ≠ (.slice Ao23 t353.length co23 : Value).ownBlock ∧ some k_ ≠ (.slice Ao24 t356.length co24 : Value).ownBlock ∧ some k_ ≠ (.slice Ao32 t392.length co32 : Value).ownBlock ∧ some k_ ≠ (.slice Ao39 t372.length co39 : Value).ownBlock ∧ some k_ ≠ (.slice Ao40 t375.length co40 : Value).ownBlock) (Kd.R_keptB (HO_370002.out) hkp (fun k_ hk_ hs_ => Or.elim hs_ (fun e_ => (hk_.2.2.2.1) e_) (fun e_ => (hk_.2.2.2.2) e_))) (fun k_ hk_ => ⟨hk_.1.1, hk_.1.2.1, hk_.1.2.2.1, hk_.1.2.2.2.1, hk_.1.2.2.2.2⟩)); have n3_ := Aside0.mk (Kd.R_mono (ok' := fun k_ => some k_ ≠ (.slice Ao23 t353.length co23 : Value).ownBlock ∧ some k_ ≠ (.slice Ao24 t356.length co24 : Value).ownBlock ∧ some k_ ≠ (.slice Ao31 t391.length co31 : Value).ownBlock ∧ some k_ ≠ (.slice Ao39 t372.length co39 : Value).ownBlock ∧ some k_ ≠ (.slice Ao40 t375.length co40 : Value).ownBlock) (Kd.R_keptB (HO_370003.out) hkp (fun k_ hk_ hs_ => Or.elim hs_ (fun e_ => (hk_.2.2.2.1) e_) (fun e_ => (hk_.2.2.2.2) e_))) (fun k_ hk_ => ⟨hk_.1.1, hk_.1.2.1, hk_.1.2.2.1, hk_.1.2.2.2.1, hk_.1.2.2.2.2⟩)); have n4_ := Aside0.mk (Kd.R_reok rfl hy0 (fun k_ e_ => HO_380002.out.1 k_ e_)); have n5_ := Aside0.mk (Kd.R_reok rfl hy1 (fun k_ e_ => HO_380003.out.1 k_ e_)); have n6_ := Aside0.mk zq7_50z; have n7_ := Aside0.mk zq7_51z; have n8_ := Aside0.mk zq7_52z; have n9_ := Aside0.mk zq7_53z; have n10_ := Aside0.mk (hb); clear HO_361002; clear HO_361003; clear HO_370002; clear HO_370003; clear HO_380002; clear HO_380003; clear BK341; clear BK360; clear BK369; clear BK379; clear HB; have HO_361002 := n0_; have HO_361003 := n1_; have HO_370002 := n2_; have HO_370003 := n3_; have HO_380002 := n4_; have HO_380003 := n5_; have BK341 := n6_; have BK360 := n7_; have BK369 := n8_; have BK379 := n9_; have HB := n10_; clear n0_ n1_ n2_ n3_ n4_ n5_ n6_ n7_ n8_ n9_ n10_; (try clear hb); (try clear hkp); (try clear hy0); (try clear hy1); have hcz114_0 : w113.cell? ⟨gb379, 0, none⟩ = some (.int .i64 t370) := (blk_cell BK379.out 0).trans rfl; have hcz114_1 : w113.cell? ⟨gb379, 1, none⟩ = some (.int .i64 t371) := (blk_cell BK379.out 1).trans rfl; have hcz114_2 : w113.cell? ⟨gb379, 2, none⟩ = some (.slice Ao39 t372.length co39) := (blk_cell BK379.out 2).trans rfl; have hcz114_3 : w113.cell? ⟨gb379, 3, none⟩ = some (.slice Ao40 t375.length co40) := (blk_cell BK379.out 3).trans rfl; have hfz114_0 := blk_frozen BK379.out 0; have hfz114_1 := blk_frozen BK379.out 1; have hfz114_2 := blk_frozen BK379.out 2; have hfz114_3 := blk_frozen BK379.out 3) | ((with_reducible refine gate_callee (f := 17) rfl ?_); refine goesL_ (some 67) rfl rfl Tryd.func17 (by kernel_rfl) rfl #[.agg #[.int .i64 t370, .int .i64 t371, .slice Ao39 t395.length co39, .slice Ao40 t396.length co40], .int .i64 101] rfl zq7_46z ?_; (with_reducible refine (laws_heldFigure.calls kj63 t370 t371 _ _ t395 _ _ t396 101 t397 _ ?side1 ?side2 ?side3 ?side4 A96.out).mono ?_); (case side1 => repeat (zq7_25z)); (case side2 => rw [show t395.length = t372.length from (Kd.R_reads' HO_380002.out).1.symm]; exact (Kd.R_reads' HO_380002.out).2.1); (case side3 => repeat (zq7_26z)); (case side4 => rw [show t396.length = t375.length from (Kd.R_reads' HO_380003.out).1.symm]; exact (Kd.R_reads' HO_380003.out).2.1); rintro e w115 ⟨rfl, hb⟩; refine ⟨_, rfl, ?_⟩; have n0_ := Aside0.mk (Kd.R_below (by (zq7_2z); exact HO_361002.out) hb); have n1_ := Aside0.mk (Kd.R_below (by (zq7_2z); exact HO_361003.out) hb); have n2_ := Aside0.mk (Kd.R_below (by (zq7_2z); exact HO_370002.out) hb); have n3_ := Aside0.mk (Kd.R_below (by (zq7_2z); exact HO_370003.out) hb); have n4_ := Aside0.mk (Kd.R_below (by (zq7_2z); exact HO_380002.out) hb); have n5_ := Aside0.mk (Kd.R_below (by (zq7_2z); exact HO_380003.out) hb); have n6_ := Aside0.mk zq7_5z; have n7_ := Aside0.mk zq7_8z; have n8_ := Aside0.mk zq7_13z; have n9_ := Aside0.mk zq7_9z; have n10_ := Aside0.mk (below_step (by repeat (zq7_3z)) hb); clear HO_361002; clear HO_361003; clear HO_370002; clear HO_370003; clear HO_380002; clear HO_380003; clear BK341; clear BK360; clear BK369; clear BK379; clear HB; have HO_361002 := n0_; have HO_361003 := n1_; have HO_370002 := n2_; have HO_370003 := n3_; have HO_380002 := n4_; have HO_380003 := n5_; have BK341 := n6_; have BK360 := n7_; have BK369 := n8_; have BK379 := n9_; have HB := n10_; clear n0_ n1_ n2_ n3_ n4_ n5_ n6_ n7_ n8_ n9_ n10_; (try clear hb); (try clear hb2); (try clear hk); (try clear hi); have hnb116 := NB341_360.out; have hnc116 := NB360_341.out; have hnb117 := NB341_369.out; have hnc117 := NB369_341.out; have hcz118_0 : w115.cell? ⟨gb341, 0, none⟩ = some (.int .i64 a0_0) := (blk_cell BK341.out 0).trans rfl; have hcz118_1 : w115.cell? ⟨gb341, 1, none⟩ = some (.int .i64 a0_1) := (blk_cell BK341.out 1).trans rfl; have hcz118_2 : w115.cell? ⟨gb341, 2, none⟩ = some (.slice A0_2 l0_2.length c0_2) := (blk_cell BK341.out 2).trans rfl; have hcz118_3 : w115.cell? ⟨gb341, 3, none⟩ = some (.slice A0_3 l0_3.length c0_3) := (blk_cell BK341.out 3).trans rfl; have hfz118_0 := blk_frozen BK341.out 0; have hfz118_1 := blk_frozen BK341.out 1; have hfz118_2 := blk_frozen BK341.out 2; have hfz118_3 := blk_frozen BK341.out 3) | ((with_reducible refine gate_callee (f := 12) rfl ?_); refine goesL_ (some 75) rfl rfl Tryd.func12 (by kernel_rfl) rfl #[.agg #[.int .i64 a0_0, .int .i64 a0_1, .slice A0_2 l0_2.length c0_2, .slice A0_3 l0_3.length c0_3], .bool true] rfl zq7_6z ?_; (with_reducible refine (laws_toFigure.calls a0_0 a0_1 _ _ l0_2 _ _ l0_3 true t398 t399 t400 t403 _ ?side1 ?side2 ?side3 ?side4 A106.out).mono ?_); (case side1 => repeat (zq7_41z)); (case side2 => exact HC0_2.out); (case side3 => repeat (zq7_42z)); (case side4 => exact HC0_3.out); rintro e w119 ⟨v401, v404, rfl, ho0, ho1, hb⟩; refine ⟨_, rfl, ?_⟩; have n0_ := Aside0.mk (Kd.R_mono (Kd.R_told (Kd.R_told (Kd.R_old (by (zq7_2z); exact HO_361002.out) hb) (Kd.PB_base ho0)) (Kd.PB_base ho1)) (fun _ h_ => h_.1)); have n1_ := Aside0.mk (Kd.R_mono (Kd.R_told (Kd.R_told (Kd.R_old (by (zq7_2z); exact HO_361003.out) hb) (Kd.PB_base ho0)) (Kd.PB_base ho1)) (fun _ h_ => h_.1)); have n2_ := Aside0.mk (Kd.R_mono (Kd.R_told (Kd.R_told (Kd.R_old (by (zq7_2z); exact HO_370002.out) hb) (Kd.PB_base ho0)) (Kd.PB_base ho1)) (fun _ h_ => h_.1)); have n3_ := Aside0.mk (Kd.R_mono (Kd.R_told (Kd.R_told (Kd.R_old (by (zq7_2z); exact HO_370003.out) hb) (Kd.PB_base ho0)) (Kd.PB_base ho1)) (fun _ h_ => h_.1)); have n4_ := Aside0.mk (Kd.R_mono (Kd.R_told (Kd.R_told (Kd.R_old (by (zq7_2z); exact HO_380002.out) hb) (Kd.PB_base ho0)) (Kd.PB_base ho1)) (fun _ h_ => h_.1)); have n5_ := Aside0.mk (Kd.R_mono (Kd.R_told (Kd.R_told (Kd.R_old (by (zq7_2z); exact HO_380003.out) hb) (Kd.PB_base ho0)) (Kd.PB_base ho1)) (fun _ h_ => h_.1)); have n6_ := Aside0.mk (Kd.PB_lower (Kd.PB_new' (Kd.PB_new' (Kd.PB_new' (Kd.PB_new' (Kd.PB_new' (Kd.PB_new' ho0 (Kd.R_lt (by (zq7_2z); exact HO_361002.out))) (Kd.R_lt (by (zq7_2z); exact HO_361003.out))) (Kd.R_lt (by (zq7_2z); exact HO_370002.out))) (Kd.R_lt (by (zq7_2z); exact HO_370003.out))) (Kd.R_lt (by (zq7_2z); exact HO_380002.out))) (Kd.R_lt (by (zq7_2z); exact HO_380003.out))) (below_size (by repeat (zq7_3z)))); have n7_ := Aside0.mk (Kd.PB_lower (Kd.PB_new' (Kd.PB_new' (Kd.PB_new' (Kd.PB_new' (Kd.PB_new' (Kd.PB_new' ho1 (Kd.R_lt (by (zq7_2z); exact HO_361002.out))) (Kd.R_lt (by (zq7_2z); exact HO_361003.out))) (Kd.R_lt (by (zq7_2z); exact HO_370002.out))) (Kd.R_lt (by (zq7_2z); exact HO_370003.out))) (Kd.R_lt (by (zq7_2z); exact HO_380002.out))) (Kd.R_lt (by (zq7_2z); exact HO_380003.out))) (below_size (by repeat (zq7_3z)))); have n8_ := Aside0.mk zq7_5z; have n9_ := Aside0.mk zq7_8z; have n10_ := Aside0.mk zq7_13z; have n11_ := Aside0.mk zq7_9z; have n12_ := Aside0.mk (below_step (by repeat (zq7_3z)) hb); clear HO_361002; clear HO_361003; clear HO_370002; clear HO_370003; clear HO_380002; clear HO_380003; clear BK341; clear BK360; clear BK369; clear BK379; clear HB; have HO_361002 := n0_; have HO_361003 := n1_; have HO_370002 := n2_; have HO_370003 := n3_; have HO_380002 := n4_; have HO_380003 := n5_; have HO402 := n6_; have HO405 := n7_; have BK341 := n8_; have BK360 := n9_; have BK369 := n10_; have BK379 := n11_; have HB := n12_; clear n0_ n1_ n2_ n3_ n4_ n5_ n6_ n7_ n8_ n9_ n10_ n11_ n12_; (try clear hb); (try clear hb2); (try clear hk); (try clear hi); (try clear ho0); (try clear ho1); obtain ⟨Ao120, co120, eo120⟩ := Kd.PB_slice HO402.out; subst eo120; obtain ⟨Ao121, co121, eo121⟩ := Kd.PB_slice HO405.out; subst eo121) | ((with_reducible refine gate_callee (f := 28) rfl ?_); refine goesL_ (some 76) rfl rfl Tryd.func28 (by kernel_rfl) rfl #[.agg #[.int .i64 t398, .int .i64 t399, .slice Ao120 t400.length co120, .slice Ao121 t403.length co121]] rfl zq7_6z ?_; (with_reducible refine (impl_MirrorFigure.calls kj63 t398 t399 _ _ t400 _ _ t403 t406 t407 t408 t411 t414 _ ?side1 ?side2 ?side3 ?side4 ?side5 A107.out).mono ?_); (case side1 => repeat (first | exact (Kd.PB_reads' HO402.out).2.2 | (with_reducible refine Kd.C_alloc ?_ _) | (with_reducible refine Kd.C_drewN ?_ _) | (with_reducible refine Kd.C_drew ?_))); (case side2 => exact (Kd.PB_reads' HO402.out).2.1); (case side3 => repeat (first | exact (Kd.PB_reads' HO405.out).2.2 | (with_reducible refine Kd.C_alloc ?_ _) | (with_reducible refine Kd.C_drewN ?_ _) | (with_reducible refine Kd.C_drew ?_))); (case side4 => exact (Kd.PB_reads' HO405.out).2.1); (case side5 => first | exact LaidG_below HG.out (by repeat (zq7_3z)) | (repeat (first | exact HG.out | (with_reducible refine LaidG_alloc ?_ _) | (with_reducible refine LaidG_drewN ?_ _) | (with_reducible refine LaidG_drew ?_)))); rintro e w122 ⟨v409, v412, rfl, ho0, ho1, hb⟩; refine ⟨_, rfl, ?_⟩; have n0_ := Aside0.mk (Kd.R_mono (Kd.R_told (Kd.R_told (Kd.R_old (by (zq7_2z); exact HO_361002.out) hb) (Kd.R_base ho0)) (Kd.R_base ho1)) (fun _ h_ => h_.1)); have n1_ := Aside0.mk (Kd.R_mono (Kd.R_told (Kd.R_told (Kd.R_old (by (zq7_2z); exact HO_361003.out) hb) (Kd.R_base ho0)) (Kd.R_base ho1)) (fun _ h_ => h_.1)); have n2_ := Aside0.mk (Kd.R_mono (Kd.R_told (Kd.R_told (Kd.R_old (by (zq7_2z); exact HO_370002.out) hb) (Kd.R_base ho0)) (Kd.R_base ho1)) (fun _ h_ => h_.1)); have n3_ := Aside0.mk (Kd.R_mono (Kd.R_told (Kd.R_told (Kd.R_old (by (zq7_2z); exact HO_370003.out) hb) (Kd.R_base ho0)) (Kd.R_base ho1)) (fun _ h_ => h_.1)); have n4_ := Aside0.mk (Kd.R_mono (Kd.R_told (Kd.R_told (Kd.R_old (by (zq7_2z); exact HO_380002.out) hb) (Kd.R_base ho0)) (Kd.R_base ho1)) (fun _ h_ => h_.1)); have n5_ := Aside0.mk (Kd.R_mono (Kd.R_told (Kd.R_told (Kd.R_old (by (zq7_2z); exact HO_380003.out) hb) (Kd.R_base ho0)) (Kd.R_base ho1)) (fun _ h_ => h_.1)); have n6_ := Aside0.mk (Kd.PB_mono (Kd.PB_told (Kd.PB_told (Kd.PB_old (by (zq7_4z); exact HO402.out) hb) (Kd.R_base ho0)) (Kd.R_base ho1)) (fun _ h_ => h_.1)); have n7_ := Aside0.mk (Kd.PB_mono (Kd.PB_told (Kd.PB_told (Kd.PB_old (by (zq7_4z); exact HO405.out) hb) (Kd.R_base ho0)) (Kd.R_base ho1)) (fun _ h_ => h_.1)); have n8_ := Aside0.mk (Kd.R_lower (Kd.R_new' (Kd.R_new' (Kd.R_new' (Kd.R_new' (Kd.R_new' (Kd.R_new' (Kd.R_new' (Kd.R_new' ho0 (Kd.R_lt (by (zq7_2z); exact HO_361002.out))) (Kd.R_lt (by (zq7_2z); exact HO_361003.out))) (Kd.R_lt (by (zq7_2z); exact HO_370002.out))) (Kd.R_lt (by (zq7_2z); exact HO_370003.out))) (Kd.R_lt (by (zq7_2z); exact HO_380002.out))) (Kd.R_lt (by (zq7_2z); exact HO_380003.out))) (Kd.PB_lt (by (zq7_4z); exact HO402.out))) (Kd.PB_lt (by (zq7_4z); exact HO405.out))) (below_size (by repeat (zq7_3z)))); have n9_ := Aside0.mk (Kd.R_lower (Kd.R_new' (Kd.R_new' (Kd.R_new' (Kd.R_new' (Kd.R_new' (Kd.R_new' (Kd.R_new' (Kd.R_new' ho1 (Kd.R_lt (by (zq7_2z); exact HO_361002.out))) (Kd.R_lt (by (zq7_2z); exact HO_361003.out))) (Kd.R_lt (by (zq7_2z); exact HO_370002.out))) (Kd.R_lt (by (zq7_2z); exact HO_370003.out))) (Kd.R_lt (by (zq7_2z); exact HO_380002.out))) (Kd.R_lt (by (zq7_2z); exact HO_380003.out))) (Kd.PB_lt (by (zq7_4z); exact HO402.out))) (Kd.PB_lt (by (zq7_4z); exact HO405.out))) (below_size (by repeat (zq7_3z)))); have n10_ := Aside0.mk zq7_5z; have n11_ := Aside0.mk zq7_8z; have n12_ := Aside0.mk zq7_13z; have n13_ := Aside0.mk zq7_9z; have n14_ := Aside0.mk (below_step (by repeat (zq7_3z)) hb); clear HO_361002; clear HO_361003; clear HO_370002; clear HO_370003; clear HO_380002; clear HO_380003; clear HO402; clear HO405; clear BK341; clear BK360; clear BK369; clear BK379; clear HB; have HO_361002 := n0_; have HO_361003 := n1_; have HO_370002 := n2_; have HO_370003 := n3_; have HO_380002 := n4_; have HO_380003 := n5_; have HO402 := n6_; have HO405 := n7_; have HO410 := n8_; have HO413 := n9_; have BK341 := n10_; have BK360 := n11_; have BK369 := n12_; have BK379 := n13_; have HB := n14_; clear n0_ n1_ n2_ n3_ n4_ n5_ n6_ n7_ n8_ n9_ n10_ n11_ n12_ n13_ n14_; (try clear hb); (try clear hb2); (try clear hk); (try clear hi); (try clear ho0); (try clear ho1)) | ((with_reducible refine gate_dst (N := 12) rfl ?_); refine box_event ?hg (N := 12) ?hd (cs := #[.int .i64 0, .int .i64 0, .slice none 0 0, .slice none 0 0]) (t := 26) ?hr ?_; (case hd => rfl); (case hg => rfl); (case hr => first | (go_simp; done) | (go_simp; rfl)); intro gb415 hg w123 hbox hb; have n0_ := Aside0.mk (Kd.R_below (by (zq7_2z); exact HO_361002.out) hb); have n1_ := Aside0.mk (Kd.R_below (by (zq7_2z); exact HO_361003.out) hb); have n2_ := Aside0.mk (Kd.R_below (by (zq7_2z); exact HO_370002.out) hb); have n3_ := Aside0.mk (Kd.R_below (by (zq7_2z); exact HO_370003.out) hb); have n4_ := Aside0.mk (Kd.R_below (by (zq7_2z); exact HO_380002.out) hb); have n5_ := Aside0.mk (Kd.R_below (by (zq7_2z); exact HO_380003.out) hb); have n6_ := Aside0.mk (Kd.PB_below (by (zq7_4z); exact HO402.out) hb); have n7_ := Aside0.mk (Kd.PB_below (by (zq7_4z); exact HO405.out) hb); have n8_ := Aside0.mk (Kd.R_below (by (zq7_2z); exact HO410.out) hb); have n9_ := Aside0.mk (Kd.R_below (by (zq7_2z); exact HO413.out) hb); have n10_ := Aside0.mk zq7_5z; have n11_ := Aside0.mk zq7_8z; have n12_ := Aside0.mk zq7_13z; have n13_ := Aside0.mk zq7_9z; have n14_ := Aside0.mk (below_step (by repeat (zq7_3z)) hb); have n15_ := Aside0.mk (hbox); have n16_ := Aside0.mk ((by rw [hg]; exact (below_size (by repeat (zq7_3z))) : w.heap.size ≤ gb415)); have n17_ := Aside0.mk ((by rw [hg]; exact (below_size (by repeat (zq7_3z))) : w.heap.size ≤ gb415)); have n18_ := Aside0.mk ((by rw [hg]; exact Nat.ne_of_lt zq7_24z : gb341 ≠ gb415)); have n19_ := Aside0.mk ((by rw [hg]; exact Nat.ne_of_gt zq7_24z : gb415 ≠ gb341)); have n20_ := Aside0.mk ((by rw [hg]; exact Nat.ne_of_lt zq7_40z : gb360 ≠ gb415)); have n21_ := Aside0.mk ((by rw [hg]; exact Nat.ne_of_gt zq7_40z : gb415 ≠ gb360)); have n22_ := Aside0.mk ((by rw [hg]; exact Nat.ne_of_lt (blk_lt (g := gb369) (o := .cells #[.int .i64 t361, .int .i64 t362, .slice Ao31 t391.length co31, .slice Ao32 t392.length co32] 26 (0, 0)) (by (zq7_1z); exact BK369.out)) : gb369 ≠ gb415)); have n23_ := Aside0.mk ((by rw [hg]; exact Nat.ne_of_gt (blk_lt (g := gb369) (o := .cells #[.int .i64 t361, .int .i64 t362, .slice Ao31 t391.length co31, .slice Ao32 t392.length co32] 26 (0, 0)) (by (zq7_1z); exact BK369.out)) : gb415 ≠ gb369)); have n24_ := Aside0.mk ((by rw [hg]; exact Nat.ne_of_lt (blk_lt (g := gb379) (o := .cells #[.int .i64 t370, .int .i64 t371, .slice Ao39 t372.length co39, .slice Ao40 t375.length co40] 26 (0, 0)) (by (zq7_1z); exact BK379.out)) : gb379 ≠ gb415)); have n25_ := Aside0.mk ((by rw [hg]; exact Nat.ne_of_gt (blk_lt (g := gb379) (o := .cells #[.int .i64 t370, .int .i64 t371, .slice Ao39 t372.length co39, .slice Ao40 t375.length co40] 26 (0, 0)) (by (zq7_1z); exact BK379.out)) : gb415 ≠ gb379)); clear HO_361002; clear HO_361003; clear HO_370002; clear HO_370003; clear HO_380002; clear HO_380003; clear HO402; clear HO405; clear HO410; clear HO413; clear BK341; clear BK360; clear BK369; clear BK379; clear HB; have HO_361002 := n0_; have HO_361003 := n1_; have HO_370002 := n2_; have HO_370003 := n3_; have HO_380002 := n4_; have HO_380003 := n5_; have HO402 := n6_; have HO405 := n7_; have HO410 := n8_; have HO413 := n9_; have BK341 := n10_; have BK360 := n11_; have BK369 := n12_; have BK379 := n13_; have HB := n14_; have BK415 := n15_; have GW415 := n16_; have GE415 := n17_; have NB341_415 := n18_; have NB415_341 := n19_; have NB360_415 := n20_; have NB415_360 := n21_; have NB369_415 := n22_; have NB415_369 := n23_; have NB379_415 := n24_; have NB415_379 := n25_; clear n0_ n1_ n2_ n3_ n4_ n5_ n6_ n7_ n8_ n9_ n10_ n11_ n12_ n13_ n14_ n15_ n16_ n17_ n18_ n19_ n20_ n21_ n22_ n23_ n24_ n25_; clear hb hbox hg; have hnb124 := NB415_341.out; have hnc124 := NB341_415.out; have hnb125 := NB415_360.out; have hnc125 := NB360_415.out; have hnb126 := NB415_369.out; have hnc126 := NB369_415.out; have hnb127 := NB415_379.out; have hnc127 := NB379_415.out; have hcz128_0 : w123.cell? ⟨gb415, 0, none⟩ = some (.int .i64 0) := (blk_cell BK415.out 0).trans rfl; have hcz128_1 : w123.cell? ⟨gb415, 1, none⟩ = some (.int .i64 0) := (blk_cell BK415.out 1).trans rfl; have hcz128_2 : w123.cell? ⟨gb415, 2, none⟩ = some (.slice none 0 0) := (blk_cell BK415.out 2).trans rfl; have hcz128_3 : w123.cell? ⟨gb415, 3, none⟩ = some (.slice none 0 0) := (blk_cell BK415.out 3).trans rfl; have hfz128_0 := blk_frozen BK415.out 0; have hfz128_1 := blk_frozen BK415.out 1; have hfz128_2 := blk_frozen BK415.out 2; have hfz128_3 := blk_frozen BK415.out 3; obtain ⟨Ao129, co129, eo129⟩ := Kd.R_slice HO410.out; subst eo129; obtain ⟨Ao130, co130, eo130⟩ := Kd.R_slice HO413.out; subst eo130))
           (try simp only [Act.put, List.setIfInBounds_toArray, List.set_cons_zero, List.set_cons_succ])
           go_cut [87] (fun v87 wc => ∃ (kq : Nat) (x87_107 : Bool), v87 = .bool x87_107 ∧ Aside0 (laws_FnExactMirrorFigure.j2 kq t394 x87_107 t370 t371 t395 t396 = some r) ∧ Aside0 (kq ≤ kj63) ∧ Aside0 (Kd.R (Kd.int .i64) 3 wc w.heap.size (fun k_ => some k_ ≠ ((.slice Ao24 t356.length co24) : Value).ownBlock ∧ some k_ ≠ ((.slice Ao31 t391.length co31) : Value).ownBlock ∧ some k_ ≠ ((.slice Ao32 t392.length co32) : Value).ownBlock ∧ some k_ ≠ ((.slice Ao39 t372.length co39) : Value).ownBlock ∧ some k_ ≠ ((.slice Ao40 t375.length co40) : Value).ownBlock ∧ some k_ ≠ ((.slice Ao129 t408.length co129) : Value).ownBlock ∧ some k_ ≠ ((.slice Ao130 t411.length co130) : Value).ownBlock) (.slice Ao23 t353.length co23) t353) ∧ Aside0 (Kd.R (Kd.int .i64) 3 wc w.heap.size (fun k_ => some k_ ≠ ((.slice Ao23 t353.length co23) : Value).ownBlock ∧ some k_ ≠ ((.slice Ao31 t391.length co31) : Value).ownBlock ∧ some k_ ≠ ((.slice Ao32 t392.length co32) : Value).ownBlock ∧ some k_ ≠ ((.slice Ao39 t372.length co39) : Value).ownBlock ∧ some k_ ≠ ((.slice Ao40 t375.length co40) : Value).ownBlock ∧ some k_ ≠ ((.slice Ao129 t408.length co129) : Value).ownBlock ∧ some k_ ≠ ((.slice Ao130 t411.length co130) : Value).ownBlock) (.slice Ao24 t356.length co24) t356) ∧ Aside0 (Kd.R (Kd.int .i64) 3 wc w.heap.size (fun k_ => some k_ ≠ ((.slice Ao23 t353.length co23) : Value).ownBlock ∧ some k_ ≠ ((.slice Ao24 t356.length co24) : Value).ownBlock ∧ some k_ ≠ ((.slice Ao32 t392.length co32) : Value).ownBlock ∧ some k_ ≠ ((.slice Ao39 t372.length co39) : Value).ownBlock ∧ some k_ ≠ ((.slice Ao40 t375.length co40) : Value).ownBlock ∧ some k_ ≠ ((.slice Ao129 t408.length co129) : Value).ownBlock ∧ some k_ ≠ ((.slice Ao130 t411.length co130) : Value).ownBlock) (.slice Ao31 t391.length co31) t391) ∧ Aside0 (Kd.R (Kd.int .i64) 3 wc w.heap.size (fun k_ => some k_ ≠ ((.slice Ao23 t353.length co23) : Value).ownBlock ∧ some k_ ≠ ((.slice Ao24 t356.length co24) : Value).ownBlock ∧ some k_ ≠ ((.slice Ao31 t391.length co31) : Value).ownBlock ∧ some k_ ≠ ((.slice Ao39 t372.length co39) : Value).ownBlock ∧ some k_ ≠ ((.slice Ao40 t375.length co40) : Value).ownBlock ∧ some k_ ≠ ((.slice Ao129 t408.length co129) : Value).ownBlock ∧ some k_ ≠ ((.slice Ao130 t411.length co130) : Value).ownBlock) (.slice Ao32 t392.length co32) t392) ∧ Aside0 (Kd.R (Kd.int .i64) 3 wc w.heap.size (fun k_ => some k_ ≠ ((.slice Ao23 t353.length co23) : Value).ownBlock ∧ some k_ ≠ ((.slice Ao24 t356.length co24) : Value).ownBlock ∧ some k_ ≠ ((.slice Ao31 t391.length co31) : Value).ownBlock ∧ some k_ ≠ ((.slice Ao32 t392.length co32) : Value).ownBlock ∧ some k_ ≠ ((.slice Ao40 t375.length co40) : Value).ownBlock ∧ some k_ ≠ ((.slice Ao129 t408.length co129) : Value).ownBlock ∧ some k_ ≠ ((.slice Ao130 t411.length co130) : Value).ownBlock) (.slice Ao39 t372.length co39) t395) ∧ Aside0 (Kd.R (Kd.int .i64) 3 wc w.heap.size (fun k_ => some k_ ≠ ((.slice Ao23 t353.length co23) : Value).ownBlock ∧ some k_ ≠ ((.slice Ao24 t356.length co24) : Value).ownBlock ∧ some k_ ≠ ((.slice Ao31 t391.length co31) : Value).ownBlock ∧ some k_ ≠ ((.slice Ao32 t392.length co32) : Value).ownBlock ∧ some k_ ≠ ((.slice Ao39 t372.length co39) : Value).ownBlock ∧ some k_ ≠ ((.slice Ao129 t408.length co129) : Value).ownBlock ∧ some k_ ≠ ((.slice Ao130 t411.length co130) : Value).ownBlock) (.slice Ao40 t375.length co40) t396) ∧ Aside0 (Kd.R (Kd.int .i64) 3 wc w.heap.size (fun k_ => some k_ ≠ ((.slice Ao23 t353.length co23) : Value).ownBlock ∧ some k_ ≠ ((.slice Ao24 t356.length co24) : Value).ownBlock ∧ some k_ ≠ ((.slice Ao31 t391.length co31) : Value).ownBlock ∧ some k_ ≠ ((.slice Ao32 t392.length co32) : Value).ownBlock ∧ some k_ ≠ ((.slice Ao39 t372.length co39) : Value).ownBlock ∧ some k_ ≠ ((.slice Ao40 t375.length co40) : Value).ownBlock ∧ some k_ ≠ ((.slice Ao130 t411.length co130) : Value).ownBlock) (.slice Ao129 t408.length co129) t408) ∧ Aside0 (Kd.R (Kd.int .i64) 3 wc w.heap.size (fun k_ => some k_ ≠ ((.slice Ao23 t353.length co23) : Value).ownBlock ∧ some k_ ≠ ((.slice Ao24 t356.length co24) : Value).ownBlock ∧ some k_ ≠ ((.slice Ao31 t391.length co31) : Value).ownBlock ∧ some k_ ≠ ((.slice Ao32 t392.length co32) : Value).ownBlock ∧ some k_ ≠ ((.slice Ao39 t372.length co39) : Value).ownBlock ∧ some k_ ≠ ((.slice Ao40 t375.length co40) : Value).ownBlock ∧ some k_ ≠ ((.slice Ao129 t408.length co129) : Value).ownBlock) (.slice Ao130 t411.length co130) t411) ∧ Aside0 (wc.heap[gb341]? = some (.cells #[.int .i64 a0_0, .int .i64 a0_1, (.slice A0_2 l0_2.length c0_2), (.slice A0_3 l0_3.length c0_3)] 24 (0, 0))) ∧ Aside0 (wc.heap[gb360]? = some (.cells #[.int .i64 t351, .int .i64 t352, (.slice Ao23 t353.length co23), (.slice Ao24 t356.length co24)] 26 (0, 0))) ∧ Aside0 (wc.heap[gb369]? = some (.cells #[.int .i64 t361, .int .i64 t362, (.slice Ao31 t391.length co31), (.slice Ao32 t392.length co32)] 26 (0, 0))) ∧ Aside0 (wc.heap[gb379]? = some (.cells #[.int .i64 t370, .int .i64 t371, (.slice Ao39 t372.length co39), (.slice Ao40 t375.length co40)] 26 (0, 0))) ∧ Aside0 (wc.heap[gb415]? = some (.cells #[.int .i64 t406, .int .i64 t407, (.slice Ao129 t408.length co129), (.slice Ao130 t411.length co130)] 26 (0, 0))) ∧ Aside0 (Below w.heap.size w wc))
           case first =>
            have H := HC108.out
            clear HC108
            replace H := Option.bind_eq_some_iff.mp H
            obtain ⟨t416, A1310, H⟩ := H
            replace H : (if t416 = true then (laws_FnExactMirrorFigure.j2 kj63 t394 (t414 != t359) t370 t371 t395 t396) else (laws_FnExactMirrorFigure.j2 kj63 t394 true t370 t371 t395 t396)) = some r := H
            have A131 := Aside0.mk A1310
            clear A1310
            by_cases c132 : t416 = true
            ·subst c132
             have H1 : (laws_FnExactMirrorFigure.j2 kj63 t394 (t414 != t359) t370 t371 t395 t396) = some r := by rw [if_pos rfl] at H; exact H
             clear H
             have H := H1
             clear H1
             have H' := Aside0.mk H
             clear H
             have hnb133 := NB415_341.out
             have hnc133 := NB341_415.out
             have hnb134 := NB415_360.out
             have hnc134 := NB360_415.out
             have hnb135 := NB415_369.out
             have hnc135 := NB369_415.out
             have hnb136 := NB415_379.out
             have hnc136 := NB379_415.out
             have hcz137_0 : w123.cell? ⟨gb415, 0, none⟩ = some (.int .i64 0) := (blk_cell BK415.out 0).trans rfl
             have hcz137_1 : w123.cell? ⟨gb415, 1, none⟩ = some (.int .i64 0) := (blk_cell BK415.out 1).trans rfl
             have hcz137_2 : w123.cell? ⟨gb415, 2, none⟩ = some (.slice none 0 0) := (blk_cell BK415.out 2).trans rfl
             have hcz137_3 : w123.cell? ⟨gb415, 3, none⟩ = some (.slice none 0 0) := (blk_cell BK415.out 3).trans rfl
             have hfz137_0 := blk_frozen BK415.out 0
             have hfz137_1 := blk_frozen BK415.out 1
             have hfz137_2 := blk_frozen BK415.out 2
             have hfz137_3 := blk_frozen BK415.out 3
             have hnb138 := NB360_341.out
             have hnc138 := NB341_360.out
             have hnb139 := NB360_369.out
             have hnc139 := NB369_360.out
             have hnb140 := NB360_379.out
             have hnc140 := NB379_360.out
             have hcz141_0 : w123.cell? ⟨gb360, 0, none⟩ = some (.int .i64 t351) := (blk_cell BK360.out 0).trans rfl
             have hcz141_1 : w123.cell? ⟨gb360, 1, none⟩ = some (.int .i64 t352) := (blk_cell BK360.out 1).trans rfl
             have hcz141_2 : w123.cell? ⟨gb360, 2, none⟩ = some (.slice Ao23 t353.length co23) := (blk_cell BK360.out 2).trans rfl
             have hcz141_3 : w123.cell? ⟨gb360, 3, none⟩ = some (.slice Ao24 t356.length co24) := (blk_cell BK360.out 3).trans rfl
             have hfz141_0 := blk_frozen BK360.out 0
             have hfz141_1 := blk_frozen BK360.out 1
             have hfz141_2 := blk_frozen BK360.out 2
             have hfz141_3 := blk_frozen BK360.out 3
             go_wp2_with (first | ((with_reducible refine gate_callee (f := 14) rfl ?_); refine goesL_ (some 81) rfl rfl Tryd.func14 (by kernel_rfl) rfl #[.agg #[.int .i64 t406, .int .i64 t407, .slice Ao129 t408.length co129, .slice Ao130 t411.length co130], .agg #[.int .i64 t351, .int .i64 t352, .slice Ao23 t353.length co23, .slice Ao24 t356.length co24]] rfl zq7_6z ?_; (with_reducible refine (laws_eqFigure.calls kj63 t406 t407 _ _ t408 _ _ t411 t351 t352 _ _ t353 _ _ t356 true _ ?side1 ?side2 ?side3 ?side4 ?side5 ?side6 ?side7 ?side8 A131.out).mono ?_); (case side1 => refine (Kd.R_reads' (e := 3) (base := w.heap.size) (ok := fun k_ => ((((((((some k_ ≠ (.slice Ao130 t411.length co130 : Value).ownBlock ∧ some k_ ≠ (.slice Ao23 t353.length co23 : Value).ownBlock) ∧ some k_ ≠ (.slice Ao24 t356.length co24 : Value).ownBlock) ∧ some k_ ≠ (.slice Ao31 t391.length co31 : Value).ownBlock) ∧ some k_ ≠ (.slice Ao32 t392.length co32 : Value).ownBlock) ∧ some k_ ≠ (.slice Ao39 t372.length co39 : Value).ownBlock) ∧ some k_ ≠ (.slice Ao40 t375.length co40 : Value).ownBlock) ∧ some k_ ≠ (.slice Ao120 t400.length co120 : Value).ownBlock) ∧ some k_ ≠ (.slice Ao121 t403.length co121 : Value).ownBlock)) (n := t408.length) (c := co129) ?_).2.2; exact zq7_18z); (case side2 => exact (Kd.R_reads' HO410.out).2.1); (case side3 => refine (Kd.R_reads' (e := 3) (base := w.heap.size) (ok := fun k_ => ((((((((some k_ ≠ (.slice Ao129 t408.length co129 : Value).ownBlock ∧ some k_ ≠ (.slice Ao23 t353.length co23 : Value).ownBlock) ∧ some k_ ≠ (.slice Ao24 t356.length co24 : Value).ownBlock) ∧ some k_ ≠ (.slice Ao31 t391.length co31 : Value).ownBlock) ∧ some k_ ≠ (.slice Ao32 t392.length co32 : Value).ownBlock) ∧ some k_ ≠ (.slice Ao39 t372.length co39 : Value).ownBlock) ∧ some k_ ≠ (.slice Ao40 t375.length co40 : Value).ownBlock) ∧ some k_ ≠ (.slice Ao120 t400.length co120 : Value).ownBlock) ∧ some k_ ≠ (.slice Ao121 t403.length co121 : Value).ownBlock)) (n := t411.length) (c := co130) ?_).2.2; exact zq7_19z); (case side4 => exact (Kd.R_reads' HO413.out).2.1); (case side5 => refine (Kd.R_reads' (e := 3) (base := w.heap.size) (ok := fun k_ => (((((some k_ ≠ (.slice Ao24 t356.length co24 : Value).ownBlock ∧ (some k_ ≠ (.slice Ao31 t391.length co31 : Value).ownBlock ∧ (some k_ ≠ (.slice Ao32 t392.length co32 : Value).ownBlock ∧ (some k_ ≠ (.slice Ao39 t372.length co39 : Value).ownBlock ∧ some k_ ≠ (.slice Ao40 t375.length co40 : Value).ownBlock)))) ∧ some k_ ≠ (.slice Ao120 t400.length co120 : Value).ownBlock) ∧ some k_ ≠ (.slice Ao121 t403.length co121 : Value).ownBlock) ∧ some k_ ≠ (.slice Ao129 t408.length co129 : Value).ownBlock) ∧ some k_ ≠ (.slice Ao130 t411.length co130 : Value).ownBlock)) (n := t353.length) (c := co23) ?_).2.2; exact zq7_14z); (case side6 => exact (Kd.R_reads' HO_361002.out).2.1); (case side7 => refine (Kd.R_reads' (e := 3) (base := w.heap.size) (ok := fun k_ => (((((some k_ ≠ (.slice Ao23 t353.length co23 : Value).ownBlock ∧ (some k_ ≠ (.slice Ao31 t391.length co31 : Value).ownBlock ∧ (some k_ ≠ (.slice Ao32 t392.length co32 : Value).ownBlock ∧ (some k_ ≠ (.slice Ao39 t372.length co39 : Value).ownBlock ∧ some k_ ≠ (.slice Ao40 t375.length co40 : Value).ownBlock)))) ∧ some k_ ≠ (.slice Ao120 t400.length co120 : Value).ownBlock) ∧ some k_ ≠ (.slice Ao121 t403.length co121 : Value).ownBlock) ∧ some k_ ≠ (.slice Ao129 t408.length co129 : Value).ownBlock) ∧ some k_ ≠ (.slice Ao130 t411.length co130 : Value).ownBlock)) (n := t356.length) (c := co24) ?_).2.2; exact zq7_15z); (case side8 => exact (Kd.R_reads' HO_361003.out).2.1); rintro e w142 ⟨rfl, hb⟩; refine ⟨_, rfl, ?_⟩; have n0_ := Aside0.mk (Kd.R_below zq7_14z hb); have n1_ := Aside0.mk (Kd.R_below zq7_15z hb); have n2_ := Aside0.mk (Kd.R_below zq7_60z hb); have n3_ := Aside0.mk (Kd.R_below zq7_61z hb); have n4_ := Aside0.mk (Kd.R_below zq7_62z hb); have n5_ := Aside0.mk (Kd.R_below zq7_63z hb); have n6_ := Aside0.mk zq7_48z; have n7_ := Aside0.mk zq7_49z; have n8_ := Aside0.mk (Kd.R_below zq7_18z hb); have n9_ := Aside0.mk (Kd.R_below zq7_19z hb); have n10_ := Aside0.mk (blk_below (g := gb341) (o := .cells #[.int .i64 a0_0, .int .i64 a0_1, .slice A0_2 l0_2.length c0_2, .slice A0_3 l0_3.length c0_3] 24 (0, 0)) (by (zq7_1z); refine blk_far ?_ NB341_415.out _; (zq7_1z); refine blk_far ?_ NB341_415.out _; (zq7_1z); refine blk_far ?_ NB341_415.out _; (zq7_1z); refine blk_far ?_ NB341_415.out _; (zq7_1z); exact BK341.out) hb); have n11_ := Aside0.mk (blk_below (g := gb360) (o := .cells #[.int .i64 t351, .int .i64 t352, .slice Ao23 t353.length co23, .slice Ao24 t356.length co24] 26 (0, 0)) (by (zq7_1z); refine blk_far ?_ NB360_415.out _; (zq7_1z); refine blk_far ?_ NB360_415.out _; (zq7_1z); refine blk_far ?_ NB360_415.out _; (zq7_1z); refine blk_far ?_ NB360_415.out _; (zq7_1z); exact BK360.out) hb); have n12_ := Aside0.mk (blk_below (g := gb369) (o := .cells #[.int .i64 t361, .int .i64 t362, .slice Ao31 t391.length co31, .slice Ao32 t392.length co32] 26 (0, 0)) (by (zq7_1z); refine blk_far ?_ NB369_415.out _; (zq7_1z); refine blk_far ?_ NB369_415.out _; (zq7_1z); refine blk_far ?_ NB369_415.out _; (zq7_1z); refine blk_far ?_ NB369_415.out _; (zq7_1z); exact BK369.out) hb); have n13_ := Aside0.mk (blk_below (g := gb379) (o := .cells #[.int .i64 t370, .int .i64 t371, .slice Ao39 t372.length co39, .slice Ao40 t375.length co40] 26 (0, 0)) (by (zq7_1z); refine blk_far ?_ NB379_415.out _; (zq7_1z); refine blk_far ?_ NB379_415.out _; (zq7_1z); refine blk_far ?_ NB379_415.out _; (zq7_1z); refine blk_far ?_ NB379_415.out _; (zq7_1z); exact BK379.out) hb); have n14_ := Aside0.mk zq7_43z; have n15_ := Aside0.mk (below_step (by repeat (zq7_7z)) hb); clear HO_361002; clear HO_361003; clear HO_370002; clear HO_370003; clear HO_380002; clear HO_380003; clear HO402; clear HO405; clear HO410; clear HO413; clear BK341; clear BK360; clear BK369; clear BK379; clear BK415; clear HB; have HO_361002 := n0_; have HO_361003 := n1_; have HO_370002 := n2_; have HO_370003 := n3_; have HO_380002 := n4_; have HO_380003 := n5_; have HO402 := n6_; have HO405 := n7_; have HO410 := n8_; have HO413 := n9_; have BK341 := n10_; have BK360 := n11_; have BK369 := n12_; have BK379 := n13_; have BK415 := n14_; have HB := n15_; clear n0_ n1_ n2_ n3_ n4_ n5_ n6_ n7_ n8_ n9_ n10_ n11_ n12_ n13_ n14_ n15_; (try clear hb); (try clear hb2); (try clear hk); (try clear hi)))
             go_meet
             case rel => exact ⟨_, ((t414 != t359)), (by first | rfl | (simp; done) | (simp [*]; done)), H', ⟨by have := HJ10.out; have := HJ63.out; first | omega | exact Nat.le_refl _⟩, ⟨by (try simp only [hl370002_63]); (try simp only [hl370003_63]); (zq7_2z); exact Kd.R_mono HO_361002.out (fun _ hk => ⟨hk.1.1.1.1.1, ⟨hk.1.1.1.1.2.1, ⟨hk.1.1.1.1.2.2.1, ⟨hk.1.1.1.1.2.2.2.1, ⟨hk.1.1.1.1.2.2.2.2, ⟨hk.1.2, hk.2⟩⟩⟩⟩⟩⟩)⟩, ⟨by (try simp only [hl370002_63]); (try simp only [hl370003_63]); (zq7_2z); exact Kd.R_mono HO_361003.out (fun _ hk => ⟨hk.1.1.1.1.1, ⟨hk.1.1.1.1.2.1, ⟨hk.1.1.1.1.2.2.1, ⟨hk.1.1.1.1.2.2.2.1, ⟨hk.1.1.1.1.2.2.2.2, ⟨hk.1.2, hk.2⟩⟩⟩⟩⟩⟩)⟩, ⟨by (try simp only [hl370002_63]); (try simp only [hl370003_63]); (zq7_2z); exact Kd.R_mono HO_370002.out (fun _ hk => ⟨hk.1.1.1.1.1, ⟨hk.1.1.1.1.2.1, ⟨hk.1.1.1.1.2.2.1, ⟨hk.1.1.1.1.2.2.2.1, ⟨hk.1.1.1.1.2.2.2.2, ⟨hk.1.2, hk.2⟩⟩⟩⟩⟩⟩)⟩, ⟨by (try simp only [hl370002_63]); (try simp only [hl370003_63]); (zq7_2z); exact Kd.R_mono HO_370003.out (fun _ hk => ⟨hk.1.1.1.1.1, ⟨hk.1.1.1.1.2.1, ⟨hk.1.1.1.1.2.2.1, ⟨hk.1.1.1.1.2.2.2.1, ⟨hk.1.1.1.1.2.2.2.2, ⟨hk.1.2, hk.2⟩⟩⟩⟩⟩⟩)⟩, ⟨by (try simp only [hl370002_63]); (try simp only [hl370003_63]); (zq7_2z); exact Kd.R_mono HO_380002.out (fun _ hk => ⟨hk.1.1.1.1.1, ⟨hk.1.1.1.1.2.1, ⟨hk.1.1.1.1.2.2.1, ⟨hk.1.1.1.1.2.2.2.1, ⟨hk.1.1.1.1.2.2.2.2, ⟨hk.1.2, hk.2⟩⟩⟩⟩⟩⟩)⟩, ⟨by (try simp only [hl370002_63]); (try simp only [hl370003_63]); (zq7_2z); exact Kd.R_mono HO_380003.out (fun _ hk => ⟨hk.1.1.1.1.1, ⟨hk.1.1.1.1.2.1, ⟨hk.1.1.1.1.2.2.1, ⟨hk.1.1.1.1.2.2.2.1, ⟨hk.1.1.1.1.2.2.2.2, ⟨hk.1.2, hk.2⟩⟩⟩⟩⟩⟩)⟩, ⟨by (try simp only [hl370002_63]); (try simp only [hl370003_63]); (zq7_2z); exact Kd.R_mono HO410.out (fun _ hk => ⟨hk.1.1.1.1.1.1.1.2, ⟨hk.1.1.1.1.1.1.2, ⟨hk.1.1.1.1.1.2, ⟨hk.1.1.1.1.2, ⟨hk.1.1.1.2, ⟨hk.1.1.2, hk.1.1.1.1.1.1.1.1⟩⟩⟩⟩⟩⟩)⟩, ⟨by (try simp only [hl370002_63]); (try simp only [hl370003_63]); (zq7_2z); exact Kd.R_mono HO413.out (fun _ hk => ⟨hk.1.1.1.1.1.1.1.2, ⟨hk.1.1.1.1.1.1.2, ⟨hk.1.1.1.1.1.2, ⟨hk.1.1.1.1.2, ⟨hk.1.1.1.2, ⟨hk.1.1.2, hk.1.1.1.1.1.1.1.1⟩⟩⟩⟩⟩⟩)⟩, ⟨by (try simp only [hl370002_63]); (try simp only [hl370003_63]); (zq7_1z); exact BK341.out⟩, ⟨by (try simp only [hl370002_63]); (try simp only [hl370003_63]); (zq7_1z); exact BK360.out⟩, ⟨by (try simp only [hl370002_63]); (try simp only [hl370003_63]); (zq7_1z); exact BK369.out⟩, ⟨by (try simp only [hl370002_63]); (try simp only [hl370003_63]); (zq7_1z); exact BK379.out⟩, ⟨by (try simp only [hl370002_63]); (try simp only [hl370003_63]); (zq7_1z); exact BK415.out⟩, ⟨by repeat (zq7_7z)⟩⟩
            ·replace c132 := Bool.eq_false_iff.mpr c132
             subst c132
             have H1 : (laws_FnExactMirrorFigure.j2 kj63 t394 true t370 t371 t395 t396) = some r := by rw [if_neg (show ¬ (false = true) by decide)] at H; exact H
             clear H
             have H := H1
             clear H1
             have H' := Aside0.mk H
             clear H
             have hnb143 := NB415_341.out
             have hnc143 := NB341_415.out
             have hnb144 := NB415_360.out
             have hnc144 := NB360_415.out
             have hnb145 := NB415_369.out
             have hnc145 := NB369_415.out
             have hnb146 := NB415_379.out
             have hnc146 := NB379_415.out
             have hcz147_0 : w123.cell? ⟨gb415, 0, none⟩ = some (.int .i64 0) := (blk_cell BK415.out 0).trans rfl
             have hcz147_1 : w123.cell? ⟨gb415, 1, none⟩ = some (.int .i64 0) := (blk_cell BK415.out 1).trans rfl
             have hcz147_2 : w123.cell? ⟨gb415, 2, none⟩ = some (.slice none 0 0) := (blk_cell BK415.out 2).trans rfl
             have hcz147_3 : w123.cell? ⟨gb415, 3, none⟩ = some (.slice none 0 0) := (blk_cell BK415.out 3).trans rfl
             have hfz147_0 := blk_frozen BK415.out 0
             have hfz147_1 := blk_frozen BK415.out 1
             have hfz147_2 := blk_frozen BK415.out 2
             have hfz147_3 := blk_frozen BK415.out 3
             have hnb148 := NB360_341.out
             have hnc148 := NB341_360.out
             have hnb149 := NB360_369.out
             have hnc149 := NB369_360.out
             have hnb150 := NB360_379.out
             have hnc150 := NB379_360.out
             have hcz151_0 : w123.cell? ⟨gb360, 0, none⟩ = some (.int .i64 t351) := (blk_cell BK360.out 0).trans rfl
             have hcz151_1 : w123.cell? ⟨gb360, 1, none⟩ = some (.int .i64 t352) := (blk_cell BK360.out 1).trans rfl
             have hcz151_2 : w123.cell? ⟨gb360, 2, none⟩ = some (.slice Ao23 t353.length co23) := (blk_cell BK360.out 2).trans rfl
             have hcz151_3 : w123.cell? ⟨gb360, 3, none⟩ = some (.slice Ao24 t356.length co24) := (blk_cell BK360.out 3).trans rfl
             have hfz151_0 := blk_frozen BK360.out 0
             have hfz151_1 := blk_frozen BK360.out 1
             have hfz151_2 := blk_frozen BK360.out 2
             have hfz151_3 := blk_frozen BK360.out 3
             go_wp2_with (first | ((with_reducible refine gate_callee (f := 14) rfl ?_); refine goesL_ (some 81) rfl rfl Tryd.func14 (by kernel_rfl) rfl #[.agg #[.int .i64 t406, .int .i64 t407, .slice Ao129 t408.length co129, .slice Ao130 t411.length co130], .agg #[.int .i64 t351, .int .i64 t352, .slice Ao23 t353.length co23, .slice Ao24 t356.length co24]] rfl zq7_6z ?_; (with_reducible refine (laws_eqFigure.calls kj63 t406 t407 _ _ t408 _ _ t411 t351 t352 _ _ t353 _ _ t356 false _ ?side1 ?side2 ?side3 ?side4 ?side5 ?side6 ?side7 ?side8 A131.out).mono ?_); (case side1 => refine (Kd.R_reads' (e := 3) (base := w.heap.size) (ok := fun k_ => ((((((((some k_ ≠ (.slice Ao130 t411.length co130 : Value).ownBlock ∧ some k_ ≠ (.slice Ao23 t353.length co23 : Value).ownBlock) ∧ some k_ ≠ (.slice Ao24 t356.length co24 : Value).ownBlock) ∧ some k_ ≠ (.slice Ao31 t391.length co31 : Value).ownBlock) ∧ some k_ ≠ (.slice Ao32 t392.length co32 : Value).ownBlock) ∧ some k_ ≠ (.slice Ao39 t372.length co39 : Value).ownBlock) ∧ some k_ ≠ (.slice Ao40 t375.length co40 : Value).ownBlock) ∧ some k_ ≠ (.slice Ao120 t400.length co120 : Value).ownBlock) ∧ some k_ ≠ (.slice Ao121 t403.length co121 : Value).ownBlock)) (n := t408.length) (c := co129) ?_).2.2; exact zq7_18z); (case side2 => exact (Kd.R_reads' HO410.out).2.1); (case side3 => refine (Kd.R_reads' (e := 3) (base := w.heap.size) (ok := fun k_ => ((((((((some k_ ≠ (.slice Ao129 t408.length co129 : Value).ownBlock ∧ some k_ ≠ (.slice Ao23 t353.length co23 : Value).ownBlock) ∧ some k_ ≠ (.slice Ao24 t356.length co24 : Value).ownBlock) ∧ some k_ ≠ (.slice Ao31 t391.length co31 : Value).ownBlock) ∧ some k_ ≠ (.slice Ao32 t392.length co32 : Value).ownBlock) ∧ some k_ ≠ (.slice Ao39 t372.length co39 : Value).ownBlock) ∧ some k_ ≠ (.slice Ao40 t375.length co40 : Value).ownBlock) ∧ some k_ ≠ (.slice Ao120 t400.length co120 : Value).ownBlock) ∧ some k_ ≠ (.slice Ao121 t403.length co121 : Value).ownBlock)) (n := t411.length) (c := co130) ?_).2.2; exact zq7_19z); (case side4 => exact (Kd.R_reads' HO413.out).2.1); (case side5 => refine (Kd.R_reads' (e := 3) (base := w.heap.size) (ok := fun k_ => (((((some k_ ≠ (.slice Ao24 t356.length co24 : Value).ownBlock ∧ (some k_ ≠ (.slice Ao31 t391.length co31 : Value).ownBlock ∧ (some k_ ≠ (.slice Ao32 t392.length co32 : Value).ownBlock ∧ (some k_ ≠ (.slice Ao39 t372.length co39 : Value).ownBlock ∧ some k_ ≠ (.slice Ao40 t375.length co40 : Value).ownBlock)))) ∧ some k_ ≠ (.slice Ao120 t400.length co120 : Value).ownBlock) ∧ some k_ ≠ (.slice Ao121 t403.length co121 : Value).ownBlock) ∧ some k_ ≠ (.slice Ao129 t408.length co129 : Value).ownBlock) ∧ some k_ ≠ (.slice Ao130 t411.length co130 : Value).ownBlock)) (n := t353.length) (c := co23) ?_).2.2; exact zq7_14z); (case side6 => exact (Kd.R_reads' HO_361002.out).2.1); (case side7 => refine (Kd.R_reads' (e := 3) (base := w.heap.size) (ok := fun k_ => (((((some k_ ≠ (.slice Ao23 t353.length co23 : Value).ownBlock ∧ (some k_ ≠ (.slice Ao31 t391.length co31 : Value).ownBlock ∧ (some k_ ≠ (.slice Ao32 t392.length co32 : Value).ownBlock ∧ (some k_ ≠ (.slice Ao39 t372.length co39 : Value).ownBlock ∧ some k_ ≠ (.slice Ao40 t375.length co40 : Value).ownBlock)))) ∧ some k_ ≠ (.slice Ao120 t400.length co120 : Value).ownBlock) ∧ some k_ ≠ (.slice Ao121 t403.length co121 : Value).ownBlock) ∧ some k_ ≠ (.slice Ao129 t408.length co129 : Value).ownBlock) ∧ some k_ ≠ (.slice Ao130 t411.length co130 : Value).ownBlock)) (n := t356.length) (c := co24) ?_).2.2; exact zq7_15z); (case side8 => exact (Kd.R_reads' HO_361003.out).2.1); rintro e w152 ⟨rfl, hb⟩; refine ⟨_, rfl, ?_⟩; have n0_ := Aside0.mk (Kd.R_below zq7_14z hb); have n1_ := Aside0.mk (Kd.R_below zq7_15z hb); have n2_ := Aside0.mk (Kd.R_below zq7_60z hb); have n3_ := Aside0.mk (Kd.R_below zq7_61z hb); have n4_ := Aside0.mk (Kd.R_below zq7_62z hb); have n5_ := Aside0.mk (Kd.R_below zq7_63z hb); have n6_ := Aside0.mk zq7_48z; have n7_ := Aside0.mk zq7_49z; have n8_ := Aside0.mk (Kd.R_below zq7_18z hb); have n9_ := Aside0.mk (Kd.R_below zq7_19z hb); have n10_ := Aside0.mk (blk_below (g := gb341) (o := .cells #[.int .i64 a0_0, .int .i64 a0_1, .slice A0_2 l0_2.length c0_2, .slice A0_3 l0_3.length c0_3] 24 (0, 0)) (by (zq7_1z); refine blk_far ?_ NB341_415.out _; (zq7_1z); refine blk_far ?_ NB341_415.out _; (zq7_1z); refine blk_far ?_ NB341_415.out _; (zq7_1z); refine blk_far ?_ NB341_415.out _; (zq7_1z); exact BK341.out) hb); have n11_ := Aside0.mk (blk_below (g := gb360) (o := .cells #[.int .i64 t351, .int .i64 t352, .slice Ao23 t353.length co23, .slice Ao24 t356.length co24] 26 (0, 0)) (by (zq7_1z); refine blk_far ?_ NB360_415.out _; (zq7_1z); refine blk_far ?_ NB360_415.out _; (zq7_1z); refine blk_far ?_ NB360_415.out _; (zq7_1z); refine blk_far ?_ NB360_415.out _; (zq7_1z); exact BK360.out) hb); have n12_ := Aside0.mk (blk_below (g := gb369) (o := .cells #[.int .i64 t361, .int .i64 t362, .slice Ao31 t391.length co31, .slice Ao32 t392.length co32] 26 (0, 0)) (by (zq7_1z); refine blk_far ?_ NB369_415.out _; (zq7_1z); refine blk_far ?_ NB369_415.out _; (zq7_1z); refine blk_far ?_ NB369_415.out _; (zq7_1z); refine blk_far ?_ NB369_415.out _; (zq7_1z); exact BK369.out) hb); have n13_ := Aside0.mk (blk_below (g := gb379) (o := .cells #[.int .i64 t370, .int .i64 t371, .slice Ao39 t372.length co39, .slice Ao40 t375.length co40] 26 (0, 0)) (by (zq7_1z); refine blk_far ?_ NB379_415.out _; (zq7_1z); refine blk_far ?_ NB379_415.out _; (zq7_1z); refine blk_far ?_ NB379_415.out _; (zq7_1z); refine blk_far ?_ NB379_415.out _; (zq7_1z); exact BK379.out) hb); have n14_ := Aside0.mk zq7_43z; have n15_ := Aside0.mk (below_step (by repeat (zq7_7z)) hb); clear HO_361002; clear HO_361003; clear HO_370002; clear HO_370003; clear HO_380002; clear HO_380003; clear HO402; clear HO405; clear HO410; clear HO413; clear BK341; clear BK360; clear BK369; clear BK379; clear BK415; clear HB; have HO_361002 := n0_; have HO_361003 := n1_; have HO_370002 := n2_; have HO_370003 := n3_; have HO_380002 := n4_; have HO_380003 := n5_; have HO402 := n6_; have HO405 := n7_; have HO410 := n8_; have HO413 := n9_; have BK341 := n10_; have BK360 := n11_; have BK369 := n12_; have BK379 := n13_; have BK415 := n14_; have HB := n15_; clear n0_ n1_ n2_ n3_ n4_ n5_ n6_ n7_ n8_ n9_ n10_ n11_ n12_ n13_ n14_ n15_; (try clear hb); (try clear hb2); (try clear hk); (try clear hi)))
             go_meet
             case rel => exact ⟨_, (true), (by first | rfl | (simp; done) | (simp [*]; done)), H', ⟨by have := HJ10.out; have := HJ63.out; first | omega | exact Nat.le_refl _⟩, ⟨by (try simp only [hl370002_63]); (try simp only [hl370003_63]); (zq7_2z); exact Kd.R_mono HO_361002.out (fun _ hk => ⟨hk.1.1.1.1.1, ⟨hk.1.1.1.1.2.1, ⟨hk.1.1.1.1.2.2.1, ⟨hk.1.1.1.1.2.2.2.1, ⟨hk.1.1.1.1.2.2.2.2, ⟨hk.1.2, hk.2⟩⟩⟩⟩⟩⟩)⟩, ⟨by (try simp only [hl370002_63]); (try simp only [hl370003_63]); (zq7_2z); exact Kd.R_mono HO_361003.out (fun _ hk => ⟨hk.1.1.1.1.1, ⟨hk.1.1.1.1.2.1, ⟨hk.1.1.1.1.2.2.1, ⟨hk.1.1.1.1.2.2.2.1, ⟨hk.1.1.1.1.2.2.2.2, ⟨hk.1.2, hk.2⟩⟩⟩⟩⟩⟩)⟩, ⟨by (try simp only [hl370002_63]); (try simp only [hl370003_63]); (zq7_2z); exact Kd.R_mono HO_370002.out (fun _ hk => ⟨hk.1.1.1.1.1, ⟨hk.1.1.1.1.2.1, ⟨hk.1.1.1.1.2.2.1, ⟨hk.1.1.1.1.2.2.2.1, ⟨hk.1.1.1.1.2.2.2.2, ⟨hk.1.2, hk.2⟩⟩⟩⟩⟩⟩)⟩, ⟨by (try simp only [hl370002_63]); (try simp only [hl370003_63]); (zq7_2z); exact Kd.R_mono HO_370003.out (fun _ hk => ⟨hk.1.1.1.1.1, ⟨hk.1.1.1.1.2.1, ⟨hk.1.1.1.1.2.2.1, ⟨hk.1.1.1.1.2.2.2.1, ⟨hk.1.1.1.1.2.2.2.2, ⟨hk.1.2, hk.2⟩⟩⟩⟩⟩⟩)⟩, ⟨by (try simp only [hl370002_63]); (try simp only [hl370003_63]); (zq7_2z); exact Kd.R_mono HO_380002.out (fun _ hk => ⟨hk.1.1.1.1.1, ⟨hk.1.1.1.1.2.1, ⟨hk.1.1.1.1.2.2.1, ⟨hk.1.1.1.1.2.2.2.1, ⟨hk.1.1.1.1.2.2.2.2, ⟨hk.1.2, hk.2⟩⟩⟩⟩⟩⟩)⟩, ⟨by (try simp only [hl370002_63]); (try simp only [hl370003_63]); (zq7_2z); exact Kd.R_mono HO_380003.out (fun _ hk => ⟨hk.1.1.1.1.1, ⟨hk.1.1.1.1.2.1, ⟨hk.1.1.1.1.2.2.1, ⟨hk.1.1.1.1.2.2.2.1, ⟨hk.1.1.1.1.2.2.2.2, ⟨hk.1.2, hk.2⟩⟩⟩⟩⟩⟩)⟩, ⟨by (try simp only [hl370002_63]); (try simp only [hl370003_63]); (zq7_2z); exact Kd.R_mono HO410.out (fun _ hk => ⟨hk.1.1.1.1.1.1.1.2, ⟨hk.1.1.1.1.1.1.2, ⟨hk.1.1.1.1.1.2, ⟨hk.1.1.1.1.2, ⟨hk.1.1.1.2, ⟨hk.1.1.2, hk.1.1.1.1.1.1.1.1⟩⟩⟩⟩⟩⟩)⟩, ⟨by (try simp only [hl370002_63]); (try simp only [hl370003_63]); (zq7_2z); exact Kd.R_mono HO413.out (fun _ hk => ⟨hk.1.1.1.1.1.1.1.2, ⟨hk.1.1.1.1.1.1.2, ⟨hk.1.1.1.1.1.2, ⟨hk.1.1.1.1.2, ⟨hk.1.1.1.2, ⟨hk.1.1.2, hk.1.1.1.1.1.1.1.1⟩⟩⟩⟩⟩⟩)⟩, ⟨by (try simp only [hl370002_63]); (try simp only [hl370003_63]); (zq7_1z); exact BK341.out⟩, ⟨by (try simp only [hl370002_63]); (try simp only [hl370003_63]); (zq7_1z); exact BK360.out⟩, ⟨by (try simp only [hl370002_63]); (try simp only [hl370003_63]); (zq7_1z); exact BK369.out⟩, ⟨by (try simp only [hl370002_63]); (try simp only [hl370003_63]); (zq7_1z); exact BK379.out⟩, ⟨by (try simp only [hl370002_63]); (try simp only [hl370003_63]); (zq7_1z); exact BK415.out⟩, ⟨by repeat (zq7_7z)⟩⟩
           case rest =>
            clear HC108
            try clear c1
            try clear c2
            try clear p2
            try clear c3
            try clear c3b0
            try clear c4
            try clear c5
            try clear c6
            try clear c7
            try clear c8
            try clear c9
            try clear c10
            try clear c11
            try clear c12
            try clear c13
            try clear c14
            try clear c15
            try clear c16
            try clear c17
            try clear c21
            try clear c27
            try clear c28
            try clear c29
            try clear c35
            try clear c36
            try clear c37
            try clear c42
            try clear c43
            try clear c44
            try clear c45
            try clear c47
            try clear c48
            try clear c51
            try clear c52
            try clear c53
            try clear c55
            try clear c56
            try clear c59
            try clear c62
            try clear c70
            try clear c71
            try clear c72
            try clear c75
            try clear c75b0
            try clear c77
            try clear c78
            try clear c79
            try clear c80
            try clear c82
            try clear c83
            try clear c86
            try clear c87
            try clear c88
            try clear c90
            try clear c91
            try clear c94
            try clear c97
            try clear c97b0
            try clear c98
            try clear c99
            try clear c100
            try clear c105
            try clear c105b0
            try clear c105b1
            try clear c109
            try clear c110
            try clear c111
            try clear c116
            try clear c117
            try clear c124
            try clear c125
            try clear c126
            try clear c127
            try clear c132
            try clear c133
            try clear c134
            try clear c135
            try clear c136
            try clear c138
            try clear c139
            try clear c140
            try clear c143
            try clear c144
            try clear c145
            try clear c146
            try clear c148
            try clear c149
            try clear c150
            try clear hcz101_0
            try clear hcz101_1
            try clear hcz101_2
            try clear hcz101_3
            try clear hcz103_0
            try clear hcz103_1
            try clear hcz103_2
            try clear hcz103_3
            try clear hcz112_0
            try clear hcz112_1
            try clear hcz112_2
            try clear hcz112_3
            try clear hcz114_0
            try clear hcz114_1
            try clear hcz114_2
            try clear hcz114_3
            try clear hcz118_0
            try clear hcz118_1
            try clear hcz118_2
            try clear hcz118_3
            try clear hcz128_0
            try clear hcz128_1
            try clear hcz128_2
            try clear hcz128_3
            try clear hcz137_0
            try clear hcz137_1
            try clear hcz137_2
            try clear hcz137_3
            try clear hcz13_0
            try clear hcz13_1
            try clear hcz13_2
            try clear hcz13_3
            try clear hcz141_0
            try clear hcz141_1
            try clear hcz141_2
            try clear hcz141_3
            try clear hcz147_0
            try clear hcz147_1
            try clear hcz147_2
            try clear hcz147_3
            try clear hcz151_0
            try clear hcz151_1
            try clear hcz151_2
            try clear hcz151_3
            try clear hcz15_0
            try clear hcz15_1
            try clear hcz15_2
            try clear hcz15_3
            try clear hcz22_0
            try clear hcz22_1
            try clear hcz22_2
            try clear hcz22_3
            try clear hcz25_0
            try clear hcz25_1
            try clear hcz25_2
            try clear hcz25_3
            try clear hcz30_0
            try clear hcz30_1
            try clear hcz30_2
            try clear hcz30_3
            try clear hcz38_0
            try clear hcz38_1
            try clear hcz38_2
            try clear hcz38_3
            try clear hcz46_0
            try clear hcz46_1
            try clear hcz46_2
            try clear hcz46_3
            try clear hcz49_0
            try clear hcz49_1
            try clear hcz49_2
            try clear hcz49_3
            try clear hcz54_0
            try clear hcz54_1
            try clear hcz54_2
            try clear hcz54_3
            try clear hcz57_0
            try clear hcz57_1
            try clear hcz57_2
            try clear hcz57_3
            try clear hcz5_0
            try clear hcz5_1
            try clear hcz5_2
            try clear hcz5_3
            try clear hcz73_0
            try clear hcz73_1
            try clear hcz73_2
            try clear hcz73_3
            try clear hcz81_0
            try clear hcz81_1
            try clear hcz81_2
            try clear hcz81_3
            try clear hcz84_0
            try clear hcz84_1
            try clear hcz84_2
            try clear hcz84_3
            try clear hcz89_0
            try clear hcz89_1
            try clear hcz89_2
            try clear hcz89_3
            try clear hcz92_0
            try clear hcz92_1
            try clear hcz92_2
            try clear hcz92_3
            try clear hfz101_0
            try clear hfz101_1
            try clear hfz101_2
            try clear hfz101_3
            try clear hfz103_0
            try clear hfz103_1
            try clear hfz103_2
            try clear hfz103_3
            try clear hfz112_0
            try clear hfz112_1
            try clear hfz112_2
            try clear hfz112_3
            try clear hfz114_0
            try clear hfz114_1
            try clear hfz114_2
            try clear hfz114_3
            try clear hfz118_0
            try clear hfz118_1
            try clear hfz118_2
            try clear hfz118_3
            try clear hfz128_0
            try clear hfz128_1
            try clear hfz128_2
            try clear hfz128_3
            try clear hfz137_0
            try clear hfz137_1
            try clear hfz137_2
            try clear hfz137_3
            try clear hfz13_0
            try clear hfz13_1
            try clear hfz13_2
            try clear hfz13_3
            try clear hfz141_0
            try clear hfz141_1
            try clear hfz141_2
            try clear hfz141_3
            try clear hfz147_0
            try clear hfz147_1
            try clear hfz147_2
            try clear hfz147_3
            try clear hfz151_0
            try clear hfz151_1
            try clear hfz151_2
            try clear hfz151_3
            try clear hfz15_0
            try clear hfz15_1
            try clear hfz15_2
            try clear hfz15_3
            try clear hfz22_0
            try clear hfz22_1
            try clear hfz22_2
            try clear hfz22_3
            try clear hfz25_0
            try clear hfz25_1
            try clear hfz25_2
            try clear hfz25_3
            try clear hfz30_0
            try clear hfz30_1
            try clear hfz30_2
            try clear hfz30_3
            try clear hfz38_0
            try clear hfz38_1
            try clear hfz38_2
            try clear hfz38_3
            try clear hfz46_0
            try clear hfz46_1
            try clear hfz46_2
            try clear hfz46_3
            try clear hfz49_0
            try clear hfz49_1
            try clear hfz49_2
            try clear hfz49_3
            try clear hfz54_0
            try clear hfz54_1
            try clear hfz54_2
            try clear hfz54_3
            try clear hfz57_0
            try clear hfz57_1
            try clear hfz57_2
            try clear hfz57_3
            try clear hfz5_0
            try clear hfz5_1
            try clear hfz5_2
            try clear hfz5_3
            try clear hfz73_0
            try clear hfz73_1
            try clear hfz73_2
            try clear hfz73_3
            try clear hfz81_0
            try clear hfz81_1
            try clear hfz81_2
            try clear hfz81_3
            try clear hfz84_0
            try clear hfz84_1
            try clear hfz84_2
            try clear hfz84_3
            try clear hfz89_0
            try clear hfz89_1
            try clear hfz89_2
            try clear hfz89_3
            try clear hfz92_0
            try clear hfz92_1
            try clear hfz92_2
            try clear hfz92_3
            try clear p2
            obtain ⟨kq, x87_107, rfl, HA, HJ107, HO_361002, HO_361003, HO_370002, HO_370003, HO_380002, HO_380003, HO_416002, HO_416003, BK341, BK360, BK369, BK379, BK415, HB⟩ := hcut
            have hl380002_107 := (Kd.R_reads' HO_380002.out).1
            rw [hl380002_107] at HO_380002
            (try simp only [hl380002_107])
            (try simp only [hl380002_107] at BK341)
            (try simp only [hl380002_107] at BK360)
            (try simp only [hl380002_107] at BK369)
            (try simp only [hl380002_107] at BK379)
            (try simp only [hl380002_107] at BK415)
            (try simp only [hl380002_107] at HO_361002)
            (try simp only [hl380002_107] at HO_361003)
            (try simp only [hl380002_107] at HO_370002)
            (try simp only [hl380002_107] at HO_370003)
            (try simp only [hl380002_107] at HO_380003)
            (try simp only [hl380002_107] at HO_416002)
            (try simp only [hl380002_107] at HO_416003)
            have hl380003_107 := (Kd.R_reads' HO_380003.out).1
            rw [hl380003_107] at HO_380003
            (try simp only [hl380003_107])
            (try simp only [hl380003_107] at BK341)
            (try simp only [hl380003_107] at BK360)
            (try simp only [hl380003_107] at BK369)
            (try simp only [hl380003_107] at BK379)
            (try simp only [hl380003_107] at BK415)
            (try simp only [hl380003_107] at HO_361002)
            (try simp only [hl380003_107] at HO_361003)
            (try simp only [hl380003_107] at HO_370002)
            (try simp only [hl380003_107] at HO_370003)
            (try simp only [hl380003_107] at HO_380002)
            (try simp only [hl380003_107] at HO_416002)
            (try simp only [hl380003_107] at HO_416003)
            cases kq with
            | zero => exact absurd HA.out (by simp [laws_FnExactMirrorFigure.j2])
            | succ kj107 =>
             have H := HA.out
             clear HA
             simp only [laws_FnExactMirrorFigure.j2] at H
             by_cases c153 : x87_107 = true
             ·subst c153
              have H1 : (some false) = some r := by rw [if_pos rfl] at H; exact H
              clear H
              have H := H1
              clear H1
              obtain rfl := Option.some.inj H
              go_wp2
              go_ret
              exact ⟨by first | rfl | (simp [errW_none, errW_some] <;> rfl) | (simp [*, errW_none, errW_some] <;> rfl), by repeat (zq7_7z)⟩
             ·replace c153 := Bool.eq_false_iff.mpr c153
              subst c153
              have H1 : ((laws_heldFigure.f kj107 t370 t371 t395 t396 101).bind fun t417 => (if t417 < 0 then (some false) else (if t417 = t394 then (some true) else (some false)))) = some r := by rw [if_neg (show ¬ (false = true) by decide)] at H; exact H
              clear H
              have H := H1
              clear H1
              replace H := Option.bind_eq_some_iff.mp H
              obtain ⟨t417, A1540, H⟩ := H
              replace H : (if t417 < 0 then (some false) else (if t417 = t394 then (some true) else (some false))) = some r := H
              have A154 := Aside0.mk A1540
              clear A1540
              by_cases c155 : t417 < 0
              ·rw [if_pos c155] at H
               have c155b0 : decide (t417 < 0) = true := decide_eq_true c155
               clear c155
               obtain rfl := Option.some.inj H
               have hnb156 := NB379_341.out
               have hnc156 := NB341_379.out
               have hnb157 := NB379_360.out
               have hnc157 := NB360_379.out
               have hnb158 := NB379_369.out
               have hnc158 := NB369_379.out
               have hnb159 := NB379_415.out
               have hnc159 := NB415_379.out
               have hcz160_0 : wc.cell? ⟨gb379, 0, none⟩ = some (.int .i64 t370) := (blk_cell BK379.out 0).trans rfl
               have hcz160_1 : wc.cell? ⟨gb379, 1, none⟩ = some (.int .i64 t371) := (blk_cell BK379.out 1).trans rfl
               have hcz160_2 : wc.cell? ⟨gb379, 2, none⟩ = some (.slice Ao39 t395.length co39) := (blk_cell BK379.out 2).trans rfl
               have hcz160_3 : wc.cell? ⟨gb379, 3, none⟩ = some (.slice Ao40 t396.length co40) := (blk_cell BK379.out 3).trans rfl
               have hfz160_0 := blk_frozen BK379.out 0
               have hfz160_1 := blk_frozen BK379.out 1
               have hfz160_2 := blk_frozen BK379.out 2
               have hfz160_3 := blk_frozen BK379.out 3
               go_wp2_with (first | ((with_reducible refine gate_callee (f := 17) rfl ?_); refine goesL_ (some 90) rfl rfl Tryd.func17 (by kernel_rfl) rfl #[.agg #[.int .i64 t370, .int .i64 t371, .slice Ao39 t395.length co39, .slice Ao40 t396.length co40], .int .i64 101] rfl zq7_6z ?_; (with_reducible refine (laws_heldFigure.calls kj107 t370 t371 _ _ t395 _ _ t396 101 t417 _ ?side1 ?side2 ?side3 ?side4 A154.out).mono ?_); (case side1 => repeat (zq7_25z)); (case side2 => exact (Kd.R_reads' HO_380002.out).2.1); (case side3 => repeat (zq7_26z)); (case side4 => exact (Kd.R_reads' HO_380003.out).2.1); rintro e w161 ⟨rfl, hb⟩; refine ⟨_, rfl, ?_⟩; have n0_ := Aside0.mk (Kd.R_below (by (zq7_2z); exact HO_361002.out) hb); have n1_ := Aside0.mk (Kd.R_below (by (zq7_2z); exact HO_361003.out) hb); have n2_ := Aside0.mk (Kd.R_below (by (zq7_2z); exact HO_370002.out) hb); have n3_ := Aside0.mk (Kd.R_below (by (zq7_2z); exact HO_370003.out) hb); have n4_ := Aside0.mk (Kd.R_below (by (zq7_2z); exact HO_380002.out) hb); have n5_ := Aside0.mk (Kd.R_below (by (zq7_2z); exact HO_380003.out) hb); have n6_ := Aside0.mk (Kd.R_below (by (zq7_2z); exact HO_416002.out) hb); have n7_ := Aside0.mk (Kd.R_below (by (zq7_2z); exact HO_416003.out) hb); have n8_ := Aside0.mk zq7_5z; have n9_ := Aside0.mk zq7_8z; have n10_ := Aside0.mk zq7_13z; have n11_ := Aside0.mk (blk_below (g := gb379) (o := .cells #[.int .i64 t370, .int .i64 t371, .slice Ao39 t395.length co39, .slice Ao40 t396.length co40] 26 (0, 0)) (by (zq7_1z); exact BK379.out) hb); have n12_ := Aside0.mk (blk_below (g := gb415) (o := .cells #[.int .i64 t406, .int .i64 t407, .slice Ao129 t408.length co129, .slice Ao130 t411.length co130] 26 (0, 0)) (by (zq7_1z); exact BK415.out) hb); have n13_ := Aside0.mk (below_step (by repeat (zq7_7z)) hb); clear HO_361002; clear HO_361003; clear HO_370002; clear HO_370003; clear HO_380002; clear HO_380003; clear HO_416002; clear HO_416003; clear BK341; clear BK360; clear BK369; clear BK379; clear BK415; clear HB; have HO_361002 := n0_; have HO_361003 := n1_; have HO_370002 := n2_; have HO_370003 := n3_; have HO_380002 := n4_; have HO_380003 := n5_; have HO_416002 := n6_; have HO_416003 := n7_; have BK341 := n8_; have BK360 := n9_; have BK369 := n10_; have BK379 := n11_; have BK415 := n12_; have HB := n13_; clear n0_ n1_ n2_ n3_ n4_ n5_ n6_ n7_ n8_ n9_ n10_ n11_ n12_ n13_; (try clear hb); (try clear hb2); (try clear hk); (try clear hi)))
               go_ret
               exact ⟨by first | rfl | (simp [errW_none, errW_some] <;> rfl) | (simp [*, errW_none, errW_some] <;> rfl), by repeat (zq7_7z)⟩
              ·rw [if_neg c155] at H
               have c155b0 : decide (t417 < 0) = false := decide_eq_false c155
               clear c155
               by_cases c162 : t417 = t394
               ·rw [if_pos c162] at H
                have c162b0 : (t417 == t394) = true := beq_iff_eq.mpr c162
                have c162b1 : (t417 != t394) = false := bne_eq_false_iff_eq.mpr c162
                clear c162
                obtain rfl := Option.some.inj H
                have hnb163 := NB379_341.out
                have hnc163 := NB341_379.out
                have hnb164 := NB379_360.out
                have hnc164 := NB360_379.out
                have hnb165 := NB379_369.out
                have hnc165 := NB369_379.out
                have hnb166 := NB379_415.out
                have hnc166 := NB415_379.out
                have hcz167_0 : wc.cell? ⟨gb379, 0, none⟩ = some (.int .i64 t370) := (blk_cell BK379.out 0).trans rfl
                have hcz167_1 : wc.cell? ⟨gb379, 1, none⟩ = some (.int .i64 t371) := (blk_cell BK379.out 1).trans rfl
                have hcz167_2 : wc.cell? ⟨gb379, 2, none⟩ = some (.slice Ao39 t395.length co39) := (blk_cell BK379.out 2).trans rfl
                have hcz167_3 : wc.cell? ⟨gb379, 3, none⟩ = some (.slice Ao40 t396.length co40) := (blk_cell BK379.out 3).trans rfl
                have hfz167_0 := blk_frozen BK379.out 0
                have hfz167_1 := blk_frozen BK379.out 1
                have hfz167_2 := blk_frozen BK379.out 2
                have hfz167_3 := blk_frozen BK379.out 3
                go_wp2_with (first | ((with_reducible refine gate_callee (f := 17) rfl ?_); refine goesL_ (some 90) rfl rfl Tryd.func17 (by kernel_rfl) rfl #[.agg #[.int .i64 t370, .int .i64 t371, .slice Ao39 t395.length co39, .slice Ao40 t396.length co40], .int .i64 101] rfl zq7_6z ?_; (with_reducible refine (laws_heldFigure.calls kj107 t370 t371 _ _ t395 _ _ t396 101 t417 _ ?side1 ?side2 ?side3 ?side4 A154.out).mono ?_); (case side1 => repeat (zq7_25z)); (case side2 => exact (Kd.R_reads' HO_380002.out).2.1); (case side3 => repeat (zq7_26z)); (case side4 => exact (Kd.R_reads' HO_380003.out).2.1); rintro e w168 ⟨rfl, hb⟩; refine ⟨_, rfl, ?_⟩; have n0_ := Aside0.mk (Kd.R_below (by (zq7_2z); exact HO_361002.out) hb); have n1_ := Aside0.mk (Kd.R_below (by (zq7_2z); exact HO_361003.out) hb); have n2_ := Aside0.mk (Kd.R_below (by (zq7_2z); exact HO_370002.out) hb); have n3_ := Aside0.mk (Kd.R_below (by (zq7_2z); exact HO_370003.out) hb); have n4_ := Aside0.mk (Kd.R_below (by (zq7_2z); exact HO_380002.out) hb); have n5_ := Aside0.mk (Kd.R_below (by (zq7_2z); exact HO_380003.out) hb); have n6_ := Aside0.mk (Kd.R_below (by (zq7_2z); exact HO_416002.out) hb); have n7_ := Aside0.mk (Kd.R_below (by (zq7_2z); exact HO_416003.out) hb); have n8_ := Aside0.mk zq7_5z; have n9_ := Aside0.mk zq7_8z; have n10_ := Aside0.mk zq7_13z; have n11_ := Aside0.mk (blk_below (g := gb379) (o := .cells #[.int .i64 t370, .int .i64 t371, .slice Ao39 t395.length co39, .slice Ao40 t396.length co40] 26 (0, 0)) (by (zq7_1z); exact BK379.out) hb); have n12_ := Aside0.mk (blk_below (g := gb415) (o := .cells #[.int .i64 t406, .int .i64 t407, .slice Ao129 t408.length co129, .slice Ao130 t411.length co130] 26 (0, 0)) (by (zq7_1z); exact BK415.out) hb); have n13_ := Aside0.mk (below_step (by repeat (zq7_7z)) hb); clear HO_361002; clear HO_361003; clear HO_370002; clear HO_370003; clear HO_380002; clear HO_380003; clear HO_416002; clear HO_416003; clear BK341; clear BK360; clear BK369; clear BK379; clear BK415; clear HB; have HO_361002 := n0_; have HO_361003 := n1_; have HO_370002 := n2_; have HO_370003 := n3_; have HO_380002 := n4_; have HO_380003 := n5_; have HO_416002 := n6_; have HO_416003 := n7_; have BK341 := n8_; have BK360 := n9_; have BK369 := n10_; have BK379 := n11_; have BK415 := n12_; have HB := n13_; clear n0_ n1_ n2_ n3_ n4_ n5_ n6_ n7_ n8_ n9_ n10_ n11_ n12_ n13_; (try clear hb); (try clear hb2); (try clear hk); (try clear hi)))
                go_ret
                exact ⟨by first | rfl | (simp [errW_none, errW_some] <;> rfl) | (simp [*, errW_none, errW_some] <;> rfl), by repeat (zq7_7z)⟩
               ·rw [if_neg c162] at H
                have c162b0 : (t417 == t394) = false := beq_eq_false_iff_ne.mpr c162
                have c162b1 : (t417 != t394) = true := bne_iff_ne.mpr c162
                obtain rfl := Option.some.inj H
                have hnb169 := NB379_341.out
                have hnc169 := NB341_379.out
                have hnb170 := NB379_360.out
                have hnc170 := NB360_379.out
                have hnb171 := NB379_369.out
                have hnc171 := NB369_379.out
                have hnb172 := NB379_415.out
                have hnc172 := NB415_379.out
                have hcz173_0 : wc.cell? ⟨gb379, 0, none⟩ = some (.int .i64 t370) := (blk_cell BK379.out 0).trans rfl
                have hcz173_1 : wc.cell? ⟨gb379, 1, none⟩ = some (.int .i64 t371) := (blk_cell BK379.out 1).trans rfl
                have hcz173_2 : wc.cell? ⟨gb379, 2, none⟩ = some (.slice Ao39 t395.length co39) := (blk_cell BK379.out 2).trans rfl
                have hcz173_3 : wc.cell? ⟨gb379, 3, none⟩ = some (.slice Ao40 t396.length co40) := (blk_cell BK379.out 3).trans rfl
                have hfz173_0 := blk_frozen BK379.out 0
                have hfz173_1 := blk_frozen BK379.out 1
                have hfz173_2 := blk_frozen BK379.out 2
                have hfz173_3 := blk_frozen BK379.out 3
                go_wp2_with (first | ((with_reducible refine gate_callee (f := 17) rfl ?_); refine goesL_ (some 90) rfl rfl Tryd.func17 (by kernel_rfl) rfl #[.agg #[.int .i64 t370, .int .i64 t371, .slice Ao39 t395.length co39, .slice Ao40 t396.length co40], .int .i64 101] rfl zq7_6z ?_; (with_reducible refine (laws_heldFigure.calls kj107 t370 t371 _ _ t395 _ _ t396 101 t417 _ ?side1 ?side2 ?side3 ?side4 A154.out).mono ?_); (case side1 => repeat (zq7_25z)); (case side2 => exact (Kd.R_reads' HO_380002.out).2.1); (case side3 => repeat (zq7_26z)); (case side4 => exact (Kd.R_reads' HO_380003.out).2.1); rintro e w174 ⟨rfl, hb⟩; refine ⟨_, rfl, ?_⟩; have n0_ := Aside0.mk (Kd.R_below (by (zq7_2z); exact HO_361002.out) hb); have n1_ := Aside0.mk (Kd.R_below (by (zq7_2z); exact HO_361003.out) hb); have n2_ := Aside0.mk (Kd.R_below (by (zq7_2z); exact HO_370002.out) hb); have n3_ := Aside0.mk (Kd.R_below (by (zq7_2z); exact HO_370003.out) hb); have n4_ := Aside0.mk (Kd.R_below (by (zq7_2z); exact HO_380002.out) hb); have n5_ := Aside0.mk (Kd.R_below (by (zq7_2z); exact HO_380003.out) hb); have n6_ := Aside0.mk (Kd.R_below (by (zq7_2z); exact HO_416002.out) hb); have n7_ := Aside0.mk (Kd.R_below (by (zq7_2z); exact HO_416003.out) hb); have n8_ := Aside0.mk zq7_5z; have n9_ := Aside0.mk zq7_8z; have n10_ := Aside0.mk zq7_13z; have n11_ := Aside0.mk (blk_below (g := gb379) (o := .cells #[.int .i64 t370, .int .i64 t371, .slice Ao39 t395.length co39, .slice Ao40 t396.length co40] 26 (0, 0)) (by (zq7_1z); exact BK379.out) hb); have n12_ := Aside0.mk (blk_below (g := gb415) (o := .cells #[.int .i64 t406, .int .i64 t407, .slice Ao129 t408.length co129, .slice Ao130 t411.length co130] 26 (0, 0)) (by (zq7_1z); exact BK415.out) hb); have n13_ := Aside0.mk (below_step (by repeat (zq7_7z)) hb); clear HO_361002; clear HO_361003; clear HO_370002; clear HO_370003; clear HO_380002; clear HO_380003; clear HO_416002; clear HO_416003; clear BK341; clear BK360; clear BK369; clear BK379; clear BK415; clear HB; have HO_361002 := n0_; have HO_361003 := n1_; have HO_370002 := n2_; have HO_370003 := n3_; have HO_380002 := n4_; have HO_380003 := n5_; have HO_416002 := n6_; have HO_416003 := n7_; have BK341 := n8_; have BK360 := n9_; have BK369 := n10_; have BK379 := n11_; have BK415 := n12_; have HB := n13_; clear n0_ n1_ n2_ n3_ n4_ n5_ n6_ n7_ n8_ n9_ n10_ n11_ n12_ n13_; (try clear hb); (try clear hb2); (try clear hk); (try clear hi)))
                go_ret
                exact ⟨by first | rfl | (simp [errW_none, errW_some] <;> rfl) | (simp [*, errW_none, errW_some] <;> rfl), by repeat (zq7_7z)⟩
          ·rw [if_neg c105] at H
           have c105b0 : (t397 == t394) = false := beq_eq_false_iff_ne.mpr c105
           have c105b1 : (t397 != t394) = true := bne_iff_ne.mpr c105
           obtain rfl := Option.some.inj H
           have hnb175 := NB379_341.out
           have hnc175 := NB341_379.out
           have hnb176 := NB379_360.out
           have hnc176 := NB360_379.out
           have hnb177 := NB379_369.out
           have hnc177 := NB369_379.out
           have hcz178_0 : wc.cell? ⟨gb379, 0, none⟩ = some (.int .i64 t370) := (blk_cell BK379.out 0).trans rfl
           have hcz178_1 : wc.cell? ⟨gb379, 1, none⟩ = some (.int .i64 t371) := (blk_cell BK379.out 1).trans rfl
           have hcz178_2 : wc.cell? ⟨gb379, 2, none⟩ = some (.slice Ao39 t372.length co39) := (blk_cell BK379.out 2).trans rfl
           have hcz178_3 : wc.cell? ⟨gb379, 3, none⟩ = some (.slice Ao40 t375.length co40) := (blk_cell BK379.out 3).trans rfl
           have hfz178_0 := blk_frozen BK379.out 0
           have hfz178_1 := blk_frozen BK379.out 1
           have hfz178_2 := blk_frozen BK379.out 2
           have hfz178_3 := blk_frozen BK379.out 3
           go_wp2_with (first | ((with_reducible refine gate_callee (f := 16) rfl ?_); refine goesL_ (some 64) rfl rfl Tryd.func16 (by kernel_rfl) rfl #[.agg #[.int .i64 t370, .int .i64 t371, .slice Ao39 t372.length co39, .slice Ao40 t375.length co40], .int .i64 101] rfl zq7_6z ?_; (with_reducible refine (laws_markFigure.calls kj63 t370 t371 (fun k_ => some k_ = (.slice Ao39 t372.length co39 : Value).ownBlock) (.slice Ao39 t372.length co39) t372 (fun k_ => some k_ = (.slice Ao40 t375.length co40 : Value).ownBlock) (.slice Ao40 t375.length co40) t375 101 t394 t395 t396 w _ ?side1 ?side2 ?side3 ?side4 ?side5 A95.out).mono ?_); (case side1 => repeat (zq7_3z)); (case side2 => exact Kd.R_tight rfl HO_380002.out); (case side3 => exact fun k_ e_ => (HO_380002.out.1 k_ e_.symm).2.2.2.2); (case side4 => exact Kd.R_tight rfl HO_380003.out); (case side5 => exact fun k_ e_ => (HO_380003.out.1 k_ e_.symm).2.2.2.2); rintro e w179 ⟨rfl, hy0, hy1, hb, hkp⟩; refine ⟨_, rfl, ?_⟩; have n0_ := Aside0.mk (Kd.R_mono (ok' := fun k_ => some k_ ≠ (.slice Ao24 t356.length co24 : Value).ownBlock ∧ some k_ ≠ (.slice Ao31 t391.length co31 : Value).ownBlock ∧ some k_ ≠ (.slice Ao32 t392.length co32 : Value).ownBlock ∧ some k_ ≠ (.slice Ao39 t372.length co39 : Value).ownBlock ∧ some k_ ≠ (.slice Ao40 t375.length co40 : Value).ownBlock) (Kd.R_keptB (HO_361002.out) hkp (fun k_ hk_ hs_ => Or.elim hs_ (fun e_ => (hk_.2.2.2.1) e_) (fun e_ => (hk_.2.2.2.2) e_))) (fun k_ hk_ => ⟨hk_.1.1, hk_.1.2.1, hk_.1.2.2.1, hk_.1.2.2.2.1, hk_.1.2.2.2.2⟩)); have n1_ := Aside0.mk (Kd.R_mono (ok' := fun k_ => some k_ ≠ (.slice Ao23 t353.length co23 : Value).ownBlock ∧ some k_ ≠ (.slice Ao31 t391.length co31 : Value).ownBlock ∧ some k_ ≠ (.slice Ao32 t392.length co32 : Value).ownBlock ∧ some k_ ≠ (.slice Ao39 t372.length co39 : Value).ownBlock ∧ some k_ ≠ (.slice Ao40 t375.length co40 : Value).ownBlock) (Kd.R_keptB (HO_361003.out) hkp (fun k_ hk_ hs_ => Or.elim hs_ (fun e_ => (hk_.2.2.2.1) e_) (fun e_ => (hk_.2.2.2.2) e_))) (fun k_ hk_ => ⟨hk_.1.1, hk_.1.2.1, hk_.1.2.2.1, hk_.1.2.2.2.1, hk_.1.2.2.2.2⟩)); have n2_ := Aside0.mk (Kd.R_mono (ok' := fun k_ => some k_ ≠ (.slice Ao23 t353.length co23 : Value).ownBlock ∧ some k_ ≠ (.slice Ao24 t356.length co24 : Value).ownBlock ∧ some k_ ≠ (.slice Ao32 t392.length co32 : Value).ownBlock ∧ some k_ ≠ (.slice Ao39 t372.length co39 : Value).ownBlock ∧ some k_ ≠ (.slice Ao40 t375.length co40 : Value).ownBlock) (Kd.R_keptB (HO_370002.out) hkp (fun k_ hk_ hs_ => Or.elim hs_ (fun e_ => (hk_.2.2.2.1) e_) (fun e_ => (hk_.2.2.2.2) e_))) (fun k_ hk_ => ⟨hk_.1.1, hk_.1.2.1, hk_.1.2.2.1, hk_.1.2.2.2.1, hk_.1.2.2.2.2⟩)); have n3_ := Aside0.mk (Kd.R_mono (ok' := fun k_ => some k_ ≠ (.slice Ao23 t353.length co23 : Value).ownBlock ∧ some k_ ≠ (.slice Ao24 t356.length co24 : Value).ownBlock ∧ some k_ ≠ (.slice Ao31 t391.length co31 : Value).ownBlock ∧ some k_ ≠ (.slice Ao39 t372.length co39 : Value).ownBlock ∧ some k_ ≠ (.slice Ao40 t375.length co40 : Value).ownBlock) (Kd.R_keptB (HO_370003.out) hkp (fun k_ hk_ hs_ => Or.elim hs_ (fun e_ => (hk_.2.2.2.1) e_) (fun e_ => (hk_.2.2.2.2) e_))) (fun k_ hk_ => ⟨hk_.1.1, hk_.1.2.1, hk_.1.2.2.1, hk_.1.2.2.2.1, hk_.1.2.2.2.2⟩)); have n4_ := Aside0.mk (Kd.R_reok rfl hy0 (fun k_ e_ => HO_380002.out.1 k_ e_)); have n5_ := Aside0.mk (Kd.R_reok rfl hy1 (fun k_ e_ => HO_380003.out.1 k_ e_)); have n6_ := Aside0.mk zq7_50z; have n7_ := Aside0.mk zq7_51z; have n8_ := Aside0.mk zq7_52z; have n9_ := Aside0.mk zq7_53z; have n10_ := Aside0.mk (hb); clear HO_361002; clear HO_361003; clear HO_370002; clear HO_370003; clear HO_380002; clear HO_380003; clear BK341; clear BK360; clear BK369; clear BK379; clear HB; have HO_361002 := n0_; have HO_361003 := n1_; have HO_370002 := n2_; have HO_370003 := n3_; have HO_380002 := n4_; have HO_380003 := n5_; have BK341 := n6_; have BK360 := n7_; have BK369 := n8_; have BK379 := n9_; have HB := n10_; clear n0_ n1_ n2_ n3_ n4_ n5_ n6_ n7_ n8_ n9_ n10_; (try clear hb); (try clear hkp); (try clear hy0); (try clear hy1); have hcz180_0 : w179.cell? ⟨gb379, 0, none⟩ = some (.int .i64 t370) := (blk_cell BK379.out 0).trans rfl; have hcz180_1 : w179.cell? ⟨gb379, 1, none⟩ = some (.int .i64 t371) := (blk_cell BK379.out 1).trans rfl; have hcz180_2 : w179.cell? ⟨gb379, 2, none⟩ = some (.slice Ao39 t372.length co39) := (blk_cell BK379.out 2).trans rfl; have hcz180_3 : w179.cell? ⟨gb379, 3, none⟩ = some (.slice Ao40 t375.length co40) := (blk_cell BK379.out 3).trans rfl; have hfz180_0 := blk_frozen BK379.out 0; have hfz180_1 := blk_frozen BK379.out 1; have hfz180_2 := blk_frozen BK379.out 2; have hfz180_3 := blk_frozen BK379.out 3) | ((with_reducible refine gate_callee (f := 17) rfl ?_); refine goesL_ (some 67) rfl rfl Tryd.func17 (by kernel_rfl) rfl #[.agg #[.int .i64 t370, .int .i64 t371, .slice Ao39 t395.length co39, .slice Ao40 t396.length co40], .int .i64 101] rfl zq7_46z ?_; (with_reducible refine (laws_heldFigure.calls kj63 t370 t371 _ _ t395 _ _ t396 101 t397 _ ?side1 ?side2 ?side3 ?side4 A96.out).mono ?_); (case side1 => repeat (zq7_25z)); (case side2 => rw [show t395.length = t372.length from (Kd.R_reads' HO_380002.out).1.symm]; exact (Kd.R_reads' HO_380002.out).2.1); (case side3 => repeat (zq7_26z)); (case side4 => rw [show t396.length = t375.length from (Kd.R_reads' HO_380003.out).1.symm]; exact (Kd.R_reads' HO_380003.out).2.1); rintro e w181 ⟨rfl, hb⟩; refine ⟨_, rfl, ?_⟩; have n0_ := Aside0.mk (Kd.R_below (by (zq7_2z); exact HO_361002.out) hb); have n1_ := Aside0.mk (Kd.R_below (by (zq7_2z); exact HO_361003.out) hb); have n2_ := Aside0.mk (Kd.R_below (by (zq7_2z); exact HO_370002.out) hb); have n3_ := Aside0.mk (Kd.R_below (by (zq7_2z); exact HO_370003.out) hb); have n4_ := Aside0.mk (Kd.R_below (by (zq7_2z); exact HO_380002.out) hb); have n5_ := Aside0.mk (Kd.R_below (by (zq7_2z); exact HO_380003.out) hb); have n6_ := Aside0.mk zq7_5z; have n7_ := Aside0.mk zq7_8z; have n8_ := Aside0.mk zq7_13z; have n9_ := Aside0.mk zq7_9z; have n10_ := Aside0.mk (below_step (by repeat (zq7_3z)) hb); clear HO_361002; clear HO_361003; clear HO_370002; clear HO_370003; clear HO_380002; clear HO_380003; clear BK341; clear BK360; clear BK369; clear BK379; clear HB; have HO_361002 := n0_; have HO_361003 := n1_; have HO_370002 := n2_; have HO_370003 := n3_; have HO_380002 := n4_; have HO_380003 := n5_; have BK341 := n6_; have BK360 := n7_; have BK369 := n8_; have BK379 := n9_; have HB := n10_; clear n0_ n1_ n2_ n3_ n4_ n5_ n6_ n7_ n8_ n9_ n10_; (try clear hb); (try clear hb2); (try clear hk); (try clear hi)))
           go_ret
           zq7_47z
     ·replace c62 := Bool.eq_false_iff.mpr c62
      subst c62
      have H1 : (some false) = some r := by rw [if_neg (show ¬ (false = true) by decide)] at H; exact H
      clear H
      have H := H1
      clear H1
      obtain rfl := Option.some.inj H
      try go_wp2
      have n0_ := Aside0.mk (Kd.R_drew HO_361002.out)
      have n1_ := Aside0.mk (Kd.R_drew HO_361003.out)
      have n2_ := Aside0.mk (Kd.PB_drew HO_370002.out)
      have n3_ := Aside0.mk (Kd.PB_drew HO_370003.out)
      have n4_ := Aside0.mk (Kd.R_drew HO_380002.out)
      have n5_ := Aside0.mk (Kd.R_drew HO_380003.out)
      have n6_ := Aside0.mk (blk_drew BK341.out)
      have n7_ := Aside0.mk (blk_drew BK360.out)
      have n8_ := Aside0.mk (blk_drew BK369.out)
      have n9_ := Aside0.mk (blk_drew BK379.out)
      have n10_ := Aside0.mk (below_drew1 HB.out)
      clear HO_361002
      clear HO_361003
      clear HO_370002
      clear HO_370003
      clear HO_380002
      clear HO_380003
      clear BK341
      clear BK360
      clear BK369
      clear BK379
      clear HB
      have HO_361002 := n0_
      have HO_361003 := n1_
      have HO_370002 := n2_
      have HO_370003 := n3_
      have HO_380002 := n4_
      have HO_380003 := n5_
      have BK341 := n6_
      have BK360 := n7_
      have BK369 := n8_
      have BK379 := n9_
      have HB := n10_
      clear n0_ n1_ n2_ n3_ n4_ n5_ n6_ n7_ n8_ n9_ n10_
      zq7_30z
      generalize wc.drew = w182 at HO_361002 HO_361003 HO_370002 HO_370003 HO_380002 HO_380003 BK341 BK360 BK369 BK379 HB hHeld ⊢
      refine take_ (i := 0) (N := some 41) (v := ?_) (a' := ?_) #[true, false, false, false, false] rfl rfl (by kernel_rfl) (fun _ _ _ h => h) (Or.inl ⟨by rfl, ?_⟩) hHeld ?_ ?_
      rotate_left
      ·rintro w' ⟨s0, s1, s2, s3, s4, s5, s6, s7⟩
       go_simp
       with_reducible rfl
      rotate_left
      ·zq7_35z
       rfl
      refine take_ (i := 1) (N := some 42) (v := ?_) (a' := ?_) #[true, true, false, false, false] rfl rfl (by kernel_rfl) (fun _ _ _ h => h) (Or.inl ⟨by rfl, ?_⟩) hHeld ?_ ?_
      rotate_left
      ·rintro w' ⟨s0, s1, s2, s3, s4, s5, s6, s7⟩
       go_simp
       with_reducible rfl
      rotate_left
      ·zq7_35z
       rfl
      refine one_ (i := 2) (N := some 43) #[true, true, true, false, false] rfl rfl (by kernel_rfl) (by decide) (fun K hK => ?_)
      refine goes_ Tryd.func12 (by kernel_rfl) rfl #[.agg #[.int .i64 a0_0, .int .i64 a0_1, .slice A0_2 l0_2.length c0_2, .slice A0_3 l0_3.length c0_3], .bool false] (by rfl) rfl rfl zq7_6z ?_
      with_reducible refine (laws_toFigure.calls a0_0 a0_1 _ _ l0_2 _ _ l0_3 false t381 t382 t383 t386 _ ?side1 ?side2 ?side3 ?side4 A60.out).mono ?_
      (case side1 => repeat (zq7_41z))
      (case side2 => exact HC0_2.out)
      (case side3 => repeat (zq7_42z))
      (case side4 => exact HC0_3.out)
      rintro e w183 ⟨v384, v387, rfl, ho0, ho1, hb⟩
      refine ⟨_, rfl, ?_⟩
      have n0_ := Aside0.mk (Kd.R_mono (Kd.R_told (Kd.R_told (Kd.R_old (by (zq7_2z); exact HO_361002.out) hb) (Kd.PB_base ho0)) (Kd.PB_base ho1)) (fun _ h_ => h_.1))
      have n1_ := Aside0.mk (Kd.R_mono (Kd.R_told (Kd.R_told (Kd.R_old (by (zq7_2z); exact HO_361003.out) hb) (Kd.PB_base ho0)) (Kd.PB_base ho1)) (fun _ h_ => h_.1))
      have n2_ := Aside0.mk (Kd.PB_mono (Kd.PB_told (Kd.PB_told (Kd.PB_old (by (zq7_4z); exact HO_370002.out) hb) (Kd.PB_base ho0)) (Kd.PB_base ho1)) (fun _ h_ => h_.1))
      have n3_ := Aside0.mk (Kd.PB_mono (Kd.PB_told (Kd.PB_told (Kd.PB_old (by (zq7_4z); exact HO_370003.out) hb) (Kd.PB_base ho0)) (Kd.PB_base ho1)) (fun _ h_ => h_.1))
      have n4_ := Aside0.mk (Kd.R_mono (Kd.R_told (Kd.R_told (Kd.R_old (by (zq7_2z); exact HO_380002.out) hb) (Kd.PB_base ho0)) (Kd.PB_base ho1)) (fun _ h_ => h_.1))
      have n5_ := Aside0.mk (Kd.R_mono (Kd.R_told (Kd.R_told (Kd.R_old (by (zq7_2z); exact HO_380003.out) hb) (Kd.PB_base ho0)) (Kd.PB_base ho1)) (fun _ h_ => h_.1))
      zq7_58z
      zq7_59z
      have n8_ := Aside0.mk zq7_5z
      have n9_ := Aside0.mk zq7_8z
      have n10_ := Aside0.mk zq7_28z
      have n11_ := Aside0.mk zq7_9z
      have n12_ := Aside0.mk (below_step (by repeat (zq7_3z)) hb)
      clear HO_361002
      clear HO_361003
      clear HO_370002
      clear HO_370003
      clear HO_380002
      clear HO_380003
      clear BK341
      clear BK360
      clear BK369
      clear BK379
      clear HB
      have HO_361002 := n0_
      have HO_361003 := n1_
      have HO_370002 := n2_
      have HO_370003 := n3_
      have HO_380002 := n4_
      have HO_380003 := n5_
      have HO385 := n6_
      have HO388 := n7_
      have BK341 := n8_
      have BK360 := n9_
      have BK369 := n10_
      have BK379 := n11_
      have HB := n12_
      clear n0_ n1_ n2_ n3_ n4_ n5_ n6_ n7_ n8_ n9_ n10_ n11_ n12_
      (try clear hb)
      (try clear hb2)
      (try clear hk)
      (try clear hi)
      (try clear ho0)
      (try clear ho1)
      obtain ⟨Ao184, co184, eo184⟩ := Kd.PB_slice HO385.out
      (first | subst eo184 | (injection eo184 with f1_ f2_ f3_; have f4_ := f1_.symm; have f5_ := f3_.symm; clear f1_ f2_ f3_; subst f4_; subst f5_))
      obtain ⟨Ao185, co185, eo185⟩ := Kd.PB_slice HO388.out
      (first | subst eo185 | (injection eo185 with f1_ f2_ f3_; have f4_ := f1_.symm; have f5_ := f3_.symm; clear f1_ f2_ f3_; subst f4_; subst f5_))
      zq7_29z
      clear hK K
      refine norm_ (a' := ?_) ?_ ?_
      rotate_left
      ·show Act.put _ (some 43) _ = _
       zq7_35z
       rfl
      refine one_ (i := 3) (N := some 44) #[true, true, true, true, false] rfl rfl (by kernel_rfl) (by decide) (fun K hK => ?_)
      refine goes_ Tryd.func15 (by kernel_rfl) rfl #[.agg #[.int .i64 t361, .int .i64 t362, .slice Ao31 t363.length co31, .slice Ao32 t366.length co32], .agg #[.int .i64 t381, .int .i64 t382, .slice Ao184 t383.length co184, .slice Ao185 t386.length co185]] (by rfl) rfl rfl zq7_6z ?_
      with_reducible refine (laws_intactFigure.calls t361 t362 _ _ t363 _ _ t366 t381 t382 _ _ t383 _ _ t386 false _ ?side1 ?side2 ?side3 ?side4 ?side5 ?side6 ?side7 ?side8 ?side9 ?side10 ?side11 ?side12 A61.out).mono ?_
      (case side1 => repeat (first | exact (Kd.PB_reads' HO_370002.out).2.2 | (with_reducible refine Kd.C_alloc ?_ _) | (with_reducible refine Kd.C_drewN ?_ _) | (with_reducible refine Kd.C_drew ?_)))
      (case side2 => exact (Kd.PB_reads' HO_370002.out).2.1)
      (case side3 => repeat (first | exact Kd.PB_sp HO_370002.out | (with_reducible refine Kd.Sp_alloc ?_ _) | (with_reducible refine Kd.Sp_drewN ?_ _) | (with_reducible refine Kd.Sp_drew ?_)))
      (case side4 => repeat (first | exact (Kd.PB_reads' HO_370003.out).2.2 | (with_reducible refine Kd.C_alloc ?_ _) | (with_reducible refine Kd.C_drewN ?_ _) | (with_reducible refine Kd.C_drew ?_)))
      (case side5 => exact (Kd.PB_reads' HO_370003.out).2.1)
      (case side6 => repeat (first | exact Kd.PB_sp HO_370003.out | (with_reducible refine Kd.Sp_alloc ?_ _) | (with_reducible refine Kd.Sp_drewN ?_ _) | (with_reducible refine Kd.Sp_drew ?_)))
      (case side7 => repeat (first | exact (Kd.PB_reads' HO385.out).2.2 | (with_reducible refine Kd.C_alloc ?_ _) | (with_reducible refine Kd.C_drewN ?_ _) | (with_reducible refine Kd.C_drew ?_)))
      (case side8 => exact (Kd.PB_reads' HO385.out).2.1)
      (case side9 => repeat (first | exact Kd.PB_sp HO385.out | (with_reducible refine Kd.Sp_alloc ?_ _) | (with_reducible refine Kd.Sp_drewN ?_ _) | (with_reducible refine Kd.Sp_drew ?_)))
      (case side10 => repeat (first | exact (Kd.PB_reads' HO388.out).2.2 | (with_reducible refine Kd.C_alloc ?_ _) | (with_reducible refine Kd.C_drewN ?_ _) | (with_reducible refine Kd.C_drew ?_)))
      (case side11 => exact (Kd.PB_reads' HO388.out).2.1)
      (case side12 => repeat (first | exact Kd.PB_sp HO388.out | (with_reducible refine Kd.Sp_alloc ?_ _) | (with_reducible refine Kd.Sp_drewN ?_ _) | (with_reducible refine Kd.Sp_drew ?_)))
      rintro e w186 ⟨rfl, hb⟩
      refine ⟨_, rfl, ?_⟩
      have n0_ := Aside0.mk (Kd.R_below (by (zq7_2z); exact HO_361002.out) hb)
      have n1_ := Aside0.mk (Kd.R_below (by (zq7_2z); exact HO_361003.out) hb)
      have n2_ := Aside0.mk (Kd.PB_below (by (zq7_4z); exact HO_370002.out) hb)
      have n3_ := Aside0.mk (Kd.PB_below (by (zq7_4z); exact HO_370003.out) hb)
      have n4_ := Aside0.mk (Kd.R_below (by (zq7_2z); exact HO_380002.out) hb)
      have n5_ := Aside0.mk (Kd.R_below (by (zq7_2z); exact HO_380003.out) hb)
      have n6_ := Aside0.mk (Kd.PB_below (by (zq7_4z); exact HO385.out) hb)
      have n7_ := Aside0.mk (Kd.PB_below (by (zq7_4z); exact HO388.out) hb)
      have n8_ := Aside0.mk zq7_5z
      have n9_ := Aside0.mk zq7_8z
      have n10_ := Aside0.mk zq7_28z
      have n11_ := Aside0.mk zq7_9z
      have n12_ := Aside0.mk (below_step (by repeat (zq7_3z)) hb)
      clear HO_361002
      clear HO_361003
      clear HO_370002
      clear HO_370003
      clear HO_380002
      clear HO_380003
      clear HO385
      clear HO388
      clear BK341
      clear BK360
      clear BK369
      clear BK379
      clear HB
      have HO_361002 := n0_
      have HO_361003 := n1_
      have HO_370002 := n2_
      have HO_370003 := n3_
      have HO_380002 := n4_
      have HO_380003 := n5_
      have HO385 := n6_
      have HO388 := n7_
      have BK341 := n8_
      have BK360 := n9_
      have BK369 := n10_
      have BK379 := n11_
      have HB := n12_
      clear n0_ n1_ n2_ n3_ n4_ n5_ n6_ n7_ n8_ n9_ n10_ n11_ n12_
      (try clear hb)
      (try clear hb2)
      (try clear hk)
      (try clear hi)
      zq7_29z
      clear hK K
      refine norm_ (a' := ?_) ?_ ?_
      rotate_left
      ·show Act.put _ (some 44) _ = _
       zq7_35z
       rfl
      refine pure_ (i := 4) (N := some 45) (v := ?_) (a' := ?_) #[true, true, true, true, true] rfl rfl (by kernel_rfl) (fun _ _ _ h => h) (Or.inl ⟨by rfl, ?_⟩) ?_ ?_
      rotate_left
      ·intro w'
       go_simp
       with_reducible rfl
      rotate_left
      ·zq7_35z
       rfl
      refine done_ (by kernel_rfl) ?_
      try go_wp2
      go_ret
      zq7_47z

/-- THE ONE PURE STATEMENT of laws_FnExactMirrorFigure. -/
def laws_FnExactMirrorFigure.Pure : Prop := ∀ (a0_0 : Int) (a0_1 : Int) (l0_2 : List Int) (l0_3 : List Int), (Lit.int .i64 a0_0).wf = true → (Lit.int .i64 a0_1).wf = true → l0_2.length ≤ maxLen → (∀ x ∈ l0_2, (Lit.int .i64 x).wf = true) → l0_3.length ≤ maxLen → (∀ x ∈ l0_3, (Lit.int .i64 x).wf = true) → ∃ k, laws_FnExactMirrorFigure.f k a0_0 a0_1 l0_2 l0_3 = some true

end Go.Proofs.YtmlkihaoeopobaaDoor.Q
