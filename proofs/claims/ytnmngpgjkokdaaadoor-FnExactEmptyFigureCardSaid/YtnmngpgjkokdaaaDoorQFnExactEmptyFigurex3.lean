-- written by a program of this session, pm.py, for this claim
-- half the indentation
import Derived.Test.YtnmngpgjkokdaaaDoorQFnExactEmptyFigurex0
import Derived.Test.YtnmngpgjkokdaaaDoorQFnExactEmptyFigurex1
import Derived.Test.YtnmngpgjkokdaaaDoorQFnExactEmptyFigurex2
namespace Go.Proofs.YtnmngpgjkokdaaaDoor.Q
open Go.RowKit Go.Proofs.YtnmngpgjkokdaaaDoorW.PrintWords Go.Proofs.YtnmngpgjkokdaaaDoorW.PrintLast Go.Proofs.YtnmngpgjkokdaaaDoorW.PrintMore
attribute [local go_sem] max2_int min2_int max_two min_two max_three min_three max_four min_four   -- for this text's walks alone
set_option linter.unusedVariables false
set_option linter.unusedSimpArgs false

/-! ### laws_FnExactEmptyFigure: function 6 -/
mutual
def laws_FnExactEmptyFigure.j0 : Nat → Int → Int → Bool → Bool → Int → Int → List Int → List Int → Int → Int → List Int → List Int → Option (Bool)
 | 0, _, _, _, _, _, _, _, _, _, _, _, _ => none
 | k + 1, x0, x1, x6, x33, x161000, x161001, x161002, x161003, x171000, x171001, x171002, x171003 => if x33 = true then (some false) else ((laws_markFigure.f k x171000 x171001 x171002 x171003 101).bind fun bt172 => ((laws_heldFigure.f k x171000 x171001 bt172.2.1 bt172.2.2 101).bind fun t175 => (if t175 < 0 then (some false) else (if t175 = bt172.1 then ((impl_EmptyFigure.f k x0 x1).bind fun bt176 => ((laws_eqFigure.f k bt176.1 bt176.2.1 bt176.2.2.1 bt176.2.2.2.1 x161000 x161001 x161002 x161003).bind fun t186 => (if t186 = true then (laws_FnExactEmptyFigure.j1 k bt172.1 (bt176.2.2.2.2 != x6) x171000 x171001 bt172.2.1 bt172.2.2) else (laws_FnExactEmptyFigure.j1 k bt172.1 true x171000 x171001 bt172.2.1 bt172.2.2)))) else (some false)))))
def laws_FnExactEmptyFigure.j1 : Nat → Int → Bool → Int → Int → List Int → List Int → Option (Bool)
 | 0, _, _, _, _, _, _ => none
 | k + 1, x9, x59, x171000, x171001, x171002, x171003 => if x59 = true then (some false) else ((laws_heldFigure.f k x171000 x171001 x171002 x171003 101).bind fun t187 => (if t187 < 0 then (some false) else (if t187 = x9 then (some true) else (some false))))
end
def laws_FnExactEmptyFigure.f (k : Nat) (a0 : Int) (a1 : Int) : Option (Bool) := (spec_EmptyFigure.f a0 a1).bind fun bt151 => ((impl_EmptyFigure.f k a0 a1).bind fun bt161 => ((laws_eqFigure.f k bt161.1 bt161.2.1 bt161.2.2.1 bt161.2.2.2.1 bt151.1 bt151.2.1 bt151.2.2.1 bt151.2.2.2.1).bind fun t171 => (if t171 = true then (laws_FnExactEmptyFigure.j0 k a0 a1 bt151.2.2.2.2 (bt161.2.2.2.2 != bt151.2.2.2.2) bt151.1 bt151.2.1 bt151.2.2.1 bt151.2.2.2.1 bt161.1 bt161.2.1 bt161.2.2.1 bt161.2.2.2.1) else (laws_FnExactEmptyFigure.j0 k a0 a1 bt151.2.2.2.2 true bt151.1 bt151.2.1 bt151.2.2.1 bt151.2.2.2.1 bt161.1 bt161.2.1 bt161.2.2.1 bt161.2.2.2.1))))
theorem laws_FnExactEmptyFigure.mono_l : ∀ k, (∀ y0 y1 y2 y3 y4 y5 y6 y7 y8 y9 y10 y11, LeO (laws_FnExactEmptyFigure.j0 k y0 y1 y2 y3 y4 y5 y6 y7 y8 y9 y10 y11) (laws_FnExactEmptyFigure.j0 (k + 1) y0 y1 y2 y3 y4 y5 y6 y7 y8 y9 y10 y11)) ∧ (∀ y0 y1 y2 y3 y4 y5, LeO (laws_FnExactEmptyFigure.j1 k y0 y1 y2 y3 y4 y5) (laws_FnExactEmptyFigure.j1 (k + 1) y0 y1 y2 y3 y4 y5))
 | 0 => ⟨fun _ _ _ _ _ _ _ _ _ _ _ _ r h => by simp [laws_FnExactEmptyFigure.j0] at h, fun _ _ _ _ _ _ r h => by simp [laws_FnExactEmptyFigure.j1] at h⟩
 | k + 1 => by
  obtain ⟨ih0, ih1⟩ := laws_FnExactEmptyFigure.mono_l k
  refine ⟨?_, ?_⟩
  ·intro y0 y1 y2 y3 y4 y5 y6 y7 y8 y9 y10 y11
   unfold laws_FnExactEmptyFigure.j0
   repeat' first
   | (with_reducible exact ih0 _ _ _ _ _ _ _ _ _ _ _ _)
   | (with_reducible exact ih1 _ _ _ _ _ _)
   | (with_reducible exact impl_EmptyFigure.mono _ _ _)
   | (with_reducible exact laws_eqFigure.mono _ _ _ _ _ _ _ _ _)
   | (with_reducible exact laws_heldFigure.mono _ _ _ _ _ _)
   | (with_reducible exact laws_markFigure.mono _ _ _ _ _ _)
   | (with_reducible exact LeO.refl _)
   | (with_reducible exact LeO.none _)
   | (with_reducible refine LeO.ite ?_ ?_)
   | (with_reducible refine LeO.bind ?_ (fun _ => ?_))
   | exact ih0 _ _ _ _ _ _ _ _ _ _ _ _
   | exact ih1 _ _ _ _ _ _
   | exact impl_EmptyFigure.mono _ _ _
   | exact laws_eqFigure.mono _ _ _ _ _ _ _ _ _
   | exact laws_heldFigure.mono _ _ _ _ _ _
   | exact laws_markFigure.mono _ _ _ _ _ _
   | exact LeO.none _
   | refine LeO.ite ?_ ?_
   | refine LeO.bind ?_ (fun _ => ?_)
  ·intro y0 y1 y2 y3 y4 y5
   unfold laws_FnExactEmptyFigure.j1
   repeat' first
   | (with_reducible exact ih0 _ _ _ _ _ _ _ _ _ _ _ _)
   | (with_reducible exact ih1 _ _ _ _ _ _)
   | (with_reducible exact impl_EmptyFigure.mono _ _ _)
   | (with_reducible exact laws_eqFigure.mono _ _ _ _ _ _ _ _ _)
   | (with_reducible exact laws_heldFigure.mono _ _ _ _ _ _)
   | (with_reducible exact laws_markFigure.mono _ _ _ _ _ _)
   | (with_reducible exact LeO.refl _)
   | (with_reducible exact LeO.none _)
   | (with_reducible refine LeO.ite ?_ ?_)
   | (with_reducible refine LeO.bind ?_ (fun _ => ?_))
   | exact ih0 _ _ _ _ _ _ _ _ _ _ _ _
   | exact ih1 _ _ _ _ _ _
   | exact impl_EmptyFigure.mono _ _ _
   | exact laws_eqFigure.mono _ _ _ _ _ _ _ _ _
   | exact laws_heldFigure.mono _ _ _ _ _ _
   | exact laws_markFigure.mono _ _ _ _ _ _
   | exact LeO.none _
   | refine LeO.ite ?_ ?_
   | refine LeO.bind ?_ (fun _ => ?_)
theorem laws_FnExactEmptyFigure.mono : ∀ a0 a1 k, LeO (laws_FnExactEmptyFigure.f k a0 a1) (laws_FnExactEmptyFigure.f (k + 1) a0 a1) := by
 intro a0 a1 k
 obtain ⟨ih0, ih1⟩ := laws_FnExactEmptyFigure.mono_l k
 unfold laws_FnExactEmptyFigure.f
 repeat' first
   | (with_reducible exact ih0 _ _ _ _ _ _ _ _ _ _ _ _)
   | (with_reducible exact ih1 _ _ _ _ _ _)
   | (with_reducible exact impl_EmptyFigure.mono _ _ _)
   | (with_reducible exact laws_eqFigure.mono _ _ _ _ _ _ _ _ _)
   | (with_reducible exact laws_heldFigure.mono _ _ _ _ _ _)
   | (with_reducible exact laws_markFigure.mono _ _ _ _ _ _)
   | (with_reducible exact LeO.refl _)
   | (with_reducible exact LeO.none _)
   | (with_reducible refine LeO.ite ?_ ?_)
   | (with_reducible refine LeO.bind ?_ (fun _ => ?_))
   | exact ih0 _ _ _ _ _ _ _ _ _ _ _ _
   | exact ih1 _ _ _ _ _ _
   | exact impl_EmptyFigure.mono _ _ _
   | exact laws_eqFigure.mono _ _ _ _ _ _ _ _ _
   | exact laws_heldFigure.mono _ _ _ _ _ _
   | exact laws_markFigure.mono _ _ _ _ _ _
   | exact LeO.none _
   | refine LeO.ite ?_ ?_
   | refine LeO.bind ?_ (fun _ => ?_)
set_option maxHeartbeats 8000000 in
set_option maxRecDepth 100000 in
theorem laws_FnExactEmptyFigure.calls (k : Nat) (a0 : Int) (a1 : Int) (r : Bool) (w : World) (hG : LaidG w) (hr_ : r = true) (h : laws_FnExactEmptyFigure.f k a0 a1 = some r) :
  Calls Tryd.prog 6 #[.int .i64 a0, .int .i64 a1] w fun e w' => e = .returned (.bool r) ∧ Below w.heap.size w w' := by
 have hu34 := Tryd.underlying34
 have HG := Aside0.mk hG
 clear hG
 have HR_ := Aside0.mk hr_
 clear hr_
 have HB := Aside0.mk (Below.refl w.heap.size w)
 have H : ((spec_EmptyFigure.f a0 a1).bind fun bt151 => ((impl_EmptyFigure.f k a0 a1).bind fun bt161 => ((laws_eqFigure.f k bt161.1 bt161.2.1 bt161.2.2.1 bt161.2.2.2.1 bt151.1 bt151.2.1 bt151.2.2.1 bt151.2.2.2.1).bind fun t171 => (if t171 = true then (laws_FnExactEmptyFigure.j0 k a0 a1 bt151.2.2.2.2 (bt161.2.2.2.2 != bt151.2.2.2.2) bt151.1 bt151.2.1 bt151.2.2.1 bt151.2.2.2.1 bt161.1 bt161.2.1 bt161.2.2.1 bt161.2.2.2.1) else (laws_FnExactEmptyFigure.j0 k a0 a1 bt151.2.2.2.2 true bt151.1 bt151.2.1 bt151.2.2.1 bt151.2.2.2.1 bt161.1 bt161.2.1 bt161.2.2.1 bt161.2.2.2.1))))) = some r := h
 clear h
 replace H := Option.bind_eq_some_iff.mp H
 obtain ⟨⟨t151, t152, t153, t156, t159⟩, A30, H⟩ := H
 replace H : ((impl_EmptyFigure.f k a0 a1).bind fun bt161 => ((laws_eqFigure.f k bt161.1 bt161.2.1 bt161.2.2.1 bt161.2.2.2.1 t151 t152 t153 t156).bind fun t171 => (if t171 = true then (laws_FnExactEmptyFigure.j0 k a0 a1 t159 (bt161.2.2.2.2 != t159) t151 t152 t153 t156 bt161.1 bt161.2.1 bt161.2.2.1 bt161.2.2.2.1) else (laws_FnExactEmptyFigure.j0 k a0 a1 t159 true t151 t152 t153 t156 bt161.1 bt161.2.1 bt161.2.2.1 bt161.2.2.2.1)))) = some r := H
 have A3 := Aside0.mk A30
 clear A30
 replace H := Option.bind_eq_some_iff.mp H
 obtain ⟨⟨t161, t162, t163, t166, t169⟩, A40, H⟩ := H
 replace H : ((laws_eqFigure.f k t161 t162 t163 t166 t151 t152 t153 t156).bind fun t171 => (if t171 = true then (laws_FnExactEmptyFigure.j0 k a0 a1 t159 (t169 != t159) t151 t152 t153 t156 t161 t162 t163 t166) else (laws_FnExactEmptyFigure.j0 k a0 a1 t159 true t151 t152 t153 t156 t161 t162 t163 t166))) = some r := H
 have A4 := Aside0.mk A40
 clear A40
 have HC5 := Aside0.mk H
 clear H
 go_enter Tryd.func6, Tryd.ntmps6
 go_upto_region 3 with (first | ((with_reducible refine gate_callee (f := 23) rfl ?_); refine goesL_ (some 16) rfl rfl Tryd.func23 (by kernel_rfl) rfl #[.int .i64 a0, .int .i64 a1] rfl (by (try simp only [List.map_toArray, List.map_cons, List.map_nil]); first | done | rfl | (simp only [List.length_drop, List.length_take]; rfl)) ?_; (with_reducible refine (spec_EmptyFigure.calls a0 a1 t151 t152 t153 t156 t159 _ A3.out).mono ?_); rintro e w6 ⟨v154, v157, rfl, ho0, ho1, hb⟩; refine ⟨_, rfl, ?_⟩; have n0_ := Aside0.mk (Kd.R_lower ho0 (below_size (by repeat (first | (with_reducible first | exact HB.out | apply below_alloc | apply pw_below_drewN | apply below_drew1) | exact HB.out)))); have n1_ := Aside0.mk (Kd.R_lower ho1 (below_size (by repeat (first | (with_reducible first | exact HB.out | apply below_alloc | apply pw_below_drewN | apply below_drew1) | exact HB.out)))); have n2_ := Aside0.mk (below_step (by repeat (first | (with_reducible first | exact HB.out | apply below_alloc | apply pw_below_drewN | apply below_drew1) | exact HB.out)) hb); clear HB; have HO155 := n0_; have HO158 := n1_; have HB := n2_; clear n0_ n1_ n2_; (try clear hb); (try clear hb2); (try clear hk); (try clear hi); (try clear ho0); (try clear ho1)) | ((with_reducible refine gate_dst (N := 5) rfl ?_); refine box_event ?hg (N := 5) ?hd (cs := #[.int .i64 0, .int .i64 0, .slice none 0 0, .slice none 0 0]) (t := 34) ?hr ?_; (case hd => rfl); (case hg => rfl); (case hr => first | (go_simp; done) | (go_simp; rfl)); intro gb160 hg w7 hbox hb; have n0_ := Aside0.mk (Kd.R_below (by (with_reducible repeat (first | apply Kd.R_alloc | apply Kd.R_drewN | apply Kd.R_drew)); exact HO155.out) hb); have n1_ := Aside0.mk (Kd.R_below (by (with_reducible repeat (first | apply Kd.R_alloc | apply Kd.R_drewN | apply Kd.R_drew)); exact HO158.out) hb); have n2_ := Aside0.mk (below_step (by repeat (first | (with_reducible first | exact HB.out | apply below_alloc | apply pw_below_drewN | apply below_drew1) | exact HB.out)) hb); have n3_ := Aside0.mk (hbox); have n4_ := Aside0.mk ((by rw [hg]; exact (below_size (by repeat (first | (with_reducible first | exact HB.out | apply below_alloc | apply pw_below_drewN | apply below_drew1) | exact HB.out))) : w.heap.size ≤ gb160)); have n5_ := Aside0.mk ((by rw [hg]; exact (below_size (by repeat (first | (with_reducible first | exact HB.out | apply below_alloc | apply pw_below_drewN | apply below_drew1) | exact HB.out))) : w.heap.size ≤ gb160)); clear HO155; clear HO158; clear HB; have HO155 := n0_; have HO158 := n1_; have HB := n2_; have BK160 := n3_; have GW160 := n4_; have GE160 := n5_; clear n0_ n1_ n2_ n3_ n4_ n5_; clear hb hbox hg; have hcz8_0 : w7.cell? ⟨gb160, 0, none⟩ = some (.int .i64 0) := (blk_cell BK160.out 0).trans rfl; have hcz8_1 : w7.cell? ⟨gb160, 1, none⟩ = some (.int .i64 0) := (blk_cell BK160.out 1).trans rfl; have hcz8_2 : w7.cell? ⟨gb160, 2, none⟩ = some (.slice none 0 0) := (blk_cell BK160.out 2).trans rfl; have hcz8_3 : w7.cell? ⟨gb160, 3, none⟩ = some (.slice none 0 0) := (blk_cell BK160.out 3).trans rfl; have hfz8_0 := blk_frozen BK160.out 0; have hfz8_1 := blk_frozen BK160.out 1; have hfz8_2 := blk_frozen BK160.out 2; have hfz8_3 := blk_frozen BK160.out 3; obtain ⟨Ao9, co9, eo9⟩ := Kd.R_slice HO155.out; subst eo9; obtain ⟨Ao10, co10, eo10⟩ := Kd.R_slice HO158.out; subst eo10) | ((with_reducible refine gate_callee (f := 24) rfl ?_); refine goesL_ (some 22) rfl rfl Tryd.func24 (by kernel_rfl) rfl #[.int .i64 a0, .int .i64 a1] rfl (by (try simp only [List.map_toArray, List.map_cons, List.map_nil]); first | done | rfl | (simp only [List.length_drop, List.length_take]; rfl)) ?_; (with_reducible refine (impl_EmptyFigure.calls k a0 a1 t161 t162 t163 t166 t169 _ ?side1 A4.out).mono ?_); (case side1 => first | exact LaidG_below HG.out (by repeat (first | (with_reducible first | exact HB.out | apply below_alloc | apply pw_below_drewN | apply below_drew1 | refine below_set ?_ GE160.out) | exact HB.out)) | (repeat (first | exact HG.out | (with_reducible refine LaidG_alloc ?_ _) | (with_reducible refine LaidG_drewN ?_ _) | (with_reducible refine LaidG_drew ?_)))); rintro e w11 ⟨v164, v167, rfl, ho0, ho1, hb⟩; refine ⟨_, rfl, ?_⟩; have n0_ := Aside0.mk (Kd.R_mono (Kd.R_told (Kd.R_told (Kd.R_old (by (with_reducible repeat (first | apply Kd.R_alloc | apply Kd.R_drewN | apply Kd.R_drew)); exact (Kd.R_mono (Kd.R_far (p := ⟨gb160, 3, none⟩) (Kd.R_far (p := ⟨gb160, 2, none⟩) (Kd.R_far (p := ⟨gb160, 1, none⟩) (Kd.R_far (p := ⟨gb160, 0, none⟩) (Kd.R_types HO155.out BK160.out (by decide)) (fun _ hk => hk.2) (.int .i64 t151)) (fun _ hk => hk.2) (.int .i64 t152)) (fun _ hk => hk.2) (.slice Ao9 t153.length co9)) (fun _ hk => hk.2) (.slice Ao10 t156.length co10)) (fun _ h_ => h_.1))) hb) (Kd.R_base ho0)) (Kd.R_base ho1)) (fun _ h_ => h_.1)); have n1_ := Aside0.mk (Kd.R_mono (Kd.R_told (Kd.R_told (Kd.R_old (by (with_reducible repeat (first | apply Kd.R_alloc | apply Kd.R_drewN | apply Kd.R_drew)); exact (Kd.R_mono (Kd.R_far (p := ⟨gb160, 3, none⟩) (Kd.R_far (p := ⟨gb160, 2, none⟩) (Kd.R_far (p := ⟨gb160, 1, none⟩) (Kd.R_far (p := ⟨gb160, 0, none⟩) (Kd.R_types HO158.out BK160.out (by decide)) (fun _ hk => hk.2) (.int .i64 t151)) (fun _ hk => hk.2) (.int .i64 t152)) (fun _ hk => hk.2) (.slice Ao9 t153.length co9)) (fun _ hk => hk.2) (.slice Ao10 t156.length co10)) (fun _ h_ => h_.1))) hb) (Kd.R_base ho0)) (Kd.R_base ho1)) (fun _ h_ => h_.1)); have n2_ := Aside0.mk (Kd.R_lower (Kd.R_new' (Kd.R_new' ho0 (Kd.R_lt (by (with_reducible repeat (first | apply Kd.R_alloc | apply Kd.R_drewN | apply Kd.R_drew)); exact (Kd.R_mono (Kd.R_far (p := ⟨gb160, 3, none⟩) (Kd.R_far (p := ⟨gb160, 2, none⟩) (Kd.R_far (p := ⟨gb160, 1, none⟩) (Kd.R_far (p := ⟨gb160, 0, none⟩) (Kd.R_types HO155.out BK160.out (by decide)) (fun _ hk => hk.2) (.int .i64 t151)) (fun _ hk => hk.2) (.int .i64 t152)) (fun _ hk => hk.2) (.slice Ao9 t153.length co9)) (fun _ hk => hk.2) (.slice Ao10 t156.length co10)) (fun _ h_ => h_.1))))) (Kd.R_lt (by (with_reducible repeat (first | apply Kd.R_alloc | apply Kd.R_drewN | apply Kd.R_drew)); exact (Kd.R_mono (Kd.R_far (p := ⟨gb160, 3, none⟩) (Kd.R_far (p := ⟨gb160, 2, none⟩) (Kd.R_far (p := ⟨gb160, 1, none⟩) (Kd.R_far (p := ⟨gb160, 0, none⟩) (Kd.R_types HO158.out BK160.out (by decide)) (fun _ hk => hk.2) (.int .i64 t151)) (fun _ hk => hk.2) (.int .i64 t152)) (fun _ hk => hk.2) (.slice Ao9 t153.length co9)) (fun _ hk => hk.2) (.slice Ao10 t156.length co10)) (fun _ h_ => h_.1))))) (below_size (by repeat (first | (with_reducible first | exact HB.out | apply below_alloc | apply pw_below_drewN | apply below_drew1 | refine below_set ?_ GE160.out) | exact HB.out)))); have n3_ := Aside0.mk (Kd.R_lower (Kd.R_new' (Kd.R_new' ho1 (Kd.R_lt (by (with_reducible repeat (first | apply Kd.R_alloc | apply Kd.R_drewN | apply Kd.R_drew)); exact (Kd.R_mono (Kd.R_far (p := ⟨gb160, 3, none⟩) (Kd.R_far (p := ⟨gb160, 2, none⟩) (Kd.R_far (p := ⟨gb160, 1, none⟩) (Kd.R_far (p := ⟨gb160, 0, none⟩) (Kd.R_types HO155.out BK160.out (by decide)) (fun _ hk => hk.2) (.int .i64 t151)) (fun _ hk => hk.2) (.int .i64 t152)) (fun _ hk => hk.2) (.slice Ao9 t153.length co9)) (fun _ hk => hk.2) (.slice Ao10 t156.length co10)) (fun _ h_ => h_.1))))) (Kd.R_lt (by (with_reducible repeat (first | apply Kd.R_alloc | apply Kd.R_drewN | apply Kd.R_drew)); exact (Kd.R_mono (Kd.R_far (p := ⟨gb160, 3, none⟩) (Kd.R_far (p := ⟨gb160, 2, none⟩) (Kd.R_far (p := ⟨gb160, 1, none⟩) (Kd.R_far (p := ⟨gb160, 0, none⟩) (Kd.R_types HO158.out BK160.out (by decide)) (fun _ hk => hk.2) (.int .i64 t151)) (fun _ hk => hk.2) (.int .i64 t152)) (fun _ hk => hk.2) (.slice Ao9 t153.length co9)) (fun _ hk => hk.2) (.slice Ao10 t156.length co10)) (fun _ h_ => h_.1))))) (below_size (by repeat (first | (with_reducible first | exact HB.out | apply below_alloc | apply pw_below_drewN | apply below_drew1 | refine below_set ?_ GE160.out) | exact HB.out)))); have n4_ := Aside0.mk (blk_below (g := gb160) (o := .cells #[.int .i64 t151, .int .i64 t152, .slice Ao9 t153.length co9, .slice Ao10 t156.length co10] 34 (0, 0)) (by (with_reducible repeat (first | refine blk_drewN ?_ _ | refine blk_drew ?_ | refine blk_alloc ?_ _)); refine blk_put (cs := #[.int .i64 t151, .int .i64 t152, .slice Ao9 t153.length co9, .slice none 0 0]) ?_ 3 _ rfl; (with_reducible repeat (first | refine blk_drewN ?_ _ | refine blk_drew ?_ | refine blk_alloc ?_ _)); refine blk_put (cs := #[.int .i64 t151, .int .i64 t152, .slice none 0 0, .slice none 0 0]) ?_ 2 _ rfl; (with_reducible repeat (first | refine blk_drewN ?_ _ | refine blk_drew ?_ | refine blk_alloc ?_ _)); refine blk_put (cs := #[.int .i64 t151, .int .i64 0, .slice none 0 0, .slice none 0 0]) ?_ 1 _ rfl; (with_reducible repeat (first | refine blk_drewN ?_ _ | refine blk_drew ?_ | refine blk_alloc ?_ _)); refine blk_put (cs := #[.int .i64 0, .int .i64 0, .slice none 0 0, .slice none 0 0]) ?_ 0 _ rfl; (with_reducible repeat (first | refine blk_drewN ?_ _ | refine blk_drew ?_ | refine blk_alloc ?_ _)); exact BK160.out) hb); have n5_ := Aside0.mk (below_step (by repeat (first | (with_reducible first | exact HB.out | apply below_alloc | apply pw_below_drewN | apply below_drew1 | refine below_set ?_ GE160.out) | exact HB.out)) hb); clear HO155; clear HO158; clear BK160; clear HB; have HO155 := n0_; have HO158 := n1_; have HO165 := n2_; have HO168 := n3_; have BK160 := n4_; have HB := n5_; clear n0_ n1_ n2_ n3_ n4_ n5_; (try clear hb); (try clear hb2); (try clear hk); (try clear hi); (try clear ho0); (try clear ho1)) | ((with_reducible refine gate_dst (N := 7) rfl ?_); refine box_event ?hg (N := 7) ?hd (cs := #[.int .i64 0, .int .i64 0, .slice none 0 0, .slice none 0 0]) (t := 34) ?hr ?_; (case hd => rfl); (case hg => rfl); (case hr => first | (go_simp; done) | (go_simp; rfl)); intro gb170 hg w12 hbox hb; have n0_ := Aside0.mk (Kd.R_below (by (with_reducible repeat (first | apply Kd.R_alloc | apply Kd.R_drewN | apply Kd.R_drew)); exact HO155.out) hb); have n1_ := Aside0.mk (Kd.R_below (by (with_reducible repeat (first | apply Kd.R_alloc | apply Kd.R_drewN | apply Kd.R_drew)); exact HO158.out) hb); have n2_ := Aside0.mk (Kd.R_below (by (with_reducible repeat (first | apply Kd.R_alloc | apply Kd.R_drewN | apply Kd.R_drew)); exact HO165.out) hb); have n3_ := Aside0.mk (Kd.R_below (by (with_reducible repeat (first | apply Kd.R_alloc | apply Kd.R_drewN | apply Kd.R_drew)); exact HO168.out) hb); have n4_ := Aside0.mk (blk_below (g := gb160) (o := .cells #[.int .i64 t151, .int .i64 t152, .slice Ao9 t153.length co9, .slice Ao10 t156.length co10] 34 (0, 0)) (by (with_reducible repeat (first | refine blk_drewN ?_ _ | refine blk_drew ?_ | refine blk_alloc ?_ _)); exact BK160.out) hb); have n5_ := Aside0.mk (below_step (by repeat (first | (with_reducible first | exact HB.out | apply below_alloc | apply pw_below_drewN | apply below_drew1 | refine below_set ?_ GE160.out) | exact HB.out)) hb); have n6_ := Aside0.mk (hbox); have n7_ := Aside0.mk ((by rw [hg]; exact (below_size (by repeat (first | (with_reducible first | exact HB.out | apply below_alloc | apply pw_below_drewN | apply below_drew1 | refine below_set ?_ GE160.out) | exact HB.out))) : w.heap.size ≤ gb170)); have n8_ := Aside0.mk ((by rw [hg]; exact (below_size (by repeat (first | (with_reducible first | exact HB.out | apply below_alloc | apply pw_below_drewN | apply below_drew1 | refine below_set ?_ GE160.out) | exact HB.out))) : w.heap.size ≤ gb170)); have n9_ := Aside0.mk ((by rw [hg]; exact Nat.ne_of_lt (blk_lt (g := gb160) (o := .cells #[.int .i64 t151, .int .i64 t152, .slice Ao9 t153.length co9, .slice Ao10 t156.length co10] 34 (0, 0)) (by (with_reducible repeat (first | refine blk_drewN ?_ _ | refine blk_drew ?_ | refine blk_alloc ?_ _)); exact BK160.out)) : gb160 ≠ gb170)); have n10_ := Aside0.mk ((by rw [hg]; exact Nat.ne_of_gt (blk_lt (g := gb160) (o := .cells #[.int .i64 t151, .int .i64 t152, .slice Ao9 t153.length co9, .slice Ao10 t156.length co10] 34 (0, 0)) (by (with_reducible repeat (first | refine blk_drewN ?_ _ | refine blk_drew ?_ | refine blk_alloc ?_ _)); exact BK160.out)) : gb170 ≠ gb160)); clear HO155; clear HO158; clear HO165; clear HO168; clear BK160; clear HB; have HO155 := n0_; have HO158 := n1_; have HO165 := n2_; have HO168 := n3_; have BK160 := n4_; have HB := n5_; have BK170 := n6_; have GW170 := n7_; have GE170 := n8_; have NB160_170 := n9_; have NB170_160 := n10_; clear n0_ n1_ n2_ n3_ n4_ n5_ n6_ n7_ n8_ n9_ n10_; clear hb hbox hg; have hnb13 := NB170_160.out; have hnc13 := NB160_170.out; have hcz14_0 : w12.cell? ⟨gb170, 0, none⟩ = some (.int .i64 0) := (blk_cell BK170.out 0).trans rfl; have hcz14_1 : w12.cell? ⟨gb170, 1, none⟩ = some (.int .i64 0) := (blk_cell BK170.out 1).trans rfl; have hcz14_2 : w12.cell? ⟨gb170, 2, none⟩ = some (.slice none 0 0) := (blk_cell BK170.out 2).trans rfl; have hcz14_3 : w12.cell? ⟨gb170, 3, none⟩ = some (.slice none 0 0) := (blk_cell BK170.out 3).trans rfl; have hfz14_0 := blk_frozen BK170.out 0; have hfz14_1 := blk_frozen BK170.out 1; have hfz14_2 := blk_frozen BK170.out 2; have hfz14_3 := blk_frozen BK170.out 3; obtain ⟨Ao15, co15, eo15⟩ := Kd.R_slice HO165.out; subst eo15; obtain ⟨Ao16, co16, eo16⟩ := Kd.R_slice HO168.out; subst eo16))
 (try simp only [Act.put, List.setIfInBounds_toArray, List.set_cons_zero, List.set_cons_succ])
 go_cut [33] (fun v33 wc => ∃ (kq : Nat) (x33_4 : Bool), v33 = .bool x33_4 ∧ Aside0 (laws_FnExactEmptyFigure.j0 kq a0 a1 t159 x33_4 t151 t152 t153 t156 t161 t162 t163 t166 = some r) ∧ Aside0 (kq ≤ k) ∧ Aside0 (Kd.R (Kd.int .i64) 3 wc w.heap.size (fun k_ => some k_ ≠ ((.slice Ao10 t156.length co10) : Value).ownBlock ∧ some k_ ≠ ((.slice Ao15 t163.length co15) : Value).ownBlock ∧ some k_ ≠ ((.slice Ao16 t166.length co16) : Value).ownBlock) (.slice Ao9 t153.length co9) t153) ∧ Aside0 (Kd.R (Kd.int .i64) 3 wc w.heap.size (fun k_ => some k_ ≠ ((.slice Ao9 t153.length co9) : Value).ownBlock ∧ some k_ ≠ ((.slice Ao15 t163.length co15) : Value).ownBlock ∧ some k_ ≠ ((.slice Ao16 t166.length co16) : Value).ownBlock) (.slice Ao10 t156.length co10) t156) ∧ Aside0 (Kd.R (Kd.int .i64) 3 wc w.heap.size (fun k_ => some k_ ≠ ((.slice Ao9 t153.length co9) : Value).ownBlock ∧ some k_ ≠ ((.slice Ao10 t156.length co10) : Value).ownBlock ∧ some k_ ≠ ((.slice Ao16 t166.length co16) : Value).ownBlock) (.slice Ao15 t163.length co15) t163) ∧ Aside0 (Kd.R (Kd.int .i64) 3 wc w.heap.size (fun k_ => some k_ ≠ ((.slice Ao9 t153.length co9) : Value).ownBlock ∧ some k_ ≠ ((.slice Ao10 t156.length co10) : Value).ownBlock ∧ some k_ ≠ ((.slice Ao15 t163.length co15) : Value).ownBlock) (.slice Ao16 t166.length co16) t166) ∧ Aside0 (wc.heap[gb160]? = some (.cells #[.int .i64 t151, .int .i64 t152, (.slice Ao9 t153.length co9), (.slice Ao10 t156.length co10)] 34 (0, 0))) ∧ Aside0 (wc.heap[gb170]? = some (.cells #[.int .i64 t161, .int .i64 t162, (.slice Ao15 t163.length co15), (.slice Ao16 t166.length co16)] 34 (0, 0))) ∧ Aside0 (Below w.heap.size w wc))
 case first =>
  have H := HC5.out
  clear HC5
  replace H := Option.bind_eq_some_iff.mp H
  obtain ⟨t171, A170, H⟩ := H
  replace H : (if t171 = true then (laws_FnExactEmptyFigure.j0 k a0 a1 t159 (t169 != t159) t151 t152 t153 t156 t161 t162 t163 t166) else (laws_FnExactEmptyFigure.j0 k a0 a1 t159 true t151 t152 t153 t156 t161 t162 t163 t166)) = some r := H
  have A17 := Aside0.mk A170
  clear A170
  by_cases c18 : t171 = true
  ·subst c18
   have H1 : (laws_FnExactEmptyFigure.j0 k a0 a1 t159 (t169 != t159) t151 t152 t153 t156 t161 t162 t163 t166) = some r := by rw [if_pos rfl] at H; exact H
   clear H
   have H := H1
   clear H1
   have H' := Aside0.mk H
   clear H
   have hnb19 := NB170_160.out
   have hnc19 := NB160_170.out
   have hcz20_0 : w12.cell? ⟨gb170, 0, none⟩ = some (.int .i64 0) := (blk_cell BK170.out 0).trans rfl
   have hcz20_1 : w12.cell? ⟨gb170, 1, none⟩ = some (.int .i64 0) := (blk_cell BK170.out 1).trans rfl
   have hcz20_2 : w12.cell? ⟨gb170, 2, none⟩ = some (.slice none 0 0) := (blk_cell BK170.out 2).trans rfl
   have hcz20_3 : w12.cell? ⟨gb170, 3, none⟩ = some (.slice none 0 0) := (blk_cell BK170.out 3).trans rfl
   have hfz20_0 := blk_frozen BK170.out 0
   have hfz20_1 := blk_frozen BK170.out 1
   have hfz20_2 := blk_frozen BK170.out 2
   have hfz20_3 := blk_frozen BK170.out 3
   have hcz21_0 : w12.cell? ⟨gb160, 0, none⟩ = some (.int .i64 t151) := (blk_cell BK160.out 0).trans rfl
   have hcz21_1 : w12.cell? ⟨gb160, 1, none⟩ = some (.int .i64 t152) := (blk_cell BK160.out 1).trans rfl
   have hcz21_2 : w12.cell? ⟨gb160, 2, none⟩ = some (.slice Ao9 t153.length co9) := (blk_cell BK160.out 2).trans rfl
   have hcz21_3 : w12.cell? ⟨gb160, 3, none⟩ = some (.slice Ao10 t156.length co10) := (blk_cell BK160.out 3).trans rfl
   have hfz21_0 := blk_frozen BK160.out 0
   have hfz21_1 := blk_frozen BK160.out 1
   have hfz21_2 := blk_frozen BK160.out 2
   have hfz21_3 := blk_frozen BK160.out 3
   go_wp2_with (first | ((with_reducible refine gate_callee (f := 18) rfl ?_); refine goesL_ (some 27) rfl rfl Tryd.func18 (by kernel_rfl) rfl #[.agg #[.int .i64 t161, .int .i64 t162, .slice Ao15 t163.length co15, .slice Ao16 t166.length co16], .agg #[.int .i64 t151, .int .i64 t152, .slice Ao9 t153.length co9, .slice Ao10 t156.length co10]] rfl (by (try simp only [List.map_toArray, List.map_cons, List.map_nil]); first | done | rfl | (simp only [List.length_drop, List.length_take]; rfl)) ?_; (with_reducible refine (laws_eqFigure.calls k t161 t162 _ _ t163 _ _ t166 t151 t152 _ _ t153 _ _ t156 true _ ?side1 ?side2 ?side3 ?side4 ?side5 ?side6 ?side7 ?side8 A17.out).mono ?_); (case side1 => refine (Kd.R_reads' (e := 3) (base := w.heap.size) (ok := fun k_ => ((some k_ ≠ (.slice Ao16 t166.length co16 : Value).ownBlock ∧ some k_ ≠ (.slice Ao9 t153.length co9 : Value).ownBlock) ∧ some k_ ≠ (.slice Ao10 t156.length co10 : Value).ownBlock)) (n := t163.length) (c := co15) ?_).2.2; exact (by (with_reducible repeat (first | apply Kd.R_alloc | apply Kd.R_drewN | apply Kd.R_drew)); exact (Kd.R_mono (Kd.R_far (p := ⟨gb170, 3, none⟩) (Kd.R_far (p := ⟨gb170, 2, none⟩) (Kd.R_far (p := ⟨gb170, 1, none⟩) (Kd.R_far (p := ⟨gb170, 0, none⟩) (Kd.R_types HO165.out BK170.out (by decide)) (fun _ hk => hk.2) (.int .i64 t161)) (fun _ hk => hk.2) (.int .i64 t162)) (fun _ hk => hk.2) (.slice Ao15 t163.length co15)) (fun _ hk => hk.2) (.slice Ao16 t166.length co16)) (fun _ h_ => h_.1)))); (case side2 => exact (Kd.R_reads' HO165.out).2.1); (case side3 => refine (Kd.R_reads' (e := 3) (base := w.heap.size) (ok := fun k_ => ((some k_ ≠ (.slice Ao15 t163.length co15 : Value).ownBlock ∧ some k_ ≠ (.slice Ao9 t153.length co9 : Value).ownBlock) ∧ some k_ ≠ (.slice Ao10 t156.length co10 : Value).ownBlock)) (n := t166.length) (c := co16) ?_).2.2; exact (by (with_reducible repeat (first | apply Kd.R_alloc | apply Kd.R_drewN | apply Kd.R_drew)); exact (Kd.R_mono (Kd.R_far (p := ⟨gb170, 3, none⟩) (Kd.R_far (p := ⟨gb170, 2, none⟩) (Kd.R_far (p := ⟨gb170, 1, none⟩) (Kd.R_far (p := ⟨gb170, 0, none⟩) (Kd.R_types HO168.out BK170.out (by decide)) (fun _ hk => hk.2) (.int .i64 t161)) (fun _ hk => hk.2) (.int .i64 t162)) (fun _ hk => hk.2) (.slice Ao15 t163.length co15)) (fun _ hk => hk.2) (.slice Ao16 t166.length co16)) (fun _ h_ => h_.1)))); (case side4 => exact (Kd.R_reads' HO168.out).2.1); (case side5 => refine (Kd.R_reads' (e := 3) (base := w.heap.size) (ok := fun k_ => ((some k_ ≠ (.slice Ao10 t156.length co10 : Value).ownBlock ∧ some k_ ≠ (.slice Ao15 t163.length co15 : Value).ownBlock) ∧ some k_ ≠ (.slice Ao16 t166.length co16 : Value).ownBlock)) (n := t153.length) (c := co9) ?_).2.2; exact (by (with_reducible repeat (first | apply Kd.R_alloc | apply Kd.R_drewN | apply Kd.R_drew)); exact (Kd.R_mono (Kd.R_far (p := ⟨gb170, 3, none⟩) (Kd.R_far (p := ⟨gb170, 2, none⟩) (Kd.R_far (p := ⟨gb170, 1, none⟩) (Kd.R_far (p := ⟨gb170, 0, none⟩) (Kd.R_types HO155.out BK170.out (by decide)) (fun _ hk => hk.2) (.int .i64 t161)) (fun _ hk => hk.2) (.int .i64 t162)) (fun _ hk => hk.2) (.slice Ao15 t163.length co15)) (fun _ hk => hk.2) (.slice Ao16 t166.length co16)) (fun _ h_ => h_.1)))); (case side6 => exact (Kd.R_reads' HO155.out).2.1); (case side7 => refine (Kd.R_reads' (e := 3) (base := w.heap.size) (ok := fun k_ => ((some k_ ≠ (.slice Ao9 t153.length co9 : Value).ownBlock ∧ some k_ ≠ (.slice Ao15 t163.length co15 : Value).ownBlock) ∧ some k_ ≠ (.slice Ao16 t166.length co16 : Value).ownBlock)) (n := t156.length) (c := co10) ?_).2.2; exact (by (with_reducible repeat (first | apply Kd.R_alloc | apply Kd.R_drewN | apply Kd.R_drew)); exact (Kd.R_mono (Kd.R_far (p := ⟨gb170, 3, none⟩) (Kd.R_far (p := ⟨gb170, 2, none⟩) (Kd.R_far (p := ⟨gb170, 1, none⟩) (Kd.R_far (p := ⟨gb170, 0, none⟩) (Kd.R_types HO158.out BK170.out (by decide)) (fun _ hk => hk.2) (.int .i64 t161)) (fun _ hk => hk.2) (.int .i64 t162)) (fun _ hk => hk.2) (.slice Ao15 t163.length co15)) (fun _ hk => hk.2) (.slice Ao16 t166.length co16)) (fun _ h_ => h_.1)))); (case side8 => exact (Kd.R_reads' HO158.out).2.1); rintro e w22 ⟨rfl, hb⟩; refine ⟨_, rfl, ?_⟩; have n0_ := Aside0.mk (Kd.R_below (by (with_reducible repeat (first | apply Kd.R_alloc | apply Kd.R_drewN | apply Kd.R_drew)); exact (Kd.R_mono (Kd.R_far (p := ⟨gb170, 3, none⟩) (Kd.R_far (p := ⟨gb170, 2, none⟩) (Kd.R_far (p := ⟨gb170, 1, none⟩) (Kd.R_far (p := ⟨gb170, 0, none⟩) (Kd.R_types HO155.out BK170.out (by decide)) (fun _ hk => hk.2) (.int .i64 t161)) (fun _ hk => hk.2) (.int .i64 t162)) (fun _ hk => hk.2) (.slice Ao15 t163.length co15)) (fun _ hk => hk.2) (.slice Ao16 t166.length co16)) (fun _ h_ => h_.1))) hb); have n1_ := Aside0.mk (Kd.R_below (by (with_reducible repeat (first | apply Kd.R_alloc | apply Kd.R_drewN | apply Kd.R_drew)); exact (Kd.R_mono (Kd.R_far (p := ⟨gb170, 3, none⟩) (Kd.R_far (p := ⟨gb170, 2, none⟩) (Kd.R_far (p := ⟨gb170, 1, none⟩) (Kd.R_far (p := ⟨gb170, 0, none⟩) (Kd.R_types HO158.out BK170.out (by decide)) (fun _ hk => hk.2) (.int .i64 t161)) (fun _ hk => hk.2) (.int .i64 t162)) (fun _ hk => hk.2) (.slice Ao15 t163.length co15)) (fun _ hk => hk.2) (.slice Ao16 t166.length co16)) (fun _ h_ => h_.1))) hb); have n2_ := Aside0.mk (Kd.R_below (by (with_reducible repeat (first | apply Kd.R_alloc | apply Kd.R_drewN | apply Kd.R_drew)); exact (Kd.R_mono (Kd.R_far (p := ⟨gb170, 3, none⟩) (Kd.R_far (p := ⟨gb170, 2, none⟩) (Kd.R_far (p := ⟨gb170, 1, none⟩) (Kd.R_far (p := ⟨gb170, 0, none⟩) (Kd.R_types HO165.out BK170.out (by decide)) (fun _ hk => hk.2) (.int .i64 t161)) (fun _ hk => hk.2) (.int .i64 t162)) (fun _ hk => hk.2) (.slice Ao15 t163.length co15)) (fun _ hk => hk.2) (.slice Ao16 t166.length co16)) (fun _ h_ => h_.1))) hb); have n3_ := Aside0.mk (Kd.R_below (by (with_reducible repeat (first | apply Kd.R_alloc | apply Kd.R_drewN | apply Kd.R_drew)); exact (Kd.R_mono (Kd.R_far (p := ⟨gb170, 3, none⟩) (Kd.R_far (p := ⟨gb170, 2, none⟩) (Kd.R_far (p := ⟨gb170, 1, none⟩) (Kd.R_far (p := ⟨gb170, 0, none⟩) (Kd.R_types HO168.out BK170.out (by decide)) (fun _ hk => hk.2) (.int .i64 t161)) (fun _ hk => hk.2) (.int .i64 t162)) (fun _ hk => hk.2) (.slice Ao15 t163.length co15)) (fun _ hk => hk.2) (.slice Ao16 t166.length co16)) (fun _ h_ => h_.1))) hb); have n4_ := Aside0.mk (blk_below (g := gb160) (o := .cells #[.int .i64 t151, .int .i64 t152, .slice Ao9 t153.length co9, .slice Ao10 t156.length co10] 34 (0, 0)) (by (with_reducible repeat (first | refine blk_drewN ?_ _ | refine blk_drew ?_ | refine blk_alloc ?_ _)); refine blk_far ?_ NB160_170.out _; (with_reducible repeat (first | refine blk_drewN ?_ _ | refine blk_drew ?_ | refine blk_alloc ?_ _)); refine blk_far ?_ NB160_170.out _; (with_reducible repeat (first | refine blk_drewN ?_ _ | refine blk_drew ?_ | refine blk_alloc ?_ _)); refine blk_far ?_ NB160_170.out _; (with_reducible repeat (first | refine blk_drewN ?_ _ | refine blk_drew ?_ | refine blk_alloc ?_ _)); refine blk_far ?_ NB160_170.out _; (with_reducible repeat (first | refine blk_drewN ?_ _ | refine blk_drew ?_ | refine blk_alloc ?_ _)); exact BK160.out) hb); have n5_ := Aside0.mk (blk_below (g := gb170) (o := .cells #[.int .i64 t161, .int .i64 t162, .slice Ao15 t163.length co15, .slice Ao16 t166.length co16] 34 (0, 0)) (by (with_reducible repeat (first | refine blk_drewN ?_ _ | refine blk_drew ?_ | refine blk_alloc ?_ _)); refine blk_put (cs := #[.int .i64 t161, .int .i64 t162, .slice Ao15 t163.length co15, .slice none 0 0]) ?_ 3 _ rfl; (with_reducible repeat (first | refine blk_drewN ?_ _ | refine blk_drew ?_ | refine blk_alloc ?_ _)); refine blk_put (cs := #[.int .i64 t161, .int .i64 t162, .slice none 0 0, .slice none 0 0]) ?_ 2 _ rfl; (with_reducible repeat (first | refine blk_drewN ?_ _ | refine blk_drew ?_ | refine blk_alloc ?_ _)); refine blk_put (cs := #[.int .i64 t161, .int .i64 0, .slice none 0 0, .slice none 0 0]) ?_ 1 _ rfl; (with_reducible repeat (first | refine blk_drewN ?_ _ | refine blk_drew ?_ | refine blk_alloc ?_ _)); refine blk_put (cs := #[.int .i64 0, .int .i64 0, .slice none 0 0, .slice none 0 0]) ?_ 0 _ rfl; (with_reducible repeat (first | refine blk_drewN ?_ _ | refine blk_drew ?_ | refine blk_alloc ?_ _)); exact BK170.out) hb); have n6_ := Aside0.mk (below_step (by repeat (first | (with_reducible first | exact HB.out | apply below_alloc | apply pw_below_drewN | apply below_drew1 | refine below_set ?_ GE160.out | refine below_set ?_ GE170.out) | exact HB.out)) hb); clear HO155; clear HO158; clear HO165; clear HO168; clear BK160; clear BK170; clear HB; have HO155 := n0_; have HO158 := n1_; have HO165 := n2_; have HO168 := n3_; have BK160 := n4_; have BK170 := n5_; have HB := n6_; clear n0_ n1_ n2_ n3_ n4_ n5_ n6_; (try clear hb); (try clear hb2); (try clear hk); (try clear hi)))
   go_meet
   case rel => exact ⟨_, ((t169 != t159)), (by first | rfl | (simp; done) | (simp [*]; done)), H', ⟨by first | omega | exact Nat.le_refl _⟩, ⟨by (with_reducible repeat (first | apply Kd.R_alloc | apply Kd.R_drewN | apply Kd.R_drew)); exact Kd.R_mono HO155.out (fun _ hk => ⟨hk.1.1, ⟨hk.1.2, hk.2⟩⟩)⟩, ⟨by (with_reducible repeat (first | apply Kd.R_alloc | apply Kd.R_drewN | apply Kd.R_drew)); exact Kd.R_mono HO158.out (fun _ hk => ⟨hk.1.1, ⟨hk.1.2, hk.2⟩⟩)⟩, ⟨by (with_reducible repeat (first | apply Kd.R_alloc | apply Kd.R_drewN | apply Kd.R_drew)); exact Kd.R_mono HO165.out (fun _ hk => ⟨hk.1.2, ⟨hk.2, hk.1.1⟩⟩)⟩, ⟨by (with_reducible repeat (first | apply Kd.R_alloc | apply Kd.R_drewN | apply Kd.R_drew)); exact Kd.R_mono HO168.out (fun _ hk => ⟨hk.1.2, ⟨hk.2, hk.1.1⟩⟩)⟩, ⟨by (with_reducible repeat (first | refine blk_drewN ?_ _ | refine blk_drew ?_ | refine blk_alloc ?_ _)); exact BK160.out⟩, ⟨by (with_reducible repeat (first | refine blk_drewN ?_ _ | refine blk_drew ?_ | refine blk_alloc ?_ _)); exact BK170.out⟩, ⟨by repeat (first | (with_reducible first | exact HB.out | apply below_alloc | apply pw_below_drewN | apply below_drew1 | refine below_set ?_ GE160.out | refine below_set ?_ GE170.out) | exact HB.out)⟩⟩
  ·replace c18 := Bool.eq_false_iff.mpr c18
   subst c18
   have H1 : (laws_FnExactEmptyFigure.j0 k a0 a1 t159 true t151 t152 t153 t156 t161 t162 t163 t166) = some r := by rw [if_neg (show ¬ (false = true) by decide)] at H; exact H
   clear H
   have H := H1
   clear H1
   exact absurd HR_.out (by cases k <;> simp [laws_FnExactEmptyFigure.j0] at H <;> first | simp [← H] | simp [H] | simp_all)
 case rest =>
  clear HC5
  try clear c1
  try clear c2
  try clear p2
  try clear c6
  try clear c13
  try clear c18
  try clear c19
  try clear hcz14_0
  try clear hcz14_1
  try clear hcz14_2
  try clear hcz14_3
  try clear hcz20_0
  try clear hcz20_1
  try clear hcz20_2
  try clear hcz20_3
  try clear hcz21_0
  try clear hcz21_1
  try clear hcz21_2
  try clear hcz21_3
  try clear hcz8_0
  try clear hcz8_1
  try clear hcz8_2
  try clear hcz8_3
  try clear hfz14_0
  try clear hfz14_1
  try clear hfz14_2
  try clear hfz14_3
  try clear hfz20_0
  try clear hfz20_1
  try clear hfz20_2
  try clear hfz20_3
  try clear hfz21_0
  try clear hfz21_1
  try clear hfz21_2
  try clear hfz21_3
  try clear hfz8_0
  try clear hfz8_1
  try clear hfz8_2
  try clear hfz8_3
  obtain ⟨kq, x33_4, rfl, HA, HJ4, HO_161002, HO_161003, HO_171002, HO_171003, BK160, BK170, HB⟩ := hcut
  cases kq with
  | zero => exact absurd HA.out (by simp [laws_FnExactEmptyFigure.j0])
  | succ kj4 =>
   have H := HA.out
   clear HA
   simp only [laws_FnExactEmptyFigure.j0] at H
   by_cases c23 : x33_4 = true
   ·subst c23
    have H1 : (some false) = some r := by rw [if_pos rfl] at H; exact H
    clear H
    have H := H1
    clear H1
    exact absurd ((Option.some.inj H).trans HR_.out) Bool.false_ne_true
   ·replace c23 := Bool.eq_false_iff.mpr c23
    subst c23
    have H1 : ((laws_markFigure.f kj4 t161 t162 t163 t166 101).bind fun bt172 => ((laws_heldFigure.f kj4 t161 t162 bt172.2.1 bt172.2.2 101).bind fun t175 => (if t175 < 0 then (some false) else (if t175 = bt172.1 then ((impl_EmptyFigure.f kj4 a0 a1).bind fun bt176 => ((laws_eqFigure.f kj4 bt176.1 bt176.2.1 bt176.2.2.1 bt176.2.2.2.1 t151 t152 t153 t156).bind fun t186 => (if t186 = true then (laws_FnExactEmptyFigure.j1 kj4 bt172.1 (bt176.2.2.2.2 != t159) t161 t162 bt172.2.1 bt172.2.2) else (laws_FnExactEmptyFigure.j1 kj4 bt172.1 true t161 t162 bt172.2.1 bt172.2.2)))) else (some false))))) = some r := by rw [if_neg (show ¬ (false = true) by decide)] at H; exact H
    clear H
    have H := H1
    clear H1
    replace H := Option.bind_eq_some_iff.mp H
    obtain ⟨⟨t172, t173, t174⟩, A240, H⟩ := H
    replace H : ((laws_heldFigure.f kj4 t161 t162 t173 t174 101).bind fun t175 => (if t175 < 0 then (some false) else (if t175 = t172 then ((impl_EmptyFigure.f kj4 a0 a1).bind fun bt176 => ((laws_eqFigure.f kj4 bt176.1 bt176.2.1 bt176.2.2.1 bt176.2.2.2.1 t151 t152 t153 t156).bind fun t186 => (if t186 = true then (laws_FnExactEmptyFigure.j1 kj4 t172 (bt176.2.2.2.2 != t159) t161 t162 t173 t174) else (laws_FnExactEmptyFigure.j1 kj4 t172 true t161 t162 t173 t174)))) else (some false)))) = some r := H
    have A24 := Aside0.mk A240
    clear A240
    replace H := Option.bind_eq_some_iff.mp H
    obtain ⟨t175, A250, H⟩ := H
    replace H : (if t175 < 0 then (some false) else (if t175 = t172 then ((impl_EmptyFigure.f kj4 a0 a1).bind fun bt176 => ((laws_eqFigure.f kj4 bt176.1 bt176.2.1 bt176.2.2.1 bt176.2.2.2.1 t151 t152 t153 t156).bind fun t186 => (if t186 = true then (laws_FnExactEmptyFigure.j1 kj4 t172 (bt176.2.2.2.2 != t159) t161 t162 t173 t174) else (laws_FnExactEmptyFigure.j1 kj4 t172 true t161 t162 t173 t174)))) else (some false))) = some r := H
    have A25 := Aside0.mk A250
    clear A250
    by_cases c26 : t175 < 0
    ·rw [if_pos c26] at H
     have c26b0 : decide (t175 < 0) = true := decide_eq_true c26
     clear c26
     exact absurd ((Option.some.inj H).trans HR_.out) Bool.false_ne_true
    ·rw [if_neg c26] at H
     have c26b0 : decide (t175 < 0) = false := decide_eq_false c26
     clear c26
     by_cases c27 : t175 = t172
     ·rw [if_pos c27] at H
      have c27b0 : (t175 == t172) = true := beq_iff_eq.mpr c27
      have c27b1 : (t175 != t172) = false := bne_eq_false_iff_eq.mpr c27
      clear c27
      replace H := Option.bind_eq_some_iff.mp H
      obtain ⟨⟨t176, t177, t178, t181, t184⟩, A280, H⟩ := H
      replace H : ((laws_eqFigure.f kj4 t176 t177 t178 t181 t151 t152 t153 t156).bind fun t186 => (if t186 = true then (laws_FnExactEmptyFigure.j1 kj4 t172 (t184 != t159) t161 t162 t173 t174) else (laws_FnExactEmptyFigure.j1 kj4 t172 true t161 t162 t173 t174))) = some r := H
      have A28 := Aside0.mk A280
      clear A280
      have HC29 := Aside0.mk H
      clear H
      have hnb30 := NB170_160.out
      have hnc30 := NB160_170.out
      have hcz31_0 : wc.cell? ⟨gb170, 0, none⟩ = some (.int .i64 t161) := (blk_cell BK170.out 0).trans rfl
      have hcz31_1 : wc.cell? ⟨gb170, 1, none⟩ = some (.int .i64 t162) := (blk_cell BK170.out 1).trans rfl
      have hcz31_2 : wc.cell? ⟨gb170, 2, none⟩ = some (.slice Ao15 t163.length co15) := (blk_cell BK170.out 2).trans rfl
      have hcz31_3 : wc.cell? ⟨gb170, 3, none⟩ = some (.slice Ao16 t166.length co16) := (blk_cell BK170.out 3).trans rfl
      have hfz31_0 := blk_frozen BK170.out 0
      have hfz31_1 := blk_frozen BK170.out 1
      have hfz31_2 := blk_frozen BK170.out 2
      have hfz31_3 := blk_frozen BK170.out 3
      go_upto_region 14 with (first | ((with_reducible refine gate_callee (f := 19) rfl ?_); refine goesL_ (some 36) rfl rfl Tryd.func19 (by kernel_rfl) rfl #[.agg #[.int .i64 t161, .int .i64 t162, .slice Ao15 t163.length co15, .slice Ao16 t166.length co16], .int .i64 101] rfl (by (try simp only [List.map_toArray, List.map_cons, List.map_nil]); first | done | rfl | (simp only [List.length_drop, List.length_take]; rfl)) ?_; (with_reducible refine (laws_markFigure.calls kj4 t161 t162 (fun k_ => some k_ = (.slice Ao15 t163.length co15 : Value).ownBlock) (.slice Ao15 t163.length co15) t163 (fun k_ => some k_ = (.slice Ao16 t166.length co16 : Value).ownBlock) (.slice Ao16 t166.length co16) t166 101 t172 t173 t174 w _ ?side1 ?side2 ?side3 ?side4 ?side5 A24.out).mono ?_); (case side1 => repeat (first | (with_reducible first | exact HB.out | apply below_alloc | apply pw_below_drewN | apply below_drew1 | refine below_set ?_ GE160.out | refine below_set ?_ GE170.out) | exact HB.out)); (case side2 => exact Kd.R_tight rfl HO_171002.out); (case side3 => exact fun k_ e_ => (HO_171002.out.1 k_ e_.symm).2.2); (case side4 => exact Kd.R_tight rfl HO_171003.out); (case side5 => exact fun k_ e_ => (HO_171003.out.1 k_ e_.symm).2.2); rintro e w32 ⟨rfl, hy0, hy1, hb, hkp⟩; refine ⟨_, rfl, ?_⟩; have n0_ := Aside0.mk (Kd.R_mono (ok' := fun k_ => some k_ ≠ (.slice Ao10 t156.length co10 : Value).ownBlock ∧ some k_ ≠ (.slice Ao15 t163.length co15 : Value).ownBlock ∧ some k_ ≠ (.slice Ao16 t166.length co16 : Value).ownBlock) (Kd.R_keptB (HO_161002.out) hkp (fun k_ hk_ hs_ => Or.elim hs_ (fun e_ => (hk_.2.1) e_) (fun e_ => (hk_.2.2) e_))) (fun k_ hk_ => ⟨hk_.1.1, hk_.1.2.1, hk_.1.2.2⟩)); have n1_ := Aside0.mk (Kd.R_mono (ok' := fun k_ => some k_ ≠ (.slice Ao9 t153.length co9 : Value).ownBlock ∧ some k_ ≠ (.slice Ao15 t163.length co15 : Value).ownBlock ∧ some k_ ≠ (.slice Ao16 t166.length co16 : Value).ownBlock) (Kd.R_keptB (HO_161003.out) hkp (fun k_ hk_ hs_ => Or.elim hs_ (fun e_ => (hk_.2.1) e_) (fun e_ => (hk_.2.2) e_))) (fun k_ hk_ => ⟨hk_.1.1, hk_.1.2.1, hk_.1.2.2⟩)); have n2_ := Aside0.mk (Kd.R_reok rfl hy0 (fun k_ e_ => HO_171002.out.1 k_ e_)); have n3_ := Aside0.mk (Kd.R_reok rfl hy1 (fun k_ e_ => HO_171003.out.1 k_ e_)); have n4_ := Aside0.mk (blk_kept (by (with_reducible repeat (first | refine blk_drewN ?_ _ | refine blk_drew ?_ | refine blk_alloc ?_ _)); exact BK160.out) hkp (fun hs_ => Or.elim hs_ (fun e_ => (fun e_ => (Kd.R_ne HO_171002.out BK160.out (by decide)) e_) e_) (fun e_ => (fun e_ => (Kd.R_ne HO_171003.out BK160.out (by decide)) e_) e_))); have n5_ := Aside0.mk (blk_kept (by (with_reducible repeat (first | refine blk_drewN ?_ _ | refine blk_drew ?_ | refine blk_alloc ?_ _)); exact BK170.out) hkp (fun hs_ => Or.elim hs_ (fun e_ => (fun e_ => (Kd.R_ne HO_171002.out BK170.out (by decide)) e_) e_) (fun e_ => (fun e_ => (Kd.R_ne HO_171003.out BK170.out (by decide)) e_) e_))); have n6_ := Aside0.mk (hb); clear HO_161002; clear HO_161003; clear HO_171002; clear HO_171003; clear BK160; clear BK170; clear HB; have HO_161002 := n0_; have HO_161003 := n1_; have HO_171002 := n2_; have HO_171003 := n3_; have BK160 := n4_; have BK170 := n5_; have HB := n6_; clear n0_ n1_ n2_ n3_ n4_ n5_ n6_; (try clear hb); (try clear hkp); (try clear hy0); (try clear hy1); have hcz33_0 : w32.cell? ⟨gb170, 0, none⟩ = some (.int .i64 t161) := (blk_cell BK170.out 0).trans rfl; have hcz33_1 : w32.cell? ⟨gb170, 1, none⟩ = some (.int .i64 t162) := (blk_cell BK170.out 1).trans rfl; have hcz33_2 : w32.cell? ⟨gb170, 2, none⟩ = some (.slice Ao15 t163.length co15) := (blk_cell BK170.out 2).trans rfl; have hcz33_3 : w32.cell? ⟨gb170, 3, none⟩ = some (.slice Ao16 t166.length co16) := (blk_cell BK170.out 3).trans rfl; have hfz33_0 := blk_frozen BK170.out 0; have hfz33_1 := blk_frozen BK170.out 1; have hfz33_2 := blk_frozen BK170.out 2; have hfz33_3 := blk_frozen BK170.out 3) | ((with_reducible refine gate_callee (f := 20) rfl ?_); refine goesL_ (some 39) rfl rfl Tryd.func20 (by kernel_rfl) rfl #[.agg #[.int .i64 t161, .int .i64 t162, .slice Ao15 t173.length co15, .slice Ao16 t174.length co16], .int .i64 101] rfl (by (try simp only [List.map_toArray, List.map_cons, List.map_nil]); first | done | (rw [show t173.length = t163.length from (Kd.R_reads' HO_171002.out).1.symm, show t174.length = t166.length from (Kd.R_reads' HO_171003.out).1.symm] <;> rfl) | rfl | (simp only [List.length_drop, List.length_take]; rfl)) ?_; (with_reducible refine (laws_heldFigure.calls kj4 t161 t162 _ _ t173 _ _ t174 101 t175 _ ?side1 ?side2 ?side3 ?side4 A25.out).mono ?_); (case side1 => repeat (first | exact (Kd.R_reads' HO_171002.out).2.2 | (with_reducible refine Kd.C_alloc ?_ _) | (with_reducible refine Kd.C_drewN ?_ _) | (with_reducible refine Kd.C_drew ?_))); (case side2 => rw [show t173.length = t163.length from (Kd.R_reads' HO_171002.out).1.symm]; exact (Kd.R_reads' HO_171002.out).2.1); (case side3 => repeat (first | exact (Kd.R_reads' HO_171003.out).2.2 | (with_reducible refine Kd.C_alloc ?_ _) | (with_reducible refine Kd.C_drewN ?_ _) | (with_reducible refine Kd.C_drew ?_))); (case side4 => rw [show t174.length = t166.length from (Kd.R_reads' HO_171003.out).1.symm]; exact (Kd.R_reads' HO_171003.out).2.1); rintro e w34 ⟨rfl, hb⟩; refine ⟨_, rfl, ?_⟩; have n0_ := Aside0.mk (Kd.R_below (by (with_reducible repeat (first | apply Kd.R_alloc | apply Kd.R_drewN | apply Kd.R_drew)); exact HO_161002.out) hb); have n1_ := Aside0.mk (Kd.R_below (by (with_reducible repeat (first | apply Kd.R_alloc | apply Kd.R_drewN | apply Kd.R_drew)); exact HO_161003.out) hb); have n2_ := Aside0.mk (Kd.R_below (by (with_reducible repeat (first | apply Kd.R_alloc | apply Kd.R_drewN | apply Kd.R_drew)); exact HO_171002.out) hb); have n3_ := Aside0.mk (Kd.R_below (by (with_reducible repeat (first | apply Kd.R_alloc | apply Kd.R_drewN | apply Kd.R_drew)); exact HO_171003.out) hb); have n4_ := Aside0.mk (blk_below (g := gb160) (o := .cells #[.int .i64 t151, .int .i64 t152, .slice Ao9 t153.length co9, .slice Ao10 t156.length co10] 34 (0, 0)) (by (with_reducible repeat (first | refine blk_drewN ?_ _ | refine blk_drew ?_ | refine blk_alloc ?_ _)); exact BK160.out) hb); have n5_ := Aside0.mk (blk_below (g := gb170) (o := .cells #[.int .i64 t161, .int .i64 t162, .slice Ao15 t163.length co15, .slice Ao16 t166.length co16] 34 (0, 0)) (by (with_reducible repeat (first | refine blk_drewN ?_ _ | refine blk_drew ?_ | refine blk_alloc ?_ _)); exact BK170.out) hb); have n6_ := Aside0.mk (below_step (by repeat (first | (with_reducible first | exact HB.out | apply below_alloc | apply pw_below_drewN | apply below_drew1 | refine below_set ?_ GE160.out | refine below_set ?_ GE170.out) | exact HB.out)) hb); clear HO_161002; clear HO_161003; clear HO_171002; clear HO_171003; clear BK160; clear BK170; clear HB; have HO_161002 := n0_; have HO_161003 := n1_; have HO_171002 := n2_; have HO_171003 := n3_; have BK160 := n4_; have BK170 := n5_; have HB := n6_; clear n0_ n1_ n2_ n3_ n4_ n5_ n6_; (try clear hb); (try clear hb2); (try clear hk); (try clear hi)) | ((with_reducible refine gate_callee (f := 24) rfl ?_); refine goesL_ (some 48) rfl rfl Tryd.func24 (by kernel_rfl) rfl #[.int .i64 a0, .int .i64 a1] rfl (by (try simp only [List.map_toArray, List.map_cons, List.map_nil]); first | done | rfl | (simp only [List.length_drop, List.length_take]; rfl)) ?_; (with_reducible refine (impl_EmptyFigure.calls kj4 a0 a1 t176 t177 t178 t181 t184 _ ?side1 A28.out).mono ?_); (case side1 => first | exact LaidG_below HG.out (by repeat (first | (with_reducible first | exact HB.out | apply below_alloc | apply pw_below_drewN | apply below_drew1 | refine below_set ?_ GE160.out | refine below_set ?_ GE170.out) | exact HB.out)) | (repeat (first | exact HG.out | (with_reducible refine LaidG_alloc ?_ _) | (with_reducible refine LaidG_drewN ?_ _) | (with_reducible refine LaidG_drew ?_)))); rintro e w35 ⟨v179, v182, rfl, ho0, ho1, hb⟩; refine ⟨_, rfl, ?_⟩; have n0_ := Aside0.mk (Kd.R_mono (Kd.R_told (Kd.R_told (Kd.R_old (by (with_reducible repeat (first | apply Kd.R_alloc | apply Kd.R_drewN | apply Kd.R_drew)); exact HO_161002.out) hb) (Kd.R_base ho0)) (Kd.R_base ho1)) (fun _ h_ => h_.1)); have n1_ := Aside0.mk (Kd.R_mono (Kd.R_told (Kd.R_told (Kd.R_old (by (with_reducible repeat (first | apply Kd.R_alloc | apply Kd.R_drewN | apply Kd.R_drew)); exact HO_161003.out) hb) (Kd.R_base ho0)) (Kd.R_base ho1)) (fun _ h_ => h_.1)); have n2_ := Aside0.mk (Kd.R_mono (Kd.R_told (Kd.R_told (Kd.R_old (by (with_reducible repeat (first | apply Kd.R_alloc | apply Kd.R_drewN | apply Kd.R_drew)); exact HO_171002.out) hb) (Kd.R_base ho0)) (Kd.R_base ho1)) (fun _ h_ => h_.1)); have n3_ := Aside0.mk (Kd.R_mono (Kd.R_told (Kd.R_told (Kd.R_old (by (with_reducible repeat (first | apply Kd.R_alloc | apply Kd.R_drewN | apply Kd.R_drew)); exact HO_171003.out) hb) (Kd.R_base ho0)) (Kd.R_base ho1)) (fun _ h_ => h_.1)); have n4_ := Aside0.mk (Kd.R_lower (Kd.R_new' (Kd.R_new' (Kd.R_new' (Kd.R_new' ho0 (Kd.R_lt (by (with_reducible repeat (first | apply Kd.R_alloc | apply Kd.R_drewN | apply Kd.R_drew)); exact HO_161002.out))) (Kd.R_lt (by (with_reducible repeat (first | apply Kd.R_alloc | apply Kd.R_drewN | apply Kd.R_drew)); exact HO_161003.out))) (Kd.R_lt (by (with_reducible repeat (first | apply Kd.R_alloc | apply Kd.R_drewN | apply Kd.R_drew)); exact HO_171002.out))) (Kd.R_lt (by (with_reducible repeat (first | apply Kd.R_alloc | apply Kd.R_drewN | apply Kd.R_drew)); exact HO_171003.out))) (below_size (by repeat (first | (with_reducible first | exact HB.out | apply below_alloc | apply pw_below_drewN | apply below_drew1 | refine below_set ?_ GE160.out | refine below_set ?_ GE170.out) | exact HB.out)))); have n5_ := Aside0.mk (Kd.R_lower (Kd.R_new' (Kd.R_new' (Kd.R_new' (Kd.R_new' ho1 (Kd.R_lt (by (with_reducible repeat (first | apply Kd.R_alloc | apply Kd.R_drewN | apply Kd.R_drew)); exact HO_161002.out))) (Kd.R_lt (by (with_reducible repeat (first | apply Kd.R_alloc | apply Kd.R_drewN | apply Kd.R_drew)); exact HO_161003.out))) (Kd.R_lt (by (with_reducible repeat (first | apply Kd.R_alloc | apply Kd.R_drewN | apply Kd.R_drew)); exact HO_171002.out))) (Kd.R_lt (by (with_reducible repeat (first | apply Kd.R_alloc | apply Kd.R_drewN | apply Kd.R_drew)); exact HO_171003.out))) (below_size (by repeat (first | (with_reducible first | exact HB.out | apply below_alloc | apply pw_below_drewN | apply below_drew1 | refine below_set ?_ GE160.out | refine below_set ?_ GE170.out) | exact HB.out)))); have n6_ := Aside0.mk (blk_below (g := gb160) (o := .cells #[.int .i64 t151, .int .i64 t152, .slice Ao9 t153.length co9, .slice Ao10 t156.length co10] 34 (0, 0)) (by (with_reducible repeat (first | refine blk_drewN ?_ _ | refine blk_drew ?_ | refine blk_alloc ?_ _)); exact BK160.out) hb); have n7_ := Aside0.mk (blk_below (g := gb170) (o := .cells #[.int .i64 t161, .int .i64 t162, .slice Ao15 t163.length co15, .slice Ao16 t166.length co16] 34 (0, 0)) (by (with_reducible repeat (first | refine blk_drewN ?_ _ | refine blk_drew ?_ | refine blk_alloc ?_ _)); exact BK170.out) hb); have n8_ := Aside0.mk (below_step (by repeat (first | (with_reducible first | exact HB.out | apply below_alloc | apply pw_below_drewN | apply below_drew1 | refine below_set ?_ GE160.out | refine below_set ?_ GE170.out) | exact HB.out)) hb); clear HO_161002; clear HO_161003; clear HO_171002; clear HO_171003; clear BK160; clear BK170; clear HB; have HO_161002 := n0_; have HO_161003 := n1_; have HO_171002 := n2_; have HO_171003 := n3_; have HO180 := n4_; have HO183 := n5_; have BK160 := n6_; have BK170 := n7_; have HB := n8_; clear n0_ n1_ n2_ n3_ n4_ n5_ n6_ n7_ n8_; (try clear hb); (try clear hb2); (try clear hk); (try clear hi); (try clear ho0); (try clear ho1)) | ((with_reducible refine gate_dst (N := 11) rfl ?_); refine box_event ?hg (N := 11) ?hd (cs := #[.int .i64 0, .int .i64 0, .slice none 0 0, .slice none 0 0]) (t := 34) ?hr ?_; (case hd => rfl); (case hg => rfl); (case hr => first | (go_simp; done) | (go_simp; rfl)); intro gb185 hg w36 hbox hb; have n0_ := Aside0.mk (Kd.R_below (by (with_reducible repeat (first | apply Kd.R_alloc | apply Kd.R_drewN | apply Kd.R_drew)); exact HO_161002.out) hb); have n1_ := Aside0.mk (Kd.R_below (by (with_reducible repeat (first | apply Kd.R_alloc | apply Kd.R_drewN | apply Kd.R_drew)); exact HO_161003.out) hb); have n2_ := Aside0.mk (Kd.R_below (by (with_reducible repeat (first | apply Kd.R_alloc | apply Kd.R_drewN | apply Kd.R_drew)); exact HO_171002.out) hb); have n3_ := Aside0.mk (Kd.R_below (by (with_reducible repeat (first | apply Kd.R_alloc | apply Kd.R_drewN | apply Kd.R_drew)); exact HO_171003.out) hb); have n4_ := Aside0.mk (Kd.R_below (by (with_reducible repeat (first | apply Kd.R_alloc | apply Kd.R_drewN | apply Kd.R_drew)); exact HO180.out) hb); have n5_ := Aside0.mk (Kd.R_below (by (with_reducible repeat (first | apply Kd.R_alloc | apply Kd.R_drewN | apply Kd.R_drew)); exact HO183.out) hb); have n6_ := Aside0.mk (blk_below (g := gb160) (o := .cells #[.int .i64 t151, .int .i64 t152, .slice Ao9 t153.length co9, .slice Ao10 t156.length co10] 34 (0, 0)) (by (with_reducible repeat (first | refine blk_drewN ?_ _ | refine blk_drew ?_ | refine blk_alloc ?_ _)); exact BK160.out) hb); have n7_ := Aside0.mk (blk_below (g := gb170) (o := .cells #[.int .i64 t161, .int .i64 t162, .slice Ao15 t163.length co15, .slice Ao16 t166.length co16] 34 (0, 0)) (by (with_reducible repeat (first | refine blk_drewN ?_ _ | refine blk_drew ?_ | refine blk_alloc ?_ _)); exact BK170.out) hb); have n8_ := Aside0.mk (below_step (by repeat (first | (with_reducible first | exact HB.out | apply below_alloc | apply pw_below_drewN | apply below_drew1 | refine below_set ?_ GE160.out | refine below_set ?_ GE170.out) | exact HB.out)) hb); have n9_ := Aside0.mk (hbox); have n10_ := Aside0.mk ((by rw [hg]; exact (below_size (by repeat (first | (with_reducible first | exact HB.out | apply below_alloc | apply pw_below_drewN | apply below_drew1 | refine below_set ?_ GE160.out | refine below_set ?_ GE170.out) | exact HB.out))) : w.heap.size ≤ gb185)); have n11_ := Aside0.mk ((by rw [hg]; exact (below_size (by repeat (first | (with_reducible first | exact HB.out | apply below_alloc | apply pw_below_drewN | apply below_drew1 | refine below_set ?_ GE160.out | refine below_set ?_ GE170.out) | exact HB.out))) : w.heap.size ≤ gb185)); have n12_ := Aside0.mk ((by rw [hg]; exact Nat.ne_of_lt (blk_lt (g := gb160) (o := .cells #[.int .i64 t151, .int .i64 t152, .slice Ao9 t153.length co9, .slice Ao10 t156.length co10] 34 (0, 0)) (by (with_reducible repeat (first | refine blk_drewN ?_ _ | refine blk_drew ?_ | refine blk_alloc ?_ _)); exact BK160.out)) : gb160 ≠ gb185)); have n13_ := Aside0.mk ((by rw [hg]; exact Nat.ne_of_gt (blk_lt (g := gb160) (o := .cells #[.int .i64 t151, .int .i64 t152, .slice Ao9 t153.length co9, .slice Ao10 t156.length co10] 34 (0, 0)) (by (with_reducible repeat (first | refine blk_drewN ?_ _ | refine blk_drew ?_ | refine blk_alloc ?_ _)); exact BK160.out)) : gb185 ≠ gb160)); have n14_ := Aside0.mk ((by rw [hg]; exact Nat.ne_of_lt (blk_lt (g := gb170) (o := .cells #[.int .i64 t161, .int .i64 t162, .slice Ao15 t163.length co15, .slice Ao16 t166.length co16] 34 (0, 0)) (by (with_reducible repeat (first | refine blk_drewN ?_ _ | refine blk_drew ?_ | refine blk_alloc ?_ _)); exact BK170.out)) : gb170 ≠ gb185)); have n15_ := Aside0.mk ((by rw [hg]; exact Nat.ne_of_gt (blk_lt (g := gb170) (o := .cells #[.int .i64 t161, .int .i64 t162, .slice Ao15 t163.length co15, .slice Ao16 t166.length co16] 34 (0, 0)) (by (with_reducible repeat (first | refine blk_drewN ?_ _ | refine blk_drew ?_ | refine blk_alloc ?_ _)); exact BK170.out)) : gb185 ≠ gb170)); clear HO_161002; clear HO_161003; clear HO_171002; clear HO_171003; clear HO180; clear HO183; clear BK160; clear BK170; clear HB; have HO_161002 := n0_; have HO_161003 := n1_; have HO_171002 := n2_; have HO_171003 := n3_; have HO180 := n4_; have HO183 := n5_; have BK160 := n6_; have BK170 := n7_; have HB := n8_; have BK185 := n9_; have GW185 := n10_; have GE185 := n11_; have NB160_185 := n12_; have NB185_160 := n13_; have NB170_185 := n14_; have NB185_170 := n15_; clear n0_ n1_ n2_ n3_ n4_ n5_ n6_ n7_ n8_ n9_ n10_ n11_ n12_ n13_ n14_ n15_; clear hb hbox hg; have hnb37 := NB185_160.out; have hnc37 := NB160_185.out; have hnb38 := NB185_170.out; have hnc38 := NB170_185.out; have hcz39_0 : w36.cell? ⟨gb185, 0, none⟩ = some (.int .i64 0) := (blk_cell BK185.out 0).trans rfl; have hcz39_1 : w36.cell? ⟨gb185, 1, none⟩ = some (.int .i64 0) := (blk_cell BK185.out 1).trans rfl; have hcz39_2 : w36.cell? ⟨gb185, 2, none⟩ = some (.slice none 0 0) := (blk_cell BK185.out 2).trans rfl; have hcz39_3 : w36.cell? ⟨gb185, 3, none⟩ = some (.slice none 0 0) := (blk_cell BK185.out 3).trans rfl; have hfz39_0 := blk_frozen BK185.out 0; have hfz39_1 := blk_frozen BK185.out 1; have hfz39_2 := blk_frozen BK185.out 2; have hfz39_3 := blk_frozen BK185.out 3; obtain ⟨Ao40, co40, eo40⟩ := Kd.R_slice HO180.out; subst eo40; obtain ⟨Ao41, co41, eo41⟩ := Kd.R_slice HO183.out; subst eo41))
      (try simp only [Act.put, List.setIfInBounds_toArray, List.set_cons_zero, List.set_cons_succ])
      go_cut [59] (fun v59 wc => ∃ (kq : Nat) (x59_28 : Bool), v59 = .bool x59_28 ∧ Aside0 (laws_FnExactEmptyFigure.j1 kq t172 x59_28 t161 t162 t173 t174 = some r) ∧ Aside0 (kq ≤ kj4) ∧ Aside0 (Kd.R (Kd.int .i64) 3 wc w.heap.size (fun k_ => some k_ ≠ ((.slice Ao10 t156.length co10) : Value).ownBlock ∧ some k_ ≠ ((.slice Ao15 t163.length co15) : Value).ownBlock ∧ some k_ ≠ ((.slice Ao16 t166.length co16) : Value).ownBlock ∧ some k_ ≠ ((.slice Ao40 t178.length co40) : Value).ownBlock ∧ some k_ ≠ ((.slice Ao41 t181.length co41) : Value).ownBlock) (.slice Ao9 t153.length co9) t153) ∧ Aside0 (Kd.R (Kd.int .i64) 3 wc w.heap.size (fun k_ => some k_ ≠ ((.slice Ao9 t153.length co9) : Value).ownBlock ∧ some k_ ≠ ((.slice Ao15 t163.length co15) : Value).ownBlock ∧ some k_ ≠ ((.slice Ao16 t166.length co16) : Value).ownBlock ∧ some k_ ≠ ((.slice Ao40 t178.length co40) : Value).ownBlock ∧ some k_ ≠ ((.slice Ao41 t181.length co41) : Value).ownBlock) (.slice Ao10 t156.length co10) t156) ∧ Aside0 (Kd.R (Kd.int .i64) 3 wc w.heap.size (fun k_ => some k_ ≠ ((.slice Ao9 t153.length co9) : Value).ownBlock ∧ some k_ ≠ ((.slice Ao10 t156.length co10) : Value).ownBlock ∧ some k_ ≠ ((.slice Ao16 t166.length co16) : Value).ownBlock ∧ some k_ ≠ ((.slice Ao40 t178.length co40) : Value).ownBlock ∧ some k_ ≠ ((.slice Ao41 t181.length co41) : Value).ownBlock) (.slice Ao15 t163.length co15) t173) ∧ Aside0 (Kd.R (Kd.int .i64) 3 wc w.heap.size (fun k_ => some k_ ≠ ((.slice Ao9 t153.length co9) : Value).ownBlock ∧ some k_ ≠ ((.slice Ao10 t156.length co10) : Value).ownBlock ∧ some k_ ≠ ((.slice Ao15 t163.length co15) : Value).ownBlock ∧ some k_ ≠ ((.slice Ao40 t178.length co40) : Value).ownBlock ∧ some k_ ≠ ((.slice Ao41 t181.length co41) : Value).ownBlock) (.slice Ao16 t166.length co16) t174) ∧ Aside0 (Kd.R (Kd.int .i64) 3 wc w.heap.size (fun k_ => some k_ ≠ ((.slice Ao9 t153.length co9) : Value).ownBlock ∧ some k_ ≠ ((.slice Ao10 t156.length co10) : Value).ownBlock ∧ some k_ ≠ ((.slice Ao15 t163.length co15) : Value).ownBlock ∧ some k_ ≠ ((.slice Ao16 t166.length co16) : Value).ownBlock ∧ some k_ ≠ ((.slice Ao41 t181.length co41) : Value).ownBlock) (.slice Ao40 t178.length co40) t178) ∧ Aside0 (Kd.R (Kd.int .i64) 3 wc w.heap.size (fun k_ => some k_ ≠ ((.slice Ao9 t153.length co9) : Value).ownBlock ∧ some k_ ≠ ((.slice Ao10 t156.length co10) : Value).ownBlock ∧ some k_ ≠ ((.slice Ao15 t163.length co15) : Value).ownBlock ∧ some k_ ≠ ((.slice Ao16 t166.length co16) : Value).ownBlock ∧ some k_ ≠ ((.slice Ao40 t178.length co40) : Value).ownBlock) (.slice Ao41 t181.length co41) t181) ∧ Aside0 (wc.heap[gb160]? = some (.cells #[.int .i64 t151, .int .i64 t152, (.slice Ao9 t153.length co9), (.slice Ao10 t156.length co10)] 34 (0, 0))) ∧ Aside0 (wc.heap[gb170]? = some (.cells #[.int .i64 t161, .int .i64 t162, (.slice Ao15 t163.length co15), (.slice Ao16 t166.length co16)] 34 (0, 0))) ∧ Aside0 (wc.heap[gb185]? = some (.cells #[.int .i64 t176, .int .i64 t177, (.slice Ao40 t178.length co40), (.slice Ao41 t181.length co41)] 34 (0, 0))) ∧ Aside0 (Below w.heap.size w wc))
      case first =>
       have H := HC29.out
       clear HC29
       replace H := Option.bind_eq_some_iff.mp H
       obtain ⟨t186, A420, H⟩ := H
       replace H : (if t186 = true then (laws_FnExactEmptyFigure.j1 kj4 t172 (t184 != t159) t161 t162 t173 t174) else (laws_FnExactEmptyFigure.j1 kj4 t172 true t161 t162 t173 t174)) = some r := H
       have A42 := Aside0.mk A420
       clear A420
       by_cases c43 : t186 = true
       ·subst c43
        have H1 : (laws_FnExactEmptyFigure.j1 kj4 t172 (t184 != t159) t161 t162 t173 t174) = some r := by rw [if_pos rfl] at H; exact H
        clear H
        have H := H1
        clear H1
        have H' := Aside0.mk H
        clear H
        have hnb44 := NB185_160.out
        have hnc44 := NB160_185.out
        have hnb45 := NB185_170.out
        have hnc45 := NB170_185.out
        have hcz46_0 : w36.cell? ⟨gb185, 0, none⟩ = some (.int .i64 0) := (blk_cell BK185.out 0).trans rfl
        have hcz46_1 : w36.cell? ⟨gb185, 1, none⟩ = some (.int .i64 0) := (blk_cell BK185.out 1).trans rfl
        have hcz46_2 : w36.cell? ⟨gb185, 2, none⟩ = some (.slice none 0 0) := (blk_cell BK185.out 2).trans rfl
        have hcz46_3 : w36.cell? ⟨gb185, 3, none⟩ = some (.slice none 0 0) := (blk_cell BK185.out 3).trans rfl
        have hfz46_0 := blk_frozen BK185.out 0
        have hfz46_1 := blk_frozen BK185.out 1
        have hfz46_2 := blk_frozen BK185.out 2
        have hfz46_3 := blk_frozen BK185.out 3
        have hnb47 := NB160_170.out
        have hnc47 := NB170_160.out
        have hcz48_0 : w36.cell? ⟨gb160, 0, none⟩ = some (.int .i64 t151) := (blk_cell BK160.out 0).trans rfl
        have hcz48_1 : w36.cell? ⟨gb160, 1, none⟩ = some (.int .i64 t152) := (blk_cell BK160.out 1).trans rfl
        have hcz48_2 : w36.cell? ⟨gb160, 2, none⟩ = some (.slice Ao9 t153.length co9) := (blk_cell BK160.out 2).trans rfl
        have hcz48_3 : w36.cell? ⟨gb160, 3, none⟩ = some (.slice Ao10 t156.length co10) := (blk_cell BK160.out 3).trans rfl
        have hfz48_0 := blk_frozen BK160.out 0
        have hfz48_1 := blk_frozen BK160.out 1
        have hfz48_2 := blk_frozen BK160.out 2
        have hfz48_3 := blk_frozen BK160.out 3
        go_wp2_with (first | ((with_reducible refine gate_callee (f := 18) rfl ?_); refine goesL_ (some 53) rfl rfl Tryd.func18 (by kernel_rfl) rfl #[.agg #[.int .i64 t176, .int .i64 t177, .slice Ao40 t178.length co40, .slice Ao41 t181.length co41], .agg #[.int .i64 t151, .int .i64 t152, .slice Ao9 t153.length co9, .slice Ao10 t156.length co10]] rfl (by (try simp only [List.map_toArray, List.map_cons, List.map_nil]); first | done | rfl | (simp only [List.length_drop, List.length_take]; rfl)) ?_; (with_reducible refine (laws_eqFigure.calls kj4 t176 t177 _ _ t178 _ _ t181 t151 t152 _ _ t153 _ _ t156 true _ ?side1 ?side2 ?side3 ?side4 ?side5 ?side6 ?side7 ?side8 A42.out).mono ?_); (case side1 => refine (Kd.R_reads' (e := 3) (base := w.heap.size) (ok := fun k_ => ((((some k_ ≠ (.slice Ao41 t181.length co41 : Value).ownBlock ∧ some k_ ≠ (.slice Ao9 t153.length co9 : Value).ownBlock) ∧ some k_ ≠ (.slice Ao10 t156.length co10 : Value).ownBlock) ∧ some k_ ≠ (.slice Ao15 t163.length co15 : Value).ownBlock) ∧ some k_ ≠ (.slice Ao16 t166.length co16 : Value).ownBlock)) (n := t178.length) (c := co40) ?_).2.2; exact (by (with_reducible repeat (first | apply Kd.R_alloc | apply Kd.R_drewN | apply Kd.R_drew)); exact (Kd.R_mono (Kd.R_far (p := ⟨gb185, 3, none⟩) (Kd.R_far (p := ⟨gb185, 2, none⟩) (Kd.R_far (p := ⟨gb185, 1, none⟩) (Kd.R_far (p := ⟨gb185, 0, none⟩) (Kd.R_types HO180.out BK185.out (by decide)) (fun _ hk => hk.2) (.int .i64 t176)) (fun _ hk => hk.2) (.int .i64 t177)) (fun _ hk => hk.2) (.slice Ao40 t178.length co40)) (fun _ hk => hk.2) (.slice Ao41 t181.length co41)) (fun _ h_ => h_.1)))); (case side2 => exact (Kd.R_reads' HO180.out).2.1); (case side3 => refine (Kd.R_reads' (e := 3) (base := w.heap.size) (ok := fun k_ => ((((some k_ ≠ (.slice Ao40 t178.length co40 : Value).ownBlock ∧ some k_ ≠ (.slice Ao9 t153.length co9 : Value).ownBlock) ∧ some k_ ≠ (.slice Ao10 t156.length co10 : Value).ownBlock) ∧ some k_ ≠ (.slice Ao15 t163.length co15 : Value).ownBlock) ∧ some k_ ≠ (.slice Ao16 t166.length co16 : Value).ownBlock)) (n := t181.length) (c := co41) ?_).2.2; exact (by (with_reducible repeat (first | apply Kd.R_alloc | apply Kd.R_drewN | apply Kd.R_drew)); exact (Kd.R_mono (Kd.R_far (p := ⟨gb185, 3, none⟩) (Kd.R_far (p := ⟨gb185, 2, none⟩) (Kd.R_far (p := ⟨gb185, 1, none⟩) (Kd.R_far (p := ⟨gb185, 0, none⟩) (Kd.R_types HO183.out BK185.out (by decide)) (fun _ hk => hk.2) (.int .i64 t176)) (fun _ hk => hk.2) (.int .i64 t177)) (fun _ hk => hk.2) (.slice Ao40 t178.length co40)) (fun _ hk => hk.2) (.slice Ao41 t181.length co41)) (fun _ h_ => h_.1)))); (case side4 => exact (Kd.R_reads' HO183.out).2.1); (case side5 => refine (Kd.R_reads' (e := 3) (base := w.heap.size) (ok := fun k_ => (((some k_ ≠ (.slice Ao10 t156.length co10 : Value).ownBlock ∧ (some k_ ≠ (.slice Ao15 t163.length co15 : Value).ownBlock ∧ some k_ ≠ (.slice Ao16 t166.length co16 : Value).ownBlock)) ∧ some k_ ≠ (.slice Ao40 t178.length co40 : Value).ownBlock) ∧ some k_ ≠ (.slice Ao41 t181.length co41 : Value).ownBlock)) (n := t153.length) (c := co9) ?_).2.2; exact (by (with_reducible repeat (first | apply Kd.R_alloc | apply Kd.R_drewN | apply Kd.R_drew)); exact (Kd.R_mono (Kd.R_far (p := ⟨gb185, 3, none⟩) (Kd.R_far (p := ⟨gb185, 2, none⟩) (Kd.R_far (p := ⟨gb185, 1, none⟩) (Kd.R_far (p := ⟨gb185, 0, none⟩) (Kd.R_types HO_161002.out BK185.out (by decide)) (fun _ hk => hk.2) (.int .i64 t176)) (fun _ hk => hk.2) (.int .i64 t177)) (fun _ hk => hk.2) (.slice Ao40 t178.length co40)) (fun _ hk => hk.2) (.slice Ao41 t181.length co41)) (fun _ h_ => h_.1)))); (case side6 => exact (Kd.R_reads' HO_161002.out).2.1); (case side7 => refine (Kd.R_reads' (e := 3) (base := w.heap.size) (ok := fun k_ => (((some k_ ≠ (.slice Ao9 t153.length co9 : Value).ownBlock ∧ (some k_ ≠ (.slice Ao15 t163.length co15 : Value).ownBlock ∧ some k_ ≠ (.slice Ao16 t166.length co16 : Value).ownBlock)) ∧ some k_ ≠ (.slice Ao40 t178.length co40 : Value).ownBlock) ∧ some k_ ≠ (.slice Ao41 t181.length co41 : Value).ownBlock)) (n := t156.length) (c := co10) ?_).2.2; exact (by (with_reducible repeat (first | apply Kd.R_alloc | apply Kd.R_drewN | apply Kd.R_drew)); exact (Kd.R_mono (Kd.R_far (p := ⟨gb185, 3, none⟩) (Kd.R_far (p := ⟨gb185, 2, none⟩) (Kd.R_far (p := ⟨gb185, 1, none⟩) (Kd.R_far (p := ⟨gb185, 0, none⟩) (Kd.R_types HO_161003.out BK185.out (by decide)) (fun _ hk => hk.2) (.int .i64 t176)) (fun _ hk => hk.2) (.int .i64 t177)) (fun _ hk => hk.2) (.slice Ao40 t178.length co40)) (fun _ hk => hk.2) (.slice Ao41 t181.length co41)) (fun _ h_ => h_.1)))); (case side8 => exact (Kd.R_reads' HO_161003.out).2.1); rintro e w49 ⟨rfl, hb⟩; refine ⟨_, rfl, ?_⟩; have n0_ := Aside0.mk (Kd.R_below (by (with_reducible repeat (first | apply Kd.R_alloc | apply Kd.R_drewN | apply Kd.R_drew)); exact (Kd.R_mono (Kd.R_far (p := ⟨gb185, 3, none⟩) (Kd.R_far (p := ⟨gb185, 2, none⟩) (Kd.R_far (p := ⟨gb185, 1, none⟩) (Kd.R_far (p := ⟨gb185, 0, none⟩) (Kd.R_types HO_161002.out BK185.out (by decide)) (fun _ hk => hk.2) (.int .i64 t176)) (fun _ hk => hk.2) (.int .i64 t177)) (fun _ hk => hk.2) (.slice Ao40 t178.length co40)) (fun _ hk => hk.2) (.slice Ao41 t181.length co41)) (fun _ h_ => h_.1))) hb); have n1_ := Aside0.mk (Kd.R_below (by (with_reducible repeat (first | apply Kd.R_alloc | apply Kd.R_drewN | apply Kd.R_drew)); exact (Kd.R_mono (Kd.R_far (p := ⟨gb185, 3, none⟩) (Kd.R_far (p := ⟨gb185, 2, none⟩) (Kd.R_far (p := ⟨gb185, 1, none⟩) (Kd.R_far (p := ⟨gb185, 0, none⟩) (Kd.R_types HO_161003.out BK185.out (by decide)) (fun _ hk => hk.2) (.int .i64 t176)) (fun _ hk => hk.2) (.int .i64 t177)) (fun _ hk => hk.2) (.slice Ao40 t178.length co40)) (fun _ hk => hk.2) (.slice Ao41 t181.length co41)) (fun _ h_ => h_.1))) hb); have n2_ := Aside0.mk (Kd.R_below (by (with_reducible repeat (first | apply Kd.R_alloc | apply Kd.R_drewN | apply Kd.R_drew)); exact (Kd.R_mono (Kd.R_far (p := ⟨gb185, 3, none⟩) (Kd.R_far (p := ⟨gb185, 2, none⟩) (Kd.R_far (p := ⟨gb185, 1, none⟩) (Kd.R_far (p := ⟨gb185, 0, none⟩) (Kd.R_types HO_171002.out BK185.out (by decide)) (fun _ hk => hk.2) (.int .i64 t176)) (fun _ hk => hk.2) (.int .i64 t177)) (fun _ hk => hk.2) (.slice Ao40 t178.length co40)) (fun _ hk => hk.2) (.slice Ao41 t181.length co41)) (fun _ h_ => h_.1))) hb); have n3_ := Aside0.mk (Kd.R_below (by (with_reducible repeat (first | apply Kd.R_alloc | apply Kd.R_drewN | apply Kd.R_drew)); exact (Kd.R_mono (Kd.R_far (p := ⟨gb185, 3, none⟩) (Kd.R_far (p := ⟨gb185, 2, none⟩) (Kd.R_far (p := ⟨gb185, 1, none⟩) (Kd.R_far (p := ⟨gb185, 0, none⟩) (Kd.R_types HO_171003.out BK185.out (by decide)) (fun _ hk => hk.2) (.int .i64 t176)) (fun _ hk => hk.2) (.int .i64 t177)) (fun _ hk => hk.2) (.slice Ao40 t178.length co40)) (fun _ hk => hk.2) (.slice Ao41 t181.length co41)) (fun _ h_ => h_.1))) hb); have n4_ := Aside0.mk (Kd.R_below (by (with_reducible repeat (first | apply Kd.R_alloc | apply Kd.R_drewN | apply Kd.R_drew)); exact (Kd.R_mono (Kd.R_far (p := ⟨gb185, 3, none⟩) (Kd.R_far (p := ⟨gb185, 2, none⟩) (Kd.R_far (p := ⟨gb185, 1, none⟩) (Kd.R_far (p := ⟨gb185, 0, none⟩) (Kd.R_types HO180.out BK185.out (by decide)) (fun _ hk => hk.2) (.int .i64 t176)) (fun _ hk => hk.2) (.int .i64 t177)) (fun _ hk => hk.2) (.slice Ao40 t178.length co40)) (fun _ hk => hk.2) (.slice Ao41 t181.length co41)) (fun _ h_ => h_.1))) hb); have n5_ := Aside0.mk (Kd.R_below (by (with_reducible repeat (first | apply Kd.R_alloc | apply Kd.R_drewN | apply Kd.R_drew)); exact (Kd.R_mono (Kd.R_far (p := ⟨gb185, 3, none⟩) (Kd.R_far (p := ⟨gb185, 2, none⟩) (Kd.R_far (p := ⟨gb185, 1, none⟩) (Kd.R_far (p := ⟨gb185, 0, none⟩) (Kd.R_types HO183.out BK185.out (by decide)) (fun _ hk => hk.2) (.int .i64 t176)) (fun _ hk => hk.2) (.int .i64 t177)) (fun _ hk => hk.2) (.slice Ao40 t178.length co40)) (fun _ hk => hk.2) (.slice Ao41 t181.length co41)) (fun _ h_ => h_.1))) hb); have n6_ := Aside0.mk (blk_below (g := gb160) (o := .cells #[.int .i64 t151, .int .i64 t152, .slice Ao9 t153.length co9, .slice Ao10 t156.length co10] 34 (0, 0)) (by (with_reducible repeat (first | refine blk_drewN ?_ _ | refine blk_drew ?_ | refine blk_alloc ?_ _)); refine blk_far ?_ NB160_185.out _; (with_reducible repeat (first | refine blk_drewN ?_ _ | refine blk_drew ?_ | refine blk_alloc ?_ _)); refine blk_far ?_ NB160_185.out _; (with_reducible repeat (first | refine blk_drewN ?_ _ | refine blk_drew ?_ | refine blk_alloc ?_ _)); refine blk_far ?_ NB160_185.out _; (with_reducible repeat (first | refine blk_drewN ?_ _ | refine blk_drew ?_ | refine blk_alloc ?_ _)); refine blk_far ?_ NB160_185.out _; (with_reducible repeat (first | refine blk_drewN ?_ _ | refine blk_drew ?_ | refine blk_alloc ?_ _)); exact BK160.out) hb); have n7_ := Aside0.mk (blk_below (g := gb170) (o := .cells #[.int .i64 t161, .int .i64 t162, .slice Ao15 t163.length co15, .slice Ao16 t166.length co16] 34 (0, 0)) (by (with_reducible repeat (first | refine blk_drewN ?_ _ | refine blk_drew ?_ | refine blk_alloc ?_ _)); refine blk_far ?_ NB170_185.out _; (with_reducible repeat (first | refine blk_drewN ?_ _ | refine blk_drew ?_ | refine blk_alloc ?_ _)); refine blk_far ?_ NB170_185.out _; (with_reducible repeat (first | refine blk_drewN ?_ _ | refine blk_drew ?_ | refine blk_alloc ?_ _)); refine blk_far ?_ NB170_185.out _; (with_reducible repeat (first | refine blk_drewN ?_ _ | refine blk_drew ?_ | refine blk_alloc ?_ _)); refine blk_far ?_ NB170_185.out _; (with_reducible repeat (first | refine blk_drewN ?_ _ | refine blk_drew ?_ | refine blk_alloc ?_ _)); exact BK170.out) hb); have n8_ := Aside0.mk (blk_below (g := gb185) (o := .cells #[.int .i64 t176, .int .i64 t177, .slice Ao40 t178.length co40, .slice Ao41 t181.length co41] 34 (0, 0)) (by (with_reducible repeat (first | refine blk_drewN ?_ _ | refine blk_drew ?_ | refine blk_alloc ?_ _)); refine blk_put (cs := #[.int .i64 t176, .int .i64 t177, .slice Ao40 t178.length co40, .slice none 0 0]) ?_ 3 _ rfl; (with_reducible repeat (first | refine blk_drewN ?_ _ | refine blk_drew ?_ | refine blk_alloc ?_ _)); refine blk_put (cs := #[.int .i64 t176, .int .i64 t177, .slice none 0 0, .slice none 0 0]) ?_ 2 _ rfl; (with_reducible repeat (first | refine blk_drewN ?_ _ | refine blk_drew ?_ | refine blk_alloc ?_ _)); refine blk_put (cs := #[.int .i64 t176, .int .i64 0, .slice none 0 0, .slice none 0 0]) ?_ 1 _ rfl; (with_reducible repeat (first | refine blk_drewN ?_ _ | refine blk_drew ?_ | refine blk_alloc ?_ _)); refine blk_put (cs := #[.int .i64 0, .int .i64 0, .slice none 0 0, .slice none 0 0]) ?_ 0 _ rfl; (with_reducible repeat (first | refine blk_drewN ?_ _ | refine blk_drew ?_ | refine blk_alloc ?_ _)); exact BK185.out) hb); have n9_ := Aside0.mk (below_step (by repeat (first | (with_reducible first | exact HB.out | apply below_alloc | apply pw_below_drewN | apply below_drew1 | refine below_set ?_ GE160.out | refine below_set ?_ GE170.out | refine below_set ?_ GE185.out) | exact HB.out)) hb); clear HO_161002; clear HO_161003; clear HO_171002; clear HO_171003; clear HO180; clear HO183; clear BK160; clear BK170; clear BK185; clear HB; have HO_161002 := n0_; have HO_161003 := n1_; have HO_171002 := n2_; have HO_171003 := n3_; have HO180 := n4_; have HO183 := n5_; have BK160 := n6_; have BK170 := n7_; have BK185 := n8_; have HB := n9_; clear n0_ n1_ n2_ n3_ n4_ n5_ n6_ n7_ n8_ n9_; (try clear hb); (try clear hb2); (try clear hk); (try clear hi)))
        go_meet
        case rel => exact ⟨_, ((t184 != t159)), (by first | rfl | (simp; done) | (simp [*]; done)), H', ⟨by have := HJ4.out; first | omega | exact Nat.le_refl _⟩, ⟨by (with_reducible repeat (first | apply Kd.R_alloc | apply Kd.R_drewN | apply Kd.R_drew)); exact Kd.R_mono HO_161002.out (fun _ hk => ⟨hk.1.1.1, ⟨hk.1.1.2.1, ⟨hk.1.1.2.2, ⟨hk.1.2, hk.2⟩⟩⟩⟩)⟩, ⟨by (with_reducible repeat (first | apply Kd.R_alloc | apply Kd.R_drewN | apply Kd.R_drew)); exact Kd.R_mono HO_161003.out (fun _ hk => ⟨hk.1.1.1, ⟨hk.1.1.2.1, ⟨hk.1.1.2.2, ⟨hk.1.2, hk.2⟩⟩⟩⟩)⟩, ⟨by (with_reducible repeat (first | apply Kd.R_alloc | apply Kd.R_drewN | apply Kd.R_drew)); exact Kd.R_mono HO_171002.out (fun _ hk => ⟨hk.1.1.1, ⟨hk.1.1.2.1, ⟨hk.1.1.2.2, ⟨hk.1.2, hk.2⟩⟩⟩⟩)⟩, ⟨by (with_reducible repeat (first | apply Kd.R_alloc | apply Kd.R_drewN | apply Kd.R_drew)); exact Kd.R_mono HO_171003.out (fun _ hk => ⟨hk.1.1.1, ⟨hk.1.1.2.1, ⟨hk.1.1.2.2, ⟨hk.1.2, hk.2⟩⟩⟩⟩)⟩, ⟨by (with_reducible repeat (first | apply Kd.R_alloc | apply Kd.R_drewN | apply Kd.R_drew)); exact Kd.R_mono HO180.out (fun _ hk => ⟨hk.1.1.1.2, ⟨hk.1.1.2, ⟨hk.1.2, ⟨hk.2, hk.1.1.1.1⟩⟩⟩⟩)⟩, ⟨by (with_reducible repeat (first | apply Kd.R_alloc | apply Kd.R_drewN | apply Kd.R_drew)); exact Kd.R_mono HO183.out (fun _ hk => ⟨hk.1.1.1.2, ⟨hk.1.1.2, ⟨hk.1.2, ⟨hk.2, hk.1.1.1.1⟩⟩⟩⟩)⟩, ⟨by (with_reducible repeat (first | refine blk_drewN ?_ _ | refine blk_drew ?_ | refine blk_alloc ?_ _)); exact BK160.out⟩, ⟨by (with_reducible repeat (first | refine blk_drewN ?_ _ | refine blk_drew ?_ | refine blk_alloc ?_ _)); exact BK170.out⟩, ⟨by (with_reducible repeat (first | refine blk_drewN ?_ _ | refine blk_drew ?_ | refine blk_alloc ?_ _)); exact BK185.out⟩, ⟨by repeat (first | (with_reducible first | exact HB.out | apply below_alloc | apply pw_below_drewN | apply below_drew1 | refine below_set ?_ GE160.out | refine below_set ?_ GE170.out | refine below_set ?_ GE185.out) | exact HB.out)⟩⟩
       ·replace c43 := Bool.eq_false_iff.mpr c43
        subst c43
        have H1 : (laws_FnExactEmptyFigure.j1 kj4 t172 true t161 t162 t173 t174) = some r := by rw [if_neg (show ¬ (false = true) by decide)] at H; exact H
        clear H
        have H := H1
        clear H1
        exact absurd HR_.out (by cases kj4 <;> simp [laws_FnExactEmptyFigure.j1] at H <;> first | simp [← H] | simp [H] | simp_all)
      case rest =>
       clear HC29
       try clear c1
       try clear c2
       try clear p2
       try clear c3
       try clear c4
       try clear c6
       try clear c13
       try clear c18
       try clear c19
       try clear c20
       try clear c23
       try clear c24
       try clear c26
       try clear c26b0
       try clear c27
       try clear c27b0
       try clear c27b1
       try clear c30
       try clear c37
       try clear c38
       try clear c43
       try clear c44
       try clear c45
       try clear c47
       try clear hcz14_0
       try clear hcz14_1
       try clear hcz14_2
       try clear hcz14_3
       try clear hcz20_0
       try clear hcz20_1
       try clear hcz20_2
       try clear hcz20_3
       try clear hcz21_0
       try clear hcz21_1
       try clear hcz21_2
       try clear hcz21_3
       try clear hcz31_0
       try clear hcz31_1
       try clear hcz31_2
       try clear hcz31_3
       try clear hcz33_0
       try clear hcz33_1
       try clear hcz33_2
       try clear hcz33_3
       try clear hcz39_0
       try clear hcz39_1
       try clear hcz39_2
       try clear hcz39_3
       try clear hcz46_0
       try clear hcz46_1
       try clear hcz46_2
       try clear hcz46_3
       try clear hcz48_0
       try clear hcz48_1
       try clear hcz48_2
       try clear hcz48_3
       try clear hcz8_0
       try clear hcz8_1
       try clear hcz8_2
       try clear hcz8_3
       try clear hfz14_0
       try clear hfz14_1
       try clear hfz14_2
       try clear hfz14_3
       try clear hfz20_0
       try clear hfz20_1
       try clear hfz20_2
       try clear hfz20_3
       try clear hfz21_0
       try clear hfz21_1
       try clear hfz21_2
       try clear hfz21_3
       try clear hfz31_0
       try clear hfz31_1
       try clear hfz31_2
       try clear hfz31_3
       try clear hfz33_0
       try clear hfz33_1
       try clear hfz33_2
       try clear hfz33_3
       try clear hfz39_0
       try clear hfz39_1
       try clear hfz39_2
       try clear hfz39_3
       try clear hfz46_0
       try clear hfz46_1
       try clear hfz46_2
       try clear hfz46_3
       try clear hfz48_0
       try clear hfz48_1
       try clear hfz48_2
       try clear hfz48_3
       try clear hfz8_0
       try clear hfz8_1
       try clear hfz8_2
       try clear hfz8_3
       try clear p2
       obtain ⟨kq, x59_28, rfl, HA, HJ28, HO_161002, HO_161003, HO_171002, HO_171003, HO_186002, HO_186003, BK160, BK170, BK185, HB⟩ := hcut
       have hl171002_28 := (Kd.R_reads' HO_171002.out).1
       rw [hl171002_28] at HO_171002
       (try simp only [hl171002_28])
       (try simp only [hl171002_28] at BK160)
       (try simp only [hl171002_28] at BK170)
       (try simp only [hl171002_28] at BK185)
       (try simp only [hl171002_28] at HO_161002)
       (try simp only [hl171002_28] at HO_161003)
       (try simp only [hl171002_28] at HO_171003)
       (try simp only [hl171002_28] at HO_186002)
       (try simp only [hl171002_28] at HO_186003)
       have hl171003_28 := (Kd.R_reads' HO_171003.out).1
       rw [hl171003_28] at HO_171003
       (try simp only [hl171003_28])
       (try simp only [hl171003_28] at BK160)
       (try simp only [hl171003_28] at BK170)
       (try simp only [hl171003_28] at BK185)
       (try simp only [hl171003_28] at HO_161002)
       (try simp only [hl171003_28] at HO_161003)
       (try simp only [hl171003_28] at HO_171002)
       (try simp only [hl171003_28] at HO_186002)
       (try simp only [hl171003_28] at HO_186003)
       cases kq with
       | zero => exact absurd HA.out (by simp [laws_FnExactEmptyFigure.j1])
       | succ kj28 =>
        have H := HA.out
        clear HA
        simp only [laws_FnExactEmptyFigure.j1] at H
        by_cases c50 : x59_28 = true
        ·subst c50
         have H1 : (some false) = some r := by rw [if_pos rfl] at H; exact H
         clear H
         have H := H1
         clear H1
         exact absurd ((Option.some.inj H).trans HR_.out) Bool.false_ne_true
        ·replace c50 := Bool.eq_false_iff.mpr c50
         subst c50
         have H1 : ((laws_heldFigure.f kj28 t161 t162 t173 t174 101).bind fun t187 => (if t187 < 0 then (some false) else (if t187 = t172 then (some true) else (some false)))) = some r := by rw [if_neg (show ¬ (false = true) by decide)] at H; exact H
         clear H
         have H := H1
         clear H1
         replace H := Option.bind_eq_some_iff.mp H
         obtain ⟨t187, A510, H⟩ := H
         replace H : (if t187 < 0 then (some false) else (if t187 = t172 then (some true) else (some false))) = some r := H
         have A51 := Aside0.mk A510
         clear A510
         by_cases c52 : t187 < 0
         ·rw [if_pos c52] at H
          have c52b0 : decide (t187 < 0) = true := decide_eq_true c52
          clear c52
          exact absurd ((Option.some.inj H).trans HR_.out) Bool.false_ne_true
         ·rw [if_neg c52] at H
          have c52b0 : decide (t187 < 0) = false := decide_eq_false c52
          clear c52
          by_cases c53 : t187 = t172
          ·rw [if_pos c53] at H
           have c53b0 : (t187 == t172) = true := beq_iff_eq.mpr c53
           have c53b1 : (t187 != t172) = false := bne_eq_false_iff_eq.mpr c53
           clear c53
           obtain rfl := Option.some.inj H
           have hnb54 := NB170_160.out
           have hnc54 := NB160_170.out
           have hnb55 := NB170_185.out
           have hnc55 := NB185_170.out
           have hcz56_0 : wc.cell? ⟨gb170, 0, none⟩ = some (.int .i64 t161) := (blk_cell BK170.out 0).trans rfl
           have hcz56_1 : wc.cell? ⟨gb170, 1, none⟩ = some (.int .i64 t162) := (blk_cell BK170.out 1).trans rfl
           have hcz56_2 : wc.cell? ⟨gb170, 2, none⟩ = some (.slice Ao15 t173.length co15) := (blk_cell BK170.out 2).trans rfl
           have hcz56_3 : wc.cell? ⟨gb170, 3, none⟩ = some (.slice Ao16 t174.length co16) := (blk_cell BK170.out 3).trans rfl
           have hfz56_0 := blk_frozen BK170.out 0
           have hfz56_1 := blk_frozen BK170.out 1
           have hfz56_2 := blk_frozen BK170.out 2
           have hfz56_3 := blk_frozen BK170.out 3
           go_wp2_with (first | ((with_reducible refine gate_callee (f := 20) rfl ?_); refine goesL_ (some 62) rfl rfl Tryd.func20 (by kernel_rfl) rfl #[.agg #[.int .i64 t161, .int .i64 t162, .slice Ao15 t173.length co15, .slice Ao16 t174.length co16], .int .i64 101] rfl (by (try simp only [List.map_toArray, List.map_cons, List.map_nil]); first | done | rfl | (simp only [List.length_drop, List.length_take]; rfl)) ?_; (with_reducible refine (laws_heldFigure.calls kj28 t161 t162 _ _ t173 _ _ t174 101 t187 _ ?side1 ?side2 ?side3 ?side4 A51.out).mono ?_); (case side1 => repeat (first | exact (Kd.R_reads' HO_171002.out).2.2 | (with_reducible refine Kd.C_alloc ?_ _) | (with_reducible refine Kd.C_drewN ?_ _) | (with_reducible refine Kd.C_drew ?_))); (case side2 => exact (Kd.R_reads' HO_171002.out).2.1); (case side3 => repeat (first | exact (Kd.R_reads' HO_171003.out).2.2 | (with_reducible refine Kd.C_alloc ?_ _) | (with_reducible refine Kd.C_drewN ?_ _) | (with_reducible refine Kd.C_drew ?_))); (case side4 => exact (Kd.R_reads' HO_171003.out).2.1); rintro e w57 ⟨rfl, hb⟩; refine ⟨_, rfl, ?_⟩; have n0_ := Aside0.mk (Kd.R_below (by (with_reducible repeat (first | apply Kd.R_alloc | apply Kd.R_drewN | apply Kd.R_drew)); exact HO_161002.out) hb); have n1_ := Aside0.mk (Kd.R_below (by (with_reducible repeat (first | apply Kd.R_alloc | apply Kd.R_drewN | apply Kd.R_drew)); exact HO_161003.out) hb); have n2_ := Aside0.mk (Kd.R_below (by (with_reducible repeat (first | apply Kd.R_alloc | apply Kd.R_drewN | apply Kd.R_drew)); exact HO_171002.out) hb); have n3_ := Aside0.mk (Kd.R_below (by (with_reducible repeat (first | apply Kd.R_alloc | apply Kd.R_drewN | apply Kd.R_drew)); exact HO_171003.out) hb); have n4_ := Aside0.mk (Kd.R_below (by (with_reducible repeat (first | apply Kd.R_alloc | apply Kd.R_drewN | apply Kd.R_drew)); exact HO_186002.out) hb); have n5_ := Aside0.mk (Kd.R_below (by (with_reducible repeat (first | apply Kd.R_alloc | apply Kd.R_drewN | apply Kd.R_drew)); exact HO_186003.out) hb); have n6_ := Aside0.mk (blk_below (g := gb160) (o := .cells #[.int .i64 t151, .int .i64 t152, .slice Ao9 t153.length co9, .slice Ao10 t156.length co10] 34 (0, 0)) (by (with_reducible repeat (first | refine blk_drewN ?_ _ | refine blk_drew ?_ | refine blk_alloc ?_ _)); exact BK160.out) hb); have n7_ := Aside0.mk (blk_below (g := gb170) (o := .cells #[.int .i64 t161, .int .i64 t162, .slice Ao15 t173.length co15, .slice Ao16 t174.length co16] 34 (0, 0)) (by (with_reducible repeat (first | refine blk_drewN ?_ _ | refine blk_drew ?_ | refine blk_alloc ?_ _)); exact BK170.out) hb); have n8_ := Aside0.mk (blk_below (g := gb185) (o := .cells #[.int .i64 t176, .int .i64 t177, .slice Ao40 t178.length co40, .slice Ao41 t181.length co41] 34 (0, 0)) (by (with_reducible repeat (first | refine blk_drewN ?_ _ | refine blk_drew ?_ | refine blk_alloc ?_ _)); exact BK185.out) hb); have n9_ := Aside0.mk (below_step (by repeat (first | (with_reducible first | exact HB.out | apply below_alloc | apply pw_below_drewN | apply below_drew1 | refine below_set ?_ GE160.out | refine below_set ?_ GE170.out | refine below_set ?_ GE185.out) | exact HB.out)) hb); clear HO_161002; clear HO_161003; clear HO_171002; clear HO_171003; clear HO_186002; clear HO_186003; clear BK160; clear BK170; clear BK185; clear HB; have HO_161002 := n0_; have HO_161003 := n1_; have HO_171002 := n2_; have HO_171003 := n3_; have HO_186002 := n4_; have HO_186003 := n5_; have BK160 := n6_; have BK170 := n7_; have BK185 := n8_; have HB := n9_; clear n0_ n1_ n2_ n3_ n4_ n5_ n6_ n7_ n8_ n9_; (try clear hb); (try clear hb2); (try clear hk); (try clear hi)))
           go_ret
           exact ⟨by first | rfl | (simp [errW_none, errW_some] <;> rfl) | (simp [*, errW_none, errW_some] <;> rfl), by repeat (first | (with_reducible first | exact HB.out | apply below_alloc | apply pw_below_drewN | apply below_drew1 | refine below_set ?_ GE160.out | refine below_set ?_ GE170.out | refine below_set ?_ GE185.out) | exact HB.out)⟩
          ·rw [if_neg c53] at H
           have c53b0 : (t187 == t172) = false := beq_eq_false_iff_ne.mpr c53
           have c53b1 : (t187 != t172) = true := bne_iff_ne.mpr c53
           exact absurd ((Option.some.inj H).trans HR_.out) Bool.false_ne_true
     ·rw [if_neg c27] at H
      have c27b0 : (t175 == t172) = false := beq_eq_false_iff_ne.mpr c27
      have c27b1 : (t175 != t172) = true := bne_iff_ne.mpr c27
      exact absurd ((Option.some.inj H).trans HR_.out) Bool.false_ne_true

/-- THE ONE PURE STATEMENT of laws_FnExactEmptyFigure. -/
def laws_FnExactEmptyFigure.Pure : Prop := ∀ (a0 : Int) (a1 : Int), (Lit.int .i64 a0).wf = true → (Lit.int .i64 a1).wf = true → ∃ k, laws_FnExactEmptyFigure.f k a0 a1 = some true

end Go.Proofs.YtnmngpgjkokdaaaDoor.Q
