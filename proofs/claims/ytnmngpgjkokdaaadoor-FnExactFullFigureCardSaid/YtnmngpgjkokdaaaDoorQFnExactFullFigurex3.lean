-- written by a program of this session, pm.py, for this claim
-- half the indentation
import Derived.Test.YtnmngpgjkokdaaaDoorQFnExactFullFigurex0
import Derived.Test.YtnmngpgjkokdaaaDoorQFnExactFullFigurex1
import Derived.Test.YtnmngpgjkokdaaaDoorQFnExactFullFigurex2
namespace Go.Proofs.YtnmngpgjkokdaaaDoor.Q
open Go.RowKit Go.Proofs.YtnmngpgjkokdaaaDoorW.PrintWords Go.Proofs.YtnmngpgjkokdaaaDoorW.PrintLast Go.Proofs.YtnmngpgjkokdaaaDoorW.PrintMore
attribute [local go_sem] max2_int min2_int max_two min_two max_three min_three max_four min_four   -- for this text's walks alone
set_option linter.unusedVariables false
set_option linter.unusedSimpArgs false

/-! ### laws_FnExactFullFigure: function 5 -/
mutual
def laws_FnExactFullFigure.j0 : Nat → Int → Int → Bool → Bool → Int → Int → List Int → List Int → Int → Int → List Int → List Int → Option (Bool)
 | 0, _, _, _, _, _, _, _, _, _, _, _, _ => none
 | k + 1, x0, x1, x6, x33, x184000, x184001, x184002, x184003, x194000, x194001, x194002, x194003 => if x33 = true then (some false) else ((laws_markFigure.f k x194000 x194001 x194002 x194003 101).bind fun bt195 => ((laws_heldFigure.f k x194000 x194001 bt195.2.1 bt195.2.2 101).bind fun t198 => (if t198 < 0 then (some false) else (if t198 = bt195.1 then ((impl_FullFigure.f k x0 x1).bind fun bt199 => ((laws_eqFigure.f k bt199.1 bt199.2.1 bt199.2.2.1 bt199.2.2.2.1 x184000 x184001 x184002 x184003).bind fun t209 => (if t209 = true then (laws_FnExactFullFigure.j1 k bt195.1 (bt199.2.2.2.2 != x6) x194000 x194001 bt195.2.1 bt195.2.2) else (laws_FnExactFullFigure.j1 k bt195.1 true x194000 x194001 bt195.2.1 bt195.2.2)))) else (some false)))))
def laws_FnExactFullFigure.j1 : Nat → Int → Bool → Int → Int → List Int → List Int → Option (Bool)
 | 0, _, _, _, _, _, _ => none
 | k + 1, x9, x59, x194000, x194001, x194002, x194003 => if x59 = true then (some false) else ((laws_heldFigure.f k x194000 x194001 x194002 x194003 101).bind fun t210 => (if t210 < 0 then (some false) else (if t210 = x9 then (some true) else (some false))))
end
def laws_FnExactFullFigure.f (k : Nat) (a0 : Int) (a1 : Int) : Option (Bool) := (spec_FullFigure.f k a0 a1).bind fun bt174 => ((impl_FullFigure.f k a0 a1).bind fun bt184 => ((laws_eqFigure.f k bt184.1 bt184.2.1 bt184.2.2.1 bt184.2.2.2.1 bt174.1 bt174.2.1 bt174.2.2.1 bt174.2.2.2.1).bind fun t194 => (if t194 = true then (laws_FnExactFullFigure.j0 k a0 a1 bt174.2.2.2.2 (bt184.2.2.2.2 != bt174.2.2.2.2) bt174.1 bt174.2.1 bt174.2.2.1 bt174.2.2.2.1 bt184.1 bt184.2.1 bt184.2.2.1 bt184.2.2.2.1) else (laws_FnExactFullFigure.j0 k a0 a1 bt174.2.2.2.2 true bt174.1 bt174.2.1 bt174.2.2.1 bt174.2.2.2.1 bt184.1 bt184.2.1 bt184.2.2.1 bt184.2.2.2.1))))
theorem laws_FnExactFullFigure.mono_l : ∀ k, (∀ y0 y1 y2 y3 y4 y5 y6 y7 y8 y9 y10 y11, LeO (laws_FnExactFullFigure.j0 k y0 y1 y2 y3 y4 y5 y6 y7 y8 y9 y10 y11) (laws_FnExactFullFigure.j0 (k + 1) y0 y1 y2 y3 y4 y5 y6 y7 y8 y9 y10 y11)) ∧ (∀ y0 y1 y2 y3 y4 y5, LeO (laws_FnExactFullFigure.j1 k y0 y1 y2 y3 y4 y5) (laws_FnExactFullFigure.j1 (k + 1) y0 y1 y2 y3 y4 y5))
 | 0 => ⟨fun _ _ _ _ _ _ _ _ _ _ _ _ r h => by simp [laws_FnExactFullFigure.j0] at h, fun _ _ _ _ _ _ r h => by simp [laws_FnExactFullFigure.j1] at h⟩
 | k + 1 => by
  obtain ⟨ih0, ih1⟩ := laws_FnExactFullFigure.mono_l k
  refine ⟨?_, ?_⟩
  ·intro y0 y1 y2 y3 y4 y5 y6 y7 y8 y9 y10 y11
   unfold laws_FnExactFullFigure.j0
   repeat' first
   | (with_reducible exact ih0 _ _ _ _ _ _ _ _ _ _ _ _)
   | (with_reducible exact ih1 _ _ _ _ _ _)
   | (with_reducible exact impl_FullFigure.mono _ _ _)
   | (with_reducible exact laws_eqFigure.mono _ _ _ _ _ _ _ _ _)
   | (with_reducible exact laws_heldFigure.mono _ _ _ _ _ _)
   | (with_reducible exact laws_markFigure.mono _ _ _ _ _ _)
   | (with_reducible exact spec_FullFigure.mono _ _ _)
   | (with_reducible exact LeO.refl _)
   | (with_reducible exact LeO.none _)
   | (with_reducible refine LeO.ite ?_ ?_)
   | (with_reducible refine LeO.bind ?_ (fun _ => ?_))
   | exact ih0 _ _ _ _ _ _ _ _ _ _ _ _
   | exact ih1 _ _ _ _ _ _
   | exact impl_FullFigure.mono _ _ _
   | exact laws_eqFigure.mono _ _ _ _ _ _ _ _ _
   | exact laws_heldFigure.mono _ _ _ _ _ _
   | exact laws_markFigure.mono _ _ _ _ _ _
   | exact spec_FullFigure.mono _ _ _
   | exact LeO.none _
   | refine LeO.ite ?_ ?_
   | refine LeO.bind ?_ (fun _ => ?_)
  ·intro y0 y1 y2 y3 y4 y5
   unfold laws_FnExactFullFigure.j1
   repeat' first
   | (with_reducible exact ih0 _ _ _ _ _ _ _ _ _ _ _ _)
   | (with_reducible exact ih1 _ _ _ _ _ _)
   | (with_reducible exact impl_FullFigure.mono _ _ _)
   | (with_reducible exact laws_eqFigure.mono _ _ _ _ _ _ _ _ _)
   | (with_reducible exact laws_heldFigure.mono _ _ _ _ _ _)
   | (with_reducible exact laws_markFigure.mono _ _ _ _ _ _)
   | (with_reducible exact spec_FullFigure.mono _ _ _)
   | (with_reducible exact LeO.refl _)
   | (with_reducible exact LeO.none _)
   | (with_reducible refine LeO.ite ?_ ?_)
   | (with_reducible refine LeO.bind ?_ (fun _ => ?_))
   | exact ih0 _ _ _ _ _ _ _ _ _ _ _ _
   | exact ih1 _ _ _ _ _ _
   | exact impl_FullFigure.mono _ _ _
   | exact laws_eqFigure.mono _ _ _ _ _ _ _ _ _
   | exact laws_heldFigure.mono _ _ _ _ _ _
   | exact laws_markFigure.mono _ _ _ _ _ _
   | exact spec_FullFigure.mono _ _ _
   | exact LeO.none _
   | refine LeO.ite ?_ ?_
   | refine LeO.bind ?_ (fun _ => ?_)
theorem laws_FnExactFullFigure.mono : ∀ a0 a1 k, LeO (laws_FnExactFullFigure.f k a0 a1) (laws_FnExactFullFigure.f (k + 1) a0 a1) := by
 intro a0 a1 k
 obtain ⟨ih0, ih1⟩ := laws_FnExactFullFigure.mono_l k
 unfold laws_FnExactFullFigure.f
 repeat' first
   | (with_reducible exact ih0 _ _ _ _ _ _ _ _ _ _ _ _)
   | (with_reducible exact ih1 _ _ _ _ _ _)
   | (with_reducible exact impl_FullFigure.mono _ _ _)
   | (with_reducible exact laws_eqFigure.mono _ _ _ _ _ _ _ _ _)
   | (with_reducible exact laws_heldFigure.mono _ _ _ _ _ _)
   | (with_reducible exact laws_markFigure.mono _ _ _ _ _ _)
   | (with_reducible exact spec_FullFigure.mono _ _ _)
   | (with_reducible exact LeO.refl _)
   | (with_reducible exact LeO.none _)
   | (with_reducible refine LeO.ite ?_ ?_)
   | (with_reducible refine LeO.bind ?_ (fun _ => ?_))
   | exact ih0 _ _ _ _ _ _ _ _ _ _ _ _
   | exact ih1 _ _ _ _ _ _
   | exact impl_FullFigure.mono _ _ _
   | exact laws_eqFigure.mono _ _ _ _ _ _ _ _ _
   | exact laws_heldFigure.mono _ _ _ _ _ _
   | exact laws_markFigure.mono _ _ _ _ _ _
   | exact spec_FullFigure.mono _ _ _
   | exact LeO.none _
   | refine LeO.ite ?_ ?_
   | refine LeO.bind ?_ (fun _ => ?_)
set_option maxHeartbeats 8000000 in
set_option maxRecDepth 100000 in
theorem laws_FnExactFullFigure.calls (k : Nat) (a0 : Int) (a1 : Int) (r : Bool) (w : World) (hG : LaidG w) (hr_ : r = true) (h : laws_FnExactFullFigure.f k a0 a1 = some r) :
  Calls Tryd.prog 5 #[.int .i64 a0, .int .i64 a1] w fun e w' => e = .returned (.bool r) ∧ Below w.heap.size w w' := by
 have hu34 := Tryd.underlying34
 have HG := Aside0.mk hG
 clear hG
 have HR_ := Aside0.mk hr_
 clear hr_
 have HB := Aside0.mk (Below.refl w.heap.size w)
 have H : ((spec_FullFigure.f k a0 a1).bind fun bt174 => ((impl_FullFigure.f k a0 a1).bind fun bt184 => ((laws_eqFigure.f k bt184.1 bt184.2.1 bt184.2.2.1 bt184.2.2.2.1 bt174.1 bt174.2.1 bt174.2.2.1 bt174.2.2.2.1).bind fun t194 => (if t194 = true then (laws_FnExactFullFigure.j0 k a0 a1 bt174.2.2.2.2 (bt184.2.2.2.2 != bt174.2.2.2.2) bt174.1 bt174.2.1 bt174.2.2.1 bt174.2.2.2.1 bt184.1 bt184.2.1 bt184.2.2.1 bt184.2.2.2.1) else (laws_FnExactFullFigure.j0 k a0 a1 bt174.2.2.2.2 true bt174.1 bt174.2.1 bt174.2.2.1 bt174.2.2.2.1 bt184.1 bt184.2.1 bt184.2.2.1 bt184.2.2.2.1))))) = some r := h
 clear h
 replace H := Option.bind_eq_some_iff.mp H
 obtain ⟨⟨t174, t175, t176, t179, t182⟩, A30, H⟩ := H
 replace H : ((impl_FullFigure.f k a0 a1).bind fun bt184 => ((laws_eqFigure.f k bt184.1 bt184.2.1 bt184.2.2.1 bt184.2.2.2.1 t174 t175 t176 t179).bind fun t194 => (if t194 = true then (laws_FnExactFullFigure.j0 k a0 a1 t182 (bt184.2.2.2.2 != t182) t174 t175 t176 t179 bt184.1 bt184.2.1 bt184.2.2.1 bt184.2.2.2.1) else (laws_FnExactFullFigure.j0 k a0 a1 t182 true t174 t175 t176 t179 bt184.1 bt184.2.1 bt184.2.2.1 bt184.2.2.2.1)))) = some r := H
 have A3 := Aside0.mk A30
 clear A30
 replace H := Option.bind_eq_some_iff.mp H
 obtain ⟨⟨t184, t185, t186, t189, t192⟩, A40, H⟩ := H
 replace H : ((laws_eqFigure.f k t184 t185 t186 t189 t174 t175 t176 t179).bind fun t194 => (if t194 = true then (laws_FnExactFullFigure.j0 k a0 a1 t182 (t192 != t182) t174 t175 t176 t179 t184 t185 t186 t189) else (laws_FnExactFullFigure.j0 k a0 a1 t182 true t174 t175 t176 t179 t184 t185 t186 t189))) = some r := H
 have A4 := Aside0.mk A40
 clear A40
 have HC5 := Aside0.mk H
 clear H
 go_enter Tryd.func5, Tryd.ntmps5
 go_upto_region 3 with (first | ((with_reducible refine gate_callee (f := 21) rfl ?_); refine goesL_ (some 16) rfl rfl Tryd.func21 (by kernel_rfl) rfl #[.int .i64 a0, .int .i64 a1] rfl (by (try simp only [List.map_toArray, List.map_cons, List.map_nil]); first | done | rfl | (simp only [List.length_drop, List.length_take]; rfl)) ?_; (with_reducible refine (spec_FullFigure.calls k a0 a1 t174 t175 t176 t179 t182 _ A3.out).mono ?_); rintro e w6 ⟨v177, v180, rfl, ho0, ho1, hb⟩; refine ⟨_, rfl, ?_⟩; have n0_ := Aside0.mk (Kd.R_lower ho0 (below_size (by repeat (first | (with_reducible first | exact HB.out | apply below_alloc | apply pw_below_drewN | apply below_drew1) | exact HB.out)))); have n1_ := Aside0.mk (Kd.R_lower ho1 (below_size (by repeat (first | (with_reducible first | exact HB.out | apply below_alloc | apply pw_below_drewN | apply below_drew1) | exact HB.out)))); have n2_ := Aside0.mk (below_step (by repeat (first | (with_reducible first | exact HB.out | apply below_alloc | apply pw_below_drewN | apply below_drew1) | exact HB.out)) hb); clear HB; have HO178 := n0_; have HO181 := n1_; have HB := n2_; clear n0_ n1_ n2_; (try clear hb); (try clear hb2); (try clear hk); (try clear hi); (try clear ho0); (try clear ho1)) | ((with_reducible refine gate_dst (N := 5) rfl ?_); refine box_event ?hg (N := 5) ?hd (cs := #[.int .i64 0, .int .i64 0, .slice none 0 0, .slice none 0 0]) (t := 34) ?hr ?_; (case hd => rfl); (case hg => rfl); (case hr => first | (go_simp; done) | (go_simp; rfl)); intro gb183 hg w7 hbox hb; have n0_ := Aside0.mk (Kd.R_below (by (with_reducible repeat (first | apply Kd.R_alloc | apply Kd.R_drewN | apply Kd.R_drew)); exact HO178.out) hb); have n1_ := Aside0.mk (Kd.R_below (by (with_reducible repeat (first | apply Kd.R_alloc | apply Kd.R_drewN | apply Kd.R_drew)); exact HO181.out) hb); have n2_ := Aside0.mk (below_step (by repeat (first | (with_reducible first | exact HB.out | apply below_alloc | apply pw_below_drewN | apply below_drew1) | exact HB.out)) hb); have n3_ := Aside0.mk (hbox); have n4_ := Aside0.mk ((by rw [hg]; exact (below_size (by repeat (first | (with_reducible first | exact HB.out | apply below_alloc | apply pw_below_drewN | apply below_drew1) | exact HB.out))) : w.heap.size ≤ gb183)); have n5_ := Aside0.mk ((by rw [hg]; exact (below_size (by repeat (first | (with_reducible first | exact HB.out | apply below_alloc | apply pw_below_drewN | apply below_drew1) | exact HB.out))) : w.heap.size ≤ gb183)); clear HO178; clear HO181; clear HB; have HO178 := n0_; have HO181 := n1_; have HB := n2_; have BK183 := n3_; have GW183 := n4_; have GE183 := n5_; clear n0_ n1_ n2_ n3_ n4_ n5_; clear hb hbox hg; have hcz8_0 : w7.cell? ⟨gb183, 0, none⟩ = some (.int .i64 0) := (blk_cell BK183.out 0).trans rfl; have hcz8_1 : w7.cell? ⟨gb183, 1, none⟩ = some (.int .i64 0) := (blk_cell BK183.out 1).trans rfl; have hcz8_2 : w7.cell? ⟨gb183, 2, none⟩ = some (.slice none 0 0) := (blk_cell BK183.out 2).trans rfl; have hcz8_3 : w7.cell? ⟨gb183, 3, none⟩ = some (.slice none 0 0) := (blk_cell BK183.out 3).trans rfl; have hfz8_0 := blk_frozen BK183.out 0; have hfz8_1 := blk_frozen BK183.out 1; have hfz8_2 := blk_frozen BK183.out 2; have hfz8_3 := blk_frozen BK183.out 3; obtain ⟨Ao9, co9, eo9⟩ := Kd.R_slice HO178.out; subst eo9; obtain ⟨Ao10, co10, eo10⟩ := Kd.R_slice HO181.out; subst eo10) | ((with_reducible refine gate_callee (f := 22) rfl ?_); refine goesL_ (some 22) rfl rfl Tryd.func22 (by kernel_rfl) rfl #[.int .i64 a0, .int .i64 a1] rfl (by (try simp only [List.map_toArray, List.map_cons, List.map_nil]); first | done | rfl | (simp only [List.length_drop, List.length_take]; rfl)) ?_; (with_reducible refine (impl_FullFigure.calls k a0 a1 t184 t185 t186 t189 t192 _ ?side1 A4.out).mono ?_); (case side1 => first | exact LaidG_below HG.out (by repeat (first | (with_reducible first | exact HB.out | apply below_alloc | apply pw_below_drewN | apply below_drew1 | refine below_set ?_ GE183.out) | exact HB.out)) | (repeat (first | exact HG.out | (with_reducible refine LaidG_alloc ?_ _) | (with_reducible refine LaidG_drewN ?_ _) | (with_reducible refine LaidG_drew ?_)))); rintro e w11 ⟨v187, v190, rfl, ho0, ho1, hb⟩; refine ⟨_, rfl, ?_⟩; have n0_ := Aside0.mk (Kd.R_mono (Kd.R_told (Kd.R_told (Kd.R_old (by (with_reducible repeat (first | apply Kd.R_alloc | apply Kd.R_drewN | apply Kd.R_drew)); exact (Kd.R_mono (Kd.R_far (p := ⟨gb183, 3, none⟩) (Kd.R_far (p := ⟨gb183, 2, none⟩) (Kd.R_far (p := ⟨gb183, 1, none⟩) (Kd.R_far (p := ⟨gb183, 0, none⟩) (Kd.R_types HO178.out BK183.out (by decide)) (fun _ hk => hk.2) (.int .i64 t174)) (fun _ hk => hk.2) (.int .i64 t175)) (fun _ hk => hk.2) (.slice Ao9 t176.length co9)) (fun _ hk => hk.2) (.slice Ao10 t179.length co10)) (fun _ h_ => h_.1))) hb) (Kd.R_base ho0)) (Kd.R_base ho1)) (fun _ h_ => h_.1)); have n1_ := Aside0.mk (Kd.R_mono (Kd.R_told (Kd.R_told (Kd.R_old (by (with_reducible repeat (first | apply Kd.R_alloc | apply Kd.R_drewN | apply Kd.R_drew)); exact (Kd.R_mono (Kd.R_far (p := ⟨gb183, 3, none⟩) (Kd.R_far (p := ⟨gb183, 2, none⟩) (Kd.R_far (p := ⟨gb183, 1, none⟩) (Kd.R_far (p := ⟨gb183, 0, none⟩) (Kd.R_types HO181.out BK183.out (by decide)) (fun _ hk => hk.2) (.int .i64 t174)) (fun _ hk => hk.2) (.int .i64 t175)) (fun _ hk => hk.2) (.slice Ao9 t176.length co9)) (fun _ hk => hk.2) (.slice Ao10 t179.length co10)) (fun _ h_ => h_.1))) hb) (Kd.R_base ho0)) (Kd.R_base ho1)) (fun _ h_ => h_.1)); have n2_ := Aside0.mk (Kd.R_lower (Kd.R_new' (Kd.R_new' ho0 (Kd.R_lt (by (with_reducible repeat (first | apply Kd.R_alloc | apply Kd.R_drewN | apply Kd.R_drew)); exact (Kd.R_mono (Kd.R_far (p := ⟨gb183, 3, none⟩) (Kd.R_far (p := ⟨gb183, 2, none⟩) (Kd.R_far (p := ⟨gb183, 1, none⟩) (Kd.R_far (p := ⟨gb183, 0, none⟩) (Kd.R_types HO178.out BK183.out (by decide)) (fun _ hk => hk.2) (.int .i64 t174)) (fun _ hk => hk.2) (.int .i64 t175)) (fun _ hk => hk.2) (.slice Ao9 t176.length co9)) (fun _ hk => hk.2) (.slice Ao10 t179.length co10)) (fun _ h_ => h_.1))))) (Kd.R_lt (by (with_reducible repeat (first | apply Kd.R_alloc | apply Kd.R_drewN | apply Kd.R_drew)); exact (Kd.R_mono (Kd.R_far (p := ⟨gb183, 3, none⟩) (Kd.R_far (p := ⟨gb183, 2, none⟩) (Kd.R_far (p := ⟨gb183, 1, none⟩) (Kd.R_far (p := ⟨gb183, 0, none⟩) (Kd.R_types HO181.out BK183.out (by decide)) (fun _ hk => hk.2) (.int .i64 t174)) (fun _ hk => hk.2) (.int .i64 t175)) (fun _ hk => hk.2) (.slice Ao9 t176.length co9)) (fun _ hk => hk.2) (.slice Ao10 t179.length co10)) (fun _ h_ => h_.1))))) (below_size (by repeat (first | (with_reducible first | exact HB.out | apply below_alloc | apply pw_below_drewN | apply below_drew1 | refine below_set ?_ GE183.out) | exact HB.out)))); have n3_ := Aside0.mk (Kd.R_lower (Kd.R_new' (Kd.R_new' ho1 (Kd.R_lt (by (with_reducible repeat (first | apply Kd.R_alloc | apply Kd.R_drewN | apply Kd.R_drew)); exact (Kd.R_mono (Kd.R_far (p := ⟨gb183, 3, none⟩) (Kd.R_far (p := ⟨gb183, 2, none⟩) (Kd.R_far (p := ⟨gb183, 1, none⟩) (Kd.R_far (p := ⟨gb183, 0, none⟩) (Kd.R_types HO178.out BK183.out (by decide)) (fun _ hk => hk.2) (.int .i64 t174)) (fun _ hk => hk.2) (.int .i64 t175)) (fun _ hk => hk.2) (.slice Ao9 t176.length co9)) (fun _ hk => hk.2) (.slice Ao10 t179.length co10)) (fun _ h_ => h_.1))))) (Kd.R_lt (by (with_reducible repeat (first | apply Kd.R_alloc | apply Kd.R_drewN | apply Kd.R_drew)); exact (Kd.R_mono (Kd.R_far (p := ⟨gb183, 3, none⟩) (Kd.R_far (p := ⟨gb183, 2, none⟩) (Kd.R_far (p := ⟨gb183, 1, none⟩) (Kd.R_far (p := ⟨gb183, 0, none⟩) (Kd.R_types HO181.out BK183.out (by decide)) (fun _ hk => hk.2) (.int .i64 t174)) (fun _ hk => hk.2) (.int .i64 t175)) (fun _ hk => hk.2) (.slice Ao9 t176.length co9)) (fun _ hk => hk.2) (.slice Ao10 t179.length co10)) (fun _ h_ => h_.1))))) (below_size (by repeat (first | (with_reducible first | exact HB.out | apply below_alloc | apply pw_below_drewN | apply below_drew1 | refine below_set ?_ GE183.out) | exact HB.out)))); have n4_ := Aside0.mk (blk_below (g := gb183) (o := .cells #[.int .i64 t174, .int .i64 t175, .slice Ao9 t176.length co9, .slice Ao10 t179.length co10] 34 (0, 0)) (by (with_reducible repeat (first | refine blk_drewN ?_ _ | refine blk_drew ?_ | refine blk_alloc ?_ _)); refine blk_put (cs := #[.int .i64 t174, .int .i64 t175, .slice Ao9 t176.length co9, .slice none 0 0]) ?_ 3 _ rfl; (with_reducible repeat (first | refine blk_drewN ?_ _ | refine blk_drew ?_ | refine blk_alloc ?_ _)); refine blk_put (cs := #[.int .i64 t174, .int .i64 t175, .slice none 0 0, .slice none 0 0]) ?_ 2 _ rfl; (with_reducible repeat (first | refine blk_drewN ?_ _ | refine blk_drew ?_ | refine blk_alloc ?_ _)); refine blk_put (cs := #[.int .i64 t174, .int .i64 0, .slice none 0 0, .slice none 0 0]) ?_ 1 _ rfl; (with_reducible repeat (first | refine blk_drewN ?_ _ | refine blk_drew ?_ | refine blk_alloc ?_ _)); refine blk_put (cs := #[.int .i64 0, .int .i64 0, .slice none 0 0, .slice none 0 0]) ?_ 0 _ rfl; (with_reducible repeat (first | refine blk_drewN ?_ _ | refine blk_drew ?_ | refine blk_alloc ?_ _)); exact BK183.out) hb); have n5_ := Aside0.mk (below_step (by repeat (first | (with_reducible first | exact HB.out | apply below_alloc | apply pw_below_drewN | apply below_drew1 | refine below_set ?_ GE183.out) | exact HB.out)) hb); clear HO178; clear HO181; clear BK183; clear HB; have HO178 := n0_; have HO181 := n1_; have HO188 := n2_; have HO191 := n3_; have BK183 := n4_; have HB := n5_; clear n0_ n1_ n2_ n3_ n4_ n5_; (try clear hb); (try clear hb2); (try clear hk); (try clear hi); (try clear ho0); (try clear ho1)) | ((with_reducible refine gate_dst (N := 7) rfl ?_); refine box_event ?hg (N := 7) ?hd (cs := #[.int .i64 0, .int .i64 0, .slice none 0 0, .slice none 0 0]) (t := 34) ?hr ?_; (case hd => rfl); (case hg => rfl); (case hr => first | (go_simp; done) | (go_simp; rfl)); intro gb193 hg w12 hbox hb; have n0_ := Aside0.mk (Kd.R_below (by (with_reducible repeat (first | apply Kd.R_alloc | apply Kd.R_drewN | apply Kd.R_drew)); exact HO178.out) hb); have n1_ := Aside0.mk (Kd.R_below (by (with_reducible repeat (first | apply Kd.R_alloc | apply Kd.R_drewN | apply Kd.R_drew)); exact HO181.out) hb); have n2_ := Aside0.mk (Kd.R_below (by (with_reducible repeat (first | apply Kd.R_alloc | apply Kd.R_drewN | apply Kd.R_drew)); exact HO188.out) hb); have n3_ := Aside0.mk (Kd.R_below (by (with_reducible repeat (first | apply Kd.R_alloc | apply Kd.R_drewN | apply Kd.R_drew)); exact HO191.out) hb); have n4_ := Aside0.mk (blk_below (g := gb183) (o := .cells #[.int .i64 t174, .int .i64 t175, .slice Ao9 t176.length co9, .slice Ao10 t179.length co10] 34 (0, 0)) (by (with_reducible repeat (first | refine blk_drewN ?_ _ | refine blk_drew ?_ | refine blk_alloc ?_ _)); exact BK183.out) hb); have n5_ := Aside0.mk (below_step (by repeat (first | (with_reducible first | exact HB.out | apply below_alloc | apply pw_below_drewN | apply below_drew1 | refine below_set ?_ GE183.out) | exact HB.out)) hb); have n6_ := Aside0.mk (hbox); have n7_ := Aside0.mk ((by rw [hg]; exact (below_size (by repeat (first | (with_reducible first | exact HB.out | apply below_alloc | apply pw_below_drewN | apply below_drew1 | refine below_set ?_ GE183.out) | exact HB.out))) : w.heap.size ≤ gb193)); have n8_ := Aside0.mk ((by rw [hg]; exact (below_size (by repeat (first | (with_reducible first | exact HB.out | apply below_alloc | apply pw_below_drewN | apply below_drew1 | refine below_set ?_ GE183.out) | exact HB.out))) : w.heap.size ≤ gb193)); have n9_ := Aside0.mk ((by rw [hg]; exact Nat.ne_of_lt (blk_lt (g := gb183) (o := .cells #[.int .i64 t174, .int .i64 t175, .slice Ao9 t176.length co9, .slice Ao10 t179.length co10] 34 (0, 0)) (by (with_reducible repeat (first | refine blk_drewN ?_ _ | refine blk_drew ?_ | refine blk_alloc ?_ _)); exact BK183.out)) : gb183 ≠ gb193)); have n10_ := Aside0.mk ((by rw [hg]; exact Nat.ne_of_gt (blk_lt (g := gb183) (o := .cells #[.int .i64 t174, .int .i64 t175, .slice Ao9 t176.length co9, .slice Ao10 t179.length co10] 34 (0, 0)) (by (with_reducible repeat (first | refine blk_drewN ?_ _ | refine blk_drew ?_ | refine blk_alloc ?_ _)); exact BK183.out)) : gb193 ≠ gb183)); clear HO178; clear HO181; clear HO188; clear HO191; clear BK183; clear HB; have HO178 := n0_; have HO181 := n1_; have HO188 := n2_; have HO191 := n3_; have BK183 := n4_; have HB := n5_; have BK193 := n6_; have GW193 := n7_; have GE193 := n8_; have NB183_193 := n9_; have NB193_183 := n10_; clear n0_ n1_ n2_ n3_ n4_ n5_ n6_ n7_ n8_ n9_ n10_; clear hb hbox hg; have hnb13 := NB193_183.out; have hnc13 := NB183_193.out; have hcz14_0 : w12.cell? ⟨gb193, 0, none⟩ = some (.int .i64 0) := (blk_cell BK193.out 0).trans rfl; have hcz14_1 : w12.cell? ⟨gb193, 1, none⟩ = some (.int .i64 0) := (blk_cell BK193.out 1).trans rfl; have hcz14_2 : w12.cell? ⟨gb193, 2, none⟩ = some (.slice none 0 0) := (blk_cell BK193.out 2).trans rfl; have hcz14_3 : w12.cell? ⟨gb193, 3, none⟩ = some (.slice none 0 0) := (blk_cell BK193.out 3).trans rfl; have hfz14_0 := blk_frozen BK193.out 0; have hfz14_1 := blk_frozen BK193.out 1; have hfz14_2 := blk_frozen BK193.out 2; have hfz14_3 := blk_frozen BK193.out 3; obtain ⟨Ao15, co15, eo15⟩ := Kd.R_slice HO188.out; subst eo15; obtain ⟨Ao16, co16, eo16⟩ := Kd.R_slice HO191.out; subst eo16))
 (try simp only [Act.put, List.setIfInBounds_toArray, List.set_cons_zero, List.set_cons_succ])
 go_cut [33] (fun v33 wc => ∃ (kq : Nat) (x33_4 : Bool), v33 = .bool x33_4 ∧ Aside0 (laws_FnExactFullFigure.j0 kq a0 a1 t182 x33_4 t174 t175 t176 t179 t184 t185 t186 t189 = some r) ∧ Aside0 (kq ≤ k) ∧ Aside0 (Kd.R (Kd.int .i64) 3 wc w.heap.size (fun k_ => some k_ ≠ ((.slice Ao10 t179.length co10) : Value).ownBlock ∧ some k_ ≠ ((.slice Ao15 t186.length co15) : Value).ownBlock ∧ some k_ ≠ ((.slice Ao16 t189.length co16) : Value).ownBlock) (.slice Ao9 t176.length co9) t176) ∧ Aside0 (Kd.R (Kd.int .i64) 3 wc w.heap.size (fun k_ => some k_ ≠ ((.slice Ao9 t176.length co9) : Value).ownBlock ∧ some k_ ≠ ((.slice Ao15 t186.length co15) : Value).ownBlock ∧ some k_ ≠ ((.slice Ao16 t189.length co16) : Value).ownBlock) (.slice Ao10 t179.length co10) t179) ∧ Aside0 (Kd.R (Kd.int .i64) 3 wc w.heap.size (fun k_ => some k_ ≠ ((.slice Ao9 t176.length co9) : Value).ownBlock ∧ some k_ ≠ ((.slice Ao10 t179.length co10) : Value).ownBlock ∧ some k_ ≠ ((.slice Ao16 t189.length co16) : Value).ownBlock) (.slice Ao15 t186.length co15) t186) ∧ Aside0 (Kd.R (Kd.int .i64) 3 wc w.heap.size (fun k_ => some k_ ≠ ((.slice Ao9 t176.length co9) : Value).ownBlock ∧ some k_ ≠ ((.slice Ao10 t179.length co10) : Value).ownBlock ∧ some k_ ≠ ((.slice Ao15 t186.length co15) : Value).ownBlock) (.slice Ao16 t189.length co16) t189) ∧ Aside0 (wc.heap[gb183]? = some (.cells #[.int .i64 t174, .int .i64 t175, (.slice Ao9 t176.length co9), (.slice Ao10 t179.length co10)] 34 (0, 0))) ∧ Aside0 (wc.heap[gb193]? = some (.cells #[.int .i64 t184, .int .i64 t185, (.slice Ao15 t186.length co15), (.slice Ao16 t189.length co16)] 34 (0, 0))) ∧ Aside0 (Below w.heap.size w wc))
 case first =>
  have H := HC5.out
  clear HC5
  replace H := Option.bind_eq_some_iff.mp H
  obtain ⟨t194, A170, H⟩ := H
  replace H : (if t194 = true then (laws_FnExactFullFigure.j0 k a0 a1 t182 (t192 != t182) t174 t175 t176 t179 t184 t185 t186 t189) else (laws_FnExactFullFigure.j0 k a0 a1 t182 true t174 t175 t176 t179 t184 t185 t186 t189)) = some r := H
  have A17 := Aside0.mk A170
  clear A170
  by_cases c18 : t194 = true
  ·subst c18
   have H1 : (laws_FnExactFullFigure.j0 k a0 a1 t182 (t192 != t182) t174 t175 t176 t179 t184 t185 t186 t189) = some r := by rw [if_pos rfl] at H; exact H
   clear H
   have H := H1
   clear H1
   have H' := Aside0.mk H
   clear H
   have hnb19 := NB193_183.out
   have hnc19 := NB183_193.out
   have hcz20_0 : w12.cell? ⟨gb193, 0, none⟩ = some (.int .i64 0) := (blk_cell BK193.out 0).trans rfl
   have hcz20_1 : w12.cell? ⟨gb193, 1, none⟩ = some (.int .i64 0) := (blk_cell BK193.out 1).trans rfl
   have hcz20_2 : w12.cell? ⟨gb193, 2, none⟩ = some (.slice none 0 0) := (blk_cell BK193.out 2).trans rfl
   have hcz20_3 : w12.cell? ⟨gb193, 3, none⟩ = some (.slice none 0 0) := (blk_cell BK193.out 3).trans rfl
   have hfz20_0 := blk_frozen BK193.out 0
   have hfz20_1 := blk_frozen BK193.out 1
   have hfz20_2 := blk_frozen BK193.out 2
   have hfz20_3 := blk_frozen BK193.out 3
   have hcz21_0 : w12.cell? ⟨gb183, 0, none⟩ = some (.int .i64 t174) := (blk_cell BK183.out 0).trans rfl
   have hcz21_1 : w12.cell? ⟨gb183, 1, none⟩ = some (.int .i64 t175) := (blk_cell BK183.out 1).trans rfl
   have hcz21_2 : w12.cell? ⟨gb183, 2, none⟩ = some (.slice Ao9 t176.length co9) := (blk_cell BK183.out 2).trans rfl
   have hcz21_3 : w12.cell? ⟨gb183, 3, none⟩ = some (.slice Ao10 t179.length co10) := (blk_cell BK183.out 3).trans rfl
   have hfz21_0 := blk_frozen BK183.out 0
   have hfz21_1 := blk_frozen BK183.out 1
   have hfz21_2 := blk_frozen BK183.out 2
   have hfz21_3 := blk_frozen BK183.out 3
   go_wp2_with (first | ((with_reducible refine gate_callee (f := 18) rfl ?_); refine goesL_ (some 27) rfl rfl Tryd.func18 (by kernel_rfl) rfl #[.agg #[.int .i64 t184, .int .i64 t185, .slice Ao15 t186.length co15, .slice Ao16 t189.length co16], .agg #[.int .i64 t174, .int .i64 t175, .slice Ao9 t176.length co9, .slice Ao10 t179.length co10]] rfl (by (try simp only [List.map_toArray, List.map_cons, List.map_nil]); first | done | rfl | (simp only [List.length_drop, List.length_take]; rfl)) ?_; (with_reducible refine (laws_eqFigure.calls k t184 t185 _ _ t186 _ _ t189 t174 t175 _ _ t176 _ _ t179 true _ ?side1 ?side2 ?side3 ?side4 ?side5 ?side6 ?side7 ?side8 A17.out).mono ?_); (case side1 => refine (Kd.R_reads' (e := 3) (base := w.heap.size) (ok := fun k_ => ((some k_ ≠ (.slice Ao16 t189.length co16 : Value).ownBlock ∧ some k_ ≠ (.slice Ao9 t176.length co9 : Value).ownBlock) ∧ some k_ ≠ (.slice Ao10 t179.length co10 : Value).ownBlock)) (n := t186.length) (c := co15) ?_).2.2; exact (by (with_reducible repeat (first | apply Kd.R_alloc | apply Kd.R_drewN | apply Kd.R_drew)); exact (Kd.R_mono (Kd.R_far (p := ⟨gb193, 3, none⟩) (Kd.R_far (p := ⟨gb193, 2, none⟩) (Kd.R_far (p := ⟨gb193, 1, none⟩) (Kd.R_far (p := ⟨gb193, 0, none⟩) (Kd.R_types HO188.out BK193.out (by decide)) (fun _ hk => hk.2) (.int .i64 t184)) (fun _ hk => hk.2) (.int .i64 t185)) (fun _ hk => hk.2) (.slice Ao15 t186.length co15)) (fun _ hk => hk.2) (.slice Ao16 t189.length co16)) (fun _ h_ => h_.1)))); (case side2 => exact (Kd.R_reads' HO188.out).2.1); (case side3 => refine (Kd.R_reads' (e := 3) (base := w.heap.size) (ok := fun k_ => ((some k_ ≠ (.slice Ao15 t186.length co15 : Value).ownBlock ∧ some k_ ≠ (.slice Ao9 t176.length co9 : Value).ownBlock) ∧ some k_ ≠ (.slice Ao10 t179.length co10 : Value).ownBlock)) (n := t189.length) (c := co16) ?_).2.2; exact (by (with_reducible repeat (first | apply Kd.R_alloc | apply Kd.R_drewN | apply Kd.R_drew)); exact (Kd.R_mono (Kd.R_far (p := ⟨gb193, 3, none⟩) (Kd.R_far (p := ⟨gb193, 2, none⟩) (Kd.R_far (p := ⟨gb193, 1, none⟩) (Kd.R_far (p := ⟨gb193, 0, none⟩) (Kd.R_types HO191.out BK193.out (by decide)) (fun _ hk => hk.2) (.int .i64 t184)) (fun _ hk => hk.2) (.int .i64 t185)) (fun _ hk => hk.2) (.slice Ao15 t186.length co15)) (fun _ hk => hk.2) (.slice Ao16 t189.length co16)) (fun _ h_ => h_.1)))); (case side4 => exact (Kd.R_reads' HO191.out).2.1); (case side5 => refine (Kd.R_reads' (e := 3) (base := w.heap.size) (ok := fun k_ => ((some k_ ≠ (.slice Ao10 t179.length co10 : Value).ownBlock ∧ some k_ ≠ (.slice Ao15 t186.length co15 : Value).ownBlock) ∧ some k_ ≠ (.slice Ao16 t189.length co16 : Value).ownBlock)) (n := t176.length) (c := co9) ?_).2.2; exact (by (with_reducible repeat (first | apply Kd.R_alloc | apply Kd.R_drewN | apply Kd.R_drew)); exact (Kd.R_mono (Kd.R_far (p := ⟨gb193, 3, none⟩) (Kd.R_far (p := ⟨gb193, 2, none⟩) (Kd.R_far (p := ⟨gb193, 1, none⟩) (Kd.R_far (p := ⟨gb193, 0, none⟩) (Kd.R_types HO178.out BK193.out (by decide)) (fun _ hk => hk.2) (.int .i64 t184)) (fun _ hk => hk.2) (.int .i64 t185)) (fun _ hk => hk.2) (.slice Ao15 t186.length co15)) (fun _ hk => hk.2) (.slice Ao16 t189.length co16)) (fun _ h_ => h_.1)))); (case side6 => exact (Kd.R_reads' HO178.out).2.1); (case side7 => refine (Kd.R_reads' (e := 3) (base := w.heap.size) (ok := fun k_ => ((some k_ ≠ (.slice Ao9 t176.length co9 : Value).ownBlock ∧ some k_ ≠ (.slice Ao15 t186.length co15 : Value).ownBlock) ∧ some k_ ≠ (.slice Ao16 t189.length co16 : Value).ownBlock)) (n := t179.length) (c := co10) ?_).2.2; exact (by (with_reducible repeat (first | apply Kd.R_alloc | apply Kd.R_drewN | apply Kd.R_drew)); exact (Kd.R_mono (Kd.R_far (p := ⟨gb193, 3, none⟩) (Kd.R_far (p := ⟨gb193, 2, none⟩) (Kd.R_far (p := ⟨gb193, 1, none⟩) (Kd.R_far (p := ⟨gb193, 0, none⟩) (Kd.R_types HO181.out BK193.out (by decide)) (fun _ hk => hk.2) (.int .i64 t184)) (fun _ hk => hk.2) (.int .i64 t185)) (fun _ hk => hk.2) (.slice Ao15 t186.length co15)) (fun _ hk => hk.2) (.slice Ao16 t189.length co16)) (fun _ h_ => h_.1)))); (case side8 => exact (Kd.R_reads' HO181.out).2.1); rintro e w22 ⟨rfl, hb⟩; refine ⟨_, rfl, ?_⟩; have n0_ := Aside0.mk (Kd.R_below (by (with_reducible repeat (first | apply Kd.R_alloc | apply Kd.R_drewN | apply Kd.R_drew)); exact (Kd.R_mono (Kd.R_far (p := ⟨gb193, 3, none⟩) (Kd.R_far (p := ⟨gb193, 2, none⟩) (Kd.R_far (p := ⟨gb193, 1, none⟩) (Kd.R_far (p := ⟨gb193, 0, none⟩) (Kd.R_types HO178.out BK193.out (by decide)) (fun _ hk => hk.2) (.int .i64 t184)) (fun _ hk => hk.2) (.int .i64 t185)) (fun _ hk => hk.2) (.slice Ao15 t186.length co15)) (fun _ hk => hk.2) (.slice Ao16 t189.length co16)) (fun _ h_ => h_.1))) hb); have n1_ := Aside0.mk (Kd.R_below (by (with_reducible repeat (first | apply Kd.R_alloc | apply Kd.R_drewN | apply Kd.R_drew)); exact (Kd.R_mono (Kd.R_far (p := ⟨gb193, 3, none⟩) (Kd.R_far (p := ⟨gb193, 2, none⟩) (Kd.R_far (p := ⟨gb193, 1, none⟩) (Kd.R_far (p := ⟨gb193, 0, none⟩) (Kd.R_types HO181.out BK193.out (by decide)) (fun _ hk => hk.2) (.int .i64 t184)) (fun _ hk => hk.2) (.int .i64 t185)) (fun _ hk => hk.2) (.slice Ao15 t186.length co15)) (fun _ hk => hk.2) (.slice Ao16 t189.length co16)) (fun _ h_ => h_.1))) hb); have n2_ := Aside0.mk (Kd.R_below (by (with_reducible repeat (first | apply Kd.R_alloc | apply Kd.R_drewN | apply Kd.R_drew)); exact (Kd.R_mono (Kd.R_far (p := ⟨gb193, 3, none⟩) (Kd.R_far (p := ⟨gb193, 2, none⟩) (Kd.R_far (p := ⟨gb193, 1, none⟩) (Kd.R_far (p := ⟨gb193, 0, none⟩) (Kd.R_types HO188.out BK193.out (by decide)) (fun _ hk => hk.2) (.int .i64 t184)) (fun _ hk => hk.2) (.int .i64 t185)) (fun _ hk => hk.2) (.slice Ao15 t186.length co15)) (fun _ hk => hk.2) (.slice Ao16 t189.length co16)) (fun _ h_ => h_.1))) hb); have n3_ := Aside0.mk (Kd.R_below (by (with_reducible repeat (first | apply Kd.R_alloc | apply Kd.R_drewN | apply Kd.R_drew)); exact (Kd.R_mono (Kd.R_far (p := ⟨gb193, 3, none⟩) (Kd.R_far (p := ⟨gb193, 2, none⟩) (Kd.R_far (p := ⟨gb193, 1, none⟩) (Kd.R_far (p := ⟨gb193, 0, none⟩) (Kd.R_types HO191.out BK193.out (by decide)) (fun _ hk => hk.2) (.int .i64 t184)) (fun _ hk => hk.2) (.int .i64 t185)) (fun _ hk => hk.2) (.slice Ao15 t186.length co15)) (fun _ hk => hk.2) (.slice Ao16 t189.length co16)) (fun _ h_ => h_.1))) hb); have n4_ := Aside0.mk (blk_below (g := gb183) (o := .cells #[.int .i64 t174, .int .i64 t175, .slice Ao9 t176.length co9, .slice Ao10 t179.length co10] 34 (0, 0)) (by (with_reducible repeat (first | refine blk_drewN ?_ _ | refine blk_drew ?_ | refine blk_alloc ?_ _)); refine blk_far ?_ NB183_193.out _; (with_reducible repeat (first | refine blk_drewN ?_ _ | refine blk_drew ?_ | refine blk_alloc ?_ _)); refine blk_far ?_ NB183_193.out _; (with_reducible repeat (first | refine blk_drewN ?_ _ | refine blk_drew ?_ | refine blk_alloc ?_ _)); refine blk_far ?_ NB183_193.out _; (with_reducible repeat (first | refine blk_drewN ?_ _ | refine blk_drew ?_ | refine blk_alloc ?_ _)); refine blk_far ?_ NB183_193.out _; (with_reducible repeat (first | refine blk_drewN ?_ _ | refine blk_drew ?_ | refine blk_alloc ?_ _)); exact BK183.out) hb); have n5_ := Aside0.mk (blk_below (g := gb193) (o := .cells #[.int .i64 t184, .int .i64 t185, .slice Ao15 t186.length co15, .slice Ao16 t189.length co16] 34 (0, 0)) (by (with_reducible repeat (first | refine blk_drewN ?_ _ | refine blk_drew ?_ | refine blk_alloc ?_ _)); refine blk_put (cs := #[.int .i64 t184, .int .i64 t185, .slice Ao15 t186.length co15, .slice none 0 0]) ?_ 3 _ rfl; (with_reducible repeat (first | refine blk_drewN ?_ _ | refine blk_drew ?_ | refine blk_alloc ?_ _)); refine blk_put (cs := #[.int .i64 t184, .int .i64 t185, .slice none 0 0, .slice none 0 0]) ?_ 2 _ rfl; (with_reducible repeat (first | refine blk_drewN ?_ _ | refine blk_drew ?_ | refine blk_alloc ?_ _)); refine blk_put (cs := #[.int .i64 t184, .int .i64 0, .slice none 0 0, .slice none 0 0]) ?_ 1 _ rfl; (with_reducible repeat (first | refine blk_drewN ?_ _ | refine blk_drew ?_ | refine blk_alloc ?_ _)); refine blk_put (cs := #[.int .i64 0, .int .i64 0, .slice none 0 0, .slice none 0 0]) ?_ 0 _ rfl; (with_reducible repeat (first | refine blk_drewN ?_ _ | refine blk_drew ?_ | refine blk_alloc ?_ _)); exact BK193.out) hb); have n6_ := Aside0.mk (below_step (by repeat (first | (with_reducible first | exact HB.out | apply below_alloc | apply pw_below_drewN | apply below_drew1 | refine below_set ?_ GE183.out | refine below_set ?_ GE193.out) | exact HB.out)) hb); clear HO178; clear HO181; clear HO188; clear HO191; clear BK183; clear BK193; clear HB; have HO178 := n0_; have HO181 := n1_; have HO188 := n2_; have HO191 := n3_; have BK183 := n4_; have BK193 := n5_; have HB := n6_; clear n0_ n1_ n2_ n3_ n4_ n5_ n6_; (try clear hb); (try clear hb2); (try clear hk); (try clear hi)))
   go_meet
   case rel => exact ⟨_, ((t192 != t182)), (by first | rfl | (simp; done) | (simp [*]; done)), H', ⟨by first | omega | exact Nat.le_refl _⟩, ⟨by (with_reducible repeat (first | apply Kd.R_alloc | apply Kd.R_drewN | apply Kd.R_drew)); exact Kd.R_mono HO178.out (fun _ hk => ⟨hk.1.1, ⟨hk.1.2, hk.2⟩⟩)⟩, ⟨by (with_reducible repeat (first | apply Kd.R_alloc | apply Kd.R_drewN | apply Kd.R_drew)); exact Kd.R_mono HO181.out (fun _ hk => ⟨hk.1.1, ⟨hk.1.2, hk.2⟩⟩)⟩, ⟨by (with_reducible repeat (first | apply Kd.R_alloc | apply Kd.R_drewN | apply Kd.R_drew)); exact Kd.R_mono HO188.out (fun _ hk => ⟨hk.1.2, ⟨hk.2, hk.1.1⟩⟩)⟩, ⟨by (with_reducible repeat (first | apply Kd.R_alloc | apply Kd.R_drewN | apply Kd.R_drew)); exact Kd.R_mono HO191.out (fun _ hk => ⟨hk.1.2, ⟨hk.2, hk.1.1⟩⟩)⟩, ⟨by (with_reducible repeat (first | refine blk_drewN ?_ _ | refine blk_drew ?_ | refine blk_alloc ?_ _)); exact BK183.out⟩, ⟨by (with_reducible repeat (first | refine blk_drewN ?_ _ | refine blk_drew ?_ | refine blk_alloc ?_ _)); exact BK193.out⟩, ⟨by repeat (first | (with_reducible first | exact HB.out | apply below_alloc | apply pw_below_drewN | apply below_drew1 | refine below_set ?_ GE183.out | refine below_set ?_ GE193.out) | exact HB.out)⟩⟩
  ·replace c18 := Bool.eq_false_iff.mpr c18
   subst c18
   have H1 : (laws_FnExactFullFigure.j0 k a0 a1 t182 true t174 t175 t176 t179 t184 t185 t186 t189) = some r := by rw [if_neg (show ¬ (false = true) by decide)] at H; exact H
   clear H
   have H := H1
   clear H1
   exact absurd HR_.out (by cases k <;> simp [laws_FnExactFullFigure.j0] at H <;> first | simp [← H] | simp [H] | simp_all)
 case rest =>
  clear HC5
  try clear c1
  try clear c2
  try clear p2
  try clear c5
  try clear c13
  try clear c18
  try clear c19
  try clear c21
  try clear c22
  try clear hcz14_0
  try clear hcz14_1
  try clear hcz14_2
  try clear hcz14_3
  try clear hcz20_0
  try clear hcz20_1
  try clear hcz20_2
  try clear hcz20_3
  try clear hcz21_0
  try clear hcz21_1
  try clear hcz21_2
  try clear hcz21_3
  try clear hcz8_0
  try clear hcz8_1
  try clear hcz8_2
  try clear hcz8_3
  try clear hfz14_0
  try clear hfz14_1
  try clear hfz14_2
  try clear hfz14_3
  try clear hfz20_0
  try clear hfz20_1
  try clear hfz20_2
  try clear hfz20_3
  try clear hfz21_0
  try clear hfz21_1
  try clear hfz21_2
  try clear hfz21_3
  try clear hfz8_0
  try clear hfz8_1
  try clear hfz8_2
  try clear hfz8_3
  obtain ⟨kq, x33_4, rfl, HA, HJ4, HO_184002, HO_184003, HO_194002, HO_194003, BK183, BK193, HB⟩ := hcut
  cases kq with
  | zero => exact absurd HA.out (by simp [laws_FnExactFullFigure.j0])
  | succ kj4 =>
   have H := HA.out
   clear HA
   simp only [laws_FnExactFullFigure.j0] at H
   by_cases c23 : x33_4 = true
   ·subst c23
    have H1 : (some false) = some r := by rw [if_pos rfl] at H; exact H
    clear H
    have H := H1
    clear H1
    exact absurd ((Option.some.inj H).trans HR_.out) Bool.false_ne_true
   ·replace c23 := Bool.eq_false_iff.mpr c23
    subst c23
    have H1 : ((laws_markFigure.f kj4 t184 t185 t186 t189 101).bind fun bt195 => ((laws_heldFigure.f kj4 t184 t185 bt195.2.1 bt195.2.2 101).bind fun t198 => (if t198 < 0 then (some false) else (if t198 = bt195.1 then ((impl_FullFigure.f kj4 a0 a1).bind fun bt199 => ((laws_eqFigure.f kj4 bt199.1 bt199.2.1 bt199.2.2.1 bt199.2.2.2.1 t174 t175 t176 t179).bind fun t209 => (if t209 = true then (laws_FnExactFullFigure.j1 kj4 bt195.1 (bt199.2.2.2.2 != t182) t184 t185 bt195.2.1 bt195.2.2) else (laws_FnExactFullFigure.j1 kj4 bt195.1 true t184 t185 bt195.2.1 bt195.2.2)))) else (some false))))) = some r := by rw [if_neg (show ¬ (false = true) by decide)] at H; exact H
    clear H
    have H := H1
    clear H1
    replace H := Option.bind_eq_some_iff.mp H
    obtain ⟨⟨t195, t196, t197⟩, A240, H⟩ := H
    replace H : ((laws_heldFigure.f kj4 t184 t185 t196 t197 101).bind fun t198 => (if t198 < 0 then (some false) else (if t198 = t195 then ((impl_FullFigure.f kj4 a0 a1).bind fun bt199 => ((laws_eqFigure.f kj4 bt199.1 bt199.2.1 bt199.2.2.1 bt199.2.2.2.1 t174 t175 t176 t179).bind fun t209 => (if t209 = true then (laws_FnExactFullFigure.j1 kj4 t195 (bt199.2.2.2.2 != t182) t184 t185 t196 t197) else (laws_FnExactFullFigure.j1 kj4 t195 true t184 t185 t196 t197)))) else (some false)))) = some r := H
    have A24 := Aside0.mk A240
    clear A240
    replace H := Option.bind_eq_some_iff.mp H
    obtain ⟨t198, A250, H⟩ := H
    replace H : (if t198 < 0 then (some false) else (if t198 = t195 then ((impl_FullFigure.f kj4 a0 a1).bind fun bt199 => ((laws_eqFigure.f kj4 bt199.1 bt199.2.1 bt199.2.2.1 bt199.2.2.2.1 t174 t175 t176 t179).bind fun t209 => (if t209 = true then (laws_FnExactFullFigure.j1 kj4 t195 (bt199.2.2.2.2 != t182) t184 t185 t196 t197) else (laws_FnExactFullFigure.j1 kj4 t195 true t184 t185 t196 t197)))) else (some false))) = some r := H
    have A25 := Aside0.mk A250
    clear A250
    by_cases c26 : t198 < 0
    ·rw [if_pos c26] at H
     have c26b0 : decide (t198 < 0) = true := decide_eq_true c26
     clear c26
     exact absurd ((Option.some.inj H).trans HR_.out) Bool.false_ne_true
    ·rw [if_neg c26] at H
     have c26b0 : decide (t198 < 0) = false := decide_eq_false c26
     clear c26
     by_cases c27 : t198 = t195
     ·rw [if_pos c27] at H
      have c27b0 : (t198 == t195) = true := beq_iff_eq.mpr c27
      have c27b1 : (t198 != t195) = false := bne_eq_false_iff_eq.mpr c27
      clear c27
      replace H := Option.bind_eq_some_iff.mp H
      obtain ⟨⟨t199, t200, t201, t204, t207⟩, A280, H⟩ := H
      replace H : ((laws_eqFigure.f kj4 t199 t200 t201 t204 t174 t175 t176 t179).bind fun t209 => (if t209 = true then (laws_FnExactFullFigure.j1 kj4 t195 (t207 != t182) t184 t185 t196 t197) else (laws_FnExactFullFigure.j1 kj4 t195 true t184 t185 t196 t197))) = some r := H
      have A28 := Aside0.mk A280
      clear A280
      have HC29 := Aside0.mk H
      clear H
      have hnb30 := NB193_183.out
      have hnc30 := NB183_193.out
      have hcz31_0 : wc.cell? ⟨gb193, 0, none⟩ = some (.int .i64 t184) := (blk_cell BK193.out 0).trans rfl
      have hcz31_1 : wc.cell? ⟨gb193, 1, none⟩ = some (.int .i64 t185) := (blk_cell BK193.out 1).trans rfl
      have hcz31_2 : wc.cell? ⟨gb193, 2, none⟩ = some (.slice Ao15 t186.length co15) := (blk_cell BK193.out 2).trans rfl
      have hcz31_3 : wc.cell? ⟨gb193, 3, none⟩ = some (.slice Ao16 t189.length co16) := (blk_cell BK193.out 3).trans rfl
      have hfz31_0 := blk_frozen BK193.out 0
      have hfz31_1 := blk_frozen BK193.out 1
      have hfz31_2 := blk_frozen BK193.out 2
      have hfz31_3 := blk_frozen BK193.out 3
      go_upto_region 14 with (first | ((with_reducible refine gate_callee (f := 19) rfl ?_); refine goesL_ (some 36) rfl rfl Tryd.func19 (by kernel_rfl) rfl #[.agg #[.int .i64 t184, .int .i64 t185, .slice Ao15 t186.length co15, .slice Ao16 t189.length co16], .int .i64 101] rfl (by (try simp only [List.map_toArray, List.map_cons, List.map_nil]); first | done | rfl | (simp only [List.length_drop, List.length_take]; rfl)) ?_; (with_reducible refine (laws_markFigure.calls kj4 t184 t185 (fun k_ => some k_ = (.slice Ao15 t186.length co15 : Value).ownBlock) (.slice Ao15 t186.length co15) t186 (fun k_ => some k_ = (.slice Ao16 t189.length co16 : Value).ownBlock) (.slice Ao16 t189.length co16) t189 101 t195 t196 t197 w _ ?side1 ?side2 ?side3 ?side4 ?side5 A24.out).mono ?_); (case side1 => repeat (first | (with_reducible first | exact HB.out | apply below_alloc | apply pw_below_drewN | apply below_drew1 | refine below_set ?_ GE183.out | refine below_set ?_ GE193.out) | exact HB.out)); (case side2 => exact Kd.R_tight rfl HO_194002.out); (case side3 => exact fun k_ e_ => (HO_194002.out.1 k_ e_.symm).2.2); (case side4 => exact Kd.R_tight rfl HO_194003.out); (case side5 => exact fun k_ e_ => (HO_194003.out.1 k_ e_.symm).2.2); rintro e w32 ⟨rfl, hy0, hy1, hb, hkp⟩; refine ⟨_, rfl, ?_⟩; have n0_ := Aside0.mk (Kd.R_mono (ok' := fun k_ => some k_ ≠ (.slice Ao10 t179.length co10 : Value).ownBlock ∧ some k_ ≠ (.slice Ao15 t186.length co15 : Value).ownBlock ∧ some k_ ≠ (.slice Ao16 t189.length co16 : Value).ownBlock) (Kd.R_keptB (HO_184002.out) hkp (fun k_ hk_ hs_ => Or.elim hs_ (fun e_ => (hk_.2.1) e_) (fun e_ => (hk_.2.2) e_))) (fun k_ hk_ => ⟨hk_.1.1, hk_.1.2.1, hk_.1.2.2⟩)); have n1_ := Aside0.mk (Kd.R_mono (ok' := fun k_ => some k_ ≠ (.slice Ao9 t176.length co9 : Value).ownBlock ∧ some k_ ≠ (.slice Ao15 t186.length co15 : Value).ownBlock ∧ some k_ ≠ (.slice Ao16 t189.length co16 : Value).ownBlock) (Kd.R_keptB (HO_184003.out) hkp (fun k_ hk_ hs_ => Or.elim hs_ (fun e_ => (hk_.2.1) e_) (fun e_ => (hk_.2.2) e_))) (fun k_ hk_ => ⟨hk_.1.1, hk_.1.2.1, hk_.1.2.2⟩)); have n2_ := Aside0.mk (Kd.R_reok rfl hy0 (fun k_ e_ => HO_194002.out.1 k_ e_)); have n3_ := Aside0.mk (Kd.R_reok rfl hy1 (fun k_ e_ => HO_194003.out.1 k_ e_)); have n4_ := Aside0.mk (blk_kept (by (with_reducible repeat (first | refine blk_drewN ?_ _ | refine blk_drew ?_ | refine blk_alloc ?_ _)); exact BK183.out) hkp (fun hs_ => Or.elim hs_ (fun e_ => (fun e_ => (Kd.R_ne HO_194002.out BK183.out (by decide)) e_) e_) (fun e_ => (fun e_ => (Kd.R_ne HO_194003.out BK183.out (by decide)) e_) e_))); have n5_ := Aside0.mk (blk_kept (by (with_reducible repeat (first | refine blk_drewN ?_ _ | refine blk_drew ?_ | refine blk_alloc ?_ _)); exact BK193.out) hkp (fun hs_ => Or.elim hs_ (fun e_ => (fun e_ => (Kd.R_ne HO_194002.out BK193.out (by decide)) e_) e_) (fun e_ => (fun e_ => (Kd.R_ne HO_194003.out BK193.out (by decide)) e_) e_))); have n6_ := Aside0.mk (hb); clear HO_184002; clear HO_184003; clear HO_194002; clear HO_194003; clear BK183; clear BK193; clear HB; have HO_184002 := n0_; have HO_184003 := n1_; have HO_194002 := n2_; have HO_194003 := n3_; have BK183 := n4_; have BK193 := n5_; have HB := n6_; clear n0_ n1_ n2_ n3_ n4_ n5_ n6_; (try clear hb); (try clear hkp); (try clear hy0); (try clear hy1); have hcz33_0 : w32.cell? ⟨gb193, 0, none⟩ = some (.int .i64 t184) := (blk_cell BK193.out 0).trans rfl; have hcz33_1 : w32.cell? ⟨gb193, 1, none⟩ = some (.int .i64 t185) := (blk_cell BK193.out 1).trans rfl; have hcz33_2 : w32.cell? ⟨gb193, 2, none⟩ = some (.slice Ao15 t186.length co15) := (blk_cell BK193.out 2).trans rfl; have hcz33_3 : w32.cell? ⟨gb193, 3, none⟩ = some (.slice Ao16 t189.length co16) := (blk_cell BK193.out 3).trans rfl; have hfz33_0 := blk_frozen BK193.out 0; have hfz33_1 := blk_frozen BK193.out 1; have hfz33_2 := blk_frozen BK193.out 2; have hfz33_3 := blk_frozen BK193.out 3) | ((with_reducible refine gate_callee (f := 20) rfl ?_); refine goesL_ (some 39) rfl rfl Tryd.func20 (by kernel_rfl) rfl #[.agg #[.int .i64 t184, .int .i64 t185, .slice Ao15 t196.length co15, .slice Ao16 t197.length co16], .int .i64 101] rfl (by (try simp only [List.map_toArray, List.map_cons, List.map_nil]); first | done | (rw [show t196.length = t186.length from (Kd.R_reads' HO_194002.out).1.symm, show t197.length = t189.length from (Kd.R_reads' HO_194003.out).1.symm] <;> rfl) | rfl | (simp only [List.length_drop, List.length_take]; rfl)) ?_; (with_reducible refine (laws_heldFigure.calls kj4 t184 t185 _ _ t196 _ _ t197 101 t198 _ ?side1 ?side2 ?side3 ?side4 A25.out).mono ?_); (case side1 => repeat (first | exact (Kd.R_reads' HO_194002.out).2.2 | (with_reducible refine Kd.C_alloc ?_ _) | (with_reducible refine Kd.C_drewN ?_ _) | (with_reducible refine Kd.C_drew ?_))); (case side2 => rw [show t196.length = t186.length from (Kd.R_reads' HO_194002.out).1.symm]; exact (Kd.R_reads' HO_194002.out).2.1); (case side3 => repeat (first | exact (Kd.R_reads' HO_194003.out).2.2 | (with_reducible refine Kd.C_alloc ?_ _) | (with_reducible refine Kd.C_drewN ?_ _) | (with_reducible refine Kd.C_drew ?_))); (case side4 => rw [show t197.length = t189.length from (Kd.R_reads' HO_194003.out).1.symm]; exact (Kd.R_reads' HO_194003.out).2.1); rintro e w34 ⟨rfl, hb⟩; refine ⟨_, rfl, ?_⟩; have n0_ := Aside0.mk (Kd.R_below (by (with_reducible repeat (first | apply Kd.R_alloc | apply Kd.R_drewN | apply Kd.R_drew)); exact HO_184002.out) hb); have n1_ := Aside0.mk (Kd.R_below (by (with_reducible repeat (first | apply Kd.R_alloc | apply Kd.R_drewN | apply Kd.R_drew)); exact HO_184003.out) hb); have n2_ := Aside0.mk (Kd.R_below (by (with_reducible repeat (first | apply Kd.R_alloc | apply Kd.R_drewN | apply Kd.R_drew)); exact HO_194002.out) hb); have n3_ := Aside0.mk (Kd.R_below (by (with_reducible repeat (first | apply Kd.R_alloc | apply Kd.R_drewN | apply Kd.R_drew)); exact HO_194003.out) hb); have n4_ := Aside0.mk (blk_below (g := gb183) (o := .cells #[.int .i64 t174, .int .i64 t175, .slice Ao9 t176.length co9, .slice Ao10 t179.length co10] 34 (0, 0)) (by (with_reducible repeat (first | refine blk_drewN ?_ _ | refine blk_drew ?_ | refine blk_alloc ?_ _)); exact BK183.out) hb); have n5_ := Aside0.mk (blk_below (g := gb193) (o := .cells #[.int .i64 t184, .int .i64 t185, .slice Ao15 t186.length co15, .slice Ao16 t189.length co16] 34 (0, 0)) (by (with_reducible repeat (first | refine blk_drewN ?_ _ | refine blk_drew ?_ | refine blk_alloc ?_ _)); exact BK193.out) hb); have n6_ := Aside0.mk (below_step (by repeat (first | (with_reducible first | exact HB.out | apply below_alloc | apply pw_below_drewN | apply below_drew1 | refine below_set ?_ GE183.out | refine below_set ?_ GE193.out) | exact HB.out)) hb); clear HO_184002; clear HO_184003; clear HO_194002; clear HO_194003; clear BK183; clear BK193; clear HB; have HO_184002 := n0_; have HO_184003 := n1_; have HO_194002 := n2_; have HO_194003 := n3_; have BK183 := n4_; have BK193 := n5_; have HB := n6_; clear n0_ n1_ n2_ n3_ n4_ n5_ n6_; (try clear hb); (try clear hb2); (try clear hk); (try clear hi)) | ((with_reducible refine gate_callee (f := 22) rfl ?_); refine goesL_ (some 48) rfl rfl Tryd.func22 (by kernel_rfl) rfl #[.int .i64 a0, .int .i64 a1] rfl (by (try simp only [List.map_toArray, List.map_cons, List.map_nil]); first | done | rfl | (simp only [List.length_drop, List.length_take]; rfl)) ?_; (with_reducible refine (impl_FullFigure.calls kj4 a0 a1 t199 t200 t201 t204 t207 _ ?side1 A28.out).mono ?_); (case side1 => first | exact LaidG_below HG.out (by repeat (first | (with_reducible first | exact HB.out | apply below_alloc | apply pw_below_drewN | apply below_drew1 | refine below_set ?_ GE183.out | refine below_set ?_ GE193.out) | exact HB.out)) | (repeat (first | exact HG.out | (with_reducible refine LaidG_alloc ?_ _) | (with_reducible refine LaidG_drewN ?_ _) | (with_reducible refine LaidG_drew ?_)))); rintro e w35 ⟨v202, v205, rfl, ho0, ho1, hb⟩; refine ⟨_, rfl, ?_⟩; have n0_ := Aside0.mk (Kd.R_mono (Kd.R_told (Kd.R_told (Kd.R_old (by (with_reducible repeat (first | apply Kd.R_alloc | apply Kd.R_drewN | apply Kd.R_drew)); exact HO_184002.out) hb) (Kd.R_base ho0)) (Kd.R_base ho1)) (fun _ h_ => h_.1)); have n1_ := Aside0.mk (Kd.R_mono (Kd.R_told (Kd.R_told (Kd.R_old (by (with_reducible repeat (first | apply Kd.R_alloc | apply Kd.R_drewN | apply Kd.R_drew)); exact HO_184003.out) hb) (Kd.R_base ho0)) (Kd.R_base ho1)) (fun _ h_ => h_.1)); have n2_ := Aside0.mk (Kd.R_mono (Kd.R_told (Kd.R_told (Kd.R_old (by (with_reducible repeat (first | apply Kd.R_alloc | apply Kd.R_drewN | apply Kd.R_drew)); exact HO_194002.out) hb) (Kd.R_base ho0)) (Kd.R_base ho1)) (fun _ h_ => h_.1)); have n3_ := Aside0.mk (Kd.R_mono (Kd.R_told (Kd.R_told (Kd.R_old (by (with_reducible repeat (first | apply Kd.R_alloc | apply Kd.R_drewN | apply Kd.R_drew)); exact HO_194003.out) hb) (Kd.R_base ho0)) (Kd.R_base ho1)) (fun _ h_ => h_.1)); have n4_ := Aside0.mk (Kd.R_lower (Kd.R_new' (Kd.R_new' (Kd.R_new' (Kd.R_new' ho0 (Kd.R_lt (by (with_reducible repeat (first | apply Kd.R_alloc | apply Kd.R_drewN | apply Kd.R_drew)); exact HO_184002.out))) (Kd.R_lt (by (with_reducible repeat (first | apply Kd.R_alloc | apply Kd.R_drewN | apply Kd.R_drew)); exact HO_184003.out))) (Kd.R_lt (by (with_reducible repeat (first | apply Kd.R_alloc | apply Kd.R_drewN | apply Kd.R_drew)); exact HO_194002.out))) (Kd.R_lt (by (with_reducible repeat (first | apply Kd.R_alloc | apply Kd.R_drewN | apply Kd.R_drew)); exact HO_194003.out))) (below_size (by repeat (first | (with_reducible first | exact HB.out | apply below_alloc | apply pw_below_drewN | apply below_drew1 | refine below_set ?_ GE183.out | refine below_set ?_ GE193.out) | exact HB.out)))); have n5_ := Aside0.mk (Kd.R_lower (Kd.R_new' (Kd.R_new' (Kd.R_new' (Kd.R_new' ho1 (Kd.R_lt (by (with_reducible repeat (first | apply Kd.R_alloc | apply Kd.R_drewN | apply Kd.R_drew)); exact HO_184002.out))) (Kd.R_lt (by (with_reducible repeat (first | apply Kd.R_alloc | apply Kd.R_drewN | apply Kd.R_drew)); exact HO_184003.out))) (Kd.R_lt (by (with_reducible repeat (first | apply Kd.R_alloc | apply Kd.R_drewN | apply Kd.R_drew)); exact HO_194002.out))) (Kd.R_lt (by (with_reducible repeat (first | apply Kd.R_alloc | apply Kd.R_drewN | apply Kd.R_drew)); exact HO_194003.out))) (below_size (by repeat (first | (with_reducible first | exact HB.out | apply below_alloc | apply pw_below_drewN | apply below_drew1 | refine below_set ?_ GE183.out | refine below_set ?_ GE193.out) | exact HB.out)))); have n6_ := Aside0.mk (blk_below (g := gb183) (o := .cells #[.int .i64 t174, .int .i64 t175, .slice Ao9 t176.length co9, .slice Ao10 t179.length co10] 34 (0, 0)) (by (with_reducible repeat (first | refine blk_drewN ?_ _ | refine blk_drew ?_ | refine blk_alloc ?_ _)); exact BK183.out) hb); have n7_ := Aside0.mk (blk_below (g := gb193) (o := .cells #[.int .i64 t184, .int .i64 t185, .slice Ao15 t186.length co15, .slice Ao16 t189.length co16] 34 (0, 0)) (by (with_reducible repeat (first | refine blk_drewN ?_ _ | refine blk_drew ?_ | refine blk_alloc ?_ _)); exact BK193.out) hb); have n8_ := Aside0.mk (below_step (by repeat (first | (with_reducible first | exact HB.out | apply below_alloc | apply pw_below_drewN | apply below_drew1 | refine below_set ?_ GE183.out | refine below_set ?_ GE193.out) | exact HB.out)) hb); clear HO_184002; clear HO_184003; clear HO_194002; clear HO_194003; clear BK183; clear BK193; clear HB; have HO_184002 := n0_; have HO_184003 := n1_; have HO_194002 := n2_; have HO_194003 := n3_; have HO203 := n4_; have HO206 := n5_; have BK183 := n6_; have BK193 := n7_; have HB := n8_; clear n0_ n1_ n2_ n3_ n4_ n5_ n6_ n7_ n8_; (try clear hb); (try clear hb2); (try clear hk); (try clear hi); (try clear ho0); (try clear ho1)) | ((with_reducible refine gate_dst (N := 11) rfl ?_); refine box_event ?hg (N := 11) ?hd (cs := #[.int .i64 0, .int .i64 0, .slice none 0 0, .slice none 0 0]) (t := 34) ?hr ?_; (case hd => rfl); (case hg => rfl); (case hr => first | (go_simp; done) | (go_simp; rfl)); intro gb208 hg w36 hbox hb; have n0_ := Aside0.mk (Kd.R_below (by (with_reducible repeat (first | apply Kd.R_alloc | apply Kd.R_drewN | apply Kd.R_drew)); exact HO_184002.out) hb); have n1_ := Aside0.mk (Kd.R_below (by (with_reducible repeat (first | apply Kd.R_alloc | apply Kd.R_drewN | apply Kd.R_drew)); exact HO_184003.out) hb); have n2_ := Aside0.mk (Kd.R_below (by (with_reducible repeat (first | apply Kd.R_alloc | apply Kd.R_drewN | apply Kd.R_drew)); exact HO_194002.out) hb); have n3_ := Aside0.mk (Kd.R_below (by (with_reducible repeat (first | apply Kd.R_alloc | apply Kd.R_drewN | apply Kd.R_drew)); exact HO_194003.out) hb); have n4_ := Aside0.mk (Kd.R_below (by (with_reducible repeat (first | apply Kd.R_alloc | apply Kd.R_drewN | apply Kd.R_drew)); exact HO203.out) hb); have n5_ := Aside0.mk (Kd.R_below (by (with_reducible repeat (first | apply Kd.R_alloc | apply Kd.R_drewN | apply Kd.R_drew)); exact HO206.out) hb); have n6_ := Aside0.mk (blk_below (g := gb183) (o := .cells #[.int .i64 t174, .int .i64 t175, .slice Ao9 t176.length co9, .slice Ao10 t179.length co10] 34 (0, 0)) (by (with_reducible repeat (first | refine blk_drewN ?_ _ | refine blk_drew ?_ | refine blk_alloc ?_ _)); exact BK183.out) hb); have n7_ := Aside0.mk (blk_below (g := gb193) (o := .cells #[.int .i64 t184, .int .i64 t185, .slice Ao15 t186.length co15, .slice Ao16 t189.length co16] 34 (0, 0)) (by (with_reducible repeat (first | refine blk_drewN ?_ _ | refine blk_drew ?_ | refine blk_alloc ?_ _)); exact BK193.out) hb); have n8_ := Aside0.mk (below_step (by repeat (first | (with_reducible first | exact HB.out | apply below_alloc | apply pw_below_drewN | apply below_drew1 | refine below_set ?_ GE183.out | refine below_set ?_ GE193.out) | exact HB.out)) hb); have n9_ := Aside0.mk (hbox); have n10_ := Aside0.mk ((by rw [hg]; exact (below_size (by repeat (first | (with_reducible first | exact HB.out | apply below_alloc | apply pw_below_drewN | apply below_drew1 | refine below_set ?_ GE183.out | refine below_set ?_ GE193.out) | exact HB.out))) : w.heap.size ≤ gb208)); have n11_ := Aside0.mk ((by rw [hg]; exact (below_size (by repeat (first | (with_reducible first | exact HB.out | apply below_alloc | apply pw_below_drewN | apply below_drew1 | refine below_set ?_ GE183.out | refine below_set ?_ GE193.out) | exact HB.out))) : w.heap.size ≤ gb208)); have n12_ := Aside0.mk ((by rw [hg]; exact Nat.ne_of_lt (blk_lt (g := gb183) (o := .cells #[.int .i64 t174, .int .i64 t175, .slice Ao9 t176.length co9, .slice Ao10 t179.length co10] 34 (0, 0)) (by (with_reducible repeat (first | refine blk_drewN ?_ _ | refine blk_drew ?_ | refine blk_alloc ?_ _)); exact BK183.out)) : gb183 ≠ gb208)); have n13_ := Aside0.mk ((by rw [hg]; exact Nat.ne_of_gt (blk_lt (g := gb183) (o := .cells #[.int .i64 t174, .int .i64 t175, .slice Ao9 t176.length co9, .slice Ao10 t179.length co10] 34 (0, 0)) (by (with_reducible repeat (first | refine blk_drewN ?_ _ | refine blk_drew ?_ | refine blk_alloc ?_ _)); exact BK183.out)) : gb208 ≠ gb183)); have n14_ := Aside0.mk ((by rw [hg]; exact Nat.ne_of_lt (blk_lt (g := gb193) (o := .cells #[.int .i64 t184, .int .i64 t185, .slice Ao15 t186.length co15, .slice Ao16 t189.length co16] 34 (0, 0)) (by (with_reducible repeat (first | refine blk_drewN ?_ _ | refine blk_drew ?_ | refine blk_alloc ?_ _)); exact BK193.out)) : gb193 ≠ gb208)); have n15_ := Aside0.mk ((by rw [hg]; exact Nat.ne_of_gt (blk_lt (g := gb193) (o := .cells #[.int .i64 t184, .int .i64 t185, .slice Ao15 t186.length co15, .slice Ao16 t189.length co16] 34 (0, 0)) (by (with_reducible repeat (first | refine blk_drewN ?_ _ | refine blk_drew ?_ | refine blk_alloc ?_ _)); exact BK193.out)) : gb208 ≠ gb193)); clear HO_184002; clear HO_184003; clear HO_194002; clear HO_194003; clear HO203; clear HO206; clear BK183; clear BK193; clear HB; have HO_184002 := n0_; have HO_184003 := n1_; have HO_194002 := n2_; have HO_194003 := n3_; have HO203 := n4_; have HO206 := n5_; have BK183 := n6_; have BK193 := n7_; have HB := n8_; have BK208 := n9_; have GW208 := n10_; have GE208 := n11_; have NB183_208 := n12_; have NB208_183 := n13_; have NB193_208 := n14_; have NB208_193 := n15_; clear n0_ n1_ n2_ n3_ n4_ n5_ n6_ n7_ n8_ n9_ n10_ n11_ n12_ n13_ n14_ n15_; clear hb hbox hg; have hnb37 := NB208_183.out; have hnc37 := NB183_208.out; have hnb38 := NB208_193.out; have hnc38 := NB193_208.out; have hcz39_0 : w36.cell? ⟨gb208, 0, none⟩ = some (.int .i64 0) := (blk_cell BK208.out 0).trans rfl; have hcz39_1 : w36.cell? ⟨gb208, 1, none⟩ = some (.int .i64 0) := (blk_cell BK208.out 1).trans rfl; have hcz39_2 : w36.cell? ⟨gb208, 2, none⟩ = some (.slice none 0 0) := (blk_cell BK208.out 2).trans rfl; have hcz39_3 : w36.cell? ⟨gb208, 3, none⟩ = some (.slice none 0 0) := (blk_cell BK208.out 3).trans rfl; have hfz39_0 := blk_frozen BK208.out 0; have hfz39_1 := blk_frozen BK208.out 1; have hfz39_2 := blk_frozen BK208.out 2; have hfz39_3 := blk_frozen BK208.out 3; obtain ⟨Ao40, co40, eo40⟩ := Kd.R_slice HO203.out; subst eo40; obtain ⟨Ao41, co41, eo41⟩ := Kd.R_slice HO206.out; subst eo41))
      (try simp only [Act.put, List.setIfInBounds_toArray, List.set_cons_zero, List.set_cons_succ])
      go_cut [59] (fun v59 wc => ∃ (kq : Nat) (x59_28 : Bool), v59 = .bool x59_28 ∧ Aside0 (laws_FnExactFullFigure.j1 kq t195 x59_28 t184 t185 t196 t197 = some r) ∧ Aside0 (kq ≤ kj4) ∧ Aside0 (Kd.R (Kd.int .i64) 3 wc w.heap.size (fun k_ => some k_ ≠ ((.slice Ao10 t179.length co10) : Value).ownBlock ∧ some k_ ≠ ((.slice Ao15 t186.length co15) : Value).ownBlock ∧ some k_ ≠ ((.slice Ao16 t189.length co16) : Value).ownBlock ∧ some k_ ≠ ((.slice Ao40 t201.length co40) : Value).ownBlock ∧ some k_ ≠ ((.slice Ao41 t204.length co41) : Value).ownBlock) (.slice Ao9 t176.length co9) t176) ∧ Aside0 (Kd.R (Kd.int .i64) 3 wc w.heap.size (fun k_ => some k_ ≠ ((.slice Ao9 t176.length co9) : Value).ownBlock ∧ some k_ ≠ ((.slice Ao15 t186.length co15) : Value).ownBlock ∧ some k_ ≠ ((.slice Ao16 t189.length co16) : Value).ownBlock ∧ some k_ ≠ ((.slice Ao40 t201.length co40) : Value).ownBlock ∧ some k_ ≠ ((.slice Ao41 t204.length co41) : Value).ownBlock) (.slice Ao10 t179.length co10) t179) ∧ Aside0 (Kd.R (Kd.int .i64) 3 wc w.heap.size (fun k_ => some k_ ≠ ((.slice Ao9 t176.length co9) : Value).ownBlock ∧ some k_ ≠ ((.slice Ao10 t179.length co10) : Value).ownBlock ∧ some k_ ≠ ((.slice Ao16 t189.length co16) : Value).ownBlock ∧ some k_ ≠ ((.slice Ao40 t201.length co40) : Value).ownBlock ∧ some k_ ≠ ((.slice Ao41 t204.length co41) : Value).ownBlock) (.slice Ao15 t186.length co15) t196) ∧ Aside0 (Kd.R (Kd.int .i64) 3 wc w.heap.size (fun k_ => some k_ ≠ ((.slice Ao9 t176.length co9) : Value).ownBlock ∧ some k_ ≠ ((.slice Ao10 t179.length co10) : Value).ownBlock ∧ some k_ ≠ ((.slice Ao15 t186.length co15) : Value).ownBlock ∧ some k_ ≠ ((.slice Ao40 t201.length co40) : Value).ownBlock ∧ some k_ ≠ ((.slice Ao41 t204.length co41) : Value).ownBlock) (.slice Ao16 t189.length co16) t197) ∧ Aside0 (Kd.R (Kd.int .i64) 3 wc w.heap.size (fun k_ => some k_ ≠ ((.slice Ao9 t176.length co9) : Value).ownBlock ∧ some k_ ≠ ((.slice Ao10 t179.length co10) : Value).ownBlock ∧ some k_ ≠ ((.slice Ao15 t186.length co15) : Value).ownBlock ∧ some k_ ≠ ((.slice Ao16 t189.length co16) : Value).ownBlock ∧ some k_ ≠ ((.slice Ao41 t204.length co41) : Value).ownBlock) (.slice Ao40 t201.length co40) t201) ∧ Aside0 (Kd.R (Kd.int .i64) 3 wc w.heap.size (fun k_ => some k_ ≠ ((.slice Ao9 t176.length co9) : Value).ownBlock ∧ some k_ ≠ ((.slice Ao10 t179.length co10) : Value).ownBlock ∧ some k_ ≠ ((.slice Ao15 t186.length co15) : Value).ownBlock ∧ some k_ ≠ ((.slice Ao16 t189.length co16) : Value).ownBlock ∧ some k_ ≠ ((.slice Ao40 t201.length co40) : Value).ownBlock) (.slice Ao41 t204.length co41) t204) ∧ Aside0 (wc.heap[gb183]? = some (.cells #[.int .i64 t174, .int .i64 t175, (.slice Ao9 t176.length co9), (.slice Ao10 t179.length co10)] 34 (0, 0))) ∧ Aside0 (wc.heap[gb193]? = some (.cells #[.int .i64 t184, .int .i64 t185, (.slice Ao15 t186.length co15), (.slice Ao16 t189.length co16)] 34 (0, 0))) ∧ Aside0 (wc.heap[gb208]? = some (.cells #[.int .i64 t199, .int .i64 t200, (.slice Ao40 t201.length co40), (.slice Ao41 t204.length co41)] 34 (0, 0))) ∧ Aside0 (Below w.heap.size w wc))
      case first =>
       have H := HC29.out
       clear HC29
       replace H := Option.bind_eq_some_iff.mp H
       obtain ⟨t209, A420, H⟩ := H
       replace H : (if t209 = true then (laws_FnExactFullFigure.j1 kj4 t195 (t207 != t182) t184 t185 t196 t197) else (laws_FnExactFullFigure.j1 kj4 t195 true t184 t185 t196 t197)) = some r := H
       have A42 := Aside0.mk A420
       clear A420
       by_cases c43 : t209 = true
       ·subst c43
        have H1 : (laws_FnExactFullFigure.j1 kj4 t195 (t207 != t182) t184 t185 t196 t197) = some r := by rw [if_pos rfl] at H; exact H
        clear H
        have H := H1
        clear H1
        have H' := Aside0.mk H
        clear H
        have hnb44 := NB208_183.out
        have hnc44 := NB183_208.out
        have hnb45 := NB208_193.out
        have hnc45 := NB193_208.out
        have hcz46_0 : w36.cell? ⟨gb208, 0, none⟩ = some (.int .i64 0) := (blk_cell BK208.out 0).trans rfl
        have hcz46_1 : w36.cell? ⟨gb208, 1, none⟩ = some (.int .i64 0) := (blk_cell BK208.out 1).trans rfl
        have hcz46_2 : w36.cell? ⟨gb208, 2, none⟩ = some (.slice none 0 0) := (blk_cell BK208.out 2).trans rfl
        have hcz46_3 : w36.cell? ⟨gb208, 3, none⟩ = some (.slice none 0 0) := (blk_cell BK208.out 3).trans rfl
        have hfz46_0 := blk_frozen BK208.out 0
        have hfz46_1 := blk_frozen BK208.out 1
        have hfz46_2 := blk_frozen BK208.out 2
        have hfz46_3 := blk_frozen BK208.out 3
        have hnb47 := NB183_193.out
        have hnc47 := NB193_183.out
        have hcz48_0 : w36.cell? ⟨gb183, 0, none⟩ = some (.int .i64 t174) := (blk_cell BK183.out 0).trans rfl
        have hcz48_1 : w36.cell? ⟨gb183, 1, none⟩ = some (.int .i64 t175) := (blk_cell BK183.out 1).trans rfl
        have hcz48_2 : w36.cell? ⟨gb183, 2, none⟩ = some (.slice Ao9 t176.length co9) := (blk_cell BK183.out 2).trans rfl
        have hcz48_3 : w36.cell? ⟨gb183, 3, none⟩ = some (.slice Ao10 t179.length co10) := (blk_cell BK183.out 3).trans rfl
        have hfz48_0 := blk_frozen BK183.out 0
        have hfz48_1 := blk_frozen BK183.out 1
        have hfz48_2 := blk_frozen BK183.out 2
        have hfz48_3 := blk_frozen BK183.out 3
        go_wp2_with (first | ((with_reducible refine gate_callee (f := 18) rfl ?_); refine goesL_ (some 53) rfl rfl Tryd.func18 (by kernel_rfl) rfl #[.agg #[.int .i64 t199, .int .i64 t200, .slice Ao40 t201.length co40, .slice Ao41 t204.length co41], .agg #[.int .i64 t174, .int .i64 t175, .slice Ao9 t176.length co9, .slice Ao10 t179.length co10]] rfl (by (try simp only [List.map_toArray, List.map_cons, List.map_nil]); first | done | rfl | (simp only [List.length_drop, List.length_take]; rfl)) ?_; (with_reducible refine (laws_eqFigure.calls kj4 t199 t200 _ _ t201 _ _ t204 t174 t175 _ _ t176 _ _ t179 true _ ?side1 ?side2 ?side3 ?side4 ?side5 ?side6 ?side7 ?side8 A42.out).mono ?_); (case side1 => refine (Kd.R_reads' (e := 3) (base := w.heap.size) (ok := fun k_ => ((((some k_ ≠ (.slice Ao41 t204.length co41 : Value).ownBlock ∧ some k_ ≠ (.slice Ao9 t176.length co9 : Value).ownBlock) ∧ some k_ ≠ (.slice Ao10 t179.length co10 : Value).ownBlock) ∧ some k_ ≠ (.slice Ao15 t186.length co15 : Value).ownBlock) ∧ some k_ ≠ (.slice Ao16 t189.length co16 : Value).ownBlock)) (n := t201.length) (c := co40) ?_).2.2; exact (by (with_reducible repeat (first | apply Kd.R_alloc | apply Kd.R_drewN | apply Kd.R_drew)); exact (Kd.R_mono (Kd.R_far (p := ⟨gb208, 3, none⟩) (Kd.R_far (p := ⟨gb208, 2, none⟩) (Kd.R_far (p := ⟨gb208, 1, none⟩) (Kd.R_far (p := ⟨gb208, 0, none⟩) (Kd.R_types HO203.out BK208.out (by decide)) (fun _ hk => hk.2) (.int .i64 t199)) (fun _ hk => hk.2) (.int .i64 t200)) (fun _ hk => hk.2) (.slice Ao40 t201.length co40)) (fun _ hk => hk.2) (.slice Ao41 t204.length co41)) (fun _ h_ => h_.1)))); (case side2 => exact (Kd.R_reads' HO203.out).2.1); (case side3 => refine (Kd.R_reads' (e := 3) (base := w.heap.size) (ok := fun k_ => ((((some k_ ≠ (.slice Ao40 t201.length co40 : Value).ownBlock ∧ some k_ ≠ (.slice Ao9 t176.length co9 : Value).ownBlock) ∧ some k_ ≠ (.slice Ao10 t179.length co10 : Value).ownBlock) ∧ some k_ ≠ (.slice Ao15 t186.length co15 : Value).ownBlock) ∧ some k_ ≠ (.slice Ao16 t189.length co16 : Value).ownBlock)) (n := t204.length) (c := co41) ?_).2.2; exact (by (with_reducible repeat (first | apply Kd.R_alloc | apply Kd.R_drewN | apply Kd.R_drew)); exact (Kd.R_mono (Kd.R_far (p := ⟨gb208, 3, none⟩) (Kd.R_far (p := ⟨gb208, 2, none⟩) (Kd.R_far (p := ⟨gb208, 1, none⟩) (Kd.R_far (p := ⟨gb208, 0, none⟩) (Kd.R_types HO206.out BK208.out (by decide)) (fun _ hk => hk.2) (.int .i64 t199)) (fun _ hk => hk.2) (.int .i64 t200)) (fun _ hk => hk.2) (.slice Ao40 t201.length co40)) (fun _ hk => hk.2) (.slice Ao41 t204.length co41)) (fun _ h_ => h_.1)))); (case side4 => exact (Kd.R_reads' HO206.out).2.1); (case side5 => refine (Kd.R_reads' (e := 3) (base := w.heap.size) (ok := fun k_ => (((some k_ ≠ (.slice Ao10 t179.length co10 : Value).ownBlock ∧ (some k_ ≠ (.slice Ao15 t186.length co15 : Value).ownBlock ∧ some k_ ≠ (.slice Ao16 t189.length co16 : Value).ownBlock)) ∧ some k_ ≠ (.slice Ao40 t201.length co40 : Value).ownBlock) ∧ some k_ ≠ (.slice Ao41 t204.length co41 : Value).ownBlock)) (n := t176.length) (c := co9) ?_).2.2; exact (by (with_reducible repeat (first | apply Kd.R_alloc | apply Kd.R_drewN | apply Kd.R_drew)); exact (Kd.R_mono (Kd.R_far (p := ⟨gb208, 3, none⟩) (Kd.R_far (p := ⟨gb208, 2, none⟩) (Kd.R_far (p := ⟨gb208, 1, none⟩) (Kd.R_far (p := ⟨gb208, 0, none⟩) (Kd.R_types HO_184002.out BK208.out (by decide)) (fun _ hk => hk.2) (.int .i64 t199)) (fun _ hk => hk.2) (.int .i64 t200)) (fun _ hk => hk.2) (.slice Ao40 t201.length co40)) (fun _ hk => hk.2) (.slice Ao41 t204.length co41)) (fun _ h_ => h_.1)))); (case side6 => exact (Kd.R_reads' HO_184002.out).2.1); (case side7 => refine (Kd.R_reads' (e := 3) (base := w.heap.size) (ok := fun k_ => (((some k_ ≠ (.slice Ao9 t176.length co9 : Value).ownBlock ∧ (some k_ ≠ (.slice Ao15 t186.length co15 : Value).ownBlock ∧ some k_ ≠ (.slice Ao16 t189.length co16 : Value).ownBlock)) ∧ some k_ ≠ (.slice Ao40 t201.length co40 : Value).ownBlock) ∧ some k_ ≠ (.slice Ao41 t204.length co41 : Value).ownBlock)) (n := t179.length) (c := co10) ?_).2.2; exact (by (with_reducible repeat (first | apply Kd.R_alloc | apply Kd.R_drewN | apply Kd.R_drew)); exact (Kd.R_mono (Kd.R_far (p := ⟨gb208, 3, none⟩) (Kd.R_far (p := ⟨gb208, 2, none⟩) (Kd.R_far (p := ⟨gb208, 1, none⟩) (Kd.R_far (p := ⟨gb208, 0, none⟩) (Kd.R_types HO_184003.out BK208.out (by decide)) (fun _ hk => hk.2) (.int .i64 t199)) (fun _ hk => hk.2) (.int .i64 t200)) (fun _ hk => hk.2) (.slice Ao40 t201.length co40)) (fun _ hk => hk.2) (.slice Ao41 t204.length co41)) (fun _ h_ => h_.1)))); (case side8 => exact (Kd.R_reads' HO_184003.out).2.1); rintro e w49 ⟨rfl, hb⟩; refine ⟨_, rfl, ?_⟩; have n0_ := Aside0.mk (Kd.R_below (by (with_reducible repeat (first | apply Kd.R_alloc | apply Kd.R_drewN | apply Kd.R_drew)); exact (Kd.R_mono (Kd.R_far (p := ⟨gb208, 3, none⟩) (Kd.R_far (p := ⟨gb208, 2, none⟩) (Kd.R_far (p := ⟨gb208, 1, none⟩) (Kd.R_far (p := ⟨gb208, 0, none⟩) (Kd.R_types HO_184002.out BK208.out (by decide)) (fun _ hk => hk.2) (.int .i64 t199)) (fun _ hk => hk.2) (.int .i64 t200)) (fun _ hk => hk.2) (.slice Ao40 t201.length co40)) (fun _ hk => hk.2) (.slice Ao41 t204.length co41)) (fun _ h_ => h_.1))) hb); have n1_ := Aside0.mk (Kd.R_below (by (with_reducible repeat (first | apply Kd.R_alloc | apply Kd.R_drewN | apply Kd.R_drew)); exact (Kd.R_mono (Kd.R_far (p := ⟨gb208, 3, none⟩) (Kd.R_far (p := ⟨gb208, 2, none⟩) (Kd.R_far (p := ⟨gb208, 1, none⟩) (Kd.R_far (p := ⟨gb208, 0, none⟩) (Kd.R_types HO_184003.out BK208.out (by decide)) (fun _ hk => hk.2) (.int .i64 t199)) (fun _ hk => hk.2) (.int .i64 t200)) (fun _ hk => hk.2) (.slice Ao40 t201.length co40)) (fun _ hk => hk.2) (.slice Ao41 t204.length co41)) (fun _ h_ => h_.1))) hb); have n2_ := Aside0.mk (Kd.R_below (by (with_reducible repeat (first | apply Kd.R_alloc | apply Kd.R_drewN | apply Kd.R_drew)); exact (Kd.R_mono (Kd.R_far (p := ⟨gb208, 3, none⟩) (Kd.R_far (p := ⟨gb208, 2, none⟩) (Kd.R_far (p := ⟨gb208, 1, none⟩) (Kd.R_far (p := ⟨gb208, 0, none⟩) (Kd.R_types HO_194002.out BK208.out (by decide)) (fun _ hk => hk.2) (.int .i64 t199)) (fun _ hk => hk.2) (.int .i64 t200)) (fun _ hk => hk.2) (.slice Ao40 t201.length co40)) (fun _ hk => hk.2) (.slice Ao41 t204.length co41)) (fun _ h_ => h_.1))) hb); have n3_ := Aside0.mk (Kd.R_below (by (with_reducible repeat (first | apply Kd.R_alloc | apply Kd.R_drewN | apply Kd.R_drew)); exact (Kd.R_mono (Kd.R_far (p := ⟨gb208, 3, none⟩) (Kd.R_far (p := ⟨gb208, 2, none⟩) (Kd.R_far (p := ⟨gb208, 1, none⟩) (Kd.R_far (p := ⟨gb208, 0, none⟩) (Kd.R_types HO_194003.out BK208.out (by decide)) (fun _ hk => hk.2) (.int .i64 t199)) (fun _ hk => hk.2) (.int .i64 t200)) (fun _ hk => hk.2) (.slice Ao40 t201.length co40)) (fun _ hk => hk.2) (.slice Ao41 t204.length co41)) (fun _ h_ => h_.1))) hb); have n4_ := Aside0.mk (Kd.R_below (by (with_reducible repeat (first | apply Kd.R_alloc | apply Kd.R_drewN | apply Kd.R_drew)); exact (Kd.R_mono (Kd.R_far (p := ⟨gb208, 3, none⟩) (Kd.R_far (p := ⟨gb208, 2, none⟩) (Kd.R_far (p := ⟨gb208, 1, none⟩) (Kd.R_far (p := ⟨gb208, 0, none⟩) (Kd.R_types HO203.out BK208.out (by decide)) (fun _ hk => hk.2) (.int .i64 t199)) (fun _ hk => hk.2) (.int .i64 t200)) (fun _ hk => hk.2) (.slice Ao40 t201.length co40)) (fun _ hk => hk.2) (.slice Ao41 t204.length co41)) (fun _ h_ => h_.1))) hb); have n5_ := Aside0.mk (Kd.R_below (by (with_reducible repeat (first | apply Kd.R_alloc | apply Kd.R_drewN | apply Kd.R_drew)); exact (Kd.R_mono (Kd.R_far (p := ⟨gb208, 3, none⟩) (Kd.R_far (p := ⟨gb208, 2, none⟩) (Kd.R_far (p := ⟨gb208, 1, none⟩) (Kd.R_far (p := ⟨gb208, 0, none⟩) (Kd.R_types HO206.out BK208.out (by decide)) (fun _ hk => hk.2) (.int .i64 t199)) (fun _ hk => hk.2) (.int .i64 t200)) (fun _ hk => hk.2) (.slice Ao40 t201.length co40)) (fun _ hk => hk.2) (.slice Ao41 t204.length co41)) (fun _ h_ => h_.1))) hb); have n6_ := Aside0.mk (blk_below (g := gb183) (o := .cells #[.int .i64 t174, .int .i64 t175, .slice Ao9 t176.length co9, .slice Ao10 t179.length co10] 34 (0, 0)) (by (with_reducible repeat (first | refine blk_drewN ?_ _ | refine blk_drew ?_ | refine blk_alloc ?_ _)); refine blk_far ?_ NB183_208.out _; (with_reducible repeat (first | refine blk_drewN ?_ _ | refine blk_drew ?_ | refine blk_alloc ?_ _)); refine blk_far ?_ NB183_208.out _; (with_reducible repeat (first | refine blk_drewN ?_ _ | refine blk_drew ?_ | refine blk_alloc ?_ _)); refine blk_far ?_ NB183_208.out _; (with_reducible repeat (first | refine blk_drewN ?_ _ | refine blk_drew ?_ | refine blk_alloc ?_ _)); refine blk_far ?_ NB183_208.out _; (with_reducible repeat (first | refine blk_drewN ?_ _ | refine blk_drew ?_ | refine blk_alloc ?_ _)); exact BK183.out) hb); have n7_ := Aside0.mk (blk_below (g := gb193) (o := .cells #[.int .i64 t184, .int .i64 t185, .slice Ao15 t186.length co15, .slice Ao16 t189.length co16] 34 (0, 0)) (by (with_reducible repeat (first | refine blk_drewN ?_ _ | refine blk_drew ?_ | refine blk_alloc ?_ _)); refine blk_far ?_ NB193_208.out _; (with_reducible repeat (first | refine blk_drewN ?_ _ | refine blk_drew ?_ | refine blk_alloc ?_ _)); refine blk_far ?_ NB193_208.out _; (with_reducible repeat (first | refine blk_drewN ?_ _ | refine blk_drew ?_ | refine blk_alloc ?_ _)); refine blk_far ?_ NB193_208.out _; (with_reducible repeat (first | refine blk_drewN ?_ _ | refine blk_drew ?_ | refine blk_alloc ?_ _)); refine blk_far ?_ NB193_208.out _; (with_reducible repeat (first | refine blk_drewN ?_ _ | refine blk_drew ?_ | refine blk_alloc ?_ _)); exact BK193.out) hb); have n8_ := Aside0.mk (blk_below (g := gb208) (o := .cells #[.int .i64 t199, .int .i64 t200, .slice Ao40 t201.length co40, .slice Ao41 t204.length co41] 34 (0, 0)) (by (with_reducible repeat (first | refine blk_drewN ?_ _ | refine blk_drew ?_ | refine blk_alloc ?_ _)); refine blk_put (cs := #[.int .i64 t199, .int .i64 t200, .slice Ao40 t201.length co40, .slice none 0 0]) ?_ 3 _ rfl; (with_reducible repeat (first | refine blk_drewN ?_ _ | refine blk_drew ?_ | refine blk_alloc ?_ _)); refine blk_put (cs := #[.int .i64 t199, .int .i64 t200, .slice none 0 0, .slice none 0 0]) ?_ 2 _ rfl; (with_reducible repeat (first | refine blk_drewN ?_ _ | refine blk_drew ?_ | refine blk_alloc ?_ _)); refine blk_put (cs := #[.int .i64 t199, .int .i64 0, .slice none 0 0, .slice none 0 0]) ?_ 1 _ rfl; (with_reducible repeat (first | refine blk_drewN ?_ _ | refine blk_drew ?_ | refine blk_alloc ?_ _)); refine blk_put (cs := #[.int .i64 0, .int .i64 0, .slice none 0 0, .slice none 0 0]) ?_ 0 _ rfl; (with_reducible repeat (first | refine blk_drewN ?_ _ | refine blk_drew ?_ | refine blk_alloc ?_ _)); exact BK208.out) hb); have n9_ := Aside0.mk (below_step (by repeat (first | (with_reducible first | exact HB.out | apply below_alloc | apply pw_below_drewN | apply below_drew1 | refine below_set ?_ GE183.out | refine below_set ?_ GE193.out | refine below_set ?_ GE208.out) | exact HB.out)) hb); clear HO_184002; clear HO_184003; clear HO_194002; clear HO_194003; clear HO203; clear HO206; clear BK183; clear BK193; clear BK208; clear HB; have HO_184002 := n0_; have HO_184003 := n1_; have HO_194002 := n2_; have HO_194003 := n3_; have HO203 := n4_; have HO206 := n5_; have BK183 := n6_; have BK193 := n7_; have BK208 := n8_; have HB := n9_; clear n0_ n1_ n2_ n3_ n4_ n5_ n6_ n7_ n8_ n9_; (try clear hb); (try clear hb2); (try clear hk); (try clear hi)))
        go_meet
        case rel => exact ⟨_, ((t207 != t182)), (by first | rfl | (simp; done) | (simp [*]; done)), H', ⟨by have := HJ4.out; first | omega | exact Nat.le_refl _⟩, ⟨by (with_reducible repeat (first | apply Kd.R_alloc | apply Kd.R_drewN | apply Kd.R_drew)); exact Kd.R_mono HO_184002.out (fun _ hk => ⟨hk.1.1.1, ⟨hk.1.1.2.1, ⟨hk.1.1.2.2, ⟨hk.1.2, hk.2⟩⟩⟩⟩)⟩, ⟨by (with_reducible repeat (first | apply Kd.R_alloc | apply Kd.R_drewN | apply Kd.R_drew)); exact Kd.R_mono HO_184003.out (fun _ hk => ⟨hk.1.1.1, ⟨hk.1.1.2.1, ⟨hk.1.1.2.2, ⟨hk.1.2, hk.2⟩⟩⟩⟩)⟩, ⟨by (with_reducible repeat (first | apply Kd.R_alloc | apply Kd.R_drewN | apply Kd.R_drew)); exact Kd.R_mono HO_194002.out (fun _ hk => ⟨hk.1.1.1, ⟨hk.1.1.2.1, ⟨hk.1.1.2.2, ⟨hk.1.2, hk.2⟩⟩⟩⟩)⟩, ⟨by (with_reducible repeat (first | apply Kd.R_alloc | apply Kd.R_drewN | apply Kd.R_drew)); exact Kd.R_mono HO_194003.out (fun _ hk => ⟨hk.1.1.1, ⟨hk.1.1.2.1, ⟨hk.1.1.2.2, ⟨hk.1.2, hk.2⟩⟩⟩⟩)⟩, ⟨by (with_reducible repeat (first | apply Kd.R_alloc | apply Kd.R_drewN | apply Kd.R_drew)); exact Kd.R_mono HO203.out (fun _ hk => ⟨hk.1.1.1.2, ⟨hk.1.1.2, ⟨hk.1.2, ⟨hk.2, hk.1.1.1.1⟩⟩⟩⟩)⟩, ⟨by (with_reducible repeat (first | apply Kd.R_alloc | apply Kd.R_drewN | apply Kd.R_drew)); exact Kd.R_mono HO206.out (fun _ hk => ⟨hk.1.1.1.2, ⟨hk.1.1.2, ⟨hk.1.2, ⟨hk.2, hk.1.1.1.1⟩⟩⟩⟩)⟩, ⟨by (with_reducible repeat (first | refine blk_drewN ?_ _ | refine blk_drew ?_ | refine blk_alloc ?_ _)); exact BK183.out⟩, ⟨by (with_reducible repeat (first | refine blk_drewN ?_ _ | refine blk_drew ?_ | refine blk_alloc ?_ _)); exact BK193.out⟩, ⟨by (with_reducible repeat (first | refine blk_drewN ?_ _ | refine blk_drew ?_ | refine blk_alloc ?_ _)); exact BK208.out⟩, ⟨by repeat (first | (with_reducible first | exact HB.out | apply below_alloc | apply pw_below_drewN | apply below_drew1 | refine below_set ?_ GE183.out | refine below_set ?_ GE193.out | refine below_set ?_ GE208.out) | exact HB.out)⟩⟩
       ·replace c43 := Bool.eq_false_iff.mpr c43
        subst c43
        have H1 : (laws_FnExactFullFigure.j1 kj4 t195 true t184 t185 t196 t197) = some r := by rw [if_neg (show ¬ (false = true) by decide)] at H; exact H
        clear H
        have H := H1
        clear H1
        exact absurd HR_.out (by cases kj4 <;> simp [laws_FnExactFullFigure.j1] at H <;> first | simp [← H] | simp [H] | simp_all)
      case rest =>
       clear HC29
       try clear c1
       try clear c2
       try clear p2
       try clear c3
       try clear c4
       try clear c5
       try clear c13
       try clear c18
       try clear c19
       try clear c20
       try clear c21
       try clear c22
       try clear c23
       try clear c26
       try clear c26b0
       try clear c27
       try clear c27b0
       try clear c27b1
       try clear c30
       try clear c37
       try clear c38
       try clear c43
       try clear c44
       try clear c45
       try clear c47
       try clear hcz14_0
       try clear hcz14_1
       try clear hcz14_2
       try clear hcz14_3
       try clear hcz20_0
       try clear hcz20_1
       try clear hcz20_2
       try clear hcz20_3
       try clear hcz21_0
       try clear hcz21_1
       try clear hcz21_2
       try clear hcz21_3
       try clear hcz31_0
       try clear hcz31_1
       try clear hcz31_2
       try clear hcz31_3
       try clear hcz33_0
       try clear hcz33_1
       try clear hcz33_2
       try clear hcz33_3
       try clear hcz39_0
       try clear hcz39_1
       try clear hcz39_2
       try clear hcz39_3
       try clear hcz46_0
       try clear hcz46_1
       try clear hcz46_2
       try clear hcz46_3
       try clear hcz48_0
       try clear hcz48_1
       try clear hcz48_2
       try clear hcz48_3
       try clear hcz8_0
       try clear hcz8_1
       try clear hcz8_2
       try clear hcz8_3
       try clear hfz14_0
       try clear hfz14_1
       try clear hfz14_2
       try clear hfz14_3
       try clear hfz20_0
       try clear hfz20_1
       try clear hfz20_2
       try clear hfz20_3
       try clear hfz21_0
       try clear hfz21_1
       try clear hfz21_2
       try clear hfz21_3
       try clear hfz31_0
       try clear hfz31_1
       try clear hfz31_2
       try clear hfz31_3
       try clear hfz33_0
       try clear hfz33_1
       try clear hfz33_2
       try clear hfz33_3
       try clear hfz39_0
       try clear hfz39_1
       try clear hfz39_2
       try clear hfz39_3
       try clear hfz46_0
       try clear hfz46_1
       try clear hfz46_2
       try clear hfz46_3
       try clear hfz48_0
       try clear hfz48_1
       try clear hfz48_2
       try clear hfz48_3
       try clear hfz8_0
       try clear hfz8_1
       try clear hfz8_2
       try clear hfz8_3
       try clear p2
       obtain ⟨kq, x59_28, rfl, HA, HJ28, HO_184002, HO_184003, HO_194002, HO_194003, HO_209002, HO_209003, BK183, BK193, BK208, HB⟩ := hcut
       have hl194002_28 := (Kd.R_reads' HO_194002.out).1
       rw [hl194002_28] at HO_194002
       (try simp only [hl194002_28])
       (try simp only [hl194002_28] at BK183)
       (try simp only [hl194002_28] at BK193)
       (try simp only [hl194002_28] at BK208)
       (try simp only [hl194002_28] at HO_184002)
       (try simp only [hl194002_28] at HO_184003)
       (try simp only [hl194002_28] at HO_194003)
       (try simp only [hl194002_28] at HO_209002)
       (try simp only [hl194002_28] at HO_209003)
       have hl194003_28 := (Kd.R_reads' HO_194003.out).1
       rw [hl194003_28] at HO_194003
       (try simp only [hl194003_28])
       (try simp only [hl194003_28] at BK183)
       (try simp only [hl194003_28] at BK193)
       (try simp only [hl194003_28] at BK208)
       (try simp only [hl194003_28] at HO_184002)
       (try simp only [hl194003_28] at HO_184003)
       (try simp only [hl194003_28] at HO_194002)
       (try simp only [hl194003_28] at HO_209002)
       (try simp only [hl194003_28] at HO_209003)
       cases kq with
       | zero => exact absurd HA.out (by simp [laws_FnExactFullFigure.j1])
       | succ kj28 =>
        have H := HA.out
        clear HA
        simp only [laws_FnExactFullFigure.j1] at H
        by_cases c50 : x59_28 = true
        ·subst c50
         have H1 : (some false) = some r := by rw [if_pos rfl] at H; exact H
         clear H
         have H := H1
         clear H1
         exact absurd ((Option.some.inj H).trans HR_.out) Bool.false_ne_true
        ·replace c50 := Bool.eq_false_iff.mpr c50
         subst c50
         have H1 : ((laws_heldFigure.f kj28 t184 t185 t196 t197 101).bind fun t210 => (if t210 < 0 then (some false) else (if t210 = t195 then (some true) else (some false)))) = some r := by rw [if_neg (show ¬ (false = true) by decide)] at H; exact H
         clear H
         have H := H1
         clear H1
         replace H := Option.bind_eq_some_iff.mp H
         obtain ⟨t210, A510, H⟩ := H
         replace H : (if t210 < 0 then (some false) else (if t210 = t195 then (some true) else (some false))) = some r := H
         have A51 := Aside0.mk A510
         clear A510
         by_cases c52 : t210 < 0
         ·rw [if_pos c52] at H
          have c52b0 : decide (t210 < 0) = true := decide_eq_true c52
          clear c52
          exact absurd ((Option.some.inj H).trans HR_.out) Bool.false_ne_true
         ·rw [if_neg c52] at H
          have c52b0 : decide (t210 < 0) = false := decide_eq_false c52
          clear c52
          by_cases c53 : t210 = t195
          ·rw [if_pos c53] at H
           have c53b0 : (t210 == t195) = true := beq_iff_eq.mpr c53
           have c53b1 : (t210 != t195) = false := bne_eq_false_iff_eq.mpr c53
           clear c53
           obtain rfl := Option.some.inj H
           have hnb54 := NB193_183.out
           have hnc54 := NB183_193.out
           have hnb55 := NB193_208.out
           have hnc55 := NB208_193.out
           have hcz56_0 : wc.cell? ⟨gb193, 0, none⟩ = some (.int .i64 t184) := (blk_cell BK193.out 0).trans rfl
           have hcz56_1 : wc.cell? ⟨gb193, 1, none⟩ = some (.int .i64 t185) := (blk_cell BK193.out 1).trans rfl
           have hcz56_2 : wc.cell? ⟨gb193, 2, none⟩ = some (.slice Ao15 t196.length co15) := (blk_cell BK193.out 2).trans rfl
           have hcz56_3 : wc.cell? ⟨gb193, 3, none⟩ = some (.slice Ao16 t197.length co16) := (blk_cell BK193.out 3).trans rfl
           have hfz56_0 := blk_frozen BK193.out 0
           have hfz56_1 := blk_frozen BK193.out 1
           have hfz56_2 := blk_frozen BK193.out 2
           have hfz56_3 := blk_frozen BK193.out 3
           go_wp2_with (first | ((with_reducible refine gate_callee (f := 20) rfl ?_); refine goesL_ (some 62) rfl rfl Tryd.func20 (by kernel_rfl) rfl #[.agg #[.int .i64 t184, .int .i64 t185, .slice Ao15 t196.length co15, .slice Ao16 t197.length co16], .int .i64 101] rfl (by (try simp only [List.map_toArray, List.map_cons, List.map_nil]); first | done | rfl | (simp only [List.length_drop, List.length_take]; rfl)) ?_; (with_reducible refine (laws_heldFigure.calls kj28 t184 t185 _ _ t196 _ _ t197 101 t210 _ ?side1 ?side2 ?side3 ?side4 A51.out).mono ?_); (case side1 => repeat (first | exact (Kd.R_reads' HO_194002.out).2.2 | (with_reducible refine Kd.C_alloc ?_ _) | (with_reducible refine Kd.C_drewN ?_ _) | (with_reducible refine Kd.C_drew ?_))); (case side2 => exact (Kd.R_reads' HO_194002.out).2.1); (case side3 => repeat (first | exact (Kd.R_reads' HO_194003.out).2.2 | (with_reducible refine Kd.C_alloc ?_ _) | (with_reducible refine Kd.C_drewN ?_ _) | (with_reducible refine Kd.C_drew ?_))); (case side4 => exact (Kd.R_reads' HO_194003.out).2.1); rintro e w57 ⟨rfl, hb⟩; refine ⟨_, rfl, ?_⟩; have n0_ := Aside0.mk (Kd.R_below (by (with_reducible repeat (first | apply Kd.R_alloc | apply Kd.R_drewN | apply Kd.R_drew)); exact HO_184002.out) hb); have n1_ := Aside0.mk (Kd.R_below (by (with_reducible repeat (first | apply Kd.R_alloc | apply Kd.R_drewN | apply Kd.R_drew)); exact HO_184003.out) hb); have n2_ := Aside0.mk (Kd.R_below (by (with_reducible repeat (first | apply Kd.R_alloc | apply Kd.R_drewN | apply Kd.R_drew)); exact HO_194002.out) hb); have n3_ := Aside0.mk (Kd.R_below (by (with_reducible repeat (first | apply Kd.R_alloc | apply Kd.R_drewN | apply Kd.R_drew)); exact HO_194003.out) hb); have n4_ := Aside0.mk (Kd.R_below (by (with_reducible repeat (first | apply Kd.R_alloc | apply Kd.R_drewN | apply Kd.R_drew)); exact HO_209002.out) hb); have n5_ := Aside0.mk (Kd.R_below (by (with_reducible repeat (first | apply Kd.R_alloc | apply Kd.R_drewN | apply Kd.R_drew)); exact HO_209003.out) hb); have n6_ := Aside0.mk (blk_below (g := gb183) (o := .cells #[.int .i64 t174, .int .i64 t175, .slice Ao9 t176.length co9, .slice Ao10 t179.length co10] 34 (0, 0)) (by (with_reducible repeat (first | refine blk_drewN ?_ _ | refine blk_drew ?_ | refine blk_alloc ?_ _)); exact BK183.out) hb); have n7_ := Aside0.mk (blk_below (g := gb193) (o := .cells #[.int .i64 t184, .int .i64 t185, .slice Ao15 t196.length co15, .slice Ao16 t197.length co16] 34 (0, 0)) (by (with_reducible repeat (first | refine blk_drewN ?_ _ | refine blk_drew ?_ | refine blk_alloc ?_ _)); exact BK193.out) hb); have n8_ := Aside0.mk (blk_below (g := gb208) (o := .cells #[.int .i64 t199, .int .i64 t200, .slice Ao40 t201.length co40, .slice Ao41 t204.length co41] 34 (0, 0)) (by (with_reducible repeat (first | refine blk_drewN ?_ _ | refine blk_drew ?_ | refine blk_alloc ?_ _)); exact BK208.out) hb); have n9_ := Aside0.mk (below_step (by repeat (first | (with_reducible first | exact HB.out | apply below_alloc | apply pw_below_drewN | apply below_drew1 | refine below_set ?_ GE183.out | refine below_set ?_ GE193.out | refine below_set ?_ GE208.out) | exact HB.out)) hb); clear HO_184002; clear HO_184003; clear HO_194002; clear HO_194003; clear HO_209002; clear HO_209003; clear BK183; clear BK193; clear BK208; clear HB; have HO_184002 := n0_; have HO_184003 := n1_; have HO_194002 := n2_; have HO_194003 := n3_; have HO_209002 := n4_; have HO_209003 := n5_; have BK183 := n6_; have BK193 := n7_; have BK208 := n8_; have HB := n9_; clear n0_ n1_ n2_ n3_ n4_ n5_ n6_ n7_ n8_ n9_; (try clear hb); (try clear hb2); (try clear hk); (try clear hi)))
           go_ret
           exact ⟨by first | rfl | (simp [errW_none, errW_some] <;> rfl) | (simp [*, errW_none, errW_some] <;> rfl), by repeat (first | (with_reducible first | exact HB.out | apply below_alloc | apply pw_below_drewN | apply below_drew1 | refine below_set ?_ GE183.out | refine below_set ?_ GE193.out | refine below_set ?_ GE208.out) | exact HB.out)⟩
          ·rw [if_neg c53] at H
           have c53b0 : (t210 == t195) = false := beq_eq_false_iff_ne.mpr c53
           have c53b1 : (t210 != t195) = true := bne_iff_ne.mpr c53
           exact absurd ((Option.some.inj H).trans HR_.out) Bool.false_ne_true
     ·rw [if_neg c27] at H
      have c27b0 : (t198 == t195) = false := beq_eq_false_iff_ne.mpr c27
      have c27b1 : (t198 != t195) = true := bne_iff_ne.mpr c27
      exact absurd ((Option.some.inj H).trans HR_.out) Bool.false_ne_true

/-- THE ONE PURE STATEMENT of laws_FnExactFullFigure. -/
def laws_FnExactFullFigure.Pure : Prop := ∀ (a0 : Int) (a1 : Int), (Lit.int .i64 a0).wf = true → (Lit.int .i64 a1).wf = true → ∃ k, laws_FnExactFullFigure.f k a0 a1 = some true

end Go.Proofs.YtnmngpgjkokdaaaDoor.Q
