-- written by a program of this session, pm.py, for this claim
-- half the indentation
import Derived.Test.YtnmngpgjkokdaaaDoorQFnExactSquareFigurex0
import Derived.Test.YtnmngpgjkokdaaaDoorQFnExactSquareFigurex1
import Derived.Test.YtnmngpgjkokdaaaDoorQFnExactSquareFigurex3
import Derived.Test.YtnmngpgjkokdaaaDoorQFnExactSquareFigurex4
namespace Go.Proofs.YtnmngpgjkokdaaaDoor.Q
open Go.RowKit Go.Proofs.YtnmngpgjkokdaaaDoorW.PrintWords Go.Proofs.YtnmngpgjkokdaaaDoorW.PrintLast Go.Proofs.YtnmngpgjkokdaaaDoorW.PrintMore
attribute [local go_sem] max2_int min2_int max_two min_two max_three min_three max_four min_four   -- for this text's walks alone
set_option linter.unusedVariables false
set_option linter.unusedSimpArgs false

/-! ### laws_FnExactSquareFigure: function 4 -/
mutual
def laws_FnExactSquareFigure.j0 : Nat → Int → Int → Int → Int → Int → Bool → Bool → Int → Int → List Int → List Int → Int → Int → List Int → List Int → Option (Bool)
 | 0, _, _, _, _, _, _, _, _, _, _, _, _, _, _, _ => none
 | k + 1, x0, x1, x2, x3, x4, x12, x45, x200000, x200001, x200002, x200003, x210000, x210001, x210002, x210003 => if x45 = true then (some false) else ((laws_markFigure.f k x210000 x210001 x210002 x210003 101).bind fun bt211 => ((laws_heldFigure.f k x210000 x210001 bt211.2.1 bt211.2.2 101).bind fun t214 => (if t214 < 0 then (some false) else (if t214 = bt211.1 then ((impl_SquareFigure.f k x0 x1 x2 x3 x4).bind fun bt215 => ((laws_eqFigure.f k bt215.1 bt215.2.1 bt215.2.2.1 bt215.2.2.2.1 x200000 x200001 x200002 x200003).bind fun t225 => (if t225 = true then (laws_FnExactSquareFigure.j1 k bt211.1 (bt215.2.2.2.2 != x12) x210000 x210001 bt211.2.1 bt211.2.2) else (laws_FnExactSquareFigure.j1 k bt211.1 true x210000 x210001 bt211.2.1 bt211.2.2)))) else (some false)))))
def laws_FnExactSquareFigure.j1 : Nat → Int → Bool → Int → Int → List Int → List Int → Option (Bool)
 | 0, _, _, _, _, _, _ => none
 | k + 1, x15, x74, x210000, x210001, x210002, x210003 => if x74 = true then (some false) else ((laws_heldFigure.f k x210000 x210001 x210002 x210003 101).bind fun t226 => (if t226 < 0 then (some false) else (if t226 = x15 then (some true) else (some false))))
end
def laws_FnExactSquareFigure.f (k : Nat) (a0 : Int) (a1 : Int) (a2 : Int) (a3 : Int) (a4 : Int) : Option (Bool) := (spec_SquareFigure.f k a0 a1 a2 a3 a4).bind fun bt190 => ((impl_SquareFigure.f k a0 a1 a2 a3 a4).bind fun bt200 => ((laws_eqFigure.f k bt200.1 bt200.2.1 bt200.2.2.1 bt200.2.2.2.1 bt190.1 bt190.2.1 bt190.2.2.1 bt190.2.2.2.1).bind fun t210 => (if t210 = true then (laws_FnExactSquareFigure.j0 k a0 a1 a2 a3 a4 bt190.2.2.2.2 (bt200.2.2.2.2 != bt190.2.2.2.2) bt190.1 bt190.2.1 bt190.2.2.1 bt190.2.2.2.1 bt200.1 bt200.2.1 bt200.2.2.1 bt200.2.2.2.1) else (laws_FnExactSquareFigure.j0 k a0 a1 a2 a3 a4 bt190.2.2.2.2 true bt190.1 bt190.2.1 bt190.2.2.1 bt190.2.2.2.1 bt200.1 bt200.2.1 bt200.2.2.1 bt200.2.2.2.1))))
theorem laws_FnExactSquareFigure.mono_l : ∀ k, (∀ y0 y1 y2 y3 y4 y5 y6 y7 y8 y9 y10 y11 y12 y13 y14, LeO (laws_FnExactSquareFigure.j0 k y0 y1 y2 y3 y4 y5 y6 y7 y8 y9 y10 y11 y12 y13 y14) (laws_FnExactSquareFigure.j0 (k + 1) y0 y1 y2 y3 y4 y5 y6 y7 y8 y9 y10 y11 y12 y13 y14)) ∧ (∀ y0 y1 y2 y3 y4 y5, LeO (laws_FnExactSquareFigure.j1 k y0 y1 y2 y3 y4 y5) (laws_FnExactSquareFigure.j1 (k + 1) y0 y1 y2 y3 y4 y5))
 | 0 => ⟨fun _ _ _ _ _ _ _ _ _ _ _ _ _ _ _ r h => by simp [laws_FnExactSquareFigure.j0] at h, fun _ _ _ _ _ _ r h => by simp [laws_FnExactSquareFigure.j1] at h⟩
 | k + 1 => by
  obtain ⟨ih0, ih1⟩ := laws_FnExactSquareFigure.mono_l k
  refine ⟨?_, ?_⟩
  ·intro y0 y1 y2 y3 y4 y5 y6 y7 y8 y9 y10 y11 y12 y13 y14
   unfold laws_FnExactSquareFigure.j0
   repeat' first
   | (with_reducible exact ih0 _ _ _ _ _ _ _ _ _ _ _ _ _ _ _)
   | (with_reducible exact ih1 _ _ _ _ _ _)
   | (with_reducible exact impl_SquareFigure.mono _ _ _ _ _ _)
   | (with_reducible exact laws_eqFigure.mono _ _ _ _ _ _ _ _ _)
   | (with_reducible exact laws_heldFigure.mono _ _ _ _ _ _)
   | (with_reducible exact laws_markFigure.mono _ _ _ _ _ _)
   | (with_reducible exact spec_SquareFigure.mono _ _ _ _ _ _)
   | (with_reducible exact LeO.refl _)
   | (with_reducible exact LeO.none _)
   | (with_reducible refine LeO.ite ?_ ?_)
   | (with_reducible refine LeO.bind ?_ (fun _ => ?_))
   | exact ih0 _ _ _ _ _ _ _ _ _ _ _ _ _ _ _
   | exact ih1 _ _ _ _ _ _
   | exact impl_SquareFigure.mono _ _ _ _ _ _
   | exact laws_eqFigure.mono _ _ _ _ _ _ _ _ _
   | exact laws_heldFigure.mono _ _ _ _ _ _
   | exact laws_markFigure.mono _ _ _ _ _ _
   | exact spec_SquareFigure.mono _ _ _ _ _ _
   | exact LeO.none _
   | refine LeO.ite ?_ ?_
   | refine LeO.bind ?_ (fun _ => ?_)
  ·intro y0 y1 y2 y3 y4 y5
   unfold laws_FnExactSquareFigure.j1
   repeat' first
   | (with_reducible exact ih0 _ _ _ _ _ _ _ _ _ _ _ _ _ _ _)
   | (with_reducible exact ih1 _ _ _ _ _ _)
   | (with_reducible exact impl_SquareFigure.mono _ _ _ _ _ _)
   | (with_reducible exact laws_eqFigure.mono _ _ _ _ _ _ _ _ _)
   | (with_reducible exact laws_heldFigure.mono _ _ _ _ _ _)
   | (with_reducible exact laws_markFigure.mono _ _ _ _ _ _)
   | (with_reducible exact spec_SquareFigure.mono _ _ _ _ _ _)
   | (with_reducible exact LeO.refl _)
   | (with_reducible exact LeO.none _)
   | (with_reducible refine LeO.ite ?_ ?_)
   | (with_reducible refine LeO.bind ?_ (fun _ => ?_))
   | exact ih0 _ _ _ _ _ _ _ _ _ _ _ _ _ _ _
   | exact ih1 _ _ _ _ _ _
   | exact impl_SquareFigure.mono _ _ _ _ _ _
   | exact laws_eqFigure.mono _ _ _ _ _ _ _ _ _
   | exact laws_heldFigure.mono _ _ _ _ _ _
   | exact laws_markFigure.mono _ _ _ _ _ _
   | exact spec_SquareFigure.mono _ _ _ _ _ _
   | exact LeO.none _
   | refine LeO.ite ?_ ?_
   | refine LeO.bind ?_ (fun _ => ?_)
theorem laws_FnExactSquareFigure.mono : ∀ a0 a1 a2 a3 a4 k, LeO (laws_FnExactSquareFigure.f k a0 a1 a2 a3 a4) (laws_FnExactSquareFigure.f (k + 1) a0 a1 a2 a3 a4) := by
 intro a0 a1 a2 a3 a4 k
 obtain ⟨ih0, ih1⟩ := laws_FnExactSquareFigure.mono_l k
 unfold laws_FnExactSquareFigure.f
 repeat' first
   | (with_reducible exact ih0 _ _ _ _ _ _ _ _ _ _ _ _ _ _ _)
   | (with_reducible exact ih1 _ _ _ _ _ _)
   | (with_reducible exact impl_SquareFigure.mono _ _ _ _ _ _)
   | (with_reducible exact laws_eqFigure.mono _ _ _ _ _ _ _ _ _)
   | (with_reducible exact laws_heldFigure.mono _ _ _ _ _ _)
   | (with_reducible exact laws_markFigure.mono _ _ _ _ _ _)
   | (with_reducible exact spec_SquareFigure.mono _ _ _ _ _ _)
   | (with_reducible exact LeO.refl _)
   | (with_reducible exact LeO.none _)
   | (with_reducible refine LeO.ite ?_ ?_)
   | (with_reducible refine LeO.bind ?_ (fun _ => ?_))
   | exact ih0 _ _ _ _ _ _ _ _ _ _ _ _ _ _ _
   | exact ih1 _ _ _ _ _ _
   | exact impl_SquareFigure.mono _ _ _ _ _ _
   | exact laws_eqFigure.mono _ _ _ _ _ _ _ _ _
   | exact laws_heldFigure.mono _ _ _ _ _ _
   | exact laws_markFigure.mono _ _ _ _ _ _
   | exact spec_SquareFigure.mono _ _ _ _ _ _
   | exact LeO.none _
   | refine LeO.ite ?_ ?_
   | refine LeO.bind ?_ (fun _ => ?_)
set_option maxHeartbeats 8000000 in
set_option maxRecDepth 100000 in
theorem laws_FnExactSquareFigure.calls (k : Nat) (a0 : Int) (a1 : Int) (a2 : Int) (a3 : Int) (a4 : Int) (r : Bool) (w : World) (hG : LaidG w) (hr_ : r = true) (h : laws_FnExactSquareFigure.f k a0 a1 a2 a3 a4 = some r) :
  Calls Tryd.prog 4 #[.int .i64 a0, .int .i64 a1, .int .i64 a2, .int .i64 a3, .int .i64 a4] w fun e w' => e = .returned (.bool r) ∧ Below w.heap.size w w' := by
 have hu34 := Tryd.underlying34
 have HG := Aside0.mk hG
 clear hG
 have HR_ := Aside0.mk hr_
 clear hr_
 have HB := Aside0.mk (Below.refl w.heap.size w)
 have H : ((spec_SquareFigure.f k a0 a1 a2 a3 a4).bind fun bt190 => ((impl_SquareFigure.f k a0 a1 a2 a3 a4).bind fun bt200 => ((laws_eqFigure.f k bt200.1 bt200.2.1 bt200.2.2.1 bt200.2.2.2.1 bt190.1 bt190.2.1 bt190.2.2.1 bt190.2.2.2.1).bind fun t210 => (if t210 = true then (laws_FnExactSquareFigure.j0 k a0 a1 a2 a3 a4 bt190.2.2.2.2 (bt200.2.2.2.2 != bt190.2.2.2.2) bt190.1 bt190.2.1 bt190.2.2.1 bt190.2.2.2.1 bt200.1 bt200.2.1 bt200.2.2.1 bt200.2.2.2.1) else (laws_FnExactSquareFigure.j0 k a0 a1 a2 a3 a4 bt190.2.2.2.2 true bt190.1 bt190.2.1 bt190.2.2.1 bt190.2.2.2.1 bt200.1 bt200.2.1 bt200.2.2.1 bt200.2.2.2.1))))) = some r := h
 clear h
 replace H := Option.bind_eq_some_iff.mp H
 obtain ⟨⟨t190, t191, t192, t195, t198⟩, A60, H⟩ := H
 replace H : ((impl_SquareFigure.f k a0 a1 a2 a3 a4).bind fun bt200 => ((laws_eqFigure.f k bt200.1 bt200.2.1 bt200.2.2.1 bt200.2.2.2.1 t190 t191 t192 t195).bind fun t210 => (if t210 = true then (laws_FnExactSquareFigure.j0 k a0 a1 a2 a3 a4 t198 (bt200.2.2.2.2 != t198) t190 t191 t192 t195 bt200.1 bt200.2.1 bt200.2.2.1 bt200.2.2.2.1) else (laws_FnExactSquareFigure.j0 k a0 a1 a2 a3 a4 t198 true t190 t191 t192 t195 bt200.1 bt200.2.1 bt200.2.2.1 bt200.2.2.2.1)))) = some r := H
 have A6 := Aside0.mk A60
 clear A60
 replace H := Option.bind_eq_some_iff.mp H
 obtain ⟨⟨t200, t201, t202, t205, t208⟩, A70, H⟩ := H
 replace H : ((laws_eqFigure.f k t200 t201 t202 t205 t190 t191 t192 t195).bind fun t210 => (if t210 = true then (laws_FnExactSquareFigure.j0 k a0 a1 a2 a3 a4 t198 (t208 != t198) t190 t191 t192 t195 t200 t201 t202 t205) else (laws_FnExactSquareFigure.j0 k a0 a1 a2 a3 a4 t198 true t190 t191 t192 t195 t200 t201 t202 t205))) = some r := H
 have A7 := Aside0.mk A70
 clear A70
 have HC8 := Aside0.mk H
 clear H
 go_enter Tryd.func4, Tryd.ntmps4
 go_upto_region 3 with (first | ((with_reducible refine gate_callee (f := 16) rfl ?_); refine goesL_ (some 25) rfl rfl Tryd.func16 (by kernel_rfl) rfl #[.int .i64 a0, .int .i64 a1, .int .i64 a2, .int .i64 a3, .int .i64 a4] rfl (by (try simp only [List.map_toArray, List.map_cons, List.map_nil]); first | done | rfl | (simp only [List.length_drop, List.length_take]; rfl)) ?_; (with_reducible refine (spec_SquareFigure.calls k a0 a1 a2 a3 a4 t190 t191 t192 t195 t198 _ A6.out).mono ?_); rintro e w9 ⟨v193, v196, rfl, ho0, ho1, hb⟩; refine ⟨_, rfl, ?_⟩; have n0_ := Aside0.mk (Kd.R_lower ho0 (below_size (by repeat (first | (with_reducible first | exact HB.out | apply below_alloc | apply pw_below_drewN | apply below_drew1) | exact HB.out)))); have n1_ := Aside0.mk (Kd.R_lower ho1 (below_size (by repeat (first | (with_reducible first | exact HB.out | apply below_alloc | apply pw_below_drewN | apply below_drew1) | exact HB.out)))); have n2_ := Aside0.mk (below_step (by repeat (first | (with_reducible first | exact HB.out | apply below_alloc | apply pw_below_drewN | apply below_drew1) | exact HB.out)) hb); clear HB; have HO194 := n0_; have HO197 := n1_; have HB := n2_; clear n0_ n1_ n2_; (try clear hb); (try clear hb2); (try clear hk); (try clear hi); (try clear ho0); (try clear ho1)) | ((with_reducible refine gate_dst (N := 11) rfl ?_); refine box_event ?hg (N := 11) ?hd (cs := #[.int .i64 0, .int .i64 0, .slice none 0 0, .slice none 0 0]) (t := 34) ?hr ?_; (case hd => rfl); (case hg => rfl); (case hr => first | (go_simp; done) | (go_simp; rfl)); intro gb199 hg w10 hbox hb; have n0_ := Aside0.mk (Kd.R_below (by (with_reducible repeat (first | apply Kd.R_alloc | apply Kd.R_drewN | apply Kd.R_drew)); exact HO194.out) hb); have n1_ := Aside0.mk (Kd.R_below (by (with_reducible repeat (first | apply Kd.R_alloc | apply Kd.R_drewN | apply Kd.R_drew)); exact HO197.out) hb); have n2_ := Aside0.mk (below_step (by repeat (first | (with_reducible first | exact HB.out | apply below_alloc | apply pw_below_drewN | apply below_drew1) | exact HB.out)) hb); have n3_ := Aside0.mk (hbox); have n4_ := Aside0.mk ((by rw [hg]; exact (below_size (by repeat (first | (with_reducible first | exact HB.out | apply below_alloc | apply pw_below_drewN | apply below_drew1) | exact HB.out))) : w.heap.size ≤ gb199)); have n5_ := Aside0.mk ((by rw [hg]; exact (below_size (by repeat (first | (with_reducible first | exact HB.out | apply below_alloc | apply pw_below_drewN | apply below_drew1) | exact HB.out))) : w.heap.size ≤ gb199)); clear HO194; clear HO197; clear HB; have HO194 := n0_; have HO197 := n1_; have HB := n2_; have BK199 := n3_; have GW199 := n4_; have GE199 := n5_; clear n0_ n1_ n2_ n3_ n4_ n5_; clear hb hbox hg; have hcz11_0 : w10.cell? ⟨gb199, 0, none⟩ = some (.int .i64 0) := (blk_cell BK199.out 0).trans rfl; have hcz11_1 : w10.cell? ⟨gb199, 1, none⟩ = some (.int .i64 0) := (blk_cell BK199.out 1).trans rfl; have hcz11_2 : w10.cell? ⟨gb199, 2, none⟩ = some (.slice none 0 0) := (blk_cell BK199.out 2).trans rfl; have hcz11_3 : w10.cell? ⟨gb199, 3, none⟩ = some (.slice none 0 0) := (blk_cell BK199.out 3).trans rfl; have hfz11_0 := blk_frozen BK199.out 0; have hfz11_1 := blk_frozen BK199.out 1; have hfz11_2 := blk_frozen BK199.out 2; have hfz11_3 := blk_frozen BK199.out 3; obtain ⟨Ao12, co12, eo12⟩ := Kd.R_slice HO194.out; subst eo12; obtain ⟨Ao13, co13, eo13⟩ := Kd.R_slice HO197.out; subst eo13) | ((with_reducible refine gate_callee (f := 17) rfl ?_); refine goesL_ (some 34) rfl rfl Tryd.func17 (by kernel_rfl) rfl #[.int .i64 a0, .int .i64 a1, .int .i64 a2, .int .i64 a3, .int .i64 a4] rfl (by (try simp only [List.map_toArray, List.map_cons, List.map_nil]); first | done | rfl | (simp only [List.length_drop, List.length_take]; rfl)) ?_; (with_reducible refine (impl_SquareFigure.calls k a0 a1 a2 a3 a4 t200 t201 t202 t205 t208 _ ?side1 A7.out).mono ?_); (case side1 => first | exact LaidG_below HG.out (by repeat (first | (with_reducible first | exact HB.out | apply below_alloc | apply pw_below_drewN | apply below_drew1 | refine below_set ?_ GE199.out) | exact HB.out)) | (repeat (first | exact HG.out | (with_reducible refine LaidG_alloc ?_ _) | (with_reducible refine LaidG_drewN ?_ _) | (with_reducible refine LaidG_drew ?_)))); rintro e w14 ⟨v203, v206, rfl, ho0, ho1, hb⟩; refine ⟨_, rfl, ?_⟩; have n0_ := Aside0.mk (Kd.R_mono (Kd.R_told (Kd.R_told (Kd.R_old (by (with_reducible repeat (first | apply Kd.R_alloc | apply Kd.R_drewN | apply Kd.R_drew)); exact (Kd.R_mono (Kd.R_far (p := ⟨gb199, 3, none⟩) (Kd.R_far (p := ⟨gb199, 2, none⟩) (Kd.R_far (p := ⟨gb199, 1, none⟩) (Kd.R_far (p := ⟨gb199, 0, none⟩) (Kd.R_types HO194.out BK199.out (by decide)) (fun _ hk => hk.2) (.int .i64 t190)) (fun _ hk => hk.2) (.int .i64 t191)) (fun _ hk => hk.2) (.slice Ao12 t192.length co12)) (fun _ hk => hk.2) (.slice Ao13 t195.length co13)) (fun _ h_ => h_.1))) hb) (Kd.R_base ho0)) (Kd.R_base ho1)) (fun _ h_ => h_.1)); have n1_ := Aside0.mk (Kd.R_mono (Kd.R_told (Kd.R_told (Kd.R_old (by (with_reducible repeat (first | apply Kd.R_alloc | apply Kd.R_drewN | apply Kd.R_drew)); exact (Kd.R_mono (Kd.R_far (p := ⟨gb199, 3, none⟩) (Kd.R_far (p := ⟨gb199, 2, none⟩) (Kd.R_far (p := ⟨gb199, 1, none⟩) (Kd.R_far (p := ⟨gb199, 0, none⟩) (Kd.R_types HO197.out BK199.out (by decide)) (fun _ hk => hk.2) (.int .i64 t190)) (fun _ hk => hk.2) (.int .i64 t191)) (fun _ hk => hk.2) (.slice Ao12 t192.length co12)) (fun _ hk => hk.2) (.slice Ao13 t195.length co13)) (fun _ h_ => h_.1))) hb) (Kd.R_base ho0)) (Kd.R_base ho1)) (fun _ h_ => h_.1)); have n2_ := Aside0.mk (Kd.R_lower (Kd.R_new' (Kd.R_new' ho0 (Kd.R_lt (by (with_reducible repeat (first | apply Kd.R_alloc | apply Kd.R_drewN | apply Kd.R_drew)); exact (Kd.R_mono (Kd.R_far (p := ⟨gb199, 3, none⟩) (Kd.R_far (p := ⟨gb199, 2, none⟩) (Kd.R_far (p := ⟨gb199, 1, none⟩) (Kd.R_far (p := ⟨gb199, 0, none⟩) (Kd.R_types HO194.out BK199.out (by decide)) (fun _ hk => hk.2) (.int .i64 t190)) (fun _ hk => hk.2) (.int .i64 t191)) (fun _ hk => hk.2) (.slice Ao12 t192.length co12)) (fun _ hk => hk.2) (.slice Ao13 t195.length co13)) (fun _ h_ => h_.1))))) (Kd.R_lt (by (with_reducible repeat (first | apply Kd.R_alloc | apply Kd.R_drewN | apply Kd.R_drew)); exact (Kd.R_mono (Kd.R_far (p := ⟨gb199, 3, none⟩) (Kd.R_far (p := ⟨gb199, 2, none⟩) (Kd.R_far (p := ⟨gb199, 1, none⟩) (Kd.R_far (p := ⟨gb199, 0, none⟩) (Kd.R_types HO197.out BK199.out (by decide)) (fun _ hk => hk.2) (.int .i64 t190)) (fun _ hk => hk.2) (.int .i64 t191)) (fun _ hk => hk.2) (.slice Ao12 t192.length co12)) (fun _ hk => hk.2) (.slice Ao13 t195.length co13)) (fun _ h_ => h_.1))))) (below_size (by repeat (first | (with_reducible first | exact HB.out | apply below_alloc | apply pw_below_drewN | apply below_drew1 | refine below_set ?_ GE199.out) | exact HB.out)))); have n3_ := Aside0.mk (Kd.R_lower (Kd.R_new' (Kd.R_new' ho1 (Kd.R_lt (by (with_reducible repeat (first | apply Kd.R_alloc | apply Kd.R_drewN | apply Kd.R_drew)); exact (Kd.R_mono (Kd.R_far (p := ⟨gb199, 3, none⟩) (Kd.R_far (p := ⟨gb199, 2, none⟩) (Kd.R_far (p := ⟨gb199, 1, none⟩) (Kd.R_far (p := ⟨gb199, 0, none⟩) (Kd.R_types HO194.out BK199.out (by decide)) (fun _ hk => hk.2) (.int .i64 t190)) (fun _ hk => hk.2) (.int .i64 t191)) (fun _ hk => hk.2) (.slice Ao12 t192.length co12)) (fun _ hk => hk.2) (.slice Ao13 t195.length co13)) (fun _ h_ => h_.1))))) (Kd.R_lt (by (with_reducible repeat (first | apply Kd.R_alloc | apply Kd.R_drewN | apply Kd.R_drew)); exact (Kd.R_mono (Kd.R_far (p := ⟨gb199, 3, none⟩) (Kd.R_far (p := ⟨gb199, 2, none⟩) (Kd.R_far (p := ⟨gb199, 1, none⟩) (Kd.R_far (p := ⟨gb199, 0, none⟩) (Kd.R_types HO197.out BK199.out (by decide)) (fun _ hk => hk.2) (.int .i64 t190)) (fun _ hk => hk.2) (.int .i64 t191)) (fun _ hk => hk.2) (.slice Ao12 t192.length co12)) (fun _ hk => hk.2) (.slice Ao13 t195.length co13)) (fun _ h_ => h_.1))))) (below_size (by repeat (first | (with_reducible first | exact HB.out | apply below_alloc | apply pw_below_drewN | apply below_drew1 | refine below_set ?_ GE199.out) | exact HB.out)))); have n4_ := Aside0.mk (blk_below (g := gb199) (o := .cells #[.int .i64 t190, .int .i64 t191, .slice Ao12 t192.length co12, .slice Ao13 t195.length co13] 34 (0, 0)) (by (with_reducible repeat (first | refine blk_drewN ?_ _ | refine blk_drew ?_ | refine blk_alloc ?_ _)); refine blk_put (cs := #[.int .i64 t190, .int .i64 t191, .slice Ao12 t192.length co12, .slice none 0 0]) ?_ 3 _ rfl; (with_reducible repeat (first | refine blk_drewN ?_ _ | refine blk_drew ?_ | refine blk_alloc ?_ _)); refine blk_put (cs := #[.int .i64 t190, .int .i64 t191, .slice none 0 0, .slice none 0 0]) ?_ 2 _ rfl; (with_reducible repeat (first | refine blk_drewN ?_ _ | refine blk_drew ?_ | refine blk_alloc ?_ _)); refine blk_put (cs := #[.int .i64 t190, .int .i64 0, .slice none 0 0, .slice none 0 0]) ?_ 1 _ rfl; (with_reducible repeat (first | refine blk_drewN ?_ _ | refine blk_drew ?_ | refine blk_alloc ?_ _)); refine blk_put (cs := #[.int .i64 0, .int .i64 0, .slice none 0 0, .slice none 0 0]) ?_ 0 _ rfl; (with_reducible repeat (first | refine blk_drewN ?_ _ | refine blk_drew ?_ | refine blk_alloc ?_ _)); exact BK199.out) hb); have n5_ := Aside0.mk (below_step (by repeat (first | (with_reducible first | exact HB.out | apply below_alloc | apply pw_below_drewN | apply below_drew1 | refine below_set ?_ GE199.out) | exact HB.out)) hb); clear HO194; clear HO197; clear BK199; clear HB; have HO194 := n0_; have HO197 := n1_; have HO204 := n2_; have HO207 := n3_; have BK199 := n4_; have HB := n5_; clear n0_ n1_ n2_ n3_ n4_ n5_; (try clear hb); (try clear hb2); (try clear hk); (try clear hi); (try clear ho0); (try clear ho1)) | ((with_reducible refine gate_dst (N := 13) rfl ?_); refine box_event ?hg (N := 13) ?hd (cs := #[.int .i64 0, .int .i64 0, .slice none 0 0, .slice none 0 0]) (t := 34) ?hr ?_; (case hd => rfl); (case hg => rfl); (case hr => first | (go_simp; done) | (go_simp; rfl)); intro gb209 hg w15 hbox hb; have n0_ := Aside0.mk (Kd.R_below (by (with_reducible repeat (first | apply Kd.R_alloc | apply Kd.R_drewN | apply Kd.R_drew)); exact HO194.out) hb); have n1_ := Aside0.mk (Kd.R_below (by (with_reducible repeat (first | apply Kd.R_alloc | apply Kd.R_drewN | apply Kd.R_drew)); exact HO197.out) hb); have n2_ := Aside0.mk (Kd.R_below (by (with_reducible repeat (first | apply Kd.R_alloc | apply Kd.R_drewN | apply Kd.R_drew)); exact HO204.out) hb); have n3_ := Aside0.mk (Kd.R_below (by (with_reducible repeat (first | apply Kd.R_alloc | apply Kd.R_drewN | apply Kd.R_drew)); exact HO207.out) hb); have n4_ := Aside0.mk (blk_below (g := gb199) (o := .cells #[.int .i64 t190, .int .i64 t191, .slice Ao12 t192.length co12, .slice Ao13 t195.length co13] 34 (0, 0)) (by (with_reducible repeat (first | refine blk_drewN ?_ _ | refine blk_drew ?_ | refine blk_alloc ?_ _)); exact BK199.out) hb); have n5_ := Aside0.mk (below_step (by repeat (first | (with_reducible first | exact HB.out | apply below_alloc | apply pw_below_drewN | apply below_drew1 | refine below_set ?_ GE199.out) | exact HB.out)) hb); have n6_ := Aside0.mk (hbox); have n7_ := Aside0.mk ((by rw [hg]; exact (below_size (by repeat (first | (with_reducible first | exact HB.out | apply below_alloc | apply pw_below_drewN | apply below_drew1 | refine below_set ?_ GE199.out) | exact HB.out))) : w.heap.size ≤ gb209)); have n8_ := Aside0.mk ((by rw [hg]; exact (below_size (by repeat (first | (with_reducible first | exact HB.out | apply below_alloc | apply pw_below_drewN | apply below_drew1 | refine below_set ?_ GE199.out) | exact HB.out))) : w.heap.size ≤ gb209)); have n9_ := Aside0.mk ((by rw [hg]; exact Nat.ne_of_lt (blk_lt (g := gb199) (o := .cells #[.int .i64 t190, .int .i64 t191, .slice Ao12 t192.length co12, .slice Ao13 t195.length co13] 34 (0, 0)) (by (with_reducible repeat (first | refine blk_drewN ?_ _ | refine blk_drew ?_ | refine blk_alloc ?_ _)); exact BK199.out)) : gb199 ≠ gb209)); have n10_ := Aside0.mk ((by rw [hg]; exact Nat.ne_of_gt (blk_lt (g := gb199) (o := .cells #[.int .i64 t190, .int .i64 t191, .slice Ao12 t192.length co12, .slice Ao13 t195.length co13] 34 (0, 0)) (by (with_reducible repeat (first | refine blk_drewN ?_ _ | refine blk_drew ?_ | refine blk_alloc ?_ _)); exact BK199.out)) : gb209 ≠ gb199)); clear HO194; clear HO197; clear HO204; clear HO207; clear BK199; clear HB; have HO194 := n0_; have HO197 := n1_; have HO204 := n2_; have HO207 := n3_; have BK199 := n4_; have HB := n5_; have BK209 := n6_; have GW209 := n7_; have GE209 := n8_; have NB199_209 := n9_; have NB209_199 := n10_; clear n0_ n1_ n2_ n3_ n4_ n5_ n6_ n7_ n8_ n9_ n10_; clear hb hbox hg; have hnb16 := NB209_199.out; have hnc16 := NB199_209.out; have hcz17_0 : w15.cell? ⟨gb209, 0, none⟩ = some (.int .i64 0) := (blk_cell BK209.out 0).trans rfl; have hcz17_1 : w15.cell? ⟨gb209, 1, none⟩ = some (.int .i64 0) := (blk_cell BK209.out 1).trans rfl; have hcz17_2 : w15.cell? ⟨gb209, 2, none⟩ = some (.slice none 0 0) := (blk_cell BK209.out 2).trans rfl; have hcz17_3 : w15.cell? ⟨gb209, 3, none⟩ = some (.slice none 0 0) := (blk_cell BK209.out 3).trans rfl; have hfz17_0 := blk_frozen BK209.out 0; have hfz17_1 := blk_frozen BK209.out 1; have hfz17_2 := blk_frozen BK209.out 2; have hfz17_3 := blk_frozen BK209.out 3; obtain ⟨Ao18, co18, eo18⟩ := Kd.R_slice HO204.out; subst eo18; obtain ⟨Ao19, co19, eo19⟩ := Kd.R_slice HO207.out; subst eo19))
 (try simp only [Act.put, List.setIfInBounds_toArray, List.set_cons_zero, List.set_cons_succ])
 go_cut [45] (fun v45 wc => ∃ (kq : Nat) (x45_7 : Bool), v45 = .bool x45_7 ∧ Aside0 (laws_FnExactSquareFigure.j0 kq a0 a1 a2 a3 a4 t198 x45_7 t190 t191 t192 t195 t200 t201 t202 t205 = some r) ∧ Aside0 (kq ≤ k) ∧ Aside0 (Kd.R (Kd.int .i64) 3 wc w.heap.size (fun k_ => some k_ ≠ ((.slice Ao13 t195.length co13) : Value).ownBlock ∧ some k_ ≠ ((.slice Ao18 t202.length co18) : Value).ownBlock ∧ some k_ ≠ ((.slice Ao19 t205.length co19) : Value).ownBlock) (.slice Ao12 t192.length co12) t192) ∧ Aside0 (Kd.R (Kd.int .i64) 3 wc w.heap.size (fun k_ => some k_ ≠ ((.slice Ao12 t192.length co12) : Value).ownBlock ∧ some k_ ≠ ((.slice Ao18 t202.length co18) : Value).ownBlock ∧ some k_ ≠ ((.slice Ao19 t205.length co19) : Value).ownBlock) (.slice Ao13 t195.length co13) t195) ∧ Aside0 (Kd.R (Kd.int .i64) 3 wc w.heap.size (fun k_ => some k_ ≠ ((.slice Ao12 t192.length co12) : Value).ownBlock ∧ some k_ ≠ ((.slice Ao13 t195.length co13) : Value).ownBlock ∧ some k_ ≠ ((.slice Ao19 t205.length co19) : Value).ownBlock) (.slice Ao18 t202.length co18) t202) ∧ Aside0 (Kd.R (Kd.int .i64) 3 wc w.heap.size (fun k_ => some k_ ≠ ((.slice Ao12 t192.length co12) : Value).ownBlock ∧ some k_ ≠ ((.slice Ao13 t195.length co13) : Value).ownBlock ∧ some k_ ≠ ((.slice Ao18 t202.length co18) : Value).ownBlock) (.slice Ao19 t205.length co19) t205) ∧ Aside0 (wc.heap[gb199]? = some (.cells #[.int .i64 t190, .int .i64 t191, (.slice Ao12 t192.length co12), (.slice Ao13 t195.length co13)] 34 (0, 0))) ∧ Aside0 (wc.heap[gb209]? = some (.cells #[.int .i64 t200, .int .i64 t201, (.slice Ao18 t202.length co18), (.slice Ao19 t205.length co19)] 34 (0, 0))) ∧ Aside0 (Below w.heap.size w wc))
 case first =>
  have H := HC8.out
  clear HC8
  replace H := Option.bind_eq_some_iff.mp H
  obtain ⟨t210, A200, H⟩ := H
  replace H : (if t210 = true then (laws_FnExactSquareFigure.j0 k a0 a1 a2 a3 a4 t198 (t208 != t198) t190 t191 t192 t195 t200 t201 t202 t205) else (laws_FnExactSquareFigure.j0 k a0 a1 a2 a3 a4 t198 true t190 t191 t192 t195 t200 t201 t202 t205)) = some r := H
  have A20 := Aside0.mk A200
  clear A200
  by_cases c21 : t210 = true
  ·subst c21
   have H1 : (laws_FnExactSquareFigure.j0 k a0 a1 a2 a3 a4 t198 (t208 != t198) t190 t191 t192 t195 t200 t201 t202 t205) = some r := by rw [if_pos rfl] at H; exact H
   clear H
   have H := H1
   clear H1
   have H' := Aside0.mk H
   clear H
   have hnb22 := NB209_199.out
   have hnc22 := NB199_209.out
   have hcz23_0 : w15.cell? ⟨gb209, 0, none⟩ = some (.int .i64 0) := (blk_cell BK209.out 0).trans rfl
   have hcz23_1 : w15.cell? ⟨gb209, 1, none⟩ = some (.int .i64 0) := (blk_cell BK209.out 1).trans rfl
   have hcz23_2 : w15.cell? ⟨gb209, 2, none⟩ = some (.slice none 0 0) := (blk_cell BK209.out 2).trans rfl
   have hcz23_3 : w15.cell? ⟨gb209, 3, none⟩ = some (.slice none 0 0) := (blk_cell BK209.out 3).trans rfl
   have hfz23_0 := blk_frozen BK209.out 0
   have hfz23_1 := blk_frozen BK209.out 1
   have hfz23_2 := blk_frozen BK209.out 2
   have hfz23_3 := blk_frozen BK209.out 3
   have hcz24_0 : w15.cell? ⟨gb199, 0, none⟩ = some (.int .i64 t190) := (blk_cell BK199.out 0).trans rfl
   have hcz24_1 : w15.cell? ⟨gb199, 1, none⟩ = some (.int .i64 t191) := (blk_cell BK199.out 1).trans rfl
   have hcz24_2 : w15.cell? ⟨gb199, 2, none⟩ = some (.slice Ao12 t192.length co12) := (blk_cell BK199.out 2).trans rfl
   have hcz24_3 : w15.cell? ⟨gb199, 3, none⟩ = some (.slice Ao13 t195.length co13) := (blk_cell BK199.out 3).trans rfl
   have hfz24_0 := blk_frozen BK199.out 0
   have hfz24_1 := blk_frozen BK199.out 1
   have hfz24_2 := blk_frozen BK199.out 2
   have hfz24_3 := blk_frozen BK199.out 3
   go_wp2_with (first | ((with_reducible refine gate_callee (f := 18) rfl ?_); refine goesL_ (some 39) rfl rfl Tryd.func18 (by kernel_rfl) rfl #[.agg #[.int .i64 t200, .int .i64 t201, .slice Ao18 t202.length co18, .slice Ao19 t205.length co19], .agg #[.int .i64 t190, .int .i64 t191, .slice Ao12 t192.length co12, .slice Ao13 t195.length co13]] rfl (by (try simp only [List.map_toArray, List.map_cons, List.map_nil]); first | done | rfl | (simp only [List.length_drop, List.length_take]; rfl)) ?_; (with_reducible refine (laws_eqFigure.calls k t200 t201 _ _ t202 _ _ t205 t190 t191 _ _ t192 _ _ t195 true _ ?side1 ?side2 ?side3 ?side4 ?side5 ?side6 ?side7 ?side8 A20.out).mono ?_); (case side1 => refine (Kd.R_reads' (e := 3) (base := w.heap.size) (ok := fun k_ => ((some k_ ≠ (.slice Ao19 t205.length co19 : Value).ownBlock ∧ some k_ ≠ (.slice Ao12 t192.length co12 : Value).ownBlock) ∧ some k_ ≠ (.slice Ao13 t195.length co13 : Value).ownBlock)) (n := t202.length) (c := co18) ?_).2.2; exact (by (with_reducible repeat (first | apply Kd.R_alloc | apply Kd.R_drewN | apply Kd.R_drew)); exact (Kd.R_mono (Kd.R_far (p := ⟨gb209, 3, none⟩) (Kd.R_far (p := ⟨gb209, 2, none⟩) (Kd.R_far (p := ⟨gb209, 1, none⟩) (Kd.R_far (p := ⟨gb209, 0, none⟩) (Kd.R_types HO204.out BK209.out (by decide)) (fun _ hk => hk.2) (.int .i64 t200)) (fun _ hk => hk.2) (.int .i64 t201)) (fun _ hk => hk.2) (.slice Ao18 t202.length co18)) (fun _ hk => hk.2) (.slice Ao19 t205.length co19)) (fun _ h_ => h_.1)))); (case side2 => exact (Kd.R_reads' HO204.out).2.1); (case side3 => refine (Kd.R_reads' (e := 3) (base := w.heap.size) (ok := fun k_ => ((some k_ ≠ (.slice Ao18 t202.length co18 : Value).ownBlock ∧ some k_ ≠ (.slice Ao12 t192.length co12 : Value).ownBlock) ∧ some k_ ≠ (.slice Ao13 t195.length co13 : Value).ownBlock)) (n := t205.length) (c := co19) ?_).2.2; exact (by (with_reducible repeat (first | apply Kd.R_alloc | apply Kd.R_drewN | apply Kd.R_drew)); exact (Kd.R_mono (Kd.R_far (p := ⟨gb209, 3, none⟩) (Kd.R_far (p := ⟨gb209, 2, none⟩) (Kd.R_far (p := ⟨gb209, 1, none⟩) (Kd.R_far (p := ⟨gb209, 0, none⟩) (Kd.R_types HO207.out BK209.out (by decide)) (fun _ hk => hk.2) (.int .i64 t200)) (fun _ hk => hk.2) (.int .i64 t201)) (fun _ hk => hk.2) (.slice Ao18 t202.length co18)) (fun _ hk => hk.2) (.slice Ao19 t205.length co19)) (fun _ h_ => h_.1)))); (case side4 => exact (Kd.R_reads' HO207.out).2.1); (case side5 => refine (Kd.R_reads' (e := 3) (base := w.heap.size) (ok := fun k_ => ((some k_ ≠ (.slice Ao13 t195.length co13 : Value).ownBlock ∧ some k_ ≠ (.slice Ao18 t202.length co18 : Value).ownBlock) ∧ some k_ ≠ (.slice Ao19 t205.length co19 : Value).ownBlock)) (n := t192.length) (c := co12) ?_).2.2; exact (by (with_reducible repeat (first | apply Kd.R_alloc | apply Kd.R_drewN | apply Kd.R_drew)); exact (Kd.R_mono (Kd.R_far (p := ⟨gb209, 3, none⟩) (Kd.R_far (p := ⟨gb209, 2, none⟩) (Kd.R_far (p := ⟨gb209, 1, none⟩) (Kd.R_far (p := ⟨gb209, 0, none⟩) (Kd.R_types HO194.out BK209.out (by decide)) (fun _ hk => hk.2) (.int .i64 t200)) (fun _ hk => hk.2) (.int .i64 t201)) (fun _ hk => hk.2) (.slice Ao18 t202.length co18)) (fun _ hk => hk.2) (.slice Ao19 t205.length co19)) (fun _ h_ => h_.1)))); (case side6 => exact (Kd.R_reads' HO194.out).2.1); (case side7 => refine (Kd.R_reads' (e := 3) (base := w.heap.size) (ok := fun k_ => ((some k_ ≠ (.slice Ao12 t192.length co12 : Value).ownBlock ∧ some k_ ≠ (.slice Ao18 t202.length co18 : Value).ownBlock) ∧ some k_ ≠ (.slice Ao19 t205.length co19 : Value).ownBlock)) (n := t195.length) (c := co13) ?_).2.2; exact (by (with_reducible repeat (first | apply Kd.R_alloc | apply Kd.R_drewN | apply Kd.R_drew)); exact (Kd.R_mono (Kd.R_far (p := ⟨gb209, 3, none⟩) (Kd.R_far (p := ⟨gb209, 2, none⟩) (Kd.R_far (p := ⟨gb209, 1, none⟩) (Kd.R_far (p := ⟨gb209, 0, none⟩) (Kd.R_types HO197.out BK209.out (by decide)) (fun _ hk => hk.2) (.int .i64 t200)) (fun _ hk => hk.2) (.int .i64 t201)) (fun _ hk => hk.2) (.slice Ao18 t202.length co18)) (fun _ hk => hk.2) (.slice Ao19 t205.length co19)) (fun _ h_ => h_.1)))); (case side8 => exact (Kd.R_reads' HO197.out).2.1); rintro e w25 ⟨rfl, hb⟩; refine ⟨_, rfl, ?_⟩; have n0_ := Aside0.mk (Kd.R_below (by (with_reducible repeat (first | apply Kd.R_alloc | apply Kd.R_drewN | apply Kd.R_drew)); exact (Kd.R_mono (Kd.R_far (p := ⟨gb209, 3, none⟩) (Kd.R_far (p := ⟨gb209, 2, none⟩) (Kd.R_far (p := ⟨gb209, 1, none⟩) (Kd.R_far (p := ⟨gb209, 0, none⟩) (Kd.R_types HO194.out BK209.out (by decide)) (fun _ hk => hk.2) (.int .i64 t200)) (fun _ hk => hk.2) (.int .i64 t201)) (fun _ hk => hk.2) (.slice Ao18 t202.length co18)) (fun _ hk => hk.2) (.slice Ao19 t205.length co19)) (fun _ h_ => h_.1))) hb); have n1_ := Aside0.mk (Kd.R_below (by (with_reducible repeat (first | apply Kd.R_alloc | apply Kd.R_drewN | apply Kd.R_drew)); exact (Kd.R_mono (Kd.R_far (p := ⟨gb209, 3, none⟩) (Kd.R_far (p := ⟨gb209, 2, none⟩) (Kd.R_far (p := ⟨gb209, 1, none⟩) (Kd.R_far (p := ⟨gb209, 0, none⟩) (Kd.R_types HO197.out BK209.out (by decide)) (fun _ hk => hk.2) (.int .i64 t200)) (fun _ hk => hk.2) (.int .i64 t201)) (fun _ hk => hk.2) (.slice Ao18 t202.length co18)) (fun _ hk => hk.2) (.slice Ao19 t205.length co19)) (fun _ h_ => h_.1))) hb); have n2_ := Aside0.mk (Kd.R_below (by (with_reducible repeat (first | apply Kd.R_alloc | apply Kd.R_drewN | apply Kd.R_drew)); exact (Kd.R_mono (Kd.R_far (p := ⟨gb209, 3, none⟩) (Kd.R_far (p := ⟨gb209, 2, none⟩) (Kd.R_far (p := ⟨gb209, 1, none⟩) (Kd.R_far (p := ⟨gb209, 0, none⟩) (Kd.R_types HO204.out BK209.out (by decide)) (fun _ hk => hk.2) (.int .i64 t200)) (fun _ hk => hk.2) (.int .i64 t201)) (fun _ hk => hk.2) (.slice Ao18 t202.length co18)) (fun _ hk => hk.2) (.slice Ao19 t205.length co19)) (fun _ h_ => h_.1))) hb); have n3_ := Aside0.mk (Kd.R_below (by (with_reducible repeat (first | apply Kd.R_alloc | apply Kd.R_drewN | apply Kd.R_drew)); exact (Kd.R_mono (Kd.R_far (p := ⟨gb209, 3, none⟩) (Kd.R_far (p := ⟨gb209, 2, none⟩) (Kd.R_far (p := ⟨gb209, 1, none⟩) (Kd.R_far (p := ⟨gb209, 0, none⟩) (Kd.R_types HO207.out BK209.out (by decide)) (fun _ hk => hk.2) (.int .i64 t200)) (fun _ hk => hk.2) (.int .i64 t201)) (fun _ hk => hk.2) (.slice Ao18 t202.length co18)) (fun _ hk => hk.2) (.slice Ao19 t205.length co19)) (fun _ h_ => h_.1))) hb); have n4_ := Aside0.mk (blk_below (g := gb199) (o := .cells #[.int .i64 t190, .int .i64 t191, .slice Ao12 t192.length co12, .slice Ao13 t195.length co13] 34 (0, 0)) (by (with_reducible repeat (first | refine blk_drewN ?_ _ | refine blk_drew ?_ | refine blk_alloc ?_ _)); refine blk_far ?_ NB199_209.out _; (with_reducible repeat (first | refine blk_drewN ?_ _ | refine blk_drew ?_ | refine blk_alloc ?_ _)); refine blk_far ?_ NB199_209.out _; (with_reducible repeat (first | refine blk_drewN ?_ _ | refine blk_drew ?_ | refine blk_alloc ?_ _)); refine blk_far ?_ NB199_209.out _; (with_reducible repeat (first | refine blk_drewN ?_ _ | refine blk_drew ?_ | refine blk_alloc ?_ _)); refine blk_far ?_ NB199_209.out _; (with_reducible repeat (first | refine blk_drewN ?_ _ | refine blk_drew ?_ | refine blk_alloc ?_ _)); exact BK199.out) hb); have n5_ := Aside0.mk (blk_below (g := gb209) (o := .cells #[.int .i64 t200, .int .i64 t201, .slice Ao18 t202.length co18, .slice Ao19 t205.length co19] 34 (0, 0)) (by (with_reducible repeat (first | refine blk_drewN ?_ _ | refine blk_drew ?_ | refine blk_alloc ?_ _)); refine blk_put (cs := #[.int .i64 t200, .int .i64 t201, .slice Ao18 t202.length co18, .slice none 0 0]) ?_ 3 _ rfl; (with_reducible repeat (first | refine blk_drewN ?_ _ | refine blk_drew ?_ | refine blk_alloc ?_ _)); refine blk_put (cs := #[.int .i64 t200, .int .i64 t201, .slice none 0 0, .slice none 0 0]) ?_ 2 _ rfl; (with_reducible repeat (first | refine blk_drewN ?_ _ | refine blk_drew ?_ | refine blk_alloc ?_ _)); refine blk_put (cs := #[.int .i64 t200, .int .i64 0, .slice none 0 0, .slice none 0 0]) ?_ 1 _ rfl; (with_reducible repeat (first | refine blk_drewN ?_ _ | refine blk_drew ?_ | refine blk_alloc ?_ _)); refine blk_put (cs := #[.int .i64 0, .int .i64 0, .slice none 0 0, .slice none 0 0]) ?_ 0 _ rfl; (with_reducible repeat (first | refine blk_drewN ?_ _ | refine blk_drew ?_ | refine blk_alloc ?_ _)); exact BK209.out) hb); have n6_ := Aside0.mk (below_step (by repeat (first | (with_reducible first | exact HB.out | apply below_alloc | apply pw_below_drewN | apply below_drew1 | refine below_set ?_ GE199.out | refine below_set ?_ GE209.out) | exact HB.out)) hb); clear HO194; clear HO197; clear HO204; clear HO207; clear BK199; clear BK209; clear HB; have HO194 := n0_; have HO197 := n1_; have HO204 := n2_; have HO207 := n3_; have BK199 := n4_; have BK209 := n5_; have HB := n6_; clear n0_ n1_ n2_ n3_ n4_ n5_ n6_; (try clear hb); (try clear hb2); (try clear hk); (try clear hi)))
   go_meet
   case rel => exact ⟨_, ((t208 != t198)), (by first | rfl | (simp; done) | (simp [*]; done)), H', ⟨by first | omega | exact Nat.le_refl _⟩, ⟨by (with_reducible repeat (first | apply Kd.R_alloc | apply Kd.R_drewN | apply Kd.R_drew)); exact Kd.R_mono HO194.out (fun _ hk => ⟨hk.1.1, ⟨hk.1.2, hk.2⟩⟩)⟩, ⟨by (with_reducible repeat (first | apply Kd.R_alloc | apply Kd.R_drewN | apply Kd.R_drew)); exact Kd.R_mono HO197.out (fun _ hk => ⟨hk.1.1, ⟨hk.1.2, hk.2⟩⟩)⟩, ⟨by (with_reducible repeat (first | apply Kd.R_alloc | apply Kd.R_drewN | apply Kd.R_drew)); exact Kd.R_mono HO204.out (fun _ hk => ⟨hk.1.2, ⟨hk.2, hk.1.1⟩⟩)⟩, ⟨by (with_reducible repeat (first | apply Kd.R_alloc | apply Kd.R_drewN | apply Kd.R_drew)); exact Kd.R_mono HO207.out (fun _ hk => ⟨hk.1.2, ⟨hk.2, hk.1.1⟩⟩)⟩, ⟨by (with_reducible repeat (first | refine blk_drewN ?_ _ | refine blk_drew ?_ | refine blk_alloc ?_ _)); exact BK199.out⟩, ⟨by (with_reducible repeat (first | refine blk_drewN ?_ _ | refine blk_drew ?_ | refine blk_alloc ?_ _)); exact BK209.out⟩, ⟨by repeat (first | (with_reducible first | exact HB.out | apply below_alloc | apply pw_below_drewN | apply below_drew1 | refine below_set ?_ GE199.out | refine below_set ?_ GE209.out) | exact HB.out)⟩⟩
  ·replace c21 := Bool.eq_false_iff.mpr c21
   subst c21
   have H1 : (laws_FnExactSquareFigure.j0 k a0 a1 a2 a3 a4 t198 true t190 t191 t192 t195 t200 t201 t202 t205) = some r := by rw [if_neg (show ¬ (false = true) by decide)] at H; exact H
   clear H
   have H := H1
   clear H1
   exact absurd HR_.out (by cases k <;> simp [laws_FnExactSquareFigure.j0] at H <;> first | simp [← H] | simp [H] | simp_all)
 case rest =>
  clear HC8
  try clear c1
  try clear c2
  try clear p2
  try clear c4
  try clear c16
  try clear c17
  try clear c18
  try clear c21
  try clear c22
  try clear hcz11_0
  try clear hcz11_1
  try clear hcz11_2
  try clear hcz11_3
  try clear hcz17_0
  try clear hcz17_1
  try clear hcz17_2
  try clear hcz17_3
  try clear hcz23_0
  try clear hcz23_1
  try clear hcz23_2
  try clear hcz23_3
  try clear hcz24_0
  try clear hcz24_1
  try clear hcz24_2
  try clear hcz24_3
  try clear hfz11_0
  try clear hfz11_1
  try clear hfz11_2
  try clear hfz11_3
  try clear hfz17_0
  try clear hfz17_1
  try clear hfz17_2
  try clear hfz17_3
  try clear hfz23_0
  try clear hfz23_1
  try clear hfz23_2
  try clear hfz23_3
  try clear hfz24_0
  try clear hfz24_1
  try clear hfz24_2
  try clear hfz24_3
  obtain ⟨kq, x45_7, rfl, HA, HJ7, HO_200002, HO_200003, HO_210002, HO_210003, BK199, BK209, HB⟩ := hcut
  cases kq with
  | zero => exact absurd HA.out (by simp [laws_FnExactSquareFigure.j0])
  | succ kj7 =>
   have H := HA.out
   clear HA
   simp only [laws_FnExactSquareFigure.j0] at H
   by_cases c26 : x45_7 = true
   ·subst c26
    have H1 : (some false) = some r := by rw [if_pos rfl] at H; exact H
    clear H
    have H := H1
    clear H1
    exact absurd ((Option.some.inj H).trans HR_.out) Bool.false_ne_true
   ·replace c26 := Bool.eq_false_iff.mpr c26
    subst c26
    have H1 : ((laws_markFigure.f kj7 t200 t201 t202 t205 101).bind fun bt211 => ((laws_heldFigure.f kj7 t200 t201 bt211.2.1 bt211.2.2 101).bind fun t214 => (if t214 < 0 then (some false) else (if t214 = bt211.1 then ((impl_SquareFigure.f kj7 a0 a1 a2 a3 a4).bind fun bt215 => ((laws_eqFigure.f kj7 bt215.1 bt215.2.1 bt215.2.2.1 bt215.2.2.2.1 t190 t191 t192 t195).bind fun t225 => (if t225 = true then (laws_FnExactSquareFigure.j1 kj7 bt211.1 (bt215.2.2.2.2 != t198) t200 t201 bt211.2.1 bt211.2.2) else (laws_FnExactSquareFigure.j1 kj7 bt211.1 true t200 t201 bt211.2.1 bt211.2.2)))) else (some false))))) = some r := by rw [if_neg (show ¬ (false = true) by decide)] at H; exact H
    clear H
    have H := H1
    clear H1
    replace H := Option.bind_eq_some_iff.mp H
    obtain ⟨⟨t211, t212, t213⟩, A270, H⟩ := H
    replace H : ((laws_heldFigure.f kj7 t200 t201 t212 t213 101).bind fun t214 => (if t214 < 0 then (some false) else (if t214 = t211 then ((impl_SquareFigure.f kj7 a0 a1 a2 a3 a4).bind fun bt215 => ((laws_eqFigure.f kj7 bt215.1 bt215.2.1 bt215.2.2.1 bt215.2.2.2.1 t190 t191 t192 t195).bind fun t225 => (if t225 = true then (laws_FnExactSquareFigure.j1 kj7 t211 (bt215.2.2.2.2 != t198) t200 t201 t212 t213) else (laws_FnExactSquareFigure.j1 kj7 t211 true t200 t201 t212 t213)))) else (some false)))) = some r := H
    have A27 := Aside0.mk A270
    clear A270
    replace H := Option.bind_eq_some_iff.mp H
    obtain ⟨t214, A280, H⟩ := H
    replace H : (if t214 < 0 then (some false) else (if t214 = t211 then ((impl_SquareFigure.f kj7 a0 a1 a2 a3 a4).bind fun bt215 => ((laws_eqFigure.f kj7 bt215.1 bt215.2.1 bt215.2.2.1 bt215.2.2.2.1 t190 t191 t192 t195).bind fun t225 => (if t225 = true then (laws_FnExactSquareFigure.j1 kj7 t211 (bt215.2.2.2.2 != t198) t200 t201 t212 t213) else (laws_FnExactSquareFigure.j1 kj7 t211 true t200 t201 t212 t213)))) else (some false))) = some r := H
    have A28 := Aside0.mk A280
    clear A280
    by_cases c29 : t214 < 0
    ·rw [if_pos c29] at H
     have c29b0 : decide (t214 < 0) = true := decide_eq_true c29
     clear c29
     exact absurd ((Option.some.inj H).trans HR_.out) Bool.false_ne_true
    ·rw [if_neg c29] at H
     have c29b0 : decide (t214 < 0) = false := decide_eq_false c29
     clear c29
     by_cases c30 : t214 = t211
     ·rw [if_pos c30] at H
      have c30b0 : (t214 == t211) = true := beq_iff_eq.mpr c30
      have c30b1 : (t214 != t211) = false := bne_eq_false_iff_eq.mpr c30
      clear c30
      replace H := Option.bind_eq_some_iff.mp H
      obtain ⟨⟨t215, t216, t217, t220, t223⟩, A310, H⟩ := H
      replace H : ((laws_eqFigure.f kj7 t215 t216 t217 t220 t190 t191 t192 t195).bind fun t225 => (if t225 = true then (laws_FnExactSquareFigure.j1 kj7 t211 (t223 != t198) t200 t201 t212 t213) else (laws_FnExactSquareFigure.j1 kj7 t211 true t200 t201 t212 t213))) = some r := H
      have A31 := Aside0.mk A310
      clear A310
      have HC32 := Aside0.mk H
      clear H
      have hnb33 := NB209_199.out
      have hnc33 := NB199_209.out
      have hcz34_0 : wc.cell? ⟨gb209, 0, none⟩ = some (.int .i64 t200) := (blk_cell BK209.out 0).trans rfl
      have hcz34_1 : wc.cell? ⟨gb209, 1, none⟩ = some (.int .i64 t201) := (blk_cell BK209.out 1).trans rfl
      have hcz34_2 : wc.cell? ⟨gb209, 2, none⟩ = some (.slice Ao18 t202.length co18) := (blk_cell BK209.out 2).trans rfl
      have hcz34_3 : wc.cell? ⟨gb209, 3, none⟩ = some (.slice Ao19 t205.length co19) := (blk_cell BK209.out 3).trans rfl
      have hfz34_0 := blk_frozen BK209.out 0
      have hfz34_1 := blk_frozen BK209.out 1
      have hfz34_2 := blk_frozen BK209.out 2
      have hfz34_3 := blk_frozen BK209.out 3
      go_upto_region 14 with (first | ((with_reducible refine gate_callee (f := 19) rfl ?_); refine goesL_ (some 48) rfl rfl Tryd.func19 (by kernel_rfl) rfl #[.agg #[.int .i64 t200, .int .i64 t201, .slice Ao18 t202.length co18, .slice Ao19 t205.length co19], .int .i64 101] rfl (by (try simp only [List.map_toArray, List.map_cons, List.map_nil]); first | done | rfl | (simp only [List.length_drop, List.length_take]; rfl)) ?_; (with_reducible refine (laws_markFigure.calls kj7 t200 t201 (fun k_ => some k_ = (.slice Ao18 t202.length co18 : Value).ownBlock) (.slice Ao18 t202.length co18) t202 (fun k_ => some k_ = (.slice Ao19 t205.length co19 : Value).ownBlock) (.slice Ao19 t205.length co19) t205 101 t211 t212 t213 w _ ?side1 ?side2 ?side3 ?side4 ?side5 A27.out).mono ?_); (case side1 => repeat (first | (with_reducible first | exact HB.out | apply below_alloc | apply pw_below_drewN | apply below_drew1 | refine below_set ?_ GE199.out | refine below_set ?_ GE209.out) | exact HB.out)); (case side2 => exact Kd.R_tight rfl HO_210002.out); (case side3 => exact fun k_ e_ => (HO_210002.out.1 k_ e_.symm).2.2); (case side4 => exact Kd.R_tight rfl HO_210003.out); (case side5 => exact fun k_ e_ => (HO_210003.out.1 k_ e_.symm).2.2); rintro e w35 ⟨rfl, hy0, hy1, hb, hkp⟩; refine ⟨_, rfl, ?_⟩; have n0_ := Aside0.mk (Kd.R_mono (ok' := fun k_ => some k_ ≠ (.slice Ao13 t195.length co13 : Value).ownBlock ∧ some k_ ≠ (.slice Ao18 t202.length co18 : Value).ownBlock ∧ some k_ ≠ (.slice Ao19 t205.length co19 : Value).ownBlock) (Kd.R_keptB (HO_200002.out) hkp (fun k_ hk_ hs_ => Or.elim hs_ (fun e_ => (hk_.2.1) e_) (fun e_ => (hk_.2.2) e_))) (fun k_ hk_ => ⟨hk_.1.1, hk_.1.2.1, hk_.1.2.2⟩)); have n1_ := Aside0.mk (Kd.R_mono (ok' := fun k_ => some k_ ≠ (.slice Ao12 t192.length co12 : Value).ownBlock ∧ some k_ ≠ (.slice Ao18 t202.length co18 : Value).ownBlock ∧ some k_ ≠ (.slice Ao19 t205.length co19 : Value).ownBlock) (Kd.R_keptB (HO_200003.out) hkp (fun k_ hk_ hs_ => Or.elim hs_ (fun e_ => (hk_.2.1) e_) (fun e_ => (hk_.2.2) e_))) (fun k_ hk_ => ⟨hk_.1.1, hk_.1.2.1, hk_.1.2.2⟩)); have n2_ := Aside0.mk (Kd.R_reok rfl hy0 (fun k_ e_ => HO_210002.out.1 k_ e_)); have n3_ := Aside0.mk (Kd.R_reok rfl hy1 (fun k_ e_ => HO_210003.out.1 k_ e_)); have n4_ := Aside0.mk (blk_kept (by (with_reducible repeat (first | refine blk_drewN ?_ _ | refine blk_drew ?_ | refine blk_alloc ?_ _)); exact BK199.out) hkp (fun hs_ => Or.elim hs_ (fun e_ => (fun e_ => (Kd.R_ne HO_210002.out BK199.out (by decide)) e_) e_) (fun e_ => (fun e_ => (Kd.R_ne HO_210003.out BK199.out (by decide)) e_) e_))); have n5_ := Aside0.mk (blk_kept (by (with_reducible repeat (first | refine blk_drewN ?_ _ | refine blk_drew ?_ | refine blk_alloc ?_ _)); exact BK209.out) hkp (fun hs_ => Or.elim hs_ (fun e_ => (fun e_ => (Kd.R_ne HO_210002.out BK209.out (by decide)) e_) e_) (fun e_ => (fun e_ => (Kd.R_ne HO_210003.out BK209.out (by decide)) e_) e_))); have n6_ := Aside0.mk (hb); clear HO_200002; clear HO_200003; clear HO_210002; clear HO_210003; clear BK199; clear BK209; clear HB; have HO_200002 := n0_; have HO_200003 := n1_; have HO_210002 := n2_; have HO_210003 := n3_; have BK199 := n4_; have BK209 := n5_; have HB := n6_; clear n0_ n1_ n2_ n3_ n4_ n5_ n6_; (try clear hb); (try clear hkp); (try clear hy0); (try clear hy1); have hcz36_0 : w35.cell? ⟨gb209, 0, none⟩ = some (.int .i64 t200) := (blk_cell BK209.out 0).trans rfl; have hcz36_1 : w35.cell? ⟨gb209, 1, none⟩ = some (.int .i64 t201) := (blk_cell BK209.out 1).trans rfl; have hcz36_2 : w35.cell? ⟨gb209, 2, none⟩ = some (.slice Ao18 t202.length co18) := (blk_cell BK209.out 2).trans rfl; have hcz36_3 : w35.cell? ⟨gb209, 3, none⟩ = some (.slice Ao19 t205.length co19) := (blk_cell BK209.out 3).trans rfl; have hfz36_0 := blk_frozen BK209.out 0; have hfz36_1 := blk_frozen BK209.out 1; have hfz36_2 := blk_frozen BK209.out 2; have hfz36_3 := blk_frozen BK209.out 3) | ((with_reducible refine gate_callee (f := 20) rfl ?_); refine goesL_ (some 51) rfl rfl Tryd.func20 (by kernel_rfl) rfl #[.agg #[.int .i64 t200, .int .i64 t201, .slice Ao18 t212.length co18, .slice Ao19 t213.length co19], .int .i64 101] rfl (by (try simp only [List.map_toArray, List.map_cons, List.map_nil]); first | done | (rw [show t212.length = t202.length from (Kd.R_reads' HO_210002.out).1.symm, show t213.length = t205.length from (Kd.R_reads' HO_210003.out).1.symm] <;> rfl) | rfl | (simp only [List.length_drop, List.length_take]; rfl)) ?_; (with_reducible refine (laws_heldFigure.calls kj7 t200 t201 _ _ t212 _ _ t213 101 t214 _ ?side1 ?side2 ?side3 ?side4 A28.out).mono ?_); (case side1 => repeat (first | exact (Kd.R_reads' HO_210002.out).2.2 | (with_reducible refine Kd.C_alloc ?_ _) | (with_reducible refine Kd.C_drewN ?_ _) | (with_reducible refine Kd.C_drew ?_))); (case side2 => rw [show t212.length = t202.length from (Kd.R_reads' HO_210002.out).1.symm]; exact (Kd.R_reads' HO_210002.out).2.1); (case side3 => repeat (first | exact (Kd.R_reads' HO_210003.out).2.2 | (with_reducible refine Kd.C_alloc ?_ _) | (with_reducible refine Kd.C_drewN ?_ _) | (with_reducible refine Kd.C_drew ?_))); (case side4 => rw [show t213.length = t205.length from (Kd.R_reads' HO_210003.out).1.symm]; exact (Kd.R_reads' HO_210003.out).2.1); rintro e w37 ⟨rfl, hb⟩; refine ⟨_, rfl, ?_⟩; have n0_ := Aside0.mk (Kd.R_below (by (with_reducible repeat (first | apply Kd.R_alloc | apply Kd.R_drewN | apply Kd.R_drew)); exact HO_200002.out) hb); have n1_ := Aside0.mk (Kd.R_below (by (with_reducible repeat (first | apply Kd.R_alloc | apply Kd.R_drewN | apply Kd.R_drew)); exact HO_200003.out) hb); have n2_ := Aside0.mk (Kd.R_below (by (with_reducible repeat (first | apply Kd.R_alloc | apply Kd.R_drewN | apply Kd.R_drew)); exact HO_210002.out) hb); have n3_ := Aside0.mk (Kd.R_below (by (with_reducible repeat (first | apply Kd.R_alloc | apply Kd.R_drewN | apply Kd.R_drew)); exact HO_210003.out) hb); have n4_ := Aside0.mk (blk_below (g := gb199) (o := .cells #[.int .i64 t190, .int .i64 t191, .slice Ao12 t192.length co12, .slice Ao13 t195.length co13] 34 (0, 0)) (by (with_reducible repeat (first | refine blk_drewN ?_ _ | refine blk_drew ?_ | refine blk_alloc ?_ _)); exact BK199.out) hb); have n5_ := Aside0.mk (blk_below (g := gb209) (o := .cells #[.int .i64 t200, .int .i64 t201, .slice Ao18 t202.length co18, .slice Ao19 t205.length co19] 34 (0, 0)) (by (with_reducible repeat (first | refine blk_drewN ?_ _ | refine blk_drew ?_ | refine blk_alloc ?_ _)); exact BK209.out) hb); have n6_ := Aside0.mk (below_step (by repeat (first | (with_reducible first | exact HB.out | apply below_alloc | apply pw_below_drewN | apply below_drew1 | refine below_set ?_ GE199.out | refine below_set ?_ GE209.out) | exact HB.out)) hb); clear HO_200002; clear HO_200003; clear HO_210002; clear HO_210003; clear BK199; clear BK209; clear HB; have HO_200002 := n0_; have HO_200003 := n1_; have HO_210002 := n2_; have HO_210003 := n3_; have BK199 := n4_; have BK209 := n5_; have HB := n6_; clear n0_ n1_ n2_ n3_ n4_ n5_ n6_; (try clear hb); (try clear hb2); (try clear hk); (try clear hi)) | ((with_reducible refine gate_callee (f := 17) rfl ?_); refine goesL_ (some 63) rfl rfl Tryd.func17 (by kernel_rfl) rfl #[.int .i64 a0, .int .i64 a1, .int .i64 a2, .int .i64 a3, .int .i64 a4] rfl (by (try simp only [List.map_toArray, List.map_cons, List.map_nil]); first | done | rfl | (simp only [List.length_drop, List.length_take]; rfl)) ?_; (with_reducible refine (impl_SquareFigure.calls kj7 a0 a1 a2 a3 a4 t215 t216 t217 t220 t223 _ ?side1 A31.out).mono ?_); (case side1 => first | exact LaidG_below HG.out (by repeat (first | (with_reducible first | exact HB.out | apply below_alloc | apply pw_below_drewN | apply below_drew1 | refine below_set ?_ GE199.out | refine below_set ?_ GE209.out) | exact HB.out)) | (repeat (first | exact HG.out | (with_reducible refine LaidG_alloc ?_ _) | (with_reducible refine LaidG_drewN ?_ _) | (with_reducible refine LaidG_drew ?_)))); rintro e w38 ⟨v218, v221, rfl, ho0, ho1, hb⟩; refine ⟨_, rfl, ?_⟩; have n0_ := Aside0.mk (Kd.R_mono (Kd.R_told (Kd.R_told (Kd.R_old (by (with_reducible repeat (first | apply Kd.R_alloc | apply Kd.R_drewN | apply Kd.R_drew)); exact HO_200002.out) hb) (Kd.R_base ho0)) (Kd.R_base ho1)) (fun _ h_ => h_.1)); have n1_ := Aside0.mk (Kd.R_mono (Kd.R_told (Kd.R_told (Kd.R_old (by (with_reducible repeat (first | apply Kd.R_alloc | apply Kd.R_drewN | apply Kd.R_drew)); exact HO_200003.out) hb) (Kd.R_base ho0)) (Kd.R_base ho1)) (fun _ h_ => h_.1)); have n2_ := Aside0.mk (Kd.R_mono (Kd.R_told (Kd.R_told (Kd.R_old (by (with_reducible repeat (first | apply Kd.R_alloc | apply Kd.R_drewN | apply Kd.R_drew)); exact HO_210002.out) hb) (Kd.R_base ho0)) (Kd.R_base ho1)) (fun _ h_ => h_.1)); have n3_ := Aside0.mk (Kd.R_mono (Kd.R_told (Kd.R_told (Kd.R_old (by (with_reducible repeat (first | apply Kd.R_alloc | apply Kd.R_drewN | apply Kd.R_drew)); exact HO_210003.out) hb) (Kd.R_base ho0)) (Kd.R_base ho1)) (fun _ h_ => h_.1)); have n4_ := Aside0.mk (Kd.R_lower (Kd.R_new' (Kd.R_new' (Kd.R_new' (Kd.R_new' ho0 (Kd.R_lt (by (with_reducible repeat (first | apply Kd.R_alloc | apply Kd.R_drewN | apply Kd.R_drew)); exact HO_200002.out))) (Kd.R_lt (by (with_reducible repeat (first | apply Kd.R_alloc | apply Kd.R_drewN | apply Kd.R_drew)); exact HO_200003.out))) (Kd.R_lt (by (with_reducible repeat (first | apply Kd.R_alloc | apply Kd.R_drewN | apply Kd.R_drew)); exact HO_210002.out))) (Kd.R_lt (by (with_reducible repeat (first | apply Kd.R_alloc | apply Kd.R_drewN | apply Kd.R_drew)); exact HO_210003.out))) (below_size (by repeat (first | (with_reducible first | exact HB.out | apply below_alloc | apply pw_below_drewN | apply below_drew1 | refine below_set ?_ GE199.out | refine below_set ?_ GE209.out) | exact HB.out)))); have n5_ := Aside0.mk (Kd.R_lower (Kd.R_new' (Kd.R_new' (Kd.R_new' (Kd.R_new' ho1 (Kd.R_lt (by (with_reducible repeat (first | apply Kd.R_alloc | apply Kd.R_drewN | apply Kd.R_drew)); exact HO_200002.out))) (Kd.R_lt (by (with_reducible repeat (first | apply Kd.R_alloc | apply Kd.R_drewN | apply Kd.R_drew)); exact HO_200003.out))) (Kd.R_lt (by (with_reducible repeat (first | apply Kd.R_alloc | apply Kd.R_drewN | apply Kd.R_drew)); exact HO_210002.out))) (Kd.R_lt (by (with_reducible repeat (first | apply Kd.R_alloc | apply Kd.R_drewN | apply Kd.R_drew)); exact HO_210003.out))) (below_size (by repeat (first | (with_reducible first | exact HB.out | apply below_alloc | apply pw_below_drewN | apply below_drew1 | refine below_set ?_ GE199.out | refine below_set ?_ GE209.out) | exact HB.out)))); have n6_ := Aside0.mk (blk_below (g := gb199) (o := .cells #[.int .i64 t190, .int .i64 t191, .slice Ao12 t192.length co12, .slice Ao13 t195.length co13] 34 (0, 0)) (by (with_reducible repeat (first | refine blk_drewN ?_ _ | refine blk_drew ?_ | refine blk_alloc ?_ _)); exact BK199.out) hb); have n7_ := Aside0.mk (blk_below (g := gb209) (o := .cells #[.int .i64 t200, .int .i64 t201, .slice Ao18 t202.length co18, .slice Ao19 t205.length co19] 34 (0, 0)) (by (with_reducible repeat (first | refine blk_drewN ?_ _ | refine blk_drew ?_ | refine blk_alloc ?_ _)); exact BK209.out) hb); have n8_ := Aside0.mk (below_step (by repeat (first | (with_reducible first | exact HB.out | apply below_alloc | apply pw_below_drewN | apply below_drew1 | refine below_set ?_ GE199.out | refine below_set ?_ GE209.out) | exact HB.out)) hb); clear HO_200002; clear HO_200003; clear HO_210002; clear HO_210003; clear BK199; clear BK209; clear HB; have HO_200002 := n0_; have HO_200003 := n1_; have HO_210002 := n2_; have HO_210003 := n3_; have HO219 := n4_; have HO222 := n5_; have BK199 := n6_; have BK209 := n7_; have HB := n8_; clear n0_ n1_ n2_ n3_ n4_ n5_ n6_ n7_ n8_; (try clear hb); (try clear hb2); (try clear hk); (try clear hi); (try clear ho0); (try clear ho1)) | ((with_reducible refine gate_dst (N := 17) rfl ?_); refine box_event ?hg (N := 17) ?hd (cs := #[.int .i64 0, .int .i64 0, .slice none 0 0, .slice none 0 0]) (t := 34) ?hr ?_; (case hd => rfl); (case hg => rfl); (case hr => first | (go_simp; done) | (go_simp; rfl)); intro gb224 hg w39 hbox hb; have n0_ := Aside0.mk (Kd.R_below (by (with_reducible repeat (first | apply Kd.R_alloc | apply Kd.R_drewN | apply Kd.R_drew)); exact HO_200002.out) hb); have n1_ := Aside0.mk (Kd.R_below (by (with_reducible repeat (first | apply Kd.R_alloc | apply Kd.R_drewN | apply Kd.R_drew)); exact HO_200003.out) hb); have n2_ := Aside0.mk (Kd.R_below (by (with_reducible repeat (first | apply Kd.R_alloc | apply Kd.R_drewN | apply Kd.R_drew)); exact HO_210002.out) hb); have n3_ := Aside0.mk (Kd.R_below (by (with_reducible repeat (first | apply Kd.R_alloc | apply Kd.R_drewN | apply Kd.R_drew)); exact HO_210003.out) hb); have n4_ := Aside0.mk (Kd.R_below (by (with_reducible repeat (first | apply Kd.R_alloc | apply Kd.R_drewN | apply Kd.R_drew)); exact HO219.out) hb); have n5_ := Aside0.mk (Kd.R_below (by (with_reducible repeat (first | apply Kd.R_alloc | apply Kd.R_drewN | apply Kd.R_drew)); exact HO222.out) hb); have n6_ := Aside0.mk (blk_below (g := gb199) (o := .cells #[.int .i64 t190, .int .i64 t191, .slice Ao12 t192.length co12, .slice Ao13 t195.length co13] 34 (0, 0)) (by (with_reducible repeat (first | refine blk_drewN ?_ _ | refine blk_drew ?_ | refine blk_alloc ?_ _)); exact BK199.out) hb); have n7_ := Aside0.mk (blk_below (g := gb209) (o := .cells #[.int .i64 t200, .int .i64 t201, .slice Ao18 t202.length co18, .slice Ao19 t205.length co19] 34 (0, 0)) (by (with_reducible repeat (first | refine blk_drewN ?_ _ | refine blk_drew ?_ | refine blk_alloc ?_ _)); exact BK209.out) hb); have n8_ := Aside0.mk (below_step (by repeat (first | (with_reducible first | exact HB.out | apply below_alloc | apply pw_below_drewN | apply below_drew1 | refine below_set ?_ GE199.out | refine below_set ?_ GE209.out) | exact HB.out)) hb); have n9_ := Aside0.mk (hbox); have n10_ := Aside0.mk ((by rw [hg]; exact (below_size (by repeat (first | (with_reducible first | exact HB.out | apply below_alloc | apply pw_below_drewN | apply below_drew1 | refine below_set ?_ GE199.out | refine below_set ?_ GE209.out) | exact HB.out))) : w.heap.size ≤ gb224)); have n11_ := Aside0.mk ((by rw [hg]; exact (below_size (by repeat (first | (with_reducible first | exact HB.out | apply below_alloc | apply pw_below_drewN | apply below_drew1 | refine below_set ?_ GE199.out | refine below_set ?_ GE209.out) | exact HB.out))) : w.heap.size ≤ gb224)); have n12_ := Aside0.mk ((by rw [hg]; exact Nat.ne_of_lt (blk_lt (g := gb199) (o := .cells #[.int .i64 t190, .int .i64 t191, .slice Ao12 t192.length co12, .slice Ao13 t195.length co13] 34 (0, 0)) (by (with_reducible repeat (first | refine blk_drewN ?_ _ | refine blk_drew ?_ | refine blk_alloc ?_ _)); exact BK199.out)) : gb199 ≠ gb224)); have n13_ := Aside0.mk ((by rw [hg]; exact Nat.ne_of_gt (blk_lt (g := gb199) (o := .cells #[.int .i64 t190, .int .i64 t191, .slice Ao12 t192.length co12, .slice Ao13 t195.length co13] 34 (0, 0)) (by (with_reducible repeat (first | refine blk_drewN ?_ _ | refine blk_drew ?_ | refine blk_alloc ?_ _)); exact BK199.out)) : gb224 ≠ gb199)); have n14_ := Aside0.mk ((by rw [hg]; exact Nat.ne_of_lt (blk_lt (g := gb209) (o := .cells #[.int .i64 t200, .int .i64 t201, .slice Ao18 t202.length co18, .slice Ao19 t205.length co19] 34 (0, 0)) (by (with_reducible repeat (first | refine blk_drewN ?_ _ | refine blk_drew ?_ | refine blk_alloc ?_ _)); exact BK209.out)) : gb209 ≠ gb224)); have n15_ := Aside0.mk ((by rw [hg]; exact Nat.ne_of_gt (blk_lt (g := gb209) (o := .cells #[.int .i64 t200, .int .i64 t201, .slice Ao18 t202.length co18, .slice Ao19 t205.length co19] 34 (0, 0)) (by (with_reducible repeat (first | refine blk_drewN ?_ _ | refine blk_drew ?_ | refine blk_alloc ?_ _)); exact BK209.out)) : gb224 ≠ gb209)); clear HO_200002; clear HO_200003; clear HO_210002; clear HO_210003; clear HO219; clear HO222; clear BK199; clear BK209; clear HB; have HO_200002 := n0_; have HO_200003 := n1_; have HO_210002 := n2_; have HO_210003 := n3_; have HO219 := n4_; have HO222 := n5_; have BK199 := n6_; have BK209 := n7_; have HB := n8_; have BK224 := n9_; have GW224 := n10_; have GE224 := n11_; have NB199_224 := n12_; have NB224_199 := n13_; have NB209_224 := n14_; have NB224_209 := n15_; clear n0_ n1_ n2_ n3_ n4_ n5_ n6_ n7_ n8_ n9_ n10_ n11_ n12_ n13_ n14_ n15_; clear hb hbox hg; have hnb40 := NB224_199.out; have hnc40 := NB199_224.out; have hnb41 := NB224_209.out; have hnc41 := NB209_224.out; have hcz42_0 : w39.cell? ⟨gb224, 0, none⟩ = some (.int .i64 0) := (blk_cell BK224.out 0).trans rfl; have hcz42_1 : w39.cell? ⟨gb224, 1, none⟩ = some (.int .i64 0) := (blk_cell BK224.out 1).trans rfl; have hcz42_2 : w39.cell? ⟨gb224, 2, none⟩ = some (.slice none 0 0) := (blk_cell BK224.out 2).trans rfl; have hcz42_3 : w39.cell? ⟨gb224, 3, none⟩ = some (.slice none 0 0) := (blk_cell BK224.out 3).trans rfl; have hfz42_0 := blk_frozen BK224.out 0; have hfz42_1 := blk_frozen BK224.out 1; have hfz42_2 := blk_frozen BK224.out 2; have hfz42_3 := blk_frozen BK224.out 3; obtain ⟨Ao43, co43, eo43⟩ := Kd.R_slice HO219.out; subst eo43; obtain ⟨Ao44, co44, eo44⟩ := Kd.R_slice HO222.out; subst eo44))
      (try simp only [Act.put, List.setIfInBounds_toArray, List.set_cons_zero, List.set_cons_succ])
      go_cut [74] (fun v74 wc => ∃ (kq : Nat) (x74_31 : Bool), v74 = .bool x74_31 ∧ Aside0 (laws_FnExactSquareFigure.j1 kq t211 x74_31 t200 t201 t212 t213 = some r) ∧ Aside0 (kq ≤ kj7) ∧ Aside0 (Kd.R (Kd.int .i64) 3 wc w.heap.size (fun k_ => some k_ ≠ ((.slice Ao13 t195.length co13) : Value).ownBlock ∧ some k_ ≠ ((.slice Ao18 t202.length co18) : Value).ownBlock ∧ some k_ ≠ ((.slice Ao19 t205.length co19) : Value).ownBlock ∧ some k_ ≠ ((.slice Ao43 t217.length co43) : Value).ownBlock ∧ some k_ ≠ ((.slice Ao44 t220.length co44) : Value).ownBlock) (.slice Ao12 t192.length co12) t192) ∧ Aside0 (Kd.R (Kd.int .i64) 3 wc w.heap.size (fun k_ => some k_ ≠ ((.slice Ao12 t192.length co12) : Value).ownBlock ∧ some k_ ≠ ((.slice Ao18 t202.length co18) : Value).ownBlock ∧ some k_ ≠ ((.slice Ao19 t205.length co19) : Value).ownBlock ∧ some k_ ≠ ((.slice Ao43 t217.length co43) : Value).ownBlock ∧ some k_ ≠ ((.slice Ao44 t220.length co44) : Value).ownBlock) (.slice Ao13 t195.length co13) t195) ∧ Aside0 (Kd.R (Kd.int .i64) 3 wc w.heap.size (fun k_ => some k_ ≠ ((.slice Ao12 t192.length co12) : Value).ownBlock ∧ some k_ ≠ ((.slice Ao13 t195.length co13) : Value).ownBlock ∧ some k_ ≠ ((.slice Ao19 t205.length co19) : Value).ownBlock ∧ some k_ ≠ ((.slice Ao43 t217.length co43) : Value).ownBlock ∧ some k_ ≠ ((.slice Ao44 t220.length co44) : Value).ownBlock) (.slice Ao18 t202.length co18) t212) ∧ Aside0 (Kd.R (Kd.int .i64) 3 wc w.heap.size (fun k_ => some k_ ≠ ((.slice Ao12 t192.length co12) : Value).ownBlock ∧ some k_ ≠ ((.slice Ao13 t195.length co13) : Value).ownBlock ∧ some k_ ≠ ((.slice Ao18 t202.length co18) : Value).ownBlock ∧ some k_ ≠ ((.slice Ao43 t217.length co43) : Value).ownBlock ∧ some k_ ≠ ((.slice Ao44 t220.length co44) : Value).ownBlock) (.slice Ao19 t205.length co19) t213) ∧ Aside0 (Kd.R (Kd.int .i64) 3 wc w.heap.size (fun k_ => some k_ ≠ ((.slice Ao12 t192.length co12) : Value).ownBlock ∧ some k_ ≠ ((.slice Ao13 t195.length co13) : Value).ownBlock ∧ some k_ ≠ ((.slice Ao18 t202.length co18) : Value).ownBlock ∧ some k_ ≠ ((.slice Ao19 t205.length co19) : Value).ownBlock ∧ some k_ ≠ ((.slice Ao44 t220.length co44) : Value).ownBlock) (.slice Ao43 t217.length co43) t217) ∧ Aside0 (Kd.R (Kd.int .i64) 3 wc w.heap.size (fun k_ => some k_ ≠ ((.slice Ao12 t192.length co12) : Value).ownBlock ∧ some k_ ≠ ((.slice Ao13 t195.length co13) : Value).ownBlock ∧ some k_ ≠ ((.slice Ao18 t202.length co18) : Value).ownBlock ∧ some k_ ≠ ((.slice Ao19 t205.length co19) : Value).ownBlock ∧ some k_ ≠ ((.slice Ao43 t217.length co43) : Value).ownBlock) (.slice Ao44 t220.length co44) t220) ∧ Aside0 (wc.heap[gb199]? = some (.cells #[.int .i64 t190, .int .i64 t191, (.slice Ao12 t192.length co12), (.slice Ao13 t195.length co13)] 34 (0, 0))) ∧ Aside0 (wc.heap[gb209]? = some (.cells #[.int .i64 t200, .int .i64 t201, (.slice Ao18 t202.length co18), (.slice Ao19 t205.length co19)] 34 (0, 0))) ∧ Aside0 (wc.heap[gb224]? = some (.cells #[.int .i64 t215, .int .i64 t216, (.slice Ao43 t217.length co43), (.slice Ao44 t220.length co44)] 34 (0, 0))) ∧ Aside0 (Below w.heap.size w wc))
      case first =>
       have H := HC32.out
       clear HC32
       replace H := Option.bind_eq_some_iff.mp H
       obtain ⟨t225, A450, H⟩ := H
       replace H : (if t225 = true then (laws_FnExactSquareFigure.j1 kj7 t211 (t223 != t198) t200 t201 t212 t213) else (laws_FnExactSquareFigure.j1 kj7 t211 true t200 t201 t212 t213)) = some r := H
       have A45 := Aside0.mk A450
       clear A450
       by_cases c46 : t225 = true
       ·subst c46
        have H1 : (laws_FnExactSquareFigure.j1 kj7 t211 (t223 != t198) t200 t201 t212 t213) = some r := by rw [if_pos rfl] at H; exact H
        clear H
        have H := H1
        clear H1
        have H' := Aside0.mk H
        clear H
        have hnb47 := NB224_199.out
        have hnc47 := NB199_224.out
        have hnb48 := NB224_209.out
        have hnc48 := NB209_224.out
        have hcz49_0 : w39.cell? ⟨gb224, 0, none⟩ = some (.int .i64 0) := (blk_cell BK224.out 0).trans rfl
        have hcz49_1 : w39.cell? ⟨gb224, 1, none⟩ = some (.int .i64 0) := (blk_cell BK224.out 1).trans rfl
        have hcz49_2 : w39.cell? ⟨gb224, 2, none⟩ = some (.slice none 0 0) := (blk_cell BK224.out 2).trans rfl
        have hcz49_3 : w39.cell? ⟨gb224, 3, none⟩ = some (.slice none 0 0) := (blk_cell BK224.out 3).trans rfl
        have hfz49_0 := blk_frozen BK224.out 0
        have hfz49_1 := blk_frozen BK224.out 1
        have hfz49_2 := blk_frozen BK224.out 2
        have hfz49_3 := blk_frozen BK224.out 3
        have hnb50 := NB199_209.out
        have hnc50 := NB209_199.out
        have hcz51_0 : w39.cell? ⟨gb199, 0, none⟩ = some (.int .i64 t190) := (blk_cell BK199.out 0).trans rfl
        have hcz51_1 : w39.cell? ⟨gb199, 1, none⟩ = some (.int .i64 t191) := (blk_cell BK199.out 1).trans rfl
        have hcz51_2 : w39.cell? ⟨gb199, 2, none⟩ = some (.slice Ao12 t192.length co12) := (blk_cell BK199.out 2).trans rfl
        have hcz51_3 : w39.cell? ⟨gb199, 3, none⟩ = some (.slice Ao13 t195.length co13) := (blk_cell BK199.out 3).trans rfl
        have hfz51_0 := blk_frozen BK199.out 0
        have hfz51_1 := blk_frozen BK199.out 1
        have hfz51_2 := blk_frozen BK199.out 2
        have hfz51_3 := blk_frozen BK199.out 3
        go_wp2_with (first | ((with_reducible refine gate_callee (f := 18) rfl ?_); refine goesL_ (some 68) rfl rfl Tryd.func18 (by kernel_rfl) rfl #[.agg #[.int .i64 t215, .int .i64 t216, .slice Ao43 t217.length co43, .slice Ao44 t220.length co44], .agg #[.int .i64 t190, .int .i64 t191, .slice Ao12 t192.length co12, .slice Ao13 t195.length co13]] rfl (by (try simp only [List.map_toArray, List.map_cons, List.map_nil]); first | done | rfl | (simp only [List.length_drop, List.length_take]; rfl)) ?_; (with_reducible refine (laws_eqFigure.calls kj7 t215 t216 _ _ t217 _ _ t220 t190 t191 _ _ t192 _ _ t195 true _ ?side1 ?side2 ?side3 ?side4 ?side5 ?side6 ?side7 ?side8 A45.out).mono ?_); (case side1 => refine (Kd.R_reads' (e := 3) (base := w.heap.size) (ok := fun k_ => ((((some k_ ≠ (.slice Ao44 t220.length co44 : Value).ownBlock ∧ some k_ ≠ (.slice Ao12 t192.length co12 : Value).ownBlock) ∧ some k_ ≠ (.slice Ao13 t195.length co13 : Value).ownBlock) ∧ some k_ ≠ (.slice Ao18 t202.length co18 : Value).ownBlock) ∧ some k_ ≠ (.slice Ao19 t205.length co19 : Value).ownBlock)) (n := t217.length) (c := co43) ?_).2.2; exact (by (with_reducible repeat (first | apply Kd.R_alloc | apply Kd.R_drewN | apply Kd.R_drew)); exact (Kd.R_mono (Kd.R_far (p := ⟨gb224, 3, none⟩) (Kd.R_far (p := ⟨gb224, 2, none⟩) (Kd.R_far (p := ⟨gb224, 1, none⟩) (Kd.R_far (p := ⟨gb224, 0, none⟩) (Kd.R_types HO219.out BK224.out (by decide)) (fun _ hk => hk.2) (.int .i64 t215)) (fun _ hk => hk.2) (.int .i64 t216)) (fun _ hk => hk.2) (.slice Ao43 t217.length co43)) (fun _ hk => hk.2) (.slice Ao44 t220.length co44)) (fun _ h_ => h_.1)))); (case side2 => exact (Kd.R_reads' HO219.out).2.1); (case side3 => refine (Kd.R_reads' (e := 3) (base := w.heap.size) (ok := fun k_ => ((((some k_ ≠ (.slice Ao43 t217.length co43 : Value).ownBlock ∧ some k_ ≠ (.slice Ao12 t192.length co12 : Value).ownBlock) ∧ some k_ ≠ (.slice Ao13 t195.length co13 : Value).ownBlock) ∧ some k_ ≠ (.slice Ao18 t202.length co18 : Value).ownBlock) ∧ some k_ ≠ (.slice Ao19 t205.length co19 : Value).ownBlock)) (n := t220.length) (c := co44) ?_).2.2; exact (by (with_reducible repeat (first | apply Kd.R_alloc | apply Kd.R_drewN | apply Kd.R_drew)); exact (Kd.R_mono (Kd.R_far (p := ⟨gb224, 3, none⟩) (Kd.R_far (p := ⟨gb224, 2, none⟩) (Kd.R_far (p := ⟨gb224, 1, none⟩) (Kd.R_far (p := ⟨gb224, 0, none⟩) (Kd.R_types HO222.out BK224.out (by decide)) (fun _ hk => hk.2) (.int .i64 t215)) (fun _ hk => hk.2) (.int .i64 t216)) (fun _ hk => hk.2) (.slice Ao43 t217.length co43)) (fun _ hk => hk.2) (.slice Ao44 t220.length co44)) (fun _ h_ => h_.1)))); (case side4 => exact (Kd.R_reads' HO222.out).2.1); (case side5 => refine (Kd.R_reads' (e := 3) (base := w.heap.size) (ok := fun k_ => (((some k_ ≠ (.slice Ao13 t195.length co13 : Value).ownBlock ∧ (some k_ ≠ (.slice Ao18 t202.length co18 : Value).ownBlock ∧ some k_ ≠ (.slice Ao19 t205.length co19 : Value).ownBlock)) ∧ some k_ ≠ (.slice Ao43 t217.length co43 : Value).ownBlock) ∧ some k_ ≠ (.slice Ao44 t220.length co44 : Value).ownBlock)) (n := t192.length) (c := co12) ?_).2.2; exact (by (with_reducible repeat (first | apply Kd.R_alloc | apply Kd.R_drewN | apply Kd.R_drew)); exact (Kd.R_mono (Kd.R_far (p := ⟨gb224, 3, none⟩) (Kd.R_far (p := ⟨gb224, 2, none⟩) (Kd.R_far (p := ⟨gb224, 1, none⟩) (Kd.R_far (p := ⟨gb224, 0, none⟩) (Kd.R_types HO_200002.out BK224.out (by decide)) (fun _ hk => hk.2) (.int .i64 t215)) (fun _ hk => hk.2) (.int .i64 t216)) (fun _ hk => hk.2) (.slice Ao43 t217.length co43)) (fun _ hk => hk.2) (.slice Ao44 t220.length co44)) (fun _ h_ => h_.1)))); (case side6 => exact (Kd.R_reads' HO_200002.out).2.1); (case side7 => refine (Kd.R_reads' (e := 3) (base := w.heap.size) (ok := fun k_ => (((some k_ ≠ (.slice Ao12 t192.length co12 : Value).ownBlock ∧ (some k_ ≠ (.slice Ao18 t202.length co18 : Value).ownBlock ∧ some k_ ≠ (.slice Ao19 t205.length co19 : Value).ownBlock)) ∧ some k_ ≠ (.slice Ao43 t217.length co43 : Value).ownBlock) ∧ some k_ ≠ (.slice Ao44 t220.length co44 : Value).ownBlock)) (n := t195.length) (c := co13) ?_).2.2; exact (by (with_reducible repeat (first | apply Kd.R_alloc | apply Kd.R_drewN | apply Kd.R_drew)); exact (Kd.R_mono (Kd.R_far (p := ⟨gb224, 3, none⟩) (Kd.R_far (p := ⟨gb224, 2, none⟩) (Kd.R_far (p := ⟨gb224, 1, none⟩) (Kd.R_far (p := ⟨gb224, 0, none⟩) (Kd.R_types HO_200003.out BK224.out (by decide)) (fun _ hk => hk.2) (.int .i64 t215)) (fun _ hk => hk.2) (.int .i64 t216)) (fun _ hk => hk.2) (.slice Ao43 t217.length co43)) (fun _ hk => hk.2) (.slice Ao44 t220.length co44)) (fun _ h_ => h_.1)))); (case side8 => exact (Kd.R_reads' HO_200003.out).2.1); rintro e w52 ⟨rfl, hb⟩; refine ⟨_, rfl, ?_⟩; have n0_ := Aside0.mk (Kd.R_below (by (with_reducible repeat (first | apply Kd.R_alloc | apply Kd.R_drewN | apply Kd.R_drew)); exact (Kd.R_mono (Kd.R_far (p := ⟨gb224, 3, none⟩) (Kd.R_far (p := ⟨gb224, 2, none⟩) (Kd.R_far (p := ⟨gb224, 1, none⟩) (Kd.R_far (p := ⟨gb224, 0, none⟩) (Kd.R_types HO_200002.out BK224.out (by decide)) (fun _ hk => hk.2) (.int .i64 t215)) (fun _ hk => hk.2) (.int .i64 t216)) (fun _ hk => hk.2) (.slice Ao43 t217.length co43)) (fun _ hk => hk.2) (.slice Ao44 t220.length co44)) (fun _ h_ => h_.1))) hb); have n1_ := Aside0.mk (Kd.R_below (by (with_reducible repeat (first | apply Kd.R_alloc | apply Kd.R_drewN | apply Kd.R_drew)); exact (Kd.R_mono (Kd.R_far (p := ⟨gb224, 3, none⟩) (Kd.R_far (p := ⟨gb224, 2, none⟩) (Kd.R_far (p := ⟨gb224, 1, none⟩) (Kd.R_far (p := ⟨gb224, 0, none⟩) (Kd.R_types HO_200003.out BK224.out (by decide)) (fun _ hk => hk.2) (.int .i64 t215)) (fun _ hk => hk.2) (.int .i64 t216)) (fun _ hk => hk.2) (.slice Ao43 t217.length co43)) (fun _ hk => hk.2) (.slice Ao44 t220.length co44)) (fun _ h_ => h_.1))) hb); have n2_ := Aside0.mk (Kd.R_below (by (with_reducible repeat (first | apply Kd.R_alloc | apply Kd.R_drewN | apply Kd.R_drew)); exact (Kd.R_mono (Kd.R_far (p := ⟨gb224, 3, none⟩) (Kd.R_far (p := ⟨gb224, 2, none⟩) (Kd.R_far (p := ⟨gb224, 1, none⟩) (Kd.R_far (p := ⟨gb224, 0, none⟩) (Kd.R_types HO_210002.out BK224.out (by decide)) (fun _ hk => hk.2) (.int .i64 t215)) (fun _ hk => hk.2) (.int .i64 t216)) (fun _ hk => hk.2) (.slice Ao43 t217.length co43)) (fun _ hk => hk.2) (.slice Ao44 t220.length co44)) (fun _ h_ => h_.1))) hb); have n3_ := Aside0.mk (Kd.R_below (by (with_reducible repeat (first | apply Kd.R_alloc | apply Kd.R_drewN | apply Kd.R_drew)); exact (Kd.R_mono (Kd.R_far (p := ⟨gb224, 3, none⟩) (Kd.R_far (p := ⟨gb224, 2, none⟩) (Kd.R_far (p := ⟨gb224, 1, none⟩) (Kd.R_far (p := ⟨gb224, 0, none⟩) (Kd.R_types HO_210003.out BK224.out (by decide)) (fun _ hk => hk.2) (.int .i64 t215)) (fun _ hk => hk.2) (.int .i64 t216)) (fun _ hk => hk.2) (.slice Ao43 t217.length co43)) (fun _ hk => hk.2) (.slice Ao44 t220.length co44)) (fun _ h_ => h_.1))) hb); have n4_ := Aside0.mk (Kd.R_below (by (with_reducible repeat (first | apply Kd.R_alloc | apply Kd.R_drewN | apply Kd.R_drew)); exact (Kd.R_mono (Kd.R_far (p := ⟨gb224, 3, none⟩) (Kd.R_far (p := ⟨gb224, 2, none⟩) (Kd.R_far (p := ⟨gb224, 1, none⟩) (Kd.R_far (p := ⟨gb224, 0, none⟩) (Kd.R_types HO219.out BK224.out (by decide)) (fun _ hk => hk.2) (.int .i64 t215)) (fun _ hk => hk.2) (.int .i64 t216)) (fun _ hk => hk.2) (.slice Ao43 t217.length co43)) (fun _ hk => hk.2) (.slice Ao44 t220.length co44)) (fun _ h_ => h_.1))) hb); have n5_ := Aside0.mk (Kd.R_below (by (with_reducible repeat (first | apply Kd.R_alloc | apply Kd.R_drewN | apply Kd.R_drew)); exact (Kd.R_mono (Kd.R_far (p := ⟨gb224, 3, none⟩) (Kd.R_far (p := ⟨gb224, 2, none⟩) (Kd.R_far (p := ⟨gb224, 1, none⟩) (Kd.R_far (p := ⟨gb224, 0, none⟩) (Kd.R_types HO222.out BK224.out (by decide)) (fun _ hk => hk.2) (.int .i64 t215)) (fun _ hk => hk.2) (.int .i64 t216)) (fun _ hk => hk.2) (.slice Ao43 t217.length co43)) (fun _ hk => hk.2) (.slice Ao44 t220.length co44)) (fun _ h_ => h_.1))) hb); have n6_ := Aside0.mk (blk_below (g := gb199) (o := .cells #[.int .i64 t190, .int .i64 t191, .slice Ao12 t192.length co12, .slice Ao13 t195.length co13] 34 (0, 0)) (by (with_reducible repeat (first | refine blk_drewN ?_ _ | refine blk_drew ?_ | refine blk_alloc ?_ _)); refine blk_far ?_ NB199_224.out _; (with_reducible repeat (first | refine blk_drewN ?_ _ | refine blk_drew ?_ | refine blk_alloc ?_ _)); refine blk_far ?_ NB199_224.out _; (with_reducible repeat (first | refine blk_drewN ?_ _ | refine blk_drew ?_ | refine blk_alloc ?_ _)); refine blk_far ?_ NB199_224.out _; (with_reducible repeat (first | refine blk_drewN ?_ _ | refine blk_drew ?_ | refine blk_alloc ?_ _)); refine blk_far ?_ NB199_224.out _; (with_reducible repeat (first | refine blk_drewN ?_ _ | refine blk_drew ?_ | refine blk_alloc ?_ _)); exact BK199.out) hb); have n7_ := Aside0.mk (blk_below (g := gb209) (o := .cells #[.int .i64 t200, .int .i64 t201, .slice Ao18 t202.length co18, .slice Ao19 t205.length co19] 34 (0, 0)) (by (with_reducible repeat (first | refine blk_drewN ?_ _ | refine blk_drew ?_ | refine blk_alloc ?_ _)); refine blk_far ?_ NB209_224.out _; (with_reducible repeat (first | refine blk_drewN ?_ _ | refine blk_drew ?_ | refine blk_alloc ?_ _)); refine blk_far ?_ NB209_224.out _; (with_reducible repeat (first | refine blk_drewN ?_ _ | refine blk_drew ?_ | refine blk_alloc ?_ _)); refine blk_far ?_ NB209_224.out _; (with_reducible repeat (first | refine blk_drewN ?_ _ | refine blk_drew ?_ | refine blk_alloc ?_ _)); refine blk_far ?_ NB209_224.out _; (with_reducible repeat (first | refine blk_drewN ?_ _ | refine blk_drew ?_ | refine blk_alloc ?_ _)); exact BK209.out) hb); have n8_ := Aside0.mk (blk_below (g := gb224) (o := .cells #[.int .i64 t215, .int .i64 t216, .slice Ao43 t217.length co43, .slice Ao44 t220.length co44] 34 (0, 0)) (by (with_reducible repeat (first | refine blk_drewN ?_ _ | refine blk_drew ?_ | refine blk_alloc ?_ _)); refine blk_put (cs := #[.int .i64 t215, .int .i64 t216, .slice Ao43 t217.length co43, .slice none 0 0]) ?_ 3 _ rfl; (with_reducible repeat (first | refine blk_drewN ?_ _ | refine blk_drew ?_ | refine blk_alloc ?_ _)); refine blk_put (cs := #[.int .i64 t215, .int .i64 t216, .slice none 0 0, .slice none 0 0]) ?_ 2 _ rfl; (with_reducible repeat (first | refine blk_drewN ?_ _ | refine blk_drew ?_ | refine blk_alloc ?_ _)); refine blk_put (cs := #[.int .i64 t215, .int .i64 0, .slice none 0 0, .slice none 0 0]) ?_ 1 _ rfl; (with_reducible repeat (first | refine blk_drewN ?_ _ | refine blk_drew ?_ | refine blk_alloc ?_ _)); refine blk_put (cs := #[.int .i64 0, .int .i64 0, .slice none 0 0, .slice none 0 0]) ?_ 0 _ rfl; (with_reducible repeat (first | refine blk_drewN ?_ _ | refine blk_drew ?_ | refine blk_alloc ?_ _)); exact BK224.out) hb); have n9_ := Aside0.mk (below_step (by repeat (first | (with_reducible first | exact HB.out | apply below_alloc | apply pw_below_drewN | apply below_drew1 | refine below_set ?_ GE199.out | refine below_set ?_ GE209.out | refine below_set ?_ GE224.out) | exact HB.out)) hb); clear HO_200002; clear HO_200003; clear HO_210002; clear HO_210003; clear HO219; clear HO222; clear BK199; clear BK209; clear BK224; clear HB; have HO_200002 := n0_; have HO_200003 := n1_; have HO_210002 := n2_; have HO_210003 := n3_; have HO219 := n4_; have HO222 := n5_; have BK199 := n6_; have BK209 := n7_; have BK224 := n8_; have HB := n9_; clear n0_ n1_ n2_ n3_ n4_ n5_ n6_ n7_ n8_ n9_; (try clear hb); (try clear hb2); (try clear hk); (try clear hi)))
        go_meet
        case rel => exact ⟨_, ((t223 != t198)), (by first | rfl | (simp; done) | (simp [*]; done)), H', ⟨by have := HJ7.out; first | omega | exact Nat.le_refl _⟩, ⟨by (with_reducible repeat (first | apply Kd.R_alloc | apply Kd.R_drewN | apply Kd.R_drew)); exact Kd.R_mono HO_200002.out (fun _ hk => ⟨hk.1.1.1, ⟨hk.1.1.2.1, ⟨hk.1.1.2.2, ⟨hk.1.2, hk.2⟩⟩⟩⟩)⟩, ⟨by (with_reducible repeat (first | apply Kd.R_alloc | apply Kd.R_drewN | apply Kd.R_drew)); exact Kd.R_mono HO_200003.out (fun _ hk => ⟨hk.1.1.1, ⟨hk.1.1.2.1, ⟨hk.1.1.2.2, ⟨hk.1.2, hk.2⟩⟩⟩⟩)⟩, ⟨by (with_reducible repeat (first | apply Kd.R_alloc | apply Kd.R_drewN | apply Kd.R_drew)); exact Kd.R_mono HO_210002.out (fun _ hk => ⟨hk.1.1.1, ⟨hk.1.1.2.1, ⟨hk.1.1.2.2, ⟨hk.1.2, hk.2⟩⟩⟩⟩)⟩, ⟨by (with_reducible repeat (first | apply Kd.R_alloc | apply Kd.R_drewN | apply Kd.R_drew)); exact Kd.R_mono HO_210003.out (fun _ hk => ⟨hk.1.1.1, ⟨hk.1.1.2.1, ⟨hk.1.1.2.2, ⟨hk.1.2, hk.2⟩⟩⟩⟩)⟩, ⟨by (with_reducible repeat (first | apply Kd.R_alloc | apply Kd.R_drewN | apply Kd.R_drew)); exact Kd.R_mono HO219.out (fun _ hk => ⟨hk.1.1.1.2, ⟨hk.1.1.2, ⟨hk.1.2, ⟨hk.2, hk.1.1.1.1⟩⟩⟩⟩)⟩, ⟨by (with_reducible repeat (first | apply Kd.R_alloc | apply Kd.R_drewN | apply Kd.R_drew)); exact Kd.R_mono HO222.out (fun _ hk => ⟨hk.1.1.1.2, ⟨hk.1.1.2, ⟨hk.1.2, ⟨hk.2, hk.1.1.1.1⟩⟩⟩⟩)⟩, ⟨by (with_reducible repeat (first | refine blk_drewN ?_ _ | refine blk_drew ?_ | refine blk_alloc ?_ _)); exact BK199.out⟩, ⟨by (with_reducible repeat (first | refine blk_drewN ?_ _ | refine blk_drew ?_ | refine blk_alloc ?_ _)); exact BK209.out⟩, ⟨by (with_reducible repeat (first | refine blk_drewN ?_ _ | refine blk_drew ?_ | refine blk_alloc ?_ _)); exact BK224.out⟩, ⟨by repeat (first | (with_reducible first | exact HB.out | apply below_alloc | apply pw_below_drewN | apply below_drew1 | refine below_set ?_ GE199.out | refine below_set ?_ GE209.out | refine below_set ?_ GE224.out) | exact HB.out)⟩⟩
       ·replace c46 := Bool.eq_false_iff.mpr c46
        subst c46
        have H1 : (laws_FnExactSquareFigure.j1 kj7 t211 true t200 t201 t212 t213) = some r := by rw [if_neg (show ¬ (false = true) by decide)] at H; exact H
        clear H
        have H := H1
        clear H1
        exact absurd HR_.out (by cases kj7 <;> simp [laws_FnExactSquareFigure.j1] at H <;> first | simp [← H] | simp [H] | simp_all)
      case rest =>
       clear HC32
       try clear c1
       try clear c2
       try clear p2
       try clear c3
       try clear c4
       try clear c5
       try clear c16
       try clear c17
       try clear c18
       try clear c19
       try clear c20
       try clear c21
       try clear c22
       try clear c26
       try clear c29
       try clear c29b0
       try clear c30
       try clear c30b0
       try clear c30b1
       try clear c33
       try clear c40
       try clear c41
       try clear c46
       try clear c47
       try clear c48
       try clear c50
       try clear hcz11_0
       try clear hcz11_1
       try clear hcz11_2
       try clear hcz11_3
       try clear hcz17_0
       try clear hcz17_1
       try clear hcz17_2
       try clear hcz17_3
       try clear hcz23_0
       try clear hcz23_1
       try clear hcz23_2
       try clear hcz23_3
       try clear hcz24_0
       try clear hcz24_1
       try clear hcz24_2
       try clear hcz24_3
       try clear hcz34_0
       try clear hcz34_1
       try clear hcz34_2
       try clear hcz34_3
       try clear hcz36_0
       try clear hcz36_1
       try clear hcz36_2
       try clear hcz36_3
       try clear hcz42_0
       try clear hcz42_1
       try clear hcz42_2
       try clear hcz42_3
       try clear hcz49_0
       try clear hcz49_1
       try clear hcz49_2
       try clear hcz49_3
       try clear hcz51_0
       try clear hcz51_1
       try clear hcz51_2
       try clear hcz51_3
       try clear hfz11_0
       try clear hfz11_1
       try clear hfz11_2
       try clear hfz11_3
       try clear hfz17_0
       try clear hfz17_1
       try clear hfz17_2
       try clear hfz17_3
       try clear hfz23_0
       try clear hfz23_1
       try clear hfz23_2
       try clear hfz23_3
       try clear hfz24_0
       try clear hfz24_1
       try clear hfz24_2
       try clear hfz24_3
       try clear hfz34_0
       try clear hfz34_1
       try clear hfz34_2
       try clear hfz34_3
       try clear hfz36_0
       try clear hfz36_1
       try clear hfz36_2
       try clear hfz36_3
       try clear hfz42_0
       try clear hfz42_1
       try clear hfz42_2
       try clear hfz42_3
       try clear hfz49_0
       try clear hfz49_1
       try clear hfz49_2
       try clear hfz49_3
       try clear hfz51_0
       try clear hfz51_1
       try clear hfz51_2
       try clear hfz51_3
       try clear p2
       obtain ⟨kq, x74_31, rfl, HA, HJ31, HO_200002, HO_200003, HO_210002, HO_210003, HO_225002, HO_225003, BK199, BK209, BK224, HB⟩ := hcut
       have hl210002_31 := (Kd.R_reads' HO_210002.out).1
       rw [hl210002_31] at HO_210002
       (try simp only [hl210002_31])
       (try simp only [hl210002_31] at BK199)
       (try simp only [hl210002_31] at BK209)
       (try simp only [hl210002_31] at BK224)
       (try simp only [hl210002_31] at HO_200002)
       (try simp only [hl210002_31] at HO_200003)
       (try simp only [hl210002_31] at HO_210003)
       (try simp only [hl210002_31] at HO_225002)
       (try simp only [hl210002_31] at HO_225003)
       have hl210003_31 := (Kd.R_reads' HO_210003.out).1
       rw [hl210003_31] at HO_210003
       (try simp only [hl210003_31])
       (try simp only [hl210003_31] at BK199)
       (try simp only [hl210003_31] at BK209)
       (try simp only [hl210003_31] at BK224)
       (try simp only [hl210003_31] at HO_200002)
       (try simp only [hl210003_31] at HO_200003)
       (try simp only [hl210003_31] at HO_210002)
       (try simp only [hl210003_31] at HO_225002)
       (try simp only [hl210003_31] at HO_225003)
       cases kq with
       | zero => exact absurd HA.out (by simp [laws_FnExactSquareFigure.j1])
       | succ kj31 =>
        have H := HA.out
        clear HA
        simp only [laws_FnExactSquareFigure.j1] at H
        by_cases c53 : x74_31 = true
        ·subst c53
         have H1 : (some false) = some r := by rw [if_pos rfl] at H; exact H
         clear H
         have H := H1
         clear H1
         exact absurd ((Option.some.inj H).trans HR_.out) Bool.false_ne_true
        ·replace c53 := Bool.eq_false_iff.mpr c53
         subst c53
         have H1 : ((laws_heldFigure.f kj31 t200 t201 t212 t213 101).bind fun t226 => (if t226 < 0 then (some false) else (if t226 = t211 then (some true) else (some false)))) = some r := by rw [if_neg (show ¬ (false = true) by decide)] at H; exact H
         clear H
         have H := H1
         clear H1
         replace H := Option.bind_eq_some_iff.mp H
         obtain ⟨t226, A540, H⟩ := H
         replace H : (if t226 < 0 then (some false) else (if t226 = t211 then (some true) else (some false))) = some r := H
         have A54 := Aside0.mk A540
         clear A540
         by_cases c55 : t226 < 0
         ·rw [if_pos c55] at H
          have c55b0 : decide (t226 < 0) = true := decide_eq_true c55
          clear c55
          exact absurd ((Option.some.inj H).trans HR_.out) Bool.false_ne_true
         ·rw [if_neg c55] at H
          have c55b0 : decide (t226 < 0) = false := decide_eq_false c55
          clear c55
          by_cases c56 : t226 = t211
          ·rw [if_pos c56] at H
           have c56b0 : (t226 == t211) = true := beq_iff_eq.mpr c56
           have c56b1 : (t226 != t211) = false := bne_eq_false_iff_eq.mpr c56
           clear c56
           obtain rfl := Option.some.inj H
           have hnb57 := NB209_199.out
           have hnc57 := NB199_209.out
           have hnb58 := NB209_224.out
           have hnc58 := NB224_209.out
           have hcz59_0 : wc.cell? ⟨gb209, 0, none⟩ = some (.int .i64 t200) := (blk_cell BK209.out 0).trans rfl
           have hcz59_1 : wc.cell? ⟨gb209, 1, none⟩ = some (.int .i64 t201) := (blk_cell BK209.out 1).trans rfl
           have hcz59_2 : wc.cell? ⟨gb209, 2, none⟩ = some (.slice Ao18 t212.length co18) := (blk_cell BK209.out 2).trans rfl
           have hcz59_3 : wc.cell? ⟨gb209, 3, none⟩ = some (.slice Ao19 t213.length co19) := (blk_cell BK209.out 3).trans rfl
           have hfz59_0 := blk_frozen BK209.out 0
           have hfz59_1 := blk_frozen BK209.out 1
           have hfz59_2 := blk_frozen BK209.out 2
           have hfz59_3 := blk_frozen BK209.out 3
           go_wp2_with (first | ((with_reducible refine gate_callee (f := 20) rfl ?_); refine goesL_ (some 77) rfl rfl Tryd.func20 (by kernel_rfl) rfl #[.agg #[.int .i64 t200, .int .i64 t201, .slice Ao18 t212.length co18, .slice Ao19 t213.length co19], .int .i64 101] rfl (by (try simp only [List.map_toArray, List.map_cons, List.map_nil]); first | done | rfl | (simp only [List.length_drop, List.length_take]; rfl)) ?_; (with_reducible refine (laws_heldFigure.calls kj31 t200 t201 _ _ t212 _ _ t213 101 t226 _ ?side1 ?side2 ?side3 ?side4 A54.out).mono ?_); (case side1 => repeat (first | exact (Kd.R_reads' HO_210002.out).2.2 | (with_reducible refine Kd.C_alloc ?_ _) | (with_reducible refine Kd.C_drewN ?_ _) | (with_reducible refine Kd.C_drew ?_))); (case side2 => exact (Kd.R_reads' HO_210002.out).2.1); (case side3 => repeat (first | exact (Kd.R_reads' HO_210003.out).2.2 | (with_reducible refine Kd.C_alloc ?_ _) | (with_reducible refine Kd.C_drewN ?_ _) | (with_reducible refine Kd.C_drew ?_))); (case side4 => exact (Kd.R_reads' HO_210003.out).2.1); rintro e w60 ⟨rfl, hb⟩; refine ⟨_, rfl, ?_⟩; have n0_ := Aside0.mk (Kd.R_below (by (with_reducible repeat (first | apply Kd.R_alloc | apply Kd.R_drewN | apply Kd.R_drew)); exact HO_200002.out) hb); have n1_ := Aside0.mk (Kd.R_below (by (with_reducible repeat (first | apply Kd.R_alloc | apply Kd.R_drewN | apply Kd.R_drew)); exact HO_200003.out) hb); have n2_ := Aside0.mk (Kd.R_below (by (with_reducible repeat (first | apply Kd.R_alloc | apply Kd.R_drewN | apply Kd.R_drew)); exact HO_210002.out) hb); have n3_ := Aside0.mk (Kd.R_below (by (with_reducible repeat (first | apply Kd.R_alloc | apply Kd.R_drewN | apply Kd.R_drew)); exact HO_210003.out) hb); have n4_ := Aside0.mk (Kd.R_below (by (with_reducible repeat (first | apply Kd.R_alloc | apply Kd.R_drewN | apply Kd.R_drew)); exact HO_225002.out) hb); have n5_ := Aside0.mk (Kd.R_below (by (with_reducible repeat (first | apply Kd.R_alloc | apply Kd.R_drewN | apply Kd.R_drew)); exact HO_225003.out) hb); have n6_ := Aside0.mk (blk_below (g := gb199) (o := .cells #[.int .i64 t190, .int .i64 t191, .slice Ao12 t192.length co12, .slice Ao13 t195.length co13] 34 (0, 0)) (by (with_reducible repeat (first | refine blk_drewN ?_ _ | refine blk_drew ?_ | refine blk_alloc ?_ _)); exact BK199.out) hb); have n7_ := Aside0.mk (blk_below (g := gb209) (o := .cells #[.int .i64 t200, .int .i64 t201, .slice Ao18 t212.length co18, .slice Ao19 t213.length co19] 34 (0, 0)) (by (with_reducible repeat (first | refine blk_drewN ?_ _ | refine blk_drew ?_ | refine blk_alloc ?_ _)); exact BK209.out) hb); have n8_ := Aside0.mk (blk_below (g := gb224) (o := .cells #[.int .i64 t215, .int .i64 t216, .slice Ao43 t217.length co43, .slice Ao44 t220.length co44] 34 (0, 0)) (by (with_reducible repeat (first | refine blk_drewN ?_ _ | refine blk_drew ?_ | refine blk_alloc ?_ _)); exact BK224.out) hb); have n9_ := Aside0.mk (below_step (by repeat (first | (with_reducible first | exact HB.out | apply below_alloc | apply pw_below_drewN | apply below_drew1 | refine below_set ?_ GE199.out | refine below_set ?_ GE209.out | refine below_set ?_ GE224.out) | exact HB.out)) hb); clear HO_200002; clear HO_200003; clear HO_210002; clear HO_210003; clear HO_225002; clear HO_225003; clear BK199; clear BK209; clear BK224; clear HB; have HO_200002 := n0_; have HO_200003 := n1_; have HO_210002 := n2_; have HO_210003 := n3_; have HO_225002 := n4_; have HO_225003 := n5_; have BK199 := n6_; have BK209 := n7_; have BK224 := n8_; have HB := n9_; clear n0_ n1_ n2_ n3_ n4_ n5_ n6_ n7_ n8_ n9_; (try clear hb); (try clear hb2); (try clear hk); (try clear hi)))
           go_ret
           exact ⟨by first | rfl | (simp [errW_none, errW_some] <;> rfl) | (simp [*, errW_none, errW_some] <;> rfl), by repeat (first | (with_reducible first | exact HB.out | apply below_alloc | apply pw_below_drewN | apply below_drew1 | refine below_set ?_ GE199.out | refine below_set ?_ GE209.out | refine below_set ?_ GE224.out) | exact HB.out)⟩
          ·rw [if_neg c56] at H
           have c56b0 : (t226 == t211) = false := beq_eq_false_iff_ne.mpr c56
           have c56b1 : (t226 != t211) = true := bne_iff_ne.mpr c56
           exact absurd ((Option.some.inj H).trans HR_.out) Bool.false_ne_true
     ·rw [if_neg c30] at H
      have c30b0 : (t214 == t211) = false := beq_eq_false_iff_ne.mpr c30
      have c30b1 : (t214 != t211) = true := bne_iff_ne.mpr c30
      exact absurd ((Option.some.inj H).trans HR_.out) Bool.false_ne_true

/-- THE ONE PURE STATEMENT of laws_FnExactSquareFigure. -/
def laws_FnExactSquareFigure.Pure : Prop := ∀ (a0 : Int) (a1 : Int) (a2 : Int) (a3 : Int) (a4 : Int), (Lit.int .i64 a0).wf = true → (Lit.int .i64 a1).wf = true → (Lit.int .i64 a2).wf = true → (Lit.int .i64 a3).wf = true → (Lit.int .i64 a4).wf = true → ∃ k, laws_FnExactSquareFigure.f k a0 a1 a2 a3 a4 = some true

end Go.Proofs.YtnmngpgjkokdaaaDoor.Q
