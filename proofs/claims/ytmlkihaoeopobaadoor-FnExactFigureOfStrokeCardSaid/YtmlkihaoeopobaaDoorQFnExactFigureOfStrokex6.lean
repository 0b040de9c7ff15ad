-- written by a program of this session, pm.py, for this claim
-- half the indentation
import Derived.Test.YtmlkihaoeopobaaDoorQFnExactFigureOfStrokex0
import Derived.Test.YtmlkihaoeopobaaDoorQFnExactFigureOfStrokex2
import Derived.Test.YtmlkihaoeopobaaDoorQFnExactFigureOfStrokex4
import Derived.Test.YtmlkihaoeopobaaDoorQFnExactFigureOfStrokex5
namespace Go.Proofs.YtmlkihaoeopobaaDoor.Q
open Go.RowKit Go.Proofs.YtmlkihaoeopobaaDoorW.PrintWords Go.Proofs.YtmlkihaoeopobaaDoorW.PrintLast Go.Proofs.YtmlkihaoeopobaaDoorW.PrintMore
attribute [local go_sem] max2_int min2_int max_two min_two max_three min_three max_four min_four   -- for this text's walks alone
set_option linter.unusedVariables false
set_option linter.unusedSimpArgs false

/-! ### spec_liDraw: function 60 -/
mutual
def spec_liDraw.l0 : Nat → ByteArray → Int → Int → Int → Int → Int → List Int → List Int → Int → Int → List Int → List Int → Option (Int × Int × List Int × List Int × Bool)
 | 0, _, _, _, _, _, _, _, _, _, _, _, _ => none
 | k + 1, x3, x12, x296000, x296001, x306000, x306001, x306002, x306003, x307000, x307001, x307002, x307003 => if x12 < (x3.size : Int) then (spec_liDraw.l1 k x3 x12 (-1) 0 x296000 x296001 x306000 x306001 x306002 x306003 x307000 x307001 x307002 x307003) else (some (x307000, x307001, x307002, x307003, true))
def spec_liDraw.l1 : Nat → ByteArray → Int → Int → Int → Int → Int → Int → Int → List Int → List Int → Int → Int → List Int → List Int → Option (Int × Int × List Int × List Int × Bool)
 | 0, _, _, _, _, _, _, _, _, _, _, _, _, _, _ => none
 | k + 1, x3, x12, x13, x14, x296000, x296001, x306000, x306001, x306002, x306003, x307000, x307001, x307002, x307003 => if x14 < 4 then (if 0 ≤ x12 then (if x12 < (x3.size : Int) then ((spec_liDirs.f).bind fun t307 => (if 0 ≤ x14 then (if x14 < (t307.size : Int) then (if (bt x3 x12) = (bt t307 x14) then (spec_liDraw.l1 k x3 x12 x14 (wrap64 (x14 + 1)) x296000 x296001 x306000 x306001 x306002 x306003 x307000 x307001 x307002 x307003) else (spec_liDraw.l1 k x3 x12 x13 (wrap64 (x14 + 1)) x296000 x296001 x306000 x306001 x306002 x306003 x307000 x307001 x307002 x307003)) else (none)) else (none))) else (none)) else (none)) else (if x13 < 0 then (some (0, 0, ([] : List Int), ([] : List Int), false)) else ((spec_liNext.f k x306000 x306001 x306002 x306003 x296000 x296001 x13).bind fun bt308 => (if bt308.2.2 = true then ((spec_liNext.f k x307000 x307001 x307002 x307003 x296000 x296001 x13).bind fun bt312 => (if bt312.2.2 = true then (some (0, 0, ([] : List Int), ([] : List Int), false)) else ((spec_fiMissing.f k x307000 x307001 x307002 x307003).bind fun bt316 => ((spec_liEdge.f k x306000 x306001 x306002 x306003 x296000 x296001 x13).bind fun bt324 => ((spec_fiLess.f k bt316.1 bt316.2.1 bt316.2.2.1 bt316.2.2.2 bt324.1 bt324.2.1 bt324.2.2.1 bt324.2.2.2).bind fun bt332 => ((spec_fiMissing.f k bt332.1 bt332.2.1 bt332.2.2.1 bt332.2.2.2).bind fun bt340 => (spec_liDraw.l0 k x3 (wrap64 (x12 + 1)) bt308.1 bt308.2.1 x306000 x306001 x306002 x306003 bt340.1 bt340.2.1 bt340.2.2.1 bt340.2.2.2))))))) else (some (0, 0, ([] : List Int), ([] : List Int), false)))))
end
def spec_liDraw.f (k : Nat) (a0 : Int) (a1 : Int) (a2_0 : Int) (a2_1 : Int) (a3 : ByteArray) : Option (Int × Int × List Int × List Int × Bool) := (spec_fiFull.f k a0 a1).bind fun bt297 => (spec_liDraw.l0 k a3 0 a2_0 a2_1 bt297.1 bt297.2.1 bt297.2.2.1 bt297.2.2.2 a0 a1 ([] : List Int) ([] : List Int))
theorem spec_liDraw.mono_l : ∀ k, (∀ y0 y1 y2 y3 y4 y5 y6 y7 y8 y9 y10 y11, LeO (spec_liDraw.l0 k y0 y1 y2 y3 y4 y5 y6 y7 y8 y9 y10 y11) (spec_liDraw.l0 (k + 1) y0 y1 y2 y3 y4 y5 y6 y7 y8 y9 y10 y11)) ∧ (∀ y0 y1 y2 y3 y4 y5 y6 y7 y8 y9 y10 y11 y12 y13, LeO (spec_liDraw.l1 k y0 y1 y2 y3 y4 y5 y6 y7 y8 y9 y10 y11 y12 y13) (spec_liDraw.l1 (k + 1) y0 y1 y2 y3 y4 y5 y6 y7 y8 y9 y10 y11 y12 y13))
 | 0 => ⟨fun _ _ _ _ _ _ _ _ _ _ _ _ r h => by simp [spec_liDraw.l0] at h, fun _ _ _ _ _ _ _ _ _ _ _ _ _ _ r h => by simp [spec_liDraw.l1] at h⟩
 | k + 1 => by
  obtain ⟨ih0, ih1⟩ := spec_liDraw.mono_l k
  refine ⟨?_, ?_⟩
  ·intro y0 y1 y2 y3 y4 y5 y6 y7 y8 y9 y10 y11
   unfold spec_liDraw.l0
   repeat' first
   | (with_reducible exact ih0 _ _ _ _ _ _ _ _ _ _ _ _)
   | (with_reducible exact ih1 _ _ _ _ _ _ _ _ _ _ _ _ _ _)
   | (with_reducible exact spec_fiFull.mono _ _ _)
   | (with_reducible exact spec_fiLess.mono _ _ _ _ _ _ _ _ _)
   | (with_reducible exact spec_fiMissing.mono _ _ _ _ _)
   | (with_reducible exact spec_liEdge.mono _ _ _ _ _ _ _ _)
   | (with_reducible exact spec_liNext.mono _ _ _ _ _ _ _ _)
   | (with_reducible exact LeO.refl _)
   | (with_reducible exact LeO.none _)
   | (with_reducible refine LeO.ite ?_ ?_)
   | (with_reducible refine LeO.bind ?_ (fun _ => ?_))
   | exact ih0 _ _ _ _ _ _ _ _ _ _ _ _
   | exact ih1 _ _ _ _ _ _ _ _ _ _ _ _ _ _
   | exact spec_fiFull.mono _ _ _
   | exact spec_fiLess.mono _ _ _ _ _ _ _ _ _
   | exact spec_fiMissing.mono _ _ _ _ _
   | exact spec_liEdge.mono _ _ _ _ _ _ _ _
   | exact spec_liNext.mono _ _ _ _ _ _ _ _
   | exact LeO.none _
   | refine LeO.ite ?_ ?_
   | refine LeO.bind ?_ (fun _ => ?_)
  ·intro y0 y1 y2 y3 y4 y5 y6 y7 y8 y9 y10 y11 y12 y13
   unfold spec_liDraw.l1
   repeat' first
   | (with_reducible exact ih0 _ _ _ _ _ _ _ _ _ _ _ _)
   | (with_reducible exact ih1 _ _ _ _ _ _ _ _ _ _ _ _ _ _)
   | (with_reducible exact spec_fiFull.mono _ _ _)
   | (with_reducible exact spec_fiLess.mono _ _ _ _ _ _ _ _ _)
   | (with_reducible exact spec_fiMissing.mono _ _ _ _ _)
   | (with_reducible exact spec_liEdge.mono _ _ _ _ _ _ _ _)
   | (with_reducible exact spec_liNext.mono _ _ _ _ _ _ _ _)
   | (with_reducible exact LeO.refl _)
   | (with_reducible exact LeO.none _)
   | (with_reducible refine LeO.ite ?_ ?_)
   | (with_reducible refine LeO.bind ?_ (fun _ => ?_))
   | exact ih0 _ _ _ _ _ _ _ _ _ _ _ _
   | exact ih1 _ _ _ _ _ _ _ _ _ _ _ _ _ _
   | exact spec_fiFull.mono _ _ _
   | exact spec_fiLess.mono _ _ _ _ _ _ _ _ _
   | exact spec_fiMissing.mono _ _ _ _ _
   | exact spec_liEdge.mono _ _ _ _ _ _ _ _
   | exact spec_liNext.mono _ _ _ _ _ _ _ _
   | exact LeO.none _
   | refine LeO.ite ?_ ?_
   | refine LeO.bind ?_ (fun _ => ?_)
theorem spec_liDraw.mono : ∀ a0 a1 a2 a3 a4 k, LeO (spec_liDraw.f k a0 a1 a2 a3 a4) (spec_liDraw.f (k + 1) a0 a1 a2 a3 a4) := by
 intro a0 a1 a2 a3 a4 k
 obtain ⟨ih0, ih1⟩ := spec_liDraw.mono_l k
 unfold spec_liDraw.f
 repeat' first
   | (with_reducible exact ih0 _ _ _ _ _ _ _ _ _ _ _ _)
   | (with_reducible exact ih1 _ _ _ _ _ _ _ _ _ _ _ _ _ _)
   | (with_reducible exact spec_fiFull.mono _ _ _)
   | (with_reducible exact spec_fiLess.mono _ _ _ _ _ _ _ _ _)
   | (with_reducible exact spec_fiMissing.mono _ _ _ _ _)
   | (with_reducible exact spec_liEdge.mono _ _ _ _ _ _ _ _)
   | (with_reducible exact spec_liNext.mono _ _ _ _ _ _ _ _)
   | (with_reducible exact LeO.refl _)
   | (with_reducible exact LeO.none _)
   | (with_reducible refine LeO.ite ?_ ?_)
   | (with_reducible refine LeO.bind ?_ (fun _ => ?_))
   | exact ih0 _ _ _ _ _ _ _ _ _ _ _ _
   | exact ih1 _ _ _ _ _ _ _ _ _ _ _ _ _ _
   | exact spec_fiFull.mono _ _ _
   | exact spec_fiLess.mono _ _ _ _ _ _ _ _ _
   | exact spec_fiMissing.mono _ _ _ _ _
   | exact spec_liEdge.mono _ _ _ _ _ _ _ _
   | exact spec_liNext.mono _ _ _ _ _ _ _ _
   | exact LeO.none _
   | refine LeO.ite ?_ ?_
   | refine LeO.bind ?_ (fun _ => ?_)
def spec_liDraw.T20 : Bool × List (List Nat × List Nat) := (true, [([], []), ([0], [0]), ([], []), ([], []), ([], []), ([2, 3, 4, 1], [2, 3, 4]), ([1, 5, 5], [1, 5]), ([6, 6], [6]), ([7, 7, 0, 1, 2, 3, 4, 5, 6, 7], [7])])
def spec_liDraw.B20 : List Nat := [0, 1, 0, 0, 0, 31, 63, 127, 255]
theorem spec_liDraw.tab20 : rtab .any (opsOf Tryd.f60 20) = spec_liDraw.T20 := by kernel_rfl
theorem spec_liDraw.bits20 : waitsOk spec_liDraw.T20.2 spec_liDraw.B20 = true := by kernel_rfl
set_option maxHeartbeats 8000000 in
set_option maxRecDepth 100000 in
theorem spec_liDraw.calls (k : Nat) (a0 : Int) (a1 : Int) (a2_0 : Int) (a2_1 : Int) (a3 : ByteArray) (r1 : Int) (r2 : Int) (r3 : List Int) (r4 : List Int) (r5 : Bool) (w : World) (h : spec_liDraw.f k a0 a1 a2_0 a2_1 a3 = some (r1, r2, r3, r4, r5)) :
  Calls Tryd.prog 60 #[.int .i64 a0, .int .i64 a1, .agg #[.int .i64 a2_0, .int .i64 a2_1], .string a3] w fun e w' => ∃ v2_ v3_ : Value, e = .returned (.tuple #[.agg #[.int .i64 r1, .int .i64 r2, v2_, v3_], .bool r5]) ∧ Kd.R (Kd.int .i64) 3 w' w.heap.size (fun k_ => some k_ ≠ (v3_ : Value).ownBlock) v2_ r3 ∧ Kd.R (Kd.int .i64) 3 w' w.heap.size (fun k_ => some k_ ≠ (v2_ : Value).ownBlock) v3_ r4 ∧ Below w.heap.size w w' := by
 have hu43 := Tryd.underlying43
 have hu26 := Tryd.underlying26
 have HB := Aside0.mk (Below.refl w.heap.size w)
 have H : ((spec_fiFull.f k a0 a1).bind fun bt297 => (spec_liDraw.l0 k a3 0 a2_0 a2_1 bt297.1 bt297.2.1 bt297.2.2.1 bt297.2.2.2 a0 a1 ([] : List Int) ([] : List Int))) = some (r1, r2, r3, r4, r5) := h
 clear h
 replace H := Option.bind_eq_some_iff.mp H
 obtain ⟨⟨t297, t298, t299, t302⟩, A50, H⟩ := H
 replace H : (spec_liDraw.l0 k a3 0 a2_0 a2_1 t297 t298 t299 t302 a0 a1 ([] : List Int) ([] : List Int)) = some (r1, r2, r3, r4, r5) := H
 have A5 := Aside0.mk A50
 clear A50
 have H' := Aside0.mk H
 clear H
 go_enter Tryd.func60, Tryd.ntmps60
 go_wp2_with (first | ((with_reducible refine gate_dst (N := 6) rfl ?_); refine box_event ?hg (N := 6) ?hd (cs := #[.int .i64 a2_0, .int .i64 a2_1]) (t := 43) ?hr ?_; (case hd => rfl); (case hg => rfl); (case hr => first | (go_simp; done) | (go_simp; rfl)); intro gb295 hg w6 hbox hb; have n0_ := Aside0.mk (below_step (by repeat (first | (with_reducible first | exact HB.out | apply zA | apply zN | apply zD) | exact HB.out)) hb); have n1_ := Aside0.mk (hbox); have n2_ := Aside0.mk ((by rw [hg]; exact (below_size (by repeat (first | (with_reducible first | exact HB.out | apply zA | apply zN | apply zD) | exact HB.out))) : w.heap.size ≤ gb295)); have n3_ := Aside0.mk ((by rw [hg]; exact (below_size (by repeat (first | (with_reducible first | exact HB.out | apply zA | apply zN | apply zD) | exact HB.out))) : w.heap.size ≤ gb295)); clear HB; have HB := n0_; have BK295 := n1_; have GW295 := n2_; have GE295 := n3_; clear n0_ n1_ n2_ n3_; clear hb hbox hg) | ((with_reducible refine gate_dst (N := 8) rfl ?_); refine box_event ?hg (N := 8) ?hd (cs := #[.int .i64 0, .int .i64 0, .slice none 0 0, .slice none 0 0]) (t := 26) ?hr ?_; (case hd => rfl); (case hg => rfl); (case hr => first | (go_simp; done) | (go_simp; rfl)); intro gb296 hg w7 hbox hb; have n0_ := Aside0.mk (blk_below (g := gb295) (o := .cells #[.int .i64 a2_0, .int .i64 a2_1] 43 (0, 0)) (by (with_reducible repeat (first | refine zbN ?_ _ | refine zbD ?_ | refine zbA ?_ _)); exact BK295.out) hb); have n1_ := Aside0.mk (below_step (by repeat (first | (with_reducible first | exact HB.out | apply zA | apply zN | apply zD | refine zS ?_ GE295.out) | exact HB.out)) hb); have n2_ := Aside0.mk (hbox); have n3_ := Aside0.mk ((by rw [hg]; exact (below_size (by repeat (first | (with_reducible first | exact HB.out | apply zA | apply zN | apply zD | refine zS ?_ GE295.out) | exact HB.out))) : w.heap.size ≤ gb296)); have n4_ := Aside0.mk ((by rw [hg]; exact (below_size (by repeat (first | (with_reducible first | exact HB.out | apply zA | apply zN | apply zD | refine zS ?_ GE295.out) | exact HB.out))) : w.heap.size ≤ gb296)); have n5_ := Aside0.mk ((by rw [hg]; exact Nat.ne_of_lt (blk_lt (g := gb295) (o := .cells #[.int .i64 a2_0, .int .i64 a2_1] 43 (0, 0)) (by (with_reducible repeat (first | refine zbN ?_ _ | refine zbD ?_ | refine zbA ?_ _)); exact BK295.out)) : gb295 ≠ gb296)); have n6_ := Aside0.mk ((by rw [hg]; exact Nat.ne_of_gt (blk_lt (g := gb295) (o := .cells #[.int .i64 a2_0, .int .i64 a2_1] 43 (0, 0)) (by (with_reducible repeat (first | refine zbN ?_ _ | refine zbD ?_ | refine zbA ?_ _)); exact BK295.out)) : gb296 ≠ gb295)); clear BK295; clear HB; have BK295 := n0_; have HB := n1_; have BK296 := n2_; have GW296 := n3_; have GE296 := n4_; have NB295_296 := n5_; have NB296_295 := n6_; clear n0_ n1_ n2_ n3_ n4_ n5_ n6_; clear hb hbox hg) | ((with_reducible refine gate_callee (f := 67) rfl ?_); refine goesL_ (some 21) rfl rfl Tryd.func67 (by kernel_rfl) rfl #[.int .i64 a0, .int .i64 a1] rfl (by (try simp only [List.map_toArray, List.map_cons, List.map_nil]); first | done | rfl | (simp only [List.length_drop, List.length_take]; rfl)) ?_; (with_reducible refine (spec_fiFull.calls k a0 a1 t297 t298 t299 t302 _ A5.out).mono ?_); rintro e w8 ⟨v300, v303, rfl, ho0, ho1, hb⟩; refine ⟨_, rfl, ?_⟩; have n0_ := Aside0.mk (Kd.R_lower ho0 (below_size (by repeat (first | (with_reducible first | exact HB.out | apply zA | apply zN | apply zD | refine zS ?_ GE295.out | refine zS ?_ GE296.out) | exact HB.out)))); have n1_ := Aside0.mk (Kd.R_lower ho1 (below_size (by repeat (first | (with_reducible first | exact HB.out | apply zA | apply zN | apply zD | refine zS ?_ GE295.out | refine zS ?_ GE296.out) | exact HB.out)))); have n2_ := Aside0.mk (blk_below (g := gb295) (o := .cells #[.int .i64 a2_0, .int .i64 a2_1] 43 (0, 0)) (by (with_reducible repeat (first | refine zbN ?_ _ | refine zbD ?_ | refine zbA ?_ _)); exact BK295.out) hb); have n3_ := Aside0.mk (blk_below (g := gb296) (o := .cells #[.int .i64 0, .int .i64 0, .slice none 0 0, .slice none 0 0] 26 (0, 0)) (by (with_reducible repeat (first | refine zbN ?_ _ | refine zbD ?_ | refine zbA ?_ _)); exact BK296.out) hb); have n4_ := Aside0.mk (below_step (by repeat (first | (with_reducible first | exact HB.out | apply zA | apply zN | apply zD | refine zS ?_ GE295.out | refine zS ?_ GE296.out) | exact HB.out)) hb); clear BK295; clear BK296; clear HB; have HO301 := n0_; have HO304 := n1_; have BK295 := n2_; have BK296 := n3_; have HB := n4_; clear n0_ n1_ n2_ n3_ n4_; (try clear hb); (try clear hb2); (try clear hk); (try clear hi); (try clear ho0); (try clear ho1)) | ((with_reducible refine gate_dst (N := 10) rfl ?_); refine box_event ?hg (N := 10) ?hd (cs := #[.int .i64 0, .int .i64 0, .slice none 0 0, .slice none 0 0]) (t := 26) ?hr ?_; (case hd => rfl); (case hg => rfl); (case hr => first | (go_simp; done) | (go_simp; rfl)); intro gb305 hg w9 hbox hb; have n0_ := Aside0.mk (Kd.R_below (by (with_reducible repeat (first | apply Kd.R_alloc | apply Kd.R_drewN | apply Kd.R_drew)); exact HO301.out) hb); have n1_ := Aside0.mk (Kd.R_below (by (with_reducible repeat (first | apply Kd.R_alloc | apply Kd.R_drewN | apply Kd.R_drew)); exact HO304.out) hb); have n2_ := Aside0.mk (blk_below (g := gb295) (o := .cells #[.int .i64 a2_0, .int .i64 a2_1] 43 (0, 0)) (by (with_reducible repeat (first | refine zbN ?_ _ | refine zbD ?_ | refine zbA ?_ _)); exact BK295.out) hb); have n3_ := Aside0.mk (blk_below (g := gb296) (o := .cells #[.int .i64 0, .int .i64 0, .slice none 0 0, .slice none 0 0] 26 (0, 0)) (by (with_reducible repeat (first | refine zbN ?_ _ | refine zbD ?_ | refine zbA ?_ _)); exact BK296.out) hb); have n4_ := Aside0.mk (below_step (by repeat (first | (with_reducible first | exact HB.out | apply zA | apply zN | apply zD | refine zS ?_ GE295.out | refine zS ?_ GE296.out) | exact HB.out)) hb); have n5_ := Aside0.mk (hbox); have n6_ := Aside0.mk ((by rw [hg]; exact (below_size (by repeat (first | (with_reducible first | exact HB.out | apply zA | apply zN | apply zD | refine zS ?_ GE295.out | refine zS ?_ GE296.out) | exact HB.out))) : w.heap.size ≤ gb305)); have n7_ := Aside0.mk ((by rw [hg]; exact (below_size (by repeat (first | (with_reducible first | exact HB.out | apply zA | apply zN | apply zD | refine zS ?_ GE295.out | refine zS ?_ GE296.out) | exact HB.out))) : w.heap.size ≤ gb305)); have n8_ := Aside0.mk ((by rw [hg]; exact Nat.ne_of_lt (blk_lt (g := gb295) (o := .cells #[.int .i64 a2_0, .int .i64 a2_1] 43 (0, 0)) (by (with_reducible repeat (first | refine zbN ?_ _ | refine zbD ?_ | refine zbA ?_ _)); exact BK295.out)) : gb295 ≠ gb305)); have n9_ := Aside0.mk ((by rw [hg]; exact Nat.ne_of_gt (blk_lt (g := gb295) (o := .cells #[.int .i64 a2_0, .int .i64 a2_1] 43 (0, 0)) (by (with_reducible repeat (first | refine zbN ?_ _ | refine zbD ?_ | refine zbA ?_ _)); exact BK295.out)) : gb305 ≠ gb295)); have n10_ := Aside0.mk ((by rw [hg]; exact Nat.ne_of_lt (blk_lt (g := gb296) (o := .cells #[.int .i64 0, .int .i64 0, .slice none 0 0, .slice none 0 0] 26 (0, 0)) (by (with_reducible repeat (first | refine zbN ?_ _ | refine zbD ?_ | refine zbA ?_ _)); exact BK296.out)) : gb296 ≠ gb305)); have n11_ := Aside0.mk ((by rw [hg]; exact Nat.ne_of_gt (blk_lt (g := gb296) (o := .cells #[.int .i64 0, .int .i64 0, .slice none 0 0, .slice none 0 0] 26 (0, 0)) (by (with_reducible repeat (first | refine zbN ?_ _ | refine zbD ?_ | refine zbA ?_ _)); exact BK296.out)) : gb305 ≠ gb296)); clear HO301; clear HO304; clear BK295; clear BK296; clear HB; have HO301 := n0_; have HO304 := n1_; have BK295 := n2_; have BK296 := n3_; have HB := n4_; have BK305 := n5_; have GW305 := n6_; have GE305 := n7_; have NB295_305 := n8_; have NB305_295 := n9_; have NB296_305 := n10_; have NB305_296 := n11_; clear n0_ n1_ n2_ n3_ n4_ n5_ n6_ n7_ n8_ n9_ n10_ n11_; clear hb hbox hg; have hnb10 := NB305_295.out; have hnc10 := NB295_305.out; have hnb11 := NB305_296.out; have hnc11 := NB296_305.out; have hcz12_0 : w9.cell? ⟨gb305, 0, none⟩ = some (.int .i64 0) := (zbC BK305.out 0).trans rfl; have hcz12_1 : w9.cell? ⟨gb305, 1, none⟩ = some (.int .i64 0) := (zbC BK305.out 1).trans rfl; have hcz12_2 : w9.cell? ⟨gb305, 2, none⟩ = some (.slice none 0 0) := (zbC BK305.out 2).trans rfl; have hcz12_3 : w9.cell? ⟨gb305, 3, none⟩ = some (.slice none 0 0) := (zbC BK305.out 3).trans rfl; have hfz12_0 := zbF BK305.out 0; have hfz12_1 := zbF BK305.out 1; have hfz12_2 := zbF BK305.out 2; have hfz12_3 := zbF BK305.out 3; obtain ⟨Ao13, co13, eo13⟩ := Kd.R_slice HO301.out; subst eo13; obtain ⟨Ao14, co14, eo14⟩ := Kd.R_slice HO304.out; subst eo14) | ((with_reducible refine gate_dst (N := 11) rfl ?_); refine box_event ?hg (N := 11) ?hd (cs := #[.int .i64 0, .int .i64 0, .slice none 0 0, .slice none 0 0]) (t := 26) ?hr ?_; (case hd => rfl); (case hg => rfl); (case hr => first | (go_simp; done) | (go_simp; rfl)); intro gb306 hg w15 hbox hb; have n0_ := Aside0.mk (Kd.R_below (by (with_reducible repeat (first | apply Kd.R_alloc | apply Kd.R_drewN | apply Kd.R_drew)); exact (Kd.R_mono (Kd.R_far (p := ⟨gb305, 3, none⟩) (Kd.R_far (p := ⟨gb305, 2, none⟩) (Kd.R_far (p := ⟨gb305, 1, none⟩) (Kd.R_far (p := ⟨gb305, 0, none⟩) (Kd.R_types HO301.out BK305.out (by decide)) (fun _ hk => hk.2) (.int .i64 t297)) (fun _ hk => hk.2) (.int .i64 t298)) (fun _ hk => hk.2) (.slice Ao13 t299.length co13)) (fun _ hk => hk.2) (.slice Ao14 t302.length co14)) (fun _ h_ => h_.1))) hb); have n1_ := Aside0.mk (Kd.R_below (by (with_reducible repeat (first | apply Kd.R_alloc | apply Kd.R_drewN | apply Kd.R_drew)); exact (Kd.R_mono (Kd.R_far (p := ⟨gb305, 3, none⟩) (Kd.R_far (p := ⟨gb305, 2, none⟩) (Kd.R_far (p := ⟨gb305, 1, none⟩) (Kd.R_far (p := ⟨gb305, 0, none⟩) (Kd.R_types HO304.out BK305.out (by decide)) (fun _ hk => hk.2) (.int .i64 t297)) (fun _ hk => hk.2) (.int .i64 t298)) (fun _ hk => hk.2) (.slice Ao13 t299.length co13)) (fun _ hk => hk.2) (.slice Ao14 t302.length co14)) (fun _ h_ => h_.1))) hb); have n2_ := Aside0.mk (blk_below (g := gb295) (o := .cells #[.int .i64 a2_0, .int .i64 a2_1] 43 (0, 0)) (by (with_reducible repeat (first | refine zbN ?_ _ | refine zbD ?_ | refine zbA ?_ _)); refine blk_far ?_ NB295_305.out _; (with_reducible repeat (first | refine zbN ?_ _ | refine zbD ?_ | refine zbA ?_ _)); refine blk_far ?_ NB295_305.out _; (with_reducible repeat (first | refine zbN ?_ _ | refine zbD ?_ | refine zbA ?_ _)); refine blk_far ?_ NB295_305.out _; (with_reducible repeat (first | refine zbN ?_ _ | refine zbD ?_ | refine zbA ?_ _)); refine blk_far ?_ NB295_305.out _; (with_reducible repeat (first | refine zbN ?_ _ | refine zbD ?_ | refine zbA ?_ _)); exact BK295.out) hb); have n3_ := Aside0.mk (blk_below (g := gb296) (o := .cells #[.int .i64 0, .int .i64 0, .slice none 0 0, .slice none 0 0] 26 (0, 0)) (by (with_reducible repeat (first | refine zbN ?_ _ | refine zbD ?_ | refine zbA ?_ _)); refine blk_far ?_ NB296_305.out _; (with_reducible repeat (first | refine zbN ?_ _ | refine zbD ?_ | refine zbA ?_ _)); refine blk_far ?_ NB296_305.out _; (with_reducible repeat (first | refine zbN ?_ _ | refine zbD ?_ | refine zbA ?_ _)); refine blk_far ?_ NB296_305.out _; (with_reducible repeat (first | refine zbN ?_ _ | refine zbD ?_ | refine zbA ?_ _)); refine blk_far ?_ NB296_305.out _; (with_reducible repeat (first | refine zbN ?_ _ | refine zbD ?_ | refine zbA ?_ _)); exact BK296.out) hb); have n4_ := Aside0.mk (blk_below (g := gb305) (o := .cells #[.int .i64 t297, .int .i64 t298, .slice Ao13 t299.length co13, .slice Ao14 t302.length co14] 26 (0, 0)) (by (with_reducible repeat (first | refine zbN ?_ _ | refine zbD ?_ | refine zbA ?_ _)); refine blk_put (cs := #[.int .i64 t297, .int .i64 t298, .slice Ao13 t299.length co13, .slice none 0 0]) ?_ 3 _ rfl; (with_reducible repeat (first | refine zbN ?_ _ | refine zbD ?_ | refine zbA ?_ _)); refine blk_put (cs := #[.int .i64 t297, .int .i64 t298, .slice none 0 0, .slice none 0 0]) ?_ 2 _ rfl; (with_reducible repeat (first | refine zbN ?_ _ | refine zbD ?_ | refine zbA ?_ _)); refine blk_put (cs := #[.int .i64 t297, .int .i64 0, .slice none 0 0, .slice none 0 0]) ?_ 1 _ rfl; (with_reducible repeat (first | refine zbN ?_ _ | refine zbD ?_ | refine zbA ?_ _)); refine blk_put (cs := #[.int .i64 0, .int .i64 0, .slice none 0 0, .slice none 0 0]) ?_ 0 _ rfl; (with_reducible repeat (first | refine zbN ?_ _ | refine zbD ?_ | refine zbA ?_ _)); exact BK305.out) hb); have n5_ := Aside0.mk (below_step (by repeat (first | (with_reducible first | exact HB.out | apply zA | apply zN | apply zD | refine zS ?_ GE295.out | refine zS ?_ GE296.out | refine zS ?_ GE305.out) | exact HB.out)) hb); have n6_ := Aside0.mk (hbox); have n7_ := Aside0.mk ((by rw [hg]; exact (below_size (by repeat (first | (with_reducible first | exact HB.out | apply zA | apply zN | apply zD | refine zS ?_ GE295.out | refine zS ?_ GE296.out | refine zS ?_ GE305.out) | exact HB.out))) : w.heap.size ≤ gb306)); have n8_ := Aside0.mk ((by rw [hg]; exact (below_size (by repeat (first | (with_reducible first | exact HB.out | apply zA | apply zN | apply zD | refine zS ?_ GE295.out | refine zS ?_ GE296.out | refine zS ?_ GE305.out) | exact HB.out))) : w.heap.size ≤ gb306)); have n9_ := Aside0.mk ((by rw [hg]; exact Nat.ne_of_lt (blk_lt (g := gb295) (o := .cells #[.int .i64 a2_0, .int .i64 a2_1] 43 (0, 0)) (by (with_reducible repeat (first | refine zbN ?_ _ | refine zbD ?_ | refine zbA ?_ _)); refine blk_far ?_ NB295_305.out _; (with_reducible repeat (first | refine zbN ?_ _ | refine zbD ?_ | refine zbA ?_ _)); refine blk_far ?_ NB295_305.out _; (with_reducible repeat (first | refine zbN ?_ _ | refine zbD ?_ | refine zbA ?_ _)); refine blk_far ?_ NB295_305.out _; (with_reducible repeat (first | refine zbN ?_ _ | refine zbD ?_ | refine zbA ?_ _)); refine blk_far ?_ NB295_305.out _; (with_reducible repeat (first | refine zbN ?_ _ | refine zbD ?_ | refine zbA ?_ _)); exact BK295.out)) : gb295 ≠ gb306)); have n10_ := Aside0.mk ((by rw [hg]; exact Nat.ne_of_gt (blk_lt (g := gb295) (o := .cells #[.int .i64 a2_0, .int .i64 a2_1] 43 (0, 0)) (by (with_reducible repeat (first | refine zbN ?_ _ | refine zbD ?_ | refine zbA ?_ _)); refine blk_far ?_ NB295_305.out _; (with_reducible repeat (first | refine zbN ?_ _ | refine zbD ?_ | refine zbA ?_ _)); refine blk_far ?_ NB295_305.out _; (with_reducible repeat (first | refine zbN ?_ _ | refine zbD ?_ | refine zbA ?_ _)); refine blk_far ?_ NB295_305.out _; (with_reducible repeat (first | refine zbN ?_ _ | refine zbD ?_ | refine zbA ?_ _)); refine blk_far ?_ NB295_305.out _; (with_reducible repeat (first | refine zbN ?_ _ | refine zbD ?_ | refine zbA ?_ _)); exact BK295.out)) : gb306 ≠ gb295)); have n11_ := Aside0.mk ((by rw [hg]; exact Nat.ne_of_lt (blk_lt (g := gb296) (o := .cells #[.int .i64 0, .int .i64 0, .slice none 0 0, .slice none 0 0] 26 (0, 0)) (by (with_reducible repeat (first | refine zbN ?_ _ | refine zbD ?_ | refine zbA ?_ _)); refine blk_far ?_ NB296_305.out _; (with_reducible repeat (first | refine zbN ?_ _ | refine zbD ?_ | refine zbA ?_ _)); refine blk_far ?_ NB296_305.out _; (with_reducible repeat (first | refine zbN ?_ _ | refine zbD ?_ | refine zbA ?_ _)); refine blk_far ?_ NB296_305.out _; (with_reducible repeat (first | refine zbN ?_ _ | refine zbD ?_ | refine zbA ?_ _)); refine blk_far ?_ NB296_305.out _; (with_reducible repeat (first | refine zbN ?_ _ | refine zbD ?_ | refine zbA ?_ _)); exact BK296.out)) : gb296 ≠ gb306)); have n12_ := Aside0.mk ((by rw [hg]; exact Nat.ne_of_gt (blk_lt (g := gb296) (o := .cells #[.int .i64 0, .int .i64 0, .slice none 0 0, .slice none 0 0] 26 (0, 0)) (by (with_reducible repeat (first | refine zbN ?_ _ | refine zbD ?_ | refine zbA ?_ _)); refine blk_far ?_ NB296_305.out _; (with_reducible repeat (first | refine zbN ?_ _ | refine zbD ?_ | refine zbA ?_ _)); refine blk_far ?_ NB296_305.out _; (with_reducible repeat (first | refine zbN ?_ _ | refine zbD ?_ | refine zbA ?_ _)); refine blk_far ?_ NB296_305.out _; (with_reducible repeat (first | refine zbN ?_ _ | refine zbD ?_ | refine zbA ?_ _)); refine blk_far ?_ NB296_305.out _; (with_reducible repeat (first | refine zbN ?_ _ | refine zbD ?_ | refine zbA ?_ _)); exact BK296.out)) : gb306 ≠ gb296)); have n13_ := Aside0.mk ((by rw [hg]; exact Nat.ne_of_lt (blk_lt (g := gb305) (o := .cells #[.int .i64 t297, .int .i64 t298, .slice Ao13 t299.length co13, .slice Ao14 t302.length co14] 26 (0, 0)) (by (with_reducible repeat (first | refine zbN ?_ _ | refine zbD ?_ | refine zbA ?_ _)); refine blk_put (cs := #[.int .i64 t297, .int .i64 t298, .slice Ao13 t299.length co13, .slice none 0 0]) ?_ 3 _ rfl; (with_reducible repeat (first | refine zbN ?_ _ | refine zbD ?_ | refine zbA ?_ _)); refine blk_put (cs := #[.int .i64 t297, .int .i64 t298, .slice none 0 0, .slice none 0 0]) ?_ 2 _ rfl; (with_reducible repeat (first | refine zbN ?_ _ | refine zbD ?_ | refine zbA ?_ _)); refine blk_put (cs := #[.int .i64 t297, .int .i64 0, .slice none 0 0, .slice none 0 0]) ?_ 1 _ rfl; (with_reducible repeat (first | refine zbN ?_ _ | refine zbD ?_ | refine zbA ?_ _)); refine blk_put (cs := #[.int .i64 0, .int .i64 0, .slice none 0 0, .slice none 0 0]) ?_ 0 _ rfl; (with_reducible repeat (first | refine zbN ?_ _ | refine zbD ?_ | refine zbA ?_ _)); exact BK305.out)) : gb305 ≠ gb306)); have n14_ := Aside0.mk ((by rw [hg]; exact Nat.ne_of_gt (blk_lt (g := gb305) (o := .cells #[.int .i64 t297, .int .i64 t298, .slice Ao13 t299.length co13, .slice Ao14 t302.length co14] 26 (0, 0)) (by (with_reducible repeat (first | refine zbN ?_ _ | refine zbD ?_ | refine zbA ?_ _)); refine blk_put (cs := #[.int .i64 t297, .int .i64 t298, .slice Ao13 t299.length co13, .slice none 0 0]) ?_ 3 _ rfl; (with_reducible repeat (first | refine zbN ?_ _ | refine zbD ?_ | refine zbA ?_ _)); refine blk_put (cs := #[.int .i64 t297, .int .i64 t298, .slice none 0 0, .slice none 0 0]) ?_ 2 _ rfl; (with_reducible repeat (first | refine zbN ?_ _ | refine zbD ?_ | refine zbA ?_ _)); refine blk_put (cs := #[.int .i64 t297, .int .i64 0, .slice none 0 0, .slice none 0 0]) ?_ 1 _ rfl; (with_reducible repeat (first | refine zbN ?_ _ | refine zbD ?_ | refine zbA ?_ _)); refine blk_put (cs := #[.int .i64 0, .int .i64 0, .slice none 0 0, .slice none 0 0]) ?_ 0 _ rfl; (with_reducible repeat (first | refine zbN ?_ _ | refine zbD ?_ | refine zbA ?_ _)); exact BK305.out)) : gb306 ≠ gb305)); clear HO301; clear HO304; clear BK295; clear BK296; clear BK305; clear HB; have HO301 := n0_; have HO304 := n1_; have BK295 := n2_; have BK296 := n3_; have BK305 := n4_; have HB := n5_; have BK306 := n6_; have GW306 := n7_; have GE306 := n8_; have NB295_306 := n9_; have NB306_295 := n10_; have NB296_306 := n11_; have NB306_296 := n12_; have NB305_306 := n13_; have NB306_305 := n14_; clear n0_ n1_ n2_ n3_ n4_ n5_ n6_ n7_ n8_ n9_ n10_ n11_ n12_ n13_ n14_; clear hb hbox hg; have hnb16 := NB306_295.out; have hnc16 := NB295_306.out; have hnb17 := NB306_296.out; have hnc17 := NB296_306.out; have hnb18 := NB306_305.out; have hnc18 := NB305_306.out; have hcz19_0 : w15.cell? ⟨gb306, 0, none⟩ = some (.int .i64 0) := (zbC BK306.out 0).trans rfl; have hcz19_1 : w15.cell? ⟨gb306, 1, none⟩ = some (.int .i64 0) := (zbC BK306.out 1).trans rfl; have hcz19_2 : w15.cell? ⟨gb306, 2, none⟩ = some (.slice none 0 0) := (zbC BK306.out 2).trans rfl; have hcz19_3 : w15.cell? ⟨gb306, 3, none⟩ = some (.slice none 0 0) := (zbC BK306.out 3).trans rfl; have hfz19_0 := zbF BK306.out 0; have hfz19_1 := zbF BK306.out 1; have hfz19_2 := zbF BK306.out 2; have hfz19_3 := zbF BK306.out 3))
 go_loopg [12] k (fun kq v12 w' => ∃ (x12_1 : Int) (x296000_1 : Int) (x296001_1 : Int) (x297000_1 : Int) (x297001_1 : Int) (x307000_1 : Int) (x307001_1 : Int) (x307002_1 : List Int) (x307003_1 : List Int) (u307002 : Value) (u307003 : Value), v12 = .int .i64 x12_1 ∧ Aside0 (spec_liDraw.l0 kq a3 x12_1 x296000_1 x296001_1 t297 t298 t299 t302 x307000_1 x307001_1 x307002_1 x307003_1 = some (r1, r2, r3, r4, r5)) ∧ Aside0 (kq ≤ k) ∧ Aside0 (Kd.R (Kd.int .i64) 3 w' w.heap.size (fun k_ => some k_ ≠ ((.slice Ao14 t302.length co14) : Value).ownBlock ∧ some k_ ≠ (u307002 : Value).ownBlock ∧ some k_ ≠ (u307003 : Value).ownBlock) (.slice Ao13 t299.length co13) t299) ∧ Aside0 (Kd.R (Kd.int .i64) 3 w' w.heap.size (fun k_ => some k_ ≠ ((.slice Ao13 t299.length co13) : Value).ownBlock ∧ some k_ ≠ (u307002 : Value).ownBlock ∧ some k_ ≠ (u307003 : Value).ownBlock) (.slice Ao14 t302.length co14) t302) ∧ Aside0 (Kd.R (Kd.int .i64) 3 w' w.heap.size (fun k_ => some k_ ≠ ((.slice Ao13 t299.length co13) : Value).ownBlock ∧ some k_ ≠ ((.slice Ao14 t302.length co14) : Value).ownBlock ∧ some k_ ≠ (u307003 : Value).ownBlock) u307002 x307002_1) ∧ Aside0 (Kd.R (Kd.int .i64) 3 w' w.heap.size (fun k_ => some k_ ≠ ((.slice Ao13 t299.length co13) : Value).ownBlock ∧ some k_ ≠ ((.slice Ao14 t302.length co14) : Value).ownBlock ∧ some k_ ≠ (u307002 : Value).ownBlock) u307003 x307003_1) ∧ Aside0 (w'.heap[gb295]? = some (.cells #[.int .i64 x296000_1, .int .i64 x296001_1] 43 (0, 0))) ∧ Aside0 (w'.heap[gb296]? = some (.cells #[.int .i64 x297000_1, .int .i64 x297001_1, (.slice none 0 0), (.slice none 0 0)] 26 (0, 0))) ∧ Aside0 (w'.heap[gb305]? = some (.cells #[.int .i64 t297, .int .i64 t298, (.slice Ao13 t299.length co13), (.slice Ao14 t302.length co14)] 26 (0, 0))) ∧ Aside0 (w'.heap[gb306]? = some (.cells #[.int .i64 x307000_1, .int .i64 x307001_1, u307002, u307003] 26 (0, 0))) ∧ Aside0 (Below w.heap.size w w'))
 case atStart => exact ⟨(0), (a2_0), (a2_1), (0), (0), (a0), (a1), (([] : List Int)), (([] : List Int)), (.slice none 0 0), (.slice none 0 0), (by first | rfl | (simp; done) | (simp [*]; done)), H', ⟨Nat.le_refl _⟩, ⟨by (with_reducible repeat (first | apply Kd.R_alloc | apply Kd.R_drewN | apply Kd.R_drew)); exact Kd.R_mono (Kd.R_far (p := ⟨gb306, 3, none⟩) (Kd.R_far (p := ⟨gb306, 2, none⟩) (Kd.R_far (p := ⟨gb306, 1, none⟩) (Kd.R_far (p := ⟨gb306, 0, none⟩) (Kd.R_types HO301.out BK306.out (by decide)) (fun _ hk => hk.2) (.int .i64 a0)) (fun _ hk => hk.2) (.int .i64 a1)) (fun _ hk => hk.2) (.slice none 0 0)) (fun _ hk => hk.2) (.slice none 0 0)) (fun _ hk => ⟨hk.1, ⟨(by simp [Value.ownBlock]), (by simp [Value.ownBlock])⟩⟩)⟩, ⟨by (with_reducible repeat (first | apply Kd.R_alloc | apply Kd.R_drewN | apply Kd.R_drew)); exact Kd.R_mono (Kd.R_far (p := ⟨gb306, 3, none⟩) (Kd.R_far (p := ⟨gb306, 2, none⟩) (Kd.R_far (p := ⟨gb306, 1, none⟩) (Kd.R_far (p := ⟨gb306, 0, none⟩) (Kd.R_types HO304.out BK306.out (by decide)) (fun _ hk => hk.2) (.int .i64 a0)) (fun _ hk => hk.2) (.int .i64 a1)) (fun _ hk => hk.2) (.slice none 0 0)) (fun _ hk => hk.2) (.slice none 0 0)) (fun _ hk => ⟨hk.1, ⟨(by simp [Value.ownBlock]), (by simp [Value.ownBlock])⟩⟩)⟩, ⟨by first | exact Kd.R_nil _ _ _ _ _ | exact Kd.N_nil _ _ _ _ _ | exact Kd.V_nil _ _ _ _ _ | exact Kd.Q_nil _ _ _ _ _ | exact Kd.S_nil _ _ _ _ _⟩, ⟨by first | exact Kd.R_nil _ _ _ _ _ | exact Kd.N_nil _ _ _ _ _ | exact Kd.V_nil _ _ _ _ _ | exact Kd.Q_nil _ _ _ _ _ | exact Kd.S_nil _ _ _ _ _⟩, ⟨by (with_reducible repeat (first | refine zbN ?_ _ | refine zbD ?_ | refine zbA ?_ _)); refine blk_far ?_ NB295_306.out _; (with_reducible repeat (first | refine zbN ?_ _ | refine zbD ?_ | refine zbA ?_ _)); refine blk_far ?_ NB295_306.out _; (with_reducible repeat (first | refine zbN ?_ _ | refine zbD ?_ | refine zbA ?_ _)); refine blk_far ?_ NB295_306.out _; (with_reducible repeat (first | refine zbN ?_ _ | refine zbD ?_ | refine zbA ?_ _)); refine blk_far ?_ NB295_306.out _; (with_reducible repeat (first | refine zbN ?_ _ | refine zbD ?_ | refine zbA ?_ _)); exact BK295.out⟩, ⟨by (with_reducible repeat (first | refine zbN ?_ _ | refine zbD ?_ | refine zbA ?_ _)); refine blk_far ?_ NB296_306.out _; (with_reducible repeat (first | refine zbN ?_ _ | refine zbD ?_ | refine zbA ?_ _)); refine blk_far ?_ NB296_306.out _; (with_reducible repeat (first | refine zbN ?_ _ | refine zbD ?_ | refine zbA ?_ _)); refine blk_far ?_ NB296_306.out _; (with_reducible repeat (first | refine zbN ?_ _ | refine zbD ?_ | refine zbA ?_ _)); refine blk_far ?_ NB296_306.out _; (with_reducible repeat (first | refine zbN ?_ _ | refine zbD ?_ | refine zbA ?_ _)); exact BK296.out⟩, ⟨by (with_reducible repeat (first | refine zbN ?_ _ | refine zbD ?_ | refine zbA ?_ _)); refine blk_far ?_ NB305_306.out _; (with_reducible repeat (first | refine zbN ?_ _ | refine zbD ?_ | refine zbA ?_ _)); refine blk_far ?_ NB305_306.out _; (with_reducible repeat (first | refine zbN ?_ _ | refine zbD ?_ | refine zbA ?_ _)); refine blk_far ?_ NB305_306.out _; (with_reducible repeat (first | refine zbN ?_ _ | refine zbD ?_ | refine zbA ?_ _)); refine blk_far ?_ NB305_306.out _; (with_reducible repeat (first | refine zbN ?_ _ | refine zbD ?_ | refine zbA ?_ _)); exact BK305.out⟩, ⟨by (with_reducible repeat (first | refine zbN ?_ _ | refine zbD ?_ | refine zbA ?_ _)); refine blk_put (cs := #[.int .i64 a0, .int .i64 a1, .slice none 0 0, .slice none 0 0]) ?_ 3 _ rfl; (with_reducible repeat (first | refine zbN ?_ _ | refine zbD ?_ | refine zbA ?_ _)); refine blk_put (cs := #[.int .i64 a0, .int .i64 a1, .slice none 0 0, .slice none 0 0]) ?_ 2 _ rfl; (with_reducible repeat (first | refine zbN ?_ _ | refine zbD ?_ | refine zbA ?_ _)); refine blk_put (cs := #[.int .i64 a0, .int .i64 0, .slice none 0 0, .slice none 0 0]) ?_ 1 _ rfl; (with_reducible repeat (first | refine zbN ?_ _ | refine zbD ?_ | refine zbA ?_ _)); refine blk_put (cs := #[.int .i64 0, .int .i64 0, .slice none 0 0, .slice none 0 0]) ?_ 0 _ rfl; (with_reducible repeat (first | refine zbN ?_ _ | refine zbD ?_ | refine zbA ?_ _)); exact BK306.out⟩, ⟨by repeat (first | (with_reducible first | exact HB.out | apply zA | apply zN | apply zD | refine zS ?_ GE295.out | refine zS ?_ GE296.out | refine zS ?_ GE305.out | refine zS ?_ GE306.out) | exact HB.out)⟩⟩
 case round =>
  clear H'
  try clear c1
  try clear p2
  try clear c6
  try clear c10
  try clear c11
  try clear c16
  try clear c17
  try clear c18
  try clear hcz12_0
  try clear hcz12_1
  try clear hcz12_2
  try clear hcz12_3
  try clear hcz19_0
  try clear hcz19_1
  try clear hcz19_2
  try clear hcz19_3
  try clear hfz12_0
  try clear hfz12_1
  try clear hfz12_2
  try clear hfz12_3
  try clear hfz19_0
  try clear hfz19_1
  try clear hfz19_2
  try clear hfz19_3
  obtain ⟨x12_1, x296000_1, x296001_1, x297000_1, x297001_1, x307000_1, x307001_1, x307002_1, x307003_1, u307002, u307003, rfl, HA, HK1, HO_306002, HO_306003, HO_307002, HO_307003, BK295, BK296, BK305, BK306, HB⟩ := hrel
  cases gk with
  | zero => exact absurd HA.out (by simp [spec_liDraw.l0])
  | succ k1 =>
   have H := HA.out
   clear HA
   simp only [spec_liDraw.l0] at H
   by_cases c20 : x12_1 < (a3.size : Int)
   ·rw [if_pos c20] at H
    have c20b0 : decide (x12_1 < (a3.size : Int)) = true := decide_eq_true c20
    clear c20
    have H' := Aside0.mk H
    clear H
    go_wp2
    go_loopg [13, 14] k1 (fun kq v13 v14 w' => ∃ (x13_2 : Int) (x14_2 : Int), v13 = .int .i64 x13_2 ∧ v14 = .int .i64 x14_2 ∧ Aside0 (spec_liDraw.l1 kq a3 x12_1 x13_2 x14_2 x296000_1 x296001_1 t297 t298 t299 t302 x307000_1 x307001_1 x307002_1 x307003_1 = some (r1, r2, r3, r4, r5)) ∧ Aside0 (kq ≤ k1) ∧ Aside0 (Kd.R (Kd.int .i64) 3 w' w.heap.size (fun k_ => some k_ ≠ ((.slice Ao14 t302.length co14) : Value).ownBlock ∧ some k_ ≠ (u307002 : Value).ownBlock ∧ some k_ ≠ (u307003 : Value).ownBlock) (.slice Ao13 t299.length co13) t299) ∧ Aside0 (Kd.R (Kd.int .i64) 3 w' w.heap.size (fun k_ => some k_ ≠ ((.slice Ao13 t299.length co13) : Value).ownBlock ∧ some k_ ≠ (u307002 : Value).ownBlock ∧ some k_ ≠ (u307003 : Value).ownBlock) (.slice Ao14 t302.length co14) t302) ∧ Aside0 (Kd.R (Kd.int .i64) 3 w' w.heap.size (fun k_ => some k_ ≠ ((.slice Ao13 t299.length co13) : Value).ownBlock ∧ some k_ ≠ ((.slice Ao14 t302.length co14) : Value).ownBlock ∧ some k_ ≠ (u307003 : Value).ownBlock) u307002 x307002_1) ∧ Aside0 (Kd.R (Kd.int .i64) 3 w' w.heap.size (fun k_ => some k_ ≠ ((.slice Ao13 t299.length co13) : Value).ownBlock ∧ some k_ ≠ ((.slice Ao14 t302.length co14) : Value).ownBlock ∧ some k_ ≠ (u307002 : Value).ownBlock) u307003 x307003_1) ∧ Aside0 (w'.heap[gb295]? = some (.cells #[.int .i64 x296000_1, .int .i64 x296001_1] 43 (0, 0))) ∧ Aside0 (w'.heap[gb296]? = some (.cells #[.int .i64 x297000_1, .int .i64 x297001_1, (.slice none 0 0), (.slice none 0 0)] 26 (0, 0))) ∧ Aside0 (w'.heap[gb305]? = some (.cells #[.int .i64 t297, .int .i64 t298, (.slice Ao13 t299.length co13), (.slice Ao14 t302.length co14)] 26 (0, 0))) ∧ Aside0 (w'.heap[gb306]? = some (.cells #[.int .i64 x307000_1, .int .i64 x307001_1, u307002, u307003] 26 (0, 0))) ∧ Aside0 (Below w.heap.size w w'))
    case atStart => exact ⟨((-1)), (0), (by first | rfl | (simp; done) | (simp [*]; done)), (by first | rfl | (simp; done) | (simp [*]; done)), H', ⟨Nat.le_refl _⟩, ⟨by (with_reducible repeat (first | apply Kd.R_alloc | apply Kd.R_drewN | apply Kd.R_drew)); exact HO_306002.out⟩, ⟨by (with_reducible repeat (first | apply Kd.R_alloc | apply Kd.R_drewN | apply Kd.R_drew)); exact HO_306003.out⟩, ⟨by (with_reducible repeat (first | apply Kd.R_alloc | apply Kd.R_drewN | apply Kd.R_drew)); exact HO_307002.out⟩, ⟨by (with_reducible repeat (first | apply Kd.R_alloc | apply Kd.R_drewN | apply Kd.R_drew)); exact HO_307003.out⟩, ⟨by (with_reducible repeat (first | refine zbN ?_ _ | refine zbD ?_ | refine zbA ?_ _)); exact BK295.out⟩, ⟨by (with_reducible repeat (first | refine zbN ?_ _ | refine zbD ?_ | refine zbA ?_ _)); exact BK296.out⟩, ⟨by (with_reducible repeat (first | refine zbN ?_ _ | refine zbD ?_ | refine zbA ?_ _)); exact BK305.out⟩, ⟨by (with_reducible repeat (first | refine zbN ?_ _ | refine zbD ?_ | refine zbA ?_ _)); exact BK306.out⟩, ⟨by repeat (first | (with_reducible first | exact HB.out | apply zA | apply zN | apply zD | refine zS ?_ GE295.out | refine zS ?_ GE296.out | refine zS ?_ GE305.out | refine zS ?_ GE306.out) | exact HB.out)⟩⟩
    case round =>
     clear H'
     try clear c1
     try clear c2
     try clear p2
     try clear c6
     try clear c10
     try clear c11
     try clear c16
     try clear c17
     try clear c18
     try clear c20
     try clear c20b0
     try clear hcz12_0
     try clear hcz12_1
     try clear hcz12_2
     try clear hcz12_3
     try clear hcz19_0
     try clear hcz19_1
     try clear hcz19_2
     try clear hcz19_3
     try clear hfz12_0
     try clear hfz12_1
     try clear hfz12_2
     try clear hfz12_3
     try clear hfz19_0
     try clear hfz19_1
     try clear hfz19_2
     try clear hfz19_3
     try clear p2
     obtain ⟨x13_2, x14_2, rfl, rfl, HA, HK2, HO_306002, HO_306003, HO_307002, HO_307003, BK295, BK296, BK305, BK306, HB⟩ := hrel
     cases gk with
     | zero => exact absurd HA.out (by simp [spec_liDraw.l1])
     | succ k2 =>
      have H := HA.out
      clear HA
      simp only [spec_liDraw.l1] at H
      by_cases c21 : x14_2 < 4
      ·rw [if_pos c21] at H
       have c21b0 : decide (x14_2 < 4) = true := decide_eq_true c21
       clear c21
       by_cases c22 : 0 ≤ x12_1
       ·rw [if_pos c22] at H
        have c22b0 : decide (0 ≤ x12_1) = true := decide_eq_true c22
        clear c22
        by_cases c23 : x12_1 < (a3.size : Int)
        ·rw [if_pos c23] at H
         have c23b0 : decide (x12_1 < (a3.size : Int)) = true := decide_eq_true c23
         clear c23
         replace H := Option.bind_eq_some_iff.mp H
         obtain ⟨t307, A250, H⟩ := H
         replace H : (if 0 ≤ x14_2 then (if x14_2 < (t307.size : Int) then (if (bt a3 x12_1) = (bt t307 x14_2) then (spec_liDraw.l1 k2 a3 x12_1 x14_2 (wrap64 (x14_2 + 1)) x296000_1 x296001_1 t297 t298 t299 t302 x307000_1 x307001_1 x307002_1 x307003_1) else (spec_liDraw.l1 k2 a3 x12_1 x13_2 (wrap64 (x14_2 + 1)) x296000_1 x296001_1 t297 t298 t299 t302 x307000_1 x307001_1 x307002_1 x307003_1)) else (none)) else (none)) = some (r1, r2, r3, r4, r5) := H
         have A25 := Aside0.mk A250
         clear A250
         by_cases c26 : 0 ≤ x14_2
         ·rw [if_pos c26] at H
          have c26b0 : decide (0 ≤ x14_2) = true := decide_eq_true c26
          clear c26
          by_cases c27 : x14_2 < (t307.size : Int)
          ·rw [if_pos c27] at H
           have c27b0 : decide (x14_2 < (t307.size : Int)) = true := decide_eq_true c27
           clear c27
           by_cases c29 : (bt a3 x12_1) = (bt t307 x14_2)
           ·rw [if_pos c29] at H
            have c29b0 : ((bt a3 x12_1) == (bt t307 x14_2)) = true := beq_iff_eq.mpr c29
            have c29b1 : ((bt a3 x12_1) != (bt t307 x14_2)) = false := bne_eq_false_iff_eq.mpr c29
            clear c29
            have H' := Aside0.mk H
            clear H
            try go_wp2
            have n0_ := Aside0.mk (Kd.R_drew HO_306002.out)
            have n1_ := Aside0.mk (Kd.R_drew HO_306003.out)
            have n2_ := Aside0.mk (Kd.R_drew HO_307002.out)
            have n3_ := Aside0.mk (Kd.R_drew HO_307003.out)
            have n4_ := Aside0.mk (zbD BK295.out)
            have n5_ := Aside0.mk (zbD BK296.out)
            have n6_ := Aside0.mk (zbD BK305.out)
            have n7_ := Aside0.mk (zbD BK306.out)
            have n8_ := Aside0.mk (zD HB.out)
            clear HO_306002
            clear HO_306003
            clear HO_307002
            clear HO_307003
            clear BK295
            clear BK296
            clear BK305
            clear BK306
            clear HB
            have HO_306002 := n0_
            have HO_306003 := n1_
            have HO_307002 := n2_
            have HO_307003 := n3_
            have BK295 := n4_
            have BK296 := n5_
            have BK305 := n6_
            have BK306 := n7_
            have HB := n8_
            clear n0_ n1_ n2_ n3_ n4_ n5_ n6_ n7_ n8_
            have p24 : 0 ≤ (x12_1 : Int) := of_decide_eq_true (by first | (with_reducible assumption) | assumption)
            have q24 : x12_1 < (a3.size : Int) := of_decide_eq_true (by first | (with_reducible assumption) | assumption)
            have hx24 := bt_at a3 x12_1
            replace p24 := eq_true p24
            replace q24 := eq_true q24
            refine start_ (n := 7) (S := fun w' => True) (ds := []) #[false, false, false, false, false, false, false] (by kernel_rfl) rfl rfl trivial (fun hHeld => ?_)
            generalize wr.drew = w30 at HO_306002 HO_306003 HO_307002 HO_307003 BK295 BK296 BK305 BK306 HB hHeld ⊢
            refine pure_ (i := 0) (N := some 35) (v := ?_) (a' := ?_) #[true, false, false, false, false, false, false] rfl rfl (by kernel_rfl) (fun _ _ _ h => h) (Or.inl ⟨by rfl, ?_⟩) ?_ ?_
            rotate_left
            ·intro w'
             go_simp
             with_reducible rfl
            rotate_left
            ·simp only [Act.put, List.setIfInBounds_toArray, List.set_cons_zero, List.set_cons_succ, i64_w, i32_w]
             rfl
            refine pure_ (i := 1) (N := some 36) (v := ?_) (a' := ?_) #[true, true, false, false, false, false, false] rfl rfl (by kernel_rfl) (fun _ _ _ h => h) (Or.inl ⟨by rfl, ?_⟩) ?_ ?_
            rotate_left
            ·intro w'
             go_simp
             with_reducible rfl
            rotate_left
            ·simp only [Act.put, List.setIfInBounds_toArray, List.set_cons_zero, List.set_cons_succ, i64_w, i32_w]
             rfl
            refine pure_ (i := 4) (N := some 39) (v := ?_) (a' := ?_) #[true, true, false, false, true, false, false] rfl rfl (by kernel_rfl) (fun _ _ _ h => h) (Or.inl ⟨by rfl, ?_⟩) ?_ ?_
            rotate_left
            ·intro w'
             go_simp
             with_reducible rfl
            rotate_left
            ·simp only [Act.put, List.setIfInBounds_toArray, List.set_cons_zero, List.set_cons_succ, i64_w, i32_w]
             rfl
            refine take_ (i := 2) (N := some 37) (v := ?_) (a' := ?_) #[true, true, true, false, true, false, false] rfl rfl (by kernel_rfl) (fun _ _ _ h => h) (Or.inl ⟨by rfl, ?_⟩) hHeld ?_ ?_
            rotate_left
            ·intro w' _
             go_simp
             with_reducible rfl
            rotate_left
            ·simp only [Act.put, List.setIfInBounds_toArray, List.set_cons_zero, List.set_cons_succ, i64_w, i32_w]
             rfl
            refine one_ (i := 3) (N := some 38) #[true, true, true, true, true, false, false] rfl rfl (by kernel_rfl) (by decide) (fun K hK => ?_)
            refine goes_ Tryd.func81 (by kernel_rfl) rfl #[] (by rfl) rfl rfl (by (try simp only [List.map_toArray, List.map_cons, List.map_nil]); first | done | rfl | (simp only [List.length_drop, List.length_take]; rfl)) ?_
            with_reducible refine (spec_liDirs.calls  t307 _ A25.out).mono ?_
            rintro e w' ⟨rfl, ⟨nd, rfl⟩⟩
            refine ⟨_, rfl, ?_⟩
            have p28 : 0 ≤ (x14_2 : Int) := of_decide_eq_true (by first | (with_reducible assumption) | assumption)
            have q28 : x14_2 < (t307.size : Int) := of_decide_eq_true (by first | (with_reducible assumption) | assumption)
            have hx28 := bt_at t307 x14_2
            replace p28 := eq_true p28
            replace q28 := eq_true q28
            refine hK.out _ _ trivial (fun hHeld => ?_)
            clear hK K
            refine norm_ (a' := ?_) ?_ ?_
            rotate_left
            ·show Act.put _ (some 38) _ = _
             simp only [Act.put, List.setIfInBounds_toArray, List.set_cons_zero, List.set_cons_succ, i64_w, i32_w]
             rfl
            refine take_ (i := 5) (N := some 40) (v := ?_) (a' := ?_) #[true, true, true, true, true, true, false] rfl rfl (by kernel_rfl) (fun _ _ _ h => h) (Or.inl ⟨by rfl, ?_⟩) hHeld ?_ ?_
            rotate_left
            ·intro w' _
             go_simp
             with_reducible rfl
            rotate_left
            ·simp only [Act.put, List.setIfInBounds_toArray, List.set_cons_zero, List.set_cons_succ, i64_w, i32_w]
             rfl
            refine pure_ (i := 6) (N := some 41) (v := ?_) (a' := ?_) #[true, true, true, true, true, true, true] rfl rfl (by kernel_rfl) (fun _ _ _ h => h) (Or.inl ⟨by rfl, ?_⟩) ?_ ?_
            rotate_left
            ·intro w'
             go_simp
             with_reducible rfl
            rotate_left
            ·simp only [Act.put, List.setIfInBounds_toArray, List.set_cons_zero, List.set_cons_succ, i64_w, i32_w]
             rfl
            refine done_ (by kernel_rfl) ?_
            try go_wp2
            go_roundg k2
            case measure => have := HK1.out; have := HK2.out; omega
            case rel => exact ⟨(x14_2), (wrap64 (x14_2 + 1)), (by first | rfl | (simp; done) | (simp [*]; done)), (by first | rfl | (simp; done) | (simp [*]; done)), H', ⟨by have := HK1.out; have := HK2.out; omega⟩, ⟨by (with_reducible repeat (first | apply Kd.R_alloc | apply Kd.R_drewN | apply Kd.R_drew)); exact HO_306002.out⟩, ⟨by (with_reducible repeat (first | apply Kd.R_alloc | apply Kd.R_drewN | apply Kd.R_drew)); exact HO_306003.out⟩, ⟨by (with_reducible repeat (first | apply Kd.R_alloc | apply Kd.R_drewN | apply Kd.R_drew)); exact HO_307002.out⟩, ⟨by (with_reducible repeat (first | apply Kd.R_alloc | apply Kd.R_drewN | apply Kd.R_drew)); exact HO_307003.out⟩, ⟨by (with_reducible repeat (first | refine zbN ?_ _ | refine zbD ?_ | refine zbA ?_ _)); exact BK295.out⟩, ⟨by (with_reducible repeat (first | refine zbN ?_ _ | refine zbD ?_ | refine zbA ?_ _)); exact BK296.out⟩, ⟨by (with_reducible repeat (first | refine zbN ?_ _ | refine zbD ?_ | refine zbA ?_ _)); exact BK305.out⟩, ⟨by (with_reducible repeat (first | refine zbN ?_ _ | refine zbD ?_ | refine zbA ?_ _)); exact BK306.out⟩, ⟨by repeat (first | (with_reducible first | exact HB.out | apply zA | apply zN | apply zD | refine zS ?_ GE295.out | refine zS ?_ GE296.out | refine zS ?_ GE305.out | refine zS ?_ GE306.out) | exact HB.out)⟩⟩
           ·rw [if_neg c29] at H
            have c29b0 : ((bt a3 x12_1) == (bt t307 x14_2)) = false := beq_eq_false_iff_ne.mpr c29
            have c29b1 : ((bt a3 x12_1) != (bt t307 x14_2)) = true := bne_iff_ne.mpr c29
            have H' := Aside0.mk H
            clear H
            try go_wp2
            have n0_ := Aside0.mk (Kd.R_drew HO_306002.out)
            have n1_ := Aside0.mk (Kd.R_drew HO_306003.out)
            have n2_ := Aside0.mk (Kd.R_drew HO_307002.out)
            have n3_ := Aside0.mk (Kd.R_drew HO_307003.out)
            have n4_ := Aside0.mk (zbD BK295.out)
            have n5_ := Aside0.mk (zbD BK296.out)
            have n6_ := Aside0.mk (zbD BK305.out)
            have n7_ := Aside0.mk (zbD BK306.out)
            have n8_ := Aside0.mk (zD HB.out)
            clear HO_306002
            clear HO_306003
            clear HO_307002
            clear HO_307003
            clear BK295
            clear BK296
            clear BK305
            clear BK306
            clear HB
            have HO_306002 := n0_
            have HO_306003 := n1_
            have HO_307002 := n2_
            have HO_307003 := n3_
            have BK295 := n4_
            have BK296 := n5_
            have BK305 := n6_
            have BK306 := n7_
            have HB := n8_
            clear n0_ n1_ n2_ n3_ n4_ n5_ n6_ n7_ n8_
            have p24 : 0 ≤ (x12_1 : Int) := of_decide_eq_true (by first | (with_reducible assumption) | assumption)
            have q24 : x12_1 < (a3.size : Int) := of_decide_eq_true (by first | (with_reducible assumption) | assumption)
            have hx24 := bt_at a3 x12_1
            replace p24 := eq_true p24
            replace q24 := eq_true q24
            refine start_ (n := 7) (S := fun w' => True) (ds := []) #[false, false, false, false, false, false, false] (by kernel_rfl) rfl rfl trivial (fun hHeld => ?_)
            generalize wr.drew = w31 at HO_306002 HO_306003 HO_307002 HO_307003 BK295 BK296 BK305 BK306 HB hHeld ⊢
            refine pure_ (i := 0) (N := some 35) (v := ?_) (a' := ?_) #[true, false, false, false, false, false, false] rfl rfl (by kernel_rfl) (fun _ _ _ h => h) (Or.inl ⟨by rfl, ?_⟩) ?_ ?_
            rotate_left
            ·intro w'
             go_simp
             with_reducible rfl
            rotate_left
            ·simp only [Act.put, List.setIfInBounds_toArray, List.set_cons_zero, List.set_cons_succ, i64_w, i32_w]
             rfl
            refine pure_ (i := 1) (N := some 36) (v := ?_) (a' := ?_) #[true, true, false, false, false, false, false] rfl rfl (by kernel_rfl) (fun _ _ _ h => h) (Or.inl ⟨by rfl, ?_⟩) ?_ ?_
            rotate_left
            ·intro w'
             go_simp
             with_reducible rfl
            rotate_left
            ·simp only [Act.put, List.setIfInBounds_toArray, List.set_cons_zero, List.set_cons_succ, i64_w, i32_w]
             rfl
            refine pure_ (i := 4) (N := some 39) (v := ?_) (a' := ?_) #[true, true, false, false, true, false, false] rfl rfl (by kernel_rfl) (fun _ _ _ h => h) (Or.inl ⟨by rfl, ?_⟩) ?_ ?_
            rotate_left
            ·intro w'
             go_simp
             with_reducible rfl
            rotate_left
            ·simp only [Act.put, List.setIfInBounds_toArray, List.set_cons_zero, List.set_cons_succ, i64_w, i32_w]
             rfl
            refine take_ (i := 2) (N := some 37) (v := ?_) (a' := ?_) #[true, true, true, false, true, false, false] rfl rfl (by kernel_rfl) (fun _ _ _ h => h) (Or.inl ⟨by rfl, ?_⟩) hHeld ?_ ?_
            rotate_left
            ·intro w' _
             go_simp
             with_reducible rfl
            rotate_left
            ·simp only [Act.put, List.setIfInBounds_toArray, List.set_cons_zero, List.set_cons_succ, i64_w, i32_w]
             rfl
            refine one_ (i := 3) (N := some 38) #[true, true, true, true, true, false, false] rfl rfl (by kernel_rfl) (by decide) (fun K hK => ?_)
            refine goes_ Tryd.func81 (by kernel_rfl) rfl #[] (by rfl) rfl rfl (by (try simp only [List.map_toArray, List.map_cons, List.map_nil]); first | done | rfl | (simp only [List.length_drop, List.length_take]; rfl)) ?_
            with_reducible refine (spec_liDirs.calls  t307 _ A25.out).mono ?_
            rintro e w' ⟨rfl, ⟨nd, rfl⟩⟩
            refine ⟨_, rfl, ?_⟩
            have p28 : 0 ≤ (x14_2 : Int) := of_decide_eq_true (by first | (with_reducible assumption) | assumption)
            have q28 : x14_2 < (t307.size : Int) := of_decide_eq_true (by first | (with_reducible assumption) | assumption)
            have hx28 := bt_at t307 x14_2
            replace p28 := eq_true p28
            replace q28 := eq_true q28
            refine hK.out _ _ trivial (fun hHeld => ?_)
            clear hK K
            refine norm_ (a' := ?_) ?_ ?_
            rotate_left
            ·show Act.put _ (some 38) _ = _
             simp only [Act.put, List.setIfInBounds_toArray, List.set_cons_zero, List.set_cons_succ, i64_w, i32_w]
             rfl
            refine take_ (i := 5) (N := some 40) (v := ?_) (a' := ?_) #[true, true, true, true, true, true, false] rfl rfl (by kernel_rfl) (fun _ _ _ h => h) (Or.inl ⟨by rfl, ?_⟩) hHeld ?_ ?_
            rotate_left
            ·intro w' _
             go_simp
             with_reducible rfl
            rotate_left
            ·simp only [Act.put, List.setIfInBounds_toArray, List.set_cons_zero, List.set_cons_succ, i64_w, i32_w]
             rfl
            refine pure_ (i := 6) (N := some 41) (v := ?_) (a' := ?_) #[true, true, true, true, true, true, true] rfl rfl (by kernel_rfl) (fun _ _ _ h => h) (Or.inl ⟨by rfl, ?_⟩) ?_ ?_
            rotate_left
            ·intro w'
             go_simp
             with_reducible rfl
            rotate_left
            ·simp only [Act.put, List.setIfInBounds_toArray, List.set_cons_zero, List.set_cons_succ, i64_w, i32_w]
             rfl
            refine done_ (by kernel_rfl) ?_
            try go_wp2
            go_roundg k2
            case measure => have := HK1.out; have := HK2.out; omega
            case rel => exact ⟨(x13_2), (wrap64 (x14_2 + 1)), (by first | rfl | (simp; done) | (simp [*]; done)), (by first | rfl | (simp; done) | (simp [*]; done)), H', ⟨by have := HK1.out; have := HK2.out; omega⟩, ⟨by (with_reducible repeat (first | apply Kd.R_alloc | apply Kd.R_drewN | apply Kd.R_drew)); exact HO_306002.out⟩, ⟨by (with_reducible repeat (first | apply Kd.R_alloc | apply Kd.R_drewN | apply Kd.R_drew)); exact HO_306003.out⟩, ⟨by (with_reducible repeat (first | apply Kd.R_alloc | apply Kd.R_drewN | apply Kd.R_drew)); exact HO_307002.out⟩, ⟨by (with_reducible repeat (first | apply Kd.R_alloc | apply Kd.R_drewN | apply Kd.R_drew)); exact HO_307003.out⟩, ⟨by (with_reducible repeat (first | refine zbN ?_ _ | refine zbD ?_ | refine zbA ?_ _)); exact BK295.out⟩, ⟨by (with_reducible repeat (first | refine zbN ?_ _ | refine zbD ?_ | refine zbA ?_ _)); exact BK296.out⟩, ⟨by (with_reducible repeat (first | refine zbN ?_ _ | refine zbD ?_ | refine zbA ?_ _)); exact BK305.out⟩, ⟨by (with_reducible repeat (first | refine zbN ?_ _ | refine zbD ?_ | refine zbA ?_ _)); exact BK306.out⟩, ⟨by repeat (first | (with_reducible first | exact HB.out | apply zA | apply zN | apply zD | refine zS ?_ GE295.out | refine zS ?_ GE296.out | refine zS ?_ GE305.out | refine zS ?_ GE306.out) | exact HB.out)⟩⟩
          ·rw [if_neg c27] at H
           exact absurd H (by simp)
         ·rw [if_neg c26] at H
          exact absurd H (by simp)
        ·rw [if_neg c23] at H
         exact absurd H (by simp)
       ·rw [if_neg c22] at H
        exact absurd H (by simp)
      ·rw [if_neg c21] at H
       have c21b0 : decide (x14_2 < 4) = false := decide_eq_false c21
       clear c21
       by_cases c32 : x13_2 < 0
       ·rw [if_pos c32] at H
        have c32b0 : decide (x13_2 < 0) = true := decide_eq_true c32
        clear c32
        simp only [Option.some.injEq, Prod.mk.injEq] at H
        obtain ⟨rfl, rfl, rfl, rfl, rfl⟩ := H
        have hnb33 := NB296_295.out
        have hnc33 := NB295_296.out
        have hnb34 := NB296_305.out
        have hnc34 := NB305_296.out
        have hnb35 := NB296_306.out
        have hnc35 := NB306_296.out
        have hcz36_0 : wr.cell? ⟨gb296, 0, none⟩ = some (.int .i64 x297000_1) := (zbC BK296.out 0).trans rfl
        have hcz36_1 : wr.cell? ⟨gb296, 1, none⟩ = some (.int .i64 x297001_1) := (zbC BK296.out 1).trans rfl
        have hcz36_2 : wr.cell? ⟨gb296, 2, none⟩ = some (.slice none 0 0) := (zbC BK296.out 2).trans rfl
        have hcz36_3 : wr.cell? ⟨gb296, 3, none⟩ = some (.slice none 0 0) := (zbC BK296.out 3).trans rfl
        have hfz36_0 := zbF BK296.out 0
        have hfz36_1 := zbF BK296.out 1
        have hfz36_2 := zbF BK296.out 2
        have hfz36_3 := zbF BK296.out 3
        go_wp2
        refine bodyPost_ret (results_ct rfl _ _ gb296 26 #[.int .i64 0, .int .i64 0, .slice none 0 0, .slice none 0 0] (0, 0) _ rfl (by (with_reducible repeat (first | refine zbN ?_ _ | refine zbD ?_ | refine zbA ?_ _)); refine blk_put (cs := #[.int .i64 0, .int .i64 0, .slice none 0 0, .slice none 0 0]) ?_ 3 _ rfl; (with_reducible repeat (first | refine zbN ?_ _ | refine zbD ?_ | refine zbA ?_ _)); refine blk_put (cs := #[.int .i64 0, .int .i64 0, .slice none 0 0, .slice none 0 0]) ?_ 2 _ rfl; (with_reducible repeat (first | refine zbN ?_ _ | refine zbD ?_ | refine zbA ?_ _)); refine blk_put (cs := #[.int .i64 0, .int .i64 x297001_1, .slice none 0 0, .slice none 0 0]) ?_ 1 _ rfl; (with_reducible repeat (first | refine zbN ?_ _ | refine zbD ?_ | refine zbA ?_ _)); refine blk_put (cs := #[.int .i64 x297000_1, .int .i64 x297001_1, .slice none 0 0, .slice none 0 0]) ?_ 0 _ rfl; (with_reducible repeat (first | refine zbN ?_ _ | refine zbD ?_ | refine zbA ?_ _)); exact BK296.out) Tryd.underlying26 rfl (by kernel_rfl)) rfl ?_
        exact ⟨_, _, by first | rfl | (simp [errW_none, errW_some] <;> rfl) | (simp [*, errW_none, errW_some] <;> rfl), by first | exact Kd.R_nil _ _ _ _ _ | exact Kd.N_nil _ _ _ _ _ | exact Kd.V_nil _ _ _ _ _ | exact Kd.Q_nil _ _ _ _ _ | exact Kd.S_nil _ _ _ _ _, by first | exact Kd.R_nil _ _ _ _ _ | exact Kd.N_nil _ _ _ _ _ | exact Kd.V_nil _ _ _ _ _ | exact Kd.Q_nil _ _ _ _ _ | exact Kd.S_nil _ _ _ _ _, by repeat (first | (with_reducible first | exact HB.out | apply zA | apply zN | apply zD | refine zS ?_ GE295.out | refine zS ?_ GE296.out | refine zS ?_ GE305.out | refine zS ?_ GE306.out) | exact HB.out)⟩
       ·rw [if_neg c32] at H
        have c32b0 : decide (x13_2 < 0) = false := decide_eq_false c32
        clear c32
        replace H := Option.bind_eq_some_iff.mp H
        obtain ⟨⟨t308, t309, t310⟩, A370, H⟩ := H
        replace H : (if t310 = true then ((spec_liNext.f k2 x307000_1 x307001_1 x307002_1 x307003_1 x296000_1 x296001_1 x13_2).bind fun bt312 => (if bt312.2.2 = true then (some (0, 0, ([] : List Int), ([] : List Int), false)) else ((spec_fiMissing.f k2 x307000_1 x307001_1 x307002_1 x307003_1).bind fun bt316 => ((spec_liEdge.f k2 t297 t298 t299 t302 x296000_1 x296001_1 x13_2).bind fun bt324 => ((spec_fiLess.f k2 bt316.1 bt316.2.1 bt316.2.2.1 bt316.2.2.2 bt324.1 bt324.2.1 bt324.2.2.1 bt324.2.2.2).bind fun bt332 => ((spec_fiMissing.f k2 bt332.1 bt332.2.1 bt332.2.2.1 bt332.2.2.2).bind fun bt340 => (spec_liDraw.l0 k2 a3 (wrap64 (x12_1 + 1)) t308 t309 t297 t298 t299 t302 bt340.1 bt340.2.1 bt340.2.2.1 bt340.2.2.2))))))) else (some (0, 0, ([] : List Int), ([] : List Int), false))) = some (r1, r2, r3, r4, r5) := H
        have A37 := Aside0.mk A370
        clear A370
        by_cases c38 : t310 = true
        ·subst c38
         have H1 : ((spec_liNext.f k2 x307000_1 x307001_1 x307002_1 x307003_1 x296000_1 x296001_1 x13_2).bind fun bt312 => (if bt312.2.2 = true then (some (0, 0, ([] : List Int), ([] : List Int), false)) else ((spec_fiMissing.f k2 x307000_1 x307001_1 x307002_1 x307003_1).bind fun bt316 => ((spec_liEdge.f k2 t297 t298 t299 t302 x296000_1 x296001_1 x13_2).bind fun bt324 => ((spec_fiLess.f k2 bt316.1 bt316.2.1 bt316.2.2.1 bt316.2.2.2 bt324.1 bt324.2.1 bt324.2.2.1 bt324.2.2.2).bind fun bt332 => ((spec_fiMissing.f k2 bt332.1 bt332.2.1 bt332.2.2.1 bt332.2.2.2).bind fun bt340 => (spec_liDraw.l0 k2 a3 (wrap64 (x12_1 + 1)) t308 t309 t297 t298 t299 t302 bt340.1 bt340.2.1 bt340.2.2.1 bt340.2.2.2))))))) = some (r1, r2, r3, r4, r5) := by rw [if_pos rfl] at H; exact H
         clear H
         have H := H1
         clear H1
         replace H := Option.bind_eq_some_iff.mp H
         obtain ⟨⟨t312, t313, t314⟩, A390, H⟩ := H
         replace H : (if t314 = true then (some (0, 0, ([] : List Int), ([] : List Int), false)) else ((spec_fiMissing.f k2 x307000_1 x307001_1 x307002_1 x307003_1).bind fun bt316 => ((spec_liEdge.f k2 t297 t298 t299 t302 x296000_1 x296001_1 x13_2).bind fun bt324 => ((spec_fiLess.f k2 bt316.1 bt316.2.1 bt316.2.2.1 bt316.2.2.2 bt324.1 bt324.2.1 bt324.2.2.1 bt324.2.2.2).bind fun bt332 => ((spec_fiMissing.f k2 bt332.1 bt332.2.1 bt332.2.2.1 bt332.2.2.2).bind fun bt340 => (spec_liDraw.l0 k2 a3 (wrap64 (x12_1 + 1)) t308 t309 t297 t298 t299 t302 bt340.1 bt340.2.1 bt340.2.2.1 bt340.2.2.2)))))) = some (r1, r2, r3, r4, r5) := H
         have A39 := Aside0.mk A390
         clear A390
         by_cases c40 : t314 = true
         ·subst c40
          have H1 : (some (0, 0, ([] : List Int), ([] : List Int), false)) = some (r1, r2, r3, r4, r5) := by rw [if_pos rfl] at H; exact H
          clear H
          have H := H1
          clear H1
          simp only [Option.some.injEq, Prod.mk.injEq] at H
          obtain ⟨rfl, rfl, rfl, rfl, rfl⟩ := H
          have hnb41 := NB305_295.out
          have hnc41 := NB295_305.out
          have hnb42 := NB305_296.out
          have hnc42 := NB296_305.out
          have hnb43 := NB305_306.out
          have hnc43 := NB306_305.out
          have hcz44_0 : wr.cell? ⟨gb305, 0, none⟩ = some (.int .i64 t297) := (zbC BK305.out 0).trans rfl
          have hcz44_1 : wr.cell? ⟨gb305, 1, none⟩ = some (.int .i64 t298) := (zbC BK305.out 1).trans rfl
          have hcz44_2 : wr.cell? ⟨gb305, 2, none⟩ = some (.slice Ao13 t299.length co13) := (zbC BK305.out 2).trans rfl
          have hcz44_3 : wr.cell? ⟨gb305, 3, none⟩ = some (.slice Ao14 t302.length co14) := (zbC BK305.out 3).trans rfl
          have hfz44_0 := zbF BK305.out 0
          have hfz44_1 := zbF BK305.out 1
          have hfz44_2 := zbF BK305.out 2
          have hfz44_3 := zbF BK305.out 3
          have hnb45 := NB295_296.out
          have hnc45 := NB296_295.out
          have hnb46 := NB295_306.out
          have hnc46 := NB306_295.out
          have hcz47_0 : wr.cell? ⟨gb295, 0, none⟩ = some (.int .i64 x296000_1) := (zbC BK295.out 0).trans rfl
          have hcz47_1 : wr.cell? ⟨gb295, 1, none⟩ = some (.int .i64 x296001_1) := (zbC BK295.out 1).trans rfl
          have hfz47_0 := zbF BK295.out 0
          have hfz47_1 := zbF BK295.out 1
          go_wp2_with (first | ((with_reducible refine gate_callee (f := 82) rfl ?_); refine goesL_ (some 50) rfl rfl Tryd.func82 (by kernel_rfl) rfl #[.agg #[.int .i64 t297, .int .i64 t298, .slice Ao13 t299.length co13, .slice Ao14 t302.length co14], .agg #[.int .i64 x296000_1, .int .i64 x296001_1], .int .i64 x13_2] rfl (by (try simp only [List.map_toArray, List.map_cons, List.map_nil]); first | done | rfl | (simp only [List.length_drop, List.length_take]; rfl)) ?_; (with_reducible refine (spec_liNext.calls k2 t297 t298 _ _ t299 _ _ t302 x296000_1 x296001_1 x13_2 t308 t309 true _ ?side1 ?side2 ?side3 ?side4 A37.out).mono ?_); (case side1 => repeat (first | exact (Kd.R_reads' HO_306002.out).2.2 | (with_reducible refine Kd.C_alloc ?_ _) | (with_reducible refine Kd.C_drewN ?_ _) | (with_reducible refine Kd.C_drew ?_))); (case side2 => exact (Kd.R_reads' HO_306002.out).2.1); (case side3 => repeat (first | exact (Kd.R_reads' HO_306003.out).2.2 | (with_reducible refine Kd.C_alloc ?_ _) | (with_reducible refine Kd.C_drewN ?_ _) | (with_reducible refine Kd.C_drew ?_))); (case side4 => exact (Kd.R_reads' HO_306003.out).2.1); rintro e w48 ⟨rfl, hb⟩; refine ⟨_, rfl, ?_⟩; have n0_ := Aside0.mk (Kd.R_below (by (with_reducible repeat (first | apply Kd.R_alloc | apply Kd.R_drewN | apply Kd.R_drew)); exact HO_306002.out) hb); have n1_ := Aside0.mk (Kd.R_below (by (with_reducible repeat (first | apply Kd.R_alloc | apply Kd.R_drewN | apply Kd.R_drew)); exact HO_306003.out) hb); have n2_ := Aside0.mk (Kd.R_below (by (with_reducible repeat (first | apply Kd.R_alloc | apply Kd.R_drewN | apply Kd.R_drew)); exact HO_307002.out) hb); have n3_ := Aside0.mk (Kd.R_below (by (with_reducible repeat (first | apply Kd.R_alloc | apply Kd.R_drewN | apply Kd.R_drew)); exact HO_307003.out) hb); have n4_ := Aside0.mk (blk_below (g := gb295) (o := .cells #[.int .i64 x296000_1, .int .i64 x296001_1] 43 (0, 0)) (by (with_reducible repeat (first | refine zbN ?_ _ | refine zbD ?_ | refine zbA ?_ _)); exact BK295.out) hb); have n5_ := Aside0.mk (blk_below (g := gb296) (o := .cells #[.int .i64 x297000_1, .int .i64 x297001_1, .slice none 0 0, .slice none 0 0] 26 (0, 0)) (by (with_reducible repeat (first | refine zbN ?_ _ | refine zbD ?_ | refine zbA ?_ _)); exact BK296.out) hb); have n6_ := Aside0.mk (blk_below (g := gb305) (o := .cells #[.int .i64 t297, .int .i64 t298, .slice Ao13 t299.length co13, .slice Ao14 t302.length co14] 26 (0, 0)) (by (with_reducible repeat (first | refine zbN ?_ _ | refine zbD ?_ | refine zbA ?_ _)); exact BK305.out) hb); have n7_ := Aside0.mk (blk_below (g := gb306) (o := .cells #[.int .i64 x307000_1, .int .i64 x307001_1, u307002, u307003] 26 (0, 0)) (by (with_reducible repeat (first | refine zbN ?_ _ | refine zbD ?_ | refine zbA ?_ _)); exact BK306.out) hb); have n8_ := Aside0.mk (below_step (by repeat (first | (with_reducible first | exact HB.out | apply zA | apply zN | apply zD | refine zS ?_ GE295.out | refine zS ?_ GE296.out | refine zS ?_ GE305.out | refine zS ?_ GE306.out) | exact HB.out)) hb); clear HO_306002; clear HO_306003; clear HO_307002; clear HO_307003; clear BK295; clear BK296; clear BK305; clear BK306; clear HB; have HO_306002 := n0_; have HO_306003 := n1_; have HO_307002 := n2_; have HO_307003 := n3_; have BK295 := n4_; have BK296 := n5_; have BK305 := n6_; have BK306 := n7_; have HB := n8_; clear n0_ n1_ n2_ n3_ n4_ n5_ n6_ n7_ n8_; (try clear hb); (try clear hb2); (try clear hk); (try clear hi)) | ((with_reducible refine gate_dst (N := 15) rfl ?_); refine box_event ?hg (N := 15) ?hd (cs := #[.int .i64 0, .int .i64 0]) (t := 43) ?hr ?_; (case hd => rfl); (case hg => rfl); (case hr => first | (go_simp; done) | (go_simp; rfl)); intro gb311 hg w49 hbox hb; have n0_ := Aside0.mk (Kd.R_below (by (with_reducible repeat (first | apply Kd.R_alloc | apply Kd.R_drewN | apply Kd.R_drew)); exact HO_306002.out) hb); have n1_ := Aside0.mk (Kd.R_below (by (with_reducible repeat (first | apply Kd.R_alloc | apply Kd.R_drewN | apply Kd.R_drew)); exact HO_306003.out) hb); have n2_ := Aside0.mk (Kd.R_below (by (with_reducible repeat (first | apply Kd.R_alloc | apply Kd.R_drewN | apply Kd.R_drew)); exact HO_307002.out) hb); have n3_ := Aside0.mk (Kd.R_below (by (with_reducible repeat (first | apply Kd.R_alloc | apply Kd.R_drewN | apply Kd.R_drew)); exact HO_307003.out) hb); have n4_ := Aside0.mk (blk_below (g := gb295) (o := .cells #[.int .i64 x296000_1, .int .i64 x296001_1] 43 (0, 0)) (by (with_reducible repeat (first | refine zbN ?_ _ | refine zbD ?_ | refine zbA ?_ _)); exact BK295.out) hb); have n5_ := Aside0.mk (blk_below (g := gb296) (o := .cells #[.int .i64 x297000_1, .int .i64 x297001_1, .slice none 0 0, .slice none 0 0] 26 (0, 0)) (by (with_reducible repeat (first | refine zbN ?_ _ | refine zbD ?_ | refine zbA ?_ _)); exact BK296.out) hb); have n6_ := Aside0.mk (blk_below (g := gb305) (o := .cells #[.int .i64 t297, .int .i64 t298, .slice Ao13 t299.length co13, .slice Ao14 t302.length co14] 26 (0, 0)) (by (with_reducible repeat (first | refine zbN ?_ _ | refine zbD ?_ | refine zbA ?_ _)); exact BK305.out) hb); have n7_ := Aside0.mk (blk_below (g := gb306) (o := .cells #[.int .i64 x307000_1, .int .i64 x307001_1, u307002, u307003] 26 (0, 0)) (by (with_reducible repeat (first | refine zbN ?_ _ | refine zbD ?_ | refine zbA ?_ _)); exact BK306.out) hb); have n8_ := Aside0.mk (below_step (by repeat (first | (with_reducible first | exact HB.out | apply zA | apply zN | apply zD | refine zS ?_ GE295.out | refine zS ?_ GE296.out | refine zS ?_ GE305.out | refine zS ?_ GE306.out) | exact HB.out)) hb); have n9_ := Aside0.mk (hbox); have n10_ := Aside0.mk ((by rw [hg]; exact (below_size (by repeat (first | (with_reducible first | exact HB.out | apply zA | apply zN | apply zD | refine zS ?_ GE295.out | refine zS ?_ GE296.out | refine zS ?_ GE305.out | refine zS ?_ GE306.out) | exact HB.out))) : w.heap.size ≤ gb311)); have n11_ := Aside0.mk ((by rw [hg]; exact (below_size (by repeat (first | (with_reducible first | exact HB.out | apply zA | apply zN | apply zD | refine zS ?_ GE295.out | refine zS ?_ GE296.out | refine zS ?_ GE305.out | refine zS ?_ GE306.out) | exact HB.out))) : w.heap.size ≤ gb311)); have n12_ := Aside0.mk ((by rw [hg]; exact Nat.ne_of_lt (blk_lt (g := gb295) (o := .cells #[.int .i64 x296000_1, .int .i64 x296001_1] 43 (0, 0)) (by (with_reducible repeat (first | refine zbN ?_ _ | refine zbD ?_ | refine zbA ?_ _)); exact BK295.out)) : gb295 ≠ gb311)); have n13_ := Aside0.mk ((by rw [hg]; exact Nat.ne_of_gt (blk_lt (g := gb295) (o := .cells #[.int .i64 x296000_1, .int .i64 x296001_1] 43 (0, 0)) (by (with_reducible repeat (first | refine zbN ?_ _ | refine zbD ?_ | refine zbA ?_ _)); exact BK295.out)) : gb311 ≠ gb295)); have n14_ := Aside0.mk ((by rw [hg]; exact Nat.ne_of_lt (blk_lt (g := gb296) (o := .cells #[.int .i64 x297000_1, .int .i64 x297001_1, .slice none 0 0, .slice none 0 0] 26 (0, 0)) (by (with_reducible repeat (first | refine zbN ?_ _ | refine zbD ?_ | refine zbA ?_ _)); exact BK296.out)) : gb296 ≠ gb311)); have n15_ := Aside0.mk ((by rw [hg]; exact Nat.ne_of_gt (blk_lt (g := gb296) (o := .cells #[.int .i64 x297000_1, .int .i64 x297001_1, .slice none 0 0, .slice none 0 0] 26 (0, 0)) (by (with_reducible repeat (first | refine zbN ?_ _ | refine zbD ?_ | refine zbA ?_ _)); exact BK296.out)) : gb311 ≠ gb296)); have n16_ := Aside0.mk ((by rw [hg]; exact Nat.ne_of_lt (blk_lt (g := gb305) (o := .cells #[.int .i64 t297, .int .i64 t298, .slice Ao13 t299.length co13, .slice Ao14 t302.length co14] 26 (0, 0)) (by (with_reducible repeat (first | refine zbN ?_ _ | refine zbD ?_ | refine zbA ?_ _)); exact BK305.out)) : gb305 ≠ gb311)); have n17_ := Aside0.mk ((by rw [hg]; exact Nat.ne_of_gt (blk_lt (g := gb305) (o := .cells #[.int .i64 t297, .int .i64 t298, .slice Ao13 t299.length co13, .slice Ao14 t302.length co14] 26 (0, 0)) (by (with_reducible repeat (first | refine zbN ?_ _ | refine zbD ?_ | refine zbA ?_ _)); exact BK305.out)) : gb311 ≠ gb305)); have n18_ := Aside0.mk ((by rw [hg]; exact Nat.ne_of_lt (blk_lt (g := gb306) (o := .cells #[.int .i64 x307000_1, .int .i64 x307001_1, u307002, u307003] 26 (0, 0)) (by (with_reducible repeat (first | refine zbN ?_ _ | refine zbD ?_ | refine zbA ?_ _)); exact BK306.out)) : gb306 ≠ gb311)); have n19_ := Aside0.mk ((by rw [hg]; exact Nat.ne_of_gt (blk_lt (g := gb306) (o := .cells #[.int .i64 x307000_1, .int .i64 x307001_1, u307002, u307003] 26 (0, 0)) (by (with_reducible repeat (first | refine zbN ?_ _ | refine zbD ?_ | refine zbA ?_ _)); exact BK306.out)) : gb311 ≠ gb306)); clear HO_306002; clear HO_306003; clear HO_307002; clear HO_307003; clear BK295; clear BK296; clear BK305; clear BK306; clear HB; have HO_306002 := n0_; have HO_306003 := n1_; have HO_307002 := n2_; have HO_307003 := n3_; have BK295 := n4_; have BK296 := n5_; have BK305 := n6_; have BK306 := n7_; have HB := n8_; have BK311 := n9_; have GW311 := n10_; have GE311 := n11_; have NB295_311 := n12_; have NB311_295 := n13_; have NB296_311 := n14_; have NB311_296 := n15_; have NB305_311 := n16_; have NB311_305 := n17_; have NB306_311 := n18_; have NB311_306 := n19_; clear n0_ n1_ n2_ n3_ n4_ n5_ n6_ n7_ n8_ n9_ n10_ n11_ n12_ n13_ n14_ n15_ n16_ n17_ n18_ n19_; clear hb hbox hg; have hnb50 := NB311_295.out; have hnc50 := NB295_311.out; have hnb51 := NB311_296.out; have hnc51 := NB296_311.out; have hnb52 := NB311_305.out; have hnc52 := NB305_311.out; have hnb53 := NB311_306.out; have hnc53 := NB306_311.out; have hcz54_0 : w49.cell? ⟨gb311, 0, none⟩ = some (.int .i64 0) := (zbC BK311.out 0).trans rfl; have hcz54_1 : w49.cell? ⟨gb311, 1, none⟩ = some (.int .i64 0) := (zbC BK311.out 1).trans rfl; have hfz54_0 := zbF BK311.out 0; have hfz54_1 := zbF BK311.out 1; have hnb55 := NB306_296.out; have hnc55 := NB296_306.out; have hcz56_0 : w49.cell? ⟨gb306, 0, none⟩ = some (.int .i64 x307000_1) := (zbC BK306.out 0).trans rfl; have hcz56_1 : w49.cell? ⟨gb306, 1, none⟩ = some (.int .i64 x307001_1) := (zbC BK306.out 1).trans rfl; have hcz56_2 : w49.cell? ⟨gb306, 2, none⟩ = some (u307002) := (zbC BK306.out 2).trans rfl; have hcz56_3 : w49.cell? ⟨gb306, 3, none⟩ = some (u307003) := (zbC BK306.out 3).trans rfl; have hfz56_0 := zbF BK306.out 0; have hfz56_1 := zbF BK306.out 1; have hfz56_2 := zbF BK306.out 2; have hfz56_3 := zbF BK306.out 3; have hcz57_0 : w49.cell? ⟨gb295, 0, none⟩ = some (.int .i64 x296000_1) := (zbC BK295.out 0).trans rfl; have hcz57_1 : w49.cell? ⟨gb295, 1, none⟩ = some (.int .i64 x296001_1) := (zbC BK295.out 1).trans rfl; have hfz57_0 := zbF BK295.out 0; have hfz57_1 := zbF BK295.out 1; obtain ⟨Ao58, co58, eo58⟩ := Kd.R_slice HO_307002.out; subst eo58; obtain ⟨Ao59, co59, eo59⟩ := Kd.R_slice HO_307003.out; subst eo59) | ((with_reducible refine gate_callee (f := 82) rfl ?_); refine goesL_ (some 60) rfl rfl Tryd.func82 (by kernel_rfl) rfl #[.agg #[.int .i64 x307000_1, .int .i64 x307001_1, .slice Ao58 x307002_1.length co58, .slice Ao59 x307003_1.length co59], .agg #[.int .i64 x296000_1, .int .i64 x296001_1], .int .i64 x13_2] rfl (by (try simp only [List.map_toArray, List.map_cons, List.map_nil]); first | done | rfl | (simp only [List.length_drop, List.length_take]; rfl)) ?_; (with_reducible refine (spec_liNext.calls k2 x307000_1 x307001_1 _ _ x307002_1 _ _ x307003_1 x296000_1 x296001_1 x13_2 t312 t313 true _ ?side1 ?side2 ?side3 ?side4 A39.out).mono ?_); (case side1 => refine (Kd.R_reads' (e := 3) (base := w.heap.size) (ok := fun k_ => (some k_ ≠ (.slice Ao13 t299.length co13 : Value).ownBlock ∧ (some k_ ≠ (.slice Ao14 t302.length co14 : Value).ownBlock ∧ some k_ ≠ (.slice Ao59 x307003_1.length co59 : Value).ownBlock))) (n := x307002_1.length) (c := co58) ?_).2.2; exact (by (with_reducible repeat (first | apply Kd.R_alloc | apply Kd.R_drewN | apply Kd.R_drew)); exact (Kd.R_mono (Kd.R_far (p := ⟨gb311, 1, none⟩) (Kd.R_far (p := ⟨gb311, 0, none⟩) (Kd.R_types HO_307002.out BK311.out (by decide)) (fun _ hk => hk.2) (.int .i64 t308)) (fun _ hk => hk.2) (.int .i64 t309)) (fun _ h_ => h_.1)))); (case side2 => exact (Kd.R_reads' HO_307002.out).2.1); (case side3 => refine (Kd.R_reads' (e := 3) (base := w.heap.size) (ok := fun k_ => (some k_ ≠ (.slice Ao13 t299.length co13 : Value).ownBlock ∧ (some k_ ≠ (.slice Ao14 t302.length co14 : Value).ownBlock ∧ some k_ ≠ (.slice Ao58 x307002_1.length co58 : Value).ownBlock))) (n := x307003_1.length) (c := co59) ?_).2.2; exact (by (with_reducible repeat (first | apply Kd.R_alloc | apply Kd.R_drewN | apply Kd.R_drew)); exact (Kd.R_mono (Kd.R_far (p := ⟨gb311, 1, none⟩) (Kd.R_far (p := ⟨gb311, 0, none⟩) (Kd.R_types HO_307003.out BK311.out (by decide)) (fun _ hk => hk.2) (.int .i64 t308)) (fun _ hk => hk.2) (.int .i64 t309)) (fun _ h_ => h_.1)))); (case side4 => exact (Kd.R_reads' HO_307003.out).2.1); rintro e w60 ⟨rfl, hb⟩; refine ⟨_, rfl, ?_⟩; have n0_ := Aside0.mk (Kd.R_below (by (with_reducible repeat (first | apply Kd.R_alloc | apply Kd.R_drewN | apply Kd.R_drew)); exact (Kd.R_mono (Kd.R_far (p := ⟨gb311, 1, none⟩) (Kd.R_far (p := ⟨gb311, 0, none⟩) (Kd.R_types HO_306002.out BK311.out (by decide)) (fun _ hk => hk.2) (.int .i64 t308)) (fun _ hk => hk.2) (.int .i64 t309)) (fun _ h_ => h_.1))) hb); have n1_ := Aside0.mk (Kd.R_below (by (with_reducible repeat (first | apply Kd.R_alloc | apply Kd.R_drewN | apply Kd.R_drew)); exact (Kd.R_mono (Kd.R_far (p := ⟨gb311, 1, none⟩) (Kd.R_far (p := ⟨gb311, 0, none⟩) (Kd.R_types HO_306003.out BK311.out (by decide)) (fun _ hk => hk.2) (.int .i64 t308)) (fun _ hk => hk.2) (.int .i64 t309)) (fun _ h_ => h_.1))) hb); have n2_ := Aside0.mk (Kd.R_below (by (with_reducible repeat (first | apply Kd.R_alloc | apply Kd.R_drewN | apply Kd.R_drew)); exact (Kd.R_mono (Kd.R_far (p := ⟨gb311, 1, none⟩) (Kd.R_far (p := ⟨gb311, 0, none⟩) (Kd.R_types HO_307002.out BK311.out (by decide)) (fun _ hk => hk.2) (.int .i64 t308)) (fun _ hk => hk.2) (.int .i64 t309)) (fun _ h_ => h_.1))) hb); have n3_ := Aside0.mk (Kd.R_below (by (with_reducible repeat (first | apply Kd.R_alloc | apply Kd.R_drewN | apply Kd.R_drew)); exact (Kd.R_mono (Kd.R_far (p := ⟨gb311, 1, none⟩) (Kd.R_far (p := ⟨gb311, 0, none⟩) (Kd.R_types HO_307003.out BK311.out (by decide)) (fun _ hk => hk.2) (.int .i64 t308)) (fun _ hk => hk.2) (.int .i64 t309)) (fun _ h_ => h_.1))) hb); have n4_ := Aside0.mk (blk_below (g := gb295) (o := .cells #[.int .i64 x296000_1, .int .i64 x296001_1] 43 (0, 0)) (by (with_reducible repeat (first | refine zbN ?_ _ | refine zbD ?_ | refine zbA ?_ _)); refine blk_far ?_ NB295_311.out _; (with_reducible repeat (first | refine zbN ?_ _ | refine zbD ?_ | refine zbA ?_ _)); refine blk_far ?_ NB295_311.out _; (with_reducible repeat (first | refine zbN ?_ _ | refine zbD ?_ | refine zbA ?_ _)); exact BK295.out) hb); have n5_ := Aside0.mk (blk_below (g := gb296) (o := .cells #[.int .i64 x297000_1, .int .i64 x297001_1, .slice none 0 0, .slice none 0 0] 26 (0, 0)) (by (with_reducible repeat (first | refine zbN ?_ _ | refine zbD ?_ | refine zbA ?_ _)); refine blk_far ?_ NB296_311.out _; (with_reducible repeat (first | refine zbN ?_ _ | refine zbD ?_ | refine zbA ?_ _)); refine blk_far ?_ NB296_311.out _; (with_reducible repeat (first | refine zbN ?_ _ | refine zbD ?_ | refine zbA ?_ _)); exact BK296.out) hb); have n6_ := Aside0.mk (blk_below (g := gb305) (o := .cells #[.int .i64 t297, .int .i64 t298, .slice Ao13 t299.length co13, .slice Ao14 t302.length co14] 26 (0, 0)) (by (with_reducible repeat (first | refine zbN ?_ _ | refine zbD ?_ | refine zbA ?_ _)); refine blk_far ?_ NB305_311.out _; (with_reducible repeat (first | refine zbN ?_ _ | refine zbD ?_ | refine zbA ?_ _)); refine blk_far ?_ NB305_311.out _; (with_reducible repeat (first | refine zbN ?_ _ | refine zbD ?_ | refine zbA ?_ _)); exact BK305.out) hb); have n7_ := Aside0.mk (blk_below (g := gb306) (o := .cells #[.int .i64 x307000_1, .int .i64 x307001_1, .slice Ao58 x307002_1.length co58, .slice Ao59 x307003_1.length co59] 26 (0, 0)) (by (with_reducible repeat (first | refine zbN ?_ _ | refine zbD ?_ | refine zbA ?_ _)); refine blk_far ?_ NB306_311.out _; (with_reducible repeat (first | refine zbN ?_ _ | refine zbD ?_ | refine zbA ?_ _)); refine blk_far ?_ NB306_311.out _; (with_reducible repeat (first | refine zbN ?_ _ | refine zbD ?_ | refine zbA ?_ _)); exact BK306.out) hb); have n8_ := Aside0.mk (blk_below (g := gb311) (o := .cells #[.int .i64 t308, .int .i64 t309] 43 (0, 0)) (by (with_reducible repeat (first | refine zbN ?_ _ | refine zbD ?_ | refine zbA ?_ _)); refine blk_put (cs := #[.int .i64 t308, .int .i64 0]) ?_ 1 _ rfl; (with_reducible repeat (first | refine zbN ?_ _ | refine zbD ?_ | refine zbA ?_ _)); refine blk_put (cs := #[.int .i64 0, .int .i64 0]) ?_ 0 _ rfl; (with_reducible repeat (first | refine zbN ?_ _ | refine zbD ?_ | refine zbA ?_ _)); exact BK311.out) hb); have n9_ := Aside0.mk (below_step (by repeat (first | (with_reducible first | exact HB.out | apply zA | apply zN | apply zD | refine zS ?_ GE295.out | refine zS ?_ GE296.out | refine zS ?_ GE305.out | refine zS ?_ GE306.out | refine zS ?_ GE311.out) | exact HB.out)) hb); clear HO_306002; clear HO_306003; clear HO_307002; clear HO_307003; clear BK295; clear BK296; clear BK305; clear BK306; clear BK311; clear HB; have HO_306002 := n0_; have HO_306003 := n1_; have HO_307002 := n2_; have HO_307003 := n3_; have BK295 := n4_; have BK296 := n5_; have BK305 := n6_; have BK306 := n7_; have BK311 := n8_; have HB := n9_; clear n0_ n1_ n2_ n3_ n4_ n5_ n6_ n7_ n8_ n9_; (try clear hb); (try clear hb2); (try clear hk); (try clear hi)) | ((with_reducible refine gate_dst (N := 17) rfl ?_); refine box_event ?hg (N := 17) ?hd (cs := #[.int .i64 0, .int .i64 0]) (t := 43) ?hr ?_; (case hd => rfl); (case hg => rfl); (case hr => first | (go_simp; done) | (go_simp; rfl)); intro gb315 hg w61 hbox hb; have n0_ := Aside0.mk (Kd.R_below (by (with_reducible repeat (first | apply Kd.R_alloc | apply Kd.R_drewN | apply Kd.R_drew)); exact HO_306002.out) hb); have n1_ := Aside0.mk (Kd.R_below (by (with_reducible repeat (first | apply Kd.R_alloc | apply Kd.R_drewN | apply Kd.R_drew)); exact HO_306003.out) hb); have n2_ := Aside0.mk (Kd.R_below (by (with_reducible repeat (first | apply Kd.R_alloc | apply Kd.R_drewN | apply Kd.R_drew)); exact HO_307002.out) hb); have n3_ := Aside0.mk (Kd.R_below (by (with_reducible repeat (first | apply Kd.R_alloc | apply Kd.R_drewN | apply Kd.R_drew)); exact HO_307003.out) hb); have n4_ := Aside0.mk (blk_below (g := gb295) (o := .cells #[.int .i64 x296000_1, .int .i64 x296001_1] 43 (0, 0)) (by (with_reducible repeat (first | refine zbN ?_ _ | refine zbD ?_ | refine zbA ?_ _)); exact BK295.out) hb); have n5_ := Aside0.mk (blk_below (g := gb296) (o := .cells #[.int .i64 x297000_1, .int .i64 x297001_1, .slice none 0 0, .slice none 0 0] 26 (0, 0)) (by (with_reducible repeat (first | refine zbN ?_ _ | refine zbD ?_ | refine zbA ?_ _)); exact BK296.out) hb); have n6_ := Aside0.mk (blk_below (g := gb305) (o := .cells #[.int .i64 t297, .int .i64 t298, .slice Ao13 t299.length co13, .slice Ao14 t302.length co14] 26 (0, 0)) (by (with_reducible repeat (first | refine zbN ?_ _ | refine zbD ?_ | refine zbA ?_ _)); exact BK305.out) hb); have n7_ := Aside0.mk (blk_below (g := gb306) (o := .cells #[.int .i64 x307000_1, .int .i64 x307001_1, .slice Ao58 x307002_1.length co58, .slice Ao59 x307003_1.length co59] 26 (0, 0)) (by (with_reducible repeat (first | refine zbN ?_ _ | refine zbD ?_ | refine zbA ?_ _)); exact BK306.out) hb); have n8_ := Aside0.mk (blk_below (g := gb311) (o := .cells #[.int .i64 t308, .int .i64 t309] 43 (0, 0)) (by (with_reducible repeat (first | refine zbN ?_ _ | refine zbD ?_ | refine zbA ?_ _)); exact BK311.out) hb); have n9_ := Aside0.mk (below_step (by repeat (first | (with_reducible first | exact HB.out | apply zA | apply zN | apply zD | refine zS ?_ GE295.out | refine zS ?_ GE296.out | refine zS ?_ GE305.out | refine zS ?_ GE306.out | refine zS ?_ GE311.out) | exact HB.out)) hb); have n10_ := Aside0.mk (hbox); have n11_ := Aside0.mk ((by rw [hg]; exact (below_size (by repeat (first | (with_reducible first | exact HB.out | apply zA | apply zN | apply zD | refine zS ?_ GE295.out | refine zS ?_ GE296.out | refine zS ?_ GE305.out | refine zS ?_ GE306.out | refine zS ?_ GE311.out) | exact HB.out))) : w.heap.size ≤ gb315)); have n12_ := Aside0.mk ((by rw [hg]; exact (below_size (by repeat (first | (with_reducible first | exact HB.out | apply zA | apply zN | apply zD | refine zS ?_ GE295.out | refine zS ?_ GE296.out | refine zS ?_ GE305.out | refine zS ?_ GE306.out | refine zS ?_ GE311.out) | exact HB.out))) : w.heap.size ≤ gb315)); have n13_ := Aside0.mk ((by rw [hg]; exact Nat.ne_of_lt (blk_lt (g := gb295) (o := .cells #[.int .i64 x296000_1, .int .i64 x296001_1] 43 (0, 0)) (by (with_reducible repeat (first | refine zbN ?_ _ | refine zbD ?_ | refine zbA ?_ _)); exact BK295.out)) : gb295 ≠ gb315)); have n14_ := Aside0.mk ((by rw [hg]; exact Nat.ne_of_gt (blk_lt (g := gb295) (o := .cells #[.int .i64 x296000_1, .int .i64 x296001_1] 43 (0, 0)) (by (with_reducible repeat (first | refine zbN ?_ _ | refine zbD ?_ | refine zbA ?_ _)); exact BK295.out)) : gb315 ≠ gb295)); have n15_ := Aside0.mk ((by rw [hg]; exact Nat.ne_of_lt (blk_lt (g := gb296) (o := .cells #[.int .i64 x297000_1, .int .i64 x297001_1, .slice none 0 0, .slice none 0 0] 26 (0, 0)) (by (with_reducible repeat (first | refine zbN ?_ _ | refine zbD ?_ | refine zbA ?_ _)); exact BK296.out)) : gb296 ≠ gb315)); have n16_ := Aside0.mk ((by rw [hg]; exact Nat.ne_of_gt (blk_lt (g := gb296) (o := .cells #[.int .i64 x297000_1, .int .i64 x297001_1, .slice none 0 0, .slice none 0 0] 26 (0, 0)) (by (with_reducible repeat (first | refine zbN ?_ _ | refine zbD ?_ | refine zbA ?_ _)); exact BK296.out)) : gb315 ≠ gb296)); have n17_ := Aside0.mk ((by rw [hg]; exact Nat.ne_of_lt (blk_lt (g := gb305) (o := .cells #[.int .i64 t297, .int .i64 t298, .slice Ao13 t299.length co13, .slice Ao14 t302.length co14] 26 (0, 0)) (by (with_reducible repeat (first | refine zbN ?_ _ | refine zbD ?_ | refine zbA ?_ _)); exact BK305.out)) : gb305 ≠ gb315)); have n18_ := Aside0.mk ((by rw [hg]; exact Nat.ne_of_gt (blk_lt (g := gb305) (o := .cells #[.int .i64 t297, .int .i64 t298, .slice Ao13 t299.length co13, .slice Ao14 t302.length co14] 26 (0, 0)) (by (with_reducible repeat (first | refine zbN ?_ _ | refine zbD ?_ | refine zbA ?_ _)); exact BK305.out)) : gb315 ≠ gb305)); have n19_ := Aside0.mk ((by rw [hg]; exact Nat.ne_of_lt (blk_lt (g := gb306) (o := .cells #[.int .i64 x307000_1, .int .i64 x307001_1, .slice Ao58 x307002_1.length co58, .slice Ao59 x307003_1.length co59] 26 (0, 0)) (by (with_reducible repeat (first | refine zbN ?_ _ | refine zbD ?_ | refine zbA ?_ _)); exact BK306.out)) : gb306 ≠ gb315)); have n20_ := Aside0.mk ((by rw [hg]; exact Nat.ne_of_gt (blk_lt (g := gb306) (o := .cells #[.int .i64 x307000_1, .int .i64 x307001_1, .slice Ao58 x307002_1.length co58, .slice Ao59 x307003_1.length co59] 26 (0, 0)) (by (with_reducible repeat (first | refine zbN ?_ _ | refine zbD ?_ | refine zbA ?_ _)); exact BK306.out)) : gb315 ≠ gb306)); have n21_ := Aside0.mk ((by rw [hg]; exact Nat.ne_of_lt (blk_lt (g := gb311) (o := .cells #[.int .i64 t308, .int .i64 t309] 43 (0, 0)) (by (with_reducible repeat (first | refine zbN ?_ _ | refine zbD ?_ | refine zbA ?_ _)); exact BK311.out)) : gb311 ≠ gb315)); have n22_ := Aside0.mk ((by rw [hg]; exact Nat.ne_of_gt (blk_lt (g := gb311) (o := .cells #[.int .i64 t308, .int .i64 t309] 43 (0, 0)) (by (with_reducible repeat (first | refine zbN ?_ _ | refine zbD ?_ | refine zbA ?_ _)); exact BK311.out)) : gb315 ≠ gb311)); clear HO_306002; clear HO_306003; clear HO_307002; clear HO_307003; clear BK295; clear BK296; clear BK305; clear BK306; clear BK311; clear HB; have HO_306002 := n0_; have HO_306003 := n1_; have HO_307002 := n2_; have HO_307003 := n3_; have BK295 := n4_; have BK296 := n5_; have BK305 := n6_; have BK306 := n7_; have BK311 := n8_; have HB := n9_; have BK315 := n10_; have GW315 := n11_; have GE315 := n12_; have NB295_315 := n13_; have NB315_295 := n14_; have NB296_315 := n15_; have NB315_296 := n16_; have NB305_315 := n17_; have NB315_305 := n18_; have NB306_315 := n19_; have NB315_306 := n20_; have NB311_315 := n21_; have NB315_311 := n22_; clear n0_ n1_ n2_ n3_ n4_ n5_ n6_ n7_ n8_ n9_ n10_ n11_ n12_ n13_ n14_ n15_ n16_ n17_ n18_ n19_ n20_ n21_ n22_; clear hb hbox hg; have hnb62 := NB315_295.out; have hnc62 := NB295_315.out; have hnb63 := NB315_296.out; have hnc63 := NB296_315.out; have hnb64 := NB315_305.out; have hnc64 := NB305_315.out; have hnb65 := NB315_306.out; have hnc65 := NB306_315.out; have hnb66 := NB315_311.out; have hnc66 := NB311_315.out; have hcz67_0 : w61.cell? ⟨gb315, 0, none⟩ = some (.int .i64 0) := (zbC BK315.out 0).trans rfl; have hcz67_1 : w61.cell? ⟨gb315, 1, none⟩ = some (.int .i64 0) := (zbC BK315.out 1).trans rfl; have hfz67_0 := zbF BK315.out 0; have hfz67_1 := zbF BK315.out 1; have hcz68_0 : w61.cell? ⟨gb296, 0, none⟩ = some (.int .i64 x297000_1) := (zbC BK296.out 0).trans rfl; have hcz68_1 : w61.cell? ⟨gb296, 1, none⟩ = some (.int .i64 x297001_1) := (zbC BK296.out 1).trans rfl; have hcz68_2 : w61.cell? ⟨gb296, 2, none⟩ = some (.slice none 0 0) := (zbC BK296.out 2).trans rfl; have hcz68_3 : w61.cell? ⟨gb296, 3, none⟩ = some (.slice none 0 0) := (zbC BK296.out 3).trans rfl; have hfz68_0 := zbF BK296.out 0; have hfz68_1 := zbF BK296.out 1; have hfz68_2 := zbF BK296.out 2; have hfz68_3 := zbF BK296.out 3))
          refine bodyPost_ret (results_ct rfl _ _ gb296 26 #[.int .i64 0, .int .i64 0, .slice none 0 0, .slice none 0 0] (0, 0) _ rfl (by (with_reducible repeat (first | refine zbN ?_ _ | refine zbD ?_ | refine zbA ?_ _)); refine blk_put (cs := #[.int .i64 0, .int .i64 0, .slice none 0 0, .slice none 0 0]) ?_ 3 _ rfl; (with_reducible repeat (first | refine zbN ?_ _ | refine zbD ?_ | refine zbA ?_ _)); refine blk_put (cs := #[.int .i64 0, .int .i64 0, .slice none 0 0, .slice none 0 0]) ?_ 2 _ rfl; (with_reducible repeat (first | refine zbN ?_ _ | refine zbD ?_ | refine zbA ?_ _)); refine blk_put (cs := #[.int .i64 0, .int .i64 x297001_1, .slice none 0 0, .slice none 0 0]) ?_ 1 _ rfl; (with_reducible repeat (first | refine zbN ?_ _ | refine zbD ?_ | refine zbA ?_ _)); refine blk_put (cs := #[.int .i64 x297000_1, .int .i64 x297001_1, .slice none 0 0, .slice none 0 0]) ?_ 0 _ rfl; (with_reducible repeat (first | refine zbN ?_ _ | refine zbD ?_ | refine zbA ?_ _)); refine blk_far ?_ NB296_315.out _; (with_reducible repeat (first | refine zbN ?_ _ | refine zbD ?_ | refine zbA ?_ _)); refine blk_far ?_ NB296_315.out _; (with_reducible repeat (first | refine zbN ?_ _ | refine zbD ?_ | refine zbA ?_ _)); exact BK296.out) Tryd.underlying26 rfl (by kernel_rfl)) rfl ?_
          exact ⟨_, _, by first | rfl | (simp [errW_none, errW_some] <;> rfl) | (simp [*, errW_none, errW_some] <;> rfl), by first | exact Kd.R_nil _ _ _ _ _ | exact Kd.N_nil _ _ _ _ _ | exact Kd.V_nil _ _ _ _ _ | exact Kd.Q_nil _ _ _ _ _ | exact Kd.S_nil _ _ _ _ _, by first | exact Kd.R_nil _ _ _ _ _ | exact Kd.N_nil _ _ _ _ _ | exact Kd.V_nil _ _ _ _ _ | exact Kd.Q_nil _ _ _ _ _ | exact Kd.S_nil _ _ _ _ _, by repeat (first | (with_reducible first | exact HB.out | apply zA | apply zN | apply zD | refine zS ?_ GE295.out | refine zS ?_ GE296.out | refine zS ?_ GE305.out | refine zS ?_ GE306.out | refine zS ?_ GE311.out | refine zS ?_ GE315.out) | exact HB.out)⟩
         ·replace c40 := Bool.eq_false_iff.mpr c40
          subst c40
          have H1 : ((spec_fiMissing.f k2 x307000_1 x307001_1 x307002_1 x307003_1).bind fun bt316 => ((spec_liEdge.f k2 t297 t298 t299 t302 x296000_1 x296001_1 x13_2).bind fun bt324 => ((spec_fiLess.f k2 bt316.1 bt316.2.1 bt316.2.2.1 bt316.2.2.2 bt324.1 bt324.2.1 bt324.2.2.1 bt324.2.2.2).bind fun bt332 => ((spec_fiMissing.f k2 bt332.1 bt332.2.1 bt332.2.2.1 bt332.2.2.2).bind fun bt340 => (spec_liDraw.l0 k2 a3 (wrap64 (x12_1 + 1)) t308 t309 t297 t298 t299 t302 bt340.1 bt340.2.1 bt340.2.2.1 bt340.2.2.2))))) = some (r1, r2, r3, r4, r5) := by rw [if_neg (show ¬ (false = true) by decide)] at H; exact H
          clear H
          have H := H1
          clear H1
          replace H := Option.bind_eq_some_iff.mp H
          obtain ⟨⟨t316, t317, t318, t321⟩, A690, H⟩ := H
          replace H : ((spec_liEdge.f k2 t297 t298 t299 t302 x296000_1 x296001_1 x13_2).bind fun bt324 => ((spec_fiLess.f k2 t316 t317 t318 t321 bt324.1 bt324.2.1 bt324.2.2.1 bt324.2.2.2).bind fun bt332 => ((spec_fiMissing.f k2 bt332.1 bt332.2.1 bt332.2.2.1 bt332.2.2.2).bind fun bt340 => (spec_liDraw.l0 k2 a3 (wrap64 (x12_1 + 1)) t308 t309 t297 t298 t299 t302 bt340.1 bt340.2.1 bt340.2.2.1 bt340.2.2.2)))) = some (r1, r2, r3, r4, r5) := H
          have A69 := Aside0.mk A690
          clear A690
          replace H := Option.bind_eq_some_iff.mp H
          obtain ⟨⟨t324, t325, t326, t329⟩, A700, H⟩ := H
          replace H : ((spec_fiLess.f k2 t316 t317 t318 t321 t324 t325 t326 t329).bind fun bt332 => ((spec_fiMissing.f k2 bt332.1 bt332.2.1 bt332.2.2.1 bt332.2.2.2).bind fun bt340 => (spec_liDraw.l0 k2 a3 (wrap64 (x12_1 + 1)) t308 t309 t297 t298 t299 t302 bt340.1 bt340.2.1 bt340.2.2.1 bt340.2.2.2))) = some (r1, r2, r3, r4, r5) := H
          have A70 := Aside0.mk A700
          clear A700
          replace H := Option.bind_eq_some_iff.mp H
          obtain ⟨⟨t332, t333, t334, t337⟩, A710, H⟩ := H
          replace H : ((spec_fiMissing.f k2 t332 t333 t334 t337).bind fun bt340 => (spec_liDraw.l0 k2 a3 (wrap64 (x12_1 + 1)) t308 t309 t297 t298 t299 t302 bt340.1 bt340.2.1 bt340.2.2.1 bt340.2.2.2)) = some (r1, r2, r3, r4, r5) := H
          have A71 := Aside0.mk A710
          clear A710
          replace H := Option.bind_eq_some_iff.mp H
          obtain ⟨⟨t340, t341, t342, t345⟩, A720, H⟩ := H
          replace H : (spec_liDraw.l0 k2 a3 (wrap64 (x12_1 + 1)) t308 t309 t297 t298 t299 t302 t340 t341 t342 t345) = some (r1, r2, r3, r4, r5) := H
          have A72 := Aside0.mk A720
          clear A720
          have H' := Aside0.mk H
          clear H
          have hnb73 := NB305_295.out
          have hnc73 := NB295_305.out
          have hnb74 := NB305_296.out
          have hnc74 := NB296_305.out
          have hnb75 := NB305_306.out
          have hnc75 := NB306_305.out
          have hcz76_0 : wr.cell? ⟨gb305, 0, none⟩ = some (.int .i64 t297) := (zbC BK305.out 0).trans rfl
          have hcz76_1 : wr.cell? ⟨gb305, 1, none⟩ = some (.int .i64 t298) := (zbC BK305.out 1).trans rfl
          have hcz76_2 : wr.cell? ⟨gb305, 2, none⟩ = some (.slice Ao13 t299.length co13) := (zbC BK305.out 2).trans rfl
          have hcz76_3 : wr.cell? ⟨gb305, 3, none⟩ = some (.slice Ao14 t302.length co14) := (zbC BK305.out 3).trans rfl
          have hfz76_0 := zbF BK305.out 0
          have hfz76_1 := zbF BK305.out 1
          have hfz76_2 := zbF BK305.out 2
          have hfz76_3 := zbF BK305.out 3
          have hnb77 := NB295_296.out
          have hnc77 := NB296_295.out
          have hnb78 := NB295_306.out
          have hnc78 := NB306_295.out
          have hcz79_0 : wr.cell? ⟨gb295, 0, none⟩ = some (.int .i64 x296000_1) := (zbC BK295.out 0).trans rfl
          have hcz79_1 : wr.cell? ⟨gb295, 1, none⟩ = some (.int .i64 x296001_1) := (zbC BK295.out 1).trans rfl
          have hfz79_0 := zbF BK295.out 0
          have hfz79_1 := zbF BK295.out 1
          try go_wp2_with (first | ((with_reducible refine gate_callee (f := 82) rfl ?_); refine goesL_ (some 50) rfl rfl Tryd.func82 (by kernel_rfl) rfl #[.agg #[.int .i64 t297, .int .i64 t298, .slice Ao13 t299.length co13, .slice Ao14 t302.length co14], .agg #[.int .i64 x296000_1, .int .i64 x296001_1], .int .i64 x13_2] rfl (by (try simp only [List.map_toArray, List.map_cons, List.map_nil]); first | done | rfl | (simp only [List.length_drop, List.length_take]; rfl)) ?_; (with_reducible refine (spec_liNext.calls k2 t297 t298 _ _ t299 _ _ t302 x296000_1 x296001_1 x13_2 t308 t309 true _ ?side1 ?side2 ?side3 ?side4 A37.out).mono ?_); (case side1 => repeat (first | exact (Kd.R_reads' HO_306002.out).2.2 | (with_reducible refine Kd.C_alloc ?_ _) | (with_reducible refine Kd.C_drewN ?_ _) | (with_reducible refine Kd.C_drew ?_))); (case side2 => exact (Kd.R_reads' HO_306002.out).2.1); (case side3 => repeat (first | exact (Kd.R_reads' HO_306003.out).2.2 | (with_reducible refine Kd.C_alloc ?_ _) | (with_reducible refine Kd.C_drewN ?_ _) | (with_reducible refine Kd.C_drew ?_))); (case side4 => exact (Kd.R_reads' HO_306003.out).2.1); rintro e w80 ⟨rfl, hb⟩; refine ⟨_, rfl, ?_⟩; have n0_ := Aside0.mk (Kd.R_below (by (with_reducible repeat (first | apply Kd.R_alloc | apply Kd.R_drewN | apply Kd.R_drew)); exact HO_306002.out) hb); have n1_ := Aside0.mk (Kd.R_below (by (with_reducible repeat (first | apply Kd.R_alloc | apply Kd.R_drewN | apply Kd.R_drew)); exact HO_306003.out) hb); have n2_ := Aside0.mk (Kd.R_below (by (with_reducible repeat (first | apply Kd.R_alloc | apply Kd.R_drewN | apply Kd.R_drew)); exact HO_307002.out) hb); have n3_ := Aside0.mk (Kd.R_below (by (with_reducible repeat (first | apply Kd.R_alloc | apply Kd.R_drewN | apply Kd.R_drew)); exact HO_307003.out) hb); have n4_ := Aside0.mk (blk_below (g := gb295) (o := .cells #[.int .i64 x296000_1, .int .i64 x296001_1] 43 (0, 0)) (by (with_reducible repeat (first | refine zbN ?_ _ | refine zbD ?_ | refine zbA ?_ _)); exact BK295.out) hb); have n5_ := Aside0.mk (blk_below (g := gb296) (o := .cells #[.int .i64 x297000_1, .int .i64 x297001_1, .slice none 0 0, .slice none 0 0] 26 (0, 0)) (by (with_reducible repeat (first | refine zbN ?_ _ | refine zbD ?_ | refine zbA ?_ _)); exact BK296.out) hb); have n6_ := Aside0.mk (blk_below (g := gb305) (o := .cells #[.int .i64 t297, .int .i64 t298, .slice Ao13 t299.length co13, .slice Ao14 t302.length co14] 26 (0, 0)) (by (with_reducible repeat (first | refine zbN ?_ _ | refine zbD ?_ | refine zbA ?_ _)); exact BK305.out) hb); have n7_ := Aside0.mk (blk_below (g := gb306) (o := .cells #[.int .i64 x307000_1, .int .i64 x307001_1, u307002, u307003] 26 (0, 0)) (by (with_reducible repeat (first | refine zbN ?_ _ | refine zbD ?_ | refine zbA ?_ _)); exact BK306.out) hb); have n8_ := Aside0.mk (below_step (by repeat (first | (with_reducible first | exact HB.out | apply zA | apply zN | apply zD | refine zS ?_ GE295.out | refine zS ?_ GE296.out | refine zS ?_ GE305.out | refine zS ?_ GE306.out) | exact HB.out)) hb); clear HO_306002; clear HO_306003; clear HO_307002; clear HO_307003; clear BK295; clear BK296; clear BK305; clear BK306; clear HB; have HO_306002 := n0_; have HO_306003 := n1_; have HO_307002 := n2_; have HO_307003 := n3_; have BK295 := n4_; have BK296 := n5_; have BK305 := n6_; have BK306 := n7_; have HB := n8_; clear n0_ n1_ n2_ n3_ n4_ n5_ n6_ n7_ n8_; (try clear hb); (try clear hb2); (try clear hk); (try clear hi)) | ((with_reducible refine gate_dst (N := 15) rfl ?_); refine box_event ?hg (N := 15) ?hd (cs := #[.int .i64 0, .int .i64 0]) (t := 43) ?hr ?_; (case hd => rfl); (case hg => rfl); (case hr => first | (go_simp; done) | (go_simp; rfl)); intro gb311 hg w81 hbox hb; have n0_ := Aside0.mk (Kd.R_below (by (with_reducible repeat (first | apply Kd.R_alloc | apply Kd.R_drewN | apply Kd.R_drew)); exact HO_306002.out) hb); have n1_ := Aside0.mk (Kd.R_below (by (with_reducible repeat (first | apply Kd.R_alloc | apply Kd.R_drewN | apply Kd.R_drew)); exact HO_306003.out) hb); have n2_ := Aside0.mk (Kd.R_below (by (with_reducible repeat (first | apply Kd.R_alloc | apply Kd.R_drewN | apply Kd.R_drew)); exact HO_307002.out) hb); have n3_ := Aside0.mk (Kd.R_below (by (with_reducible repeat (first | apply Kd.R_alloc | apply Kd.R_drewN | apply Kd.R_drew)); exact HO_307003.out) hb); have n4_ := Aside0.mk (blk_below (g := gb295) (o := .cells #[.int .i64 x296000_1, .int .i64 x296001_1] 43 (0, 0)) (by (with_reducible repeat (first | refine zbN ?_ _ | refine zbD ?_ | refine zbA ?_ _)); exact BK295.out) hb); have n5_ := Aside0.mk (blk_below (g := gb296) (o := .cells #[.int .i64 x297000_1, .int .i64 x297001_1, .slice none 0 0, .slice none 0 0] 26 (0, 0)) (by (with_reducible repeat (first | refine zbN ?_ _ | refine zbD ?_ | refine zbA ?_ _)); exact BK296.out) hb); have n6_ := Aside0.mk (blk_below (g := gb305) (o := .cells #[.int .i64 t297, .int .i64 t298, .slice Ao13 t299.length co13, .slice Ao14 t302.length co14] 26 (0, 0)) (by (with_reducible repeat (first | refine zbN ?_ _ | refine zbD ?_ | refine zbA ?_ _)); exact BK305.out) hb); have n7_ := Aside0.mk (blk_below (g := gb306) (o := .cells #[.int .i64 x307000_1, .int .i64 x307001_1, u307002, u307003] 26 (0, 0)) (by (with_reducible repeat (first | refine zbN ?_ _ | refine zbD ?_ | refine zbA ?_ _)); exact BK306.out) hb); have n8_ := Aside0.mk (below_step (by repeat (first | (with_reducible first | exact HB.out | apply zA | apply zN | apply zD | refine zS ?_ GE295.out | refine zS ?_ GE296.out | refine zS ?_ GE305.out | refine zS ?_ GE306.out) | exact HB.out)) hb); have n9_ := Aside0.mk (hbox); have n10_ := Aside0.mk ((by rw [hg]; exact (below_size (by repeat (first | (with_reducible first | exact HB.out | apply zA | apply zN | apply zD | refine zS ?_ GE295.out | refine zS ?_ GE296.out | refine zS ?_ GE305.out | refine zS ?_ GE306.out) | exact HB.out))) : w.heap.size ≤ gb311)); have n11_ := Aside0.mk ((by rw [hg]; exact (below_size (by repeat (first | (with_reducible first | exact HB.out | apply zA | apply zN | apply zD | refine zS ?_ GE295.out | refine zS ?_ GE296.out | refine zS ?_ GE305.out | refine zS ?_ GE306.out) | exact HB.out))) : w.heap.size ≤ gb311)); have n12_ := Aside0.mk ((by rw [hg]; exact Nat.ne_of_lt (blk_lt (g := gb295) (o := .cells #[.int .i64 x296000_1, .int .i64 x296001_1] 43 (0, 0)) (by (with_reducible repeat (first | refine zbN ?_ _ | refine zbD ?_ | refine zbA ?_ _)); exact BK295.out)) : gb295 ≠ gb311)); have n13_ := Aside0.mk ((by rw [hg]; exact Nat.ne_of_gt (blk_lt (g := gb295) (o := .cells #[.int .i64 x296000_1, .int .i64 x296001_1] 43 (0, 0)) (by (with_reducible repeat (first | refine zbN ?_ _ | refine zbD ?_ | refine zbA ?_ _)); exact BK295.out)) : gb311 ≠ gb295)); have n14_ := Aside0.mk ((by rw [hg]; exact Nat.ne_of_lt (blk_lt (g := gb296) (o := .cells #[.int .i64 x297000_1, .int .i64 x297001_1, .slice none 0 0, .slice none 0 0] 26 (0, 0)) (by (with_reducible repeat (first | refine zbN ?_ _ | refine zbD ?_ | refine zbA ?_ _)); exact BK296.out)) : gb296 ≠ gb311)); have n15_ := Aside0.mk ((by rw [hg]; exact Nat.ne_of_gt (blk_lt (g := gb296) (o := .cells #[.int .i64 x297000_1, .int .i64 x297001_1, .slice none 0 0, .slice none 0 0] 26 (0, 0)) (by (with_reducible repeat (first | refine zbN ?_ _ | refine zbD ?_ | refine zbA ?_ _)); exact BK296.out)) : gb311 ≠ gb296)); have n16_ := Aside0.mk ((by rw [hg]; exact Nat.ne_of_lt (blk_lt (g := gb305) (o := .cells #[.int .i64 t297, .int .i64 t298, .slice Ao13 t299.length co13, .slice Ao14 t302.length co14] 26 (0, 0)) (by (with_reducible repeat (first | refine zbN ?_ _ | refine zbD ?_ | refine zbA ?_ _)); exact BK305.out)) : gb305 ≠ gb311)); have n17_ := Aside0.mk ((by rw [hg]; exact Nat.ne_of_gt (blk_lt (g := gb305) (o := .cells #[.int .i64 t297, .int .i64 t298, .slice Ao13 t299.length co13, .slice Ao14 t302.length co14] 26 (0, 0)) (by (with_reducible repeat (first | refine zbN ?_ _ | refine zbD ?_ | refine zbA ?_ _)); exact BK305.out)) : gb311 ≠ gb305)); have n18_ := Aside0.mk ((by rw [hg]; exact Nat.ne_of_lt (blk_lt (g := gb306) (o := .cells #[.int .i64 x307000_1, .int .i64 x307001_1, u307002, u307003] 26 (0, 0)) (by (with_reducible repeat (first | refine zbN ?_ _ | refine zbD ?_ | refine zbA ?_ _)); exact BK306.out)) : gb306 ≠ gb311)); have n19_ := Aside0.mk ((by rw [hg]; exact Nat.ne_of_gt (blk_lt (g := gb306) (o := .cells #[.int .i64 x307000_1, .int .i64 x307001_1, u307002, u307003] 26 (0, 0)) (by (with_reducible repeat (first | refine zbN ?_ _ | refine zbD ?_ | refine zbA ?_ _)); exact BK306.out)) : gb311 ≠ gb306)); clear HO_306002; clear HO_306003; clear HO_307002; clear HO_307003; clear BK295; clear BK296; clear BK305; clear BK306; clear HB; have HO_306002 := n0_; have HO_306003 := n1_; have HO_307002 := n2_; have HO_307003 := n3_; have BK295 := n4_; have BK296 := n5_; have BK305 := n6_; have BK306 := n7_; have HB := n8_; have BK311 := n9_; have GW311 := n10_; have GE311 := n11_; have NB295_311 := n12_; have NB311_295 := n13_; have NB296_311 := n14_; have NB311_296 := n15_; have NB305_311 := n16_; have NB311_305 := n17_; have NB306_311 := n18_; have NB311_306 := n19_; clear n0_ n1_ n2_ n3_ n4_ n5_ n6_ n7_ n8_ n9_ n10_ n11_ n12_ n13_ n14_ n15_ n16_ n17_ n18_ n19_; clear hb hbox hg; have hnb82 := NB311_295.out; have hnc82 := NB295_311.out; have hnb83 := NB311_296.out; have hnc83 := NB296_311.out; have hnb84 := NB311_305.out; have hnc84 := NB305_311.out; have hnb85 := NB311_306.out; have hnc85 := NB306_311.out; have hcz86_0 : w81.cell? ⟨gb311, 0, none⟩ = some (.int .i64 0) := (zbC BK311.out 0).trans rfl; have hcz86_1 : w81.cell? ⟨gb311, 1, none⟩ = some (.int .i64 0) := (zbC BK311.out 1).trans rfl; have hfz86_0 := zbF BK311.out 0; have hfz86_1 := zbF BK311.out 1; have hnb87 := NB306_296.out; have hnc87 := NB296_306.out; have hcz88_0 : w81.cell? ⟨gb306, 0, none⟩ = some (.int .i64 x307000_1) := (zbC BK306.out 0).trans rfl; have hcz88_1 : w81.cell? ⟨gb306, 1, none⟩ = some (.int .i64 x307001_1) := (zbC BK306.out 1).trans rfl; have hcz88_2 : w81.cell? ⟨gb306, 2, none⟩ = some (u307002) := (zbC BK306.out 2).trans rfl; have hcz88_3 : w81.cell? ⟨gb306, 3, none⟩ = some (u307003) := (zbC BK306.out 3).trans rfl; have hfz88_0 := zbF BK306.out 0; have hfz88_1 := zbF BK306.out 1; have hfz88_2 := zbF BK306.out 2; have hfz88_3 := zbF BK306.out 3; have hcz89_0 : w81.cell? ⟨gb295, 0, none⟩ = some (.int .i64 x296000_1) := (zbC BK295.out 0).trans rfl; have hcz89_1 : w81.cell? ⟨gb295, 1, none⟩ = some (.int .i64 x296001_1) := (zbC BK295.out 1).trans rfl; have hfz89_0 := zbF BK295.out 0; have hfz89_1 := zbF BK295.out 1; obtain ⟨Ao90, co90, eo90⟩ := Kd.R_slice HO_307002.out; subst eo90; obtain ⟨Ao91, co91, eo91⟩ := Kd.R_slice HO_307003.out; subst eo91) | ((with_reducible refine gate_callee (f := 82) rfl ?_); refine goesL_ (some 60) rfl rfl Tryd.func82 (by kernel_rfl) rfl #[.agg #[.int .i64 x307000_1, .int .i64 x307001_1, .slice Ao90 x307002_1.length co90, .slice Ao91 x307003_1.length co91], .agg #[.int .i64 x296000_1, .int .i64 x296001_1], .int .i64 x13_2] rfl (by (try simp only [List.map_toArray, List.map_cons, List.map_nil]); first | done | rfl | (simp only [List.length_drop, List.length_take]; rfl)) ?_; (with_reducible refine (spec_liNext.calls k2 x307000_1 x307001_1 _ _ x307002_1 _ _ x307003_1 x296000_1 x296001_1 x13_2 t312 t313 false _ ?side1 ?side2 ?side3 ?side4 A39.out).mono ?_); (case side1 => refine (Kd.R_reads' (e := 3) (base := w.heap.size) (ok := fun k_ => (some k_ ≠ (.slice Ao13 t299.length co13 : Value).ownBlock ∧ (some k_ ≠ (.slice Ao14 t302.length co14 : Value).ownBlock ∧ some k_ ≠ (.slice Ao91 x307003_1.length co91 : Value).ownBlock))) (n := x307002_1.length) (c := co90) ?_).2.2; exact (by (with_reducible repeat (first | apply Kd.R_alloc | apply Kd.R_drewN | apply Kd.R_drew)); exact (Kd.R_mono (Kd.R_far (p := ⟨gb311, 1, none⟩) (Kd.R_far (p := ⟨gb311, 0, none⟩) (Kd.R_types HO_307002.out BK311.out (by decide)) (fun _ hk => hk.2) (.int .i64 t308)) (fun _ hk => hk.2) (.int .i64 t309)) (fun _ h_ => h_.1)))); (case side2 => exact (Kd.R_reads' HO_307002.out).2.1); (case side3 => refine (Kd.R_reads' (e := 3) (base := w.heap.size) (ok := fun k_ => (some k_ ≠ (.slice Ao13 t299.length co13 : Value).ownBlock ∧ (some k_ ≠ (.slice Ao14 t302.length co14 : Value).ownBlock ∧ some k_ ≠ (.slice Ao90 x307002_1.length co90 : Value).ownBlock))) (n := x307003_1.length) (c := co91) ?_).2.2; exact (by (with_reducible repeat (first | apply Kd.R_alloc | apply Kd.R_drewN | apply Kd.R_drew)); exact (Kd.R_mono (Kd.R_far (p := ⟨gb311, 1, none⟩) (Kd.R_far (p := ⟨gb311, 0, none⟩) (Kd.R_types HO_307003.out BK311.out (by decide)) (fun _ hk => hk.2) (.int .i64 t308)) (fun _ hk => hk.2) (.int .i64 t309)) (fun _ h_ => h_.1)))); (case side4 => exact (Kd.R_reads' HO_307003.out).2.1); rintro e w92 ⟨rfl, hb⟩; refine ⟨_, rfl, ?_⟩; have n0_ := Aside0.mk (Kd.R_below (by (with_reducible repeat (first | apply Kd.R_alloc | apply Kd.R_drewN | apply Kd.R_drew)); exact (Kd.R_mono (Kd.R_far (p := ⟨gb311, 1, none⟩) (Kd.R_far (p := ⟨gb311, 0, none⟩) (Kd.R_types HO_306002.out BK311.out (by decide)) (fun _ hk => hk.2) (.int .i64 t308)) (fun _ hk => hk.2) (.int .i64 t309)) (fun _ h_ => h_.1))) hb); have n1_ := Aside0.mk (Kd.R_below (by (with_reducible repeat (first | apply Kd.R_alloc | apply Kd.R_drewN | apply Kd.R_drew)); exact (Kd.R_mono (Kd.R_far (p := ⟨gb311, 1, none⟩) (Kd.R_far (p := ⟨gb311, 0, none⟩) (Kd.R_types HO_306003.out BK311.out (by decide)) (fun _ hk => hk.2) (.int .i64 t308)) (fun _ hk => hk.2) (.int .i64 t309)) (fun _ h_ => h_.1))) hb); have n2_ := Aside0.mk (Kd.R_below (by (with_reducible repeat (first | apply Kd.R_alloc | apply Kd.R_drewN | apply Kd.R_drew)); exact (Kd.R_mono (Kd.R_far (p := ⟨gb311, 1, none⟩) (Kd.R_far (p := ⟨gb311, 0, none⟩) (Kd.R_types HO_307002.out BK311.out (by decide)) (fun _ hk => hk.2) (.int .i64 t308)) (fun _ hk => hk.2) (.int .i64 t309)) (fun _ h_ => h_.1))) hb); have n3_ := Aside0.mk (Kd.R_below (by (with_reducible repeat (first | apply Kd.R_alloc | apply Kd.R_drewN | apply Kd.R_drew)); exact (Kd.R_mono (Kd.R_far (p := ⟨gb311, 1, none⟩) (Kd.R_far (p := ⟨gb311, 0, none⟩) (Kd.R_types HO_307003.out BK311.out (by decide)) (fun _ hk => hk.2) (.int .i64 t308)) (fun _ hk => hk.2) (.int .i64 t309)) (fun _ h_ => h_.1))) hb); have n4_ := Aside0.mk (blk_below (g := gb295) (o := .cells #[.int .i64 x296000_1, .int .i64 x296001_1] 43 (0, 0)) (by (with_reducible repeat (first | refine zbN ?_ _ | refine zbD ?_ | refine zbA ?_ _)); refine blk_far ?_ NB295_311.out _; (with_reducible repeat (first | refine zbN ?_ _ | refine zbD ?_ | refine zbA ?_ _)); refine blk_far ?_ NB295_311.out _; (with_reducible repeat (first | refine zbN ?_ _ | refine zbD ?_ | refine zbA ?_ _)); exact BK295.out) hb); have n5_ := Aside0.mk (blk_below (g := gb296) (o := .cells #[.int .i64 x297000_1, .int .i64 x297001_1, .slice none 0 0, .slice none 0 0] 26 (0, 0)) (by (with_reducible repeat (first | refine zbN ?_ _ | refine zbD ?_ | refine zbA ?_ _)); refine blk_far ?_ NB296_311.out _; (with_reducible repeat (first | refine zbN ?_ _ | refine zbD ?_ | refine zbA ?_ _)); refine blk_far ?_ NB296_311.out _; (with_reducible repeat (first | refine zbN ?_ _ | refine zbD ?_ | refine zbA ?_ _)); exact BK296.out) hb); have n6_ := Aside0.mk (blk_below (g := gb305) (o := .cells #[.int .i64 t297, .int .i64 t298, .slice Ao13 t299.length co13, .slice Ao14 t302.length co14] 26 (0, 0)) (by (with_reducible repeat (first | refine zbN ?_ _ | refine zbD ?_ | refine zbA ?_ _)); refine blk_far ?_ NB305_311.out _; (with_reducible repeat (first | refine zbN ?_ _ | refine zbD ?_ | refine zbA ?_ _)); refine blk_far ?_ NB305_311.out _; (with_reducible repeat (first | refine zbN ?_ _ | refine zbD ?_ | refine zbA ?_ _)); exact BK305.out) hb); have n7_ := Aside0.mk (blk_below (g := gb306) (o := .cells #[.int .i64 x307000_1, .int .i64 x307001_1, .slice Ao90 x307002_1.length co90, .slice Ao91 x307003_1.length co91] 26 (0, 0)) (by (with_reducible repeat (first | refine zbN ?_ _ | refine zbD ?_ | refine zbA ?_ _)); refine blk_far ?_ NB306_311.out _; (with_reducible repeat (first | refine zbN ?_ _ | refine zbD ?_ | refine zbA ?_ _)); refine blk_far ?_ NB306_311.out _; (with_reducible repeat (first | refine zbN ?_ _ | refine zbD ?_ | refine zbA ?_ _)); exact BK306.out) hb); have n8_ := Aside0.mk (blk_below (g := gb311) (o := .cells #[.int .i64 t308, .int .i64 t309] 43 (0, 0)) (by (with_reducible repeat (first | refine zbN ?_ _ | refine zbD ?_ | refine zbA ?_ _)); refine blk_put (cs := #[.int .i64 t308, .int .i64 0]) ?_ 1 _ rfl; (with_reducible repeat (first | refine zbN ?_ _ | refine zbD ?_ | refine zbA ?_ _)); refine blk_put (cs := #[.int .i64 0, .int .i64 0]) ?_ 0 _ rfl; (with_reducible repeat (first | refine zbN ?_ _ | refine zbD ?_ | refine zbA ?_ _)); exact BK311.out) hb); have n9_ := Aside0.mk (below_step (by repeat (first | (with_reducible first | exact HB.out | apply zA | apply zN | apply zD | refine zS ?_ GE295.out | refine zS ?_ GE296.out | refine zS ?_ GE305.out | refine zS ?_ GE306.out | refine zS ?_ GE311.out) | exact HB.out)) hb); clear HO_306002; clear HO_306003; clear HO_307002; clear HO_307003; clear BK295; clear BK296; clear BK305; clear BK306; clear BK311; clear HB; have HO_306002 := n0_; have HO_306003 := n1_; have HO_307002 := n2_; have HO_307003 := n3_; have BK295 := n4_; have BK296 := n5_; have BK305 := n6_; have BK306 := n7_; have BK311 := n8_; have HB := n9_; clear n0_ n1_ n2_ n3_ n4_ n5_ n6_ n7_ n8_ n9_; (try clear hb); (try clear hb2); (try clear hk); (try clear hi)) | ((with_reducible refine gate_dst (N := 17) rfl ?_); refine box_event ?hg (N := 17) ?hd (cs := #[.int .i64 0, .int .i64 0]) (t := 43) ?hr ?_; (case hd => rfl); (case hg => rfl); (case hr => first | (go_simp; done) | (go_simp; rfl)); intro gb315 hg w93 hbox hb; have n0_ := Aside0.mk (Kd.R_below (by (with_reducible repeat (first | apply Kd.R_alloc | apply Kd.R_drewN | apply Kd.R_drew)); exact HO_306002.out) hb); have n1_ := Aside0.mk (Kd.R_below (by (with_reducible repeat (first | apply Kd.R_alloc | apply Kd.R_drewN | apply Kd.R_drew)); exact HO_306003.out) hb); have n2_ := Aside0.mk (Kd.R_below (by (with_reducible repeat (first | apply Kd.R_alloc | apply Kd.R_drewN | apply Kd.R_drew)); exact HO_307002.out) hb); have n3_ := Aside0.mk (Kd.R_below (by (with_reducible repeat (first | apply Kd.R_alloc | apply Kd.R_drewN | apply Kd.R_drew)); exact HO_307003.out) hb); have n4_ := Aside0.mk (blk_below (g := gb295) (o := .cells #[.int .i64 x296000_1, .int .i64 x296001_1] 43 (0, 0)) (by (with_reducible repeat (first | refine zbN ?_ _ | refine zbD ?_ | refine zbA ?_ _)); exact BK295.out) hb); have n5_ := Aside0.mk (blk_below (g := gb296) (o := .cells #[.int .i64 x297000_1, .int .i64 x297001_1, .slice none 0 0, .slice none 0 0] 26 (0, 0)) (by (with_reducible repeat (first | refine zbN ?_ _ | refine zbD ?_ | refine zbA ?_ _)); exact BK296.out) hb); have n6_ := Aside0.mk (blk_below (g := gb305) (o := .cells #[.int .i64 t297, .int .i64 t298, .slice Ao13 t299.length co13, .slice Ao14 t302.length co14] 26 (0, 0)) (by (with_reducible repeat (first | refine zbN ?_ _ | refine zbD ?_ | refine zbA ?_ _)); exact BK305.out) hb); have n7_ := Aside0.mk (blk_below (g := gb306) (o := .cells #[.int .i64 x307000_1, .int .i64 x307001_1, .slice Ao90 x307002_1.length co90, .slice Ao91 x307003_1.length co91] 26 (0, 0)) (by (with_reducible repeat (first | refine zbN ?_ _ | refine zbD ?_ | refine zbA ?_ _)); exact BK306.out) hb); have n8_ := Aside0.mk (blk_below (g := gb311) (o := .cells #[.int .i64 t308, .int .i64 t309] 43 (0, 0)) (by (with_reducible repeat (first | refine zbN ?_ _ | refine zbD ?_ | refine zbA ?_ _)); exact BK311.out) hb); have n9_ := Aside0.mk (below_step (by repeat (first | (with_reducible first | exact HB.out | apply zA | apply zN | apply zD | refine zS ?_ GE295.out | refine zS ?_ GE296.out | refine zS ?_ GE305.out | refine zS ?_ GE306.out | refine zS ?_ GE311.out) | exact HB.out)) hb); have n10_ := Aside0.mk (hbox); have n11_ := Aside0.mk ((by rw [hg]; exact (below_size (by repeat (first | (with_reducible first | exact HB.out | apply zA | apply zN | apply zD | refine zS ?_ GE295.out | refine zS ?_ GE296.out | refine zS ?_ GE305.out | refine zS ?_ GE306.out | refine zS ?_ GE311.out) | exact HB.out))) : w.heap.size ≤ gb315)); have n12_ := Aside0.mk ((by rw [hg]; exact (below_size (by repeat (first | (with_reducible first | exact HB.out | apply zA | apply zN | apply zD | refine zS ?_ GE295.out | refine zS ?_ GE296.out | refine zS ?_ GE305.out | refine zS ?_ GE306.out | refine zS ?_ GE311.out) | exact HB.out))) : w.heap.size ≤ gb315)); have n13_ := Aside0.mk ((by rw [hg]; exact Nat.ne_of_lt (blk_lt (g := gb295) (o := .cells #[.int .i64 x296000_1, .int .i64 x296001_1] 43 (0, 0)) (by (with_reducible repeat (first | refine zbN ?_ _ | refine zbD ?_ | refine zbA ?_ _)); exact BK295.out)) : gb295 ≠ gb315)); have n14_ := Aside0.mk ((by rw [hg]; exact Nat.ne_of_gt (blk_lt (g := gb295) (o := .cells #[.int .i64 x296000_1, .int .i64 x296001_1] 43 (0, 0)) (by (with_reducible repeat (first | refine zbN ?_ _ | refine zbD ?_ | refine zbA ?_ _)); exact BK295.out)) : gb315 ≠ gb295)); have n15_ := Aside0.mk ((by rw [hg]; exact Nat.ne_of_lt (blk_lt (g := gb296) (o := .cells #[.int .i64 x297000_1, .int .i64 x297001_1, .slice none 0 0, .slice none 0 0] 26 (0, 0)) (by (with_reducible repeat (first | refine zbN ?_ _ | refine zbD ?_ | refine zbA ?_ _)); exact BK296.out)) : gb296 ≠ gb315)); have n16_ := Aside0.mk ((by rw [hg]; exact Nat.ne_of_gt (blk_lt (g := gb296) (o := .cells #[.int .i64 x297000_1, .int .i64 x297001_1, .slice none 0 0, .slice none 0 0] 26 (0, 0)) (by (with_reducible repeat (first | refine zbN ?_ _ | refine zbD ?_ | refine zbA ?_ _)); exact BK296.out)) : gb315 ≠ gb296)); have n17_ := Aside0.mk ((by rw [hg]; exact Nat.ne_of_lt (blk_lt (g := gb305) (o := .cells #[.int .i64 t297, .int .i64 t298, .slice Ao13 t299.length co13, .slice Ao14 t302.length co14] 26 (0, 0)) (by (with_reducible repeat (first | refine zbN ?_ _ | refine zbD ?_ | refine zbA ?_ _)); exact BK305.out)) : gb305 ≠ gb315)); have n18_ := Aside0.mk ((by rw [hg]; exact Nat.ne_of_gt (blk_lt (g := gb305) (o := .cells #[.int .i64 t297, .int .i64 t298, .slice Ao13 t299.length co13, .slice Ao14 t302.length co14] 26 (0, 0)) (by (with_reducible repeat (first | refine zbN ?_ _ | refine zbD ?_ | refine zbA ?_ _)); exact BK305.out)) : gb315 ≠ gb305)); have n19_ := Aside0.mk ((by rw [hg]; exact Nat.ne_of_lt (blk_lt (g := gb306) (o := .cells #[.int .i64 x307000_1, .int .i64 x307001_1, .slice Ao90 x307002_1.length co90, .slice Ao91 x307003_1.length co91] 26 (0, 0)) (by (with_reducible repeat (first | refine zbN ?_ _ | refine zbD ?_ | refine zbA ?_ _)); exact BK306.out)) : gb306 ≠ gb315)); have n20_ := Aside0.mk ((by rw [hg]; exact Nat.ne_of_gt (blk_lt (g := gb306) (o := .cells #[.int .i64 x307000_1, .int .i64 x307001_1, .slice Ao90 x307002_1.length co90, .slice Ao91 x307003_1.length co91] 26 (0, 0)) (by (with_reducible repeat (first | refine zbN ?_ _ | refine zbD ?_ | refine zbA ?_ _)); exact BK306.out)) : gb315 ≠ gb306)); have n21_ := Aside0.mk ((by rw [hg]; exact Nat.ne_of_lt (blk_lt (g := gb311) (o := .cells #[.int .i64 t308, .int .i64 t309] 43 (0, 0)) (by (with_reducible repeat (first | refine zbN ?_ _ | refine zbD ?_ | refine zbA ?_ _)); exact BK311.out)) : gb311 ≠ gb315)); have n22_ := Aside0.mk ((by rw [hg]; exact Nat.ne_of_gt (blk_lt (g := gb311) (o := .cells #[.int .i64 t308, .int .i64 t309] 43 (0, 0)) (by (with_reducible repeat (first | refine zbN ?_ _ | refine zbD ?_ | refine zbA ?_ _)); exact BK311.out)) : gb315 ≠ gb311)); clear HO_306002; clear HO_306003; clear HO_307002; clear HO_307003; clear BK295; clear BK296; clear BK305; clear BK306; clear BK311; clear HB; have HO_306002 := n0_; have HO_306003 := n1_; have HO_307002 := n2_; have HO_307003 := n3_; have BK295 := n4_; have BK296 := n5_; have BK305 := n6_; have BK306 := n7_; have BK311 := n8_; have HB := n9_; have BK315 := n10_; have GW315 := n11_; have GE315 := n12_; have NB295_315 := n13_; have NB315_295 := n14_; have NB296_315 := n15_; have NB315_296 := n16_; have NB305_315 := n17_; have NB315_305 := n18_; have NB306_315 := n19_; have NB315_306 := n20_; have NB311_315 := n21_; have NB315_311 := n22_; clear n0_ n1_ n2_ n3_ n4_ n5_ n6_ n7_ n8_ n9_ n10_ n11_ n12_ n13_ n14_ n15_ n16_ n17_ n18_ n19_ n20_ n21_ n22_; clear hb hbox hg; have hnb94 := NB315_295.out; have hnc94 := NB295_315.out; have hnb95 := NB315_296.out; have hnc95 := NB296_315.out; have hnb96 := NB315_305.out; have hnc96 := NB305_315.out; have hnb97 := NB315_306.out; have hnc97 := NB306_315.out; have hnb98 := NB315_311.out; have hnc98 := NB311_315.out; have hcz99_0 : w93.cell? ⟨gb315, 0, none⟩ = some (.int .i64 0) := (zbC BK315.out 0).trans rfl; have hcz99_1 : w93.cell? ⟨gb315, 1, none⟩ = some (.int .i64 0) := (zbC BK315.out 1).trans rfl; have hfz99_0 := zbF BK315.out 0; have hfz99_1 := zbF BK315.out 1))
          have n0_ : Aside0 (Kd.R (Kd.int .i64) 3 ((w93.setCell ⟨gb315, 0, none⟩ (.int .i64 t312)).setCell ⟨gb315, 1, none⟩ (.int .i64 t313)) w.heap.size (fun k_ => some k_ ≠ (.slice Ao14 t302.length co14 : Value).ownBlock ∧ some k_ ≠ (.slice Ao90 x307002_1.length co90 : Value).ownBlock ∧ some k_ ≠ (.slice Ao91 x307003_1.length co91 : Value).ownBlock) (.slice Ao13 t299.length co13) t299) := ⟨by (with_reducible repeat (first | apply Kd.R_alloc | apply Kd.R_drewN | apply Kd.R_drew)); exact Kd.R_mono (Kd.R_far (p := ⟨gb315, 1, none⟩) (Kd.R_far (p := ⟨gb315, 0, none⟩) (Kd.R_types HO_306002.out BK315.out (by decide)) (fun _ hk => hk.2) (.int .i64 t312)) (fun _ hk => hk.2) (.int .i64 t313)) (fun _ hk => ⟨hk.1.1, ⟨hk.1.2.1, hk.1.2.2⟩⟩)⟩
          have n1_ : Aside0 (Kd.R (Kd.int .i64) 3 ((w93.setCell ⟨gb315, 0, none⟩ (.int .i64 t312)).setCell ⟨gb315, 1, none⟩ (.int .i64 t313)) w.heap.size (fun k_ => some k_ ≠ (.slice Ao13 t299.length co13 : Value).ownBlock ∧ some k_ ≠ (.slice Ao90 x307002_1.length co90 : Value).ownBlock ∧ some k_ ≠ (.slice Ao91 x307003_1.length co91 : Value).ownBlock) (.slice Ao14 t302.length co14) t302) := ⟨by (with_reducible repeat (first | apply Kd.R_alloc | apply Kd.R_drewN | apply Kd.R_drew)); exact Kd.R_mono (Kd.R_far (p := ⟨gb315, 1, none⟩) (Kd.R_far (p := ⟨gb315, 0, none⟩) (Kd.R_types HO_306003.out BK315.out (by decide)) (fun _ hk => hk.2) (.int .i64 t312)) (fun _ hk => hk.2) (.int .i64 t313)) (fun _ hk => ⟨hk.1.1, ⟨hk.1.2.1, hk.1.2.2⟩⟩)⟩
          have n2_ : Aside0 (Kd.R (Kd.int .i64) 3 ((w93.setCell ⟨gb315, 0, none⟩ (.int .i64 t312)).setCell ⟨gb315, 1, none⟩ (.int .i64 t313)) w.heap.size (fun k_ => some k_ ≠ (.slice Ao13 t299.length co13 : Value).ownBlock ∧ some k_ ≠ (.slice Ao14 t302.length co14 : Value).ownBlock ∧ some k_ ≠ (.slice Ao91 x307003_1.length co91 : Value).ownBlock) (.slice Ao90 x307002_1.length co90) x307002_1) := ⟨by (with_reducible repeat (first | apply Kd.R_alloc | apply Kd.R_drewN | apply Kd.R_drew)); exact Kd.R_mono (Kd.R_far (p := ⟨gb315, 1, none⟩) (Kd.R_far (p := ⟨gb315, 0, none⟩) (Kd.R_types HO_307002.out BK315.out (by decide)) (fun _ hk => hk.2) (.int .i64 t312)) (fun _ hk => hk.2) (.int .i64 t313)) (fun _ hk => ⟨hk.1.1, ⟨hk.1.2.1, hk.1.2.2⟩⟩)⟩
          have n3_ : Aside0 (Kd.R (Kd.int .i64) 3 ((w93.setCell ⟨gb315, 0, none⟩ (.int .i64 t312)).setCell ⟨gb315, 1, none⟩ (.int .i64 t313)) w.heap.size (fun k_ => some k_ ≠ (.slice Ao13 t299.length co13 : Value).ownBlock ∧ some k_ ≠ (.slice Ao14 t302.length co14 : Value).ownBlock ∧ some k_ ≠ (.slice Ao90 x307002_1.length co90 : Value).ownBlock) (.slice Ao91 x307003_1.length co91) x307003_1) := ⟨by (with_reducible repeat (first | apply Kd.R_alloc | apply Kd.R_drewN | apply Kd.R_drew)); exact Kd.R_mono (Kd.R_far (p := ⟨gb315, 1, none⟩) (Kd.R_far (p := ⟨gb315, 0, none⟩) (Kd.R_types HO_307003.out BK315.out (by decide)) (fun _ hk => hk.2) (.int .i64 t312)) (fun _ hk => hk.2) (.int .i64 t313)) (fun _ hk => ⟨hk.1.1, ⟨hk.1.2.1, hk.1.2.2⟩⟩)⟩
          have n4_ : Aside0 (((w93.setCell ⟨gb315, 0, none⟩ (.int .i64 t312)).setCell ⟨gb315, 1, none⟩ (.int .i64 t313)).heap[gb295]? = some (.cells #[.int .i64 x296000_1, .int .i64 x296001_1] 43 (0, 0))) := ⟨by (with_reducible repeat (first | refine zbN ?_ _ | refine zbD ?_ | refine zbA ?_ _)); refine blk_far ?_ NB295_315.out _; (with_reducible repeat (first | refine zbN ?_ _ | refine zbD ?_ | refine zbA ?_ _)); refine blk_far ?_ NB295_315.out _; (with_reducible repeat (first | refine zbN ?_ _ | refine zbD ?_ | refine zbA ?_ _)); exact BK295.out⟩
          have n5_ : Aside0 (((w93.setCell ⟨gb315, 0, none⟩ (.int .i64 t312)).setCell ⟨gb315, 1, none⟩ (.int .i64 t313)).heap[gb296]? = some (.cells #[.int .i64 x297000_1, .int .i64 x297001_1, .slice none 0 0, .slice none 0 0] 26 (0, 0))) := ⟨by (with_reducible repeat (first | refine zbN ?_ _ | refine zbD ?_ | refine zbA ?_ _)); refine blk_far ?_ NB296_315.out _; (with_reducible repeat (first | refine zbN ?_ _ | refine zbD ?_ | refine zbA ?_ _)); refine blk_far ?_ NB296_315.out _; (with_reducible repeat (first | refine zbN ?_ _ | refine zbD ?_ | refine zbA ?_ _)); exact BK296.out⟩
          have n6_ : Aside0 (((w93.setCell ⟨gb315, 0, none⟩ (.int .i64 t312)).setCell ⟨gb315, 1, none⟩ (.int .i64 t313)).heap[gb305]? = some (.cells #[.int .i64 t297, .int .i64 t298, .slice Ao13 t299.length co13, .slice Ao14 t302.length co14] 26 (0, 0))) := ⟨by (with_reducible repeat (first | refine zbN ?_ _ | refine zbD ?_ | refine zbA ?_ _)); refine blk_far ?_ NB305_315.out _; (with_reducible repeat (first | refine zbN ?_ _ | refine zbD ?_ | refine zbA ?_ _)); refine blk_far ?_ NB305_315.out _; (with_reducible repeat (first | refine zbN ?_ _ | refine zbD ?_ | refine zbA ?_ _)); exact BK305.out⟩
          have n7_ : Aside0 (((w93.setCell ⟨gb315, 0, none⟩ (.int .i64 t312)).setCell ⟨gb315, 1, none⟩ (.int .i64 t313)).heap[gb306]? = some (.cells #[.int .i64 x307000_1, .int .i64 x307001_1, .slice Ao90 x307002_1.length co90, .slice Ao91 x307003_1.length co91] 26 (0, 0))) := ⟨by (with_reducible repeat (first | refine zbN ?_ _ | refine zbD ?_ | refine zbA ?_ _)); refine blk_far ?_ NB306_315.out _; (with_reducible repeat (first | refine zbN ?_ _ | refine zbD ?_ | refine zbA ?_ _)); refine blk_far ?_ NB306_315.out _; (with_reducible repeat (first | refine zbN ?_ _ | refine zbD ?_ | refine zbA ?_ _)); exact BK306.out⟩
          have n8_ : Aside0 (((w93.setCell ⟨gb315, 0, none⟩ (.int .i64 t312)).setCell ⟨gb315, 1, none⟩ (.int .i64 t313)).heap[gb311]? = some (.cells #[.int .i64 t308, .int .i64 t309] 43 (0, 0))) := ⟨by (with_reducible repeat (first | refine zbN ?_ _ | refine zbD ?_ | refine zbA ?_ _)); refine blk_far ?_ NB311_315.out _; (with_reducible repeat (first | refine zbN ?_ _ | refine zbD ?_ | refine zbA ?_ _)); refine blk_far ?_ NB311_315.out _; (with_reducible repeat (first | refine zbN ?_ _ | refine zbD ?_ | refine zbA ?_ _)); exact BK311.out⟩
          have n9_ : Aside0 (((w93.setCell ⟨gb315, 0, none⟩ (.int .i64 t312)).setCell ⟨gb315, 1, none⟩ (.int .i64 t313)).heap[gb315]? = some (.cells #[.int .i64 t312, .int .i64 t313] 43 (0, 0))) := ⟨by (with_reducible repeat (first | refine zbN ?_ _ | refine zbD ?_ | refine zbA ?_ _)); refine blk_put (cs := #[.int .i64 t312, .int .i64 0]) ?_ 1 _ rfl; (with_reducible repeat (first | refine zbN ?_ _ | refine zbD ?_ | refine zbA ?_ _)); refine blk_put (cs := #[.int .i64 0, .int .i64 0]) ?_ 0 _ rfl; (with_reducible repeat (first | refine zbN ?_ _ | refine zbD ?_ | refine zbA ?_ _)); exact BK315.out⟩
          have n10_ : Aside0 (Below w.heap.size w ((w93.setCell ⟨gb315, 0, none⟩ (.int .i64 t312)).setCell ⟨gb315, 1, none⟩ (.int .i64 t313))) := ⟨by repeat (first | (with_reducible first | exact HB.out | apply zA | apply zN | apply zD | refine zS ?_ GE295.out | refine zS ?_ GE296.out | refine zS ?_ GE305.out | refine zS ?_ GE306.out | refine zS ?_ GE311.out | refine zS ?_ GE315.out) | exact HB.out)⟩
          (try clear HO_306002)
          (try clear HO_306003)
          (try clear HO_307002)
          (try clear HO_307003)
          (try clear BK295)
          (try clear BK296)
          (try clear BK305)
          (try clear BK306)
          (try clear BK311)
          (try clear BK315)
          (try clear HB)
          generalize ((w93.setCell ⟨gb315, 0, none⟩ (.int .i64 t312)).setCell ⟨gb315, 1, none⟩ (.int .i64 t313)) = w100 at n0_ n1_ n2_ n3_ n4_ n5_ n6_ n7_ n8_ n9_ n10_ ⊢
          have HO_306002 := n0_
          have HO_306003 := n1_
          have HO_307002 := n2_
          have HO_307003 := n3_
          have BK295 := n4_
          have BK296 := n5_
          have BK305 := n6_
          have BK306 := n7_
          have BK311 := n8_
          have BK315 := n9_
          have HB := n10_
          clear n0_ n1_ n2_ n3_ n4_ n5_ n6_ n7_ n8_ n9_ n10_
          have n0_ := Aside0.mk (Kd.R_drew HO_306002.out)
          have n1_ := Aside0.mk (Kd.R_drew HO_306003.out)
          have n2_ := Aside0.mk (Kd.R_drew HO_307002.out)
          have n3_ := Aside0.mk (Kd.R_drew HO_307003.out)
          have n4_ := Aside0.mk (zbD BK295.out)
          have n5_ := Aside0.mk (zbD BK296.out)
          have n6_ := Aside0.mk (zbD BK305.out)
          have n7_ := Aside0.mk (zbD BK306.out)
          have n8_ := Aside0.mk (zbD BK311.out)
          have n9_ := Aside0.mk (zbD BK315.out)
          have n10_ := Aside0.mk (zD HB.out)
          clear HO_306002
          clear HO_306003
          clear HO_307002
          clear HO_307003
          clear BK295
          clear BK296
          clear BK305
          clear BK306
          clear BK311
          clear BK315
          clear HB
          have HO_306002 := n0_
          have HO_306003 := n1_
          have HO_307002 := n2_
          have HO_307003 := n3_
          have BK295 := n4_
          have BK296 := n5_
          have BK305 := n6_
          have BK306 := n7_
          have BK311 := n8_
          have BK315 := n9_
          have HB := n10_
          clear n0_ n1_ n2_ n3_ n4_ n5_ n6_ n7_ n8_ n9_ n10_
          refine start_ (n := 9) (S := fun w' => w'.cell? ⟨gb306, 0, none⟩ = some (.int .i64 x307000_1) ∧ w'.cell? ⟨gb306, 1, none⟩ = some (.int .i64 x307001_1) ∧ w'.cell? ⟨gb306, 2, none⟩ = some (.slice Ao90 x307002_1.length co90) ∧ w'.cell? ⟨gb306, 3, none⟩ = some (.slice Ao91 x307003_1.length co91) ∧ w'.cell? ⟨gb305, 0, none⟩ = some (.int .i64 t297) ∧ w'.cell? ⟨gb305, 1, none⟩ = some (.int .i64 t298) ∧ w'.cell? ⟨gb305, 2, none⟩ = some (.slice Ao13 t299.length co13) ∧ w'.cell? ⟨gb305, 3, none⟩ = some (.slice Ao14 t302.length co14) ∧ w'.cell? ⟨gb295, 0, none⟩ = some (.int .i64 x296000_1) ∧ w'.cell? ⟨gb295, 1, none⟩ = some (.int .i64 x296001_1)) (ds := [8]) #[false, false, false, false, false, false, false, false, false] (by kernel_rfl) rfl rfl ⟨(zbC BK306.out 0).trans rfl, (zbC BK306.out 1).trans rfl, (zbC BK306.out 2).trans rfl, (zbC BK306.out 3).trans rfl, (zbC BK305.out 0).trans rfl, (zbC BK305.out 1).trans rfl, (zbC BK305.out 2).trans rfl, (zbC BK305.out 3).trans rfl, (zbC BK295.out 0).trans rfl, (zbC BK295.out 1).trans rfl⟩ (fun hHeld => ?_); refine with_tabW spec_liDraw.tab20 spec_liDraw.bits20 (fun HT_ HW_ => ?_)
          generalize w100.drew = w101 at HO_306002 HO_306003 HO_307002 HO_307003 BK295 BK296 BK305 BK306 BK311 BK315 HB hHeld ⊢
          refine pure_ (i := 4) (N := some 69) (v := ?_) (a' := ?_) #[false, false, false, false, true, false, false, false, false] rfl rfl (any_of HT_.out (by kernel_rfl)) (fun _ _ _ h => h) (Or.inl ⟨by rfl, ?_⟩) ?_ ?_
          rotate_left
          ·intro w'
           go_simp
           with_reducible rfl
          rotate_left
          ·simp only [Act.put, List.setIfInBounds_toArray, List.set_cons_zero, List.set_cons_succ, i64_w, i32_w]
           rfl
          refine take_ (i := 0) (N := some 65) (v := ?_) (a' := ?_) #[true, false, false, false, true, false, false, false, false] rfl rfl (take_ofW HT_.out HW_.out (by kernel_rfl)) (fun _ _ _ h => h) (Or.inl ⟨by rfl, ?_⟩) hHeld ?_ ?_
          rotate_left
          ·rintro w' ⟨s0, s1, s2, s3, s4, s5, s6, s7, s8, s9⟩
           go_simp
           with_reducible rfl
          rotate_left
          ·simp only [Act.put, List.setIfInBounds_toArray, List.set_cons_zero, List.set_cons_succ, i64_w, i32_w]
           rfl
          refine take_ (i := 2) (N := some 67) (v := ?_) (a' := ?_) #[true, false, true, false, true, false, false, false, false] rfl rfl (take_ofW HT_.out HW_.out (by kernel_rfl)) (fun _ _ _ h => h) (Or.inl ⟨by rfl, ?_⟩) hHeld ?_ ?_
          rotate_left
          ·rintro w' ⟨s0, s1, s2, s3, s4, s5, s6, s7, s8, s9⟩
           go_simp
           with_reducible rfl
          rotate_left
          ·simp only [Act.put, List.setIfInBounds_toArray, List.set_cons_zero, List.set_cons_succ, i64_w, i32_w]
           rfl
          refine take_ (i := 3) (N := some 68) (v := ?_) (a' := ?_) #[true, false, true, true, true, false, false, false, false] rfl rfl (take_ofW HT_.out HW_.out (by kernel_rfl)) (fun _ _ _ h => h) (Or.inl ⟨by rfl, ?_⟩) hHeld ?_ ?_
          rotate_left
          ·rintro w' ⟨s0, s1, s2, s3, s4, s5, s6, s7, s8, s9⟩
           go_simp
           with_reducible rfl
          rotate_left
          ·simp only [Act.put, List.setIfInBounds_toArray, List.set_cons_zero, List.set_cons_succ, i64_w, i32_w]
           rfl
          refine one_ (i := 1) (N := some 66) #[true, true, true, true, true, false, false, false, false] rfl rfl (one_of HT_.out (by kernel_rfl)) (by decide) (fun K hK => ?_)
          refine goes_ Tryd.func44 (by kernel_rfl) rfl #[.agg #[.int .i64 x307000_1, .int .i64 x307001_1, .slice Ao90 x307002_1.length co90, .slice Ao91 x307003_1.length co91]] (by rfl) rfl rfl (by (try simp only [List.map_toArray, List.map_cons, List.map_nil]); first | done | rfl | (simp only [List.length_drop, List.length_take]; rfl)) ?_
          with_reducible refine (spec_fiMissing.calls k2 x307000_1 x307001_1 _ _ x307002_1 _ _ x307003_1 t316 t317 t318 t321 _ ?side1 ?side2 ?side3 ?side4 A69.out).mono ?_
          (case side1 => repeat (first | exact (Kd.R_reads' HO_307002.out).2.2 | (with_reducible refine Kd.C_alloc ?_ _) | (with_reducible refine Kd.C_drewN ?_ _) | (with_reducible refine Kd.C_drew ?_)))
          (case side2 => exact (Kd.R_reads' HO_307002.out).2.1)
          (case side3 => repeat (first | exact (Kd.R_reads' HO_307003.out).2.2 | (with_reducible refine Kd.C_alloc ?_ _) | (with_reducible refine Kd.C_drewN ?_ _) | (with_reducible refine Kd.C_drew ?_)))
          (case side4 => exact (Kd.R_reads' HO_307003.out).2.1)
          rintro e w102 ⟨v319, v322, rfl, ho0, ho1, hb⟩
          refine ⟨_, rfl, ?_⟩
          have n0_ := Aside0.mk (Kd.R_mono (Kd.R_told (Kd.R_told (Kd.R_old (by (with_reducible repeat (first | apply Kd.R_alloc | apply Kd.R_drewN | apply Kd.R_drew)); exact HO_306002.out) hb) (Kd.R_base ho0)) (Kd.R_base ho1)) (fun _ h_ => h_.1))
          have n1_ := Aside0.mk (Kd.R_mono (Kd.R_told (Kd.R_told (Kd.R_old (by (with_reducible repeat (first | apply Kd.R_alloc | apply Kd.R_drewN | apply Kd.R_drew)); exact HO_306003.out) hb) (Kd.R_base ho0)) (Kd.R_base ho1)) (fun _ h_ => h_.1))
          have n2_ := Aside0.mk (Kd.R_mono (Kd.R_told (Kd.R_told (Kd.R_old (by (with_reducible repeat (first | apply Kd.R_alloc | apply Kd.R_drewN | apply Kd.R_drew)); exact HO_307002.out) hb) (Kd.R_base ho0)) (Kd.R_base ho1)) (fun _ h_ => h_.1))
          have n3_ := Aside0.mk (Kd.R_mono (Kd.R_told (Kd.R_told (Kd.R_old (by (with_reducible repeat (first | apply Kd.R_alloc | apply Kd.R_drewN | apply Kd.R_drew)); exact HO_307003.out) hb) (Kd.R_base ho0)) (Kd.R_base ho1)) (fun _ h_ => h_.1))
          have n4_ := Aside0.mk (Kd.R_lower (Kd.R_new' (Kd.R_new' (Kd.R_new' (Kd.R_new' ho0 (Kd.R_lt (by (with_reducible repeat (first | apply Kd.R_alloc | apply Kd.R_drewN | apply Kd.R_drew)); exact HO_306002.out))) (Kd.R_lt (by (with_reducible repeat (first | apply Kd.R_alloc | apply Kd.R_drewN | apply Kd.R_drew)); exact HO_306003.out))) (Kd.R_lt (by (with_reducible repeat (first | apply Kd.R_alloc | apply Kd.R_drewN | apply Kd.R_drew)); exact HO_307002.out))) (Kd.R_lt (by (with_reducible repeat (first | apply Kd.R_alloc | apply Kd.R_drewN | apply Kd.R_drew)); exact HO_307003.out))) (below_size (by repeat (first | (with_reducible first | exact HB.out | apply zA | apply zN | apply zD | refine zS ?_ GE295.out | refine zS ?_ GE296.out | refine zS ?_ GE305.out | refine zS ?_ GE306.out | refine zS ?_ GE311.out | refine zS ?_ GE315.out) | exact HB.out))))
          have n5_ := Aside0.mk (Kd.R_lower (Kd.R_new' (Kd.R_new' (Kd.R_new' (Kd.R_new' ho1 (Kd.R_lt (by (with_reducible repeat (first | apply Kd.R_alloc | apply Kd.R_drewN | apply Kd.R_drew)); exact HO_306002.out))) (Kd.R_lt (by (with_reducible repeat (first | apply Kd.R_alloc | apply Kd.R_drewN | apply Kd.R_drew)); exact HO_306003.out))) (Kd.R_lt (by (with_reducible repeat (first | apply Kd.R_alloc | apply Kd.R_drewN | apply Kd.R_drew)); exact HO_307002.out))) (Kd.R_lt (by (with_reducible repeat (first | apply Kd.R_alloc | apply Kd.R_drewN | apply Kd.R_drew)); exact HO_307003.out))) (below_size (by repeat (first | (with_reducible first | exact HB.out | apply zA | apply zN | apply zD | refine zS ?_ GE295.out | refine zS ?_ GE296.out | refine zS ?_ GE305.out | refine zS ?_ GE306.out | refine zS ?_ GE311.out | refine zS ?_ GE315.out) | exact HB.out))))
          have n6_ := Aside0.mk (blk_below (g := gb295) (o := .cells #[.int .i64 x296000_1, .int .i64 x296001_1] 43 (0, 0)) (by (with_reducible repeat (first | refine zbN ?_ _ | refine zbD ?_ | refine zbA ?_ _)); exact BK295.out) hb)
          have n7_ := Aside0.mk (blk_below (g := gb296) (o := .cells #[.int .i64 x297000_1, .int .i64 x297001_1, .slice none 0 0, .slice none 0 0] 26 (0, 0)) (by (with_reducible repeat (first | refine zbN ?_ _ | refine zbD ?_ | refine zbA ?_ _)); exact BK296.out) hb)
          have n8_ := Aside0.mk (blk_below (g := gb305) (o := .cells #[.int .i64 t297, .int .i64 t298, .slice Ao13 t299.length co13, .slice Ao14 t302.length co14] 26 (0, 0)) (by (with_reducible repeat (first | refine zbN ?_ _ | refine zbD ?_ | refine zbA ?_ _)); exact BK305.out) hb)
          have n9_ := Aside0.mk (blk_below (g := gb306) (o := .cells #[.int .i64 x307000_1, .int .i64 x307001_1, .slice Ao90 x307002_1.length co90, .slice Ao91 x307003_1.length co91] 26 (0, 0)) (by (with_reducible repeat (first | refine zbN ?_ _ | refine zbD ?_ | refine zbA ?_ _)); exact BK306.out) hb)
          have n10_ := Aside0.mk (blk_below (g := gb311) (o := .cells #[.int .i64 t308, .int .i64 t309] 43 (0, 0)) (by (with_reducible repeat (first | refine zbN ?_ _ | refine zbD ?_ | refine zbA ?_ _)); exact BK311.out) hb)
          have n11_ := Aside0.mk (blk_below (g := gb315) (o := .cells #[.int .i64 t312, .int .i64 t313] 43 (0, 0)) (by (with_reducible repeat (first | refine zbN ?_ _ | refine zbD ?_ | refine zbA ?_ _)); exact BK315.out) hb)
          have n12_ := Aside0.mk (below_step (by repeat (first | (with_reducible first | exact HB.out | apply zA | apply zN | apply zD | refine zS ?_ GE295.out | refine zS ?_ GE296.out | refine zS ?_ GE305.out | refine zS ?_ GE306.out | refine zS ?_ GE311.out | refine zS ?_ GE315.out) | exact HB.out)) hb)
          clear HO_306002
          clear HO_306003
          clear HO_307002
          clear HO_307003
          clear BK295
          clear BK296
          clear BK305
          clear BK306
          clear BK311
          clear BK315
          clear HB
          have HO_306002 := n0_
          have HO_306003 := n1_
          have HO_307002 := n2_
          have HO_307003 := n3_
          have HO320 := n4_
          have HO323 := n5_
          have BK295 := n6_
          have BK296 := n7_
          have BK305 := n8_
          have BK306 := n9_
          have BK311 := n10_
          have BK315 := n11_
          have HB := n12_
          clear n0_ n1_ n2_ n3_ n4_ n5_ n6_ n7_ n8_ n9_ n10_ n11_ n12_
          (try clear hb)
          (try clear hb2)
          (try clear hk)
          (try clear hi)
          (try clear ho0)
          (try clear ho1)
          refine hK.out _ _ ⟨(zbC BK306.out 0).trans rfl, (zbC BK306.out 1).trans rfl, (zbC BK306.out 2).trans rfl, (zbC BK306.out 3).trans rfl, (zbC BK305.out 0).trans rfl, (zbC BK305.out 1).trans rfl, (zbC BK305.out 2).trans rfl, (zbC BK305.out 3).trans rfl, (zbC BK295.out 0).trans rfl, (zbC BK295.out 1).trans rfl⟩ (fun hHeld => ?_)
          clear hK K
          refine norm_ (a' := ?_) ?_ ?_
          rotate_left
          ·show Act.put _ (some 66) _ = _
           simp only [Act.put, List.setIfInBounds_toArray, List.set_cons_zero, List.set_cons_succ, i64_w, i32_w]
           rfl
          refine one_ (i := 5) (N := some 70) #[true, true, true, true, true, true, false, false, false] rfl rfl (one_of HT_.out (by kernel_rfl)) (by decide) (fun K hK => ?_)
          refine goes_ Tryd.func83 (by kernel_rfl) rfl #[.agg #[.int .i64 t297, .int .i64 t298, .slice Ao13 t299.length co13, .slice Ao14 t302.length co14], .agg #[.int .i64 x296000_1, .int .i64 x296001_1], .int .i64 x13_2] (by rfl) rfl rfl (by (try simp only [List.map_toArray, List.map_cons, List.map_nil]); first | done | rfl | (simp only [List.length_drop, List.length_take]; rfl)) ?_
          with_reducible refine (spec_liEdge.calls k2 t297 t298 _ _ t299 _ _ t302 x296000_1 x296001_1 x13_2 t324 t325 t326 t329 _ ?side1 ?side2 ?side3 ?side4 A70.out).mono ?_
          (case side1 => repeat (first | exact (Kd.R_reads' HO_306002.out).2.2 | (with_reducible refine Kd.C_alloc ?_ _) | (with_reducible refine Kd.C_drewN ?_ _) | (with_reducible refine Kd.C_drew ?_)))
          (case side2 => exact (Kd.R_reads' HO_306002.out).2.1)
          (case side3 => repeat (first | exact (Kd.R_reads' HO_306003.out).2.2 | (with_reducible refine Kd.C_alloc ?_ _) | (with_reducible refine Kd.C_drewN ?_ _) | (with_reducible refine Kd.C_drew ?_)))
          (case side4 => exact (Kd.R_reads' HO_306003.out).2.1)
          rintro e w103 ⟨v327, v330, rfl, ho0, ho1, hb⟩
          refine ⟨_, rfl, ?_⟩
          have n0_ := Aside0.mk (Kd.R_mono (Kd.R_told (Kd.R_told (Kd.R_old (by (with_reducible repeat (first | apply Kd.R_alloc | apply Kd.R_drewN | apply Kd.R_drew)); exact HO_306002.out) hb) (Kd.R_base ho0)) (Kd.R_base ho1)) (fun _ h_ => h_.1))
          have n1_ := Aside0.mk (Kd.R_mono (Kd.R_told (Kd.R_told (Kd.R_old (by (with_reducible repeat (first | apply Kd.R_alloc | apply Kd.R_drewN | apply Kd.R_drew)); exact HO_306003.out) hb) (Kd.R_base ho0)) (Kd.R_base ho1)) (fun _ h_ => h_.1))
          have n2_ := Aside0.mk (Kd.R_mono (Kd.R_told (Kd.R_told (Kd.R_old (by (with_reducible repeat (first | apply Kd.R_alloc | apply Kd.R_drewN | apply Kd.R_drew)); exact HO_307002.out) hb) (Kd.R_base ho0)) (Kd.R_base ho1)) (fun _ h_ => h_.1))
          have n3_ := Aside0.mk (Kd.R_mono (Kd.R_told (Kd.R_told (Kd.R_old (by (with_reducible repeat (first | apply Kd.R_alloc | apply Kd.R_drewN | apply Kd.R_drew)); exact HO_307003.out) hb) (Kd.R_base ho0)) (Kd.R_base ho1)) (fun _ h_ => h_.1))
          have n4_ := Aside0.mk (Kd.R_mono (Kd.R_told (Kd.R_told (Kd.R_old (by (with_reducible repeat (first | apply Kd.R_alloc | apply Kd.R_drewN | apply Kd.R_drew)); exact HO320.out) hb) (Kd.R_base ho0)) (Kd.R_base ho1)) (fun _ h_ => h_.1))
          have n5_ := Aside0.mk (Kd.R_mono (Kd.R_told (Kd.R_told (Kd.R_old (by (with_reducible repeat (first | apply Kd.R_alloc | apply Kd.R_drewN | apply Kd.R_drew)); exact HO323.out) hb) (Kd.R_base ho0)) (Kd.R_base ho1)) (fun _ h_ => h_.1))
          have n6_ := Aside0.mk (Kd.R_lower (Kd.R_new' (Kd.R_new' (Kd.R_new' (Kd.R_new' (Kd.R_new' (Kd.R_new' ho0 (Kd.R_lt (by (with_reducible repeat (first | apply Kd.R_alloc | apply Kd.R_drewN | apply Kd.R_drew)); exact HO_306002.out))) (Kd.R_lt (by (with_reducible repeat (first | apply Kd.R_alloc | apply Kd.R_drewN | apply Kd.R_drew)); exact HO_306003.out))) (Kd.R_lt (by (with_reducible repeat (first | apply Kd.R_alloc | apply Kd.R_drewN | apply Kd.R_drew)); exact HO_307002.out))) (Kd.R_lt (by (with_reducible repeat (first | apply Kd.R_alloc | apply Kd.R_drewN | apply Kd.R_drew)); exact HO_307003.out))) (Kd.R_lt (by (with_reducible repeat (first | apply Kd.R_alloc | apply Kd.R_drewN | apply Kd.R_drew)); exact HO320.out))) (Kd.R_lt (by (with_reducible repeat (first | apply Kd.R_alloc | apply Kd.R_drewN | apply Kd.R_drew)); exact HO323.out))) (below_size (by repeat (first | (with_reducible first | exact HB.out | apply zA | apply zN | apply zD | refine zS ?_ GE295.out | refine zS ?_ GE296.out | refine zS ?_ GE305.out | refine zS ?_ GE306.out | refine zS ?_ GE311.out | refine zS ?_ GE315.out) | exact HB.out))))
          have n7_ := Aside0.mk (Kd.R_lower (Kd.R_new' (Kd.R_new' (Kd.R_new' (Kd.R_new' (Kd.R_new' (Kd.R_new' ho1 (Kd.R_lt (by (with_reducible repeat (first | apply Kd.R_alloc | apply Kd.R_drewN | apply Kd.R_drew)); exact HO_306002.out))) (Kd.R_lt (by (with_reducible repeat (first | apply Kd.R_alloc | apply Kd.R_drewN | apply Kd.R_drew)); exact HO_306003.out))) (Kd.R_lt (by (with_reducible repeat (first | apply Kd.R_alloc | apply Kd.R_drewN | apply Kd.R_drew)); exact HO_307002.out))) (Kd.R_lt (by (with_reducible repeat (first | apply Kd.R_alloc | apply Kd.R_drewN | apply Kd.R_drew)); exact HO_307003.out))) (Kd.R_lt (by (with_reducible repeat (first | apply Kd.R_alloc | apply Kd.R_drewN | apply Kd.R_drew)); exact HO320.out))) (Kd.R_lt (by (with_reducible repeat (first | apply Kd.R_alloc | apply Kd.R_drewN | apply Kd.R_drew)); exact HO323.out))) (below_size (by repeat (first | (with_reducible first | exact HB.out | apply zA | apply zN | apply zD | refine zS ?_ GE295.out | refine zS ?_ GE296.out | refine zS ?_ GE305.out | refine zS ?_ GE306.out | refine zS ?_ GE311.out | refine zS ?_ GE315.out) | exact HB.out))))
          have n8_ := Aside0.mk (blk_below (g := gb295) (o := .cells #[.int .i64 x296000_1, .int .i64 x296001_1] 43 (0, 0)) (by (with_reducible repeat (first | refine zbN ?_ _ | refine zbD ?_ | refine zbA ?_ _)); exact BK295.out) hb)
          have n9_ := Aside0.mk (blk_below (g := gb296) (o := .cells #[.int .i64 x297000_1, .int .i64 x297001_1, .slice none 0 0, .slice none 0 0] 26 (0, 0)) (by (with_reducible repeat (first | refine zbN ?_ _ | refine zbD ?_ | refine zbA ?_ _)); exact BK296.out) hb)
          have n10_ := Aside0.mk (blk_below (g := gb305) (o := .cells #[.int .i64 t297, .int .i64 t298, .slice Ao13 t299.length co13, .slice Ao14 t302.length co14] 26 (0, 0)) (by (with_reducible repeat (first | refine zbN ?_ _ | refine zbD ?_ | refine zbA ?_ _)); exact BK305.out) hb)
          have n11_ := Aside0.mk (blk_below (g := gb306) (o := .cells #[.int .i64 x307000_1, .int .i64 x307001_1, .slice Ao90 x307002_1.length co90, .slice Ao91 x307003_1.length co91] 26 (0, 0)) (by (with_reducible repeat (first | refine zbN ?_ _ | refine zbD ?_ | refine zbA ?_ _)); exact BK306.out) hb)
          have n12_ := Aside0.mk (blk_below (g := gb311) (o := .cells #[.int .i64 t308, .int .i64 t309] 43 (0, 0)) (by (with_reducible repeat (first | refine zbN ?_ _ | refine zbD ?_ | refine zbA ?_ _)); exact BK311.out) hb)
          have n13_ := Aside0.mk (blk_below (g := gb315) (o := .cells #[.int .i64 t312, .int .i64 t313] 43 (0, 0)) (by (with_reducible repeat (first | refine zbN ?_ _ | refine zbD ?_ | refine zbA ?_ _)); exact BK315.out) hb)
          have n14_ := Aside0.mk (below_step (by repeat (first | (with_reducible first | exact HB.out | apply zA | apply zN | apply zD | refine zS ?_ GE295.out | refine zS ?_ GE296.out | refine zS ?_ GE305.out | refine zS ?_ GE306.out | refine zS ?_ GE311.out | refine zS ?_ GE315.out) | exact HB.out)) hb)
          clear HO_306002
          clear HO_306003
          clear HO_307002
          clear HO_307003
          clear HO320
          clear HO323
          clear BK295
          clear BK296
          clear BK305
          clear BK306
          clear BK311
          clear BK315
          clear HB
          have HO_306002 := n0_
          have HO_306003 := n1_
          have HO_307002 := n2_
          have HO_307003 := n3_
          have HO320 := n4_
          have HO323 := n5_
          have HO328 := n6_
          have HO331 := n7_
          have BK295 := n8_
          have BK296 := n9_
          have BK305 := n10_
          have BK306 := n11_
          have BK311 := n12_
          have BK315 := n13_
          have HB := n14_
          clear n0_ n1_ n2_ n3_ n4_ n5_ n6_ n7_ n8_ n9_ n10_ n11_ n12_ n13_ n14_
          (try clear hb)
          (try clear hb2)
          (try clear hk)
          (try clear hi)
          (try clear ho0)
          (try clear ho1)
          obtain ⟨Ao104, co104, eo104⟩ := Kd.R_slice HO320.out
          (first | subst eo104 | (injection eo104 with f1_ f2_ f3_; have f4_ := f1_.symm; have f5_ := f3_.symm; clear f1_ f2_ f3_; subst f4_; subst f5_))
          obtain ⟨Ao105, co105, eo105⟩ := Kd.R_slice HO323.out
          (first | subst eo105 | (injection eo105 with f1_ f2_ f3_; have f4_ := f1_.symm; have f5_ := f3_.symm; clear f1_ f2_ f3_; subst f4_; subst f5_))
          obtain ⟨Ao106, co106, eo106⟩ := Kd.R_slice HO328.out
          (first | subst eo106 | (injection eo106 with f1_ f2_ f3_; have f4_ := f1_.symm; have f5_ := f3_.symm; clear f1_ f2_ f3_; subst f4_; subst f5_))
          obtain ⟨Ao107, co107, eo107⟩ := Kd.R_slice HO331.out
          (first | subst eo107 | (injection eo107 with f1_ f2_ f3_; have f4_ := f1_.symm; have f5_ := f3_.symm; clear f1_ f2_ f3_; subst f4_; subst f5_))
          refine hK.out _ _ ⟨(zbC BK306.out 0).trans rfl, (zbC BK306.out 1).trans rfl, (zbC BK306.out 2).trans rfl, (zbC BK306.out 3).trans rfl, (zbC BK305.out 0).trans rfl, (zbC BK305.out 1).trans rfl, (zbC BK305.out 2).trans rfl, (zbC BK305.out 3).trans rfl, (zbC BK295.out 0).trans rfl, (zbC BK295.out 1).trans rfl⟩ (fun hHeld => ?_)
          clear hK K
          refine norm_ (a' := ?_) ?_ ?_
          rotate_left
          ·show Act.put _ (some 70) _ = _
           simp only [Act.put, List.setIfInBounds_toArray, List.set_cons_zero, List.set_cons_succ, i64_w, i32_w]
           rfl
          refine one_ (i := 6) (N := some 71) #[true, true, true, true, true, true, true, false, false] rfl rfl (one_of HT_.out (by kernel_rfl)) (by decide) (fun K hK => ?_)
          refine goes_ Tryd.func36 (by kernel_rfl) rfl #[.agg #[.int .i64 t316, .int .i64 t317, .slice Ao104 t318.length co104, .slice Ao105 t321.length co105], .agg #[.int .i64 t324, .int .i64 t325, .slice Ao106 t326.length co106, .slice Ao107 t329.length co107]] (by rfl) rfl rfl (by (try simp only [List.map_toArray, List.map_cons, List.map_nil]); first | done | rfl | (simp only [List.length_drop, List.length_take]; rfl)) ?_
          with_reducible refine (spec_fiLess.calls k2 t316 t317 _ _ t318 _ _ t321 t324 t325 _ _ t326 _ _ t329 t332 t333 t334 t337 _ ?side1 ?side2 ?side3 ?side4 ?side5 ?side6 ?side7 ?side8 A71.out).mono ?_
          (case side1 => repeat (first | exact (Kd.R_reads' HO320.out).2.2 | (with_reducible refine Kd.C_alloc ?_ _) | (with_reducible refine Kd.C_drewN ?_ _) | (with_reducible refine Kd.C_drew ?_)))
          (case side2 => exact (Kd.R_reads' HO320.out).2.1)
          (case side3 => repeat (first | exact (Kd.R_reads' HO323.out).2.2 | (with_reducible refine Kd.C_alloc ?_ _) | (with_reducible refine Kd.C_drewN ?_ _) | (with_reducible refine Kd.C_drew ?_)))
          (case side4 => exact (Kd.R_reads' HO323.out).2.1)
          (case side5 => repeat (first | exact (Kd.R_reads' HO328.out).2.2 | (with_reducible refine Kd.C_alloc ?_ _) | (with_reducible refine Kd.C_drewN ?_ _) | (with_reducible refine Kd.C_drew ?_)))
          (case side6 => exact (Kd.R_reads' HO328.out).2.1)
          (case side7 => repeat (first | exact (Kd.R_reads' HO331.out).2.2 | (with_reducible refine Kd.C_alloc ?_ _) | (with_reducible refine Kd.C_drewN ?_ _) | (with_reducible refine Kd.C_drew ?_)))
          (case side8 => exact (Kd.R_reads' HO331.out).2.1)
          rintro e w108 ⟨v335, v338, rfl, ho0, ho1, hb⟩
          refine ⟨_, rfl, ?_⟩
          have n0_ := Aside0.mk (Kd.R_mono (Kd.R_told (Kd.R_told (Kd.R_old (by (with_reducible repeat (first | apply Kd.R_alloc | apply Kd.R_drewN | apply Kd.R_drew)); exact HO_306002.out) hb) (Kd.R_base ho0)) (Kd.R_base ho1)) (fun _ h_ => h_.1))
          have n1_ := Aside0.mk (Kd.R_mono (Kd.R_told (Kd.R_told (Kd.R_old (by (with_reducible repeat (first | apply Kd.R_alloc | apply Kd.R_drewN | apply Kd.R_drew)); exact HO_306003.out) hb) (Kd.R_base ho0)) (Kd.R_base ho1)) (fun _ h_ => h_.1))
          have n2_ := Aside0.mk (Kd.R_mono (Kd.R_told (Kd.R_told (Kd.R_old (by (with_reducible repeat (first | apply Kd.R_alloc | apply Kd.R_drewN | apply Kd.R_drew)); exact HO_307002.out) hb) (Kd.R_base ho0)) (Kd.R_base ho1)) (fun _ h_ => h_.1))
          have n3_ := Aside0.mk (Kd.R_mono (Kd.R_told (Kd.R_told (Kd.R_old (by (with_reducible repeat (first | apply Kd.R_alloc | apply Kd.R_drewN | apply Kd.R_drew)); exact HO_307003.out) hb) (Kd.R_base ho0)) (Kd.R_base ho1)) (fun _ h_ => h_.1))
          have n4_ := Aside0.mk (Kd.R_mono (Kd.R_told (Kd.R_told (Kd.R_old (by (with_reducible repeat (first | apply Kd.R_alloc | apply Kd.R_drewN | apply Kd.R_drew)); exact HO320.out) hb) (Kd.R_base ho0)) (Kd.R_base ho1)) (fun _ h_ => h_.1))
          have n5_ := Aside0.mk (Kd.R_mono (Kd.R_told (Kd.R_told (Kd.R_old (by (with_reducible repeat (first | apply Kd.R_alloc | apply Kd.R_drewN | apply Kd.R_drew)); exact HO323.out) hb) (Kd.R_base ho0)) (Kd.R_base ho1)) (fun _ h_ => h_.1))
          have n6_ := Aside0.mk (Kd.R_mono (Kd.R_told (Kd.R_told (Kd.R_old (by (with_reducible repeat (first | apply Kd.R_alloc | apply Kd.R_drewN | apply Kd.R_drew)); exact HO328.out) hb) (Kd.R_base ho0)) (Kd.R_base ho1)) (fun _ h_ => h_.1))
          have n7_ := Aside0.mk (Kd.R_mono (Kd.R_told (Kd.R_told (Kd.R_old (by (with_reducible repeat (first | apply Kd.R_alloc | apply Kd.R_drewN | apply Kd.R_drew)); exact HO331.out) hb) (Kd.R_base ho0)) (Kd.R_base ho1)) (fun _ h_ => h_.1))
          have n8_ := Aside0.mk (Kd.R_lower (Kd.R_new' (Kd.R_new' (Kd.R_new' (Kd.R_new' (Kd.R_new' (Kd.R_new' (Kd.R_new' (Kd.R_new' ho0 (Kd.R_lt (by (with_reducible repeat (first | apply Kd.R_alloc | apply Kd.R_drewN | apply Kd.R_drew)); exact HO_306002.out))) (Kd.R_lt (by (with_reducible repeat (first | apply Kd.R_alloc | apply Kd.R_drewN | apply Kd.R_drew)); exact HO_306003.out))) (Kd.R_lt (by (with_reducible repeat (first | apply Kd.R_alloc | apply Kd.R_drewN | apply Kd.R_drew)); exact HO_307002.out))) (Kd.R_lt (by (with_reducible repeat (first | apply Kd.R_alloc | apply Kd.R_drewN | apply Kd.R_drew)); exact HO_307003.out))) (Kd.R_lt (by (with_reducible repeat (first | apply Kd.R_alloc | apply Kd.R_drewN | apply Kd.R_drew)); exact HO320.out))) (Kd.R_lt (by (with_reducible repeat (first | apply Kd.R_alloc | apply Kd.R_drewN | apply Kd.R_drew)); exact HO323.out))) (Kd.R_lt (by (with_reducible repeat (first | apply Kd.R_alloc | apply Kd.R_drewN | apply Kd.R_drew)); exact HO328.out))) (Kd.R_lt (by (with_reducible repeat (first | apply Kd.R_alloc | apply Kd.R_drewN | apply Kd.R_drew)); exact HO331.out))) (below_size (by repeat (first | (with_reducible first | exact HB.out | apply zA | apply zN | apply zD | refine zS ?_ GE295.out | refine zS ?_ GE296.out | refine zS ?_ GE305.out | refine zS ?_ GE306.out | refine zS ?_ GE311.out | refine zS ?_ GE315.out) | exact HB.out))))
          have n9_ := Aside0.mk (Kd.R_lower (Kd.R_new' (Kd.R_new' (Kd.R_new' (Kd.R_new' (Kd.R_new' (Kd.R_new' (Kd.R_new' (Kd.R_new' ho1 (Kd.R_lt (by (with_reducible repeat (first | apply Kd.R_alloc | apply Kd.R_drewN | apply Kd.R_drew)); exact HO_306002.out))) (Kd.R_lt (by (with_reducible repeat (first | apply Kd.R_alloc | apply Kd.R_drewN | apply Kd.R_drew)); exact HO_306003.out))) (Kd.R_lt (by (with_reducible repeat (first | apply Kd.R_alloc | apply Kd.R_drewN | apply Kd.R_drew)); exact HO_307002.out))) (Kd.R_lt (by (with_reducible repeat (first | apply Kd.R_alloc | apply Kd.R_drewN | apply Kd.R_drew)); exact HO_307003.out))) (Kd.R_lt (by (with_reducible repeat (first | apply Kd.R_alloc | apply Kd.R_drewN | apply Kd.R_drew)); exact HO320.out))) (Kd.R_lt (by (with_reducible repeat (first | apply Kd.R_alloc | apply Kd.R_drewN | apply Kd.R_drew)); exact HO323.out))) (Kd.R_lt (by (with_reducible repeat (first | apply Kd.R_alloc | apply Kd.R_drewN | apply Kd.R_drew)); exact HO328.out))) (Kd.R_lt (by (with_reducible repeat (first | apply Kd.R_alloc | apply Kd.R_drewN | apply Kd.R_drew)); exact HO331.out))) (below_size (by repeat (first | (with_reducible first | exact HB.out | apply zA | apply zN | apply zD | refine zS ?_ GE295.out | refine zS ?_ GE296.out | refine zS ?_ GE305.out | refine zS ?_ GE306.out | refine zS ?_ GE311.out | refine zS ?_ GE315.out) | exact HB.out))))
          have n10_ := Aside0.mk (blk_below (g := gb295) (o := .cells #[.int .i64 x296000_1, .int .i64 x296001_1] 43 (0, 0)) (by (with_reducible repeat (first | refine zbN ?_ _ | refine zbD ?_ | refine zbA ?_ _)); exact BK295.out) hb)
          have n11_ := Aside0.mk (blk_below (g := gb296) (o := .cells #[.int .i64 x297000_1, .int .i64 x297001_1, .slice none 0 0, .slice none 0 0] 26 (0, 0)) (by (with_reducible repeat (first | refine zbN ?_ _ | refine zbD ?_ | refine zbA ?_ _)); exact BK296.out) hb)
          have n12_ := Aside0.mk (blk_below (g := gb305) (o := .cells #[.int .i64 t297, .int .i64 t298, .slice Ao13 t299.length co13, .slice Ao14 t302.length co14] 26 (0, 0)) (by (with_reducible repeat (first | refine zbN ?_ _ | refine zbD ?_ | refine zbA ?_ _)); exact BK305.out) hb)
          have n13_ := Aside0.mk (blk_below (g := gb306) (o := .cells #[.int .i64 x307000_1, .int .i64 x307001_1, .slice Ao90 x307002_1.length co90, .slice Ao91 x307003_1.length co91] 26 (0, 0)) (by (with_reducible repeat (first | refine zbN ?_ _ | refine zbD ?_ | refine zbA ?_ _)); exact BK306.out) hb)
          have n14_ := Aside0.mk (blk_below (g := gb311) (o := .cells #[.int .i64 t308, .int .i64 t309] 43 (0, 0)) (by (with_reducible repeat (first | refine zbN ?_ _ | refine zbD ?_ | refine zbA ?_ _)); exact BK311.out) hb)
          have n15_ := Aside0.mk (blk_below (g := gb315) (o := .cells #[.int .i64 t312, .int .i64 t313] 43 (0, 0)) (by (with_reducible repeat (first | refine zbN ?_ _ | refine zbD ?_ | refine zbA ?_ _)); exact BK315.out) hb)
          have n16_ := Aside0.mk (below_step (by repeat (first | (with_reducible first | exact HB.out | apply zA | apply zN | apply zD | refine zS ?_ GE295.out | refine zS ?_ GE296.out | refine zS ?_ GE305.out | refine zS ?_ GE306.out | refine zS ?_ GE311.out | refine zS ?_ GE315.out) | exact HB.out)) hb)
          clear HO_306002
          clear HO_306003
          clear HO_307002
          clear HO_307003
          clear HO320
          clear HO323
          clear HO328
          clear HO331
          clear BK295
          clear BK296
          clear BK305
          clear BK306
          clear BK311
          clear BK315
          clear HB
          have HO_306002 := n0_
          have HO_306003 := n1_
          have HO_307002 := n2_
          have HO_307003 := n3_
          have HO320 := n4_
          have HO323 := n5_
          have HO328 := n6_
          have HO331 := n7_
          have HO336 := n8_
          have HO339 := n9_
          have BK295 := n10_
          have BK296 := n11_
          have BK305 := n12_
          have BK306 := n13_
          have BK311 := n14_
          have BK315 := n15_
          have HB := n16_
          clear n0_ n1_ n2_ n3_ n4_ n5_ n6_ n7_ n8_ n9_ n10_ n11_ n12_ n13_ n14_ n15_ n16_
          (try clear hb)
          (try clear hb2)
          (try clear hk)
          (try clear hi)
          (try clear ho0)
          (try clear ho1)
          obtain ⟨Ao109, co109, eo109⟩ := Kd.R_slice HO336.out
          (first | subst eo109 | (injection eo109 with f1_ f2_ f3_; have f4_ := f1_.symm; have f5_ := f3_.symm; clear f1_ f2_ f3_; subst f4_; subst f5_))
          obtain ⟨Ao110, co110, eo110⟩ := Kd.R_slice HO339.out
          (first | subst eo110 | (injection eo110 with f1_ f2_ f3_; have f4_ := f1_.symm; have f5_ := f3_.symm; clear f1_ f2_ f3_; subst f4_; subst f5_))
          refine hK.out _ _ ⟨(zbC BK306.out 0).trans rfl, (zbC BK306.out 1).trans rfl, (zbC BK306.out 2).trans rfl, (zbC BK306.out 3).trans rfl, (zbC BK305.out 0).trans rfl, (zbC BK305.out 1).trans rfl, (zbC BK305.out 2).trans rfl, (zbC BK305.out 3).trans rfl, (zbC BK295.out 0).trans rfl, (zbC BK295.out 1).trans rfl⟩ (fun hHeld => ?_)
          clear hK K
          refine norm_ (a' := ?_) ?_ ?_
          rotate_left
          ·show Act.put _ (some 71) _ = _
           simp only [Act.put, List.setIfInBounds_toArray, List.set_cons_zero, List.set_cons_succ, i64_w, i32_w]
           rfl
          refine one_ (i := 7) (N := some 72) #[true, true, true, true, true, true, true, true, false] rfl rfl (one_of HT_.out (by kernel_rfl)) (by decide) (fun K hK => ?_)
          refine goes_ Tryd.func44 (by kernel_rfl) rfl #[.agg #[.int .i64 t332, .int .i64 t333, .slice Ao109 t334.length co109, .slice Ao110 t337.length co110]] (by rfl) rfl rfl (by (try simp only [List.map_toArray, List.map_cons, List.map_nil]); first | done | rfl | (simp only [List.length_drop, List.length_take]; rfl)) ?_
          with_reducible refine (spec_fiMissing.calls k2 t332 t333 _ _ t334 _ _ t337 t340 t341 t342 t345 _ ?side1 ?side2 ?side3 ?side4 A72.out).mono ?_
          (case side1 => repeat (first | exact (Kd.R_reads' HO336.out).2.2 | (with_reducible refine Kd.C_alloc ?_ _) | (with_reducible refine Kd.C_drewN ?_ _) | (with_reducible refine Kd.C_drew ?_)))
          (case side2 => exact (Kd.R_reads' HO336.out).2.1)
          (case side3 => repeat (first | exact (Kd.R_reads' HO339.out).2.2 | (with_reducible refine Kd.C_alloc ?_ _) | (with_reducible refine Kd.C_drewN ?_ _) | (with_reducible refine Kd.C_drew ?_)))
          (case side4 => exact (Kd.R_reads' HO339.out).2.1)
          rintro e w111 ⟨v343, v346, rfl, ho0, ho1, hb⟩
          refine ⟨_, rfl, ?_⟩
          have n0_ := Aside0.mk (Kd.R_mono (Kd.R_told (Kd.R_told (Kd.R_old (by (with_reducible repeat (first | apply Kd.R_alloc | apply Kd.R_drewN | apply Kd.R_drew)); exact HO_306002.out) hb) (Kd.R_base ho0)) (Kd.R_base ho1)) (fun _ h_ => h_.1))
          have n1_ := Aside0.mk (Kd.R_mono (Kd.R_told (Kd.R_told (Kd.R_old (by (with_reducible repeat (first | apply Kd.R_alloc | apply Kd.R_drewN | apply Kd.R_drew)); exact HO_306003.out) hb) (Kd.R_base ho0)) (Kd.R_base ho1)) (fun _ h_ => h_.1))
          have n2_ := Aside0.mk (Kd.R_mono (Kd.R_told (Kd.R_told (Kd.R_old (by (with_reducible repeat (first | apply Kd.R_alloc | apply Kd.R_drewN | apply Kd.R_drew)); exact HO_307002.out) hb) (Kd.R_base ho0)) (Kd.R_base ho1)) (fun _ h_ => h_.1))
          have n3_ := Aside0.mk (Kd.R_mono (Kd.R_told (Kd.R_told (Kd.R_old (by (with_reducible repeat (first | apply Kd.R_alloc | apply Kd.R_drewN | apply Kd.R_drew)); exact HO_307003.out) hb) (Kd.R_base ho0)) (Kd.R_base ho1)) (fun _ h_ => h_.1))
          have n4_ := Aside0.mk (Kd.R_mono (Kd.R_told (Kd.R_told (Kd.R_old (by (with_reducible repeat (first | apply Kd.R_alloc | apply Kd.R_drewN | apply Kd.R_drew)); exact HO320.out) hb) (Kd.R_base ho0)) (Kd.R_base ho1)) (fun _ h_ => h_.1))
          have n5_ := Aside0.mk (Kd.R_mono (Kd.R_told (Kd.R_told (Kd.R_old (by (with_reducible repeat (first | apply Kd.R_alloc | apply Kd.R_drewN | apply Kd.R_drew)); exact HO323.out) hb) (Kd.R_base ho0)) (Kd.R_base ho1)) (fun _ h_ => h_.1))
          have n6_ := Aside0.mk (Kd.R_mono (Kd.R_told (Kd.R_told (Kd.R_old (by (with_reducible repeat (first | apply Kd.R_alloc | apply Kd.R_drewN | apply Kd.R_drew)); exact HO328.out) hb) (Kd.R_base ho0)) (Kd.R_base ho1)) (fun _ h_ => h_.1))
          have n7_ := Aside0.mk (Kd.R_mono (Kd.R_told (Kd.R_told (Kd.R_old (by (with_reducible repeat (first | apply Kd.R_alloc | apply Kd.R_drewN | apply Kd.R_drew)); exact HO331.out) hb) (Kd.R_base ho0)) (Kd.R_base ho1)) (fun _ h_ => h_.1))
          have n8_ := Aside0.mk (Kd.R_mono (Kd.R_told (Kd.R_told (Kd.R_old (by (with_reducible repeat (first | apply Kd.R_alloc | apply Kd.R_drewN | apply Kd.R_drew)); exact HO336.out) hb) (Kd.R_base ho0)) (Kd.R_base ho1)) (fun _ h_ => h_.1))
          have n9_ := Aside0.mk (Kd.R_mono (Kd.R_told (Kd.R_told (Kd.R_old (by (with_reducible repeat (first | apply Kd.R_alloc | apply Kd.R_drewN | apply Kd.R_drew)); exact HO339.out) hb) (Kd.R_base ho0)) (Kd.R_base ho1)) (fun _ h_ => h_.1))
          have n10_ := Aside0.mk (Kd.R_lower (Kd.R_new' (Kd.R_new' (Kd.R_new' (Kd.R_new' (Kd.R_new' (Kd.R_new' (Kd.R_new' (Kd.R_new' (Kd.R_new' (Kd.R_new' ho0 (Kd.R_lt (by (with_reducible repeat (first | apply Kd.R_alloc | apply Kd.R_drewN | apply Kd.R_drew)); exact HO_306002.out))) (Kd.R_lt (by (with_reducible repeat (first | apply Kd.R_alloc | apply Kd.R_drewN | apply Kd.R_drew)); exact HO_306003.out))) (Kd.R_lt (by (with_reducible repeat (first | apply Kd.R_alloc | apply Kd.R_drewN | apply Kd.R_drew)); exact HO_307002.out))) (Kd.R_lt (by (with_reducible repeat (first | apply Kd.R_alloc | apply Kd.R_drewN | apply Kd.R_drew)); exact HO_307003.out))) (Kd.R_lt (by (with_reducible repeat (first | apply Kd.R_alloc | apply Kd.R_drewN | apply Kd.R_drew)); exact HO320.out))) (Kd.R_lt (by (with_reducible repeat (first | apply Kd.R_alloc | apply Kd.R_drewN | apply Kd.R_drew)); exact HO323.out))) (Kd.R_lt (by (with_reducible repeat (first | apply Kd.R_alloc | apply Kd.R_drewN | apply Kd.R_drew)); exact HO328.out))) (Kd.R_lt (by (with_reducible repeat (first | apply Kd.R_alloc | apply Kd.R_drewN | apply Kd.R_drew)); exact HO331.out))) (Kd.R_lt (by (with_reducible repeat (first | apply Kd.R_alloc | apply Kd.R_drewN | apply Kd.R_drew)); exact HO336.out))) (Kd.R_lt (by (with_reducible repeat (first | apply Kd.R_alloc | apply Kd.R_drewN | apply Kd.R_drew)); exact HO339.out))) (below_size (by repeat (first | (with_reducible first | exact HB.out | apply zA | apply zN | apply zD | refine zS ?_ GE295.out | refine zS ?_ GE296.out | refine zS ?_ GE305.out | refine zS ?_ GE306.out | refine zS ?_ GE311.out | refine zS ?_ GE315.out) | exact HB.out))))
          have n11_ := Aside0.mk (Kd.R_lower (Kd.R_new' (Kd.R_new' (Kd.R_new' (Kd.R_new' (Kd.R_new' (Kd.R_new' (Kd.R_new' (Kd.R_new' (Kd.R_new' (Kd.R_new' ho1 (Kd.R_lt (by (with_reducible repeat (first | apply Kd.R_alloc | apply Kd.R_drewN | apply Kd.R_drew)); exact HO_306002.out))) (Kd.R_lt (by (with_reducible repeat (first | apply Kd.R_alloc | apply Kd.R_drewN | apply Kd.R_drew)); exact HO_306003.out))) (Kd.R_lt (by (with_reducible repeat (first | apply Kd.R_alloc | apply Kd.R_drewN | apply Kd.R_drew)); exact HO_307002.out))) (Kd.R_lt (by (with_reducible repeat (first | apply Kd.R_alloc | apply Kd.R_drewN | apply Kd.R_drew)); exact HO_307003.out))) (Kd.R_lt (by (with_reducible repeat (first | apply Kd.R_alloc | apply Kd.R_drewN | apply Kd.R_drew)); exact HO320.out))) (Kd.R_lt (by (with_reducible repeat (first | apply Kd.R_alloc | apply Kd.R_drewN | apply Kd.R_drew)); exact HO323.out))) (Kd.R_lt (by (with_reducible repeat (first | apply Kd.R_alloc | apply Kd.R_drewN | apply Kd.R_drew)); exact HO328.out))) (Kd.R_lt (by (with_reducible repeat (first | apply Kd.R_alloc | apply Kd.R_drewN | apply Kd.R_drew)); exact HO331.out))) (Kd.R_lt (by (with_reducible repeat (first | apply Kd.R_alloc | apply Kd.R_drewN | apply Kd.R_drew)); exact HO336.out))) (Kd.R_lt (by (with_reducible repeat (first | apply Kd.R_alloc | apply Kd.R_drewN | apply Kd.R_drew)); exact HO339.out))) (below_size (by repeat (first | (with_reducible first | exact HB.out | apply zA | apply zN | apply zD | refine zS ?_ GE295.out | refine zS ?_ GE296.out | refine zS ?_ GE305.out | refine zS ?_ GE306.out | refine zS ?_ GE311.out | refine zS ?_ GE315.out) | exact HB.out))))
          have n12_ := Aside0.mk (blk_below (g := gb295) (o := .cells #[.int .i64 x296000_1, .int .i64 x296001_1] 43 (0, 0)) (by (with_reducible repeat (first | refine zbN ?_ _ | refine zbD ?_ | refine zbA ?_ _)); exact BK295.out) hb)
          have n13_ := Aside0.mk (blk_below (g := gb296) (o := .cells #[.int .i64 x297000_1, .int .i64 x297001_1, .slice none 0 0, .slice none 0 0] 26 (0, 0)) (by (with_reducible repeat (first | refine zbN ?_ _ | refine zbD ?_ | refine zbA ?_ _)); exact BK296.out) hb)
          have n14_ := Aside0.mk (blk_below (g := gb305) (o := .cells #[.int .i64 t297, .int .i64 t298, .slice Ao13 t299.length co13, .slice Ao14 t302.length co14] 26 (0, 0)) (by (with_reducible repeat (first | refine zbN ?_ _ | refine zbD ?_ | refine zbA ?_ _)); exact BK305.out) hb)
          have n15_ := Aside0.mk (blk_below (g := gb306) (o := .cells #[.int .i64 x307000_1, .int .i64 x307001_1, .slice Ao90 x307002_1.length co90, .slice Ao91 x307003_1.length co91] 26 (0, 0)) (by (with_reducible repeat (first | refine zbN ?_ _ | refine zbD ?_ | refine zbA ?_ _)); exact BK306.out) hb)
          have n16_ := Aside0.mk (blk_below (g := gb311) (o := .cells #[.int .i64 t308, .int .i64 t309] 43 (0, 0)) (by (with_reducible repeat (first | refine zbN ?_ _ | refine zbD ?_ | refine zbA ?_ _)); exact BK311.out) hb)
          have n17_ := Aside0.mk (blk_below (g := gb315) (o := .cells #[.int .i64 t312, .int .i64 t313] 43 (0, 0)) (by (with_reducible repeat (first | refine zbN ?_ _ | refine zbD ?_ | refine zbA ?_ _)); exact BK315.out) hb)
          have n18_ := Aside0.mk (below_step (by repeat (first | (with_reducible first | exact HB.out | apply zA | apply zN | apply zD | refine zS ?_ GE295.out | refine zS ?_ GE296.out | refine zS ?_ GE305.out | refine zS ?_ GE306.out | refine zS ?_ GE311.out | refine zS ?_ GE315.out) | exact HB.out)) hb)
          clear HO_306002
          clear HO_306003
          clear HO_307002
          clear HO_307003
          clear HO320
          clear HO323
          clear HO328
          clear HO331
          clear HO336
          clear HO339
          clear BK295
          clear BK296
          clear BK305
          clear BK306
          clear BK311
          clear BK315
          clear HB
          have HO_306002 := n0_
          have HO_306003 := n1_
          have HO_307002 := n2_
          have HO_307003 := n3_
          have HO320 := n4_
          have HO323 := n5_
          have HO328 := n6_
          have HO331 := n7_
          have HO336 := n8_
          have HO339 := n9_
          have HO344 := n10_
          have HO347 := n11_
          have BK295 := n12_
          have BK296 := n13_
          have BK305 := n14_
          have BK306 := n15_
          have BK311 := n16_
          have BK315 := n17_
          have HB := n18_
          clear n0_ n1_ n2_ n3_ n4_ n5_ n6_ n7_ n8_ n9_ n10_ n11_ n12_ n13_ n14_ n15_ n16_ n17_ n18_
          (try clear hb)
          (try clear hb2)
          (try clear hk)
          (try clear hi)
          (try clear ho0)
          (try clear ho1)
          obtain ⟨Ao114, co114, eo114⟩ := Kd.R_slice HO344.out
          (first | subst eo114 | (injection eo114 with f1_ f2_ f3_; have f4_ := f1_.symm; have f5_ := f3_.symm; clear f1_ f2_ f3_; subst f4_; subst f5_))
          obtain ⟨Ao116, co116, eo116⟩ := Kd.R_slice HO347.out
          (first | subst eo116 | (injection eo116 with f1_ f2_ f3_; have f4_ := f1_.symm; have f5_ := f3_.symm; clear f1_ f2_ f3_; subst f4_; subst f5_))
          refine hK.out _ _ ⟨(zbC BK306.out 0).trans rfl, (zbC BK306.out 1).trans rfl, (zbC BK306.out 2).trans rfl, (zbC BK306.out 3).trans rfl, (zbC BK305.out 0).trans rfl, (zbC BK305.out 1).trans rfl, (zbC BK305.out 2).trans rfl, (zbC BK305.out 3).trans rfl, (zbC BK295.out 0).trans rfl, (zbC BK295.out 1).trans rfl⟩ (fun hHeld => ?_)
          clear hK K
          refine norm_ (a' := ?_) ?_ ?_
          rotate_left
          ·show Act.put _ (some 72) _ = _
           simp only [Act.put, List.setIfInBounds_toArray, List.set_cons_zero, List.set_cons_succ, i64_w, i32_w]
           rfl
          refine last_ (i := 8) (N := none) #[true, true, true, true, true, true, true, true, true] rfl rfl (one_of HT_.out (by kernel_rfl)) (by decide) (fun K hK => ?_)
          have hs112 : w111.cell? ⟨gb306, 0, none⟩ = some (.int .i64 x307000_1) := (zbC BK306.out 0).trans rfl
          have hfs112 := zbF BK306.out 0
          have hns112_0 := NB295_306.out
          have hns112_1 := NB296_306.out
          have hns112_2 := NB305_306.out
          have hns112_4 := NB311_306.out
          have hns112_5 := NB315_306.out
          have hms112_0 := NB306_295.out
          have hms112_1 := NB306_296.out
          have hms112_2 := NB306_305.out
          have hms112_4 := NB306_311.out
          have hms112_5 := NB306_315.out
          have hs113 : w111.cell? ⟨gb306, 1, none⟩ = some (.int .i64 x307001_1) := (zbC BK306.out 1).trans rfl
          have hfs113 := zbF BK306.out 1
          have hns113_0 := NB295_306.out
          have hns113_1 := NB296_306.out
          have hns113_2 := NB305_306.out
          have hns113_4 := NB311_306.out
          have hns113_5 := NB315_306.out
          have hms113_0 := NB306_295.out
          have hms113_1 := NB306_296.out
          have hms113_2 := NB306_305.out
          have hms113_4 := NB306_311.out
          have hms113_5 := NB306_315.out
          have hs115 : w111.cell? ⟨gb306, 2, none⟩ = some (.slice Ao90 x307002_1.length co90) := (zbC BK306.out 2).trans rfl
          have hfs115 := zbF BK306.out 2
          have hns115_0 := NB295_306.out
          have hns115_1 := NB296_306.out
          have hns115_2 := NB305_306.out
          have hns115_4 := NB311_306.out
          have hns115_5 := NB315_306.out
          have hms115_0 := NB306_295.out
          have hms115_1 := NB306_296.out
          have hms115_2 := NB306_305.out
          have hms115_4 := NB306_311.out
          have hms115_5 := NB306_315.out
          have hs117 : w111.cell? ⟨gb306, 3, none⟩ = some (.slice Ao91 x307003_1.length co91) := (zbC BK306.out 3).trans rfl
          have hfs117 := zbF BK306.out 3
          have hns117_0 := NB295_306.out
          have hns117_1 := NB296_306.out
          have hns117_2 := NB305_306.out
          have hns117_4 := NB311_306.out
          have hns117_5 := NB315_306.out
          have hms117_0 := NB306_295.out
          have hms117_1 := NB306_296.out
          have hms117_2 := NB306_305.out
          have hms117_4 := NB306_311.out
          have hms117_5 := NB306_315.out
          refine skip_ (w1 := ?_) (by rfl) rfl ?_ ?_
          rotate_left
          ·go_simp
           rfl
          refine hK.out _ _ ?_
          clear hK K
          refine done_ (done_of HT_.out (by kernel_rfl)) ?_
          have hcz118_0 : w111.cell? ⟨gb311, 0, none⟩ = some (.int .i64 t308) := (zbC BK311.out 0).trans rfl
          have hcz118_1 : w111.cell? ⟨gb311, 1, none⟩ = some (.int .i64 t309) := (zbC BK311.out 1).trans rfl
          have hfz118_0 := zbF BK311.out 0
          have hfz118_1 := zbF BK311.out 1
          have hcz119_0 : w111.cell? ⟨gb295, 0, none⟩ = some (.int .i64 x296000_1) := (zbC BK295.out 0).trans rfl
          have hcz119_1 : w111.cell? ⟨gb295, 1, none⟩ = some (.int .i64 x296001_1) := (zbC BK295.out 1).trans rfl
          have hfz119_0 := zbF BK295.out 0
          have hfz119_1 := zbF BK295.out 1
          try go_wp2
          go_roundg k2
          case measure => have := HK1.out; have := HK2.out; omega
          case rel => exact ⟨(wrap64 (x12_1 + 1)), (t308), (t309), (x297000_1), (x297001_1), (t340), (t341), (t342), (t345), (.slice Ao114 t342.length co114), (.slice Ao116 t345.length co116), (by first | rfl | (simp; done) | (simp [*]; done)), H', ⟨by have := HK1.out; have := HK2.out; omega⟩, ⟨by (with_reducible repeat (first | apply Kd.R_alloc | apply Kd.R_drewN | apply Kd.R_drew)); exact Kd.R_mono (Kd.R_far (p := ⟨gb295, 1, none⟩) (Kd.R_far (p := ⟨gb295, 0, none⟩) (Kd.R_far (p := ⟨gb306, 3, none⟩) (Kd.R_far (p := ⟨gb306, 2, none⟩) (Kd.R_far (p := ⟨gb306, 1, none⟩) (Kd.R_far (p := ⟨gb306, 0, none⟩) (Kd.R_types (Kd.R_types HO_306002.out BK306.out (by decide)) BK295.out (by decide)) (fun _ hk => hk.1.2) (.int .i64 t340)) (fun _ hk => hk.1.2) (.int .i64 t341)) (fun _ hk => hk.1.2) (.slice Ao114 t342.length co114)) (fun _ hk => hk.1.2) (.slice Ao116 t345.length co116)) (fun _ hk => hk.2) (.int .i64 t308)) (fun _ hk => hk.2) (.int .i64 t309)) (fun _ hk => ⟨hk.1.1.1.1.1.1.1.1.1.1.1, ⟨hk.1.1.1.2, hk.1.1.2⟩⟩)⟩, ⟨by (with_reducible repeat (first | apply Kd.R_alloc | apply Kd.R_drewN | apply Kd.R_drew)); exact Kd.R_mono (Kd.R_far (p := ⟨gb295, 1, none⟩) (Kd.R_far (p := ⟨gb295, 0, none⟩) (Kd.R_far (p := ⟨gb306, 3, none⟩) (Kd.R_far (p := ⟨gb306, 2, none⟩) (Kd.R_far (p := ⟨gb306, 1, none⟩) (Kd.R_far (p := ⟨gb306, 0, none⟩) (Kd.R_types (Kd.R_types HO_306003.out BK306.out (by decide)) BK295.out (by decide)) (fun _ hk => hk.1.2) (.int .i64 t340)) (fun _ hk => hk.1.2) (.int .i64 t341)) (fun _ hk => hk.1.2) (.slice Ao114 t342.length co114)) (fun _ hk => hk.1.2) (.slice Ao116 t345.length co116)) (fun _ hk => hk.2) (.int .i64 t308)) (fun _ hk => hk.2) (.int .i64 t309)) (fun _ hk => ⟨hk.1.1.1.1.1.1.1.1.1.1.1, ⟨hk.1.1.1.2, hk.1.1.2⟩⟩)⟩, ⟨by (with_reducible repeat (first | apply Kd.R_alloc | apply Kd.R_drewN | apply Kd.R_drew)); exact Kd.R_mono (Kd.R_far (p := ⟨gb295, 1, none⟩) (Kd.R_far (p := ⟨gb295, 0, none⟩) (Kd.R_far (p := ⟨gb306, 3, none⟩) (Kd.R_far (p := ⟨gb306, 2, none⟩) (Kd.R_far (p := ⟨gb306, 1, none⟩) (Kd.R_far (p := ⟨gb306, 0, none⟩) (Kd.R_types (Kd.R_types HO344.out BK306.out (by decide)) BK295.out (by decide)) (fun _ hk => hk.1.2) (.int .i64 t340)) (fun _ hk => hk.1.2) (.int .i64 t341)) (fun _ hk => hk.1.2) (.slice Ao114 t342.length co114)) (fun _ hk => hk.1.2) (.slice Ao116 t345.length co116)) (fun _ hk => hk.2) (.int .i64 t308)) (fun _ hk => hk.2) (.int .i64 t309)) (fun _ hk => ⟨hk.1.1.1.1.1.1.1.1.1.1.1.2, ⟨hk.1.1.1.1.1.1.1.1.1.1.2, hk.1.1.1.1.1.1.1.1.1.1.1.1⟩⟩)⟩, ⟨by (with_reducible repeat (first | apply Kd.R_alloc | apply Kd.R_drewN | apply Kd.R_drew)); exact Kd.R_mono (Kd.R_far (p := ⟨gb295, 1, none⟩) (Kd.R_far (p := ⟨gb295, 0, none⟩) (Kd.R_far (p := ⟨gb306, 3, none⟩) (Kd.R_far (p := ⟨gb306, 2, none⟩) (Kd.R_far (p := ⟨gb306, 1, none⟩) (Kd.R_far (p := ⟨gb306, 0, none⟩) (Kd.R_types (Kd.R_types HO347.out BK306.out (by decide)) BK295.out (by decide)) (fun _ hk => hk.1.2) (.int .i64 t340)) (fun _ hk => hk.1.2) (.int .i64 t341)) (fun _ hk => hk.1.2) (.slice Ao114 t342.length co114)) (fun _ hk => hk.1.2) (.slice Ao116 t345.length co116)) (fun _ hk => hk.2) (.int .i64 t308)) (fun _ hk => hk.2) (.int .i64 t309)) (fun _ hk => ⟨hk.1.1.1.1.1.1.1.1.1.1.1.2, ⟨hk.1.1.1.1.1.1.1.1.1.1.2, hk.1.1.1.1.1.1.1.1.1.1.1.1⟩⟩)⟩, ⟨by (with_reducible repeat (first | refine zbN ?_ _ | refine zbD ?_ | refine zbA ?_ _)); refine blk_put (cs := #[.int .i64 t308, .int .i64 x296001_1]) ?_ 1 _ rfl; (with_reducible repeat (first | refine zbN ?_ _ | refine zbD ?_ | refine zbA ?_ _)); refine blk_put (cs := #[.int .i64 x296000_1, .int .i64 x296001_1]) ?_ 0 _ rfl; (with_reducible repeat (first | refine zbN ?_ _ | refine zbD ?_ | refine zbA ?_ _)); refine blk_far ?_ NB295_306.out _; (with_reducible repeat (first | refine zbN ?_ _ | refine zbD ?_ | refine zbA ?_ _)); refine blk_far ?_ NB295_306.out _; (with_reducible repeat (first | refine zbN ?_ _ | refine zbD ?_ | refine zbA ?_ _)); refine blk_far ?_ NB295_306.out _; (with_reducible repeat (first | refine zbN ?_ _ | refine zbD ?_ | refine zbA ?_ _)); refine blk_far ?_ NB295_306.out _; (with_reducible repeat (first | refine zbN ?_ _ | refine zbD ?_ | refine zbA ?_ _)); exact BK295.out⟩, ⟨by (with_reducible repeat (first | refine zbN ?_ _ | refine zbD ?_ | refine zbA ?_ _)); refine blk_far ?_ NB296_295.out _; (with_reducible repeat (first | refine zbN ?_ _ | refine zbD ?_ | refine zbA ?_ _)); refine blk_far ?_ NB296_295.out _; (with_reducible repeat (first | refine zbN ?_ _ | refine zbD ?_ | refine zbA ?_ _)); refine blk_far ?_ NB296_306.out _; (with_reducible repeat (first | refine zbN ?_ _ | refine zbD ?_ | refine zbA ?_ _)); refine blk_far ?_ NB296_306.out _; (with_reducible repeat (first | refine zbN ?_ _ | refine zbD ?_ | refine zbA ?_ _)); refine blk_far ?_ NB296_306.out _; (with_reducible repeat (first | refine zbN ?_ _ | refine zbD ?_ | refine zbA ?_ _)); refine blk_far ?_ NB296_306.out _; (with_reducible repeat (first | refine zbN ?_ _ | refine zbD ?_ | refine zbA ?_ _)); exact BK296.out⟩, ⟨by (with_reducible repeat (first | refine zbN ?_ _ | refine zbD ?_ | refine zbA ?_ _)); refine blk_far ?_ NB305_295.out _; (with_reducible repeat (first | refine zbN ?_ _ | refine zbD ?_ | refine zbA ?_ _)); refine blk_far ?_ NB305_295.out _; (with_reducible repeat (first | refine zbN ?_ _ | refine zbD ?_ | refine zbA ?_ _)); refine blk_far ?_ NB305_306.out _; (with_reducible repeat (first | refine zbN ?_ _ | refine zbD ?_ | refine zbA ?_ _)); refine blk_far ?_ NB305_306.out _; (with_reducible repeat (first | refine zbN ?_ _ | refine zbD ?_ | refine zbA ?_ _)); refine blk_far ?_ NB305_306.out _; (with_reducible repeat (first | refine zbN ?_ _ | refine zbD ?_ | refine zbA ?_ _)); refine blk_far ?_ NB305_306.out _; (with_reducible repeat (first | refine zbN ?_ _ | refine zbD ?_ | refine zbA ?_ _)); exact BK305.out⟩, ⟨by (with_reducible repeat (first | refine zbN ?_ _ | refine zbD ?_ | refine zbA ?_ _)); refine blk_far ?_ NB306_295.out _; (with_reducible repeat (first | refine zbN ?_ _ | refine zbD ?_ | refine zbA ?_ _)); refine blk_far ?_ NB306_295.out _; (with_reducible repeat (first | refine zbN ?_ _ | refine zbD ?_ | refine zbA ?_ _)); refine blk_put (cs := #[.int .i64 t340, .int .i64 t341, .slice Ao114 t342.length co114, .slice Ao91 x307003_1.length co91]) ?_ 3 _ rfl; (with_reducible repeat (first | refine zbN ?_ _ | refine zbD ?_ | refine zbA ?_ _)); refine blk_put (cs := #[.int .i64 t340, .int .i64 t341, .slice Ao90 x307002_1.length co90, .slice Ao91 x307003_1.length co91]) ?_ 2 _ rfl; (with_reducible repeat (first | refine zbN ?_ _ | refine zbD ?_ | refine zbA ?_ _)); refine blk_put (cs := #[.int .i64 t340, .int .i64 x307001_1, .slice Ao90 x307002_1.length co90, .slice Ao91 x307003_1.length co91]) ?_ 1 _ rfl; (with_reducible repeat (first | refine zbN ?_ _ | refine zbD ?_ | refine zbA ?_ _)); refine blk_put (cs := #[.int .i64 x307000_1, .int .i64 x307001_1, .slice Ao90 x307002_1.length co90, .slice Ao91 x307003_1.length co91]) ?_ 0 _ rfl; (with_reducible repeat (first | refine zbN ?_ _ | refine zbD ?_ | refine zbA ?_ _)); exact BK306.out⟩, ⟨by repeat (first | (with_reducible first | exact HB.out | apply zA | apply zN | apply zD | refine zS ?_ GE295.out | refine zS ?_ GE296.out | refine zS ?_ GE305.out | refine zS ?_ GE306.out | refine zS ?_ GE311.out | refine zS ?_ GE315.out) | exact HB.out)⟩⟩
        ·replace c38 := Bool.eq_false_iff.mpr c38
         subst c38
         have H1 : (some (0, 0, ([] : List Int), ([] : List Int), false)) = some (r1, r2, r3, r4, r5) := by rw [if_neg (show ¬ (false = true) by decide)] at H; exact H
         clear H
         have H := H1
         clear H1
         simp only [Option.some.injEq, Prod.mk.injEq] at H
         obtain ⟨rfl, rfl, rfl, rfl, rfl⟩ := H
         have hnb120 := NB305_295.out
         have hnc120 := NB295_305.out
         have hnb121 := NB305_296.out
         have hnc121 := NB296_305.out
         have hnb122 := NB305_306.out
         have hnc122 := NB306_305.out
         have hcz123_0 : wr.cell? ⟨gb305, 0, none⟩ = some (.int .i64 t297) := (zbC BK305.out 0).trans rfl
         have hcz123_1 : wr.cell? ⟨gb305, 1, none⟩ = some (.int .i64 t298) := (zbC BK305.out 1).trans rfl
         have hcz123_2 : wr.cell? ⟨gb305, 2, none⟩ = some (.slice Ao13 t299.length co13) := (zbC BK305.out 2).trans rfl
         have hcz123_3 : wr.cell? ⟨gb305, 3, none⟩ = some (.slice Ao14 t302.length co14) := (zbC BK305.out 3).trans rfl
         have hfz123_0 := zbF BK305.out 0
         have hfz123_1 := zbF BK305.out 1
         have hfz123_2 := zbF BK305.out 2
         have hfz123_3 := zbF BK305.out 3
         have hnb124 := NB295_296.out
         have hnc124 := NB296_295.out
         have hnb125 := NB295_306.out
         have hnc125 := NB306_295.out
         have hcz126_0 : wr.cell? ⟨gb295, 0, none⟩ = some (.int .i64 x296000_1) := (zbC BK295.out 0).trans rfl
         have hcz126_1 : wr.cell? ⟨gb295, 1, none⟩ = some (.int .i64 x296001_1) := (zbC BK295.out 1).trans rfl
         have hfz126_0 := zbF BK295.out 0
         have hfz126_1 := zbF BK295.out 1
         go_wp2_with (first | ((with_reducible refine gate_callee (f := 82) rfl ?_); refine goesL_ (some 50) rfl rfl Tryd.func82 (by kernel_rfl) rfl #[.agg #[.int .i64 t297, .int .i64 t298, .slice Ao13 t299.length co13, .slice Ao14 t302.length co14], .agg #[.int .i64 x296000_1, .int .i64 x296001_1], .int .i64 x13_2] rfl (by (try simp only [List.map_toArray, List.map_cons, List.map_nil]); first | done | rfl | (simp only [List.length_drop, List.length_take]; rfl)) ?_; (with_reducible refine (spec_liNext.calls k2 t297 t298 _ _ t299 _ _ t302 x296000_1 x296001_1 x13_2 t308 t309 false _ ?side1 ?side2 ?side3 ?side4 A37.out).mono ?_); (case side1 => repeat (first | exact (Kd.R_reads' HO_306002.out).2.2 | (with_reducible refine Kd.C_alloc ?_ _) | (with_reducible refine Kd.C_drewN ?_ _) | (with_reducible refine Kd.C_drew ?_))); (case side2 => exact (Kd.R_reads' HO_306002.out).2.1); (case side3 => repeat (first | exact (Kd.R_reads' HO_306003.out).2.2 | (with_reducible refine Kd.C_alloc ?_ _) | (with_reducible refine Kd.C_drewN ?_ _) | (with_reducible refine Kd.C_drew ?_))); (case side4 => exact (Kd.R_reads' HO_306003.out).2.1); rintro e w127 ⟨rfl, hb⟩; refine ⟨_, rfl, ?_⟩; have n0_ := Aside0.mk (Kd.R_below (by (with_reducible repeat (first | apply Kd.R_alloc | apply Kd.R_drewN | apply Kd.R_drew)); exact HO_306002.out) hb); have n1_ := Aside0.mk (Kd.R_below (by (with_reducible repeat (first | apply Kd.R_alloc | apply Kd.R_drewN | apply Kd.R_drew)); exact HO_306003.out) hb); have n2_ := Aside0.mk (Kd.R_below (by (with_reducible repeat (first | apply Kd.R_alloc | apply Kd.R_drewN | apply Kd.R_drew)); exact HO_307002.out) hb); have n3_ := Aside0.mk (Kd.R_below (by (with_reducible repeat (first | apply Kd.R_alloc | apply Kd.R_drewN | apply Kd.R_drew)); exact HO_307003.out) hb); have n4_ := Aside0.mk (blk_below (g := gb295) (o := .cells #[.int .i64 x296000_1, .int .i64 x296001_1] 43 (0, 0)) (by (with_reducible repeat (first | refine zbN ?_ _ | refine zbD ?_ | refine zbA ?_ _)); exact BK295.out) hb); have n5_ := Aside0.mk (blk_below (g := gb296) (o := .cells #[.int .i64 x297000_1, .int .i64 x297001_1, .slice none 0 0, .slice none 0 0] 26 (0, 0)) (by (with_reducible repeat (first | refine zbN ?_ _ | refine zbD ?_ | refine zbA ?_ _)); exact BK296.out) hb); have n6_ := Aside0.mk (blk_below (g := gb305) (o := .cells #[.int .i64 t297, .int .i64 t298, .slice Ao13 t299.length co13, .slice Ao14 t302.length co14] 26 (0, 0)) (by (with_reducible repeat (first | refine zbN ?_ _ | refine zbD ?_ | refine zbA ?_ _)); exact BK305.out) hb); have n7_ := Aside0.mk (blk_below (g := gb306) (o := .cells #[.int .i64 x307000_1, .int .i64 x307001_1, u307002, u307003] 26 (0, 0)) (by (with_reducible repeat (first | refine zbN ?_ _ | refine zbD ?_ | refine zbA ?_ _)); exact BK306.out) hb); have n8_ := Aside0.mk (below_step (by repeat (first | (with_reducible first | exact HB.out | apply zA | apply zN | apply zD | refine zS ?_ GE295.out | refine zS ?_ GE296.out | refine zS ?_ GE305.out | refine zS ?_ GE306.out) | exact HB.out)) hb); clear HO_306002; clear HO_306003; clear HO_307002; clear HO_307003; clear BK295; clear BK296; clear BK305; clear BK306; clear HB; have HO_306002 := n0_; have HO_306003 := n1_; have HO_307002 := n2_; have HO_307003 := n3_; have BK295 := n4_; have BK296 := n5_; have BK305 := n6_; have BK306 := n7_; have HB := n8_; clear n0_ n1_ n2_ n3_ n4_ n5_ n6_ n7_ n8_; (try clear hb); (try clear hb2); (try clear hk); (try clear hi)) | ((with_reducible refine gate_dst (N := 15) rfl ?_); refine box_event ?hg (N := 15) ?hd (cs := #[.int .i64 0, .int .i64 0]) (t := 43) ?hr ?_; (case hd => rfl); (case hg => rfl); (case hr => first | (go_simp; done) | (go_simp; rfl)); intro gb311 hg w128 hbox hb; have n0_ := Aside0.mk (Kd.R_below (by (with_reducible repeat (first | apply Kd.R_alloc | apply Kd.R_drewN | apply Kd.R_drew)); exact HO_306002.out) hb); have n1_ := Aside0.mk (Kd.R_below (by (with_reducible repeat (first | apply Kd.R_alloc | apply Kd.R_drewN | apply Kd.R_drew)); exact HO_306003.out) hb); have n2_ := Aside0.mk (Kd.R_below (by (with_reducible repeat (first | apply Kd.R_alloc | apply Kd.R_drewN | apply Kd.R_drew)); exact HO_307002.out) hb); have n3_ := Aside0.mk (Kd.R_below (by (with_reducible repeat (first | apply Kd.R_alloc | apply Kd.R_drewN | apply Kd.R_drew)); exact HO_307003.out) hb); have n4_ := Aside0.mk (blk_below (g := gb295) (o := .cells #[.int .i64 x296000_1, .int .i64 x296001_1] 43 (0, 0)) (by (with_reducible repeat (first | refine zbN ?_ _ | refine zbD ?_ | refine zbA ?_ _)); exact BK295.out) hb); have n5_ := Aside0.mk (blk_below (g := gb296) (o := .cells #[.int .i64 x297000_1, .int .i64 x297001_1, .slice none 0 0, .slice none 0 0] 26 (0, 0)) (by (with_reducible repeat (first | refine zbN ?_ _ | refine zbD ?_ | refine zbA ?_ _)); exact BK296.out) hb); have n6_ := Aside0.mk (blk_below (g := gb305) (o := .cells #[.int .i64 t297, .int .i64 t298, .slice Ao13 t299.length co13, .slice Ao14 t302.length co14] 26 (0, 0)) (by (with_reducible repeat (first | refine zbN ?_ _ | refine zbD ?_ | refine zbA ?_ _)); exact BK305.out) hb); have n7_ := Aside0.mk (blk_below (g := gb306) (o := .cells #[.int .i64 x307000_1, .int .i64 x307001_1, u307002, u307003] 26 (0, 0)) (by (with_reducible repeat (first | refine zbN ?_ _ | refine zbD ?_ | refine zbA ?_ _)); exact BK306.out) hb); have n8_ := Aside0.mk (below_step (by repeat (first | (with_reducible first | exact HB.out | apply zA | apply zN | apply zD | refine zS ?_ GE295.out | refine zS ?_ GE296.out | refine zS ?_ GE305.out | refine zS ?_ GE306.out) | exact HB.out)) hb); have n9_ := Aside0.mk (hbox); have n10_ := Aside0.mk ((by rw [hg]; exact (below_size (by repeat (first | (with_reducible first | exact HB.out | apply zA | apply zN | apply zD | refine zS ?_ GE295.out | refine zS ?_ GE296.out | refine zS ?_ GE305.out | refine zS ?_ GE306.out) | exact HB.out))) : w.heap.size ≤ gb311)); have n11_ := Aside0.mk ((by rw [hg]; exact (below_size (by repeat (first | (with_reducible first | exact HB.out | apply zA | apply zN | apply zD | refine zS ?_ GE295.out | refine zS ?_ GE296.out | refine zS ?_ GE305.out | refine zS ?_ GE306.out) | exact HB.out))) : w.heap.size ≤ gb311)); have n12_ := Aside0.mk ((by rw [hg]; exact Nat.ne_of_lt (blk_lt (g := gb295) (o := .cells #[.int .i64 x296000_1, .int .i64 x296001_1] 43 (0, 0)) (by (with_reducible repeat (first | refine zbN ?_ _ | refine zbD ?_ | refine zbA ?_ _)); exact BK295.out)) : gb295 ≠ gb311)); have n13_ := Aside0.mk ((by rw [hg]; exact Nat.ne_of_gt (blk_lt (g := gb295) (o := .cells #[.int .i64 x296000_1, .int .i64 x296001_1] 43 (0, 0)) (by (with_reducible repeat (first | refine zbN ?_ _ | refine zbD ?_ | refine zbA ?_ _)); exact BK295.out)) : gb311 ≠ gb295)); have n14_ := Aside0.mk ((by rw [hg]; exact Nat.ne_of_lt (blk_lt (g := gb296) (o := .cells #[.int .i64 x297000_1, .int .i64 x297001_1, .slice none 0 0, .slice none 0 0] 26 (0, 0)) (by (with_reducible repeat (first | refine zbN ?_ _ | refine zbD ?_ | refine zbA ?_ _)); exact BK296.out)) : gb296 ≠ gb311)); have n15_ := Aside0.mk ((by rw [hg]; exact Nat.ne_of_gt (blk_lt (g := gb296) (o := .cells #[.int .i64 x297000_1, .int .i64 x297001_1, .slice none 0 0, .slice none 0 0] 26 (0, 0)) (by (with_reducible repeat (first | refine zbN ?_ _ | refine zbD ?_ | refine zbA ?_ _)); exact BK296.out)) : gb311 ≠ gb296)); have n16_ := Aside0.mk ((by rw [hg]; exact Nat.ne_of_lt (blk_lt (g := gb305) (o := .cells #[.int .i64 t297, .int .i64 t298, .slice Ao13 t299.length co13, .slice Ao14 t302.length co14] 26 (0, 0)) (by (with_reducible repeat (first | refine zbN ?_ _ | refine zbD ?_ | refine zbA ?_ _)); exact BK305.out)) : gb305 ≠ gb311)); have n17_ := Aside0.mk ((by rw [hg]; exact Nat.ne_of_gt (blk_lt (g := gb305) (o := .cells #[.int .i64 t297, .int .i64 t298, .slice Ao13 t299.length co13, .slice Ao14 t302.length co14] 26 (0, 0)) (by (with_reducible repeat (first | refine zbN ?_ _ | refine zbD ?_ | refine zbA ?_ _)); exact BK305.out)) : gb311 ≠ gb305)); have n18_ := Aside0.mk ((by rw [hg]; exact Nat.ne_of_lt (blk_lt (g := gb306) (o := .cells #[.int .i64 x307000_1, .int .i64 x307001_1, u307002, u307003] 26 (0, 0)) (by (with_reducible repeat (first | refine zbN ?_ _ | refine zbD ?_ | refine zbA ?_ _)); exact BK306.out)) : gb306 ≠ gb311)); have n19_ := Aside0.mk ((by rw [hg]; exact Nat.ne_of_gt (blk_lt (g := gb306) (o := .cells #[.int .i64 x307000_1, .int .i64 x307001_1, u307002, u307003] 26 (0, 0)) (by (with_reducible repeat (first | refine zbN ?_ _ | refine zbD ?_ | refine zbA ?_ _)); exact BK306.out)) : gb311 ≠ gb306)); clear HO_306002; clear HO_306003; clear HO_307002; clear HO_307003; clear BK295; clear BK296; clear BK305; clear BK306; clear HB; have HO_306002 := n0_; have HO_306003 := n1_; have HO_307002 := n2_; have HO_307003 := n3_; have BK295 := n4_; have BK296 := n5_; have BK305 := n6_; have BK306 := n7_; have HB := n8_; have BK311 := n9_; have GW311 := n10_; have GE311 := n11_; have NB295_311 := n12_; have NB311_295 := n13_; have NB296_311 := n14_; have NB311_296 := n15_; have NB305_311 := n16_; have NB311_305 := n17_; have NB306_311 := n18_; have NB311_306 := n19_; clear n0_ n1_ n2_ n3_ n4_ n5_ n6_ n7_ n8_ n9_ n10_ n11_ n12_ n13_ n14_ n15_ n16_ n17_ n18_ n19_; clear hb hbox hg; have hnb129 := NB311_295.out; have hnc129 := NB295_311.out; have hnb130 := NB311_296.out; have hnc130 := NB296_311.out; have hnb131 := NB311_305.out; have hnc131 := NB305_311.out; have hnb132 := NB311_306.out; have hnc132 := NB306_311.out; have hcz133_0 : w128.cell? ⟨gb311, 0, none⟩ = some (.int .i64 0) := (zbC BK311.out 0).trans rfl; have hcz133_1 : w128.cell? ⟨gb311, 1, none⟩ = some (.int .i64 0) := (zbC BK311.out 1).trans rfl; have hfz133_0 := zbF BK311.out 0; have hfz133_1 := zbF BK311.out 1; have hnb134 := NB296_306.out; have hnc134 := NB306_296.out; have hcz135_0 : w128.cell? ⟨gb296, 0, none⟩ = some (.int .i64 x297000_1) := (zbC BK296.out 0).trans rfl; have hcz135_1 : w128.cell? ⟨gb296, 1, none⟩ = some (.int .i64 x297001_1) := (zbC BK296.out 1).trans rfl; have hcz135_2 : w128.cell? ⟨gb296, 2, none⟩ = some (.slice none 0 0) := (zbC BK296.out 2).trans rfl; have hcz135_3 : w128.cell? ⟨gb296, 3, none⟩ = some (.slice none 0 0) := (zbC BK296.out 3).trans rfl; have hfz135_0 := zbF BK296.out 0; have hfz135_1 := zbF BK296.out 1; have hfz135_2 := zbF BK296.out 2; have hfz135_3 := zbF BK296.out 3))
         refine bodyPost_ret (results_ct rfl _ _ gb296 26 #[.int .i64 0, .int .i64 0, .slice none 0 0, .slice none 0 0] (0, 0) _ rfl (by (with_reducible repeat (first | refine zbN ?_ _ | refine zbD ?_ | refine zbA ?_ _)); refine blk_put (cs := #[.int .i64 0, .int .i64 0, .slice none 0 0, .slice none 0 0]) ?_ 3 _ rfl; (with_reducible repeat (first | refine zbN ?_ _ | refine zbD ?_ | refine zbA ?_ _)); refine blk_put (cs := #[.int .i64 0, .int .i64 0, .slice none 0 0, .slice none 0 0]) ?_ 2 _ rfl; (with_reducible repeat (first | refine zbN ?_ _ | refine zbD ?_ | refine zbA ?_ _)); refine blk_put (cs := #[.int .i64 0, .int .i64 x297001_1, .slice none 0 0, .slice none 0 0]) ?_ 1 _ rfl; (with_reducible repeat (first | refine zbN ?_ _ | refine zbD ?_ | refine zbA ?_ _)); refine blk_put (cs := #[.int .i64 x297000_1, .int .i64 x297001_1, .slice none 0 0, .slice none 0 0]) ?_ 0 _ rfl; (with_reducible repeat (first | refine zbN ?_ _ | refine zbD ?_ | refine zbA ?_ _)); refine blk_far ?_ NB296_311.out _; (with_reducible repeat (first | refine zbN ?_ _ | refine zbD ?_ | refine zbA ?_ _)); refine blk_far ?_ NB296_311.out _; (with_reducible repeat (first | refine zbN ?_ _ | refine zbD ?_ | refine zbA ?_ _)); exact BK296.out) Tryd.underlying26 rfl (by kernel_rfl)) rfl ?_
         exact ⟨_, _, by first | rfl | (simp [errW_none, errW_some] <;> rfl) | (simp [*, errW_none, errW_some] <;> rfl), by first | exact Kd.R_nil _ _ _ _ _ | exact Kd.N_nil _ _ _ _ _ | exact Kd.V_nil _ _ _ _ _ | exact Kd.Q_nil _ _ _ _ _ | exact Kd.S_nil _ _ _ _ _, by first | exact Kd.R_nil _ _ _ _ _ | exact Kd.N_nil _ _ _ _ _ | exact Kd.V_nil _ _ _ _ _ | exact Kd.Q_nil _ _ _ _ _ | exact Kd.S_nil _ _ _ _ _, by repeat (first | (with_reducible first | exact HB.out | apply zA | apply zN | apply zD | refine zS ?_ GE295.out | refine zS ?_ GE296.out | refine zS ?_ GE305.out | refine zS ?_ GE306.out | refine zS ?_ GE311.out) | exact HB.out)⟩
   ·rw [if_neg c20] at H
    have c20b0 : decide (x12_1 < (a3.size : Int)) = false := decide_eq_false c20
    clear c20
    simp only [Option.some.injEq, Prod.mk.injEq] at H
    obtain ⟨rfl, rfl, rfl, rfl, rfl⟩ := H
    have hnb136 := NB306_295.out
    have hnc136 := NB295_306.out
    have hnb137 := NB306_296.out
    have hnc137 := NB296_306.out
    have hnb138 := NB306_305.out
    have hnc138 := NB305_306.out
    have hcz139_0 : wr.cell? ⟨gb306, 0, none⟩ = some (.int .i64 x307000_1) := (zbC BK306.out 0).trans rfl
    have hcz139_1 : wr.cell? ⟨gb306, 1, none⟩ = some (.int .i64 x307001_1) := (zbC BK306.out 1).trans rfl
    have hcz139_2 : wr.cell? ⟨gb306, 2, none⟩ = some (u307002) := (zbC BK306.out 2).trans rfl
    have hcz139_3 : wr.cell? ⟨gb306, 3, none⟩ = some (u307003) := (zbC BK306.out 3).trans rfl
    have hfz139_0 := zbF BK306.out 0
    have hfz139_1 := zbF BK306.out 1
    have hfz139_2 := zbF BK306.out 2
    have hfz139_3 := zbF BK306.out 3
    have hnb140 := NB296_295.out
    have hnc140 := NB295_296.out
    have hnb141 := NB296_305.out
    have hnc141 := NB305_296.out
    have hcz142_0 : wr.cell? ⟨gb296, 0, none⟩ = some (.int .i64 x297000_1) := (zbC BK296.out 0).trans rfl
    have hcz142_1 : wr.cell? ⟨gb296, 1, none⟩ = some (.int .i64 x297001_1) := (zbC BK296.out 1).trans rfl
    have hcz142_2 : wr.cell? ⟨gb296, 2, none⟩ = some (.slice none 0 0) := (zbC BK296.out 2).trans rfl
    have hcz142_3 : wr.cell? ⟨gb296, 3, none⟩ = some (.slice none 0 0) := (zbC BK296.out 3).trans rfl
    have hfz142_0 := zbF BK296.out 0
    have hfz142_1 := zbF BK296.out 1
    have hfz142_2 := zbF BK296.out 2
    have hfz142_3 := zbF BK296.out 3
    obtain ⟨Ao143, co143, eo143⟩ := Kd.R_slice HO_307002.out
    subst eo143
    obtain ⟨Ao144, co144, eo144⟩ := Kd.R_slice HO_307003.out
    subst eo144
    go_wp2
    refine bodyPost_ret (results_ct rfl _ _ gb296 26 #[.int .i64 x307000_1, .int .i64 x307001_1, .slice Ao143 x307002_1.length co143, .slice Ao144 x307003_1.length co144] (0, 0) _ rfl (by (with_reducible repeat (first | refine zbN ?_ _ | refine zbD ?_ | refine zbA ?_ _)); refine blk_put (cs := #[.int .i64 x307000_1, .int .i64 x307001_1, .slice Ao143 x307002_1.length co143, .slice none 0 0]) ?_ 3 _ rfl; (with_reducible repeat (first | refine zbN ?_ _ | refine zbD ?_ | refine zbA ?_ _)); refine blk_put (cs := #[.int .i64 x307000_1, .int .i64 x307001_1, .slice none 0 0, .slice none 0 0]) ?_ 2 _ rfl; (with_reducible repeat (first | refine zbN ?_ _ | refine zbD ?_ | refine zbA ?_ _)); refine blk_put (cs := #[.int .i64 x307000_1, .int .i64 x297001_1, .slice none 0 0, .slice none 0 0]) ?_ 1 _ rfl; (with_reducible repeat (first | refine zbN ?_ _ | refine zbD ?_ | refine zbA ?_ _)); refine blk_put (cs := #[.int .i64 x297000_1, .int .i64 x297001_1, .slice none 0 0, .slice none 0 0]) ?_ 0 _ rfl; (with_reducible repeat (first | refine zbN ?_ _ | refine zbD ?_ | refine zbA ?_ _)); exact BK296.out) Tryd.underlying26 rfl (by kernel_rfl)) rfl ?_
    exact ⟨_, _, by first | rfl | (simp [errW_none, errW_some] <;> rfl) | (simp [*, errW_none, errW_some] <;> rfl), by (with_reducible repeat (first | apply Kd.R_alloc | apply Kd.R_drewN | apply Kd.R_drew)); exact Kd.R_mono (Kd.R_far (p := ⟨gb296, 3, none⟩) (Kd.R_far (p := ⟨gb296, 2, none⟩) (Kd.R_far (p := ⟨gb296, 1, none⟩) (Kd.R_far (p := ⟨gb296, 0, none⟩) (Kd.R_types HO_307002.out BK296.out (by decide)) (fun _ hk => hk.2) (.int .i64 x307000_1)) (fun _ hk => hk.2) (.int .i64 x307001_1)) (fun _ hk => hk.2) (.slice Ao143 x307002_1.length co143)) (fun _ hk => hk.2) (.slice Ao144 x307003_1.length co144)) (fun _ hk => hk.1.2.2), by (with_reducible repeat (first | apply Kd.R_alloc | apply Kd.R_drewN | apply Kd.R_drew)); exact Kd.R_mono (Kd.R_far (p := ⟨gb296, 3, none⟩) (Kd.R_far (p := ⟨gb296, 2, none⟩) (Kd.R_far (p := ⟨gb296, 1, none⟩) (Kd.R_far (p := ⟨gb296, 0, none⟩) (Kd.R_types HO_307003.out BK296.out (by decide)) (fun _ hk => hk.2) (.int .i64 x307000_1)) (fun _ hk => hk.2) (.int .i64 x307001_1)) (fun _ hk => hk.2) (.slice Ao143 x307002_1.length co143)) (fun _ hk => hk.2) (.slice Ao144 x307003_1.length co144)) (fun _ hk => hk.1.2.2), by repeat (first | (with_reducible first | exact HB.out | apply zA | apply zN | apply zD | refine zS ?_ GE295.out | refine zS ?_ GE296.out | refine zS ?_ GE305.out | refine zS ?_ GE306.out) | exact HB.out)⟩

end Go.Proofs.YtmlkihaoeopobaaDoor.Q
