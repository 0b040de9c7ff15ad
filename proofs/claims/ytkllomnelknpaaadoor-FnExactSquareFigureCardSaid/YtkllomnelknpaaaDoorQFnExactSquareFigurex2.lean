-- written by a program of this session, pm.py, for this claim
import Derived.Test.YtkllomnelknpaaaDoorQFnExactSquareFigurex0
import Derived.Test.YtkllomnelknpaaaDoorQFnExactSquareFigurex1
namespace Go.Proofs.YtkllomnelknpaaaDoor.Q
open Go.RowKit Go.Proofs.YtkllomnelknpaaaDoorW.PrintWords Go.Proofs.YtkllomnelknpaaaDoorW.PrintLast Go.Proofs.YtkllomnelknpaaaDoorW.PrintMore
attribute [local go_sem] max2_int min2_int max_two min_two max_three min_three max_four min_four   -- for this text's walks alone
set_option linter.unusedVariables false
set_option linter.unusedSimpArgs false

set_option hygiene false in
local macro "zqf_2_1z" : tactic => `(tactic| (first | (with_reducible first | exact HB.out | apply below_alloc | apply pw_below_drewN | apply below_drew1) | exact HB.out))
set_option hygiene false in
local macro:max "zqf_2_2z" : term => `((by (try simp only [List.map_toArray, List.map_cons, List.map_nil]); first | done | rfl | (simp only [List.length_drop, List.length_take]; rfl)))
set_option hygiene false in
local macro "zqf_2_3z" : tactic => `(tactic| (with_reducible repeat (first | refine blk_drewN ?_ _ | refine blk_drew ?_ | refine blk_alloc ?_ _)))
set_option hygiene false in
local macro "zqf_2_4z" : tactic => `(tactic| (first | (with_reducible first | exact HB.out | apply below_alloc | apply pw_below_drewN | apply below_drew1 | refine below_set ?_ GE133.out) | exact HB.out))
set_option hygiene false in
local macro:max "zqf_2_5z" : term => `((by first | rfl | (simp; done) | (simp [*]; done)))
set_option hygiene false in
local macro "zqf_2_6z" : tactic => `(tactic| (with_reducible repeat (first | apply Kd.R_alloc | apply Kd.R_drewN | apply Kd.R_drew)))
set_option hygiene false in
local macro "zqf_2_7z" : tactic => `(tactic| (first | exact Drawn0.refl _ | apply Drawn0.step))
set_option hygiene false in
local macro "zq22_1z" : tactic => `(tactic| (zqf_2_3z))
set_option hygiene false in
local macro "zq22_2z" : tactic => `(tactic| (first | (with_reducible first | exact HB.out | apply below_alloc | apply pw_below_drewN | apply below_drew1 | refine below_set ?_ GE119.out | refine below_set ?_ GE120.out) | exact HB.out))
set_option hygiene false in
local macro "zq22_3z" : tactic => `(tactic| (zqf_2_6z))
set_option hygiene false in
local macro:max "zq22_4z" : term => `(zqf_2_2z)
/-! ### spec_sqFigure: function 22 -/
mutual
def spec_sqFigure.l0 : Nat → Int → Int → Int → Int → Int → Int → List Int → Option (Int × Int × List Int × List Int)
 | 0, _, _, _, _, _, _, _ => none
 | k + 1, x0, x1, x2, x8, x121000, x121001, x121002 => if x8 < (wrap64 (x0 * (wrap64 (x1 + 1)))) then ((spec_sqBit.f x0 x1 false x8).bind fun t121 => (if (Go.bits .and .i64 x2 t121) = 0 then (spec_sqFigure.l0 k x0 x1 x2 (wrap64 (x8 + 1)) x121000 x121001 x121002) else (if x121002.length < 17592186044416 then (spec_sqFigure.l0 k x0 x1 x2 (wrap64 (x8 + 1)) x121000 x121001 (x121002 ++ [x8])) else (none)))) else (spec_sqFigure.l1 k x0 x1 x2 0 x121000 x121001 x121002 ([] : List Int))
def spec_sqFigure.l1 : Nat → Int → Int → Int → Int → Int → Int → List Int → List Int → Option (Int × Int × List Int × List Int)
 | 0, _, _, _, _, _, _, _, _ => none
 | k + 1, x0, x1, x2, x9, x121000, x121001, x121002, x121003 => if x9 < (wrap64 ((wrap64 (x0 + 1)) * x1)) then ((spec_sqBit.f x0 x1 true x9).bind fun t125 => (if (Go.bits .and .i64 x2 t125) = 0 then (spec_sqFigure.l1 k x0 x1 x2 (wrap64 (x9 + 1)) x121000 x121001 x121002 x121003) else (if x121003.length < 17592186044416 then (spec_sqFigure.l1 k x0 x1 x2 (wrap64 (x9 + 1)) x121000 x121001 x121002 (x121003 ++ [x9])) else (none)))) else (some (x121000, x121001, x121002, x121003))
end
def spec_sqFigure.f (k : Nat) (a0 : Int) (a1 : Int) (a2 : Int) : Option (Int × Int × List Int × List Int) := spec_sqFigure.l0 k a0 a1 a2 0 a0 a1 ([] : List Int)
theorem spec_sqFigure.mono_l : ∀ k, (∀ y0 y1 y2 y3 y4 y5 y6, LeO (spec_sqFigure.l0 k y0 y1 y2 y3 y4 y5 y6) (spec_sqFigure.l0 (k + 1) y0 y1 y2 y3 y4 y5 y6)) ∧ (∀ y0 y1 y2 y3 y4 y5 y6 y7, LeO (spec_sqFigure.l1 k y0 y1 y2 y3 y4 y5 y6 y7) (spec_sqFigure.l1 (k + 1) y0 y1 y2 y3 y4 y5 y6 y7))
 | 0 => ⟨fun _ _ _ _ _ _ _ r h => by simp [spec_sqFigure.l0] at h, fun _ _ _ _ _ _ _ _ r h => by simp [spec_sqFigure.l1] at h⟩
 | k + 1 => by
  obtain ⟨ih0, ih1⟩ := spec_sqFigure.mono_l k
  refine ⟨?_, ?_⟩
  ·intro y0 y1 y2 y3 y4 y5 y6
   unfold spec_sqFigure.l0
   repeat' first
   | (with_reducible exact ih0 _ _ _ _ _ _ _)
   | (with_reducible exact ih1 _ _ _ _ _ _ _ _)
   | (with_reducible exact LeO.refl _)
   | (with_reducible exact LeO.none _)
   | (with_reducible refine LeO.ite ?_ ?_)
   | (with_reducible refine LeO.bind ?_ (fun _ => ?_))
   | exact ih0 _ _ _ _ _ _ _
   | exact ih1 _ _ _ _ _ _ _ _
   | exact LeO.none _
   | refine LeO.ite ?_ ?_
   | refine LeO.bind ?_ (fun _ => ?_)
  ·intro y0 y1 y2 y3 y4 y5 y6 y7
   unfold spec_sqFigure.l1
   repeat' first
   | (with_reducible exact ih0 _ _ _ _ _ _ _)
   | (with_reducible exact ih1 _ _ _ _ _ _ _ _)
   | (with_reducible exact LeO.refl _)
   | (with_reducible exact LeO.none _)
   | (with_reducible refine LeO.ite ?_ ?_)
   | (with_reducible refine LeO.bind ?_ (fun _ => ?_))
   | exact ih0 _ _ _ _ _ _ _
   | exact ih1 _ _ _ _ _ _ _ _
   | exact LeO.none _
   | refine LeO.ite ?_ ?_
   | refine LeO.bind ?_ (fun _ => ?_)
theorem spec_sqFigure.mono : ∀ a0 a1 a2 k, LeO (spec_sqFigure.f k a0 a1 a2) (spec_sqFigure.f (k + 1) a0 a1 a2) := by
 intro a0 a1 a2 k
 obtain ⟨ih0, ih1⟩ := spec_sqFigure.mono_l k
 unfold spec_sqFigure.f
 repeat' first
   | (with_reducible exact ih0 _ _ _ _ _ _ _)
   | (with_reducible exact ih1 _ _ _ _ _ _ _ _)
   | (with_reducible exact LeO.refl _)
   | (with_reducible exact LeO.none _)
   | (with_reducible refine LeO.ite ?_ ?_)
   | (with_reducible refine LeO.bind ?_ (fun _ => ?_))
   | exact ih0 _ _ _ _ _ _ _
   | exact ih1 _ _ _ _ _ _ _ _
   | exact LeO.none _
   | refine LeO.ite ?_ ?_
   | refine LeO.bind ?_ (fun _ => ?_)
set_option maxHeartbeats 8000000 in
set_option maxRecDepth 100000 in
theorem spec_sqFigure.calls (k : Nat) (a0 : Int) (a1 : Int) (a2 : Int) (r1 : Int) (r2 : Int) (r3 : List Int) (r4 : List Int) (w : World) (h : spec_sqFigure.f k a0 a1 a2 = some (r1, r2, r3, r4)) :
  Calls Tryd.prog 22 #[.int .i64 a0, .int .i64 a1, .int .i64 a2] w fun e w' => ∃ v2_ v3_ : Value, e = .returned (.agg #[.int .i64 r1, .int .i64 r2, v2_, v3_]) ∧ Kd.R (Kd.int .i64) 3 w' w.heap.size (fun k_ => some k_ ≠ (v3_ : Value).ownBlock) v2_ r3 ∧ Kd.R (Kd.int .i64) 3 w' w.heap.size (fun k_ => some k_ ≠ (v2_ : Value).ownBlock) v3_ r4 ∧ Below w.heap.size w w' := by
 have hu24 := Tryd.underlying24
 have HB := Aside0.mk (Below.refl w.heap.size w)
 have H : (spec_sqFigure.l0 k a0 a1 a2 0 a0 a1 ([] : List Int)) = some (r1, r2, r3, r4) := h
 clear h
 have H' := Aside0.mk H
 clear H
 go_enter Tryd.func22, Tryd.ntmps22
 go_wp2_with (first | ((with_reducible refine gate_dst (N := 6) rfl ?_); refine box_event ?hg (N := 6) ?hd (cs := #[.int .i64 0, .int .i64 0, .slice none 0 0, .slice none 0 0]) (t := 24) ?hr ?_; (case hd => rfl); (case hg => rfl); (case hr => first | (go_simp; done) | (go_simp; rfl)); intro gb119 hg w4 hbox hb; have n0_ := Aside0.mk (below_step (by repeat (zqf_2_1z)) hb); have n1_ := Aside0.mk (hbox); have n2_ := Aside0.mk ((by rw [hg]; exact (below_size (by repeat (zqf_2_1z))) : w.heap.size ≤ gb119)); have n3_ := Aside0.mk ((by rw [hg]; exact (below_size (by repeat (zqf_2_1z))) : w.heap.size ≤ gb119)); clear HB; have HB := n0_; have BK119 := n1_; have GW119 := n2_; have GE119 := n3_; clear n0_ n1_ n2_ n3_; clear hb hbox hg) | ((with_reducible refine gate_dst (N := 7) rfl ?_); refine box_event ?hg (N := 7) ?hd (cs := #[.int .i64 0, .int .i64 0, .slice none 0 0, .slice none 0 0]) (t := 24) ?hr ?_; (case hd => rfl); (case hg => rfl); (case hr => first | (go_simp; done) | (go_simp; rfl)); intro gb120 hg w5 hbox hb; have n0_ := Aside0.mk (blk_below (g := gb119) (o := .cells #[.int .i64 0, .int .i64 0, .slice none 0 0, .slice none 0 0] 24 (0, 0)) (by (zq22_1z); exact BK119.out) hb); have n1_ := Aside0.mk (below_step (by repeat (first | (with_reducible first | exact HB.out | apply below_alloc | apply pw_below_drewN | apply below_drew1 | refine below_set ?_ GE119.out) | exact HB.out)) hb); have n2_ := Aside0.mk (hbox); have n3_ := Aside0.mk ((by rw [hg]; exact (below_size (by repeat (first | (with_reducible first | exact HB.out | apply below_alloc | apply pw_below_drewN | apply below_drew1 | refine below_set ?_ GE119.out) | exact HB.out))) : w.heap.size ≤ gb120)); have n4_ := Aside0.mk ((by rw [hg]; exact (below_size (by repeat (first | (with_reducible first | exact HB.out | apply below_alloc | apply pw_below_drewN | apply below_drew1 | refine below_set ?_ GE119.out) | exact HB.out))) : w.heap.size ≤ gb120)); have n5_ := Aside0.mk ((by rw [hg]; exact Nat.ne_of_lt (blk_lt (g := gb119) (o := .cells #[.int .i64 0, .int .i64 0, .slice none 0 0, .slice none 0 0] 24 (0, 0)) (by (zq22_1z); exact BK119.out)) : gb119 ≠ gb120)); have n6_ := Aside0.mk ((by rw [hg]; exact Nat.ne_of_gt (blk_lt (g := gb119) (o := .cells #[.int .i64 0, .int .i64 0, .slice none 0 0, .slice none 0 0] 24 (0, 0)) (by (zq22_1z); exact BK119.out)) : gb120 ≠ gb119)); clear BK119; clear HB; have BK119 := n0_; have HB := n1_; have BK120 := n2_; have GW120 := n3_; have GE120 := n4_; have NB119_120 := n5_; have NB120_119 := n6_; clear n0_ n1_ n2_ n3_ n4_ n5_ n6_; clear hb hbox hg; have hnb6 := NB120_119.out; have hnc6 := NB119_120.out; have hcz7_0 : w5.cell? ⟨gb120, 0, none⟩ = some (.int .i64 0) := (blk_cell BK120.out 0).trans rfl; have hcz7_1 : w5.cell? ⟨gb120, 1, none⟩ = some (.int .i64 0) := (blk_cell BK120.out 1).trans rfl; have hcz7_2 : w5.cell? ⟨gb120, 2, none⟩ = some (.slice none 0 0) := (blk_cell BK120.out 2).trans rfl; have hcz7_3 : w5.cell? ⟨gb120, 3, none⟩ = some (.slice none 0 0) := (blk_cell BK120.out 3).trans rfl; have hfz7_0 := blk_frozen BK120.out 0; have hfz7_1 := blk_frozen BK120.out 1; have hfz7_2 := blk_frozen BK120.out 2; have hfz7_3 := blk_frozen BK120.out 3))
 go_loopg [8] k (fun kq v8 w' => ∃ (x8_1 : Int) (x121002_1 : List Int) (u121002 : Value), v8 = .int .i64 x8_1 ∧ Aside0 (spec_sqFigure.l0 kq a0 a1 a2 x8_1 a0 a1 x121002_1 = some (r1, r2, r3, r4)) ∧ Aside0 (kq ≤ k) ∧ Aside0 (Kd.R (Kd.int .i64) 3 w' w.heap.size (fun _ => True) u121002 x121002_1) ∧ Aside0 (w'.heap[gb119]? = some (.cells #[.int .i64 0, .int .i64 0, (.slice none 0 0), (.slice none 0 0)] 24 (0, 0))) ∧ Aside0 (w'.heap[gb120]? = some (.cells #[.int .i64 a0, .int .i64 a1, u121002, (.slice none 0 0)] 24 (0, 0))) ∧ Aside0 (Below w.heap.size w w'))
 case atStart => exact ⟨(0), (([] : List Int)), (.slice none 0 0), zqf_2_5z, H', ⟨Nat.le_refl _⟩, ⟨by first | exact Kd.R_nil _ _ _ _ _ | exact Kd.N_nil _ _ _ _ _ | exact Kd.V_nil _ _ _ _ _ | exact Kd.Q_nil _ _ _ _ _ | exact Kd.S_nil _ _ _ _ _⟩, ⟨by (zq22_1z); refine blk_far ?_ NB119_120.out _; (zq22_1z); refine blk_far ?_ NB119_120.out _; (zq22_1z); refine blk_far ?_ NB119_120.out _; (zq22_1z); refine blk_far ?_ NB119_120.out _; (zq22_1z); exact BK119.out⟩, ⟨by (zq22_1z); refine blk_put (cs := #[.int .i64 a0, .int .i64 a1, .slice none 0 0, .slice none 0 0]) ?_ 3 _ rfl; (zq22_1z); refine blk_put (cs := #[.int .i64 a0, .int .i64 a1, .slice none 0 0, .slice none 0 0]) ?_ 2 _ rfl; (zq22_1z); refine blk_put (cs := #[.int .i64 a0, .int .i64 0, .slice none 0 0, .slice none 0 0]) ?_ 1 _ rfl; (zq22_1z); refine blk_put (cs := #[.int .i64 0, .int .i64 0, .slice none 0 0, .slice none 0 0]) ?_ 0 _ rfl; (zq22_1z); exact BK120.out⟩, ⟨by repeat (zq22_2z)⟩⟩
 case round =>
  clear H'
  try clear c2
  try clear p2
  try clear c6
  try clear hcz7_0
  try clear hcz7_1
  try clear hcz7_2
  try clear hcz7_3
  try clear hfz7_0
  try clear hfz7_1
  try clear hfz7_2
  try clear hfz7_3
  obtain ⟨x8_1, x121002_1, u121002, rfl, HA, HK1, HO_121002, BK119, BK120, HB⟩ := hrel
  cases gk with
  | zero => exact absurd HA.out (by simp [spec_sqFigure.l0])
  | succ k1 =>
   have H := HA.out
   clear HA
   simp only [spec_sqFigure.l0] at H
   by_cases c8 : x8_1 < (wrap64 (a0 * (wrap64 (a1 + 1))))
   ·rw [if_pos c8] at H
    have c8b0 : decide (x8_1 < (wrap64 (a0 * (wrap64 (a1 + 1))))) = true := decide_eq_true c8
    clear c8
    replace H := Option.bind_eq_some_iff.mp H
    obtain ⟨t121, A90, H⟩ := H
    replace H : (if (Go.bits .and .i64 a2 t121) = 0 then (spec_sqFigure.l0 k1 a0 a1 a2 (wrap64 (x8_1 + 1)) a0 a1 x121002_1) else (if x121002_1.length < 17592186044416 then (spec_sqFigure.l0 k1 a0 a1 a2 (wrap64 (x8_1 + 1)) a0 a1 (x121002_1 ++ [x8_1])) else (none))) = some (r1, r2, r3, r4) := H
    have A9 := Aside0.mk A90
    clear A90
    by_cases c10 : (Go.bits .and .i64 a2 t121) = 0
    ·rw [if_pos c10] at H
     have c10b0 : ((Go.bits .and .i64 a2 t121) == 0) = true := beq_iff_eq.mpr c10
     have c10b1 : ((Go.bits .and .i64 a2 t121) != 0) = false := bne_eq_false_iff_eq.mpr c10
     clear c10
     have H' := Aside0.mk H
     clear H
     go_wp2_with (first | ((with_reducible refine gate_callee (f := 30) rfl ?_); refine goesL_ (some 25) rfl rfl Tryd.func30 (by kernel_rfl) rfl #[.int .i64 a0, .int .i64 a1, .bool false, .int .i64 x8_1] rfl zq22_4z ?_; (with_reducible refine (spec_sqBit.calls a0 a1 false x8_1 t121 _ A9.out).mono ?_); rintro e w' ⟨rfl, ⟨nd, rfl⟩⟩; refine ⟨_, rfl, ?_⟩))
     go_roundg k1
     case measure => have := HK1.out; omega
     case rel => exact ⟨(wrap64 (x8_1 + 1)), (x121002_1), (u121002), zqf_2_5z, H', ⟨by have := HK1.out; omega⟩, ⟨by (zq22_3z); exact HO_121002.out⟩, ⟨by (zq22_1z); exact BK119.out⟩, ⟨by (zq22_1z); exact BK120.out⟩, ⟨by repeat (zq22_2z)⟩⟩
    ·rw [if_neg c10] at H
     have c10b0 : ((Go.bits .and .i64 a2 t121) == 0) = false := beq_eq_false_iff_ne.mpr c10
     have c10b1 : ((Go.bits .and .i64 a2 t121) != 0) = true := bne_iff_ne.mpr c10
     by_cases c11 : x121002_1.length < 17592186044416
     ·rw [if_pos c11] at H
      have LMc11 := Aside0.mk c11
      clear c11
      obtain ⟨y122, hy122⟩ : ∃ y_ : List Int, y_ = (x121002_1 ++ [x8_1]) := ⟨_, rfl⟩
      replace H : (spec_sqFigure.l0 k1 a0 a1 a2 (wrap64 (x8_1 + 1)) a0 a1 y122) = some (r1, r2, r3, r4) := by first | (rw [hy122]; with_reducible exact H) | (have H2_ := (Option.bind_some _ _).symm.trans H; rw [hy122]; with_reducible exact H2_) | (have H2_ := (Option.bind_some _ _).symm.trans H; with_reducible exact H2_) | with_reducible exact H | (rw [hy122]; exact H) | exact H
      have Ny122 := Aside0.mk hy122
      clear hy122
      have H' := Aside0.mk H
      clear H
      go_wp2_with (first | ((with_reducible refine gate_callee (f := 30) rfl ?_); refine goesL_ (some 25) rfl rfl Tryd.func30 (by kernel_rfl) rfl #[.int .i64 a0, .int .i64 a1, .bool false, .int .i64 x8_1] rfl zq22_4z ?_; (with_reducible refine (spec_sqBit.calls a0 a1 false x8_1 t121 _ A9.out).mono ?_); rintro e w' ⟨rfl, ⟨nd, rfl⟩⟩; refine ⟨_, rfl, ?_⟩; (try (rw [drewN_self wr]; generalize hq_ : World.drewN wr _ = wr; have n0_ : Aside0 (Kd.R (Kd.int .i64) 3 wr w.heap.size (fun _ => True) u121002 x121002_1) := ⟨by rw [← hq_]; exact (by (zq22_3z); exact HO_121002.out)⟩; have n1_ : Aside0 (wr.heap[gb119]? = some (.cells #[.int .i64 0, .int .i64 0, .slice none 0 0, .slice none 0 0] 24 (0, 0))) := ⟨by rw [← hq_]; exact (by (zq22_1z); exact BK119.out)⟩; have n2_ : Aside0 (wr.heap[gb120]? = some (.cells #[.int .i64 a0, .int .i64 a1, u121002, .slice none 0 0] 24 (0, 0))) := ⟨by rw [← hq_]; exact (by (zq22_1z); exact BK120.out)⟩; have n3_ : Aside0 (Below w.heap.size w wr) := ⟨by rw [← hq_]; exact (by repeat (zq22_2z))⟩; clear HO_121002 BK119 BK120 HB hq_; have HO_121002 := n0_; have BK119 := n1_; have BK120 := n2_; have HB := n3_; clear n0_ n1_ n2_ n3_)); have hnb12 := NB120_119.out; have hnc12 := NB119_120.out; have hcz13_0 : wr.cell? ⟨gb120, 0, none⟩ = some (.int .i64 a0) := (blk_cell BK120.out 0).trans rfl; have hcz13_1 : wr.cell? ⟨gb120, 1, none⟩ = some (.int .i64 a1) := (blk_cell BK120.out 1).trans rfl; have hcz13_2 : wr.cell? ⟨gb120, 2, none⟩ = some (u121002) := (blk_cell BK120.out 2).trans rfl; have hcz13_3 : wr.cell? ⟨gb120, 3, none⟩ = some (.slice none 0 0) := (blk_cell BK120.out 3).trans rfl; have hfz13_0 := blk_frozen BK120.out 0; have hfz13_1 := blk_frozen BK120.out 1; have hfz13_2 := blk_frozen BK120.out 2; have hfz13_3 := blk_frozen BK120.out 3) | ((with_reducible refine gate_builtin (b := .append) (xs := #[.tmp 29, .tmp 31]) rfl ?_); at_builtin; refine Kd.R_append (Kd.int .i64) (w0 := w) w.heap.size rfl (.tmp 29) (.tmp 31) 22 3 (.int .i64 0) 8 rfl Tryd.underlying22 info3 rfl (by decide) (by omega) u121002 x121002_1 x8_1 [.int .i64 x8_1] (fun _ => True) (fun _ => False) rfl rfl ?aP (fun _ hk => hk.elim) ?aF ?aO ?aB ?aS ?aL ?_; (case aP => exact rfl); (case aB => exact (by repeat (zq22_2z))); (case aF => exact (fun _ _ => trivial)); (case aO => exact (by (zq22_3z); exact HO_121002.out)); (case aS => exact (below_size (by repeat (zq22_2z)))); (case aL => have := LMc11.out; omega); intro v123 w14 ho hb hg hat; rw [← Ny122.out] at ho; have n0_ := Aside0.mk (blk_grown (g := gb119) (o := .cells #[.int .i64 0, .int .i64 0, .slice none 0 0, .slice none 0 0] 24 (0, 0)) (by (zq22_1z); exact BK119.out) hg (Kd.R_ne HO_121002.out BK119.out (by decide))); have n1_ := Aside0.mk (blk_grown (g := gb120) (o := .cells #[.int .i64 a0, .int .i64 a1, u121002, .slice none 0 0] 24 (0, 0)) (by (zq22_1z); exact BK120.out) hg (Kd.R_ne HO_121002.out BK120.out (by decide))); have n2_ := Aside0.mk (hb); have n3_ := Aside0.mk (ho); clear BK119; clear BK120; clear HB; clear HO_121002; have BK119 := n0_; have BK120 := n1_; have HB := n2_; have HO124 := n3_; clear n0_ n1_ n2_ n3_; clear ho hb hg hat; obtain ⟨Ao15, co15, eo15⟩ := Kd.R_slice HO124.out; subst eo15; have hcz16_0 : w14.cell? ⟨gb120, 0, none⟩ = some (.int .i64 a0) := (blk_cell BK120.out 0).trans rfl; have hcz16_1 : w14.cell? ⟨gb120, 1, none⟩ = some (.int .i64 a1) := (blk_cell BK120.out 1).trans rfl; have hcz16_2 : w14.cell? ⟨gb120, 2, none⟩ = some (u121002) := (blk_cell BK120.out 2).trans rfl; have hcz16_3 : w14.cell? ⟨gb120, 3, none⟩ = some (.slice none 0 0) := (blk_cell BK120.out 3).trans rfl; have hfz16_0 := blk_frozen BK120.out 0; have hfz16_1 := blk_frozen BK120.out 1; have hfz16_2 := blk_frozen BK120.out 2; have hfz16_3 := blk_frozen BK120.out 3))
      go_roundg k1
      case measure => have := HK1.out; omega
      case rel => exact ⟨(wrap64 (x8_1 + 1)), (y122), (.slice Ao15 y122.length co15), zqf_2_5z, H', ⟨by have := HK1.out; omega⟩, ⟨by (zq22_3z); exact Kd.R_mono (Kd.R_far (p := ⟨gb120, 2, none⟩) (Kd.R_types HO124.out BK120.out (by decide)) (fun _ hk => hk.2) (.slice Ao15 y122.length co15)) (fun _ hk => trivial)⟩, ⟨by (zq22_1z); refine blk_far ?_ NB119_120.out _; (zq22_1z); exact BK119.out⟩, ⟨by (zq22_1z); refine blk_put (cs := #[.int .i64 a0, .int .i64 a1, u121002, .slice none 0 0]) ?_ 2 _ rfl; (zq22_1z); exact BK120.out⟩, ⟨by repeat (zq22_2z)⟩⟩
     ·rw [if_neg c11] at H
      exact absurd H (by simp)
   ·rw [if_neg c8] at H
    have c8b0 : decide (x8_1 < (wrap64 (a0 * (wrap64 (a1 + 1))))) = false := decide_eq_false c8
    clear c8
    have H' := Aside0.mk H
    clear H
    go_wp2
    go_loopg [9] k1 (fun kq v9 w' => ∃ (x9_2 : Int) (x121003_2 : List Int) (u121003 : Value), v9 = .int .i64 x9_2 ∧ Aside0 (spec_sqFigure.l1 kq a0 a1 a2 x9_2 a0 a1 x121002_1 x121003_2 = some (r1, r2, r3, r4)) ∧ Aside0 (kq ≤ k1) ∧ Aside0 (Kd.R (Kd.int .i64) 3 w' w.heap.size (fun k_ => some k_ ≠ (u121003 : Value).ownBlock) u121002 x121002_1) ∧ Aside0 (Kd.R (Kd.int .i64) 3 w' w.heap.size (fun k_ => some k_ ≠ (u121002 : Value).ownBlock) u121003 x121003_2) ∧ Aside0 (w'.heap[gb119]? = some (.cells #[.int .i64 0, .int .i64 0, (.slice none 0 0), (.slice none 0 0)] 24 (0, 0))) ∧ Aside0 (w'.heap[gb120]? = some (.cells #[.int .i64 a0, .int .i64 a1, u121002, u121003] 24 (0, 0))) ∧ Aside0 (Below w.heap.size w w'))
    case atStart => exact ⟨(0), (([] : List Int)), (.slice none 0 0), zqf_2_5z, H', ⟨Nat.le_refl _⟩, ⟨by (zq22_3z); exact Kd.R_mono HO_121002.out (fun _ hk => (by simp [Value.ownBlock]))⟩, ⟨by first | exact Kd.R_nil _ _ _ _ _ | exact Kd.N_nil _ _ _ _ _ | exact Kd.V_nil _ _ _ _ _ | exact Kd.Q_nil _ _ _ _ _ | exact Kd.S_nil _ _ _ _ _⟩, ⟨by (zq22_1z); exact BK119.out⟩, ⟨by (zq22_1z); exact BK120.out⟩, ⟨by repeat (zq22_2z)⟩⟩
    case round =>
     clear H'
     try clear c1
     try clear c2
     try clear p2
     try clear c3
     try clear c6
     try clear p6
     try clear c8
     try clear c8b0
     try clear c10
     try clear c10b0
     try clear c10b1
     try clear c11
     try clear c12
     try clear hcz13_0
     try clear hcz13_1
     try clear hcz13_2
     try clear hcz13_3
     try clear hcz16_0
     try clear hcz16_1
     try clear hcz16_2
     try clear hcz16_3
     try clear hcz7_0
     try clear hcz7_1
     try clear hcz7_2
     try clear hcz7_3
     try clear hfz13_0
     try clear hfz13_1
     try clear hfz13_2
     try clear hfz13_3
     try clear hfz16_0
     try clear hfz16_1
     try clear hfz16_2
     try clear hfz16_3
     try clear hfz7_0
     try clear hfz7_1
     try clear hfz7_2
     try clear hfz7_3
     try clear p2
     obtain ⟨x9_2, x121003_2, u121003, rfl, HA, HK2, HO_121002, HO_121003, BK119, BK120, HB⟩ := hrel
     cases gk with
     | zero => exact absurd HA.out (by simp [spec_sqFigure.l1])
     | succ k2 =>
      have H := HA.out
      clear HA
      simp only [spec_sqFigure.l1] at H
      by_cases c17 : x9_2 < (wrap64 ((wrap64 (a0 + 1)) * a1))
      ·rw [if_pos c17] at H
       have c17b0 : decide (x9_2 < (wrap64 ((wrap64 (a0 + 1)) * a1))) = true := decide_eq_true c17
       clear c17
       replace H := Option.bind_eq_some_iff.mp H
       obtain ⟨t125, A180, H⟩ := H
       replace H : (if (Go.bits .and .i64 a2 t125) = 0 then (spec_sqFigure.l1 k2 a0 a1 a2 (wrap64 (x9_2 + 1)) a0 a1 x121002_1 x121003_2) else (if x121003_2.length < 17592186044416 then (spec_sqFigure.l1 k2 a0 a1 a2 (wrap64 (x9_2 + 1)) a0 a1 x121002_1 (x121003_2 ++ [x9_2])) else (none))) = some (r1, r2, r3, r4) := H
       have A18 := Aside0.mk A180
       clear A180
       by_cases c19 : (Go.bits .and .i64 a2 t125) = 0
       ·rw [if_pos c19] at H
        have c19b0 : ((Go.bits .and .i64 a2 t125) == 0) = true := beq_iff_eq.mpr c19
        have c19b1 : ((Go.bits .and .i64 a2 t125) != 0) = false := bne_eq_false_iff_eq.mpr c19
        clear c19
        have H' := Aside0.mk H
        clear H
        go_wp2_with (first | ((with_reducible refine gate_callee (f := 30) rfl ?_); refine goesL_ (some 46) rfl rfl Tryd.func30 (by kernel_rfl) rfl #[.int .i64 a0, .int .i64 a1, .bool true, .int .i64 x9_2] rfl zq22_4z ?_; (with_reducible refine (spec_sqBit.calls a0 a1 true x9_2 t125 _ A18.out).mono ?_); rintro e w' ⟨rfl, ⟨nd, rfl⟩⟩; refine ⟨_, rfl, ?_⟩))
        go_roundg k2
        case measure => have := HK1.out; have := HK2.out; omega
        case rel => exact ⟨(wrap64 (x9_2 + 1)), (x121003_2), (u121003), zqf_2_5z, H', ⟨by have := HK1.out; have := HK2.out; omega⟩, ⟨by (zq22_3z); exact HO_121002.out⟩, ⟨by (zq22_3z); exact HO_121003.out⟩, ⟨by (zq22_1z); exact BK119.out⟩, ⟨by (zq22_1z); exact BK120.out⟩, ⟨by repeat (zq22_2z)⟩⟩
       ·rw [if_neg c19] at H
        have c19b0 : ((Go.bits .and .i64 a2 t125) == 0) = false := beq_eq_false_iff_ne.mpr c19
        have c19b1 : ((Go.bits .and .i64 a2 t125) != 0) = true := bne_iff_ne.mpr c19
        by_cases c20 : x121003_2.length < 17592186044416
        ·rw [if_pos c20] at H
         have LMc20 := Aside0.mk c20
         clear c20
         obtain ⟨y126, hy126⟩ : ∃ y_ : List Int, y_ = (x121003_2 ++ [x9_2]) := ⟨_, rfl⟩
         replace H : (spec_sqFigure.l1 k2 a0 a1 a2 (wrap64 (x9_2 + 1)) a0 a1 x121002_1 y126) = some (r1, r2, r3, r4) := by first | (rw [hy126]; with_reducible exact H) | (have H2_ := (Option.bind_some _ _).symm.trans H; rw [hy126]; with_reducible exact H2_) | (have H2_ := (Option.bind_some _ _).symm.trans H; with_reducible exact H2_) | with_reducible exact H | (rw [hy126]; exact H) | exact H
         have Ny126 := Aside0.mk hy126
         clear hy126
         have H' := Aside0.mk H
         clear H
         go_wp2_with (first | ((with_reducible refine gate_callee (f := 30) rfl ?_); refine goesL_ (some 46) rfl rfl Tryd.func30 (by kernel_rfl) rfl #[.int .i64 a0, .int .i64 a1, .bool true, .int .i64 x9_2] rfl zq22_4z ?_; (with_reducible refine (spec_sqBit.calls a0 a1 true x9_2 t125 _ A18.out).mono ?_); rintro e w' ⟨rfl, ⟨nd, rfl⟩⟩; refine ⟨_, rfl, ?_⟩; (try (rw [drewN_self wr]; generalize hq_ : World.drewN wr _ = wr; have n0_ : Aside0 (Kd.R (Kd.int .i64) 3 wr w.heap.size (fun k_ => some k_ ≠ (u121003 : Value).ownBlock) u121002 x121002_1) := ⟨by rw [← hq_]; exact (by (zq22_3z); exact HO_121002.out)⟩; have n1_ : Aside0 (Kd.R (Kd.int .i64) 3 wr w.heap.size (fun k_ => some k_ ≠ (u121002 : Value).ownBlock) u121003 x121003_2) := ⟨by rw [← hq_]; exact (by (zq22_3z); exact HO_121003.out)⟩; have n2_ : Aside0 (wr.heap[gb119]? = some (.cells #[.int .i64 0, .int .i64 0, .slice none 0 0, .slice none 0 0] 24 (0, 0))) := ⟨by rw [← hq_]; exact (by (zq22_1z); exact BK119.out)⟩; have n3_ : Aside0 (wr.heap[gb120]? = some (.cells #[.int .i64 a0, .int .i64 a1, u121002, u121003] 24 (0, 0))) := ⟨by rw [← hq_]; exact (by (zq22_1z); exact BK120.out)⟩; have n4_ : Aside0 (Below w.heap.size w wr) := ⟨by rw [← hq_]; exact (by repeat (zq22_2z))⟩; clear HO_121002 HO_121003 BK119 BK120 HB hq_; have HO_121002 := n0_; have HO_121003 := n1_; have BK119 := n2_; have BK120 := n3_; have HB := n4_; clear n0_ n1_ n2_ n3_ n4_)); have hnb21 := NB120_119.out; have hnc21 := NB119_120.out; have hcz22_0 : wr.cell? ⟨gb120, 0, none⟩ = some (.int .i64 a0) := (blk_cell BK120.out 0).trans rfl; have hcz22_1 : wr.cell? ⟨gb120, 1, none⟩ = some (.int .i64 a1) := (blk_cell BK120.out 1).trans rfl; have hcz22_2 : wr.cell? ⟨gb120, 2, none⟩ = some (u121002) := (blk_cell BK120.out 2).trans rfl; have hcz22_3 : wr.cell? ⟨gb120, 3, none⟩ = some (u121003) := (blk_cell BK120.out 3).trans rfl; have hfz22_0 := blk_frozen BK120.out 0; have hfz22_1 := blk_frozen BK120.out 1; have hfz22_2 := blk_frozen BK120.out 2; have hfz22_3 := blk_frozen BK120.out 3) | ((with_reducible refine gate_builtin (b := .append) (xs := #[.tmp 50, .tmp 52]) rfl ?_); at_builtin; refine Kd.R_append (Kd.int .i64) (w0 := w) w.heap.size rfl (.tmp 50) (.tmp 52) 22 3 (.int .i64 0) 8 rfl Tryd.underlying22 info3 rfl (by decide) (by omega) u121003 x121003_2 x9_2 [.int .i64 x9_2] (fun k_ => some k_ ≠ (u121002 : Value).ownBlock) (fun _ => False) rfl rfl ?aP (fun _ hk => hk.elim) ?aF ?aO ?aB ?aS ?aL ?_; (case aP => exact rfl); (case aB => exact (by repeat (zq22_2z))); (case aF => exact (fun k_ hk => Kd.fresh' (Kd.R_lt (by (zq22_3z); exact HO_121002.out)) k_ hk)); (case aO => exact (by (zq22_3z); exact HO_121003.out)); (case aS => exact (below_size (by repeat (zq22_2z)))); (case aL => have := LMc20.out; omega); intro v127 w23 ho hb hg hat; rw [← Ny126.out] at ho; have n0_ := Aside0.mk (Kd.R_after (ok := (fun _ => True)) (by (zq22_3z); exact Kd.R_mono HO_121002.out (fun _ hk => ⟨trivial, hk⟩)) hg hat); have n1_ := Aside0.mk (blk_grown (g := gb119) (o := .cells #[.int .i64 0, .int .i64 0, .slice none 0 0, .slice none 0 0] 24 (0, 0)) (by (zq22_1z); exact BK119.out) hg (Kd.R_ne HO_121003.out BK119.out (by decide))); have n2_ := Aside0.mk (blk_grown (g := gb120) (o := .cells #[.int .i64 a0, .int .i64 a1, u121002, u121003] 24 (0, 0)) (by (zq22_1z); exact BK120.out) hg (Kd.R_ne HO_121003.out BK120.out (by decide))); have n3_ := Aside0.mk (hb); have n4_ := Aside0.mk (ho); clear HO_121002; clear BK119; clear BK120; clear HB; clear HO_121003; have HO_121002 := n0_; have BK119 := n1_; have BK120 := n2_; have HB := n3_; have HO128 := n4_; clear n0_ n1_ n2_ n3_ n4_; clear ho hb hg hat; obtain ⟨Ao24, co24, eo24⟩ := Kd.R_slice HO128.out; subst eo24; have hcz25_0 : w23.cell? ⟨gb120, 0, none⟩ = some (.int .i64 a0) := (blk_cell BK120.out 0).trans rfl; have hcz25_1 : w23.cell? ⟨gb120, 1, none⟩ = some (.int .i64 a1) := (blk_cell BK120.out 1).trans rfl; have hcz25_2 : w23.cell? ⟨gb120, 2, none⟩ = some (u121002) := (blk_cell BK120.out 2).trans rfl; have hcz25_3 : w23.cell? ⟨gb120, 3, none⟩ = some (u121003) := (blk_cell BK120.out 3).trans rfl; have hfz25_0 := blk_frozen BK120.out 0; have hfz25_1 := blk_frozen BK120.out 1; have hfz25_2 := blk_frozen BK120.out 2; have hfz25_3 := blk_frozen BK120.out 3))
         go_roundg k2
         case measure => have := HK1.out; have := HK2.out; omega
         case rel => exact ⟨(wrap64 (x9_2 + 1)), (y126), (.slice Ao24 y126.length co24), zqf_2_5z, H', ⟨by have := HK1.out; have := HK2.out; omega⟩, ⟨by (zq22_3z); exact Kd.R_mono (Kd.R_far (p := ⟨gb120, 3, none⟩) (Kd.R_types HO_121002.out BK120.out (by decide)) (fun _ hk => hk.2) (.slice Ao24 y126.length co24)) (fun _ hk => hk.1.2)⟩, ⟨by (zq22_3z); exact Kd.R_mono (Kd.R_far (p := ⟨gb120, 3, none⟩) (Kd.R_types HO128.out BK120.out (by decide)) (fun _ hk => hk.2) (.slice Ao24 y126.length co24)) (fun _ hk => hk.1)⟩, ⟨by (zq22_1z); refine blk_far ?_ NB119_120.out _; (zq22_1z); exact BK119.out⟩, ⟨by (zq22_1z); refine blk_put (cs := #[.int .i64 a0, .int .i64 a1, u121002, u121003]) ?_ 3 _ rfl; (zq22_1z); exact BK120.out⟩, ⟨by repeat (zq22_2z)⟩⟩
        ·rw [if_neg c20] at H
         exact absurd H (by simp)
      ·rw [if_neg c17] at H
       have c17b0 : decide (x9_2 < (wrap64 ((wrap64 (a0 + 1)) * a1))) = false := decide_eq_false c17
       clear c17
       simp only [Option.some.injEq, Prod.mk.injEq] at H
       obtain ⟨rfl, rfl, rfl, rfl⟩ := H
       have hnb26 := NB120_119.out
       have hnc26 := NB119_120.out
       have hcz27_0 : wr.cell? ⟨gb120, 0, none⟩ = some (.int .i64 a0) := (blk_cell BK120.out 0).trans rfl
       have hcz27_1 : wr.cell? ⟨gb120, 1, none⟩ = some (.int .i64 a1) := (blk_cell BK120.out 1).trans rfl
       have hcz27_2 : wr.cell? ⟨gb120, 2, none⟩ = some (u121002) := (blk_cell BK120.out 2).trans rfl
       have hcz27_3 : wr.cell? ⟨gb120, 3, none⟩ = some (u121003) := (blk_cell BK120.out 3).trans rfl
       have hfz27_0 := blk_frozen BK120.out 0
       have hfz27_1 := blk_frozen BK120.out 1
       have hfz27_2 := blk_frozen BK120.out 2
       have hfz27_3 := blk_frozen BK120.out 3
       have hcz28_0 : wr.cell? ⟨gb119, 0, none⟩ = some (.int .i64 0) := (blk_cell BK119.out 0).trans rfl
       have hcz28_1 : wr.cell? ⟨gb119, 1, none⟩ = some (.int .i64 0) := (blk_cell BK119.out 1).trans rfl
       have hcz28_2 : wr.cell? ⟨gb119, 2, none⟩ = some (.slice none 0 0) := (blk_cell BK119.out 2).trans rfl
       have hcz28_3 : wr.cell? ⟨gb119, 3, none⟩ = some (.slice none 0 0) := (blk_cell BK119.out 3).trans rfl
       have hfz28_0 := blk_frozen BK119.out 0
       have hfz28_1 := blk_frozen BK119.out 1
       have hfz28_2 := blk_frozen BK119.out 2
       have hfz28_3 := blk_frozen BK119.out 3
       obtain ⟨Ao29, co29, eo29⟩ := Kd.R_slice HO_121002.out
       subst eo29
       obtain ⟨Ao30, co30, eo30⟩ := Kd.R_slice HO_121003.out
       subst eo30
       go_wp2
       refine bodyPost_ret (results_cell_row rfl _ _ gb119 24 #[.int .i64 a0, .int .i64 a1, .slice Ao29 x121002_1.length co29, .slice Ao30 x121003_2.length co30] (0, 0) _ rfl (by (zq22_1z); refine blk_put (cs := #[.int .i64 a0, .int .i64 a1, .slice Ao29 x121002_1.length co29, .slice none 0 0]) ?_ 3 _ rfl; (zq22_1z); refine blk_put (cs := #[.int .i64 a0, .int .i64 a1, .slice none 0 0, .slice none 0 0]) ?_ 2 _ rfl; (zq22_1z); refine blk_put (cs := #[.int .i64 a0, .int .i64 0, .slice none 0 0, .slice none 0 0]) ?_ 1 _ rfl; (zq22_1z); refine blk_put (cs := #[.int .i64 0, .int .i64 0, .slice none 0 0, .slice none 0 0]) ?_ 0 _ rfl; (zq22_1z); exact BK119.out) Tryd.underlying24 rfl (by kernel_rfl)) rfl ?_
       exact ⟨_, _, by first | rfl | (simp [errW_none, errW_some] <;> rfl) | (simp [*, errW_none, errW_some] <;> rfl), by (zq22_3z); exact Kd.R_mono (Kd.R_far (p := ⟨gb119, 3, none⟩) (Kd.R_far (p := ⟨gb119, 2, none⟩) (Kd.R_far (p := ⟨gb119, 1, none⟩) (Kd.R_far (p := ⟨gb119, 0, none⟩) (Kd.R_types HO_121002.out BK119.out (by decide)) (fun _ hk => hk.2) (.int .i64 a0)) (fun _ hk => hk.2) (.int .i64 a1)) (fun _ hk => hk.2) (.slice Ao29 x121002_1.length co29)) (fun _ hk => hk.2) (.slice Ao30 x121003_2.length co30)) (fun _ hk => hk.1), by (zq22_3z); exact Kd.R_mono (Kd.R_far (p := ⟨gb119, 3, none⟩) (Kd.R_far (p := ⟨gb119, 2, none⟩) (Kd.R_far (p := ⟨gb119, 1, none⟩) (Kd.R_far (p := ⟨gb119, 0, none⟩) (Kd.R_types HO_121003.out BK119.out (by decide)) (fun _ hk => hk.2) (.int .i64 a0)) (fun _ hk => hk.2) (.int .i64 a1)) (fun _ hk => hk.2) (.slice Ao29 x121002_1.length co29)) (fun _ hk => hk.2) (.slice Ao30 x121003_2.length co30)) (fun _ hk => hk.1), by repeat (zq22_2z)⟩

/-! ### spec_sqAround: function 23 -/
mutual
def spec_sqAround.l0 : Nat → Int → Int → Int → Int → Int → Int → Int → Int → Option (Int)
 | 0, _, _, _, _, _, _, _, _ => none
 | k + 1, x0, x1, x2, x3, x4, x5, x13, x14 => if x14 < x4 then ((spec_sqBit.f x0 x1 false (wrap64 ((wrap64 ((wrap64 (x3 * x0)) + x2)) + x14))).bind fun t129 => ((spec_sqBit.f x0 x1 false (wrap64 ((wrap64 ((wrap64 ((wrap64 (x3 + x5)) * x0)) + x2)) + x14))).bind fun t130 => (spec_sqAround.l0 k x0 x1 x2 x3 x4 x5 (Go.bits .or .i64 x13 (Go.bits .or .i64 t129 t130)) (wrap64 (x14 + 1))))) else (spec_sqAround.l1 k x0 x1 x2 x3 x4 x5 x13 0)
def spec_sqAround.l1 : Nat → Int → Int → Int → Int → Int → Int → Int → Int → Option (Int)
 | 0, _, _, _, _, _, _, _, _ => none
 | k + 1, x0, x1, x2, x3, x4, x5, x13, x15 => if x15 < x5 then ((spec_sqBit.f x0 x1 true (wrap64 ((wrap64 ((wrap64 (x3 + x15)) * (wrap64 (x0 + 1)))) + x2))).bind fun t131 => ((spec_sqBit.f x0 x1 true (wrap64 ((wrap64 ((wrap64 ((wrap64 (x3 + x15)) * (wrap64 (x0 + 1)))) + x2)) + x4))).bind fun t132 => (spec_sqAround.l1 k x0 x1 x2 x3 x4 x5 (Go.bits .or .i64 x13 (Go.bits .or .i64 t131 t132)) (wrap64 (x15 + 1))))) else (some x13)
end
def spec_sqAround.f (k : Nat) (a0 : Int) (a1 : Int) (a2 : Int) (a3 : Int) (a4 : Int) (a5 : Int) : Option (Int) := spec_sqAround.l0 k a0 a1 a2 a3 a4 a5 0 0
theorem spec_sqAround.mono_l : ∀ k, (∀ y0 y1 y2 y3 y4 y5 y6 y7, LeO (spec_sqAround.l0 k y0 y1 y2 y3 y4 y5 y6 y7) (spec_sqAround.l0 (k + 1) y0 y1 y2 y3 y4 y5 y6 y7)) ∧ (∀ y0 y1 y2 y3 y4 y5 y6 y7, LeO (spec_sqAround.l1 k y0 y1 y2 y3 y4 y5 y6 y7) (spec_sqAround.l1 (k + 1) y0 y1 y2 y3 y4 y5 y6 y7))
 | 0 => ⟨fun _ _ _ _ _ _ _ _ r h => by simp [spec_sqAround.l0] at h, fun _ _ _ _ _ _ _ _ r h => by simp [spec_sqAround.l1] at h⟩
 | k + 1 => by
  obtain ⟨ih0, ih1⟩ := spec_sqAround.mono_l k
  refine ⟨?_, ?_⟩
  ·intro y0 y1 y2 y3 y4 y5 y6 y7
   unfold spec_sqAround.l0
   repeat' first
   | (with_reducible exact ih0 _ _ _ _ _ _ _ _)
   | (with_reducible exact ih1 _ _ _ _ _ _ _ _)
   | (with_reducible exact LeO.refl _)
   | (with_reducible exact LeO.none _)
   | (with_reducible refine LeO.ite ?_ ?_)
   | (with_reducible refine LeO.bind ?_ (fun _ => ?_))
   | exact ih0 _ _ _ _ _ _ _ _
   | exact ih1 _ _ _ _ _ _ _ _
   | exact LeO.none _
   | refine LeO.ite ?_ ?_
   | refine LeO.bind ?_ (fun _ => ?_)
  ·intro y0 y1 y2 y3 y4 y5 y6 y7
   unfold spec_sqAround.l1
   repeat' first
   | (with_reducible exact ih0 _ _ _ _ _ _ _ _)
   | (with_reducible exact ih1 _ _ _ _ _ _ _ _)
   | (with_reducible exact LeO.refl _)
   | (with_reducible exact LeO.none _)
   | (with_reducible refine LeO.ite ?_ ?_)
   | (with_reducible refine LeO.bind ?_ (fun _ => ?_))
   | exact ih0 _ _ _ _ _ _ _ _
   | exact ih1 _ _ _ _ _ _ _ _
   | exact LeO.none _
   | refine LeO.ite ?_ ?_
   | refine LeO.bind ?_ (fun _ => ?_)
theorem spec_sqAround.mono : ∀ a0 a1 a2 a3 a4 a5 k, LeO (spec_sqAround.f k a0 a1 a2 a3 a4 a5) (spec_sqAround.f (k + 1) a0 a1 a2 a3 a4 a5) := by
 intro a0 a1 a2 a3 a4 a5 k
 obtain ⟨ih0, ih1⟩ := spec_sqAround.mono_l k
 unfold spec_sqAround.f
 repeat' first
   | (with_reducible exact ih0 _ _ _ _ _ _ _ _)
   | (with_reducible exact ih1 _ _ _ _ _ _ _ _)
   | (with_reducible exact LeO.refl _)
   | (with_reducible exact LeO.none _)
   | (with_reducible refine LeO.ite ?_ ?_)
   | (with_reducible refine LeO.bind ?_ (fun _ => ?_))
   | exact ih0 _ _ _ _ _ _ _ _
   | exact ih1 _ _ _ _ _ _ _ _
   | exact LeO.none _
   | refine LeO.ite ?_ ?_
   | refine LeO.bind ?_ (fun _ => ?_)
set_option maxHeartbeats 8000000 in
set_option maxRecDepth 100000 in
theorem spec_sqAround.calls (k : Nat) (a0 : Int) (a1 : Int) (a2 : Int) (a3 : Int) (a4 : Int) (a5 : Int) (r : Int) (w : World) (h : spec_sqAround.f k a0 a1 a2 a3 a4 a5 = some r) :
  Calls Tryd.prog 23 #[.int .i64 a0, .int .i64 a1, .int .i64 a2, .int .i64 a3, .int .i64 a4, .int .i64 a5] w fun e w' => e = .returned (.int .i64 r) ∧ Drawn0 w w' := by
 have H : (spec_sqAround.l0 k a0 a1 a2 a3 a4 a5 0 0) = some r := h
 clear h
 have H' := Aside0.mk H
 clear H
 go_enter Tryd.func23, Tryd.ntmps23
 go_wp2
 go_loopg [13, 14] k (fun kq v13 v14 w' => ∃ (x13_1 : Int) (x14_1 : Int), v13 = .int .i64 x13_1 ∧ v14 = .int .i64 x14_1 ∧ Aside0 (spec_sqAround.l0 kq a0 a1 a2 a3 a4 a5 x13_1 x14_1 = some r) ∧ Aside0 (kq ≤ k) ∧ Drawn0 w w')
 case atStart => exact ⟨(0), (0), zqf_2_5z, zqf_2_5z, H', ⟨Nat.le_refl _⟩, by repeat (zqf_2_7z)⟩
 case round =>
  clear H'
  try clear c2
  try clear p2
  obtain ⟨x13_1, x14_1, rfl, rfl, HA, HK1, ⟨m1, rfl⟩⟩ := hrel
  cases gk with
  | zero => exact absurd HA.out (by simp [spec_sqAround.l0])
  | succ k1 =>
   have H := HA.out
   clear HA
   simp only [spec_sqAround.l0] at H
   by_cases c7 : x14_1 < a4
   ·rw [if_pos c7] at H
    have c7b0 : decide (x14_1 < a4) = true := decide_eq_true c7
    clear c7
    replace H := Option.bind_eq_some_iff.mp H
    obtain ⟨t129, A80, H⟩ := H
    replace H : ((spec_sqBit.f a0 a1 false (wrap64 ((wrap64 ((wrap64 ((wrap64 (a3 + a5)) * a0)) + a2)) + x14_1))).bind fun t130 => (spec_sqAround.l0 k1 a0 a1 a2 a3 a4 a5 (Go.bits .or .i64 x13_1 (Go.bits .or .i64 t129 t130)) (wrap64 (x14_1 + 1)))) = some r := H
    have A8 := Aside0.mk A80
    clear A80
    replace H := Option.bind_eq_some_iff.mp H
    obtain ⟨t130, A90, H⟩ := H
    replace H : (spec_sqAround.l0 k1 a0 a1 a2 a3 a4 a5 (Go.bits .or .i64 x13_1 (Go.bits .or .i64 t129 t130)) (wrap64 (x14_1 + 1))) = some r := H
    have A9 := Aside0.mk A90
    clear A90
    have H' := Aside0.mk H
    clear H
    go_wp2_with (first | ((with_reducible refine gate_callee (f := 30) rfl ?_); refine goesL_ (some 31) rfl rfl Tryd.func30 (by kernel_rfl) rfl #[.int .i64 a0, .int .i64 a1, .bool false, .int .i64 (wrap64 ((wrap64 ((wrap64 (a3 * a0)) + a2)) + x14_1))] rfl zqf_2_2z ?_; (with_reducible refine (spec_sqBit.calls a0 a1 false (wrap64 ((wrap64 ((wrap64 (a3 * a0)) + a2)) + x14_1)) t129 _ A8.out).mono ?_); rintro e w' ⟨rfl, ⟨nd, rfl⟩⟩; refine ⟨_, rfl, ?_⟩) | ((with_reducible refine gate_callee (f := 30) rfl ?_); refine goesL_ (some 43) rfl rfl Tryd.func30 (by kernel_rfl) rfl #[.int .i64 a0, .int .i64 a1, .bool false, .int .i64 (wrap64 ((wrap64 ((wrap64 ((wrap64 (a3 + a5)) * a0)) + a2)) + x14_1))] rfl zqf_2_2z ?_; (with_reducible refine (spec_sqBit.calls a0 a1 false (wrap64 ((wrap64 ((wrap64 ((wrap64 (a3 + a5)) * a0)) + a2)) + x14_1)) t130 _ A9.out).mono ?_); rintro e w' ⟨rfl, ⟨nd, rfl⟩⟩; refine ⟨_, rfl, ?_⟩))
    go_roundg k1
    case measure => have := HK1.out; omega
    case rel => exact ⟨(Go.bits .or .i64 x13_1 (Go.bits .or .i64 t129 t130)), (wrap64 (x14_1 + 1)), zqf_2_5z, zqf_2_5z, H', ⟨by have := HK1.out; omega⟩, by repeat (zqf_2_7z)⟩
   ·rw [if_neg c7] at H
    have c7b0 : decide (x14_1 < a4) = false := decide_eq_false c7
    clear c7
    have H' := Aside0.mk H
    clear H
    go_wp2
    go_loopg [13, 15] k1 (fun kq v13 v15 w' => ∃ (x13_2 : Int) (x15_2 : Int), v13 = .int .i64 x13_2 ∧ v15 = .int .i64 x15_2 ∧ Aside0 (spec_sqAround.l1 kq a0 a1 a2 a3 a4 a5 x13_2 x15_2 = some r) ∧ Aside0 (kq ≤ k1) ∧ Drawn0 w w')
    case atStart => exact ⟨(x13_1), (0), zqf_2_5z, zqf_2_5z, H', ⟨Nat.le_refl _⟩, by repeat (zqf_2_7z)⟩
    case round =>
     clear H'
     try clear c2
     try clear p2
     try clear c3
     try clear p6
     try clear c7
     try clear c7b0
     try clear p2
     obtain ⟨x13_2, x15_2, rfl, rfl, HA, HK2, ⟨m2, rfl⟩⟩ := hrel
     cases gk with
     | zero => exact absurd HA.out (by simp [spec_sqAround.l1])
     | succ k2 =>
      have H := HA.out
      clear HA
      simp only [spec_sqAround.l1] at H
      by_cases c10 : x15_2 < a5
      ·rw [if_pos c10] at H
       have c10b0 : decide (x15_2 < a5) = true := decide_eq_true c10
       clear c10
       replace H := Option.bind_eq_some_iff.mp H
       obtain ⟨t131, A110, H⟩ := H
       replace H : ((spec_sqBit.f a0 a1 true (wrap64 ((wrap64 ((wrap64 ((wrap64 (a3 + x15_2)) * (wrap64 (a0 + 1)))) + a2)) + a4))).bind fun t132 => (spec_sqAround.l1 k2 a0 a1 a2 a3 a4 a5 (Go.bits .or .i64 x13_2 (Go.bits .or .i64 t131 t132)) (wrap64 (x15_2 + 1)))) = some r := H
       have A11 := Aside0.mk A110
       clear A110
       replace H := Option.bind_eq_some_iff.mp H
       obtain ⟨t132, A120, H⟩ := H
       replace H : (spec_sqAround.l1 k2 a0 a1 a2 a3 a4 a5 (Go.bits .or .i64 x13_2 (Go.bits .or .i64 t131 t132)) (wrap64 (x15_2 + 1))) = some r := H
       have A12 := Aside0.mk A120
       clear A120
       have H' := Aside0.mk H
       clear H
       go_wp2_with (first | ((with_reducible refine gate_callee (f := 30) rfl ?_); refine goesL_ (some 62) rfl rfl Tryd.func30 (by kernel_rfl) rfl #[.int .i64 a0, .int .i64 a1, .bool true, .int .i64 (wrap64 ((wrap64 ((wrap64 (a3 + x15_2)) * (wrap64 (a0 + 1)))) + a2))] rfl zqf_2_2z ?_; (with_reducible refine (spec_sqBit.calls a0 a1 true (wrap64 ((wrap64 ((wrap64 (a3 + x15_2)) * (wrap64 (a0 + 1)))) + a2)) t131 _ A11.out).mono ?_); rintro e w' ⟨rfl, ⟨nd, rfl⟩⟩; refine ⟨_, rfl, ?_⟩) | ((with_reducible refine gate_callee (f := 30) rfl ?_); refine goesL_ (some 75) rfl rfl Tryd.func30 (by kernel_rfl) rfl #[.int .i64 a0, .int .i64 a1, .bool true, .int .i64 (wrap64 ((wrap64 ((wrap64 ((wrap64 (a3 + x15_2)) * (wrap64 (a0 + 1)))) + a2)) + a4))] rfl zqf_2_2z ?_; (with_reducible refine (spec_sqBit.calls a0 a1 true (wrap64 ((wrap64 ((wrap64 ((wrap64 (a3 + x15_2)) * (wrap64 (a0 + 1)))) + a2)) + a4)) t132 _ A12.out).mono ?_); rintro e w' ⟨rfl, ⟨nd, rfl⟩⟩; refine ⟨_, rfl, ?_⟩))
       go_roundg k2
       case measure => have := HK1.out; have := HK2.out; omega
       case rel => exact ⟨(Go.bits .or .i64 x13_2 (Go.bits .or .i64 t131 t132)), (wrap64 (x15_2 + 1)), zqf_2_5z, zqf_2_5z, H', ⟨by have := HK1.out; have := HK2.out; omega⟩, by repeat (zqf_2_7z)⟩
      ·rw [if_neg c10] at H
       have c10b0 : decide (x15_2 < a5) = false := decide_eq_false c10
       clear c10
       obtain rfl := Option.some.inj H
       go_wp2
       go_ret
       exact ⟨by first | rfl | (simp; done) | (simp [*]; done), by repeat (zqf_2_7z)⟩

/-! ### spec_SquareFigure: function 10 -/
def spec_SquareFigure.j0 : Nat → Int → Int → Int → Int → Int → Bool → Option (Int × Int × List Int × List Int × Bool)
 | 0, _, _, _, _, _, _ => none
 | k + 1, x0, x1, x2, x3, x4, x41 => if x41 = true then (some (0, 0, ([] : List Int), ([] : List Int), false)) else ((spec_sqAround.f k x0 x1 x2 x3 x4 x4).bind fun t139 => ((spec_sqFigure.f k x0 x1 t139).bind fun bt140 => (some (bt140.1, bt140.2.1, bt140.2.2.1, bt140.2.2.2, true))))
def spec_SquareFigure.f (k : Nat) (a0 : Int) (a1 : Int) (a2 : Int) (a3 : Int) (a4 : Int) : Option (Int × Int × List Int × List Int × Bool) := (spec_fiGrid.f a0 a1).bind fun t134 => (if t134 = true then ((spec_l1In.f a2 0 (wrap64 (a0 - 1))).bind fun t135 => (if t135 = true then ((spec_l1In.f a3 0 (wrap64 (a1 - 1))).bind fun t136 => (if t136 = true then ((spec_l1Least.f (wrap64 (a0 - a2)) (wrap64 (a1 - a3))).bind fun t137 => ((spec_l1In.f a4 1 t137).bind fun t138 => (spec_SquareFigure.j0 k a0 a1 a2 a3 a4 (!t138)))) else (spec_SquareFigure.j0 k a0 a1 a2 a3 a4 true))) else (spec_SquareFigure.j0 k a0 a1 a2 a3 a4 true))) else (spec_SquareFigure.j0 k a0 a1 a2 a3 a4 true))
theorem spec_SquareFigure.mono_l : ∀ k, (∀ y0 y1 y2 y3 y4 y5, LeO (spec_SquareFigure.j0 k y0 y1 y2 y3 y4 y5) (spec_SquareFigure.j0 (k + 1) y0 y1 y2 y3 y4 y5))
 | 0 => fun _ _ _ _ _ _ r h => by simp [spec_SquareFigure.j0] at h
 | k + 1 => by
  have ih0 := spec_SquareFigure.mono_l k
  ·intro y0 y1 y2 y3 y4 y5
   unfold spec_SquareFigure.j0
   repeat' first
   | (with_reducible exact ih0 _ _ _ _ _ _)
   | (with_reducible exact spec_sqAround.mono _ _ _ _ _ _ _)
   | (with_reducible exact spec_sqFigure.mono _ _ _ _)
   | (with_reducible exact LeO.refl _)
   | (with_reducible exact LeO.none _)
   | (with_reducible refine LeO.ite ?_ ?_)
   | (with_reducible refine LeO.bind ?_ (fun _ => ?_))
   | exact ih0 _ _ _ _ _ _
   | exact spec_sqAround.mono _ _ _ _ _ _ _
   | exact spec_sqFigure.mono _ _ _ _
   | exact LeO.none _
   | refine LeO.ite ?_ ?_
   | refine LeO.bind ?_ (fun _ => ?_)
theorem spec_SquareFigure.mono : ∀ a0 a1 a2 a3 a4 k, LeO (spec_SquareFigure.f k a0 a1 a2 a3 a4) (spec_SquareFigure.f (k + 1) a0 a1 a2 a3 a4) := by
 intro a0 a1 a2 a3 a4 k
 have ih0 := spec_SquareFigure.mono_l k
 unfold spec_SquareFigure.f
 repeat' first
   | (with_reducible exact ih0 _ _ _ _ _ _)
   | (with_reducible exact spec_sqAround.mono _ _ _ _ _ _ _)
   | (with_reducible exact spec_sqFigure.mono _ _ _ _)
   | (with_reducible exact LeO.refl _)
   | (with_reducible exact LeO.none _)
   | (with_reducible refine LeO.ite ?_ ?_)
   | (with_reducible refine LeO.bind ?_ (fun _ => ?_))
   | exact ih0 _ _ _ _ _ _
   | exact spec_sqAround.mono _ _ _ _ _ _ _
   | exact spec_sqFigure.mono _ _ _ _
   | exact LeO.none _
   | refine LeO.ite ?_ ?_
   | refine LeO.bind ?_ (fun _ => ?_)
set_option maxHeartbeats 8000000 in
set_option maxRecDepth 100000 in
theorem spec_SquareFigure.calls (k : Nat) (a0 : Int) (a1 : Int) (a2 : Int) (a3 : Int) (a4 : Int) (r1 : Int) (r2 : Int) (r3 : List Int) (r4 : List Int) (r5 : Bool) (w : World) (h : spec_SquareFigure.f k a0 a1 a2 a3 a4 = some (r1, r2, r3, r4, r5)) :
  Calls Tryd.prog 10 #[.int .i64 a0, .int .i64 a1, .int .i64 a2, .int .i64 a3, .int .i64 a4] w fun e w' => ∃ v2_ v3_ : Value, e = .returned (.tuple #[.agg #[.int .i64 r1, .int .i64 r2, v2_, v3_], .bool r5]) ∧ Kd.R (Kd.int .i64) 3 w' w.heap.size (fun k_ => some k_ ≠ (v3_ : Value).ownBlock) v2_ r3 ∧ Kd.R (Kd.int .i64) 3 w' w.heap.size (fun k_ => some k_ ≠ (v2_ : Value).ownBlock) v3_ r4 ∧ Below w.heap.size w w' := by
 have hu24 := Tryd.underlying24
 have HB := Aside0.mk (Below.refl w.heap.size w)
 have H : ((spec_fiGrid.f a0 a1).bind fun t134 => (if t134 = true then ((spec_l1In.f a2 0 (wrap64 (a0 - 1))).bind fun t135 => (if t135 = true then ((spec_l1In.f a3 0 (wrap64 (a1 - 1))).bind fun t136 => (if t136 = true then ((spec_l1Least.f (wrap64 (a0 - a2)) (wrap64 (a1 - a3))).bind fun t137 => ((spec_l1In.f a4 1 t137).bind fun t138 => (spec_SquareFigure.j0 k a0 a1 a2 a3 a4 (!t138)))) else (spec_SquareFigure.j0 k a0 a1 a2 a3 a4 true))) else (spec_SquareFigure.j0 k a0 a1 a2 a3 a4 true))) else (spec_SquareFigure.j0 k a0 a1 a2 a3 a4 true))) = some (r1, r2, r3, r4, r5) := h
 clear h
 have HC6 := Aside0.mk H
 clear H
 go_enter Tryd.func10, Tryd.ntmps10
 go_upto_region 1 with (first | ((with_reducible refine gate_dst (N := 10) rfl ?_); refine box_event ?hg (N := 10) ?hd (cs := #[.int .i64 0, .int .i64 0, .slice none 0 0, .slice none 0 0]) (t := 24) ?hr ?_; (case hd => rfl); (case hg => rfl); (case hr => first | (go_simp; done) | (go_simp; rfl)); intro gb133 hg w7 hbox hb; have n0_ := Aside0.mk (below_step (by repeat (zqf_2_1z)) hb); have n1_ := Aside0.mk (hbox); have n2_ := Aside0.mk ((by rw [hg]; exact (below_size (by repeat (zqf_2_1z))) : w.heap.size ≤ gb133)); have n3_ := Aside0.mk ((by rw [hg]; exact (below_size (by repeat (zqf_2_1z))) : w.heap.size ≤ gb133)); clear HB; have HB := n0_; have BK133 := n1_; have GW133 := n2_; have GE133 := n3_; clear n0_ n1_ n2_ n3_; clear hb hbox hg))
 (try simp only [Act.put, List.setIfInBounds_toArray, List.set_cons_zero, List.set_cons_succ])
 go_cut [41] (fun v41 wc => ∃ (kq : Nat) (x41_5 : Bool), v41 = .bool x41_5 ∧ Aside0 (spec_SquareFigure.j0 kq a0 a1 a2 a3 a4 x41_5 = some (r1, r2, r3, r4, r5)) ∧ Aside0 (kq ≤ k) ∧ Aside0 (wc.heap[gb133]? = some (.cells #[.int .i64 0, .int .i64 0, (.slice none 0 0), (.slice none 0 0)] 24 (0, 0))) ∧ Aside0 (Below w.heap.size w wc))
 case first =>
  have H := HC6.out
  clear HC6
  replace H := Option.bind_eq_some_iff.mp H
  obtain ⟨t134, A80, H⟩ := H
  replace H : (if t134 = true then ((spec_l1In.f a2 0 (wrap64 (a0 - 1))).bind fun t135 => (if t135 = true then ((spec_l1In.f a3 0 (wrap64 (a1 - 1))).bind fun t136 => (if t136 = true then ((spec_l1Least.f (wrap64 (a0 - a2)) (wrap64 (a1 - a3))).bind fun t137 => ((spec_l1In.f a4 1 t137).bind fun t138 => (spec_SquareFigure.j0 k a0 a1 a2 a3 a4 (!t138)))) else (spec_SquareFigure.j0 k a0 a1 a2 a3 a4 true))) else (spec_SquareFigure.j0 k a0 a1 a2 a3 a4 true))) else (spec_SquareFigure.j0 k a0 a1 a2 a3 a4 true)) = some (r1, r2, r3, r4, r5) := H
  have A8 := Aside0.mk A80
  clear A80
  by_cases c9 : t134 = true
  ·subst c9
   have H1 : ((spec_l1In.f a2 0 (wrap64 (a0 - 1))).bind fun t135 => (if t135 = true then ((spec_l1In.f a3 0 (wrap64 (a1 - 1))).bind fun t136 => (if t136 = true then ((spec_l1Least.f (wrap64 (a0 - a2)) (wrap64 (a1 - a3))).bind fun t137 => ((spec_l1In.f a4 1 t137).bind fun t138 => (spec_SquareFigure.j0 k a0 a1 a2 a3 a4 (!t138)))) else (spec_SquareFigure.j0 k a0 a1 a2 a3 a4 true))) else (spec_SquareFigure.j0 k a0 a1 a2 a3 a4 true))) = some (r1, r2, r3, r4, r5) := by rw [if_pos rfl] at H; exact H
   clear H
   have H := H1
   clear H1
   replace H := Option.bind_eq_some_iff.mp H
   obtain ⟨t135, A100, H⟩ := H
   replace H : (if t135 = true then ((spec_l1In.f a3 0 (wrap64 (a1 - 1))).bind fun t136 => (if t136 = true then ((spec_l1Least.f (wrap64 (a0 - a2)) (wrap64 (a1 - a3))).bind fun t137 => ((spec_l1In.f a4 1 t137).bind fun t138 => (spec_SquareFigure.j0 k a0 a1 a2 a3 a4 (!t138)))) else (spec_SquareFigure.j0 k a0 a1 a2 a3 a4 true))) else (spec_SquareFigure.j0 k a0 a1 a2 a3 a4 true)) = some (r1, r2, r3, r4, r5) := H
   have A10 := Aside0.mk A100
   clear A100
   by_cases c11 : t135 = true
   ·subst c11
    have H1 : ((spec_l1In.f a3 0 (wrap64 (a1 - 1))).bind fun t136 => (if t136 = true then ((spec_l1Least.f (wrap64 (a0 - a2)) (wrap64 (a1 - a3))).bind fun t137 => ((spec_l1In.f a4 1 t137).bind fun t138 => (spec_SquareFigure.j0 k a0 a1 a2 a3 a4 (!t138)))) else (spec_SquareFigure.j0 k a0 a1 a2 a3 a4 true))) = some (r1, r2, r3, r4, r5) := by rw [if_pos rfl] at H; exact H
    clear H
    have H := H1
    clear H1
    replace H := Option.bind_eq_some_iff.mp H
    obtain ⟨t136, A120, H⟩ := H
    replace H : (if t136 = true then ((spec_l1Least.f (wrap64 (a0 - a2)) (wrap64 (a1 - a3))).bind fun t137 => ((spec_l1In.f a4 1 t137).bind fun t138 => (spec_SquareFigure.j0 k a0 a1 a2 a3 a4 (!t138)))) else (spec_SquareFigure.j0 k a0 a1 a2 a3 a4 true)) = some (r1, r2, r3, r4, r5) := H
    have A12 := Aside0.mk A120
    clear A120
    by_cases c13 : t136 = true
    ·subst c13
     have H1 : ((spec_l1Least.f (wrap64 (a0 - a2)) (wrap64 (a1 - a3))).bind fun t137 => ((spec_l1In.f a4 1 t137).bind fun t138 => (spec_SquareFigure.j0 k a0 a1 a2 a3 a4 (!t138)))) = some (r1, r2, r3, r4, r5) := by rw [if_pos rfl] at H; exact H
     clear H
     have H := H1
     clear H1
     replace H := Option.bind_eq_some_iff.mp H
     obtain ⟨t137, A140, H⟩ := H
     replace H : ((spec_l1In.f a4 1 t137).bind fun t138 => (spec_SquareFigure.j0 k a0 a1 a2 a3 a4 (!t138))) = some (r1, r2, r3, r4, r5) := H
     have A14 := Aside0.mk A140
     clear A140
     replace H := Option.bind_eq_some_iff.mp H
     obtain ⟨t138, A150, H⟩ := H
     replace H : (spec_SquareFigure.j0 k a0 a1 a2 a3 a4 (!t138)) = some (r1, r2, r3, r4, r5) := H
     have A15 := Aside0.mk A150
     clear A150
     have H' := Aside0.mk H
     clear H
     go_wp2_with (first | ((with_reducible refine gate_callee (f := 12) rfl ?_); refine goesL_ (some 14) rfl rfl Tryd.func12 (by kernel_rfl) rfl #[.int .i64 a0, .int .i64 a1] rfl zqf_2_2z ?_; (with_reducible refine (spec_fiGrid.calls a0 a1 true _ A8.out).mono ?_); rintro e w' ⟨rfl, ⟨nd, rfl⟩⟩; refine ⟨_, rfl, ?_⟩) | (go_at_call 20; (with_reducible refine (spec_l1In.calls a2 0 (wrap64 (a0 - 1)) true _ A10.out).mono ?_); rintro e w' ⟨rfl, ⟨nd, rfl⟩⟩) | (go_at_call 20; (with_reducible refine (spec_l1In.calls a3 0 (wrap64 (a1 - 1)) true _ A12.out).mono ?_); rintro e w' ⟨rfl, ⟨nd, rfl⟩⟩) | (go_at_call 21; (with_reducible refine (spec_l1Least.calls (wrap64 (a0 - a2)) (wrap64 (a1 - a3)) t137 _ A14.out).mono ?_); rintro e w' ⟨rfl, ⟨nd, rfl⟩⟩) | (go_at_call 20; (with_reducible refine (spec_l1In.calls a4 1 t137 t138 _ A15.out).mono ?_); rintro e w' ⟨rfl, ⟨nd, rfl⟩⟩))
     go_meet
     case rel => exact ⟨_, (!t138), zqf_2_5z, H', ⟨by first | omega | exact Nat.le_refl _⟩, ⟨by (zqf_2_3z); exact BK133.out⟩, ⟨by repeat (zqf_2_4z)⟩⟩
    ·replace c13 := Bool.eq_false_iff.mpr c13
     subst c13
     have H1 : (spec_SquareFigure.j0 k a0 a1 a2 a3 a4 true) = some (r1, r2, r3, r4, r5) := by rw [if_neg (show ¬ (false = true) by decide)] at H; exact H
     clear H
     have H := H1
     clear H1
     have H' := Aside0.mk H
     clear H
     go_wp2_with (first | ((with_reducible refine gate_callee (f := 12) rfl ?_); refine goesL_ (some 14) rfl rfl Tryd.func12 (by kernel_rfl) rfl #[.int .i64 a0, .int .i64 a1] rfl zqf_2_2z ?_; (with_reducible refine (spec_fiGrid.calls a0 a1 true _ A8.out).mono ?_); rintro e w' ⟨rfl, ⟨nd, rfl⟩⟩; refine ⟨_, rfl, ?_⟩) | (go_at_call 20; (with_reducible refine (spec_l1In.calls a2 0 (wrap64 (a0 - 1)) true _ A10.out).mono ?_); rintro e w' ⟨rfl, ⟨nd, rfl⟩⟩) | (go_at_call 20; (with_reducible refine (spec_l1In.calls a3 0 (wrap64 (a1 - 1)) false _ A12.out).mono ?_); rintro e w' ⟨rfl, ⟨nd, rfl⟩⟩))
     go_meet
     case rel => exact ⟨_, (true), zqf_2_5z, H', ⟨by first | omega | exact Nat.le_refl _⟩, ⟨by (zqf_2_3z); exact BK133.out⟩, ⟨by repeat (zqf_2_4z)⟩⟩
   ·replace c11 := Bool.eq_false_iff.mpr c11
    subst c11
    have H1 : (spec_SquareFigure.j0 k a0 a1 a2 a3 a4 true) = some (r1, r2, r3, r4, r5) := by rw [if_neg (show ¬ (false = true) by decide)] at H; exact H
    clear H
    have H := H1
    clear H1
    have H' := Aside0.mk H
    clear H
    go_wp2_with (first | ((with_reducible refine gate_callee (f := 12) rfl ?_); refine goesL_ (some 14) rfl rfl Tryd.func12 (by kernel_rfl) rfl #[.int .i64 a0, .int .i64 a1] rfl zqf_2_2z ?_; (with_reducible refine (spec_fiGrid.calls a0 a1 true _ A8.out).mono ?_); rintro e w' ⟨rfl, ⟨nd, rfl⟩⟩; refine ⟨_, rfl, ?_⟩) | (go_at_call 20; (with_reducible refine (spec_l1In.calls a2 0 (wrap64 (a0 - 1)) false _ A10.out).mono ?_); rintro e w' ⟨rfl, ⟨nd, rfl⟩⟩))
    go_meet
    case rel => exact ⟨_, (true), zqf_2_5z, H', ⟨by first | omega | exact Nat.le_refl _⟩, ⟨by (zqf_2_3z); exact BK133.out⟩, ⟨by repeat (zqf_2_4z)⟩⟩
  ·replace c9 := Bool.eq_false_iff.mpr c9
   subst c9
   have H1 : (spec_SquareFigure.j0 k a0 a1 a2 a3 a4 true) = some (r1, r2, r3, r4, r5) := by rw [if_neg (show ¬ (false = true) by decide)] at H; exact H
   clear H
   have H := H1
   clear H1
   have H' := Aside0.mk H
   clear H
   go_wp2_with (first | ((with_reducible refine gate_callee (f := 12) rfl ?_); refine goesL_ (some 14) rfl rfl Tryd.func12 (by kernel_rfl) rfl #[.int .i64 a0, .int .i64 a1] rfl zqf_2_2z ?_; (with_reducible refine (spec_fiGrid.calls a0 a1 false _ A8.out).mono ?_); rintro e w' ⟨rfl, ⟨nd, rfl⟩⟩; refine ⟨_, rfl, ?_⟩))
   go_meet
   case rel => exact ⟨_, (true), zqf_2_5z, H', ⟨by first | omega | exact Nat.le_refl _⟩, ⟨by (zqf_2_3z); exact BK133.out⟩, ⟨by repeat (zqf_2_4z)⟩⟩
 case rest =>
  clear HC6
  try clear c1
  try clear p2
  try clear p6
  try clear c9
  try clear c10
  try clear c11
  try clear c12
  try clear c13
  obtain ⟨kq, x41_5, rfl, HA, HJ5, BK133, HB⟩ := hcut
  cases kq with
  | zero => exact absurd HA.out (by simp [spec_SquareFigure.j0])
  | succ kj5 =>
   have H := HA.out
   clear HA
   simp only [spec_SquareFigure.j0] at H
   by_cases c16 : x41_5 = true
   ·subst c16
    have H1 : (some (0, 0, ([] : List Int), ([] : List Int), false)) = some (r1, r2, r3, r4, r5) := by rw [if_pos rfl] at H; exact H
    clear H
    have H := H1
    clear H1
    simp only [Option.some.injEq, Prod.mk.injEq] at H
    obtain ⟨rfl, rfl, rfl, rfl, rfl⟩ := H
    have hcz17_0 : wc.cell? ⟨gb133, 0, none⟩ = some (.int .i64 0) := (blk_cell BK133.out 0).trans rfl
    have hcz17_1 : wc.cell? ⟨gb133, 1, none⟩ = some (.int .i64 0) := (blk_cell BK133.out 1).trans rfl
    have hcz17_2 : wc.cell? ⟨gb133, 2, none⟩ = some (.slice none 0 0) := (blk_cell BK133.out 2).trans rfl
    have hcz17_3 : wc.cell? ⟨gb133, 3, none⟩ = some (.slice none 0 0) := (blk_cell BK133.out 3).trans rfl
    have hfz17_0 := blk_frozen BK133.out 0
    have hfz17_1 := blk_frozen BK133.out 1
    have hfz17_2 := blk_frozen BK133.out 2
    have hfz17_3 := blk_frozen BK133.out 3
    go_wp2
    refine bodyPost_ret (results_ct rfl _ _ gb133 24 #[.int .i64 0, .int .i64 0, .slice none 0 0, .slice none 0 0] (0, 0) _ rfl (by (zqf_2_3z); refine blk_put (cs := #[.int .i64 0, .int .i64 0, .slice none 0 0, .slice none 0 0]) ?_ 3 _ rfl; (zqf_2_3z); refine blk_put (cs := #[.int .i64 0, .int .i64 0, .slice none 0 0, .slice none 0 0]) ?_ 2 _ rfl; (zqf_2_3z); refine blk_put (cs := #[.int .i64 0, .int .i64 0, .slice none 0 0, .slice none 0 0]) ?_ 1 _ rfl; (zqf_2_3z); refine blk_put (cs := #[.int .i64 0, .int .i64 0, .slice none 0 0, .slice none 0 0]) ?_ 0 _ rfl; (zqf_2_3z); exact BK133.out) Tryd.underlying24 rfl (by kernel_rfl)) rfl ?_
    exact ⟨_, _, by first | rfl | (simp [errW_none, errW_some] <;> rfl) | (simp [*, errW_none, errW_some] <;> rfl), by first | exact Kd.R_nil _ _ _ _ _ | exact Kd.N_nil _ _ _ _ _ | exact Kd.V_nil _ _ _ _ _ | exact Kd.Q_nil _ _ _ _ _ | exact Kd.S_nil _ _ _ _ _, by first | exact Kd.R_nil _ _ _ _ _ | exact Kd.N_nil _ _ _ _ _ | exact Kd.V_nil _ _ _ _ _ | exact Kd.Q_nil _ _ _ _ _ | exact Kd.S_nil _ _ _ _ _, by repeat (zqf_2_4z)⟩
   ·replace c16 := Bool.eq_false_iff.mpr c16
    subst c16
    have H1 : ((spec_sqAround.f kj5 a0 a1 a2 a3 a4 a4).bind fun t139 => ((spec_sqFigure.f kj5 a0 a1 t139).bind fun bt140 => (some (bt140.1, bt140.2.1, bt140.2.2.1, bt140.2.2.2, true)))) = some (r1, r2, r3, r4, r5) := by rw [if_neg (show ¬ (false = true) by decide)] at H; exact H
    clear H
    have H := H1
    clear H1
    replace H := Option.bind_eq_some_iff.mp H
    obtain ⟨t139, A180, H⟩ := H
    replace H : ((spec_sqFigure.f kj5 a0 a1 t139).bind fun bt140 => (some (bt140.1, bt140.2.1, bt140.2.2.1, bt140.2.2.2, true))) = some (r1, r2, r3, r4, r5) := H
    have A18 := Aside0.mk A180
    clear A180
    replace H := Option.bind_eq_some_iff.mp H
    obtain ⟨⟨t140, t141, t142, t145⟩, A190, H⟩ := H
    replace H : (some (t140, t141, t142, t145, true)) = some (r1, r2, r3, r4, r5) := H
    have A19 := Aside0.mk A190
    clear A190
    simp only [Option.some.injEq, Prod.mk.injEq] at H
    obtain ⟨rfl, rfl, rfl, rfl, rfl⟩ := H
    go_wp2_with (first | ((with_reducible refine gate_callee (f := 23) rfl ?_); refine goesL_ (some 51) rfl rfl Tryd.func23 (by kernel_rfl) rfl #[.int .i64 a0, .int .i64 a1, .int .i64 a2, .int .i64 a3, .int .i64 a4, .int .i64 a4] rfl zqf_2_2z ?_; (with_reducible refine (spec_sqAround.calls kj5 a0 a1 a2 a3 a4 a4 t139 _ A18.out).mono ?_); rintro e w' ⟨rfl, ⟨nd, rfl⟩⟩; refine ⟨_, rfl, ?_⟩; (try (rw [drewN_self wc]; generalize hq_ : World.drewN wc _ = wc; have n0_ : Aside0 (wc.heap[gb133]? = some (.cells #[.int .i64 0, .int .i64 0, .slice none 0 0, .slice none 0 0] 24 (0, 0))) := ⟨by rw [← hq_]; exact (by (zqf_2_3z); exact BK133.out)⟩; have n1_ : Aside0 (Below w.heap.size w wc) := ⟨by rw [← hq_]; exact (by repeat (zqf_2_4z))⟩; clear BK133 HB hq_; have BK133 := n0_; have HB := n1_; clear n0_ n1_))) | ((with_reducible refine gate_callee (f := 22) rfl ?_); refine goesL_ (some 52) rfl rfl Tryd.func22 (by kernel_rfl) rfl #[.int .i64 a0, .int .i64 a1, .int .i64 t139] rfl zqf_2_2z ?_; (with_reducible refine (spec_sqFigure.calls kj5 a0 a1 t139 t140 t141 t142 t145 _ A19.out).mono ?_); rintro e w20 ⟨v143, v146, rfl, ho0, ho1, hb⟩; refine ⟨_, rfl, ?_⟩; have n0_ := Aside0.mk (Kd.R_lower ho0 (below_size (by repeat (zqf_2_4z)))); have n1_ := Aside0.mk (Kd.R_lower ho1 (below_size (by repeat (zqf_2_4z)))); have n2_ := Aside0.mk (blk_below (g := gb133) (o := .cells #[.int .i64 0, .int .i64 0, .slice none 0 0, .slice none 0 0] 24 (0, 0)) (by (zqf_2_3z); exact BK133.out) hb); have n3_ := Aside0.mk (below_step (by repeat (zqf_2_4z)) hb); clear BK133; clear HB; have HO144 := n0_; have HO147 := n1_; have BK133 := n2_; have HB := n3_; clear n0_ n1_ n2_ n3_; (try clear hb); (try clear hb2); (try clear hk); (try clear hi); (try clear ho0); (try clear ho1); have hcz21_0 : w20.cell? ⟨gb133, 0, none⟩ = some (.int .i64 0) := (blk_cell BK133.out 0).trans rfl; have hcz21_1 : w20.cell? ⟨gb133, 1, none⟩ = some (.int .i64 0) := (blk_cell BK133.out 1).trans rfl; have hcz21_2 : w20.cell? ⟨gb133, 2, none⟩ = some (.slice none 0 0) := (blk_cell BK133.out 2).trans rfl; have hcz21_3 : w20.cell? ⟨gb133, 3, none⟩ = some (.slice none 0 0) := (blk_cell BK133.out 3).trans rfl; have hfz21_0 := blk_frozen BK133.out 0; have hfz21_1 := blk_frozen BK133.out 1; have hfz21_2 := blk_frozen BK133.out 2; have hfz21_3 := blk_frozen BK133.out 3; obtain ⟨Ao22, co22, eo22⟩ := Kd.R_slice HO144.out; subst eo22; obtain ⟨Ao23, co23, eo23⟩ := Kd.R_slice HO147.out; subst eo23))
    refine bodyPost_ret (results_ct rfl _ _ gb133 24 #[.int .i64 t140, .int .i64 t141, .slice Ao22 t142.length co22, .slice Ao23 t145.length co23] (0, 0) _ rfl (by (zqf_2_3z); refine blk_put (cs := #[.int .i64 t140, .int .i64 t141, .slice Ao22 t142.length co22, .slice none 0 0]) ?_ 3 _ rfl; (zqf_2_3z); refine blk_put (cs := #[.int .i64 t140, .int .i64 t141, .slice none 0 0, .slice none 0 0]) ?_ 2 _ rfl; (zqf_2_3z); refine blk_put (cs := #[.int .i64 t140, .int .i64 0, .slice none 0 0, .slice none 0 0]) ?_ 1 _ rfl; (zqf_2_3z); refine blk_put (cs := #[.int .i64 0, .int .i64 0, .slice none 0 0, .slice none 0 0]) ?_ 0 _ rfl; (zqf_2_3z); exact BK133.out) Tryd.underlying24 rfl (by kernel_rfl)) rfl ?_
    exact ⟨_, _, by first | rfl | (simp [errW_none, errW_some] <;> rfl) | (simp [*, errW_none, errW_some] <;> rfl), by (zqf_2_6z); exact Kd.R_mono (Kd.R_far (p := ⟨gb133, 3, none⟩) (Kd.R_far (p := ⟨gb133, 2, none⟩) (Kd.R_far (p := ⟨gb133, 1, none⟩) (Kd.R_far (p := ⟨gb133, 0, none⟩) (Kd.R_types HO144.out BK133.out (by decide)) (fun _ hk => hk.2) (.int .i64 t140)) (fun _ hk => hk.2) (.int .i64 t141)) (fun _ hk => hk.2) (.slice Ao22 t142.length co22)) (fun _ hk => hk.2) (.slice Ao23 t145.length co23)) (fun _ hk => hk.1), by (zqf_2_6z); exact Kd.R_mono (Kd.R_far (p := ⟨gb133, 3, none⟩) (Kd.R_far (p := ⟨gb133, 2, none⟩) (Kd.R_far (p := ⟨gb133, 1, none⟩) (Kd.R_far (p := ⟨gb133, 0, none⟩) (Kd.R_types HO147.out BK133.out (by decide)) (fun _ hk => hk.2) (.int .i64 t140)) (fun _ hk => hk.2) (.int .i64 t141)) (fun _ hk => hk.2) (.slice Ao22 t142.length co22)) (fun _ hk => hk.2) (.slice Ao23 t145.length co23)) (fun _ hk => hk.1), by repeat (zqf_2_4z)⟩

/-! ### impl_within: function 24 -/
def impl_within.f (a0 : Int) (a1 : Int) (a2 : Int) : Option (Bool) := if a1 ≤ a0 then (some (decide (a0 ≤ a2))) else (some false)
set_option maxHeartbeats 8000000 in
set_option maxRecDepth 100000 in
theorem impl_within.calls (a0 : Int) (a1 : Int) (a2 : Int) (r : Bool) (w : World) (h : impl_within.f a0 a1 a2 = some r) :
  Calls Tryd.prog 24 #[.int .i64 a0, .int .i64 a1, .int .i64 a2] w fun e w' => e = .returned (.bool r) ∧ Drawn0 w w' := by
 have H : (if a1 ≤ a0 then (some (decide (a0 ≤ a2))) else (some false)) = some r := h
 clear h
 by_cases c4 : a1 ≤ a0
 ·rw [if_pos c4] at H
  have c4b0 : decide (a1 ≤ a0) = true := decide_eq_true c4
  clear c4
  obtain rfl := Option.some.inj H
  go_enter Tryd.func24, Tryd.ntmps24
  go_wp2
  go_ret
  exact ⟨by first | rfl | (simp; done) | (simp [*]; done), by repeat (zqf_2_7z)⟩
 ·rw [if_neg c4] at H
  have c4b0 : decide (a1 ≤ a0) = false := decide_eq_false c4
  clear c4
  obtain rfl := Option.some.inj H
  go_enter Tryd.func24, Tryd.ntmps24
  go_wp2
  go_ret
  exact ⟨by first | rfl | (simp; done) | (simp [*]; done), by repeat (zqf_2_7z)⟩

/-! ### impl_isGrid: function 14 -/
def impl_isGrid.f (a0 : Int) (a1 : Int) : Option (Bool) := (impl_within.f a0 1 4).bind fun t148 => (if t148 = true then ((impl_within.f a1 1 4).bind fun t149 => (some t149)) else (some false))
set_option maxHeartbeats 8000000 in
set_option maxRecDepth 100000 in
theorem impl_isGrid.calls (a0 : Int) (a1 : Int) (r : Bool) (w : World) (h : impl_isGrid.f a0 a1 = some r) :
  Calls Tryd.prog 14 #[.int .i64 a0, .int .i64 a1] w fun e w' => e = .returned (.bool r) ∧ Drawn0 w w' := by
 have H : ((impl_within.f a0 1 4).bind fun t148 => (if t148 = true then ((impl_within.f a1 1 4).bind fun t149 => (some t149)) else (some false))) = some r := h
 clear h
 replace H := Option.bind_eq_some_iff.mp H
 obtain ⟨t148, A30, H⟩ := H
 replace H : (if t148 = true then ((impl_within.f a1 1 4).bind fun t149 => (some t149)) else (some false)) = some r := H
 have A3 := Aside0.mk A30
 clear A30
 by_cases c4 : t148 = true
 ·subst c4
  have H1 : ((impl_within.f a1 1 4).bind fun t149 => (some t149)) = some r := by rw [if_pos rfl] at H; exact H
  clear H
  have H := H1
  clear H1
  replace H := Option.bind_eq_some_iff.mp H
  obtain ⟨t149, A50, H⟩ := H
  replace H : (some t149) = some r := H
  have A5 := Aside0.mk A50
  clear A50
  obtain rfl := Option.some.inj H
  go_enter Tryd.func14, Tryd.ntmps14
  go_wp2_with (first | ((with_reducible refine gate_callee (f := 24) rfl ?_); refine goesL_ (some 6) rfl rfl Tryd.func24 (by kernel_rfl) rfl #[.int .i64 a0, .int .i64 1, .int .i64 4] rfl zqf_2_2z ?_; (with_reducible refine (impl_within.calls a0 1 4 true _ A3.out).mono ?_); rintro e w' ⟨rfl, ⟨nd, rfl⟩⟩; refine ⟨_, rfl, ?_⟩) | (go_at_call 24; (with_reducible refine (impl_within.calls a1 1 4 t149 _ A5.out).mono ?_); rintro e w' ⟨rfl, ⟨nd, rfl⟩⟩))
  go_ret
  exact ⟨by first | rfl | (simp; done) | (simp [*]; done), by repeat (zqf_2_7z)⟩
 ·replace c4 := Bool.eq_false_iff.mpr c4
  subst c4
  have H1 : (some false) = some r := by rw [if_neg (show ¬ (false = true) by decide)] at H; exact H
  clear H
  have H := H1
  clear H1
  obtain rfl := Option.some.inj H
  go_enter Tryd.func14, Tryd.ntmps14
  go_wp2_with (first | ((with_reducible refine gate_callee (f := 24) rfl ?_); refine goesL_ (some 6) rfl rfl Tryd.func24 (by kernel_rfl) rfl #[.int .i64 a0, .int .i64 1, .int .i64 4] rfl zqf_2_2z ?_; (with_reducible refine (impl_within.calls a0 1 4 false _ A3.out).mono ?_); rintro e w' ⟨rfl, ⟨nd, rfl⟩⟩; refine ⟨_, rfl, ?_⟩))
  go_ret
  exact ⟨by first | rfl | (simp; done) | (simp [*]; done), by repeat (zqf_2_7z)⟩

/-! ### impl_grid_levels: function 27 -/
def impl_grid_levels.f (a0_0 : Int) (a0_1 : Int) : Option (Int) := some (wrap64 (a0_0 * (wrap64 (a0_1 + 1))))
set_option maxHeartbeats 8000000 in
set_option maxRecDepth 100000 in
theorem impl_grid_levels.calls (a0_0 : Int) (a0_1 : Int) (r : Int) (w : World) (h : impl_grid_levels.f a0_0 a0_1 = some r) :
  Calls Tryd.prog 27 #[.agg #[.int .i64 a0_0, .int .i64 a0_1]] w fun e w' => e = .returned (.int .i64 r) ∧ Below w.heap.size w w' := by
 have hu34 := Tryd.underlying34
 have HB := Aside0.mk (Below.refl w.heap.size w)
 have H : (some (wrap64 (a0_0 * (wrap64 (a0_1 + 1))))) = some r := h
 clear h
 obtain rfl := Option.some.inj H
 go_enter Tryd.func27, Tryd.ntmps27
 go_wp2_with (first | ((with_reducible refine gate_dst (N := 1) rfl ?_); refine box_event ?hg (N := 1) ?hd (cs := #[.int .i64 a0_0, .int .i64 a0_1]) (t := 34) ?hr ?_; (case hd => rfl); (case hg => rfl); (case hr => first | (go_simp; done) | (go_simp; rfl)); intro gb150 hg w2 hbox hb; have n0_ := Aside0.mk (below_step (by repeat (zqf_2_1z)) hb); have n1_ := Aside0.mk (hbox); have n2_ := Aside0.mk ((by rw [hg]; exact (below_size (by repeat (zqf_2_1z))) : w.heap.size ≤ gb150)); have n3_ := Aside0.mk ((by rw [hg]; exact (below_size (by repeat (zqf_2_1z))) : w.heap.size ≤ gb150)); clear HB; have HB := n0_; have BK150 := n1_; have GW150 := n2_; have GE150 := n3_; clear n0_ n1_ n2_ n3_; clear hb hbox hg; have hcz3_0 : w2.cell? ⟨gb150, 0, none⟩ = some (.int .i64 a0_0) := (blk_cell BK150.out 0).trans rfl; have hcz3_1 : w2.cell? ⟨gb150, 1, none⟩ = some (.int .i64 a0_1) := (blk_cell BK150.out 1).trans rfl; have hfz3_0 := blk_frozen BK150.out 0; have hfz3_1 := blk_frozen BK150.out 1))
 go_ret
 exact ⟨by first | rfl | (simp [errW_none, errW_some] <;> rfl) | (simp [*, errW_none, errW_some] <;> rfl), by repeat (first | (with_reducible first | exact HB.out | apply below_alloc | apply pw_below_drewN | apply below_drew1 | refine below_set ?_ GE150.out) | exact HB.out)⟩

/-- The table that counts trailing zeros, as the package lays it. -/
def deBr : List Int := [0, 1, 56, 2, 57, 49, 28, 3, 61, 58, 42, 50, 38, 29, 17, 4, 62, 47, 59, 36, 45, 43, 51, 22, 53, 39, 33, 30, 24, 18, 12, 5, 63, 55, 48, 27, 60, 41, 37, 16, 46, 35, 44, 21, 52, 32, 23, 11, 54, 26, 40, 15, 34, 20, 31, 10, 25, 14, 19, 9, 13, 8, 7, 6]
/-- The tables lie where the package laid them. -/
def LaidG (w : World) : Prop := 0 < w.heap.size ∧ ∀ i : Nat, i < 64 → w.cell? ⟨0, i, none⟩ = some (.int .u8 (deBr.getD i 0))
theorem LaidG_below {w w1 : World} (h : LaidG w) (hb : Below w.heap.size w w1) : LaidG w1 := ⟨Nat.lt_of_lt_of_le h.1 hb.size, fun i hi => (hb.cell h.1).trans (h.2 i hi)⟩
theorem LaidG_alloc {w : World} (h : LaidG w) (o : Obj) : LaidG (w.alloc o) := LaidG_below h (below_alloc (Below.refl _ _) o)
theorem LaidG_drewN {w : World} (h : LaidG w) (m : Nat) : LaidG (w.drewN m) := LaidG_below h (pw_below_drewN (Below.refl _ _) m)
theorem LaidG_drew {w : World} (h : LaidG w) : LaidG w.drew := LaidG_below h (below_drew (Below.refl _ _))
def tzIx (a0 : Int) : Int := IntKind.u64.wrap (Go.bits BinOp.and IntKind.u64 a0 (IntKind.u64.wrap (-a0)) * 285870213051353865) / 288230376151711744
theorem tzIx_bounds (a0 : Int) : 0 ≤ tzIx a0 ∧ tzIx a0 < 64 := by
 unfold tzIx
 generalize Go.bits BinOp.and IntKind.u64 a0 (IntKind.u64.wrap (-a0)) * 285870213051353865 = y
 have h : IntKind.u64.wrap y = y % 18446744073709551616 := by simp [IntKind.wrap, IntKind.bits, IntKind.signed]
 rw [h]
 omega
theorem deBr_wrap : ((List.range 64).all fun i => decide (IntKind.i64.wrap (deBr.getD i 0) = deBr.getD i 0)) = true := by decide +kernel
/-! ### bits_TrailingZeros64: function 33 -/
def bits_TrailingZeros64.f (a0 : Int) : Option Int := if a0 = 0 then some 64 else some (deBr.getD (tzIx a0).toNat 0)
set_option maxHeartbeats 8000000 in
set_option maxRecDepth 100000 in
theorem bits_TrailingZeros64.calls (a0 : Int) (r : Int) (w : World) (hG : LaidG w) (h : bits_TrailingZeros64.f a0 = some r) :
  Calls Tryd.prog 33 #[.int .u64 a0] w fun e w' => e = .returned (.int .i64 r) ∧ Drawn0 w w' := by
 unfold bits_TrailingZeros64.f at h
 by_cases h0 : a0 = 0
 ·rw [if_pos h0] at h
  subst h0
  obtain rfl := Option.some.inj h
  go_enter Tryd.func33, Tryd.ntmps33
  go_wp2
  go_ret
  exact ⟨rfl, by repeat (zqf_2_7z)⟩
 ·rw [if_neg h0] at h
  have hb := tzIx_bounds a0
  have hc := hG.2 (tzIx a0).toNat (by omega)
  obtain rfl := Option.some.inj h
  have hcv : IntKind.i64.wrap (deBr.getD (tzIx a0).toNat 0) = deBr.getD (tzIx a0).toNat 0 := by
   have h9 := deBr_wrap
   simp only [List.all_eq_true, List.mem_range, decide_eq_true_eq] at h9
   exact h9 _ (by omega)
  unfold tzIx at hb hc hcv ⊢
  clear hG
  generalize hv : deBr.getD (IntKind.u64.wrap (Go.bits BinOp.and IntKind.u64 a0 (IntKind.u64.wrap (-a0)) * 285870213051353865) / 288230376151711744).toNat 0 = v at *
  clear hv
  go_enter Tryd.func33, Tryd.ntmps33
  go_wp2
  go_ret
  exact ⟨by simp [hcv], by repeat (zqf_2_7z)⟩

/-! ### impl_set_listed: function 28 -/
def impl_set_listed.l0 : Nat → Int → List Int → Option (List Int)
 | 0, _, _ => none
 | k + 1, x0, x3 => if x0 > 0 then ((bits_TrailingZeros64.f x0).bind fun t154 => (if x3.length < 17592186044416 then (impl_set_listed.l0 k (Go.bits .and .u64 x0 (IntKind.u64.wrap (x0 - 1))) (x3 ++ [t154])) else (none))) else (some x3)
def impl_set_listed.f (k : Nat) (a0 : Int) : Option (List Int) := impl_set_listed.l0 k a0 (([] : List Int))
theorem impl_set_listed.mono_l : ∀ k, (∀ y0 y1, LeO (impl_set_listed.l0 k y0 y1) (impl_set_listed.l0 (k + 1) y0 y1))
 | 0 => fun _ _ r h => by simp [impl_set_listed.l0] at h
 | k + 1 => by
  have ih0 := impl_set_listed.mono_l k
  ·intro y0 y1
   unfold impl_set_listed.l0
   repeat' first
   | (with_reducible exact ih0 _ _)
   | (with_reducible exact LeO.refl _)
   | (with_reducible exact LeO.none _)
   | (with_reducible refine LeO.ite ?_ ?_)
   | (with_reducible refine LeO.bind ?_ (fun _ => ?_))
   | exact ih0 _ _
   | exact LeO.none _
   | refine LeO.ite ?_ ?_
   | refine LeO.bind ?_ (fun _ => ?_)
theorem impl_set_listed.mono : ∀ a0 k, LeO (impl_set_listed.f k a0) (impl_set_listed.f (k + 1) a0) := by
 intro a0 k
 have ih0 := impl_set_listed.mono_l k
 unfold impl_set_listed.f
 repeat' first
   | (with_reducible exact ih0 _ _)
   | (with_reducible exact LeO.refl _)
   | (with_reducible exact LeO.none _)
   | (with_reducible refine LeO.ite ?_ ?_)
   | (with_reducible refine LeO.bind ?_ (fun _ => ?_))
   | exact ih0 _ _
   | exact LeO.none _
   | refine LeO.ite ?_ ?_
   | refine LeO.bind ?_ (fun _ => ?_)
set_option maxHeartbeats 8000000 in
set_option maxRecDepth 100000 in
theorem impl_set_listed.calls (k : Nat) (a0 : Int) (r : List Int) (w : World) (hG : LaidG w) (h : impl_set_listed.f k a0 = some r) :
  Calls Tryd.prog 28 #[.int .u64 a0] w fun e w' => ∃ v0_ : Value, e = .returned (v0_) ∧ Kd.R (Kd.int .i64) 3 w' w.heap.size (fun _ => True) v0_ r ∧ Below w.heap.size w w' := by
 have HG := Aside0.mk hG
 clear hG
 have HB := Aside0.mk (Below.refl w.heap.size w)
 have H : (impl_set_listed.l0 k a0 (([] : List Int))) = some r := h
 clear h
 obtain ⟨y151, hy151⟩ : ∃ y_ : List Int, y_ = (([] : List Int)) := ⟨_, rfl⟩
 replace H : (impl_set_listed.l0 k a0 y151) = some r := by first | (rw [hy151]; with_reducible exact H) | (have H2_ := (Option.bind_some _ _).symm.trans H; rw [hy151]; with_reducible exact H2_) | (have H2_ := (Option.bind_some _ _).symm.trans H; with_reducible exact H2_) | with_reducible exact H | (rw [hy151]; exact H) | exact H
 have Ny151 := Aside0.mk hy151
 clear hy151
 have H' := Aside0.mk H
 clear H
 go_enter Tryd.func28, Tryd.ntmps28
 go_wp2_with (first | ((with_reducible refine gate_dst (N := 4) rfl ?_); refine Kd.R_lit (Kd.int .i64) _ 3 ?hg (N := 4) ?hd (xs := ([] : List Int)) (inner := []) (ok := fun _ => True) (okp := fun _ => True) ?hr ?hp (fun _ hk => hk) trivial (Below.refl _ _) (Nat.le_refl _) (by simp) ?_; (case hd => rfl); (case hg => rfl); (case hr => first | (go_simp; done) | (go_simp; rfl)); (case hp => exact (Reps.none _ _)); intro v152 w2 ho3 hb hg_ hnew_; clear hg_ hnew_; (first | rw [← Ny151.out] at ho3 | (simp only [Int.reduceToNat] at ho3; rw [← Ny151.out] at ho3)); have n0_ := Aside0.mk (Kd.R_lower ho3 (below_size (by repeat (zqf_2_1z)))); have n1_ := Aside0.mk (below_step (by repeat (zqf_2_1z)) hb); clear HB; have HO153 := n0_; have HB := n1_; clear n0_ n1_; clear hb ho3))
 go_loopg [0, 3] k (fun kq v0 v3 w' => ∃ (x0_1 : Int) (x3_1 : List Int), v0 = .int .u64 x0_1 ∧ Aside0 (impl_set_listed.l0 kq x0_1 x3_1 = some r) ∧ Aside0 (kq ≤ k) ∧ Aside0 (Kd.R (Kd.int .i64) 3 w' w.heap.size (fun _ => True) v3 x3_1) ∧ Aside0 (Below w.heap.size w w'))
 case atStart => exact ⟨(a0), (y151), zqf_2_5z, H', ⟨Nat.le_refl _⟩, ⟨by (zqf_2_6z); exact HO153.out⟩, ⟨by repeat (zqf_2_1z)⟩⟩
 case round =>
  clear H'
  try clear c2
  try clear p2
  obtain ⟨x0_1, x3_1, rfl, HA, HK1, HO_3, HB⟩ := hrel
  cases gk with
  | zero => exact absurd HA.out (by simp [impl_set_listed.l0])
  | succ k1 =>
   have H := HA.out
   clear HA
   simp only [impl_set_listed.l0] at H
   by_cases c4 : x0_1 > 0
   ·rw [if_pos c4] at H
    have c4b0 : decide (0 < x0_1) = true := decide_eq_true c4
    clear c4
    replace H := Option.bind_eq_some_iff.mp H
    obtain ⟨t154, A50, H⟩ := H
    replace H : (if x3_1.length < 17592186044416 then (impl_set_listed.l0 k1 (Go.bits .and .u64 x0_1 (IntKind.u64.wrap (x0_1 - 1))) (x3_1 ++ [t154])) else (none)) = some r := H
    have A5 := Aside0.mk A50
    clear A50
    by_cases c6 : x3_1.length < 17592186044416
    ·rw [if_pos c6] at H
     have LMc6 := Aside0.mk c6
     clear c6
     obtain ⟨y155, hy155⟩ : ∃ y_ : List Int, y_ = (x3_1 ++ [t154]) := ⟨_, rfl⟩
     replace H : (impl_set_listed.l0 k1 (Go.bits .and .u64 x0_1 (IntKind.u64.wrap (x0_1 - 1))) y155) = some r := by first | (rw [hy155]; with_reducible exact H) | (have H2_ := (Option.bind_some _ _).symm.trans H; rw [hy155]; with_reducible exact H2_) | (have H2_ := (Option.bind_some _ _).symm.trans H; with_reducible exact H2_) | with_reducible exact H | (rw [hy155]; exact H) | exact H
     have Ny155 := Aside0.mk hy155
     clear hy155
     have H' := Aside0.mk H
     clear H
     go_wp2_with (first | ((with_reducible refine gate_callee (f := 33) rfl ?_); refine goesL_ (some 13) rfl rfl Tryd.func33 (by kernel_rfl) rfl #[.int .u64 x0_1] rfl zqf_2_2z ?_; (with_reducible refine (bits_TrailingZeros64.calls x0_1 t154 _ ?side1 A5.out).mono ?_); (case side1 => first | exact LaidG_below HG.out (by repeat (zqf_2_1z)) | (repeat (first | exact HG.out | (with_reducible refine LaidG_alloc ?_ _) | (with_reducible refine LaidG_drewN ?_ _) | (with_reducible refine LaidG_drew ?_)))); rintro e w' ⟨rfl, ⟨nd, rfl⟩⟩; refine ⟨_, rfl, ?_⟩) | ((with_reducible refine gate_builtin (b := .append) (xs := #[.tmp 11, .tmp 14]) rfl ?_); at_builtin; refine Kd.R_append (Kd.int .i64) (w0 := w) w.heap.size rfl (.tmp 11) (.tmp 14) 22 3 (.int .i64 0) 8 rfl Tryd.underlying22 info3 rfl (by decide) (by omega) u3 x3_1 t154 [.int .i64 t154] (fun _ => True) (fun _ => False) rfl rfl ?aP (fun _ hk => hk.elim) ?aF ?aO ?aB ?aS ?aL ?_; (case aP => exact rfl); (case aB => exact (by repeat (zqf_2_1z))); (case aF => exact (fun _ _ => trivial)); (case aO => exact (by (zqf_2_6z); exact HO_3.out)); (case aS => exact (below_size (by repeat (zqf_2_1z)))); (case aL => have := LMc6.out; omega); intro v156 w7 ho hb hg hat; rw [← Ny155.out] at ho; have n0_ := Aside0.mk (hb); have n1_ := Aside0.mk (ho); clear HB; clear HO_3; have HB := n0_; have HO157 := n1_; clear n0_ n1_; clear ho hb hg hat))
     go_roundg k1
     case measure => have := HK1.out; omega
     case rel => exact ⟨(Go.bits .and .u64 x0_1 (IntKind.u64.wrap (x0_1 - 1))), (y155), zqf_2_5z, H', ⟨by have := HK1.out; omega⟩, ⟨by (zqf_2_6z); exact HO157.out⟩, ⟨by repeat (zqf_2_1z)⟩⟩
    ·rw [if_neg c6] at H
     exact absurd H (by simp)
   ·rw [if_neg c4] at H
    have c4b0 : decide (0 < x0_1) = false := decide_eq_false c4
    clear c4
    obtain rfl := Option.some.inj H
    go_wp2
    go_ret
    exact ⟨_, by first | rfl | (simp [errW_none, errW_some] <;> rfl) | (simp [*, errW_none, errW_some] <;> rfl), by (zqf_2_6z); exact HO_3.out, by repeat (zqf_2_1z)⟩

end Go.Proofs.YtkllomnelknpaaaDoor.Q
