-- written by a program of this session, pm.py, for this claim
import Derived.Test.YtgpkhlklbcfibaaDoorQFnExactFullTrix0
import Derived.Test.YtgpkhlklbcfibaaDoorQFnExactFullTrix1
namespace Go.Proofs.YtgpkhlklbcfibaaDoor.Q
open Go.RowKit Go.Proofs.YtgpkhlklbcfibaaDoorW.PrintWords Go.Proofs.YtgpkhlklbcfibaaDoorW.PrintLast Go.Proofs.YtgpkhlklbcfibaaDoorW.PrintMore
attribute [local go_sem] max2_int min2_int max_two min_two max_three min_three max_four min_four   -- for this text's walks alone
set_option linter.unusedVariables false
set_option linter.unusedSimpArgs false

set_option hygiene false in
local macro:max "zqf_2_1z" : term => `((by repeat (first | (with_reducible first | exact HB.out | apply below_alloc | apply pw_below_drewN | apply below_drew1) | exact HB.out)))
set_option hygiene false in
local macro "zq8_1z" : tactic => `(tactic| (with_reducible repeat (first | refine blk_drewN ?_ _ | refine blk_drew ?_ | refine blk_alloc ?_ _)))
set_option hygiene false in
local macro "zq8_2z" : tactic => `(tactic| (with_reducible repeat (first | apply Kd.R_alloc | apply Kd.R_drewN | apply Kd.R_drew)))
set_option hygiene false in
local macro "zq8_3z" : tactic => `(tactic| (first | (with_reducible first | exact HB.out | apply below_alloc | apply pw_below_drewN | apply below_drew1 | refine below_set ?_ GE145.out | refine below_set ?_ GE151.out) | exact HB.out))
set_option hygiene false in
local macro "zq8_4z" : tactic => `(tactic| (first | (with_reducible first | exact HB.out | apply below_alloc | apply pw_below_drewN | apply below_drew1 | refine below_set ?_ GE145.out | refine below_set ?_ GE151.out | refine below_set ?_ GE161.out) | exact HB.out))
set_option hygiene false in
local macro:max "zq8_5z" : term => `((by (try simp only [List.map_toArray, List.map_cons, List.map_nil]); first | done | rfl | (simp only [List.length_drop, List.length_take]; rfl)))
set_option hygiene false in
local macro:max "zq8_6z" : term => `((blk_below (g := gb145) (o := .cells #[.int .i64 t140, .slice Ao8 t141.length co8] 37 (0, 0)) (by (zq8_1z); exact BK145.out) hb))
set_option hygiene false in
local macro "zq8_7z" : tactic => `(tactic| (first | exact (Kd.R_reads' HO_152001.out).2.2 | (with_reducible refine Kd.C_alloc ?_ _) | (with_reducible refine Kd.C_drewN ?_ _) | (with_reducible refine Kd.C_drew ?_)))
set_option hygiene false in
local macro:max "zq8_8z" : term => `((by repeat (first | (with_reducible first | exact HB.out | apply below_alloc | apply pw_below_drewN | apply below_drew1 | refine below_set ?_ GE145.out) | exact HB.out)))
set_option hygiene false in
local macro:max "zq8_9z" : term => `((by (zq8_2z); exact (Kd.R_mono (Kd.R_far (p := ⟨gb161, 1, none⟩) (Kd.R_far (p := ⟨gb161, 0, none⟩) (Kd.R_types HO_146001.out BK161.out (by decide)) (fun _ hk => hk.2) (.int .i64 t156)) (fun _ hk => hk.2) (.slice Ao46 t157.length co46)) (fun _ h_ => h_.1))))
set_option hygiene false in
local macro:max "zq8_10z" : term => `((by (zq8_2z); exact (Kd.R_mono (Kd.R_far (p := ⟨gb151, 1, none⟩) (Kd.R_far (p := ⟨gb151, 0, none⟩) (Kd.R_types HO149.out BK151.out (by decide)) (fun _ hk => hk.2) (.int .i64 t146)) (fun _ hk => hk.2) (.slice Ao13 t147.length co13)) (fun _ h_ => h_.1))))
set_option hygiene false in
local macro:max "zq8_11z" : term => `((by (zq8_2z); exact (Kd.R_mono (Kd.R_far (p := ⟨gb151, 1, none⟩) (Kd.R_far (p := ⟨gb151, 0, none⟩) (Kd.R_types HO143.out BK151.out (by decide)) (fun _ hk => hk.2) (.int .i64 t146)) (fun _ hk => hk.2) (.slice Ao13 t147.length co13)) (fun _ h_ => h_.1))))
set_option hygiene false in
local macro:max "zq8_12z" : term => `((by (zq8_2z); exact (Kd.R_mono (Kd.R_far (p := ⟨gb161, 1, none⟩) (Kd.R_far (p := ⟨gb161, 0, none⟩) (Kd.R_types HO159.out BK161.out (by decide)) (fun _ hk => hk.2) (.int .i64 t156)) (fun _ hk => hk.2) (.slice Ao46 t157.length co46)) (fun _ h_ => h_.1))))
set_option hygiene false in
local macro:max "zq8_13z" : term => `(zqf_2_1z)
set_option hygiene false in
local macro:max "zq8_14z" : term => `((blk_below (g := gb151) (o := .cells #[.int .i64 t146, .slice Ao13 t147.length co13] 37 (0, 0)) (by (zq8_1z); exact BK151.out) hb))
set_option hygiene false in
local macro:max "zq8_15z" : term => `((by (try simp only [List.map_toArray, List.map_cons, List.map_nil]); first | done | (rw [show t154.length = t147.length from (Kd.R_reads' HO_152001.out).1.symm] <;> rfl) | rfl | (simp only [List.length_drop, List.length_take]; rfl)))
/-! ### laws_heldIntS: function 23 -/
def laws_heldIntS.l0 : Nat → List Int → Int → Int → Option (Int)
 | 0, _, _, _ => none
 | k + 1, x0, x1, x5 => if x5 < (x0.length : Int) then (if 0 ≤ x5 then (if (rd x0 x5) = x1 then (laws_heldIntS.l0 k x0 (wrap64 (x1 + 1)) (wrap64 (x5 + 1))) else (some (-1))) else (none)) else (some x1)
def laws_heldIntS.f (k : Nat) (l0 : List Int) (a1 : Int) : Option (Int) := laws_heldIntS.l0 k l0 a1 0
theorem laws_heldIntS.mono_l : ∀ k, (∀ y0 y1 y2, LeO (laws_heldIntS.l0 k y0 y1 y2) (laws_heldIntS.l0 (k + 1) y0 y1 y2))
 | 0 => fun _ _ _ r h => by simp [laws_heldIntS.l0] at h
 | k + 1 => by
  have ih0 := laws_heldIntS.mono_l k
  ·intro y0 y1 y2
   unfold laws_heldIntS.l0
   repeat' first
   | (with_reducible exact ih0 _ _ _)
   | (with_reducible exact LeO.refl _)
   | (with_reducible exact LeO.none _)
   | (with_reducible refine LeO.ite ?_ ?_)
   | (with_reducible refine LeO.bind ?_ (fun _ => ?_))
   | exact ih0 _ _ _
   | exact LeO.none _
   | refine LeO.ite ?_ ?_
   | refine LeO.bind ?_ (fun _ => ?_)
theorem laws_heldIntS.mono : ∀ a0 a1 k, LeO (laws_heldIntS.f k a0 a1) (laws_heldIntS.f (k + 1) a0 a1) := by
 intro a0 a1 k
 have ih0 := laws_heldIntS.mono_l k
 unfold laws_heldIntS.f
 repeat' first
   | (with_reducible exact ih0 _ _ _)
   | (with_reducible exact LeO.refl _)
   | (with_reducible exact LeO.none _)
   | (with_reducible refine LeO.ite ?_ ?_)
   | (with_reducible refine LeO.bind ?_ (fun _ => ?_))
   | exact ih0 _ _ _
   | exact LeO.none _
   | refine LeO.ite ?_ ?_
   | refine LeO.bind ?_ (fun _ => ?_)
set_option maxHeartbeats 8000000 in
set_option maxRecDepth 100000 in
theorem laws_heldIntS.calls (k : Nat) (A0 : Option Addr) (c0 : Nat) (l0 : List Int) (a1 : Int) (r : Int) (w : World) (hr0 : Kd.C (Kd.int .i64) w A0 l0.length l0) (hc0 : l0.length ≤ c0) (h : laws_heldIntS.f k l0 a1 = some r) :
  Calls Tryd.prog 23 #[.slice A0 l0.length c0, .int .i64 a1] w fun e w' => e = .returned (.int .i64 r) ∧ Drawn0 w w' := by
 have HR0 := Aside0.mk hr0
 have HC0 := Aside0.mk hc0
 clear hr0 hc0
 have H : (laws_heldIntS.l0 k l0 a1 0) = some r := h
 clear h
 have H' := Aside0.mk H
 clear H
 go_enter Tryd.func23, Tryd.ntmps23
 go_wp2
 go_loopg [1, 5] k (fun kq v1 v5 w' => ∃ (x1_1 : Int) (x5_1 : Int), v1 = .int .i64 x1_1 ∧ v5 = .int .i64 x5_1 ∧ Aside0 (laws_heldIntS.l0 kq l0 x1_1 x5_1 = some r) ∧ Aside0 (kq ≤ k) ∧ Drawn0 w w')
 case atStart => exact ⟨(a1), (0), (by first | rfl | (simp; done) | (simp [*]; done)), (by first | rfl | (simp; done) | (simp [*]; done)), H', ⟨Nat.le_refl _⟩, by repeat (first | exact Drawn0.refl _ | apply Drawn0.step)⟩
 case round =>
  clear H'
  try clear c2
  try clear p2
  obtain ⟨x1_1, x5_1, rfl, rfl, HA, HK1, ⟨m1, rfl⟩⟩ := hrel
  cases gk with
  | zero => exact absurd HA.out (by simp [laws_heldIntS.l0])
  | succ k1 =>
   have H := HA.out
   clear HA
   simp only [laws_heldIntS.l0] at H
   by_cases c3 : x5_1 < (l0.length : Int)
   ·rw [if_pos c3] at H
    have c3b0 : decide (x5_1 < (l0.length : Int)) = true := decide_eq_true c3
    clear c3
    by_cases c4 : 0 ≤ x5_1
    ·rw [if_pos c4] at H
     have c4b0 : decide (0 ≤ x5_1) = true := decide_eq_true c4
     clear c4
     by_cases c5 : (rd l0 x5_1) = x1_1
     ·rw [if_pos c5] at H
      have c5b0 : ((rd l0 x5_1) == x1_1) = true := beq_iff_eq.mpr c5
      have c5b1 : ((rd l0 x5_1) != x1_1) = false := bne_eq_false_iff_eq.mpr c5
      clear c5
      have H' := Aside0.mk H
      clear H
      have p137 : 0 ≤ (x5_1 : Int) := of_decide_eq_true (by first | (with_reducible assumption) | assumption)
      have q137 : x5_1 < (l0.length : Int) := of_decide_eq_true (by first | (with_reducible assumption) | assumption)
      obtain ⟨ad137, e137, hx137_0⟩ := Kd.at_int HR0.out x5_1 p137 q137
      cases e137
      replace p137 := eq_true p137
      replace q137 := eq_true q137
      go_wp2
      go_roundg k1
      case measure => have := HK1.out; omega
      case rel => exact ⟨(wrap64 (x1_1 + 1)), (wrap64 (x5_1 + 1)), (by first | rfl | (simp; done) | (simp [*]; done)), (by first | rfl | (simp; done) | (simp [*]; done)), H', ⟨by have := HK1.out; omega⟩, by repeat (first | exact Drawn0.refl _ | apply Drawn0.step)⟩
     ·rw [if_neg c5] at H
      have c5b0 : ((rd l0 x5_1) == x1_1) = false := beq_eq_false_iff_ne.mpr c5
      have c5b1 : ((rd l0 x5_1) != x1_1) = true := bne_iff_ne.mpr c5
      obtain rfl := Option.some.inj H
      have p137 : 0 ≤ (x5_1 : Int) := of_decide_eq_true (by first | (with_reducible assumption) | assumption)
      have q137 : x5_1 < (l0.length : Int) := of_decide_eq_true (by first | (with_reducible assumption) | assumption)
      obtain ⟨ad137, e137, hx137_0⟩ := Kd.at_int HR0.out x5_1 p137 q137
      cases e137
      replace p137 := eq_true p137
      replace q137 := eq_true q137
      go_wp2
      go_ret
      exact ⟨by first | rfl | (simp; done) | (simp [*]; done), by repeat (first | exact Drawn0.refl _ | apply Drawn0.step)⟩
    ·rw [if_neg c4] at H
     exact absurd H (by simp)
   ·rw [if_neg c3] at H
    have c3b0 : decide (x5_1 < (l0.length : Int)) = false := decide_eq_false c3
    clear c3
    obtain rfl := Option.some.inj H
    go_wp2
    go_ret
    exact ⟨by first | rfl | (simp; done) | (simp [*]; done), by repeat (first | exact Drawn0.refl _ | apply Drawn0.step)⟩

/-! ### laws_heldTri: function 28 -/
def laws_heldTri.f (k : Nat) (a0_0 : Int) (l0_1 : List Int) (a1 : Int) : Option (Int) := (laws_heldIntS.f k l0_1 a1).bind fun t139 => (if t139 < 0 then (some (-1)) else (some t139))
theorem laws_heldTri.mono : ∀ a0 a1 a2 k, LeO (laws_heldTri.f k a0 a1 a2) (laws_heldTri.f (k + 1) a0 a1 a2) := by
 intro a0 a1 a2 k
 unfold laws_heldTri.f
 repeat' first
   | (with_reducible exact laws_heldIntS.mono _ _ _)
   | (with_reducible exact LeO.refl _)
   | (with_reducible exact LeO.none _)
   | (with_reducible refine LeO.ite ?_ ?_)
   | (with_reducible refine LeO.bind ?_ (fun _ => ?_))
   | exact laws_heldIntS.mono _ _ _
   | exact LeO.none _
   | refine LeO.ite ?_ ?_
   | refine LeO.bind ?_ (fun _ => ?_)
set_option maxHeartbeats 8000000 in
set_option maxRecDepth 100000 in
theorem laws_heldTri.calls (k : Nat) (a0_0 : Int) (A0_1 : Option Addr) (c0_1 : Nat) (l0_1 : List Int) (a1 : Int) (r : Int) (w : World) (hr0_1 : Kd.C (Kd.int .i64) w A0_1 l0_1.length l0_1) (hc0_1 : l0_1.length ≤ c0_1) (h : laws_heldTri.f k a0_0 l0_1 a1 = some r) :
  Calls Tryd.prog 28 #[.agg #[.int .i64 a0_0, .slice A0_1 l0_1.length c0_1], .int .i64 a1] w fun e w' => e = .returned (.int .i64 r) ∧ Below w.heap.size w w' := by
 have hu37 := Tryd.underlying37
 have HR0_1 := Aside0.mk hr0_1
 have HC0_1 := Aside0.mk hc0_1
 clear hr0_1 hc0_1
 have HB := Aside0.mk (Below.refl w.heap.size w)
 have H : ((laws_heldIntS.f k l0_1 a1).bind fun t139 => (if t139 < 0 then (some (-1)) else (some t139))) = some r := h
 clear h
 replace H := Option.bind_eq_some_iff.mp H
 obtain ⟨t139, A30, H⟩ := H
 replace H : (if t139 < 0 then (some (-1)) else (some t139)) = some r := H
 have A3 := Aside0.mk A30
 clear A30
 by_cases c4 : t139 < 0
 ·rw [if_pos c4] at H
  have c4b0 : decide (t139 < 0) = true := decide_eq_true c4
  clear c4
  obtain rfl := Option.some.inj H
  go_enter Tryd.func28, Tryd.ntmps28
  go_wp2_with (first | ((with_reducible refine gate_dst (N := 2) rfl ?_); refine box_event ?hg (N := 2) ?hd (cs := #[.int .i64 a0_0, .slice A0_1 l0_1.length c0_1]) (t := 37) ?hr ?_; (case hd => rfl); (case hg => rfl); (case hr => first | (go_simp; done) | (go_simp; rfl)); intro gb138 hg w5 hbox hb; have n0_ := Aside0.mk (below_step zqf_2_1z hb); have n1_ := Aside0.mk (hbox); have n2_ := Aside0.mk ((by rw [hg]; exact (below_size zqf_2_1z) : w.heap.size ≤ gb138)); have n3_ := Aside0.mk ((by rw [hg]; exact (below_size zqf_2_1z) : w.heap.size ≤ gb138)); clear HB; have HB := n0_; have BK138 := n1_; have GW138 := n2_; have GE138 := n3_; clear n0_ n1_ n2_ n3_; clear hb hbox hg; have hcz6_0 : w5.cell? ⟨gb138, 0, none⟩ = some (.int .i64 a0_0) := (blk_cell BK138.out 0).trans rfl; have hcz6_1 : w5.cell? ⟨gb138, 1, none⟩ = some (.slice A0_1 l0_1.length c0_1) := (blk_cell BK138.out 1).trans rfl; have hfz6_0 := blk_frozen BK138.out 0; have hfz6_1 := blk_frozen BK138.out 1) | ((with_reducible refine gate_callee (f := 23) rfl ?_); refine goesL_ (some 8) rfl rfl Tryd.func23 (by kernel_rfl) rfl #[.slice A0_1 l0_1.length c0_1, .int .i64 a1] rfl (by (try simp only [List.map_toArray, List.map_cons, List.map_nil]); first | done | rfl | (simp only [List.length_drop, List.length_take]; rfl)) ?_; (with_reducible refine (laws_heldIntS.calls k _ _ l0_1 a1 t139 _ ?side1 ?side2 A3.out).mono ?_); (case side1 => repeat (first | exact (Kd.C_below HR0_1.out HB.out) | (with_reducible refine Kd.C_alloc ?_ _) | (with_reducible refine Kd.C_drewN ?_ _) | (with_reducible refine Kd.C_drew ?_))); (case side2 => exact HC0_1.out); rintro e w' ⟨rfl, ⟨nd, rfl⟩⟩; refine ⟨_, rfl, ?_⟩))
  go_ret
  exact ⟨by first | rfl | (simp [errW_none, errW_some] <;> rfl) | (simp [*, errW_none, errW_some] <;> rfl), by repeat (first | (with_reducible first | exact HB.out | apply below_alloc | apply pw_below_drewN | apply below_drew1 | refine below_set ?_ GE138.out) | exact HB.out)⟩
 ·rw [if_neg c4] at H
  have c4b0 : decide (t139 < 0) = false := decide_eq_false c4
  clear c4
  obtain rfl := Option.some.inj H
  go_enter Tryd.func28, Tryd.ntmps28
  go_wp2_with (first | ((with_reducible refine gate_dst (N := 2) rfl ?_); refine box_event ?hg (N := 2) ?hd (cs := #[.int .i64 a0_0, .slice A0_1 l0_1.length c0_1]) (t := 37) ?hr ?_; (case hd => rfl); (case hg => rfl); (case hr => first | (go_simp; done) | (go_simp; rfl)); intro gb138 hg w7 hbox hb; have n0_ := Aside0.mk (below_step zqf_2_1z hb); have n1_ := Aside0.mk (hbox); have n2_ := Aside0.mk ((by rw [hg]; exact (below_size zqf_2_1z) : w.heap.size ≤ gb138)); have n3_ := Aside0.mk ((by rw [hg]; exact (below_size zqf_2_1z) : w.heap.size ≤ gb138)); clear HB; have HB := n0_; have BK138 := n1_; have GW138 := n2_; have GE138 := n3_; clear n0_ n1_ n2_ n3_; clear hb hbox hg; have hcz8_0 : w7.cell? ⟨gb138, 0, none⟩ = some (.int .i64 a0_0) := (blk_cell BK138.out 0).trans rfl; have hcz8_1 : w7.cell? ⟨gb138, 1, none⟩ = some (.slice A0_1 l0_1.length c0_1) := (blk_cell BK138.out 1).trans rfl; have hfz8_0 := blk_frozen BK138.out 0; have hfz8_1 := blk_frozen BK138.out 1) | ((with_reducible refine gate_callee (f := 23) rfl ?_); refine goesL_ (some 8) rfl rfl Tryd.func23 (by kernel_rfl) rfl #[.slice A0_1 l0_1.length c0_1, .int .i64 a1] rfl (by (try simp only [List.map_toArray, List.map_cons, List.map_nil]); first | done | rfl | (simp only [List.length_drop, List.length_take]; rfl)) ?_; (with_reducible refine (laws_heldIntS.calls k _ _ l0_1 a1 t139 _ ?side1 ?side2 A3.out).mono ?_); (case side1 => repeat (first | exact (Kd.C_below HR0_1.out HB.out) | (with_reducible refine Kd.C_alloc ?_ _) | (with_reducible refine Kd.C_drewN ?_ _) | (with_reducible refine Kd.C_drew ?_))); (case side2 => exact HC0_1.out); rintro e w' ⟨rfl, ⟨nd, rfl⟩⟩; refine ⟨_, rfl, ?_⟩))
  go_ret
  exact ⟨by first | rfl | (simp [errW_none, errW_some] <;> rfl) | (simp [*, errW_none, errW_some] <;> rfl), by repeat (first | (with_reducible first | exact HB.out | apply below_alloc | apply pw_below_drewN | apply below_drew1 | refine below_set ?_ GE138.out) | exact HB.out)⟩

/-! ### laws_FnExactFullTri: function 8 -/
mutual
def laws_FnExactFullTri.j0 : Nat → Int → Bool → Bool → Int → List Int → Int → List Int → Option (Bool)
 | 0, _, _, _, _, _, _, _ => none
 | k + 1, x0, x4, x29, x146000, x146001, x152000, x152001 => if x29 = true then (some false) else ((laws_markTri.f k x152000 x152001 101).bind fun bt153 => ((laws_heldTri.f k x152000 bt153.2 101).bind fun t155 => (if t155 < 0 then (some false) else (if t155 = bt153.1 then ((impl_FullTri.f k x0).bind fun bt156 => ((laws_eqTri.f k bt156.1 bt156.2.1 x146000 x146001).bind fun t162 => (if t162 = true then (laws_FnExactFullTri.j1 k bt153.1 (bt156.2.2 != x4) x152000 bt153.2) else (laws_FnExactFullTri.j1 k bt153.1 true x152000 bt153.2)))) else (some false)))))
def laws_FnExactFullTri.j1 : Nat → Int → Bool → Int → List Int → Option (Bool)
 | 0, _, _, _, _ => none
 | k + 1, x7, x54, x152000, x152001 => if x54 = true then (some false) else ((laws_heldTri.f k x152000 x152001 101).bind fun t163 => (if t163 < 0 then (some false) else (if t163 = x7 then (some true) else (some false))))
end
def laws_FnExactFullTri.f (k : Nat) (a0 : Int) : Option (Bool) := (spec_FullTri.f k a0).bind fun bt140 => ((impl_FullTri.f k a0).bind fun bt146 => ((laws_eqTri.f k bt146.1 bt146.2.1 bt140.1 bt140.2.1).bind fun t152 => (if t152 = true then (laws_FnExactFullTri.j0 k a0 bt140.2.2 (bt146.2.2 != bt140.2.2) bt140.1 bt140.2.1 bt146.1 bt146.2.1) else (laws_FnExactFullTri.j0 k a0 bt140.2.2 true bt140.1 bt140.2.1 bt146.1 bt146.2.1))))
theorem laws_FnExactFullTri.mono_l : ∀ k, (∀ y0 y1 y2 y3 y4 y5 y6, LeO (laws_FnExactFullTri.j0 k y0 y1 y2 y3 y4 y5 y6) (laws_FnExactFullTri.j0 (k + 1) y0 y1 y2 y3 y4 y5 y6)) ∧ (∀ y0 y1 y2 y3, LeO (laws_FnExactFullTri.j1 k y0 y1 y2 y3) (laws_FnExactFullTri.j1 (k + 1) y0 y1 y2 y3))
 | 0 => ⟨fun _ _ _ _ _ _ _ r h => by simp [laws_FnExactFullTri.j0] at h, fun _ _ _ _ r h => by simp [laws_FnExactFullTri.j1] at h⟩
 | k + 1 => by
  obtain ⟨ih0, ih1⟩ := laws_FnExactFullTri.mono_l k
  refine ⟨?_, ?_⟩
  ·intro y0 y1 y2 y3 y4 y5 y6
   unfold laws_FnExactFullTri.j0
   repeat' first
   | (with_reducible exact ih0 _ _ _ _ _ _ _)
   | (with_reducible exact ih1 _ _ _ _)
   | (with_reducible exact impl_FullTri.mono _ _)
   | (with_reducible exact laws_eqTri.mono _ _ _ _ _)
   | (with_reducible exact laws_heldTri.mono _ _ _ _)
   | (with_reducible exact laws_markTri.mono _ _ _ _)
   | (with_reducible exact spec_FullTri.mono _ _)
   | (with_reducible exact LeO.refl _)
   | (with_reducible exact LeO.none _)
   | (with_reducible refine LeO.ite ?_ ?_)
   | (with_reducible refine LeO.bind ?_ (fun _ => ?_))
   | exact ih0 _ _ _ _ _ _ _
   | exact ih1 _ _ _ _
   | exact impl_FullTri.mono _ _
   | exact laws_eqTri.mono _ _ _ _ _
   | exact laws_heldTri.mono _ _ _ _
   | exact laws_markTri.mono _ _ _ _
   | exact spec_FullTri.mono _ _
   | exact LeO.none _
   | refine LeO.ite ?_ ?_
   | refine LeO.bind ?_ (fun _ => ?_)
  ·intro y0 y1 y2 y3
   unfold laws_FnExactFullTri.j1
   repeat' first
   | (with_reducible exact ih0 _ _ _ _ _ _ _)
   | (with_reducible exact ih1 _ _ _ _)
   | (with_reducible exact impl_FullTri.mono _ _)
   | (with_reducible exact laws_eqTri.mono _ _ _ _ _)
   | (with_reducible exact laws_heldTri.mono _ _ _ _)
   | (with_reducible exact laws_markTri.mono _ _ _ _)
   | (with_reducible exact spec_FullTri.mono _ _)
   | (with_reducible exact LeO.refl _)
   | (with_reducible exact LeO.none _)
   | (with_reducible refine LeO.ite ?_ ?_)
   | (with_reducible refine LeO.bind ?_ (fun _ => ?_))
   | exact ih0 _ _ _ _ _ _ _
   | exact ih1 _ _ _ _
   | exact impl_FullTri.mono _ _
   | exact laws_eqTri.mono _ _ _ _ _
   | exact laws_heldTri.mono _ _ _ _
   | exact laws_markTri.mono _ _ _ _
   | exact spec_FullTri.mono _ _
   | exact LeO.none _
   | refine LeO.ite ?_ ?_
   | refine LeO.bind ?_ (fun _ => ?_)
theorem laws_FnExactFullTri.mono : ∀ a0 k, LeO (laws_FnExactFullTri.f k a0) (laws_FnExactFullTri.f (k + 1) a0) := by
 intro a0 k
 obtain ⟨ih0, ih1⟩ := laws_FnExactFullTri.mono_l k
 unfold laws_FnExactFullTri.f
 repeat' first
   | (with_reducible exact ih0 _ _ _ _ _ _ _)
   | (with_reducible exact ih1 _ _ _ _)
   | (with_reducible exact impl_FullTri.mono _ _)
   | (with_reducible exact laws_eqTri.mono _ _ _ _ _)
   | (with_reducible exact laws_heldTri.mono _ _ _ _)
   | (with_reducible exact laws_markTri.mono _ _ _ _)
   | (with_reducible exact spec_FullTri.mono _ _)
   | (with_reducible exact LeO.refl _)
   | (with_reducible exact LeO.none _)
   | (with_reducible refine LeO.ite ?_ ?_)
   | (with_reducible refine LeO.bind ?_ (fun _ => ?_))
   | exact ih0 _ _ _ _ _ _ _
   | exact ih1 _ _ _ _
   | exact impl_FullTri.mono _ _
   | exact laws_eqTri.mono _ _ _ _ _
   | exact laws_heldTri.mono _ _ _ _
   | exact laws_markTri.mono _ _ _ _
   | exact spec_FullTri.mono _ _
   | exact LeO.none _
   | refine LeO.ite ?_ ?_
   | refine LeO.bind ?_ (fun _ => ?_)
set_option maxHeartbeats 8000000 in
set_option maxRecDepth 100000 in
theorem laws_FnExactFullTri.calls (k : Nat) (a0 : Int) (r : Bool) (w : World) (hG : LaidG w) (h : laws_FnExactFullTri.f k a0 = some r) :
  Calls Tryd.prog 8 #[.int .i64 a0] w fun e w' => e = .returned (.bool r) ∧ Below w.heap.size w w' := by
 have hu37 := Tryd.underlying37
 have HG := Aside0.mk hG
 clear hG
 have HB := Aside0.mk (Below.refl w.heap.size w)
 have H : ((spec_FullTri.f k a0).bind fun bt140 => ((impl_FullTri.f k a0).bind fun bt146 => ((laws_eqTri.f k bt146.1 bt146.2.1 bt140.1 bt140.2.1).bind fun t152 => (if t152 = true then (laws_FnExactFullTri.j0 k a0 bt140.2.2 (bt146.2.2 != bt140.2.2) bt140.1 bt140.2.1 bt146.1 bt146.2.1) else (laws_FnExactFullTri.j0 k a0 bt140.2.2 true bt140.1 bt140.2.1 bt146.1 bt146.2.1))))) = some r := h
 clear h
 replace H := Option.bind_eq_some_iff.mp H
 obtain ⟨⟨t140, t141, t144⟩, A20, H⟩ := H
 replace H : ((impl_FullTri.f k a0).bind fun bt146 => ((laws_eqTri.f k bt146.1 bt146.2.1 t140 t141).bind fun t152 => (if t152 = true then (laws_FnExactFullTri.j0 k a0 t144 (bt146.2.2 != t144) t140 t141 bt146.1 bt146.2.1) else (laws_FnExactFullTri.j0 k a0 t144 true t140 t141 bt146.1 bt146.2.1)))) = some r := H
 have A2 := Aside0.mk A20
 clear A20
 replace H := Option.bind_eq_some_iff.mp H
 obtain ⟨⟨t146, t147, t150⟩, A30, H⟩ := H
 replace H : ((laws_eqTri.f k t146 t147 t140 t141).bind fun t152 => (if t152 = true then (laws_FnExactFullTri.j0 k a0 t144 (t150 != t144) t140 t141 t146 t147) else (laws_FnExactFullTri.j0 k a0 t144 true t140 t141 t146 t147))) = some r := H
 have A3 := Aside0.mk A30
 clear A30
 have HC4 := Aside0.mk H
 clear H
 go_enter Tryd.func8, Tryd.ntmps8
 go_upto_region 3 with (first | ((with_reducible refine gate_callee (f := 24) rfl ?_); refine goesL_ (some 13) rfl rfl Tryd.func24 (by kernel_rfl) rfl #[.int .i64 a0] rfl zq8_5z ?_; (with_reducible refine (spec_FullTri.calls k a0 t140 t141 t144 _ A2.out).mono ?_); rintro e w5 ⟨v142, rfl, ho0, hb⟩; refine ⟨_, rfl, ?_⟩; have n0_ := Aside0.mk (Kd.R_lower ho0 (below_size zq8_13z)); have n1_ := Aside0.mk (below_step zq8_13z hb); clear HB; have HO143 := n0_; have HB := n1_; clear n0_ n1_; (try clear hb); (try clear hb2); (try clear hk); (try clear hi); (try clear ho0)) | ((with_reducible refine gate_dst (N := 3) rfl ?_); refine box_event ?hg (N := 3) ?hd (cs := #[.int .i64 0, .slice none 0 0]) (t := 37) ?hr ?_; (case hd => rfl); (case hg => rfl); (case hr => first | (go_simp; done) | (go_simp; rfl)); intro gb145 hg w6 hbox hb; have n0_ := Aside0.mk (Kd.R_below (by (zq8_2z); exact HO143.out) hb); have n1_ := Aside0.mk (below_step zq8_13z hb); have n2_ := Aside0.mk (hbox); have n3_ := Aside0.mk ((by rw [hg]; exact (below_size zq8_13z) : w.heap.size ≤ gb145)); have n4_ := Aside0.mk ((by rw [hg]; exact (below_size zq8_13z) : w.heap.size ≤ gb145)); clear HO143; clear HB; have HO143 := n0_; have HB := n1_; have BK145 := n2_; have GW145 := n3_; have GE145 := n4_; clear n0_ n1_ n2_ n3_ n4_; clear hb hbox hg; have hcz7_0 : w6.cell? ⟨gb145, 0, none⟩ = some (.int .i64 0) := (blk_cell BK145.out 0).trans rfl; have hcz7_1 : w6.cell? ⟨gb145, 1, none⟩ = some (.slice none 0 0) := (blk_cell BK145.out 1).trans rfl; have hfz7_0 := blk_frozen BK145.out 0; have hfz7_1 := blk_frozen BK145.out 1; obtain ⟨Ao8, co8, eo8⟩ := Kd.R_slice HO143.out; subst eo8) | ((with_reducible refine gate_callee (f := 25) rfl ?_); refine goesL_ (some 18) rfl rfl Tryd.func25 (by kernel_rfl) rfl #[.int .i64 a0] rfl zq8_5z ?_; (with_reducible refine (impl_FullTri.calls k a0 t146 t147 t150 _ ?side1 A3.out).mono ?_); (case side1 => first | exact LaidG_below HG.out zq8_8z | (repeat (first | exact HG.out | (with_reducible refine LaidG_alloc ?_ _) | (with_reducible refine LaidG_drewN ?_ _) | (with_reducible refine LaidG_drew ?_)))); rintro e w9 ⟨v148, rfl, ho0, hb⟩; refine ⟨_, rfl, ?_⟩; have n0_ := Aside0.mk (Kd.R_elder' (by (zq8_2z); exact (Kd.R_mono (Kd.R_far (p := ⟨gb145, 1, none⟩) (Kd.R_far (p := ⟨gb145, 0, none⟩) (Kd.R_types HO143.out BK145.out (by decide)) (fun _ hk => hk.2) (.int .i64 t140)) (fun _ hk => hk.2) (.slice Ao8 t141.length co8)) (fun _ h_ => h_.1))) (Kd.R_base ho0) hb); have n1_ := Aside0.mk (Kd.R_lower (Kd.R_new' ho0 (Kd.R_lt (by (zq8_2z); exact (Kd.R_mono (Kd.R_far (p := ⟨gb145, 1, none⟩) (Kd.R_far (p := ⟨gb145, 0, none⟩) (Kd.R_types HO143.out BK145.out (by decide)) (fun _ hk => hk.2) (.int .i64 t140)) (fun _ hk => hk.2) (.slice Ao8 t141.length co8)) (fun _ h_ => h_.1))))) (below_size zq8_8z)); have n2_ := Aside0.mk (blk_below (g := gb145) (o := .cells #[.int .i64 t140, .slice Ao8 t141.length co8] 37 (0, 0)) (by (zq8_1z); refine blk_put (cs := #[.int .i64 t140, .slice none 0 0]) ?_ 1 _ rfl; (zq8_1z); refine blk_put (cs := #[.int .i64 0, .slice none 0 0]) ?_ 0 _ rfl; (zq8_1z); exact BK145.out) hb); have n3_ := Aside0.mk (below_step zq8_8z hb); clear HO143; clear BK145; clear HB; have HO143 := n0_; have HO149 := n1_; have BK145 := n2_; have HB := n3_; clear n0_ n1_ n2_ n3_; (try clear hb); (try clear hb2); (try clear hk); (try clear hi); (try clear ho0)) | ((with_reducible refine gate_dst (N := 5) rfl ?_); refine box_event ?hg (N := 5) ?hd (cs := #[.int .i64 0, .slice none 0 0]) (t := 37) ?hr ?_; (case hd => rfl); (case hg => rfl); (case hr => first | (go_simp; done) | (go_simp; rfl)); intro gb151 hg w10 hbox hb; have n0_ := Aside0.mk (Kd.R_below (by (zq8_2z); exact HO143.out) hb); have n1_ := Aside0.mk (Kd.R_below (by (zq8_2z); exact HO149.out) hb); have n2_ := Aside0.mk zq8_6z; have n3_ := Aside0.mk (below_step zq8_8z hb); have n4_ := Aside0.mk (hbox); have n5_ := Aside0.mk ((by rw [hg]; exact (below_size zq8_8z) : w.heap.size ≤ gb151)); have n6_ := Aside0.mk ((by rw [hg]; exact (below_size zq8_8z) : w.heap.size ≤ gb151)); have n7_ := Aside0.mk ((by rw [hg]; exact Nat.ne_of_lt (blk_lt (g := gb145) (o := .cells #[.int .i64 t140, .slice Ao8 t141.length co8] 37 (0, 0)) (by (zq8_1z); exact BK145.out)) : gb145 ≠ gb151)); have n8_ := Aside0.mk ((by rw [hg]; exact Nat.ne_of_gt (blk_lt (g := gb145) (o := .cells #[.int .i64 t140, .slice Ao8 t141.length co8] 37 (0, 0)) (by (zq8_1z); exact BK145.out)) : gb151 ≠ gb145)); clear HO143; clear HO149; clear BK145; clear HB; have HO143 := n0_; have HO149 := n1_; have BK145 := n2_; have HB := n3_; have BK151 := n4_; have GW151 := n5_; have GE151 := n6_; have NB145_151 := n7_; have NB151_145 := n8_; clear n0_ n1_ n2_ n3_ n4_ n5_ n6_ n7_ n8_; clear hb hbox hg; have hnb11 := NB151_145.out; have hnc11 := NB145_151.out; have hcz12_0 : w10.cell? ⟨gb151, 0, none⟩ = some (.int .i64 0) := (blk_cell BK151.out 0).trans rfl; have hcz12_1 : w10.cell? ⟨gb151, 1, none⟩ = some (.slice none 0 0) := (blk_cell BK151.out 1).trans rfl; have hfz12_0 := blk_frozen BK151.out 0; have hfz12_1 := blk_frozen BK151.out 1; obtain ⟨Ao13, co13, eo13⟩ := Kd.R_slice HO149.out; subst eo13))
 (try simp only [Act.put, List.setIfInBounds_toArray, List.set_cons_zero, List.set_cons_succ])
 go_cut [29] (fun v29 wc => ∃ (kq : Nat) (x29_3 : Bool), v29 = .bool x29_3 ∧ Aside0 (laws_FnExactFullTri.j0 kq a0 t144 x29_3 t140 t141 t146 t147 = some r) ∧ Aside0 (kq ≤ k) ∧ Aside0 (Kd.R (Kd.int .i64) 3 wc w.heap.size (fun k_ => some k_ ≠ ((.slice Ao13 t147.length co13) : Value).ownBlock) (.slice Ao8 t141.length co8) t141) ∧ Aside0 (Kd.R (Kd.int .i64) 3 wc w.heap.size (fun k_ => some k_ ≠ ((.slice Ao8 t141.length co8) : Value).ownBlock) (.slice Ao13 t147.length co13) t147) ∧ Aside0 (wc.heap[gb145]? = some (.cells #[.int .i64 t140, (.slice Ao8 t141.length co8)] 37 (0, 0))) ∧ Aside0 (wc.heap[gb151]? = some (.cells #[.int .i64 t146, (.slice Ao13 t147.length co13)] 37 (0, 0))) ∧ Aside0 (Below w.heap.size w wc))
 case first =>
  have H := HC4.out
  clear HC4
  replace H := Option.bind_eq_some_iff.mp H
  obtain ⟨t152, A140, H⟩ := H
  replace H : (if t152 = true then (laws_FnExactFullTri.j0 k a0 t144 (t150 != t144) t140 t141 t146 t147) else (laws_FnExactFullTri.j0 k a0 t144 true t140 t141 t146 t147)) = some r := H
  have A14 := Aside0.mk A140
  clear A140
  by_cases c15 : t152 = true
  ·subst c15
   have H1 : (laws_FnExactFullTri.j0 k a0 t144 (t150 != t144) t140 t141 t146 t147) = some r := by rw [if_pos rfl] at H; exact H
   clear H
   have H := H1
   clear H1
   have H' := Aside0.mk H
   clear H
   have hnb16 := NB151_145.out
   have hnc16 := NB145_151.out
   have hcz17_0 : w10.cell? ⟨gb151, 0, none⟩ = some (.int .i64 0) := (blk_cell BK151.out 0).trans rfl
   have hcz17_1 : w10.cell? ⟨gb151, 1, none⟩ = some (.slice none 0 0) := (blk_cell BK151.out 1).trans rfl
   have hfz17_0 := blk_frozen BK151.out 0
   have hfz17_1 := blk_frozen BK151.out 1
   have hcz18_0 : w10.cell? ⟨gb145, 0, none⟩ = some (.int .i64 t140) := (blk_cell BK145.out 0).trans rfl
   have hcz18_1 : w10.cell? ⟨gb145, 1, none⟩ = some (.slice Ao8 t141.length co8) := (blk_cell BK145.out 1).trans rfl
   have hfz18_0 := blk_frozen BK145.out 0
   have hfz18_1 := blk_frozen BK145.out 1
   go_wp2_with (first | ((with_reducible refine gate_callee (f := 26) rfl ?_); refine goesL_ (some 23) rfl rfl Tryd.func26 (by kernel_rfl) rfl #[.agg #[.int .i64 t146, .slice Ao13 t147.length co13], .agg #[.int .i64 t140, .slice Ao8 t141.length co8]] rfl zq8_5z ?_; (with_reducible refine (laws_eqTri.calls k t146 _ _ t147 t140 _ _ t141 true _ ?side1 ?side2 ?side3 ?side4 A14.out).mono ?_); (case side1 => refine (Kd.R_reads' (e := 3) (base := w.heap.size) (ok := fun k_ => (True ∧ some k_ ≠ (.slice Ao8 t141.length co8 : Value).ownBlock)) (n := t147.length) (c := co13) ?_).2.2; exact zq8_10z); (case side2 => exact (Kd.R_reads' HO149.out).2.1); (case side3 => refine (Kd.R_reads' (e := 3) (base := w.heap.size) (ok := fun k_ => (True ∧ some k_ ≠ (.slice Ao13 t147.length co13 : Value).ownBlock)) (n := t141.length) (c := co8) ?_).2.2; exact zq8_11z); (case side4 => exact (Kd.R_reads' HO143.out).2.1); rintro e w19 ⟨rfl, hb⟩; refine ⟨_, rfl, ?_⟩; have n0_ := Aside0.mk (Kd.R_below zq8_11z hb); have n1_ := Aside0.mk (Kd.R_below zq8_10z hb); have n2_ := Aside0.mk (blk_below (g := gb145) (o := .cells #[.int .i64 t140, .slice Ao8 t141.length co8] 37 (0, 0)) (by (zq8_1z); refine blk_far ?_ NB145_151.out _; (zq8_1z); refine blk_far ?_ NB145_151.out _; (zq8_1z); exact BK145.out) hb); have n3_ := Aside0.mk (blk_below (g := gb151) (o := .cells #[.int .i64 t146, .slice Ao13 t147.length co13] 37 (0, 0)) (by (zq8_1z); refine blk_put (cs := #[.int .i64 t146, .slice none 0 0]) ?_ 1 _ rfl; (zq8_1z); refine blk_put (cs := #[.int .i64 0, .slice none 0 0]) ?_ 0 _ rfl; (zq8_1z); exact BK151.out) hb); have n4_ := Aside0.mk (below_step (by repeat (zq8_3z)) hb); clear HO143; clear HO149; clear BK145; clear BK151; clear HB; have HO143 := n0_; have HO149 := n1_; have BK145 := n2_; have BK151 := n3_; have HB := n4_; clear n0_ n1_ n2_ n3_ n4_; (try clear hb); (try clear hb2); (try clear hk); (try clear hi)))
   go_meet
   case rel => exact ⟨_, ((t150 != t144)), (by first | rfl | (simp; done) | (simp [*]; done)), H', ⟨by first | omega | exact Nat.le_refl _⟩, ⟨by (zq8_2z); exact Kd.R_mono HO143.out (fun _ hk => hk.2)⟩, ⟨by (zq8_2z); exact Kd.R_mono HO149.out (fun _ hk => hk.2)⟩, ⟨by (zq8_1z); exact BK145.out⟩, ⟨by (zq8_1z); exact BK151.out⟩, ⟨by repeat (zq8_3z)⟩⟩
  ·replace c15 := Bool.eq_false_iff.mpr c15
   subst c15
   have H1 : (laws_FnExactFullTri.j0 k a0 t144 true t140 t141 t146 t147) = some r := by rw [if_neg (show ¬ (false = true) by decide)] at H; exact H
   clear H
   have H := H1
   clear H1
   have H' := Aside0.mk H
   clear H
   have hnb20 := NB151_145.out
   have hnc20 := NB145_151.out
   have hcz21_0 : w10.cell? ⟨gb151, 0, none⟩ = some (.int .i64 0) := (blk_cell BK151.out 0).trans rfl
   have hcz21_1 : w10.cell? ⟨gb151, 1, none⟩ = some (.slice none 0 0) := (blk_cell BK151.out 1).trans rfl
   have hfz21_0 := blk_frozen BK151.out 0
   have hfz21_1 := blk_frozen BK151.out 1
   have hcz22_0 : w10.cell? ⟨gb145, 0, none⟩ = some (.int .i64 t140) := (blk_cell BK145.out 0).trans rfl
   have hcz22_1 : w10.cell? ⟨gb145, 1, none⟩ = some (.slice Ao8 t141.length co8) := (blk_cell BK145.out 1).trans rfl
   have hfz22_0 := blk_frozen BK145.out 0
   have hfz22_1 := blk_frozen BK145.out 1
   go_wp2_with (first | ((with_reducible refine gate_callee (f := 26) rfl ?_); refine goesL_ (some 23) rfl rfl Tryd.func26 (by kernel_rfl) rfl #[.agg #[.int .i64 t146, .slice Ao13 t147.length co13], .agg #[.int .i64 t140, .slice Ao8 t141.length co8]] rfl zq8_5z ?_; (with_reducible refine (laws_eqTri.calls k t146 _ _ t147 t140 _ _ t141 false _ ?side1 ?side2 ?side3 ?side4 A14.out).mono ?_); (case side1 => refine (Kd.R_reads' (e := 3) (base := w.heap.size) (ok := fun k_ => (True ∧ some k_ ≠ (.slice Ao8 t141.length co8 : Value).ownBlock)) (n := t147.length) (c := co13) ?_).2.2; exact zq8_10z); (case side2 => exact (Kd.R_reads' HO149.out).2.1); (case side3 => refine (Kd.R_reads' (e := 3) (base := w.heap.size) (ok := fun k_ => (True ∧ some k_ ≠ (.slice Ao13 t147.length co13 : Value).ownBlock)) (n := t141.length) (c := co8) ?_).2.2; exact zq8_11z); (case side4 => exact (Kd.R_reads' HO143.out).2.1); rintro e w23 ⟨rfl, hb⟩; refine ⟨_, rfl, ?_⟩; have n0_ := Aside0.mk (Kd.R_below zq8_11z hb); have n1_ := Aside0.mk (Kd.R_below zq8_10z hb); have n2_ := Aside0.mk (blk_below (g := gb145) (o := .cells #[.int .i64 t140, .slice Ao8 t141.length co8] 37 (0, 0)) (by (zq8_1z); refine blk_far ?_ NB145_151.out _; (zq8_1z); refine blk_far ?_ NB145_151.out _; (zq8_1z); exact BK145.out) hb); have n3_ := Aside0.mk (blk_below (g := gb151) (o := .cells #[.int .i64 t146, .slice Ao13 t147.length co13] 37 (0, 0)) (by (zq8_1z); refine blk_put (cs := #[.int .i64 t146, .slice none 0 0]) ?_ 1 _ rfl; (zq8_1z); refine blk_put (cs := #[.int .i64 0, .slice none 0 0]) ?_ 0 _ rfl; (zq8_1z); exact BK151.out) hb); have n4_ := Aside0.mk (below_step (by repeat (zq8_3z)) hb); clear HO143; clear HO149; clear BK145; clear BK151; clear HB; have HO143 := n0_; have HO149 := n1_; have BK145 := n2_; have BK151 := n3_; have HB := n4_; clear n0_ n1_ n2_ n3_ n4_; (try clear hb); (try clear hb2); (try clear hk); (try clear hi)))
   go_meet
   case rel => exact ⟨_, (true), (by first | rfl | (simp; done) | (simp [*]; done)), H', ⟨by first | omega | exact Nat.le_refl _⟩, ⟨by (zq8_2z); exact Kd.R_mono HO143.out (fun _ hk => hk.2)⟩, ⟨by (zq8_2z); exact Kd.R_mono HO149.out (fun _ hk => hk.2)⟩, ⟨by (zq8_1z); exact BK145.out⟩, ⟨by (zq8_1z); exact BK151.out⟩, ⟨by repeat (zq8_3z)⟩⟩
 case rest =>
  clear HC4
  try clear c1
  try clear c2
  try clear p2
  try clear c8
  try clear c11
  try clear c15
  try clear c16
  try clear c20
  try clear hcz12_0
  try clear hcz12_1
  try clear hcz17_0
  try clear hcz17_1
  try clear hcz18_0
  try clear hcz18_1
  try clear hcz21_0
  try clear hcz21_1
  try clear hcz22_0
  try clear hcz22_1
  try clear hcz7_0
  try clear hcz7_1
  try clear hfz12_0
  try clear hfz12_1
  try clear hfz17_0
  try clear hfz17_1
  try clear hfz18_0
  try clear hfz18_1
  try clear hfz21_0
  try clear hfz21_1
  try clear hfz22_0
  try clear hfz22_1
  try clear hfz7_0
  try clear hfz7_1
  obtain ⟨kq, x29_3, rfl, HA, HJ3, HO_146001, HO_152001, BK145, BK151, HB⟩ := hcut
  cases kq with
  | zero => exact absurd HA.out (by simp [laws_FnExactFullTri.j0])
  | succ kj3 =>
   have H := HA.out
   clear HA
   simp only [laws_FnExactFullTri.j0] at H
   by_cases c24 : x29_3 = true
   ·subst c24
    have H1 : (some false) = some r := by rw [if_pos rfl] at H; exact H
    clear H
    have H := H1
    clear H1
    obtain rfl := Option.some.inj H
    go_wp2
    go_ret
    exact ⟨by first | rfl | (simp [errW_none, errW_some] <;> rfl) | (simp [*, errW_none, errW_some] <;> rfl), by repeat (zq8_3z)⟩
   ·replace c24 := Bool.eq_false_iff.mpr c24
    subst c24
    have H1 : ((laws_markTri.f kj3 t146 t147 101).bind fun bt153 => ((laws_heldTri.f kj3 t146 bt153.2 101).bind fun t155 => (if t155 < 0 then (some false) else (if t155 = bt153.1 then ((impl_FullTri.f kj3 a0).bind fun bt156 => ((laws_eqTri.f kj3 bt156.1 bt156.2.1 t140 t141).bind fun t162 => (if t162 = true then (laws_FnExactFullTri.j1 kj3 bt153.1 (bt156.2.2 != t144) t146 bt153.2) else (laws_FnExactFullTri.j1 kj3 bt153.1 true t146 bt153.2)))) else (some false))))) = some r := by rw [if_neg (show ¬ (false = true) by decide)] at H; exact H
    clear H
    have H := H1
    clear H1
    replace H := Option.bind_eq_some_iff.mp H
    obtain ⟨⟨t153, t154⟩, A250, H⟩ := H
    replace H : ((laws_heldTri.f kj3 t146 t154 101).bind fun t155 => (if t155 < 0 then (some false) else (if t155 = t153 then ((impl_FullTri.f kj3 a0).bind fun bt156 => ((laws_eqTri.f kj3 bt156.1 bt156.2.1 t140 t141).bind fun t162 => (if t162 = true then (laws_FnExactFullTri.j1 kj3 t153 (bt156.2.2 != t144) t146 t154) else (laws_FnExactFullTri.j1 kj3 t153 true t146 t154)))) else (some false)))) = some r := H
    have A25 := Aside0.mk A250
    clear A250
    replace H := Option.bind_eq_some_iff.mp H
    obtain ⟨t155, A260, H⟩ := H
    replace H : (if t155 < 0 then (some false) else (if t155 = t153 then ((impl_FullTri.f kj3 a0).bind fun bt156 => ((laws_eqTri.f kj3 bt156.1 bt156.2.1 t140 t141).bind fun t162 => (if t162 = true then (laws_FnExactFullTri.j1 kj3 t153 (bt156.2.2 != t144) t146 t154) else (laws_FnExactFullTri.j1 kj3 t153 true t146 t154)))) else (some false))) = some r := H
    have A26 := Aside0.mk A260
    clear A260
    by_cases c27 : t155 < 0
    ·rw [if_pos c27] at H
     have c27b0 : decide (t155 < 0) = true := decide_eq_true c27
     clear c27
     obtain rfl := Option.some.inj H
     have hnb28 := NB151_145.out
     have hnc28 := NB145_151.out
     have hcz29_0 : wc.cell? ⟨gb151, 0, none⟩ = some (.int .i64 t146) := (blk_cell BK151.out 0).trans rfl
     have hcz29_1 : wc.cell? ⟨gb151, 1, none⟩ = some (.slice Ao13 t147.length co13) := (blk_cell BK151.out 1).trans rfl
     have hfz29_0 := blk_frozen BK151.out 0
     have hfz29_1 := blk_frozen BK151.out 1
     go_wp2_with (first | ((with_reducible refine gate_callee (f := 27) rfl ?_); refine goesL_ (some 32) rfl rfl Tryd.func27 (by kernel_rfl) rfl #[.agg #[.int .i64 t146, .slice Ao13 t147.length co13], .int .i64 101] rfl zq8_5z ?_; (with_reducible refine (laws_markTri.calls kj3 t146 (fun k_ => some k_ = (.slice Ao13 t147.length co13 : Value).ownBlock) (.slice Ao13 t147.length co13) t147 101 t153 t154 w _ ?side1 ?side2 A25.out).mono ?_); (case side1 => repeat (zq8_3z)); (case side2 => exact Kd.R_tight rfl HO_152001.out); rintro e w30 ⟨rfl, hy0, hb, hkp⟩; refine ⟨_, rfl, ?_⟩; have n0_ := Aside0.mk (Kd.R_mono (ok' := fun k_ => some k_ ≠ (.slice Ao13 t147.length co13 : Value).ownBlock) (Kd.R_keptB (HO_146001.out) hkp (fun k_ hk_ hs_ => (hk_) hs_)) (fun k_ hk_ => hk_.1)); have n1_ := Aside0.mk (Kd.R_reok rfl hy0 (fun k_ e_ => HO_152001.out.1 k_ e_)); have n2_ := Aside0.mk (blk_kept (by (zq8_1z); exact BK145.out) hkp (fun hs_ => (fun e_ => (Kd.R_ne HO_152001.out BK145.out (by decide)) e_) hs_)); have n3_ := Aside0.mk (blk_kept (by (zq8_1z); exact BK151.out) hkp (fun hs_ => (fun e_ => (Kd.R_ne HO_152001.out BK151.out (by decide)) e_) hs_)); have n4_ := Aside0.mk (hb); clear HO_146001; clear HO_152001; clear BK145; clear BK151; clear HB; have HO_146001 := n0_; have HO_152001 := n1_; have BK145 := n2_; have BK151 := n3_; have HB := n4_; clear n0_ n1_ n2_ n3_ n4_; (try clear hb); (try clear hkp); (try clear hy0); have hcz31_0 : w30.cell? ⟨gb151, 0, none⟩ = some (.int .i64 t146) := (blk_cell BK151.out 0).trans rfl; have hcz31_1 : w30.cell? ⟨gb151, 1, none⟩ = some (.slice Ao13 t147.length co13) := (blk_cell BK151.out 1).trans rfl; have hfz31_0 := blk_frozen BK151.out 0; have hfz31_1 := blk_frozen BK151.out 1) | ((with_reducible refine gate_callee (f := 28) rfl ?_); refine goesL_ (some 35) rfl rfl Tryd.func28 (by kernel_rfl) rfl #[.agg #[.int .i64 t146, .slice Ao13 t154.length co13], .int .i64 101] rfl zq8_15z ?_; (with_reducible refine (laws_heldTri.calls kj3 t146 _ _ t154 101 t155 _ ?side1 ?side2 A26.out).mono ?_); (case side1 => repeat (zq8_7z)); (case side2 => rw [show t154.length = t147.length from (Kd.R_reads' HO_152001.out).1.symm]; exact (Kd.R_reads' HO_152001.out).2.1); rintro e w32 ⟨rfl, hb⟩; refine ⟨_, rfl, ?_⟩; have n0_ := Aside0.mk (Kd.R_below (by (zq8_2z); exact HO_146001.out) hb); have n1_ := Aside0.mk (Kd.R_below (by (zq8_2z); exact HO_152001.out) hb); have n2_ := Aside0.mk zq8_6z; have n3_ := Aside0.mk zq8_14z; have n4_ := Aside0.mk (below_step (by repeat (zq8_3z)) hb); clear HO_146001; clear HO_152001; clear BK145; clear BK151; clear HB; have HO_146001 := n0_; have HO_152001 := n1_; have BK145 := n2_; have BK151 := n3_; have HB := n4_; clear n0_ n1_ n2_ n3_ n4_; (try clear hb); (try clear hb2); (try clear hk); (try clear hi)))
     go_ret
     exact ⟨by first | rfl | (simp [errW_none, errW_some] <;> rfl) | (simp [*, errW_none, errW_some] <;> rfl), by repeat (zq8_3z)⟩
    ·rw [if_neg c27] at H
     have c27b0 : decide (t155 < 0) = false := decide_eq_false c27
     clear c27
     by_cases c33 : t155 = t153
     ·rw [if_pos c33] at H
      have c33b0 : (t155 == t153) = true := beq_iff_eq.mpr c33
      have c33b1 : (t155 != t153) = false := bne_eq_false_iff_eq.mpr c33
      clear c33
      replace H := Option.bind_eq_some_iff.mp H
      obtain ⟨⟨t156, t157, t160⟩, A340, H⟩ := H
      replace H : ((laws_eqTri.f kj3 t156 t157 t140 t141).bind fun t162 => (if t162 = true then (laws_FnExactFullTri.j1 kj3 t153 (t160 != t144) t146 t154) else (laws_FnExactFullTri.j1 kj3 t153 true t146 t154))) = some r := H
      have A34 := Aside0.mk A340
      clear A340
      have HC35 := Aside0.mk H
      clear H
      have hnb36 := NB151_145.out
      have hnc36 := NB145_151.out
      have hcz37_0 : wc.cell? ⟨gb151, 0, none⟩ = some (.int .i64 t146) := (blk_cell BK151.out 0).trans rfl
      have hcz37_1 : wc.cell? ⟨gb151, 1, none⟩ = some (.slice Ao13 t147.length co13) := (blk_cell BK151.out 1).trans rfl
      have hfz37_0 := blk_frozen BK151.out 0
      have hfz37_1 := blk_frozen BK151.out 1
      go_upto_region 14 with (first | ((with_reducible refine gate_callee (f := 27) rfl ?_); refine goesL_ (some 32) rfl rfl Tryd.func27 (by kernel_rfl) rfl #[.agg #[.int .i64 t146, .slice Ao13 t147.length co13], .int .i64 101] rfl zq8_5z ?_; (with_reducible refine (laws_markTri.calls kj3 t146 (fun k_ => some k_ = (.slice Ao13 t147.length co13 : Value).ownBlock) (.slice Ao13 t147.length co13) t147 101 t153 t154 w _ ?side1 ?side2 A25.out).mono ?_); (case side1 => repeat (zq8_3z)); (case side2 => exact Kd.R_tight rfl HO_152001.out); rintro e w38 ⟨rfl, hy0, hb, hkp⟩; refine ⟨_, rfl, ?_⟩; have n0_ := Aside0.mk (Kd.R_mono (ok' := fun k_ => some k_ ≠ (.slice Ao13 t147.length co13 : Value).ownBlock) (Kd.R_keptB (HO_146001.out) hkp (fun k_ hk_ hs_ => (hk_) hs_)) (fun k_ hk_ => hk_.1)); have n1_ := Aside0.mk (Kd.R_reok rfl hy0 (fun k_ e_ => HO_152001.out.1 k_ e_)); have n2_ := Aside0.mk (blk_kept (by (zq8_1z); exact BK145.out) hkp (fun hs_ => (fun e_ => (Kd.R_ne HO_152001.out BK145.out (by decide)) e_) hs_)); have n3_ := Aside0.mk (blk_kept (by (zq8_1z); exact BK151.out) hkp (fun hs_ => (fun e_ => (Kd.R_ne HO_152001.out BK151.out (by decide)) e_) hs_)); have n4_ := Aside0.mk (hb); clear HO_146001; clear HO_152001; clear BK145; clear BK151; clear HB; have HO_146001 := n0_; have HO_152001 := n1_; have BK145 := n2_; have BK151 := n3_; have HB := n4_; clear n0_ n1_ n2_ n3_ n4_; (try clear hb); (try clear hkp); (try clear hy0); have hcz39_0 : w38.cell? ⟨gb151, 0, none⟩ = some (.int .i64 t146) := (blk_cell BK151.out 0).trans rfl; have hcz39_1 : w38.cell? ⟨gb151, 1, none⟩ = some (.slice Ao13 t147.length co13) := (blk_cell BK151.out 1).trans rfl; have hfz39_0 := blk_frozen BK151.out 0; have hfz39_1 := blk_frozen BK151.out 1) | ((with_reducible refine gate_callee (f := 28) rfl ?_); refine goesL_ (some 35) rfl rfl Tryd.func28 (by kernel_rfl) rfl #[.agg #[.int .i64 t146, .slice Ao13 t154.length co13], .int .i64 101] rfl zq8_15z ?_; (with_reducible refine (laws_heldTri.calls kj3 t146 _ _ t154 101 t155 _ ?side1 ?side2 A26.out).mono ?_); (case side1 => repeat (zq8_7z)); (case side2 => rw [show t154.length = t147.length from (Kd.R_reads' HO_152001.out).1.symm]; exact (Kd.R_reads' HO_152001.out).2.1); rintro e w40 ⟨rfl, hb⟩; refine ⟨_, rfl, ?_⟩; have n0_ := Aside0.mk (Kd.R_below (by (zq8_2z); exact HO_146001.out) hb); have n1_ := Aside0.mk (Kd.R_below (by (zq8_2z); exact HO_152001.out) hb); have n2_ := Aside0.mk zq8_6z; have n3_ := Aside0.mk zq8_14z; have n4_ := Aside0.mk (below_step (by repeat (zq8_3z)) hb); clear HO_146001; clear HO_152001; clear BK145; clear BK151; clear HB; have HO_146001 := n0_; have HO_152001 := n1_; have BK145 := n2_; have BK151 := n3_; have HB := n4_; clear n0_ n1_ n2_ n3_ n4_; (try clear hb); (try clear hb2); (try clear hk); (try clear hi)) | ((with_reducible refine gate_callee (f := 25) rfl ?_); refine goesL_ (some 43) rfl rfl Tryd.func25 (by kernel_rfl) rfl #[.int .i64 a0] rfl zq8_5z ?_; (with_reducible refine (impl_FullTri.calls kj3 a0 t156 t157 t160 _ ?side1 A34.out).mono ?_); (case side1 => first | exact LaidG_below HG.out (by repeat (zq8_3z)) | (repeat (first | exact HG.out | (with_reducible refine LaidG_alloc ?_ _) | (with_reducible refine LaidG_drewN ?_ _) | (with_reducible refine LaidG_drew ?_)))); rintro e w41 ⟨v158, rfl, ho0, hb⟩; refine ⟨_, rfl, ?_⟩; have n0_ := Aside0.mk (Kd.R_elder' (by (zq8_2z); exact HO_146001.out) (Kd.R_base ho0) hb); have n1_ := Aside0.mk (Kd.R_elder' (by (zq8_2z); exact HO_152001.out) (Kd.R_base ho0) hb); have n2_ := Aside0.mk (Kd.R_lower (Kd.R_new' (Kd.R_new' ho0 (Kd.R_lt (by (zq8_2z); exact HO_146001.out))) (Kd.R_lt (by (zq8_2z); exact HO_152001.out))) (below_size (by repeat (zq8_3z)))); have n3_ := Aside0.mk zq8_6z; have n4_ := Aside0.mk zq8_14z; have n5_ := Aside0.mk (below_step (by repeat (zq8_3z)) hb); clear HO_146001; clear HO_152001; clear BK145; clear BK151; clear HB; have HO_146001 := n0_; have HO_152001 := n1_; have HO159 := n2_; have BK145 := n3_; have BK151 := n4_; have HB := n5_; clear n0_ n1_ n2_ n3_ n4_ n5_; (try clear hb); (try clear hb2); (try clear hk); (try clear hi); (try clear ho0)) | ((with_reducible refine gate_dst (N := 9) rfl ?_); refine box_event ?hg (N := 9) ?hd (cs := #[.int .i64 0, .slice none 0 0]) (t := 37) ?hr ?_; (case hd => rfl); (case hg => rfl); (case hr => first | (go_simp; done) | (go_simp; rfl)); intro gb161 hg w42 hbox hb; have n0_ := Aside0.mk (Kd.R_below (by (zq8_2z); exact HO_146001.out) hb); have n1_ := Aside0.mk (Kd.R_below (by (zq8_2z); exact HO_152001.out) hb); have n2_ := Aside0.mk (Kd.R_below (by (zq8_2z); exact HO159.out) hb); have n3_ := Aside0.mk zq8_6z; have n4_ := Aside0.mk zq8_14z; have n5_ := Aside0.mk (below_step (by repeat (zq8_3z)) hb); have n6_ := Aside0.mk (hbox); have n7_ := Aside0.mk ((by rw [hg]; exact (below_size (by repeat (zq8_3z))) : w.heap.size ≤ gb161)); have n8_ := Aside0.mk ((by rw [hg]; exact (below_size (by repeat (zq8_3z))) : w.heap.size ≤ gb161)); have n9_ := Aside0.mk ((by rw [hg]; exact Nat.ne_of_lt (blk_lt (g := gb145) (o := .cells #[.int .i64 t140, .slice Ao8 t141.length co8] 37 (0, 0)) (by (zq8_1z); exact BK145.out)) : gb145 ≠ gb161)); have n10_ := Aside0.mk ((by rw [hg]; exact Nat.ne_of_gt (blk_lt (g := gb145) (o := .cells #[.int .i64 t140, .slice Ao8 t141.length co8] 37 (0, 0)) (by (zq8_1z); exact BK145.out)) : gb161 ≠ gb145)); have n11_ := Aside0.mk ((by rw [hg]; exact Nat.ne_of_lt (blk_lt (g := gb151) (o := .cells #[.int .i64 t146, .slice Ao13 t147.length co13] 37 (0, 0)) (by (zq8_1z); exact BK151.out)) : gb151 ≠ gb161)); have n12_ := Aside0.mk ((by rw [hg]; exact Nat.ne_of_gt (blk_lt (g := gb151) (o := .cells #[.int .i64 t146, .slice Ao13 t147.length co13] 37 (0, 0)) (by (zq8_1z); exact BK151.out)) : gb161 ≠ gb151)); clear HO_146001; clear HO_152001; clear HO159; clear BK145; clear BK151; clear HB; have HO_146001 := n0_; have HO_152001 := n1_; have HO159 := n2_; have BK145 := n3_; have BK151 := n4_; have HB := n5_; have BK161 := n6_; have GW161 := n7_; have GE161 := n8_; have NB145_161 := n9_; have NB161_145 := n10_; have NB151_161 := n11_; have NB161_151 := n12_; clear n0_ n1_ n2_ n3_ n4_ n5_ n6_ n7_ n8_ n9_ n10_ n11_ n12_; clear hb hbox hg; have hnb43 := NB161_145.out; have hnc43 := NB145_161.out; have hnb44 := NB161_151.out; have hnc44 := NB151_161.out; have hcz45_0 : w42.cell? ⟨gb161, 0, none⟩ = some (.int .i64 0) := (blk_cell BK161.out 0).trans rfl; have hcz45_1 : w42.cell? ⟨gb161, 1, none⟩ = some (.slice none 0 0) := (blk_cell BK161.out 1).trans rfl; have hfz45_0 := blk_frozen BK161.out 0; have hfz45_1 := blk_frozen BK161.out 1; obtain ⟨Ao46, co46, eo46⟩ := Kd.R_slice HO159.out; subst eo46))
      (try simp only [Act.put, List.setIfInBounds_toArray, List.set_cons_zero, List.set_cons_succ])
      go_cut [54] (fun v54 wc => ∃ (kq : Nat) (x54_34 : Bool), v54 = .bool x54_34 ∧ Aside0 (laws_FnExactFullTri.j1 kq t153 x54_34 t146 t154 = some r) ∧ Aside0 (kq ≤ kj3) ∧ Aside0 (Kd.R (Kd.int .i64) 3 wc w.heap.size (fun k_ => some k_ ≠ ((.slice Ao13 t147.length co13) : Value).ownBlock ∧ some k_ ≠ ((.slice Ao46 t157.length co46) : Value).ownBlock) (.slice Ao8 t141.length co8) t141) ∧ Aside0 (Kd.R (Kd.int .i64) 3 wc w.heap.size (fun k_ => some k_ ≠ ((.slice Ao8 t141.length co8) : Value).ownBlock ∧ some k_ ≠ ((.slice Ao46 t157.length co46) : Value).ownBlock) (.slice Ao13 t147.length co13) t154) ∧ Aside0 (Kd.R (Kd.int .i64) 3 wc w.heap.size (fun k_ => some k_ ≠ ((.slice Ao8 t141.length co8) : Value).ownBlock ∧ some k_ ≠ ((.slice Ao13 t147.length co13) : Value).ownBlock) (.slice Ao46 t157.length co46) t157) ∧ Aside0 (wc.heap[gb145]? = some (.cells #[.int .i64 t140, (.slice Ao8 t141.length co8)] 37 (0, 0))) ∧ Aside0 (wc.heap[gb151]? = some (.cells #[.int .i64 t146, (.slice Ao13 t147.length co13)] 37 (0, 0))) ∧ Aside0 (wc.heap[gb161]? = some (.cells #[.int .i64 t156, (.slice Ao46 t157.length co46)] 37 (0, 0))) ∧ Aside0 (Below w.heap.size w wc))
      case first =>
       have H := HC35.out
       clear HC35
       replace H := Option.bind_eq_some_iff.mp H
       obtain ⟨t162, A470, H⟩ := H
       replace H : (if t162 = true then (laws_FnExactFullTri.j1 kj3 t153 (t160 != t144) t146 t154) else (laws_FnExactFullTri.j1 kj3 t153 true t146 t154)) = some r := H
       have A47 := Aside0.mk A470
       clear A470
       by_cases c48 : t162 = true
       ·subst c48
        have H1 : (laws_FnExactFullTri.j1 kj3 t153 (t160 != t144) t146 t154) = some r := by rw [if_pos rfl] at H; exact H
        clear H
        have H := H1
        clear H1
        have H' := Aside0.mk H
        clear H
        have hnb49 := NB161_145.out
        have hnc49 := NB145_161.out
        have hnb50 := NB161_151.out
        have hnc50 := NB151_161.out
        have hcz51_0 : w42.cell? ⟨gb161, 0, none⟩ = some (.int .i64 0) := (blk_cell BK161.out 0).trans rfl
        have hcz51_1 : w42.cell? ⟨gb161, 1, none⟩ = some (.slice none 0 0) := (blk_cell BK161.out 1).trans rfl
        have hfz51_0 := blk_frozen BK161.out 0
        have hfz51_1 := blk_frozen BK161.out 1
        have hnb52 := NB145_151.out
        have hnc52 := NB151_145.out
        have hcz53_0 : w42.cell? ⟨gb145, 0, none⟩ = some (.int .i64 t140) := (blk_cell BK145.out 0).trans rfl
        have hcz53_1 : w42.cell? ⟨gb145, 1, none⟩ = some (.slice Ao8 t141.length co8) := (blk_cell BK145.out 1).trans rfl
        have hfz53_0 := blk_frozen BK145.out 0
        have hfz53_1 := blk_frozen BK145.out 1
        go_wp2_with (first | ((with_reducible refine gate_callee (f := 26) rfl ?_); refine goesL_ (some 48) rfl rfl Tryd.func26 (by kernel_rfl) rfl #[.agg #[.int .i64 t156, .slice Ao46 t157.length co46], .agg #[.int .i64 t140, .slice Ao8 t141.length co8]] rfl zq8_5z ?_; (with_reducible refine (laws_eqTri.calls kj3 t156 _ _ t157 t140 _ _ t141 true _ ?side1 ?side2 ?side3 ?side4 A47.out).mono ?_); (case side1 => refine (Kd.R_reads' (e := 3) (base := w.heap.size) (ok := fun k_ => ((True ∧ some k_ ≠ (.slice Ao8 t141.length co8 : Value).ownBlock) ∧ some k_ ≠ (.slice Ao13 t147.length co13 : Value).ownBlock)) (n := t157.length) (c := co46) ?_).2.2; exact zq8_12z); (case side2 => exact (Kd.R_reads' HO159.out).2.1); (case side3 => refine (Kd.R_reads' (e := 3) (base := w.heap.size) (ok := fun k_ => (some k_ ≠ (.slice Ao13 t147.length co13 : Value).ownBlock ∧ some k_ ≠ (.slice Ao46 t157.length co46 : Value).ownBlock)) (n := t141.length) (c := co8) ?_).2.2; exact zq8_9z); (case side4 => exact (Kd.R_reads' HO_146001.out).2.1); rintro e w54 ⟨rfl, hb⟩; refine ⟨_, rfl, ?_⟩; have n0_ := Aside0.mk (Kd.R_below zq8_9z hb); have n1_ := Aside0.mk (Kd.R_below (by (zq8_2z); exact (Kd.R_mono (Kd.R_far (p := ⟨gb161, 1, none⟩) (Kd.R_far (p := ⟨gb161, 0, none⟩) (Kd.R_types HO_152001.out BK161.out (by decide)) (fun _ hk => hk.2) (.int .i64 t156)) (fun _ hk => hk.2) (.slice Ao46 t157.length co46)) (fun _ h_ => h_.1))) hb); have n2_ := Aside0.mk (Kd.R_below zq8_12z hb); have n3_ := Aside0.mk (blk_below (g := gb145) (o := .cells #[.int .i64 t140, .slice Ao8 t141.length co8] 37 (0, 0)) (by (zq8_1z); refine blk_far ?_ NB145_161.out _; (zq8_1z); refine blk_far ?_ NB145_161.out _; (zq8_1z); exact BK145.out) hb); have n4_ := Aside0.mk (blk_below (g := gb151) (o := .cells #[.int .i64 t146, .slice Ao13 t147.length co13] 37 (0, 0)) (by (zq8_1z); refine blk_far ?_ NB151_161.out _; (zq8_1z); refine blk_far ?_ NB151_161.out _; (zq8_1z); exact BK151.out) hb); have n5_ := Aside0.mk (blk_below (g := gb161) (o := .cells #[.int .i64 t156, .slice Ao46 t157.length co46] 37 (0, 0)) (by (zq8_1z); refine blk_put (cs := #[.int .i64 t156, .slice none 0 0]) ?_ 1 _ rfl; (zq8_1z); refine blk_put (cs := #[.int .i64 0, .slice none 0 0]) ?_ 0 _ rfl; (zq8_1z); exact BK161.out) hb); have n6_ := Aside0.mk (below_step (by repeat (zq8_4z)) hb); clear HO_146001; clear HO_152001; clear HO159; clear BK145; clear BK151; clear BK161; clear HB; have HO_146001 := n0_; have HO_152001 := n1_; have HO159 := n2_; have BK145 := n3_; have BK151 := n4_; have BK161 := n5_; have HB := n6_; clear n0_ n1_ n2_ n3_ n4_ n5_ n6_; (try clear hb); (try clear hb2); (try clear hk); (try clear hi)))
        go_meet
        case rel => exact ⟨_, ((t160 != t144)), (by first | rfl | (simp; done) | (simp [*]; done)), H', ⟨by have := HJ3.out; first | omega | exact Nat.le_refl _⟩, ⟨by (zq8_2z); exact HO_146001.out⟩, ⟨by (zq8_2z); exact HO_152001.out⟩, ⟨by (zq8_2z); exact Kd.R_mono HO159.out (fun _ hk => ⟨hk.1.2, hk.2⟩)⟩, ⟨by (zq8_1z); exact BK145.out⟩, ⟨by (zq8_1z); exact BK151.out⟩, ⟨by (zq8_1z); exact BK161.out⟩, ⟨by repeat (zq8_4z)⟩⟩
       ·replace c48 := Bool.eq_false_iff.mpr c48
        subst c48
        have H1 : (laws_FnExactFullTri.j1 kj3 t153 true t146 t154) = some r := by rw [if_neg (show ¬ (false = true) by decide)] at H; exact H
        clear H
        have H := H1
        clear H1
        have H' := Aside0.mk H
        clear H
        have hnb55 := NB161_145.out
        have hnc55 := NB145_161.out
        have hnb56 := NB161_151.out
        have hnc56 := NB151_161.out
        have hcz57_0 : w42.cell? ⟨gb161, 0, none⟩ = some (.int .i64 0) := (blk_cell BK161.out 0).trans rfl
        have hcz57_1 : w42.cell? ⟨gb161, 1, none⟩ = some (.slice none 0 0) := (blk_cell BK161.out 1).trans rfl
        have hfz57_0 := blk_frozen BK161.out 0
        have hfz57_1 := blk_frozen BK161.out 1
        have hnb58 := NB145_151.out
        have hnc58 := NB151_145.out
        have hcz59_0 : w42.cell? ⟨gb145, 0, none⟩ = some (.int .i64 t140) := (blk_cell BK145.out 0).trans rfl
        have hcz59_1 : w42.cell? ⟨gb145, 1, none⟩ = some (.slice Ao8 t141.length co8) := (blk_cell BK145.out 1).trans rfl
        have hfz59_0 := blk_frozen BK145.out 0
        have hfz59_1 := blk_frozen BK145.out 1
        go_wp2_with (first | ((with_reducible refine gate_callee (f := 26) rfl ?_); refine goesL_ (some 48) rfl rfl Tryd.func26 (by kernel_rfl) rfl #[.agg #[.int .i64 t156, .slice Ao46 t157.length co46], .agg #[.int .i64 t140, .slice Ao8 t141.length co8]] rfl zq8_5z ?_; (with_reducible refine (laws_eqTri.calls kj3 t156 _ _ t157 t140 _ _ t141 false _ ?side1 ?side2 ?side3 ?side4 A47.out).mono ?_); (case side1 => refine (Kd.R_reads' (e := 3) (base := w.heap.size) (ok := fun k_ => ((True ∧ some k_ ≠ (.slice Ao8 t141.length co8 : Value).ownBlock) ∧ some k_ ≠ (.slice Ao13 t147.length co13 : Value).ownBlock)) (n := t157.length) (c := co46) ?_).2.2; exact zq8_12z); (case side2 => exact (Kd.R_reads' HO159.out).2.1); (case side3 => refine (Kd.R_reads' (e := 3) (base := w.heap.size) (ok := fun k_ => (some k_ ≠ (.slice Ao13 t147.length co13 : Value).ownBlock ∧ some k_ ≠ (.slice Ao46 t157.length co46 : Value).ownBlock)) (n := t141.length) (c := co8) ?_).2.2; exact zq8_9z); (case side4 => exact (Kd.R_reads' HO_146001.out).2.1); rintro e w60 ⟨rfl, hb⟩; refine ⟨_, rfl, ?_⟩; have n0_ := Aside0.mk (Kd.R_below zq8_9z hb); have n1_ := Aside0.mk (Kd.R_below (by (zq8_2z); exact (Kd.R_mono (Kd.R_far (p := ⟨gb161, 1, none⟩) (Kd.R_far (p := ⟨gb161, 0, none⟩) (Kd.R_types HO_152001.out BK161.out (by decide)) (fun _ hk => hk.2) (.int .i64 t156)) (fun _ hk => hk.2) (.slice Ao46 t157.length co46)) (fun _ h_ => h_.1))) hb); have n2_ := Aside0.mk (Kd.R_below zq8_12z hb); have n3_ := Aside0.mk (blk_below (g := gb145) (o := .cells #[.int .i64 t140, .slice Ao8 t141.length co8] 37 (0, 0)) (by (zq8_1z); refine blk_far ?_ NB145_161.out _; (zq8_1z); refine blk_far ?_ NB145_161.out _; (zq8_1z); exact BK145.out) hb); have n4_ := Aside0.mk (blk_below (g := gb151) (o := .cells #[.int .i64 t146, .slice Ao13 t147.length co13] 37 (0, 0)) (by (zq8_1z); refine blk_far ?_ NB151_161.out _; (zq8_1z); refine blk_far ?_ NB151_161.out _; (zq8_1z); exact BK151.out) hb); have n5_ := Aside0.mk (blk_below (g := gb161) (o := .cells #[.int .i64 t156, .slice Ao46 t157.length co46] 37 (0, 0)) (by (zq8_1z); refine blk_put (cs := #[.int .i64 t156, .slice none 0 0]) ?_ 1 _ rfl; (zq8_1z); refine blk_put (cs := #[.int .i64 0, .slice none 0 0]) ?_ 0 _ rfl; (zq8_1z); exact BK161.out) hb); have n6_ := Aside0.mk (below_step (by repeat (zq8_4z)) hb); clear HO_146001; clear HO_152001; clear HO159; clear BK145; clear BK151; clear BK161; clear HB; have HO_146001 := n0_; have HO_152001 := n1_; have HO159 := n2_; have BK145 := n3_; have BK151 := n4_; have BK161 := n5_; have HB := n6_; clear n0_ n1_ n2_ n3_ n4_ n5_ n6_; (try clear hb); (try clear hb2); (try clear hk); (try clear hi)))
        go_meet
        case rel => exact ⟨_, (true), (by first | rfl | (simp; done) | (simp [*]; done)), H', ⟨by have := HJ3.out; first | omega | exact Nat.le_refl _⟩, ⟨by (zq8_2z); exact HO_146001.out⟩, ⟨by (zq8_2z); exact HO_152001.out⟩, ⟨by (zq8_2z); exact Kd.R_mono HO159.out (fun _ hk => ⟨hk.1.2, hk.2⟩)⟩, ⟨by (zq8_1z); exact BK145.out⟩, ⟨by (zq8_1z); exact BK151.out⟩, ⟨by (zq8_1z); exact BK161.out⟩, ⟨by repeat (zq8_4z)⟩⟩
      case rest =>
       clear HC35
       try clear c1
       try clear c2
       try clear p2
       try clear c3
       try clear c4
       try clear c5
       try clear c8
       try clear c11
       try clear c15
       try clear c16
       try clear c20
       try clear c24
       try clear c25
       try clear c26
       try clear c27
       try clear c27b0
       try clear c28
       try clear c33
       try clear c33b0
       try clear c33b1
       try clear c36
       try clear c43
       try clear c44
       try clear c48
       try clear c49
       try clear c50
       try clear c52
       try clear c55
       try clear c56
       try clear c58
       try clear hcz12_0
       try clear hcz12_1
       try clear hcz17_0
       try clear hcz17_1
       try clear hcz18_0
       try clear hcz18_1
       try clear hcz21_0
       try clear hcz21_1
       try clear hcz22_0
       try clear hcz22_1
       try clear hcz29_0
       try clear hcz29_1
       try clear hcz31_0
       try clear hcz31_1
       try clear hcz37_0
       try clear hcz37_1
       try clear hcz39_0
       try clear hcz39_1
       try clear hcz45_0
       try clear hcz45_1
       try clear hcz51_0
       try clear hcz51_1
       try clear hcz53_0
       try clear hcz53_1
       try clear hcz57_0
       try clear hcz57_1
       try clear hcz59_0
       try clear hcz59_1
       try clear hcz7_0
       try clear hcz7_1
       try clear hfz12_0
       try clear hfz12_1
       try clear hfz17_0
       try clear hfz17_1
       try clear hfz18_0
       try clear hfz18_1
       try clear hfz21_0
       try clear hfz21_1
       try clear hfz22_0
       try clear hfz22_1
       try clear hfz29_0
       try clear hfz29_1
       try clear hfz31_0
       try clear hfz31_1
       try clear hfz37_0
       try clear hfz37_1
       try clear hfz39_0
       try clear hfz39_1
       try clear hfz45_0
       try clear hfz45_1
       try clear hfz51_0
       try clear hfz51_1
       try clear hfz53_0
       try clear hfz53_1
       try clear hfz57_0
       try clear hfz57_1
       try clear hfz59_0
       try clear hfz59_1
       try clear hfz7_0
       try clear hfz7_1
       try clear p2
       obtain ⟨kq, x54_34, rfl, HA, HJ34, HO_146001, HO_152001, HO_162001, BK145, BK151, BK161, HB⟩ := hcut
       have hl152001_34 := (Kd.R_reads' HO_152001.out).1
       rw [hl152001_34] at HO_152001
       (try simp only [hl152001_34])
       (try simp only [hl152001_34] at BK145)
       (try simp only [hl152001_34] at BK151)
       (try simp only [hl152001_34] at BK161)
       (try simp only [hl152001_34] at HO_146001)
       (try simp only [hl152001_34] at HO_162001)
       cases kq with
       | zero => exact absurd HA.out (by simp [laws_FnExactFullTri.j1])
       | succ kj34 =>
        have H := HA.out
        clear HA
        simp only [laws_FnExactFullTri.j1] at H
        by_cases c61 : x54_34 = true
        ·subst c61
         have H1 : (some false) = some r := by rw [if_pos rfl] at H; exact H
         clear H
         have H := H1
         clear H1
         obtain rfl := Option.some.inj H
         go_wp2
         go_ret
         exact ⟨by first | rfl | (simp [errW_none, errW_some] <;> rfl) | (simp [*, errW_none, errW_some] <;> rfl), by repeat (zq8_4z)⟩
        ·replace c61 := Bool.eq_false_iff.mpr c61
         subst c61
         have H1 : ((laws_heldTri.f kj34 t146 t154 101).bind fun t163 => (if t163 < 0 then (some false) else (if t163 = t153 then (some true) else (some false)))) = some r := by rw [if_neg (show ¬ (false = true) by decide)] at H; exact H
         clear H
         have H := H1
         clear H1
         replace H := Option.bind_eq_some_iff.mp H
         obtain ⟨t163, A620, H⟩ := H
         replace H : (if t163 < 0 then (some false) else (if t163 = t153 then (some true) else (some false))) = some r := H
         have A62 := Aside0.mk A620
         clear A620
         by_cases c63 : t163 < 0
         ·rw [if_pos c63] at H
          have c63b0 : decide (t163 < 0) = true := decide_eq_true c63
          clear c63
          obtain rfl := Option.some.inj H
          have hnb64 := NB151_145.out
          have hnc64 := NB145_151.out
          have hnb65 := NB151_161.out
          have hnc65 := NB161_151.out
          have hcz66_0 : wc.cell? ⟨gb151, 0, none⟩ = some (.int .i64 t146) := (blk_cell BK151.out 0).trans rfl
          have hcz66_1 : wc.cell? ⟨gb151, 1, none⟩ = some (.slice Ao13 t154.length co13) := (blk_cell BK151.out 1).trans rfl
          have hfz66_0 := blk_frozen BK151.out 0
          have hfz66_1 := blk_frozen BK151.out 1
          go_wp2_with (first | ((with_reducible refine gate_callee (f := 28) rfl ?_); refine goesL_ (some 57) rfl rfl Tryd.func28 (by kernel_rfl) rfl #[.agg #[.int .i64 t146, .slice Ao13 t154.length co13], .int .i64 101] rfl zq8_5z ?_; (with_reducible refine (laws_heldTri.calls kj34 t146 _ _ t154 101 t163 _ ?side1 ?side2 A62.out).mono ?_); (case side1 => repeat (zq8_7z)); (case side2 => exact (Kd.R_reads' HO_152001.out).2.1); rintro e w67 ⟨rfl, hb⟩; refine ⟨_, rfl, ?_⟩; have n0_ := Aside0.mk (Kd.R_below (by (zq8_2z); exact HO_146001.out) hb); have n1_ := Aside0.mk (Kd.R_below (by (zq8_2z); exact HO_152001.out) hb); have n2_ := Aside0.mk (Kd.R_below (by (zq8_2z); exact HO_162001.out) hb); have n3_ := Aside0.mk zq8_6z; have n4_ := Aside0.mk (blk_below (g := gb151) (o := .cells #[.int .i64 t146, .slice Ao13 t154.length co13] 37 (0, 0)) (by (zq8_1z); exact BK151.out) hb); have n5_ := Aside0.mk (blk_below (g := gb161) (o := .cells #[.int .i64 t156, .slice Ao46 t157.length co46] 37 (0, 0)) (by (zq8_1z); exact BK161.out) hb); have n6_ := Aside0.mk (below_step (by repeat (zq8_4z)) hb); clear HO_146001; clear HO_152001; clear HO_162001; clear BK145; clear BK151; clear BK161; clear HB; have HO_146001 := n0_; have HO_152001 := n1_; have HO_162001 := n2_; have BK145 := n3_; have BK151 := n4_; have BK161 := n5_; have HB := n6_; clear n0_ n1_ n2_ n3_ n4_ n5_ n6_; (try clear hb); (try clear hb2); (try clear hk); (try clear hi)))
          go_ret
          exact ⟨by first | rfl | (simp [errW_none, errW_some] <;> rfl) | (simp [*, errW_none, errW_some] <;> rfl), by repeat (zq8_4z)⟩
         ·rw [if_neg c63] at H
          have c63b0 : decide (t163 < 0) = false := decide_eq_false c63
          clear c63
          by_cases c68 : t163 = t153
          ·rw [if_pos c68] at H
           have c68b0 : (t163 == t153) = true := beq_iff_eq.mpr c68
           have c68b1 : (t163 != t153) = false := bne_eq_false_iff_eq.mpr c68
           clear c68
           obtain rfl := Option.some.inj H
           have hnb69 := NB151_145.out
           have hnc69 := NB145_151.out
           have hnb70 := NB151_161.out
           have hnc70 := NB161_151.out
           have hcz71_0 : wc.cell? ⟨gb151, 0, none⟩ = some (.int .i64 t146) := (blk_cell BK151.out 0).trans rfl
           have hcz71_1 : wc.cell? ⟨gb151, 1, none⟩ = some (.slice Ao13 t154.length co13) := (blk_cell BK151.out 1).trans rfl
           have hfz71_0 := blk_frozen BK151.out 0
           have hfz71_1 := blk_frozen BK151.out 1
           go_wp2_with (first | ((with_reducible refine gate_callee (f := 28) rfl ?_); refine goesL_ (some 57) rfl rfl Tryd.func28 (by kernel_rfl) rfl #[.agg #[.int .i64 t146, .slice Ao13 t154.length co13], .int .i64 101] rfl zq8_5z ?_; (with_reducible refine (laws_heldTri.calls kj34 t146 _ _ t154 101 t163 _ ?side1 ?side2 A62.out).mono ?_); (case side1 => repeat (zq8_7z)); (case side2 => exact (Kd.R_reads' HO_152001.out).2.1); rintro e w72 ⟨rfl, hb⟩; refine ⟨_, rfl, ?_⟩; have n0_ := Aside0.mk (Kd.R_below (by (zq8_2z); exact HO_146001.out) hb); have n1_ := Aside0.mk (Kd.R_below (by (zq8_2z); exact HO_152001.out) hb); have n2_ := Aside0.mk (Kd.R_below (by (zq8_2z); exact HO_162001.out) hb); have n3_ := Aside0.mk zq8_6z; have n4_ := Aside0.mk (blk_below (g := gb151) (o := .cells #[.int .i64 t146, .slice Ao13 t154.length co13] 37 (0, 0)) (by (zq8_1z); exact BK151.out) hb); have n5_ := Aside0.mk (blk_below (g := gb161) (o := .cells #[.int .i64 t156, .slice Ao46 t157.length co46] 37 (0, 0)) (by (zq8_1z); exact BK161.out) hb); have n6_ := Aside0.mk (below_step (by repeat (zq8_4z)) hb); clear HO_146001; clear HO_152001; clear HO_162001; clear BK145; clear BK151; clear BK161; clear HB; have HO_146001 := n0_; have HO_152001 := n1_; have HO_162001 := n2_; have BK145 := n3_; have BK151 := n4_; have BK161 := n5_; have HB := n6_; clear n0_ n1_ n2_ n3_ n4_ n5_ n6_; (try clear hb); (try clear hb2); (try clear hk); (try clear hi)))
           go_ret
           exact ⟨by first | rfl | (simp [errW_none, errW_some] <;> rfl) | (simp [*, errW_none, errW_some] <;> rfl), by repeat (zq8_4z)⟩
          ·rw [if_neg c68] at H
           have c68b0 : (t163 == t153) = false := beq_eq_false_iff_ne.mpr c68
           have c68b1 : (t163 != t153) = true := bne_iff_ne.mpr c68
           obtain rfl := Option.some.inj H
           have hnb73 := NB151_145.out
           have hnc73 := NB145_151.out
           have hnb74 := NB151_161.out
           have hnc74 := NB161_151.out
           have hcz75_0 : wc.cell? ⟨gb151, 0, none⟩ = some (.int .i64 t146) := (blk_cell BK151.out 0).trans rfl
           have hcz75_1 : wc.cell? ⟨gb151, 1, none⟩ = some (.slice Ao13 t154.length co13) := (blk_cell BK151.out 1).trans rfl
           have hfz75_0 := blk_frozen BK151.out 0
           have hfz75_1 := blk_frozen BK151.out 1
           go_wp2_with (first | ((with_reducible refine gate_callee (f := 28) rfl ?_); refine goesL_ (some 57) rfl rfl Tryd.func28 (by kernel_rfl) rfl #[.agg #[.int .i64 t146, .slice Ao13 t154.length co13], .int .i64 101] rfl zq8_5z ?_; (with_reducible refine (laws_heldTri.calls kj34 t146 _ _ t154 101 t163 _ ?side1 ?side2 A62.out).mono ?_); (case side1 => repeat (zq8_7z)); (case side2 => exact (Kd.R_reads' HO_152001.out).2.1); rintro e w76 ⟨rfl, hb⟩; refine ⟨_, rfl, ?_⟩; have n0_ := Aside0.mk (Kd.R_below (by (zq8_2z); exact HO_146001.out) hb); have n1_ := Aside0.mk (Kd.R_below (by (zq8_2z); exact HO_152001.out) hb); have n2_ := Aside0.mk (Kd.R_below (by (zq8_2z); exact HO_162001.out) hb); have n3_ := Aside0.mk zq8_6z; have n4_ := Aside0.mk (blk_below (g := gb151) (o := .cells #[.int .i64 t146, .slice Ao13 t154.length co13] 37 (0, 0)) (by (zq8_1z); exact BK151.out) hb); have n5_ := Aside0.mk (blk_below (g := gb161) (o := .cells #[.int .i64 t156, .slice Ao46 t157.length co46] 37 (0, 0)) (by (zq8_1z); exact BK161.out) hb); have n6_ := Aside0.mk (below_step (by repeat (zq8_4z)) hb); clear HO_146001; clear HO_152001; clear HO_162001; clear BK145; clear BK151; clear BK161; clear HB; have HO_146001 := n0_; have HO_152001 := n1_; have HO_162001 := n2_; have BK145 := n3_; have BK151 := n4_; have BK161 := n5_; have HB := n6_; clear n0_ n1_ n2_ n3_ n4_ n5_ n6_; (try clear hb); (try clear hb2); (try clear hk); (try clear hi)))
           go_ret
           exact ⟨by first | rfl | (simp [errW_none, errW_some] <;> rfl) | (simp [*, errW_none, errW_some] <;> rfl), by repeat (zq8_4z)⟩
     ·rw [if_neg c33] at H
      have c33b0 : (t155 == t153) = false := beq_eq_false_iff_ne.mpr c33
      have c33b1 : (t155 != t153) = true := bne_iff_ne.mpr c33
      obtain rfl := Option.some.inj H
      have hnb77 := NB151_145.out
      have hnc77 := NB145_151.out
      have hcz78_0 : wc.cell? ⟨gb151, 0, none⟩ = some (.int .i64 t146) := (blk_cell BK151.out 0).trans rfl
      have hcz78_1 : wc.cell? ⟨gb151, 1, none⟩ = some (.slice Ao13 t147.length co13) := (blk_cell BK151.out 1).trans rfl
      have hfz78_0 := blk_frozen BK151.out 0
      have hfz78_1 := blk_frozen BK151.out 1
      go_wp2_with (first | ((with_reducible refine gate_callee (f := 27) rfl ?_); refine goesL_ (some 32) rfl rfl Tryd.func27 (by kernel_rfl) rfl #[.agg #[.int .i64 t146, .slice Ao13 t147.length co13], .int .i64 101] rfl zq8_5z ?_; (with_reducible refine (laws_markTri.calls kj3 t146 (fun k_ => some k_ = (.slice Ao13 t147.length co13 : Value).ownBlock) (.slice Ao13 t147.length co13) t147 101 t153 t154 w _ ?side1 ?side2 A25.out).mono ?_); (case side1 => repeat (zq8_3z)); (case side2 => exact Kd.R_tight rfl HO_152001.out); rintro e w79 ⟨rfl, hy0, hb, hkp⟩; refine ⟨_, rfl, ?_⟩; have n0_ := Aside0.mk (Kd.R_mono (ok' := fun k_ => some k_ ≠ (.slice Ao13 t147.length co13 : Value).ownBlock) (Kd.R_keptB (HO_146001.out) hkp (fun k_ hk_ hs_ => (hk_) hs_)) (fun k_ hk_ => hk_.1)); have n1_ := Aside0.mk (Kd.R_reok rfl hy0 (fun k_ e_ => HO_152001.out.1 k_ e_)); have n2_ := Aside0.mk (blk_kept (by (zq8_1z); exact BK145.out) hkp (fun hs_ => (fun e_ => (Kd.R_ne HO_152001.out BK145.out (by decide)) e_) hs_)); have n3_ := Aside0.mk (blk_kept (by (zq8_1z); exact BK151.out) hkp (fun hs_ => (fun e_ => (Kd.R_ne HO_152001.out BK151.out (by decide)) e_) hs_)); have n4_ := Aside0.mk (hb); clear HO_146001; clear HO_152001; clear BK145; clear BK151; clear HB; have HO_146001 := n0_; have HO_152001 := n1_; have BK145 := n2_; have BK151 := n3_; have HB := n4_; clear n0_ n1_ n2_ n3_ n4_; (try clear hb); (try clear hkp); (try clear hy0); have hcz80_0 : w79.cell? ⟨gb151, 0, none⟩ = some (.int .i64 t146) := (blk_cell BK151.out 0).trans rfl; have hcz80_1 : w79.cell? ⟨gb151, 1, none⟩ = some (.slice Ao13 t147.length co13) := (blk_cell BK151.out 1).trans rfl; have hfz80_0 := blk_frozen BK151.out 0; have hfz80_1 := blk_frozen BK151.out 1) | ((with_reducible refine gate_callee (f := 28) rfl ?_); refine goesL_ (some 35) rfl rfl Tryd.func28 (by kernel_rfl) rfl #[.agg #[.int .i64 t146, .slice Ao13 t154.length co13], .int .i64 101] rfl zq8_15z ?_; (with_reducible refine (laws_heldTri.calls kj3 t146 _ _ t154 101 t155 _ ?side1 ?side2 A26.out).mono ?_); (case side1 => repeat (zq8_7z)); (case side2 => rw [show t154.length = t147.length from (Kd.R_reads' HO_152001.out).1.symm]; exact (Kd.R_reads' HO_152001.out).2.1); rintro e w81 ⟨rfl, hb⟩; refine ⟨_, rfl, ?_⟩; have n0_ := Aside0.mk (Kd.R_below (by (zq8_2z); exact HO_146001.out) hb); have n1_ := Aside0.mk (Kd.R_below (by (zq8_2z); exact HO_152001.out) hb); have n2_ := Aside0.mk zq8_6z; have n3_ := Aside0.mk zq8_14z; have n4_ := Aside0.mk (below_step (by repeat (zq8_3z)) hb); clear HO_146001; clear HO_152001; clear BK145; clear BK151; clear HB; have HO_146001 := n0_; have HO_152001 := n1_; have BK145 := n2_; have BK151 := n3_; have HB := n4_; clear n0_ n1_ n2_ n3_ n4_; (try clear hb); (try clear hb2); (try clear hk); (try clear hi)))
      go_ret
      exact ⟨by first | rfl | (simp [errW_none, errW_some] <;> rfl) | (simp [*, errW_none, errW_some] <;> rfl), by repeat (zq8_3z)⟩

/-- THE ONE PURE STATEMENT of laws_FnExactFullTri. -/
def laws_FnExactFullTri.Pure : Prop := ∀ (a0 : Int), (Lit.int .i64 a0).wf = true → ∃ k, laws_FnExactFullTri.f k a0 = some true

end Go.Proofs.YtgpkhlklbcfibaaDoor.Q
