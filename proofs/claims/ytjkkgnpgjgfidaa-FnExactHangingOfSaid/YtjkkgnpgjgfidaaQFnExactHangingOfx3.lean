-- written by a program of this session, pm.py, for this claim
-- half the indentation
import Derived.Test.YtjkkgnpgjgfidaaQFnExactHangingOfx0
import Derived.Test.YtjkkgnpgjgfidaaQFnExactHangingOfx2
namespace Go.Proofs.Ytjkkgnpgjgfidaa.Q
open Go.RowKit Go.Proofs.YtjkkgnpgjgfidaaW.PrintWords Go.Proofs.YtjkkgnpgjgfidaaW.PrintLast Go.Proofs.YtjkkgnpgjgfidaaW.PrintMore
attribute [local go_sem] max2_int min2_int max_two min_two max_three min_three max_four min_four   -- for this text's walks alone
set_option linter.unusedVariables false
set_option linter.unusedSimpArgs false

/-! ### spec_trMask: function 63 -/
def spec_trMask.l0 : Nat → Int → List Int → Int → Int → Option (Int)
 | 0, _, _, _, _ => none
 | k + 1, x3, x7, x8, x9 => if x9 < x8 then (if 0 ≤ x9 then (if x9 < (x7.length : Int) then (if 0 ≤ (rd x7 x9) then (spec_trMask.l0 k (Go.bits .or .i64 x3 (shl .i64 1 (rd x7 x9))) x7 x8 (wrap64 (x9 + 1))) else (none)) else (none)) else (none)) else (some x3)
def spec_trMask.f (k : Nat) (a0_0 : Int) (l0_1 : List Int) : Option (Int) := spec_trMask.l0 k 0 l0_1 (l0_1.length : Int) 0
theorem spec_trMask.mono_l : ∀ k, (∀ y0 y1 y2 y3, LeO (spec_trMask.l0 k y0 y1 y2 y3) (spec_trMask.l0 (k + 1) y0 y1 y2 y3))
 | 0 => fun _ _ _ _ r h => by simp [spec_trMask.l0] at h
 | k + 1 => by
  have ih0 := spec_trMask.mono_l k
  ·intro y0 y1 y2 y3
   unfold spec_trMask.l0
   repeat' first
   | (with_reducible exact ih0 _ _ _ _)
   | (with_reducible exact LeO.refl _)
   | (with_reducible exact LeO.none _)
   | (with_reducible refine LeO.ite ?_ ?_)
   | (with_reducible refine LeO.bind ?_ (fun _ => ?_))
   | exact ih0 _ _ _ _
   | exact LeO.none _
   | refine LeO.ite ?_ ?_
   | refine LeO.bind ?_ (fun _ => ?_)
theorem spec_trMask.mono : ∀ a0 a1 k, LeO (spec_trMask.f k a0 a1) (spec_trMask.f (k + 1) a0 a1) := by
 intro a0 a1 k
 have ih0 := spec_trMask.mono_l k
 unfold spec_trMask.f
 repeat' first
   | (with_reducible exact ih0 _ _ _ _)
   | (with_reducible exact LeO.refl _)
   | (with_reducible exact LeO.none _)
   | (with_reducible refine LeO.ite ?_ ?_)
   | (with_reducible refine LeO.bind ?_ (fun _ => ?_))
   | exact ih0 _ _ _ _
   | exact LeO.none _
   | refine LeO.ite ?_ ?_
   | refine LeO.bind ?_ (fun _ => ?_)
set_option maxHeartbeats 8000000 in
set_option maxRecDepth 100000 in
theorem spec_trMask.calls (k : Nat) (a0_0 : Int) (A0_1 : Option Addr) (c0_1 : Nat) (l0_1 : List Int) (r : Int) (w : World) (hr0_1 : Kd.C (Kd.int .i64) w A0_1 l0_1.length l0_1) (hc0_1 : l0_1.length ≤ c0_1) (h : spec_trMask.f k a0_0 l0_1 = some r) :
  Calls Try.prog 63 #[.agg #[.int .i64 a0_0, .slice A0_1 l0_1.length c0_1]] w fun e w' => e = .returned (.int .i64 r) ∧ Below w.heap.size w w' := by
 have hu28 := Try.underlying28
 have HR0_1 := Aside0.mk hr0_1
 have HC0_1 := Aside0.mk hc0_1
 clear hr0_1 hc0_1
 have HB := Aside0.mk (Below.refl w.heap.size w)
 have H : (spec_trMask.l0 k 0 l0_1 (l0_1.length : Int) 0) = some r := h
 clear h
 have H' := Aside0.mk H
 clear H
 go_enter Try.func63, Try.ntmps63
 go_wp2_with (first | ((with_reducible refine gate_dst (N := 1) rfl ?_); refine box_event ?hg (N := 1) ?hd (cs := #[.int .i64 a0_0, .slice A0_1 l0_1.length c0_1]) (t := 28) ?hr ?_; (case hd => rfl); (case hg => rfl); (case hr => first | (go_simp; done) | (go_simp; rfl)); intro gb141 hg w2 hbox hb; have n0_ := Aside0.mk (below_step (by repeat (first | (with_reducible first | exact HB.out | apply below_alloc | apply pw_below_drewN | apply below_drew1) | exact HB.out)) hb); have n1_ := Aside0.mk (hbox); have n2_ := Aside0.mk ((by rw [hg]; exact (below_size (by repeat (first | (with_reducible first | exact HB.out | apply below_alloc | apply pw_below_drewN | apply below_drew1) | exact HB.out))) : w.heap.size ≤ gb141)); have n3_ := Aside0.mk ((by rw [hg]; exact (below_size (by repeat (first | (with_reducible first | exact HB.out | apply below_alloc | apply pw_below_drewN | apply below_drew1) | exact HB.out))) : w.heap.size ≤ gb141)); clear HB; have HB := n0_; have BK141 := n1_; have GW141 := n2_; have GE141 := n3_; clear n0_ n1_ n2_ n3_; clear hb hbox hg; have hcz3_0 : w2.cell? ⟨gb141, 0, none⟩ = some (.int .i64 a0_0) := (blk_cell BK141.out 0).trans rfl; have hcz3_1 : w2.cell? ⟨gb141, 1, none⟩ = some (.slice A0_1 l0_1.length c0_1) := (blk_cell BK141.out 1).trans rfl; have hfz3_0 := blk_frozen BK141.out 0; have hfz3_1 := blk_frozen BK141.out 1))
 go_loopg [3, 9] k (fun kq v3 v9 w' => ∃ (x3_1 : Int) (x9_1 : Int), v3 = .int .i64 x3_1 ∧ v9 = .int .i64 x9_1 ∧ Aside0 (spec_trMask.l0 kq x3_1 l0_1 (l0_1.length : Int) x9_1 = some r) ∧ Aside0 (kq ≤ k) ∧ Aside0 (w'.heap[gb141]? = some (.cells #[.int .i64 a0_0, (.slice A0_1 l0_1.length c0_1)] 28 (0, 0))) ∧ Aside0 (Below w.heap.size w w'))
 case atStart => exact ⟨(0), (0), (by first | rfl | (simp; done) | (simp [*]; done)), (by first | rfl | (simp; done) | (simp [*]; done)), H', ⟨Nat.le_refl _⟩, ⟨by (with_reducible repeat (first | refine blk_drewN ?_ _ | refine blk_drew ?_ | refine blk_alloc ?_ _)); exact BK141.out⟩, ⟨by repeat (first | (with_reducible first | exact HB.out | apply below_alloc | apply pw_below_drewN | apply below_drew1 | refine below_set ?_ GE141.out) | exact HB.out)⟩⟩
 case round =>
  clear H'
  try clear p2
  try clear hcz3_0
  try clear hcz3_1
  try clear hfz3_0
  try clear hfz3_1
  obtain ⟨x3_1, x9_1, rfl, rfl, HA, HK1, BK141, HB⟩ := hrel
  cases gk with
  | zero => exact absurd HA.out (by simp [spec_trMask.l0])
  | succ k1 =>
   have H := HA.out
   clear HA
   simp only [spec_trMask.l0] at H
   by_cases c4 : x9_1 < (l0_1.length : Int)
   ·rw [if_pos c4] at H
    have c4b0 : decide (x9_1 < (l0_1.length : Int)) = true := decide_eq_true c4
    clear c4
    by_cases c5 : 0 ≤ x9_1
    ·rw [if_pos c5] at H
     have c5b0 : decide (0 ≤ x9_1) = true := decide_eq_true c5
     clear c5
     by_cases c6 : x9_1 < (l0_1.length : Int)
     ·rw [if_pos c6] at H
      have c6b0 : decide (x9_1 < (l0_1.length : Int)) = true := decide_eq_true c6
      clear c6
      by_cases c7 : 0 ≤ (rd l0_1 x9_1)
      ·rw [if_pos c7] at H
       have c7b0 := eq_true c7
       have c7b1 : decide (0 ≤ (rd l0_1 x9_1)) = true := decide_eq_true c7
       clear c7
       obtain ⟨ji8, hji8⟩ : ∃ j_ : Int, (shl .i64 1 (rd l0_1 x9_1)) = j_ := ⟨_, rfl⟩
       replace H : (spec_trMask.l0 k1 (Go.bits .or .i64 x3_1 (ji8)) l0_1 (l0_1.length : Int) (wrap64 (x9_1 + 1))) = some r := by first | (rw [hji8] at H; exact H) | (simp only [hji8] at H ⊢; exact H)
       have hji8_ : (IntKind.i64.wrap (1 * 2 ^ min (rd l0_1 x9_1).toNat 64)) = ji8 := hji8
       have hji8z : (rd l0_1 x9_1) ≤ 64 → (IntKind.i64.wrap (1 * 2 ^ (rd l0_1 x9_1).toNat)) = ji8 := shl_small hji8
       have hji8u : (IntKind.i64.wrap (2 ^ min (rd l0_1 x9_1).toNat 64)) = ji8 := by have h_ := hji8_; rw [Int.one_mul] at h_; exact h_
       have hji8v : (rd l0_1 x9_1) ≤ 64 → (IntKind.i64.wrap (2 ^ (rd l0_1 x9_1).toNat)) = ji8 := fun hle_ => by have h_ := hji8z hle_; rw [Int.one_mul] at h_; exact h_
       have hji8y : (wrap64 (1 * 2 ^ min (rd l0_1 x9_1).toNat 64)) = ji8 := (i64_w _).symm.trans hji8_
       have hji8x : (rd l0_1 x9_1) ≤ 64 → (wrap64 (1 * 2 ^ (rd l0_1 x9_1).toNat)) = ji8 := fun h_ => (i64_w _).symm.trans (hji8z h_)
       have H' := Aside0.mk H
       clear H
       have p142 : 0 ≤ (x9_1 : Int) := of_decide_eq_true (by first | (with_reducible assumption) | assumption)
       have q142 : x9_1 < (l0_1.length : Int) := of_decide_eq_true (by first | (with_reducible assumption) | assumption)
       obtain ⟨ad142, e142, hx142_0⟩ := Kd.at_int HR0_1.out x9_1 p142 q142
       cases e142
       replace hx142_0 := (HB.out.cell (World.block_lt_of_cell? w _ hx142_0)).trans hx142_0
       replace p142 := eq_true p142
       replace q142 := eq_true q142
       go_wp2
       go_roundg k1
       case measure => have := HK1.out; omega
       case rel => exact ⟨(Go.bits .or .i64 x3_1 (ji8)), (wrap64 (x9_1 + 1)), (by first | rfl | (simp; done) | (simp only [← hji8] <;> (first | rfl | simp)) | (simp [*]; done)), (by first | rfl | (simp; done) | (simp [*]; done)), H', ⟨by have := HK1.out; omega⟩, ⟨by (with_reducible repeat (first | refine blk_drewN ?_ _ | refine blk_drew ?_ | refine blk_alloc ?_ _)); exact BK141.out⟩, ⟨by repeat (first | (with_reducible first | exact HB.out | apply below_alloc | apply pw_below_drewN | apply below_drew1 | refine below_set ?_ GE141.out) | exact HB.out)⟩⟩
      ·rw [if_neg c7] at H
       exact absurd H (by simp)
     ·rw [if_neg c6] at H
      exact absurd H (by simp)
    ·rw [if_neg c5] at H
     exact absurd H (by simp)
   ·rw [if_neg c4] at H
    have c4b0 : decide (x9_1 < (l0_1.length : Int)) = false := decide_eq_false c4
    clear c4
    obtain rfl := Option.some.inj H
    go_wp2
    go_ret
    exact ⟨by first | rfl | (simp [errW_none, errW_some] <;> rfl) | (simp [*, errW_none, errW_some] <;> rfl), by repeat (first | (with_reducible first | exact HB.out | apply below_alloc | apply pw_below_drewN | apply below_drew1 | refine below_set ?_ GE141.out) | exact HB.out)⟩

/-! ### spec_trEdge: function 65 -/
def spec_trEdge.f (a0 : Int) (a1 : Int) (a2 : Int) : Option (Int) := (spec_trCells.f a0).bind fun t143 => (some (wrap64 ((wrap64 (3 * (wrap64 (t143 + a1)))) + a2)))
set_option maxHeartbeats 8000000 in
set_option maxRecDepth 100000 in
theorem spec_trEdge.calls (a0 : Int) (a1 : Int) (a2 : Int) (r : Int) (w : World) (h : spec_trEdge.f a0 a1 a2 = some r) :
  Calls Try.prog 65 #[.int .i64 a0, .int .i64 a1, .int .i64 a2] w fun e w' => e = .returned (.int .i64 r) ∧ Drawn0 w w' := by
 have H : ((spec_trCells.f a0).bind fun t143 => (some (wrap64 ((wrap64 (3 * (wrap64 (t143 + a1)))) + a2)))) = some r := h
 clear h
 replace H := Option.bind_eq_some_iff.mp H
 obtain ⟨t143, A40, H⟩ := H
 replace H : (some (wrap64 ((wrap64 (3 * (wrap64 (t143 + a1)))) + a2))) = some r := H
 have A4 := Aside0.mk A40
 clear A40
 obtain rfl := Option.some.inj H
 go_enter Try.func65, Try.ntmps65
 go_wp2_with (first | ((with_reducible refine gate_callee (f := 61) rfl ?_); refine goesL_ (some 8) rfl rfl Try.func61 (by kernel_rfl) rfl #[.int .i64 a0] rfl (by (try simp only [List.map_toArray, List.map_cons, List.map_nil]); first | done | rfl | (simp only [List.length_drop, List.length_take]; rfl)) ?_; (with_reducible refine (spec_trCells.calls a0 t143 _ A4.out).mono ?_); rintro e w' ⟨rfl, ⟨nd, rfl⟩⟩; refine ⟨_, rfl, ?_⟩))
 go_ret
 exact ⟨by first | rfl | (simp; done) | (simp [*]; done), by repeat (first | exact Drawn0.refl _ | apply Drawn0.step)⟩

/-! ### spec_trAll: function 74 -/
mutual
def spec_trAll.l0 : Nat → Int → Bool → List (S98) → Int → Option ((List (S98)))
 | 0, _, _, _, _ => none
 | k + 1, x0, x1, x5, x6 => if x6 ≤ x0 then (spec_trAll.l1 k x0 x1 x5 x6 0) else (some x5)
def spec_trAll.l1 : Nat → Int → Bool → List (S98) → Int → Int → Option ((List (S98)))
 | 0, _, _, _, _, _ => none
 | k + 1, x0, x1, x5, x6, x7 => if x7 < x0 then (spec_trAll.l2 k x0 x1 x5 x6 x7 0) else (spec_trAll.l0 k x0 x1 x5 (wrap64 (x6 + 1)))
def spec_trAll.l2 : Nat → Int → Bool → List (S98) → Int → Int → Int → Option ((List (S98)))
 | 0, _, _, _, _, _, _ => none
 | k + 1, x0, x1, x5, x6, x7, x8 => if x8 ≤ x7 then (if x1 = true then (if (wrap64 (x7 + x6)) ≥ x0 then (spec_trAll.j3 k x0 x1 x5 x6 x7 x8 0 true) else (spec_trAll.j3 k x0 x1 x5 x6 x7 x8 0 (decide ((wrap64 ((wrap64 (x8 + x6)) - 1)) > x7)))) else (if (wrap64 (x7 + x6)) > x0 then (spec_trAll.l2 k x0 x1 x5 x6 x7 (wrap64 (x8 + 1))) else (spec_trAll.l3 k x0 x1 x5 x6 x7 x8 0 0))) else (spec_trAll.l1 k x0 x1 x5 x6 (wrap64 (x7 + 1)))
def spec_trAll.j3 : Nat → Int → Bool → List (S98) → Int → Int → Int → Int → Bool → Option ((List (S98)))
 | 0, _, _, _, _, _, _, _, _ => none
 | k + 1, x0, x1, x5, x6, x7, x8, x9, x78 => if x78 = true then (spec_trAll.l2 k x0 x1 x5 x6 x7 (wrap64 (x8 + 1))) else (spec_trAll.l4 k x0 x1 x5 x6 x7 x8 x9 0)
def spec_trAll.l4 : Nat → Int → Bool → List (S98) → Int → Int → Int → Int → Int → Option ((List (S98)))
 | 0, _, _, _, _, _, _, _, _ => none
 | k + 1, x0, x1, x5, x6, x7, x8, x9, x11 => if x11 < x6 then ((spec_trEdge.f x7 (wrap64 (x8 + x11)) 2).bind fun t144 => (if 0 ≤ t144 then ((spec_trEdge.f (wrap64 ((wrap64 (x7 + 1)) + x11)) (wrap64 (x8 + x11)) 1).bind fun t145 => (if 0 ≤ t145 then ((spec_trEdge.f (wrap64 ((wrap64 (x7 + 1)) + x11)) (wrap64 (x8 + x6)) 0).bind fun t146 => (if 0 ≤ t146 then (spec_trAll.l4 k x0 x1 x5 x6 x7 x8 (Go.bits .or .i64 x9 (Go.bits .or .i64 (Go.bits .or .i64 (shl .i64 1 t144) (shl .i64 1 t145)) (shl .i64 1 t146))) (wrap64 (x11 + 1))) else (none))) else (none))) else (none))) else (if x5.length < 3518437208883 then (spec_trAll.l2 k x0 x1 (x5 ++ [(⟨x1, x7, x8, x6, x9⟩ : S98)]) x6 x7 (wrap64 (x8 + 1))) else (none))
def spec_trAll.l3 : Nat → Int → Bool → List (S98) → Int → Int → Int → Int → Int → Option ((List (S98)))
 | 0, _, _, _, _, _, _, _, _ => none
 | k + 1, x0, x1, x5, x6, x7, x8, x9, x10 => if x10 < x6 then ((spec_trEdge.f (wrap64 (x7 + x10)) x8 0).bind fun t150 => (if 0 ≤ t150 then ((spec_trEdge.f (wrap64 (x7 + x10)) (wrap64 (x8 + x10)) 1).bind fun t151 => (if 0 ≤ t151 then ((spec_trEdge.f (wrap64 ((wrap64 (x7 + x6)) - 1)) (wrap64 (x8 + x10)) 2).bind fun t152 => (if 0 ≤ t152 then (spec_trAll.l3 k x0 x1 x5 x6 x7 x8 (Go.bits .or .i64 x9 (Go.bits .or .i64 (Go.bits .or .i64 (shl .i64 1 t150) (shl .i64 1 t151)) (shl .i64 1 t152))) (wrap64 (x10 + 1))) else (none))) else (none))) else (none))) else (if x5.length < 3518437208883 then (spec_trAll.l2 k x0 x1 (x5 ++ [(⟨x1, x7, x8, x6, x9⟩ : S98)]) x6 x7 (wrap64 (x8 + 1))) else (none))
end
def spec_trAll.f (k : Nat) (a0 : Int) (a1 : Bool) : Option ((List (S98))) := spec_trAll.l0 k a0 a1 ([] : List (S98)) 1
theorem spec_trAll.mono_l : ∀ k, (∀ y0 y1 y2 y3, LeO (spec_trAll.l0 k y0 y1 y2 y3) (spec_trAll.l0 (k + 1) y0 y1 y2 y3)) ∧ (∀ y0 y1 y2 y3 y4, LeO (spec_trAll.l1 k y0 y1 y2 y3 y4) (spec_trAll.l1 (k + 1) y0 y1 y2 y3 y4)) ∧ (∀ y0 y1 y2 y3 y4 y5, LeO (spec_trAll.l2 k y0 y1 y2 y3 y4 y5) (spec_trAll.l2 (k + 1) y0 y1 y2 y3 y4 y5)) ∧ (∀ y0 y1 y2 y3 y4 y5 y6 y7, LeO (spec_trAll.j3 k y0 y1 y2 y3 y4 y5 y6 y7) (spec_trAll.j3 (k + 1) y0 y1 y2 y3 y4 y5 y6 y7)) ∧ (∀ y0 y1 y2 y3 y4 y5 y6 y7, LeO (spec_trAll.l4 k y0 y1 y2 y3 y4 y5 y6 y7) (spec_trAll.l4 (k + 1) y0 y1 y2 y3 y4 y5 y6 y7)) ∧ (∀ y0 y1 y2 y3 y4 y5 y6 y7, LeO (spec_trAll.l3 k y0 y1 y2 y3 y4 y5 y6 y7) (spec_trAll.l3 (k + 1) y0 y1 y2 y3 y4 y5 y6 y7))
 | 0 => ⟨fun _ _ _ _ r h => by simp [spec_trAll.l0] at h, fun _ _ _ _ _ r h => by simp [spec_trAll.l1] at h, fun _ _ _ _ _ _ r h => by simp [spec_trAll.l2] at h, fun _ _ _ _ _ _ _ _ r h => by simp [spec_trAll.j3] at h, fun _ _ _ _ _ _ _ _ r h => by simp [spec_trAll.l4] at h, fun _ _ _ _ _ _ _ _ r h => by simp [spec_trAll.l3] at h⟩
 | k + 1 => by
  obtain ⟨ih0, ih1, ih2, ih3, ih4, ih5⟩ := spec_trAll.mono_l k
  refine ⟨?_, ?_, ?_, ?_, ?_, ?_⟩
  ·intro y0 y1 y2 y3
   unfold spec_trAll.l0
   repeat' first
   | (with_reducible exact ih0 _ _ _ _)
   | (with_reducible exact ih1 _ _ _ _ _)
   | (with_reducible exact ih2 _ _ _ _ _ _)
   | (with_reducible exact ih3 _ _ _ _ _ _ _ _)
   | (with_reducible exact ih4 _ _ _ _ _ _ _ _)
   | (with_reducible exact ih5 _ _ _ _ _ _ _ _)
   | (with_reducible exact LeO.refl _)
   | (with_reducible exact LeO.none _)
   | (with_reducible refine LeO.ite ?_ ?_)
   | (with_reducible refine LeO.bind ?_ (fun _ => ?_))
   | exact ih0 _ _ _ _
   | exact ih1 _ _ _ _ _
   | exact ih2 _ _ _ _ _ _
   | exact ih3 _ _ _ _ _ _ _ _
   | exact ih4 _ _ _ _ _ _ _ _
   | exact ih5 _ _ _ _ _ _ _ _
   | exact LeO.none _
   | refine LeO.ite ?_ ?_
   | refine LeO.bind ?_ (fun _ => ?_)
  ·intro y0 y1 y2 y3 y4
   unfold spec_trAll.l1
   repeat' first
   | (with_reducible exact ih0 _ _ _ _)
   | (with_reducible exact ih1 _ _ _ _ _)
   | (with_reducible exact ih2 _ _ _ _ _ _)
   | (with_reducible exact ih3 _ _ _ _ _ _ _ _)
   | (with_reducible exact ih4 _ _ _ _ _ _ _ _)
   | (with_reducible exact ih5 _ _ _ _ _ _ _ _)
   | (with_reducible exact LeO.refl _)
   | (with_reducible exact LeO.none _)
   | (with_reducible refine LeO.ite ?_ ?_)
   | (with_reducible refine LeO.bind ?_ (fun _ => ?_))
   | exact ih0 _ _ _ _
   | exact ih1 _ _ _ _ _
   | exact ih2 _ _ _ _ _ _
   | exact ih3 _ _ _ _ _ _ _ _
   | exact ih4 _ _ _ _ _ _ _ _
   | exact ih5 _ _ _ _ _ _ _ _
   | exact LeO.none _
   | refine LeO.ite ?_ ?_
   | refine LeO.bind ?_ (fun _ => ?_)
  ·intro y0 y1 y2 y3 y4 y5
   unfold spec_trAll.l2
   repeat' first
   | (with_reducible exact ih0 _ _ _ _)
   | (with_reducible exact ih1 _ _ _ _ _)
   | (with_reducible exact ih2 _ _ _ _ _ _)
   | (with_reducible exact ih3 _ _ _ _ _ _ _ _)
   | (with_reducible exact ih4 _ _ _ _ _ _ _ _)
   | (with_reducible exact ih5 _ _ _ _ _ _ _ _)
   | (with_reducible exact LeO.refl _)
   | (with_reducible exact LeO.none _)
   | (with_reducible refine LeO.ite ?_ ?_)
   | (with_reducible refine LeO.bind ?_ (fun _ => ?_))
   | exact ih0 _ _ _ _
   | exact ih1 _ _ _ _ _
   | exact ih2 _ _ _ _ _ _
   | exact ih3 _ _ _ _ _ _ _ _
   | exact ih4 _ _ _ _ _ _ _ _
   | exact ih5 _ _ _ _ _ _ _ _
   | exact LeO.none _
   | refine LeO.ite ?_ ?_
   | refine LeO.bind ?_ (fun _ => ?_)
  ·intro y0 y1 y2 y3 y4 y5 y6 y7
   unfold spec_trAll.j3
   repeat' first
   | (with_reducible exact ih0 _ _ _ _)
   | (with_reducible exact ih1 _ _ _ _ _)
   | (with_reducible exact ih2 _ _ _ _ _ _)
   | (with_reducible exact ih3 _ _ _ _ _ _ _ _)
   | (with_reducible exact ih4 _ _ _ _ _ _ _ _)
   | (with_reducible exact ih5 _ _ _ _ _ _ _ _)
   | (with_reducible exact LeO.refl _)
   | (with_reducible exact LeO.none _)
   | (with_reducible refine LeO.ite ?_ ?_)
   | (with_reducible refine LeO.bind ?_ (fun _ => ?_))
   | exact ih0 _ _ _ _
   | exact ih1 _ _ _ _ _
   | exact ih2 _ _ _ _ _ _
   | exact ih3 _ _ _ _ _ _ _ _
   | exact ih4 _ _ _ _ _ _ _ _
   | exact ih5 _ _ _ _ _ _ _ _
   | exact LeO.none _
   | refine LeO.ite ?_ ?_
   | refine LeO.bind ?_ (fun _ => ?_)
  ·intro y0 y1 y2 y3 y4 y5 y6 y7
   unfold spec_trAll.l4
   repeat' first
   | (with_reducible exact ih0 _ _ _ _)
   | (with_reducible exact ih1 _ _ _ _ _)
   | (with_reducible exact ih2 _ _ _ _ _ _)
   | (with_reducible exact ih3 _ _ _ _ _ _ _ _)
   | (with_reducible exact ih4 _ _ _ _ _ _ _ _)
   | (with_reducible exact ih5 _ _ _ _ _ _ _ _)
   | (with_reducible exact LeO.refl _)
   | (with_reducible exact LeO.none _)
   | (with_reducible refine LeO.ite ?_ ?_)
   | (with_reducible refine LeO.bind ?_ (fun _ => ?_))
   | exact ih0 _ _ _ _
   | exact ih1 _ _ _ _ _
   | exact ih2 _ _ _ _ _ _
   | exact ih3 _ _ _ _ _ _ _ _
   | exact ih4 _ _ _ _ _ _ _ _
   | exact ih5 _ _ _ _ _ _ _ _
   | exact LeO.none _
   | refine LeO.ite ?_ ?_
   | refine LeO.bind ?_ (fun _ => ?_)
  ·intro y0 y1 y2 y3 y4 y5 y6 y7
   unfold spec_trAll.l3
   repeat' first
   | (with_reducible exact ih0 _ _ _ _)
   | (with_reducible exact ih1 _ _ _ _ _)
   | (with_reducible exact ih2 _ _ _ _ _ _)
   | (with_reducible exact ih3 _ _ _ _ _ _ _ _)
   | (with_reducible exact ih4 _ _ _ _ _ _ _ _)
   | (with_reducible exact ih5 _ _ _ _ _ _ _ _)
   | (with_reducible exact LeO.refl _)
   | (with_reducible exact LeO.none _)
   | (with_reducible refine LeO.ite ?_ ?_)
   | (with_reducible refine LeO.bind ?_ (fun _ => ?_))
   | exact ih0 _ _ _ _
   | exact ih1 _ _ _ _ _
   | exact ih2 _ _ _ _ _ _
   | exact ih3 _ _ _ _ _ _ _ _
   | exact ih4 _ _ _ _ _ _ _ _
   | exact ih5 _ _ _ _ _ _ _ _
   | exact LeO.none _
   | refine LeO.ite ?_ ?_
   | refine LeO.bind ?_ (fun _ => ?_)
theorem spec_trAll.mono : ∀ a0 a1 k, LeO (spec_trAll.f k a0 a1) (spec_trAll.f (k + 1) a0 a1) := by
 intro a0 a1 k
 obtain ⟨ih0, ih1, ih2, ih3, ih4, ih5⟩ := spec_trAll.mono_l k
 unfold spec_trAll.f
 repeat' first
   | (with_reducible exact ih0 _ _ _ _)
   | (with_reducible exact ih1 _ _ _ _ _)
   | (with_reducible exact ih2 _ _ _ _ _ _)
   | (with_reducible exact ih3 _ _ _ _ _ _ _ _)
   | (with_reducible exact ih4 _ _ _ _ _ _ _ _)
   | (with_reducible exact ih5 _ _ _ _ _ _ _ _)
   | (with_reducible exact LeO.refl _)
   | (with_reducible exact LeO.none _)
   | (with_reducible refine LeO.ite ?_ ?_)
   | (with_reducible refine LeO.bind ?_ (fun _ => ?_))
   | exact ih0 _ _ _ _
   | exact ih1 _ _ _ _ _
   | exact ih2 _ _ _ _ _ _
   | exact ih3 _ _ _ _ _ _ _ _
   | exact ih4 _ _ _ _ _ _ _ _
   | exact ih5 _ _ _ _ _ _ _ _
   | exact LeO.none _
   | refine LeO.ite ?_ ?_
   | refine LeO.bind ?_ (fun _ => ?_)
set_option maxHeartbeats 8000000 in
set_option maxRecDepth 100000 in
theorem spec_trAll.calls (k : Nat) (a0 : Int) (a1 : Bool) (r : List (S98)) (w : World) (h : spec_trAll.f k a0 a1 = some r) :
  Calls Try.prog 74 #[.int .i64 a0, .bool a1] w fun e w' => ∃ v0_ : Value, e = .returned (v0_) ∧ Kd.R k98 98 w' w.heap.size (fun _ => True) v0_ r ∧ Below w.heap.size w w' := by
 have hu98 := Try.underlying98
 have HB := Aside0.mk (Below.refl w.heap.size w)
 have H : (spec_trAll.l0 k a0 a1 ([] : List (S98)) 1) = some r := h
 clear h
 have H' := Aside0.mk H
 clear H
 go_enter Try.func74, Try.ntmps74
 go_wp2
 repeat (go_quiet (fail); try go_wp2)
 go_loopg [5, 6] k (fun kq v5 v6 w' => ∃ (x5_1 : List (S98)) (x6_1 : Int), v6 = .int .i64 x6_1 ∧ Aside0 (spec_trAll.l0 kq a0 a1 x5_1 x6_1 = some r) ∧ Aside0 (kq ≤ k) ∧ Aside0 (Kd.R k98 98 w' w.heap.size (fun _ => True) v5 x5_1) ∧ Aside0 (Below w.heap.size w w'))
 case atStart => exact ⟨(([] : List (S98))), (1), (by first | rfl | (simp; done) | (simp [*]; done)), H', ⟨Nat.le_refl _⟩, ⟨by first | exact Kd.R_nil _ _ _ _ _ | exact Kd.N_nil _ _ _ _ _ | exact Kd.V_nil _ _ _ _ _ | exact Kd.Q_nil _ _ _ _ _ | exact Kd.S_nil _ _ _ _ _⟩, ⟨by repeat (first | (with_reducible first | exact HB.out | apply below_alloc | apply pw_below_drewN | apply below_drew1) | exact HB.out)⟩⟩
 case round =>
  clear H'
  try clear p2
  obtain ⟨x5_1, x6_1, rfl, HA, HK1, HO_5, HB⟩ := hrel
  cases gk with
  | zero => exact absurd HA.out (by simp [spec_trAll.l0])
  | succ k1 =>
   have H := HA.out
   clear HA
   simp only [spec_trAll.l0] at H
   by_cases c3 : x6_1 ≤ a0
   ·rw [if_pos c3] at H
    have c3b0 : decide (x6_1 ≤ a0) = true := decide_eq_true c3
    clear c3
    have H' := Aside0.mk H
    clear H
    go_wp2
    repeat (go_quiet (fail); try go_wp2)
    go_loopg [5, 7] k1 (fun kq v5 v7 w' => ∃ (x5_2 : List (S98)) (x7_2 : Int), v7 = .int .i64 x7_2 ∧ Aside0 (spec_trAll.l1 kq a0 a1 x5_2 x6_1 x7_2 = some r) ∧ Aside0 (kq ≤ k1) ∧ Aside0 (Kd.R k98 98 w' w.heap.size (fun _ => True) v5 x5_2) ∧ Aside0 (Below w.heap.size w w'))
    case atStart => exact ⟨(x5_1), (0), (by first | rfl | (simp; done) | (simp [*]; done)), H', ⟨Nat.le_refl _⟩, ⟨by (with_reducible repeat (first | apply Kd.R_alloc | apply Kd.R_drewN | apply Kd.R_drew)); exact HO_5.out⟩, ⟨by repeat (first | (with_reducible first | exact HB.out | apply below_alloc | apply pw_below_drewN | apply below_drew1) | exact HB.out)⟩⟩
    case round =>
     clear H'
     try clear p2
     try clear c3
     try clear c3b0
     try clear p2
     obtain ⟨x5_2, x7_2, rfl, HA, HK2, HO_5, HB⟩ := hrel
     cases gk with
     | zero => exact absurd HA.out (by simp [spec_trAll.l1])
     | succ k2 =>
      have H := HA.out
      clear HA
      simp only [spec_trAll.l1] at H
      by_cases c4 : x7_2 < a0
      ·rw [if_pos c4] at H
       have c4b0 : decide (x7_2 < a0) = true := decide_eq_true c4
       clear c4
       have H' := Aside0.mk H
       clear H
       go_wp2
       repeat (go_quiet (fail); try go_wp2)
       go_loopg [5, 8] k2 (fun kq v5 v8 w' => ∃ (x5_3 : List (S98)) (x8_3 : Int), v8 = .int .i64 x8_3 ∧ Aside0 (spec_trAll.l2 kq a0 a1 x5_3 x6_1 x7_2 x8_3 = some r) ∧ Aside0 (kq ≤ k2) ∧ Aside0 (Kd.R k98 98 w' w.heap.size (fun _ => True) v5 x5_3) ∧ Aside0 (Below w.heap.size w w'))
       case atStart => exact ⟨(x5_2), (0), (by first | rfl | (simp; done) | (simp [*]; done)), H', ⟨Nat.le_refl _⟩, ⟨by (with_reducible repeat (first | apply Kd.R_alloc | apply Kd.R_drewN | apply Kd.R_drew)); exact HO_5.out⟩, ⟨by repeat (first | (with_reducible first | exact HB.out | apply below_alloc | apply pw_below_drewN | apply below_drew1) | exact HB.out)⟩⟩
       case round =>
        clear H'
        try clear p2
        try clear c3
        try clear c3b0
        try clear c4
        try clear c4b0
        try clear p2
        obtain ⟨x5_3, x8_3, rfl, HA, HK3, HO_5, HB⟩ := hrel
        cases gk with
        | zero => exact absurd HA.out (by simp [spec_trAll.l2])
        | succ k3 =>
         have H := HA.out
         clear HA
         simp only [spec_trAll.l2] at H
         by_cases c5 : x8_3 ≤ x7_2
         ·rw [if_pos c5] at H
          have c5b0 : decide (x8_3 ≤ x7_2) = true := decide_eq_true c5
          clear c5
          by_cases c6 : a1 = true
          ·subst c6
           have H1 : (if (wrap64 (x7_2 + x6_1)) ≥ a0 then (spec_trAll.j3 k3 a0 true x5_3 x6_1 x7_2 x8_3 0 true) else (spec_trAll.j3 k3 a0 true x5_3 x6_1 x7_2 x8_3 0 (decide ((wrap64 ((wrap64 (x8_3 + x6_1)) - 1)) > x7_2)))) = some r := by rw [if_pos rfl] at H; exact H
           clear H
           have H := H1
           clear H1
           have HC7 := Aside0.mk H
           clear H
           go_upto_region 18 with (fail)
           repeat (go_quiet (fail); go_upto_region 18 with (fail))
           go_cut [78] (fun v78 wc => ∃ (kq : Nat) (x78_6 : Bool), v78 = .bool x78_6 ∧ Aside0 (spec_trAll.j3 kq a0 true x5_3 x6_1 x7_2 x8_3 0 x78_6 = some r) ∧ Aside0 (kq ≤ k3) ∧ Aside0 (Kd.R k98 98 wc w.heap.size (fun _ => True) u5 x5_3) ∧ Aside0 (Below w.heap.size w wc))
           case first =>
            have H := HC7.out
            clear HC7
            by_cases c8 : (wrap64 (x7_2 + x6_1)) ≥ a0
            ·rw [if_pos c8] at H
             have c8b0 : decide (a0 ≤ (wrap64 (x7_2 + x6_1))) = true := decide_eq_true c8
             clear c8
             (first | rw [c8b0] | (simp only [i64_w, i32_w]; rw [c8b0]) | skip)
             have H' := Aside0.mk H
             clear H
             go_wp2
             repeat (go_quiet (fail); try go_wp2)
             go_meet
             case rel => exact ⟨_, (true), (by first | rfl | (simp; done) | (simp [*]; done)), H', ⟨by have := HK1.out; have := HK2.out; have := HK3.out; first | omega | exact Nat.le_refl _⟩, ⟨by (with_reducible repeat (first | apply Kd.R_alloc | apply Kd.R_drewN | apply Kd.R_drew)); exact HO_5.out⟩, ⟨by repeat (first | (with_reducible first | exact HB.out | apply below_alloc | apply pw_below_drewN | apply below_drew1) | exact HB.out)⟩⟩
            ·rw [if_neg c8] at H
             have c8b0 : decide (a0 ≤ (wrap64 (x7_2 + x6_1))) = false := decide_eq_false c8
             clear c8
             (first | rw [c8b0] | (simp only [i64_w, i32_w]; rw [c8b0]) | skip)
             have H' := Aside0.mk H
             clear H
             go_wp2
             repeat (go_quiet (fail); try go_wp2)
             go_meet
             case rel => exact ⟨_, (decide ((wrap64 ((wrap64 (x8_3 + x6_1)) - 1)) > x7_2)), (by first | rfl | (simp; done) | (simp [*]; done)), H', ⟨by have := HK1.out; have := HK2.out; have := HK3.out; first | omega | exact Nat.le_refl _⟩, ⟨by (with_reducible repeat (first | apply Kd.R_alloc | apply Kd.R_drewN | apply Kd.R_drew)); exact HO_5.out⟩, ⟨by repeat (first | (with_reducible first | exact HB.out | apply below_alloc | apply pw_below_drewN | apply below_drew1) | exact HB.out)⟩⟩
           case rest =>
            clear HC7
            try clear p2
            try clear c3
            try clear c3b0
            try clear c4
            try clear c4b0
            try clear c5
            try clear c5b0
            try clear c6
            try clear p6
            try clear c7
            try clear c8
            try clear c8b0
            try clear p2
            obtain ⟨kq, x78_6, rfl, HA, HJ6, HO_5, HB⟩ := hcut
            cases kq with
            | zero => exact absurd HA.out (by simp [spec_trAll.j3])
            | succ kj6 =>
             have H := HA.out
             clear HA
             simp only [spec_trAll.j3] at H
             by_cases c9 : x78_6 = true
             ·subst c9
              have H1 : (spec_trAll.l2 kj6 a0 true x5_3 x6_1 x7_2 (wrap64 (x8_3 + 1))) = some r := by rw [if_pos rfl] at H; exact H
              clear H
              have H := H1
              clear H1
              have H' := Aside0.mk H
              clear H
              go_wp2
              repeat (go_quiet (fail); try go_wp2)
              go_roundg kj6
              case measure => have := HK1.out; have := HK2.out; have := HK3.out; have := HJ6.out; omega
              case rel => exact ⟨(x5_3), (wrap64 (x8_3 + 1)), (by first | rfl | (simp; done) | (simp [*]; done)), H', ⟨by have := HK1.out; have := HK2.out; have := HK3.out; have := HJ6.out; omega⟩, ⟨by (with_reducible repeat (first | apply Kd.R_alloc | apply Kd.R_drewN | apply Kd.R_drew)); exact HO_5.out⟩, ⟨by repeat (first | (with_reducible first | exact HB.out | apply below_alloc | apply pw_below_drewN | apply below_drew1) | exact HB.out)⟩⟩
             ·replace c9 := Bool.eq_false_iff.mpr c9
              subst c9
              have H1 : (spec_trAll.l4 kj6 a0 true x5_3 x6_1 x7_2 x8_3 0 0) = some r := by rw [if_neg (show ¬ (false = true) by decide)] at H; exact H
              clear H
              have H := H1
              clear H1
              have H' := Aside0.mk H
              clear H
              go_wp2
              repeat (go_quiet (fail); try go_wp2)
              go_loopg [9, 11] kj6 (fun kq v9 v11 w' => ∃ (x9_5 : Int) (x11_5 : Int), v9 = .int .i64 x9_5 ∧ v11 = .int .i64 x11_5 ∧ Aside0 (spec_trAll.l4 kq a0 true x5_3 x6_1 x7_2 x8_3 x9_5 x11_5 = some r) ∧ Aside0 (kq ≤ kj6) ∧ Aside0 (Kd.R k98 98 w' w.heap.size (fun _ => True) u5 x5_3) ∧ Aside0 (Below w.heap.size w w'))
              case atStart => exact ⟨(0), (0), (by first | rfl | (simp; done) | (simp [*]; done)), (by first | rfl | (simp; done) | (simp [*]; done)), H', ⟨Nat.le_refl _⟩, ⟨by (with_reducible repeat (first | apply Kd.R_alloc | apply Kd.R_drewN | apply Kd.R_drew)); exact HO_5.out⟩, ⟨by repeat (first | (with_reducible first | exact HB.out | apply below_alloc | apply pw_below_drewN | apply below_drew1) | exact HB.out)⟩⟩
              case round =>
               clear H'
               try clear p2
               try clear c3
               try clear c3b0
               try clear c4
               try clear c4b0
               try clear c5
               try clear c5b0
               try clear c6
               try clear p6
               try clear c7
               try clear c8
               try clear c8b0
               try clear c9
               try clear p2
               try clear p6
               obtain ⟨x9_5, x11_5, rfl, rfl, HA, HK5, HO_5, HB⟩ := hrel
               cases gk with
               | zero => exact absurd HA.out (by simp [spec_trAll.l4])
               | succ k5 =>
                have H := HA.out
                clear HA
                simp only [spec_trAll.l4] at H
                by_cases c10 : x11_5 < x6_1
                ·rw [if_pos c10] at H
                 have c10b0 : decide (x11_5 < x6_1) = true := decide_eq_true c10
                 clear c10
                 replace H := Option.bind_eq_some_iff.mp H
                 obtain ⟨t144, A110, H⟩ := H
                 replace H : (if 0 ≤ t144 then ((spec_trEdge.f (wrap64 ((wrap64 (x7_2 + 1)) + x11_5)) (wrap64 (x8_3 + x11_5)) 1).bind fun t145 => (if 0 ≤ t145 then ((spec_trEdge.f (wrap64 ((wrap64 (x7_2 + 1)) + x11_5)) (wrap64 (x8_3 + x6_1)) 0).bind fun t146 => (if 0 ≤ t146 then (spec_trAll.l4 k5 a0 true x5_3 x6_1 x7_2 x8_3 (Go.bits .or .i64 x9_5 (Go.bits .or .i64 (Go.bits .or .i64 (shl .i64 1 t144) (shl .i64 1 t145)) (shl .i64 1 t146))) (wrap64 (x11_5 + 1))) else (none))) else (none))) else (none)) = some r := H
                 have A11 := Aside0.mk A110
                 clear A110
                 by_cases c12 : 0 ≤ t144
                 ·rw [if_pos c12] at H
                  have c12b0 := eq_true c12
                  have c12b1 : decide (0 ≤ t144) = true := decide_eq_true c12
                  clear c12
                  obtain ⟨ji13, hji13⟩ : ∃ j_ : Int, (shl .i64 1 t144) = j_ := ⟨_, rfl⟩
                  replace H : ((spec_trEdge.f (wrap64 ((wrap64 (x7_2 + 1)) + x11_5)) (wrap64 (x8_3 + x11_5)) 1).bind fun t145 => (if 0 ≤ t145 then ((spec_trEdge.f (wrap64 ((wrap64 (x7_2 + 1)) + x11_5)) (wrap64 (x8_3 + x6_1)) 0).bind fun t146 => (if 0 ≤ t146 then (spec_trAll.l4 k5 a0 true x5_3 x6_1 x7_2 x8_3 (Go.bits .or .i64 x9_5 (Go.bits .or .i64 (Go.bits .or .i64 (ji13) (shl .i64 1 t145)) (shl .i64 1 t146))) (wrap64 (x11_5 + 1))) else (none))) else (none))) = some r := by first | (rw [hji13] at H; exact H) | (simp only [hji13] at H ⊢; exact H)
                  (try rw [hji13] at A11)
                  have hji13_ : (IntKind.i64.wrap (1 * 2 ^ min t144.toNat 64)) = ji13 := hji13
                  have hji13z : t144 ≤ 64 → (IntKind.i64.wrap (1 * 2 ^ t144.toNat)) = ji13 := shl_small hji13
                  have hji13u : (IntKind.i64.wrap (2 ^ min t144.toNat 64)) = ji13 := by have h_ := hji13_; rw [Int.one_mul] at h_; exact h_
                  have hji13v : t144 ≤ 64 → (IntKind.i64.wrap (2 ^ t144.toNat)) = ji13 := fun hle_ => by have h_ := hji13z hle_; rw [Int.one_mul] at h_; exact h_
                  have hji13y : (wrap64 (1 * 2 ^ min t144.toNat 64)) = ji13 := (i64_w _).symm.trans hji13_
                  have hji13x : t144 ≤ 64 → (wrap64 (1 * 2 ^ t144.toNat)) = ji13 := fun h_ => (i64_w _).symm.trans (hji13z h_)
                  replace H := Option.bind_eq_some_iff.mp H
                  obtain ⟨t145, A140, H⟩ := H
                  replace H : (if 0 ≤ t145 then ((spec_trEdge.f (wrap64 ((wrap64 (x7_2 + 1)) + x11_5)) (wrap64 (x8_3 + x6_1)) 0).bind fun t146 => (if 0 ≤ t146 then (spec_trAll.l4 k5 a0 true x5_3 x6_1 x7_2 x8_3 (Go.bits .or .i64 x9_5 (Go.bits .or .i64 (Go.bits .or .i64 (ji13) (shl .i64 1 t145)) (shl .i64 1 t146))) (wrap64 (x11_5 + 1))) else (none))) else (none)) = some r := H
                  have A14 := Aside0.mk A140
                  clear A140
                  by_cases c15 : 0 ≤ t145
                  ·rw [if_pos c15] at H
                   have c15b0 := eq_true c15
                   have c15b1 : decide (0 ≤ t145) = true := decide_eq_true c15
                   clear c15
                   obtain ⟨ji16, hji16⟩ : ∃ j_ : Int, (shl .i64 1 t145) = j_ := ⟨_, rfl⟩
                   replace H : ((spec_trEdge.f (wrap64 ((wrap64 (x7_2 + 1)) + x11_5)) (wrap64 (x8_3 + x6_1)) 0).bind fun t146 => (if 0 ≤ t146 then (spec_trAll.l4 k5 a0 true x5_3 x6_1 x7_2 x8_3 (Go.bits .or .i64 x9_5 (Go.bits .or .i64 (Go.bits .or .i64 (ji13) (ji16)) (shl .i64 1 t146))) (wrap64 (x11_5 + 1))) else (none))) = some r := by first | (rw [hji16] at H; exact H) | (simp only [hji16] at H ⊢; exact H)
                   (try rw [hji16] at A11)
                   (try rw [hji16] at A14)
                   have hji16_ : (IntKind.i64.wrap (1 * 2 ^ min t145.toNat 64)) = ji16 := hji16
                   have hji16z : t145 ≤ 64 → (IntKind.i64.wrap (1 * 2 ^ t145.toNat)) = ji16 := shl_small hji16
                   have hji16u : (IntKind.i64.wrap (2 ^ min t145.toNat 64)) = ji16 := by have h_ := hji16_; rw [Int.one_mul] at h_; exact h_
                   have hji16v : t145 ≤ 64 → (IntKind.i64.wrap (2 ^ t145.toNat)) = ji16 := fun hle_ => by have h_ := hji16z hle_; rw [Int.one_mul] at h_; exact h_
                   have hji16y : (wrap64 (1 * 2 ^ min t145.toNat 64)) = ji16 := (i64_w _).symm.trans hji16_
                   have hji16x : t145 ≤ 64 → (wrap64 (1 * 2 ^ t145.toNat)) = ji16 := fun h_ => (i64_w _).symm.trans (hji16z h_)
                   replace H := Option.bind_eq_some_iff.mp H
                   obtain ⟨t146, A170, H⟩ := H
                   replace H : (if 0 ≤ t146 then (spec_trAll.l4 k5 a0 true x5_3 x6_1 x7_2 x8_3 (Go.bits .or .i64 x9_5 (Go.bits .or .i64 (Go.bits .or .i64 (ji13) (ji16)) (shl .i64 1 t146))) (wrap64 (x11_5 + 1))) else (none)) = some r := H
                   have A17 := Aside0.mk A170
                   clear A170
                   by_cases c18 : 0 ≤ t146
                   ·rw [if_pos c18] at H
                    have c18b0 := eq_true c18
                    have c18b1 : decide (0 ≤ t146) = true := decide_eq_true c18
                    clear c18
                    obtain ⟨ji19, hji19⟩ : ∃ j_ : Int, (shl .i64 1 t146) = j_ := ⟨_, rfl⟩
                    replace H : (spec_trAll.l4 k5 a0 true x5_3 x6_1 x7_2 x8_3 (Go.bits .or .i64 x9_5 (Go.bits .or .i64 (Go.bits .or .i64 (ji13) (ji16)) (ji19))) (wrap64 (x11_5 + 1))) = some r := by first | (rw [hji19] at H; exact H) | (simp only [hji19] at H ⊢; exact H)
                    (try rw [hji19] at A11)
                    (try rw [hji19] at A14)
                    (try rw [hji19] at A17)
                    have hji19_ : (IntKind.i64.wrap (1 * 2 ^ min t146.toNat 64)) = ji19 := hji19
                    have hji19z : t146 ≤ 64 → (IntKind.i64.wrap (1 * 2 ^ t146.toNat)) = ji19 := shl_small hji19
                    have hji19u : (IntKind.i64.wrap (2 ^ min t146.toNat 64)) = ji19 := by have h_ := hji19_; rw [Int.one_mul] at h_; exact h_
                    have hji19v : t146 ≤ 64 → (IntKind.i64.wrap (2 ^ t146.toNat)) = ji19 := fun hle_ => by have h_ := hji19z hle_; rw [Int.one_mul] at h_; exact h_
                    have hji19y : (wrap64 (1 * 2 ^ min t146.toNat 64)) = ji19 := (i64_w _).symm.trans hji19_
                    have hji19x : t146 ≤ 64 → (wrap64 (1 * 2 ^ t146.toNat)) = ji19 := fun h_ => (i64_w _).symm.trans (hji19z h_)
                    have H' := Aside0.mk H
                    clear H
                    go_wp2_with (first | (go_at_call 65; (with_reducible refine (spec_trEdge.calls x7_2 (wrap64 (x8_3 + x11_5)) 2 t144 _ A11.out).mono ?_); rintro e w' ⟨rfl, ⟨nd, rfl⟩⟩; (try first | exact ⟨rfl, _, World.drewN_drewN _ _ _⟩ | exact ⟨rfl, _, Eq.trans (World.drewN_drewN _ _ _) (congrArg (World.drewN _) (Nat.add_assoc _ _ _))⟩)) | (go_at_call 65; (with_reducible refine (spec_trEdge.calls (wrap64 ((wrap64 (x7_2 + 1)) + x11_5)) (wrap64 (x8_3 + x11_5)) 1 t145 _ A14.out).mono ?_); rintro e w' ⟨rfl, ⟨nd, rfl⟩⟩; (try first | exact ⟨rfl, _, World.drewN_drewN _ _ _⟩ | exact ⟨rfl, _, Eq.trans (World.drewN_drewN _ _ _) (congrArg (World.drewN _) (Nat.add_assoc _ _ _))⟩)) | (go_at_call 65; (with_reducible refine (spec_trEdge.calls (wrap64 ((wrap64 (x7_2 + 1)) + x11_5)) (wrap64 (x8_3 + x6_1)) 0 t146 _ A17.out).mono ?_); rintro e w' ⟨rfl, ⟨nd, rfl⟩⟩; (try first | exact ⟨rfl, _, World.drewN_drewN _ _ _⟩ | exact ⟨rfl, _, Eq.trans (World.drewN_drewN _ _ _) (congrArg (World.drewN _) (Nat.add_assoc _ _ _))⟩)))
                    repeat (go_quiet (first | (go_at_call 65; (with_reducible refine (spec_trEdge.calls x7_2 (wrap64 (x8_3 + x11_5)) 2 t144 _ A11.out).mono ?_); rintro e w' ⟨rfl, ⟨nd, rfl⟩⟩; (try first | exact ⟨rfl, _, World.drewN_drewN _ _ _⟩ | exact ⟨rfl, _, Eq.trans (World.drewN_drewN _ _ _) (congrArg (World.drewN _) (Nat.add_assoc _ _ _))⟩)) | (go_at_call 65; (with_reducible refine (spec_trEdge.calls (wrap64 ((wrap64 (x7_2 + 1)) + x11_5)) (wrap64 (x8_3 + x11_5)) 1 t145 _ A14.out).mono ?_); rintro e w' ⟨rfl, ⟨nd, rfl⟩⟩; (try first | exact ⟨rfl, _, World.drewN_drewN _ _ _⟩ | exact ⟨rfl, _, Eq.trans (World.drewN_drewN _ _ _) (congrArg (World.drewN _) (Nat.add_assoc _ _ _))⟩)) | (go_at_call 65; (with_reducible refine (spec_trEdge.calls (wrap64 ((wrap64 (x7_2 + 1)) + x11_5)) (wrap64 (x8_3 + x6_1)) 0 t146 _ A17.out).mono ?_); rintro e w' ⟨rfl, ⟨nd, rfl⟩⟩; (try first | exact ⟨rfl, _, World.drewN_drewN _ _ _⟩ | exact ⟨rfl, _, Eq.trans (World.drewN_drewN _ _ _) (congrArg (World.drewN _) (Nat.add_assoc _ _ _))⟩))); try go_wp2_with (first | (go_at_call 65; (with_reducible refine (spec_trEdge.calls x7_2 (wrap64 (x8_3 + x11_5)) 2 t144 _ A11.out).mono ?_); rintro e w' ⟨rfl, ⟨nd, rfl⟩⟩; (try first | exact ⟨rfl, _, World.drewN_drewN _ _ _⟩ | exact ⟨rfl, _, Eq.trans (World.drewN_drewN _ _ _) (congrArg (World.drewN _) (Nat.add_assoc _ _ _))⟩)) | (go_at_call 65; (with_reducible refine (spec_trEdge.calls (wrap64 ((wrap64 (x7_2 + 1)) + x11_5)) (wrap64 (x8_3 + x11_5)) 1 t145 _ A14.out).mono ?_); rintro e w' ⟨rfl, ⟨nd, rfl⟩⟩; (try first | exact ⟨rfl, _, World.drewN_drewN _ _ _⟩ | exact ⟨rfl, _, Eq.trans (World.drewN_drewN _ _ _) (congrArg (World.drewN _) (Nat.add_assoc _ _ _))⟩)) | (go_at_call 65; (with_reducible refine (spec_trEdge.calls (wrap64 ((wrap64 (x7_2 + 1)) + x11_5)) (wrap64 (x8_3 + x6_1)) 0 t146 _ A17.out).mono ?_); rintro e w' ⟨rfl, ⟨nd, rfl⟩⟩; (try first | exact ⟨rfl, _, World.drewN_drewN _ _ _⟩ | exact ⟨rfl, _, Eq.trans (World.drewN_drewN _ _ _) (congrArg (World.drewN _) (Nat.add_assoc _ _ _))⟩))))
                    go_roundg k5
                    case measure => have := HK1.out; have := HK2.out; have := HK3.out; have := HJ6.out; have := HK5.out; omega
                    case rel => exact ⟨(Go.bits .or .i64 x9_5 (Go.bits .or .i64 (Go.bits .or .i64 (ji13) (ji16)) (ji19))), (wrap64 (x11_5 + 1)), (by first | rfl | (simp; done) | (simp only [← hji13, ← hji16, ← hji19] <;> (first | rfl | simp)) | (simp [*]; done)), (by first | rfl | (simp; done) | (simp [*]; done)), H', ⟨by have := HK1.out; have := HK2.out; have := HK3.out; have := HJ6.out; have := HK5.out; omega⟩, ⟨by (with_reducible repeat (first | apply Kd.R_alloc | apply Kd.R_drewN | apply Kd.R_drew)); exact HO_5.out⟩, ⟨by repeat (first | (with_reducible first | exact HB.out | apply below_alloc | apply pw_below_drewN | apply below_drew1) | exact HB.out)⟩⟩
                   ·rw [if_neg c18] at H
                    exact absurd H (by simp)
                  ·rw [if_neg c15] at H
                   exact absurd H (by simp)
                 ·rw [if_neg c12] at H
                  exact absurd H (by simp)
                ·rw [if_neg c10] at H
                 have c10b0 : decide (x11_5 < x6_1) = false := decide_eq_false c10
                 clear c10
                 by_cases c20 : x5_3.length < 3518437208883
                 ·rw [if_pos c20] at H
                  have LMc20 := Aside0.mk c20
                  clear c20
                  obtain ⟨y147, hy147⟩ : ∃ y_ : List (S98), y_ = (x5_3 ++ [(⟨true, x7_2, x8_3, x6_1, x9_5⟩ : S98)]) := ⟨_, rfl⟩
                  replace H : (spec_trAll.l2 k5 a0 true y147 x6_1 x7_2 (wrap64 (x8_3 + 1))) = some r := by first | (rw [hy147]; with_reducible exact H) | (have H2_ := (Option.bind_some _ _).symm.trans H; rw [hy147]; with_reducible exact H2_) | (have H2_ := (Option.bind_some _ _).symm.trans H; with_reducible exact H2_) | with_reducible exact H | (rw [hy147]; exact H) | exact H
                  have Ny147 := Aside0.mk hy147
                  clear hy147
                  have H' := Aside0.mk H
                  clear H
                  go_wp2_with (first | ((with_reducible refine gate_builtin (b := .append) (xs := #[.tmp 112, .tmp 119]) rfl ?_); at_builtin; refine Kd.R_append k98 (w0 := w) w.heap.size rfl (.tmp 112) (.tmp 119) 60 98 (.agg #[(.bool false), (.int .i64 0), (.int .i64 0), (.int .i64 0), (.int .i64 0)]) 40 rfl Try.underlying60 info98 rfl (by decide) (by omega) u5 x5_3 (⟨true, x7_2, x8_3, x6_1, x9_5⟩ : S98) [.bool true, .int .i64 x7_2, .int .i64 x8_3, .int .i64 x6_1, .int .i64 x9_5] (fun _ => True) (fun _ => False) rfl rfl ?aP (fun _ hk => hk.elim) ?aF ?aO ?aB ?aS ?aL ?_; (case aP => exact k98_mkM _ _ _ (⟨true, x7_2, x8_3, x6_1, x9_5⟩ : S98)); (case aB => exact (by repeat (first | (with_reducible first | exact HB.out | apply below_alloc | apply pw_below_drewN | apply below_drew1) | exact HB.out))); (case aF => exact (fun _ _ => trivial)); (case aO => exact (by (with_reducible repeat (first | apply Kd.R_alloc | apply Kd.R_drewN | apply Kd.R_drew)); exact HO_5.out)); (case aS => exact (below_size (by repeat (first | (with_reducible first | exact HB.out | apply below_alloc | apply pw_below_drewN | apply below_drew1) | exact HB.out)))); (case aL => have := LMc20.out; omega); intro v148 w21 ho hb hg hat; rw [← Ny147.out] at ho; have n0_ := Aside0.mk (hb); have n1_ := Aside0.mk (ho); clear HB; clear HO_5; have HB := n0_; have HO149 := n1_; clear n0_ n1_; clear ho hb hg hat))
                  repeat (go_quiet (first | ((with_reducible refine gate_builtin (b := .append) (xs := #[.tmp 112, .tmp 119]) rfl ?_); at_builtin; refine Kd.R_append k98 (w0 := w) w.heap.size rfl (.tmp 112) (.tmp 119) 60 98 (.agg #[(.bool false), (.int .i64 0), (.int .i64 0), (.int .i64 0), (.int .i64 0)]) 40 rfl Try.underlying60 info98 rfl (by decide) (by omega) u5 x5_3 (⟨true, x7_2, x8_3, x6_1, x9_5⟩ : S98) [.bool true, .int .i64 x7_2, .int .i64 x8_3, .int .i64 x6_1, .int .i64 x9_5] (fun _ => True) (fun _ => False) rfl rfl ?aP (fun _ hk => hk.elim) ?aF ?aO ?aB ?aS ?aL ?_; (case aP => exact k98_mkM _ _ _ (⟨true, x7_2, x8_3, x6_1, x9_5⟩ : S98)); (case aB => exact (by repeat (first | (with_reducible first | exact HB.out | apply below_alloc | apply pw_below_drewN | apply below_drew1) | exact HB.out))); (case aF => exact (fun _ _ => trivial)); (case aO => exact (by (with_reducible repeat (first | apply Kd.R_alloc | apply Kd.R_drewN | apply Kd.R_drew)); exact HO_5.out)); (case aS => exact (below_size (by repeat (first | (with_reducible first | exact HB.out | apply below_alloc | apply pw_below_drewN | apply below_drew1) | exact HB.out)))); (case aL => have := LMc20.out; omega); intro v148 w21 ho hb hg hat; rw [← Ny147.out] at ho; have n0_ := Aside0.mk (hb); have n1_ := Aside0.mk (ho); clear HB; clear HO_5; have HB := n0_; have HO149 := n1_; clear n0_ n1_; clear ho hb hg hat)); try go_wp2_with (first | ((with_reducible refine gate_builtin (b := .append) (xs := #[.tmp 112, .tmp 119]) rfl ?_); at_builtin; refine Kd.R_append k98 (w0 := w) w.heap.size rfl (.tmp 112) (.tmp 119) 60 98 (.agg #[(.bool false), (.int .i64 0), (.int .i64 0), (.int .i64 0), (.int .i64 0)]) 40 rfl Try.underlying60 info98 rfl (by decide) (by omega) u5 x5_3 (⟨true, x7_2, x8_3, x6_1, x9_5⟩ : S98) [.bool true, .int .i64 x7_2, .int .i64 x8_3, .int .i64 x6_1, .int .i64 x9_5] (fun _ => True) (fun _ => False) rfl rfl ?aP (fun _ hk => hk.elim) ?aF ?aO ?aB ?aS ?aL ?_; (case aP => exact k98_mkM _ _ _ (⟨true, x7_2, x8_3, x6_1, x9_5⟩ : S98)); (case aB => exact (by repeat (first | (with_reducible first | exact HB.out | apply below_alloc | apply pw_below_drewN | apply below_drew1) | exact HB.out))); (case aF => exact (fun _ _ => trivial)); (case aO => exact (by (with_reducible repeat (first | apply Kd.R_alloc | apply Kd.R_drewN | apply Kd.R_drew)); exact HO_5.out)); (case aS => exact (below_size (by repeat (first | (with_reducible first | exact HB.out | apply below_alloc | apply pw_below_drewN | apply below_drew1) | exact HB.out)))); (case aL => have := LMc20.out; omega); intro v148 w21 ho hb hg hat; rw [← Ny147.out] at ho; have n0_ := Aside0.mk (hb); have n1_ := Aside0.mk (ho); clear HB; clear HO_5; have HB := n0_; have HO149 := n1_; clear n0_ n1_; clear ho hb hg hat)))
                  go_roundg k5
                  case measure => have := HK1.out; have := HK2.out; have := HK3.out; have := HJ6.out; have := HK5.out; omega
                  case rel => exact ⟨(y147), (wrap64 (x8_3 + 1)), (by first | rfl | (simp; done) | (simp [*]; done)), H', ⟨by have := HK1.out; have := HK2.out; have := HK3.out; have := HJ6.out; have := HK5.out; omega⟩, ⟨by (with_reducible repeat (first | apply Kd.R_alloc | apply Kd.R_drewN | apply Kd.R_drew)); exact HO149.out⟩, ⟨by repeat (first | (with_reducible first | exact HB.out | apply below_alloc | apply pw_below_drewN | apply below_drew1) | exact HB.out)⟩⟩
                 ·rw [if_neg c20] at H
                  exact absurd H (by simp)
          ·replace c6 := Bool.eq_false_iff.mpr c6
           subst c6
           have H1 : (if (wrap64 (x7_2 + x6_1)) > a0 then (spec_trAll.l2 k3 a0 false x5_3 x6_1 x7_2 (wrap64 (x8_3 + 1))) else (spec_trAll.l3 k3 a0 false x5_3 x6_1 x7_2 x8_3 0 0)) = some r := by rw [if_neg (show ¬ (false = true) by decide)] at H; exact H
           clear H
           have H := H1
           clear H1
           by_cases c22 : (wrap64 (x7_2 + x6_1)) > a0
           ·rw [if_pos c22] at H
            have c22b0 : decide (a0 < (wrap64 (x7_2 + x6_1))) = true := decide_eq_true c22
            clear c22
            have H' := Aside0.mk H
            clear H
            go_wp2
            repeat (go_quiet (fail); try go_wp2)
            go_roundg k3
            case measure => have := HK1.out; have := HK2.out; have := HK3.out; omega
            case rel => exact ⟨(x5_3), (wrap64 (x8_3 + 1)), (by first | rfl | (simp; done) | (simp [*]; done)), H', ⟨by have := HK1.out; have := HK2.out; have := HK3.out; omega⟩, ⟨by (with_reducible repeat (first | apply Kd.R_alloc | apply Kd.R_drewN | apply Kd.R_drew)); exact HO_5.out⟩, ⟨by repeat (first | (with_reducible first | exact HB.out | apply below_alloc | apply pw_below_drewN | apply below_drew1) | exact HB.out)⟩⟩
           ·rw [if_neg c22] at H
            have c22b0 : decide (a0 < (wrap64 (x7_2 + x6_1))) = false := decide_eq_false c22
            clear c22
            have H' := Aside0.mk H
            clear H
            go_wp2
            repeat (go_quiet (fail); try go_wp2)
            go_loopg [9, 10] k3 (fun kq v9 v10 w' => ∃ (x9_4 : Int) (x10_4 : Int), v9 = .int .i64 x9_4 ∧ v10 = .int .i64 x10_4 ∧ Aside0 (spec_trAll.l3 kq a0 false x5_3 x6_1 x7_2 x8_3 x9_4 x10_4 = some r) ∧ Aside0 (kq ≤ k3) ∧ Aside0 (Kd.R k98 98 w' w.heap.size (fun _ => True) u5 x5_3) ∧ Aside0 (Below w.heap.size w w'))
            case atStart => exact ⟨(0), (0), (by first | rfl | (simp; done) | (simp [*]; done)), (by first | rfl | (simp; done) | (simp [*]; done)), H', ⟨Nat.le_refl _⟩, ⟨by (with_reducible repeat (first | apply Kd.R_alloc | apply Kd.R_drewN | apply Kd.R_drew)); exact HO_5.out⟩, ⟨by repeat (first | (with_reducible first | exact HB.out | apply below_alloc | apply pw_below_drewN | apply below_drew1) | exact HB.out)⟩⟩
            case round =>
             clear H'
             try clear c1
             try clear c2
             try clear p2
             try clear c3
             try clear c3b0
             try clear c4
             try clear c4b0
             try clear c5
             try clear c5b0
             try clear c6
             try clear p6
             try clear c7
             try clear c8
             try clear c8b0
             try clear c9
             try clear c10
             try clear c10b0
             try clear c12
             try clear c12b0
             try clear c12b1
             try clear c15
             try clear c15b0
             try clear c15b1
             try clear c18
             try clear c18b0
             try clear c18b1
             try clear c20
             try clear c22
             try clear c22b0
             try clear p2
             try clear p6
             obtain ⟨x9_4, x10_4, rfl, rfl, HA, HK4, HO_5, HB⟩ := hrel
             cases gk with
             | zero => exact absurd HA.out (by simp [spec_trAll.l3])
             | succ k4 =>
              have H := HA.out
              clear HA
              simp only [spec_trAll.l3] at H
              by_cases c23 : x10_4 < x6_1
              ·rw [if_pos c23] at H
               have c23b0 : decide (x10_4 < x6_1) = true := decide_eq_true c23
               clear c23
               replace H := Option.bind_eq_some_iff.mp H
               obtain ⟨t150, A240, H⟩ := H
               replace H : (if 0 ≤ t150 then ((spec_trEdge.f (wrap64 (x7_2 + x10_4)) (wrap64 (x8_3 + x10_4)) 1).bind fun t151 => (if 0 ≤ t151 then ((spec_trEdge.f (wrap64 ((wrap64 (x7_2 + x6_1)) - 1)) (wrap64 (x8_3 + x10_4)) 2).bind fun t152 => (if 0 ≤ t152 then (spec_trAll.l3 k4 a0 false x5_3 x6_1 x7_2 x8_3 (Go.bits .or .i64 x9_4 (Go.bits .or .i64 (Go.bits .or .i64 (shl .i64 1 t150) (shl .i64 1 t151)) (shl .i64 1 t152))) (wrap64 (x10_4 + 1))) else (none))) else (none))) else (none)) = some r := H
               have A24 := Aside0.mk A240
               clear A240
               by_cases c25 : 0 ≤ t150
               ·rw [if_pos c25] at H
                have c25b0 := eq_true c25
                have c25b1 : decide (0 ≤ t150) = true := decide_eq_true c25
                clear c25
                obtain ⟨ji26, hji26⟩ : ∃ j_ : Int, (shl .i64 1 t150) = j_ := ⟨_, rfl⟩
                replace H : ((spec_trEdge.f (wrap64 (x7_2 + x10_4)) (wrap64 (x8_3 + x10_4)) 1).bind fun t151 => (if 0 ≤ t151 then ((spec_trEdge.f (wrap64 ((wrap64 (x7_2 + x6_1)) - 1)) (wrap64 (x8_3 + x10_4)) 2).bind fun t152 => (if 0 ≤ t152 then (spec_trAll.l3 k4 a0 false x5_3 x6_1 x7_2 x8_3 (Go.bits .or .i64 x9_4 (Go.bits .or .i64 (Go.bits .or .i64 (ji26) (shl .i64 1 t151)) (shl .i64 1 t152))) (wrap64 (x10_4 + 1))) else (none))) else (none))) = some r := by first | (rw [hji26] at H; exact H) | (simp only [hji26] at H ⊢; exact H)
                (try rw [hji26] at A24)
                have hji26_ : (IntKind.i64.wrap (1 * 2 ^ min t150.toNat 64)) = ji26 := hji26
                have hji26z : t150 ≤ 64 → (IntKind.i64.wrap (1 * 2 ^ t150.toNat)) = ji26 := shl_small hji26
                have hji26u : (IntKind.i64.wrap (2 ^ min t150.toNat 64)) = ji26 := by have h_ := hji26_; rw [Int.one_mul] at h_; exact h_
                have hji26v : t150 ≤ 64 → (IntKind.i64.wrap (2 ^ t150.toNat)) = ji26 := fun hle_ => by have h_ := hji26z hle_; rw [Int.one_mul] at h_; exact h_
                have hji26y : (wrap64 (1 * 2 ^ min t150.toNat 64)) = ji26 := (i64_w _).symm.trans hji26_
                have hji26x : t150 ≤ 64 → (wrap64 (1 * 2 ^ t150.toNat)) = ji26 := fun h_ => (i64_w _).symm.trans (hji26z h_)
                replace H := Option.bind_eq_some_iff.mp H
                obtain ⟨t151, A270, H⟩ := H
                replace H : (if 0 ≤ t151 then ((spec_trEdge.f (wrap64 ((wrap64 (x7_2 + x6_1)) - 1)) (wrap64 (x8_3 + x10_4)) 2).bind fun t152 => (if 0 ≤ t152 then (spec_trAll.l3 k4 a0 false x5_3 x6_1 x7_2 x8_3 (Go.bits .or .i64 x9_4 (Go.bits .or .i64 (Go.bits .or .i64 (ji26) (shl .i64 1 t151)) (shl .i64 1 t152))) (wrap64 (x10_4 + 1))) else (none))) else (none)) = some r := H
                have A27 := Aside0.mk A270
                clear A270
                by_cases c28 : 0 ≤ t151
                ·rw [if_pos c28] at H
                 have c28b0 := eq_true c28
                 have c28b1 : decide (0 ≤ t151) = true := decide_eq_true c28
                 clear c28
                 obtain ⟨ji29, hji29⟩ : ∃ j_ : Int, (shl .i64 1 t151) = j_ := ⟨_, rfl⟩
                 replace H : ((spec_trEdge.f (wrap64 ((wrap64 (x7_2 + x6_1)) - 1)) (wrap64 (x8_3 + x10_4)) 2).bind fun t152 => (if 0 ≤ t152 then (spec_trAll.l3 k4 a0 false x5_3 x6_1 x7_2 x8_3 (Go.bits .or .i64 x9_4 (Go.bits .or .i64 (Go.bits .or .i64 (ji26) (ji29)) (shl .i64 1 t152))) (wrap64 (x10_4 + 1))) else (none))) = some r := by first | (rw [hji29] at H; exact H) | (simp only [hji29] at H ⊢; exact H)
                 (try rw [hji29] at A24)
                 (try rw [hji29] at A27)
                 have hji29_ : (IntKind.i64.wrap (1 * 2 ^ min t151.toNat 64)) = ji29 := hji29
                 have hji29z : t151 ≤ 64 → (IntKind.i64.wrap (1 * 2 ^ t151.toNat)) = ji29 := shl_small hji29
                 have hji29u : (IntKind.i64.wrap (2 ^ min t151.toNat 64)) = ji29 := by have h_ := hji29_; rw [Int.one_mul] at h_; exact h_
                 have hji29v : t151 ≤ 64 → (IntKind.i64.wrap (2 ^ t151.toNat)) = ji29 := fun hle_ => by have h_ := hji29z hle_; rw [Int.one_mul] at h_; exact h_
                 have hji29y : (wrap64 (1 * 2 ^ min t151.toNat 64)) = ji29 := (i64_w _).symm.trans hji29_
                 have hji29x : t151 ≤ 64 → (wrap64 (1 * 2 ^ t151.toNat)) = ji29 := fun h_ => (i64_w _).symm.trans (hji29z h_)
                 replace H := Option.bind_eq_some_iff.mp H
                 obtain ⟨t152, A300, H⟩ := H
                 replace H : (if 0 ≤ t152 then (spec_trAll.l3 k4 a0 false x5_3 x6_1 x7_2 x8_3 (Go.bits .or .i64 x9_4 (Go.bits .or .i64 (Go.bits .or .i64 (ji26) (ji29)) (shl .i64 1 t152))) (wrap64 (x10_4 + 1))) else (none)) = some r := H
                 have A30 := Aside0.mk A300
                 clear A300
                 by_cases c31 : 0 ≤ t152
                 ·rw [if_pos c31] at H
                  have c31b0 := eq_true c31
                  have c31b1 : decide (0 ≤ t152) = true := decide_eq_true c31
                  clear c31
                  obtain ⟨ji32, hji32⟩ : ∃ j_ : Int, (shl .i64 1 t152) = j_ := ⟨_, rfl⟩
                  replace H : (spec_trAll.l3 k4 a0 false x5_3 x6_1 x7_2 x8_3 (Go.bits .or .i64 x9_4 (Go.bits .or .i64 (Go.bits .or .i64 (ji26) (ji29)) (ji32))) (wrap64 (x10_4 + 1))) = some r := by first | (rw [hji32] at H; exact H) | (simp only [hji32] at H ⊢; exact H)
                  (try rw [hji32] at A24)
                  (try rw [hji32] at A27)
                  (try rw [hji32] at A30)
                  have hji32_ : (IntKind.i64.wrap (1 * 2 ^ min t152.toNat 64)) = ji32 := hji32
                  have hji32z : t152 ≤ 64 → (IntKind.i64.wrap (1 * 2 ^ t152.toNat)) = ji32 := shl_small hji32
                  have hji32u : (IntKind.i64.wrap (2 ^ min t152.toNat 64)) = ji32 := by have h_ := hji32_; rw [Int.one_mul] at h_; exact h_
                  have hji32v : t152 ≤ 64 → (IntKind.i64.wrap (2 ^ t152.toNat)) = ji32 := fun hle_ => by have h_ := hji32z hle_; rw [Int.one_mul] at h_; exact h_
                  have hji32y : (wrap64 (1 * 2 ^ min t152.toNat 64)) = ji32 := (i64_w _).symm.trans hji32_
                  have hji32x : t152 ≤ 64 → (wrap64 (1 * 2 ^ t152.toNat)) = ji32 := fun h_ => (i64_w _).symm.trans (hji32z h_)
                  have H' := Aside0.mk H
                  clear H
                  go_wp2_with (first | (go_at_call 65; (with_reducible refine (spec_trEdge.calls (wrap64 (x7_2 + x10_4)) x8_3 0 t150 _ A24.out).mono ?_); rintro e w' ⟨rfl, ⟨nd, rfl⟩⟩; (try first | exact ⟨rfl, _, World.drewN_drewN _ _ _⟩ | exact ⟨rfl, _, Eq.trans (World.drewN_drewN _ _ _) (congrArg (World.drewN _) (Nat.add_assoc _ _ _))⟩)) | (go_at_call 65; (with_reducible refine (spec_trEdge.calls (wrap64 (x7_2 + x10_4)) (wrap64 (x8_3 + x10_4)) 1 t151 _ A27.out).mono ?_); rintro e w' ⟨rfl, ⟨nd, rfl⟩⟩; (try first | exact ⟨rfl, _, World.drewN_drewN _ _ _⟩ | exact ⟨rfl, _, Eq.trans (World.drewN_drewN _ _ _) (congrArg (World.drewN _) (Nat.add_assoc _ _ _))⟩)) | (go_at_call 65; (with_reducible refine (spec_trEdge.calls (wrap64 ((wrap64 (x7_2 + x6_1)) - 1)) (wrap64 (x8_3 + x10_4)) 2 t152 _ A30.out).mono ?_); rintro e w' ⟨rfl, ⟨nd, rfl⟩⟩; (try first | exact ⟨rfl, _, World.drewN_drewN _ _ _⟩ | exact ⟨rfl, _, Eq.trans (World.drewN_drewN _ _ _) (congrArg (World.drewN _) (Nat.add_assoc _ _ _))⟩)))
                  repeat (go_quiet (first | (go_at_call 65; (with_reducible refine (spec_trEdge.calls (wrap64 (x7_2 + x10_4)) x8_3 0 t150 _ A24.out).mono ?_); rintro e w' ⟨rfl, ⟨nd, rfl⟩⟩; (try first | exact ⟨rfl, _, World.drewN_drewN _ _ _⟩ | exact ⟨rfl, _, Eq.trans (World.drewN_drewN _ _ _) (congrArg (World.drewN _) (Nat.add_assoc _ _ _))⟩)) | (go_at_call 65; (with_reducible refine (spec_trEdge.calls (wrap64 (x7_2 + x10_4)) (wrap64 (x8_3 + x10_4)) 1 t151 _ A27.out).mono ?_); rintro e w' ⟨rfl, ⟨nd, rfl⟩⟩; (try first | exact ⟨rfl, _, World.drewN_drewN _ _ _⟩ | exact ⟨rfl, _, Eq.trans (World.drewN_drewN _ _ _) (congrArg (World.drewN _) (Nat.add_assoc _ _ _))⟩)) | (go_at_call 65; (with_reducible refine (spec_trEdge.calls (wrap64 ((wrap64 (x7_2 + x6_1)) - 1)) (wrap64 (x8_3 + x10_4)) 2 t152 _ A30.out).mono ?_); rintro e w' ⟨rfl, ⟨nd, rfl⟩⟩; (try first | exact ⟨rfl, _, World.drewN_drewN _ _ _⟩ | exact ⟨rfl, _, Eq.trans (World.drewN_drewN _ _ _) (congrArg (World.drewN _) (Nat.add_assoc _ _ _))⟩))); try go_wp2_with (first | (go_at_call 65; (with_reducible refine (spec_trEdge.calls (wrap64 (x7_2 + x10_4)) x8_3 0 t150 _ A24.out).mono ?_); rintro e w' ⟨rfl, ⟨nd, rfl⟩⟩; (try first | exact ⟨rfl, _, World.drewN_drewN _ _ _⟩ | exact ⟨rfl, _, Eq.trans (World.drewN_drewN _ _ _) (congrArg (World.drewN _) (Nat.add_assoc _ _ _))⟩)) | (go_at_call 65; (with_reducible refine (spec_trEdge.calls (wrap64 (x7_2 + x10_4)) (wrap64 (x8_3 + x10_4)) 1 t151 _ A27.out).mono ?_); rintro e w' ⟨rfl, ⟨nd, rfl⟩⟩; (try first | exact ⟨rfl, _, World.drewN_drewN _ _ _⟩ | exact ⟨rfl, _, Eq.trans (World.drewN_drewN _ _ _) (congrArg (World.drewN _) (Nat.add_assoc _ _ _))⟩)) | (go_at_call 65; (with_reducible refine (spec_trEdge.calls (wrap64 ((wrap64 (x7_2 + x6_1)) - 1)) (wrap64 (x8_3 + x10_4)) 2 t152 _ A30.out).mono ?_); rintro e w' ⟨rfl, ⟨nd, rfl⟩⟩; (try first | exact ⟨rfl, _, World.drewN_drewN _ _ _⟩ | exact ⟨rfl, _, Eq.trans (World.drewN_drewN _ _ _) (congrArg (World.drewN _) (Nat.add_assoc _ _ _))⟩))))
                  go_roundg k4
                  case measure => have := HK1.out; have := HK2.out; have := HK3.out; have := HK4.out; omega
                  case rel => exact ⟨(Go.bits .or .i64 x9_4 (Go.bits .or .i64 (Go.bits .or .i64 (ji26) (ji29)) (ji32))), (wrap64 (x10_4 + 1)), (by first | rfl | (simp; done) | (simp only [← hji26, ← hji29, ← hji32] <;> (first | rfl | simp)) | (simp [*]; done)), (by first | rfl | (simp; done) | (simp [*]; done)), H', ⟨by have := HK1.out; have := HK2.out; have := HK3.out; have := HK4.out; omega⟩, ⟨by (with_reducible repeat (first | apply Kd.R_alloc | apply Kd.R_drewN | apply Kd.R_drew)); exact HO_5.out⟩, ⟨by repeat (first | (with_reducible first | exact HB.out | apply below_alloc | apply pw_below_drewN | apply below_drew1) | exact HB.out)⟩⟩
                 ·rw [if_neg c31] at H
                  exact absurd H (by simp)
                ·rw [if_neg c28] at H
                 exact absurd H (by simp)
               ·rw [if_neg c25] at H
                exact absurd H (by simp)
              ·rw [if_neg c23] at H
               have c23b0 : decide (x10_4 < x6_1) = false := decide_eq_false c23
               clear c23
               by_cases c33 : x5_3.length < 3518437208883
               ·rw [if_pos c33] at H
                have LMc33 := Aside0.mk c33
                clear c33
                obtain ⟨y153, hy153⟩ : ∃ y_ : List (S98), y_ = (x5_3 ++ [(⟨false, x7_2, x8_3, x6_1, x9_4⟩ : S98)]) := ⟨_, rfl⟩
                replace H : (spec_trAll.l2 k4 a0 false y153 x6_1 x7_2 (wrap64 (x8_3 + 1))) = some r := by first | (rw [hy153]; with_reducible exact H) | (have H2_ := (Option.bind_some _ _).symm.trans H; rw [hy153]; with_reducible exact H2_) | (have H2_ := (Option.bind_some _ _).symm.trans H; with_reducible exact H2_) | with_reducible exact H | (rw [hy153]; exact H) | exact H
                have Ny153 := Aside0.mk hy153
                clear hy153
                have H' := Aside0.mk H
                clear H
                go_wp2_with (first | ((with_reducible refine gate_builtin (b := .append) (xs := #[.tmp 112, .tmp 119]) rfl ?_); at_builtin; refine Kd.R_append k98 (w0 := w) w.heap.size rfl (.tmp 112) (.tmp 119) 60 98 (.agg #[(.bool false), (.int .i64 0), (.int .i64 0), (.int .i64 0), (.int .i64 0)]) 40 rfl Try.underlying60 info98 rfl (by decide) (by omega) u5 x5_3 (⟨false, x7_2, x8_3, x6_1, x9_4⟩ : S98) [.bool false, .int .i64 x7_2, .int .i64 x8_3, .int .i64 x6_1, .int .i64 x9_4] (fun _ => True) (fun _ => False) rfl rfl ?aP (fun _ hk => hk.elim) ?aF ?aO ?aB ?aS ?aL ?_; (case aP => exact k98_mkM _ _ _ (⟨false, x7_2, x8_3, x6_1, x9_4⟩ : S98)); (case aB => exact (by repeat (first | (with_reducible first | exact HB.out | apply below_alloc | apply pw_below_drewN | apply below_drew1) | exact HB.out))); (case aF => exact (fun _ _ => trivial)); (case aO => exact (by (with_reducible repeat (first | apply Kd.R_alloc | apply Kd.R_drewN | apply Kd.R_drew)); exact HO_5.out)); (case aS => exact (below_size (by repeat (first | (with_reducible first | exact HB.out | apply below_alloc | apply pw_below_drewN | apply below_drew1) | exact HB.out)))); (case aL => have := LMc33.out; omega); intro v154 w34 ho hb hg hat; rw [← Ny153.out] at ho; have n0_ := Aside0.mk (hb); have n1_ := Aside0.mk (ho); clear HB; clear HO_5; have HB := n0_; have HO155 := n1_; clear n0_ n1_; clear ho hb hg hat))
                repeat (go_quiet (first | ((with_reducible refine gate_builtin (b := .append) (xs := #[.tmp 112, .tmp 119]) rfl ?_); at_builtin; refine Kd.R_append k98 (w0 := w) w.heap.size rfl (.tmp 112) (.tmp 119) 60 98 (.agg #[(.bool false), (.int .i64 0), (.int .i64 0), (.int .i64 0), (.int .i64 0)]) 40 rfl Try.underlying60 info98 rfl (by decide) (by omega) u5 x5_3 (⟨false, x7_2, x8_3, x6_1, x9_4⟩ : S98) [.bool false, .int .i64 x7_2, .int .i64 x8_3, .int .i64 x6_1, .int .i64 x9_4] (fun _ => True) (fun _ => False) rfl rfl ?aP (fun _ hk => hk.elim) ?aF ?aO ?aB ?aS ?aL ?_; (case aP => exact k98_mkM _ _ _ (⟨false, x7_2, x8_3, x6_1, x9_4⟩ : S98)); (case aB => exact (by repeat (first | (with_reducible first | exact HB.out | apply below_alloc | apply pw_below_drewN | apply below_drew1) | exact HB.out))); (case aF => exact (fun _ _ => trivial)); (case aO => exact (by (with_reducible repeat (first | apply Kd.R_alloc | apply Kd.R_drewN | apply Kd.R_drew)); exact HO_5.out)); (case aS => exact (below_size (by repeat (first | (with_reducible first | exact HB.out | apply below_alloc | apply pw_below_drewN | apply below_drew1) | exact HB.out)))); (case aL => have := LMc33.out; omega); intro v154 w34 ho hb hg hat; rw [← Ny153.out] at ho; have n0_ := Aside0.mk (hb); have n1_ := Aside0.mk (ho); clear HB; clear HO_5; have HB := n0_; have HO155 := n1_; clear n0_ n1_; clear ho hb hg hat)); try go_wp2_with (first | ((with_reducible refine gate_builtin (b := .append) (xs := #[.tmp 112, .tmp 119]) rfl ?_); at_builtin; refine Kd.R_append k98 (w0 := w) w.heap.size rfl (.tmp 112) (.tmp 119) 60 98 (.agg #[(.bool false), (.int .i64 0), (.int .i64 0), (.int .i64 0), (.int .i64 0)]) 40 rfl Try.underlying60 info98 rfl (by decide) (by omega) u5 x5_3 (⟨false, x7_2, x8_3, x6_1, x9_4⟩ : S98) [.bool false, .int .i64 x7_2, .int .i64 x8_3, .int .i64 x6_1, .int .i64 x9_4] (fun _ => True) (fun _ => False) rfl rfl ?aP (fun _ hk => hk.elim) ?aF ?aO ?aB ?aS ?aL ?_; (case aP => exact k98_mkM _ _ _ (⟨false, x7_2, x8_3, x6_1, x9_4⟩ : S98)); (case aB => exact (by repeat (first | (with_reducible first | exact HB.out | apply below_alloc | apply pw_below_drewN | apply below_drew1) | exact HB.out))); (case aF => exact (fun _ _ => trivial)); (case aO => exact (by (with_reducible repeat (first | apply Kd.R_alloc | apply Kd.R_drewN | apply Kd.R_drew)); exact HO_5.out)); (case aS => exact (below_size (by repeat (first | (with_reducible first | exact HB.out | apply below_alloc | apply pw_below_drewN | apply below_drew1) | exact HB.out)))); (case aL => have := LMc33.out; omega); intro v154 w34 ho hb hg hat; rw [← Ny153.out] at ho; have n0_ := Aside0.mk (hb); have n1_ := Aside0.mk (ho); clear HB; clear HO_5; have HB := n0_; have HO155 := n1_; clear n0_ n1_; clear ho hb hg hat)))
                go_roundg k4
                case measure => have := HK1.out; have := HK2.out; have := HK3.out; have := HK4.out; omega
                case rel => exact ⟨(y153), (wrap64 (x8_3 + 1)), (by first | rfl | (simp; done) | (simp [*]; done)), H', ⟨by have := HK1.out; have := HK2.out; have := HK3.out; have := HK4.out; omega⟩, ⟨by (with_reducible repeat (first | apply Kd.R_alloc | apply Kd.R_drewN | apply Kd.R_drew)); exact HO155.out⟩, ⟨by repeat (first | (with_reducible first | exact HB.out | apply below_alloc | apply pw_below_drewN | apply below_drew1) | exact HB.out)⟩⟩
               ·rw [if_neg c33] at H
                exact absurd H (by simp)
         ·rw [if_neg c5] at H
          have c5b0 : decide (x8_3 ≤ x7_2) = false := decide_eq_false c5
          clear c5
          have H' := Aside0.mk H
          clear H
          go_wp2
          repeat (go_quiet (fail); try go_wp2)
          go_roundg k3
          case measure => have := HK1.out; have := HK2.out; have := HK3.out; omega
          case rel => exact ⟨(x5_3), (wrap64 (x7_2 + 1)), (by first | rfl | (simp; done) | (simp [*]; done)), H', ⟨by have := HK1.out; have := HK2.out; have := HK3.out; omega⟩, ⟨by (with_reducible repeat (first | apply Kd.R_alloc | apply Kd.R_drewN | apply Kd.R_drew)); exact HO_5.out⟩, ⟨by repeat (first | (with_reducible first | exact HB.out | apply below_alloc | apply pw_below_drewN | apply below_drew1) | exact HB.out)⟩⟩
      ·rw [if_neg c4] at H
       have c4b0 : decide (x7_2 < a0) = false := decide_eq_false c4
       clear c4
       have H' := Aside0.mk H
       clear H
       go_wp2
       repeat (go_quiet (fail); try go_wp2)
       go_roundg k2
       case measure => have := HK1.out; have := HK2.out; omega
       case rel => exact ⟨(x5_2), (wrap64 (x6_1 + 1)), (by first | rfl | (simp; done) | (simp [*]; done)), H', ⟨by have := HK1.out; have := HK2.out; omega⟩, ⟨by (with_reducible repeat (first | apply Kd.R_alloc | apply Kd.R_drewN | apply Kd.R_drew)); exact HO_5.out⟩, ⟨by repeat (first | (with_reducible first | exact HB.out | apply below_alloc | apply pw_below_drewN | apply below_drew1) | exact HB.out)⟩⟩
   ·rw [if_neg c3] at H
    have c3b0 : decide (x6_1 ≤ a0) = false := decide_eq_false c3
    clear c3
    obtain rfl := Option.some.inj H
    go_wp2
    repeat (go_quiet (fail); try go_wp2)
    go_ret
    exact ⟨_, by first | rfl | (simp [errW_none, errW_some] <;> rfl) | (simp [*, errW_none, errW_some] <;> rfl), by (with_reducible repeat (first | apply Kd.R_alloc | apply Kd.R_drewN | apply Kd.R_drew)); exact HO_5.out, by repeat (first | (with_reducible first | exact HB.out | apply below_alloc | apply pw_below_drewN | apply below_drew1) | exact HB.out)⟩

end Go.Proofs.Ytjkkgnpgjgfidaa.Q
