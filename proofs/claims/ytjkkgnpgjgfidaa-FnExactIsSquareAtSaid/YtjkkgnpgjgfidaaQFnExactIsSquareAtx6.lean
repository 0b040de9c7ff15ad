-- written by a program of this session, pm.py, for this claim
-- half the indentation
import Derived.Test.YtjkkgnpgjgfidaaQFnExactIsSquareAtx0
import Derived.Test.YtjkkgnpgjgfidaaQFnExactIsSquareAtx3
import Derived.Test.YtjkkgnpgjgfidaaQFnExactIsSquareAtx4
namespace Go.Proofs.Ytjkkgnpgjgfidaa.Q
open Go.RowKit Go.Proofs.YtjkkgnpgjgfidaaW.PrintWords Go.Proofs.YtjkkgnpgjgfidaaW.PrintLast Go.Proofs.YtjkkgnpgjgfidaaW.PrintMore
attribute [local go_sem] max2_int min2_int max_two min_two max_three min_three max_four min_four   -- for this text's walks alone
set_option linter.unusedVariables false
set_option linter.unusedSimpArgs false

/-! ### impl_grid_isCell: function 51 -/
def impl_grid_isCell.f (a0_0 : Int) (a0_1 : Int) (a1 : Int) (a2 : Int) : Option (Bool) := (impl_within.f a1 0 (wrap64 (a0_0 - 1))).bind fun t172 => (if t172 = true then ((impl_within.f a2 0 (wrap64 (a0_1 - 1))).bind fun t173 => (some t173)) else (some false))
set_option maxHeartbeats 8000000 in
set_option maxRecDepth 100000 in
theorem impl_grid_isCell.calls (a0_0 : Int) (a0_1 : Int) (a1 : Int) (a2 : Int) (r : Bool) (w : World) (h : impl_grid_isCell.f a0_0 a0_1 a1 a2 = some r) :
  Calls Try.prog 51 #[.agg #[.int .i64 a0_0, .int .i64 a0_1], .int .i64 a1, .int .i64 a2] w fun e w' => e = .returned (.bool r) ∧ Below w.heap.size w w' := by
 have hu71 := Try.underlying71
 have HB := Aside0.mk (Below.refl w.heap.size w)
 have H : ((impl_within.f a1 0 (wrap64 (a0_0 - 1))).bind fun t172 => (if t172 = true then ((impl_within.f a2 0 (wrap64 (a0_1 - 1))).bind fun t173 => (some t173)) else (some false))) = some r := h
 clear h
 replace H := Option.bind_eq_some_iff.mp H
 obtain ⟨t172, A40, H⟩ := H
 replace H : (if t172 = true then ((impl_within.f a2 0 (wrap64 (a0_1 - 1))).bind fun t173 => (some t173)) else (some false)) = some r := H
 have A4 := Aside0.mk A40
 clear A40
 by_cases c5 : t172 = true
 ·subst c5
  have H1 : ((impl_within.f a2 0 (wrap64 (a0_1 - 1))).bind fun t173 => (some t173)) = some r := by rw [if_pos rfl] at H; exact H
  clear H
  have H := H1
  clear H1
  replace H := Option.bind_eq_some_iff.mp H
  obtain ⟨t173, A60, H⟩ := H
  replace H : (some t173) = some r := H
  have A6 := Aside0.mk A60
  clear A60
  obtain rfl := Option.some.inj H
  go_enter Try.func51, Try.ntmps51
  go_wp2_with (first | ((with_reducible refine gate_dst (N := 3) rfl ?_); refine box_event ?hg (N := 3) ?hd (cs := #[.int .i64 a0_0, .int .i64 a0_1]) (t := 71) ?hr ?_; (case hd => rfl); (case hg => rfl); (case hr => first | (go_simp; done) | (go_simp; rfl)); intro gb171 hg w7 hbox hb; have n0_ := Aside0.mk (below_step (by repeat (first | (with_reducible first | exact HB.out | apply below_alloc | apply pw_below_drewN | apply below_drew1) | exact HB.out)) hb); have n1_ := Aside0.mk (hbox); have n2_ := Aside0.mk ((by rw [hg]; exact (below_size (by repeat (first | (with_reducible first | exact HB.out | apply below_alloc | apply pw_below_drewN | apply below_drew1) | exact HB.out))) : w.heap.size ≤ gb171)); have n3_ := Aside0.mk ((by rw [hg]; exact (below_size (by repeat (first | (with_reducible first | exact HB.out | apply below_alloc | apply pw_below_drewN | apply below_drew1) | exact HB.out))) : w.heap.size ≤ gb171)); clear HB; have HB := n0_; have BK171 := n1_; have GW171 := n2_; have GE171 := n3_; clear n0_ n1_ n2_ n3_; clear hb hbox hg; have hcz8_0 : w7.cell? ⟨gb171, 0, none⟩ = some (.int .i64 a0_0) := (blk_cell BK171.out 0).trans rfl; have hcz8_1 : w7.cell? ⟨gb171, 1, none⟩ = some (.int .i64 a0_1) := (blk_cell BK171.out 1).trans rfl; have hfz8_0 := blk_frozen BK171.out 0; have hfz8_1 := blk_frozen BK171.out 1) | ((with_reducible refine gate_callee (f := 52) rfl ?_); refine goesL_ (some 11) rfl rfl Try.func52 (by kernel_rfl) rfl #[.int .i64 a1, .int .i64 0, .int .i64 (wrap64 (a0_0 - 1))] rfl (by (try simp only [List.map_toArray, List.map_cons, List.map_nil]); first | done | rfl | (simp only [List.length_drop, List.length_take]; rfl)) ?_; (with_reducible refine (impl_within.calls a1 0 (wrap64 (a0_0 - 1)) true _ A4.out).mono ?_); rintro e w' ⟨rfl, ⟨nd, rfl⟩⟩; refine ⟨_, rfl, ?_⟩) | (go_at_call 52; (with_reducible refine (impl_within.calls a2 0 (wrap64 (a0_1 - 1)) t173 _ A6.out).mono ?_); rintro e w' ⟨rfl, ⟨nd, rfl⟩⟩))
  go_ret
  exact ⟨by first | rfl | (simp [errW_none, errW_some] <;> rfl) | (simp [*, errW_none, errW_some] <;> rfl), by repeat (first | (with_reducible first | exact HB.out | apply below_alloc | apply pw_below_drewN | apply below_drew1 | refine below_set ?_ GE171.out) | exact HB.out)⟩
 ·replace c5 := Bool.eq_false_iff.mpr c5
  subst c5
  have H1 : (some false) = some r := by rw [if_neg (show ¬ (false = true) by decide)] at H; exact H
  clear H
  have H := H1
  clear H1
  obtain rfl := Option.some.inj H
  go_enter Try.func51, Try.ntmps51
  go_wp2_with (first | ((with_reducible refine gate_dst (N := 3) rfl ?_); refine box_event ?hg (N := 3) ?hd (cs := #[.int .i64 a0_0, .int .i64 a0_1]) (t := 71) ?hr ?_; (case hd => rfl); (case hg => rfl); (case hr => first | (go_simp; done) | (go_simp; rfl)); intro gb171 hg w9 hbox hb; have n0_ := Aside0.mk (below_step (by repeat (first | (with_reducible first | exact HB.out | apply below_alloc | apply pw_below_drewN | apply below_drew1) | exact HB.out)) hb); have n1_ := Aside0.mk (hbox); have n2_ := Aside0.mk ((by rw [hg]; exact (below_size (by repeat (first | (with_reducible first | exact HB.out | apply below_alloc | apply pw_below_drewN | apply below_drew1) | exact HB.out))) : w.heap.size ≤ gb171)); have n3_ := Aside0.mk ((by rw [hg]; exact (below_size (by repeat (first | (with_reducible first | exact HB.out | apply below_alloc | apply pw_below_drewN | apply below_drew1) | exact HB.out))) : w.heap.size ≤ gb171)); clear HB; have HB := n0_; have BK171 := n1_; have GW171 := n2_; have GE171 := n3_; clear n0_ n1_ n2_ n3_; clear hb hbox hg; have hcz10_0 : w9.cell? ⟨gb171, 0, none⟩ = some (.int .i64 a0_0) := (blk_cell BK171.out 0).trans rfl; have hcz10_1 : w9.cell? ⟨gb171, 1, none⟩ = some (.int .i64 a0_1) := (blk_cell BK171.out 1).trans rfl; have hfz10_0 := blk_frozen BK171.out 0; have hfz10_1 := blk_frozen BK171.out 1) | ((with_reducible refine gate_callee (f := 52) rfl ?_); refine goesL_ (some 11) rfl rfl Try.func52 (by kernel_rfl) rfl #[.int .i64 a1, .int .i64 0, .int .i64 (wrap64 (a0_0 - 1))] rfl (by (try simp only [List.map_toArray, List.map_cons, List.map_nil]); first | done | rfl | (simp only [List.length_drop, List.length_take]; rfl)) ?_; (with_reducible refine (impl_within.calls a1 0 (wrap64 (a0_0 - 1)) false _ A4.out).mono ?_); rintro e w' ⟨rfl, ⟨nd, rfl⟩⟩; refine ⟨_, rfl, ?_⟩))
  go_ret
  exact ⟨by first | rfl | (simp [errW_none, errW_some] <;> rfl) | (simp [*, errW_none, errW_some] <;> rfl), by repeat (first | (with_reducible first | exact HB.out | apply below_alloc | apply pw_below_drewN | apply below_drew1 | refine below_set ?_ GE171.out) | exact HB.out)⟩

/-! ### impl_Figure_set: function 60 -/
mutual
def impl_Figure_set.l0 : Nat → Int → List Int → Int → Int → Int → Int → List Int → List Int → Option (Int)
 | 0, _, _, _, _, _, _, _, _ => none
 | k + 1, x3, x9, x10, x11, x175000, x175001, x175002, x175003 => if x11 < x10 then (if 0 ≤ x11 then (if x11 < (x9.length : Int) then (if 0 ≤ (rd x9 x11) then (impl_Figure_set.l0 k (Go.bits .or .u64 x3 (shl .u64 1 (rd x9 x11))) x9 x10 (wrap64 (x11 + 1)) x175000 x175001 x175002 x175003) else (none)) else (none)) else (none)) else (impl_Figure_set.l1 k x3 x175003 (x175003.length : Int) 0 x175000 x175001 x175002 x175003)
def impl_Figure_set.l1 : Nat → Int → List Int → Int → Int → Int → Int → List Int → List Int → Option (Int)
 | 0, _, _, _, _, _, _, _, _ => none
 | k + 1, x3, x21, x22, x23, x175000, x175001, x175002, x175003 => if x23 < x22 then (if 0 ≤ x23 then (if x23 < (x21.length : Int) then ((impl_Figure_grid.f x175000 x175001 x175002 x175003).bind fun bt177 => ((impl_grid_levels.f bt177.1 bt177.2).bind fun t179 => (if 0 ≤ (wrap64 (t179 + (rd x21 x23))) then (impl_Figure_set.l1 k (Go.bits .or .u64 x3 (shl .u64 1 (wrap64 (t179 + (rd x21 x23))))) x21 x22 (wrap64 (x23 + 1)) x175000 x175001 x175002 x175003) else (none)))) else (none)) else (none)) else (some x3)
end
def impl_Figure_set.f (k : Nat) (a0_0 : Int) (a0_1 : Int) (l0_2 : List Int) (l0_3 : List Int) : Option (Int) := impl_Figure_set.l0 k 0 l0_2 (l0_2.length : Int) 0 a0_0 a0_1 l0_2 l0_3
theorem impl_Figure_set.mono_l : ∀ k, (∀ y0 y1 y2 y3 y4 y5 y6 y7, LeO (impl_Figure_set.l0 k y0 y1 y2 y3 y4 y5 y6 y7) (impl_Figure_set.l0 (k + 1) y0 y1 y2 y3 y4 y5 y6 y7)) ∧ (∀ y0 y1 y2 y3 y4 y5 y6 y7, LeO (impl_Figure_set.l1 k y0 y1 y2 y3 y4 y5 y6 y7) (impl_Figure_set.l1 (k + 1) y0 y1 y2 y3 y4 y5 y6 y7))
 | 0 => ⟨fun _ _ _ _ _ _ _ _ r h => by simp [impl_Figure_set.l0] at h, fun _ _ _ _ _ _ _ _ r h => by simp [impl_Figure_set.l1] at h⟩
 | k + 1 => by
  obtain ⟨ih0, ih1⟩ := impl_Figure_set.mono_l k
  refine ⟨?_, ?_⟩
  ·intro y0 y1 y2 y3 y4 y5 y6 y7
   unfold impl_Figure_set.l0
   repeat' first
   | (with_reducible exact ih0 _ _ _ _ _ _ _ _)
   | (with_reducible exact ih1 _ _ _ _ _ _ _ _)
   | (with_reducible exact LeO.refl _)
   | (with_reducible exact LeO.none _)
   | (with_reducible refine LeO.ite ?_ ?_)
   | (with_reducible refine LeO.bind ?_ (fun _ => ?_))
   | exact ih0 _ _ _ _ _ _ _ _
   | exact ih1 _ _ _ _ _ _ _ _
   | exact LeO.none _
   | refine LeO.ite ?_ ?_
   | refine LeO.bind ?_ (fun _ => ?_)
  ·intro y0 y1 y2 y3 y4 y5 y6 y7
   unfold impl_Figure_set.l1
   repeat' first
   | (with_reducible exact ih0 _ _ _ _ _ _ _ _)
   | (with_reducible exact ih1 _ _ _ _ _ _ _ _)
   | (with_reducible exact LeO.refl _)
   | (with_reducible exact LeO.none _)
   | (with_reducible refine LeO.ite ?_ ?_)
   | (with_reducible refine LeO.bind ?_ (fun _ => ?_))
   | exact ih0 _ _ _ _ _ _ _ _
   | exact ih1 _ _ _ _ _ _ _ _
   | exact LeO.none _
   | refine LeO.ite ?_ ?_
   | refine LeO.bind ?_ (fun _ => ?_)
theorem impl_Figure_set.mono : ∀ a0 a1 a2 a3 k, LeO (impl_Figure_set.f k a0 a1 a2 a3) (impl_Figure_set.f (k + 1) a0 a1 a2 a3) := by
 intro a0 a1 a2 a3 k
 obtain ⟨ih0, ih1⟩ := impl_Figure_set.mono_l k
 unfold impl_Figure_set.f
 repeat' first
   | (with_reducible exact ih0 _ _ _ _ _ _ _ _)
   | (with_reducible exact ih1 _ _ _ _ _ _ _ _)
   | (with_reducible exact LeO.refl _)
   | (with_reducible exact LeO.none _)
   | (with_reducible refine LeO.ite ?_ ?_)
   | (with_reducible refine LeO.bind ?_ (fun _ => ?_))
   | exact ih0 _ _ _ _ _ _ _ _
   | exact ih1 _ _ _ _ _ _ _ _
   | exact LeO.none _
   | refine LeO.ite ?_ ?_
   | refine LeO.bind ?_ (fun _ => ?_)
set_option maxHeartbeats 8000000 in
set_option maxRecDepth 100000 in
theorem impl_Figure_set.calls (k : Nat) (a0_0 : Int) (a0_1 : Int) (A0_2 : Option Addr) (c0_2 : Nat) (l0_2 : List Int) (A0_3 : Option Addr) (c0_3 : Nat) (l0_3 : List Int) (r : Int) (w : World) (hr0_2 : Kd.C (Kd.int .i64) w A0_2 l0_2.length l0_2) (hc0_2 : l0_2.length ≤ c0_2) (hr0_3 : Kd.C (Kd.int .i64) w A0_3 l0_3.length l0_3) (hc0_3 : l0_3.length ≤ c0_3) (h : impl_Figure_set.f k a0_0 a0_1 l0_2 l0_3 = some r) :
  Calls Try.prog 60 #[.agg #[.int .i64 a0_0, .int .i64 a0_1, .slice A0_2 l0_2.length c0_2, .slice A0_3 l0_3.length c0_3]] w fun e w' => e = .returned (.int .u64 r) ∧ Below w.heap.size w w' := by
 have hu43 := Try.underlying43
 have HR0_2 := Aside0.mk hr0_2
 have HC0_2 := Aside0.mk hc0_2
 clear hr0_2 hc0_2
 have HR0_3 := Aside0.mk hr0_3
 have HC0_3 := Aside0.mk hc0_3
 clear hr0_3 hc0_3
 have HB := Aside0.mk (Below.refl w.heap.size w)
 have H : (impl_Figure_set.l0 k 0 l0_2 (l0_2.length : Int) 0 a0_0 a0_1 l0_2 l0_3) = some r := h
 clear h
 have H' := Aside0.mk H
 clear H
 go_enter Try.func60, Try.ntmps60
 go_wp2_with (first | ((with_reducible refine gate_dst (N := 1) rfl ?_); refine box_event ?hg (N := 1) ?hd (cs := #[.int .i64 a0_0, .int .i64 a0_1, .slice A0_2 l0_2.length c0_2, .slice A0_3 l0_3.length c0_3]) (t := 43) ?hr ?_; (case hd => rfl); (case hg => rfl); (case hr => first | (go_simp; done) | (go_simp; rfl)); intro gb174 hg w2 hbox hb; have n0_ := Aside0.mk (below_step (by repeat (first | (with_reducible first | exact HB.out | apply below_alloc | apply pw_below_drewN | apply below_drew1) | exact HB.out)) hb); have n1_ := Aside0.mk (hbox); have n2_ := Aside0.mk ((by rw [hg]; exact (below_size (by repeat (first | (with_reducible first | exact HB.out | apply below_alloc | apply pw_below_drewN | apply below_drew1) | exact HB.out))) : w.heap.size ≤ gb174)); have n3_ := Aside0.mk ((by rw [hg]; exact (below_size (by repeat (first | (with_reducible first | exact HB.out | apply below_alloc | apply pw_below_drewN | apply below_drew1) | exact HB.out))) : w.heap.size ≤ gb174)); clear HB; have HB := n0_; have BK174 := n1_; have GW174 := n2_; have GE174 := n3_; clear n0_ n1_ n2_ n3_; clear hb hbox hg; have hcz3_0 : w2.cell? ⟨gb174, 0, none⟩ = some (.int .i64 a0_0) := (blk_cell BK174.out 0).trans rfl; have hcz3_1 : w2.cell? ⟨gb174, 1, none⟩ = some (.int .i64 a0_1) := (blk_cell BK174.out 1).trans rfl; have hcz3_2 : w2.cell? ⟨gb174, 2, none⟩ = some (.slice A0_2 l0_2.length c0_2) := (blk_cell BK174.out 2).trans rfl; have hcz3_3 : w2.cell? ⟨gb174, 3, none⟩ = some (.slice A0_3 l0_3.length c0_3) := (blk_cell BK174.out 3).trans rfl; have hfz3_0 := blk_frozen BK174.out 0; have hfz3_1 := blk_frozen BK174.out 1; have hfz3_2 := blk_frozen BK174.out 2; have hfz3_3 := blk_frozen BK174.out 3))
 go_loopg [3, 11] k (fun kq v3 v11 w' => ∃ (x3_1 : Int) (x11_1 : Int), v3 = .int .u64 x3_1 ∧ v11 = .int .i64 x11_1 ∧ Aside0 (impl_Figure_set.l0 kq x3_1 l0_2 (l0_2.length : Int) x11_1 a0_0 a0_1 l0_2 l0_3 = some r) ∧ Aside0 (kq ≤ k) ∧ Aside0 (w'.heap[gb174]? = some (.cells #[.int .i64 a0_0, .int .i64 a0_1, (.slice A0_2 l0_2.length c0_2), (.slice A0_3 l0_3.length c0_3)] 43 (0, 0))) ∧ Aside0 (Below w.heap.size w w'))
 case atStart => exact ⟨(0), (0), (by first | rfl | (simp; done) | (simp [*]; done)), (by first | rfl | (simp; done) | (simp [*]; done)), H', ⟨Nat.le_refl _⟩, ⟨by (with_reducible repeat (first | refine blk_drewN ?_ _ | refine blk_drew ?_ | refine blk_alloc ?_ _)); exact BK174.out⟩, ⟨by repeat (first | (with_reducible first | exact HB.out | apply below_alloc | apply pw_below_drewN | apply below_drew1 | refine below_set ?_ GE174.out) | exact HB.out)⟩⟩
 case round =>
  clear H'
  try clear p2
  try clear hcz3_0
  try clear hcz3_1
  try clear hcz3_2
  try clear hcz3_3
  try clear hfz3_0
  try clear hfz3_1
  try clear hfz3_2
  try clear hfz3_3
  obtain ⟨x3_1, x11_1, rfl, rfl, HA, HK1, BK174, HB⟩ := hrel
  cases gk with
  | zero => exact absurd HA.out (by simp [impl_Figure_set.l0])
  | succ k1 =>
   have H := HA.out
   clear HA
   simp only [impl_Figure_set.l0] at H
   by_cases c4 : x11_1 < (l0_2.length : Int)
   ·rw [if_pos c4] at H
    have c4b0 : decide (x11_1 < (l0_2.length : Int)) = true := decide_eq_true c4
    clear c4
    by_cases c5 : 0 ≤ x11_1
    ·rw [if_pos c5] at H
     have c5b0 : decide (0 ≤ x11_1) = true := decide_eq_true c5
     clear c5
     by_cases c6 : x11_1 < (l0_2.length : Int)
     ·rw [if_pos c6] at H
      have c6b0 : decide (x11_1 < (l0_2.length : Int)) = true := decide_eq_true c6
      clear c6
      by_cases c7 : 0 ≤ (rd l0_2 x11_1)
      ·rw [if_pos c7] at H
       have c7b0 := eq_true c7
       have c7b1 : decide (0 ≤ (rd l0_2 x11_1)) = true := decide_eq_true c7
       clear c7
       obtain ⟨ji8, hji8⟩ : ∃ j_ : Int, (shl .u64 1 (rd l0_2 x11_1)) = j_ := ⟨_, rfl⟩
       replace H : (impl_Figure_set.l0 k1 (Go.bits .or .u64 x3_1 (ji8)) l0_2 (l0_2.length : Int) (wrap64 (x11_1 + 1)) a0_0 a0_1 l0_2 l0_3) = some r := by first | (rw [hji8] at H; exact H) | (simp only [hji8] at H ⊢; exact H)
       have hji8_ : (IntKind.u64.wrap (1 * 2 ^ min (rd l0_2 x11_1).toNat 64)) = ji8 := hji8
       have hji8z : (rd l0_2 x11_1) ≤ 64 → (IntKind.u64.wrap (1 * 2 ^ (rd l0_2 x11_1).toNat)) = ji8 := shl_small hji8
       have hji8u : (IntKind.u64.wrap (2 ^ min (rd l0_2 x11_1).toNat 64)) = ji8 := by have h_ := hji8_; rw [Int.one_mul] at h_; exact h_
       have hji8v : (rd l0_2 x11_1) ≤ 64 → (IntKind.u64.wrap (2 ^ (rd l0_2 x11_1).toNat)) = ji8 := fun hle_ => by have h_ := hji8z hle_; rw [Int.one_mul] at h_; exact h_
       have H' := Aside0.mk H
       clear H
       have p175 : 0 ≤ (x11_1 : Int) := of_decide_eq_true (by first | (with_reducible assumption) | assumption)
       have q175 : x11_1 < (l0_2.length : Int) := of_decide_eq_true (by first | (with_reducible assumption) | assumption)
       obtain ⟨ad175, e175, hx175_0⟩ := Kd.at_int HR0_2.out x11_1 p175 q175
       cases e175
       replace hx175_0 := (HB.out.cell (World.block_lt_of_cell? w _ hx175_0)).trans hx175_0
       replace p175 := eq_true p175
       replace q175 := eq_true q175
       go_wp2
       go_roundg k1
       case measure => have := HK1.out; omega
       case rel => exact ⟨(Go.bits .or .u64 x3_1 (ji8)), (wrap64 (x11_1 + 1)), (by first | rfl | (simp; done) | (simp only [← hji8] <;> (first | rfl | simp)) | (simp [*]; done)), (by first | rfl | (simp; done) | (simp [*]; done)), H', ⟨by have := HK1.out; omega⟩, ⟨by (with_reducible repeat (first | refine blk_drewN ?_ _ | refine blk_drew ?_ | refine blk_alloc ?_ _)); exact BK174.out⟩, ⟨by repeat (first | (with_reducible first | exact HB.out | apply below_alloc | apply pw_below_drewN | apply below_drew1 | refine below_set ?_ GE174.out) | exact HB.out)⟩⟩
      ·rw [if_neg c7] at H
       exact absurd H (by simp)
     ·rw [if_neg c6] at H
      exact absurd H (by simp)
    ·rw [if_neg c5] at H
     exact absurd H (by simp)
   ·rw [if_neg c4] at H
    have c4b0 : decide (x11_1 < (l0_2.length : Int)) = false := decide_eq_false c4
    clear c4
    have H' := Aside0.mk H
    clear H
    have hcz9_0 : wr.cell? ⟨gb174, 0, none⟩ = some (.int .i64 a0_0) := (blk_cell BK174.out 0).trans rfl
    have hcz9_1 : wr.cell? ⟨gb174, 1, none⟩ = some (.int .i64 a0_1) := (blk_cell BK174.out 1).trans rfl
    have hcz9_2 : wr.cell? ⟨gb174, 2, none⟩ = some (.slice A0_2 l0_2.length c0_2) := (blk_cell BK174.out 2).trans rfl
    have hcz9_3 : wr.cell? ⟨gb174, 3, none⟩ = some (.slice A0_3 l0_3.length c0_3) := (blk_cell BK174.out 3).trans rfl
    have hfz9_0 := blk_frozen BK174.out 0
    have hfz9_1 := blk_frozen BK174.out 1
    have hfz9_2 := blk_frozen BK174.out 2
    have hfz9_3 := blk_frozen BK174.out 3
    go_wp2
    go_loopg [3, 23] k1 (fun kq v3 v23 w' => ∃ (x3_2 : Int) (x23_2 : Int), v3 = .int .u64 x3_2 ∧ v23 = .int .i64 x23_2 ∧ Aside0 (impl_Figure_set.l1 kq x3_2 l0_3 (l0_3.length : Int) x23_2 a0_0 a0_1 l0_2 l0_3 = some r) ∧ Aside0 (kq ≤ k1) ∧ Aside0 (w'.heap[gb174]? = some (.cells #[.int .i64 a0_0, .int .i64 a0_1, (.slice A0_2 l0_2.length c0_2), (.slice A0_3 l0_3.length c0_3)] 43 (0, 0))) ∧ Aside0 (Below w.heap.size w w'))
    case atStart => exact ⟨(x3_1), (0), (by first | rfl | (simp; done) | (simp [*]; done)), (by first | rfl | (simp; done) | (simp [*]; done)), H', ⟨Nat.le_refl _⟩, ⟨by (with_reducible repeat (first | refine blk_drewN ?_ _ | refine blk_drew ?_ | refine blk_alloc ?_ _)); exact BK174.out⟩, ⟨by repeat (first | (with_reducible first | exact HB.out | apply below_alloc | apply pw_below_drewN | apply below_drew1 | refine below_set ?_ GE174.out) | exact HB.out)⟩⟩
    case round =>
     clear H'
     try clear p1
     try clear q1
     try clear hx1
     try clear p2
     try clear c4
     try clear c4b0
     try clear c5
     try clear c5b0
     try clear c6
     try clear c6b0
     try clear p6
     try clear c7
     try clear c7b0
     try clear c7b1
     try clear hcz3_0
     try clear hcz3_1
     try clear hcz3_2
     try clear hcz3_3
     try clear hcz9_0
     try clear hcz9_1
     try clear hcz9_2
     try clear hcz9_3
     try clear hfz3_0
     try clear hfz3_1
     try clear hfz3_2
     try clear hfz3_3
     try clear hfz9_0
     try clear hfz9_1
     try clear hfz9_2
     try clear hfz9_3
     try clear hx175_0
     try clear p175
     try clear p2
     try clear q175
     obtain ⟨x3_2, x23_2, rfl, rfl, HA, HK2, BK174, HB⟩ := hrel
     cases gk with
     | zero => exact absurd HA.out (by simp [impl_Figure_set.l1])
     | succ k2 =>
      have H := HA.out
      clear HA
      simp only [impl_Figure_set.l1] at H
      by_cases c10 : x23_2 < (l0_3.length : Int)
      ·rw [if_pos c10] at H
       have c10b0 : decide (x23_2 < (l0_3.length : Int)) = true := decide_eq_true c10
       clear c10
       by_cases c11 : 0 ≤ x23_2
       ·rw [if_pos c11] at H
        have c11b0 : decide (0 ≤ x23_2) = true := decide_eq_true c11
        clear c11
        by_cases c12 : x23_2 < (l0_3.length : Int)
        ·rw [if_pos c12] at H
         have c12b0 : decide (x23_2 < (l0_3.length : Int)) = true := decide_eq_true c12
         clear c12
         replace H := Option.bind_eq_some_iff.mp H
         obtain ⟨⟨t177, t178⟩, A130, H⟩ := H
         replace H : ((impl_grid_levels.f t177 t178).bind fun t179 => (if 0 ≤ (wrap64 (t179 + (rd l0_3 x23_2))) then (impl_Figure_set.l1 k2 (Go.bits .or .u64 x3_2 (shl .u64 1 (wrap64 (t179 + (rd l0_3 x23_2))))) l0_3 (l0_3.length : Int) (wrap64 (x23_2 + 1)) a0_0 a0_1 l0_2 l0_3) else (none))) = some r := H
         have A13 := Aside0.mk A130
         clear A130
         replace H := Option.bind_eq_some_iff.mp H
         obtain ⟨t179, A140, H⟩ := H
         replace H : (if 0 ≤ (wrap64 (t179 + (rd l0_3 x23_2))) then (impl_Figure_set.l1 k2 (Go.bits .or .u64 x3_2 (shl .u64 1 (wrap64 (t179 + (rd l0_3 x23_2))))) l0_3 (l0_3.length : Int) (wrap64 (x23_2 + 1)) a0_0 a0_1 l0_2 l0_3) else (none)) = some r := H
         have A14 := Aside0.mk A140
         clear A140
         obtain ⟨ji15, hji15⟩ : ∃ j_ : Int, (wrap64 (t179 + (rd l0_3 x23_2))) = j_ := ⟨_, rfl⟩
         replace H : (if 0 ≤ (ji15) then (impl_Figure_set.l1 k2 (Go.bits .or .u64 x3_2 (shl .u64 1 (ji15))) l0_3 (l0_3.length : Int) (wrap64 (x23_2 + 1)) a0_0 a0_1 l0_2 l0_3) else (none)) = some r := by first | (rw [hji15] at H; exact H) | (simp only [hji15] at H ⊢; exact H)
         (try rw [hji15] at A13)
         (try rw [hji15] at A14)
         have hji15w : (IntKind.i64.wrap (t179 + (rd l0_3 x23_2))) = ji15 := (i64_w _).trans hji15
         by_cases c16 : 0 ≤ (ji15)
         ·rw [if_pos c16] at H
          have c16b0 := eq_true c16
          have c16b1 : decide (0 ≤ (ji15)) = true := decide_eq_true c16
          clear c16
          obtain ⟨ji17, hji17⟩ : ∃ j_ : Int, (shl .u64 1 (ji15)) = j_ := ⟨_, rfl⟩
          replace H : (impl_Figure_set.l1 k2 (Go.bits .or .u64 x3_2 (ji17)) l0_3 (l0_3.length : Int) (wrap64 (x23_2 + 1)) a0_0 a0_1 l0_2 l0_3) = some r := by first | (rw [hji17] at H; exact H) | (simp only [hji17] at H ⊢; exact H)
          (try rw [hji17] at A13)
          (try rw [hji17] at A14)
          have hji17_ : (IntKind.u64.wrap (1 * 2 ^ min (ji15).toNat 64)) = ji17 := hji17
          have hji17z : (ji15) ≤ 64 → (IntKind.u64.wrap (1 * 2 ^ (ji15).toNat)) = ji17 := shl_small hji17
          have hji17u : (IntKind.u64.wrap (2 ^ min (ji15).toNat 64)) = ji17 := by have h_ := hji17_; rw [Int.one_mul] at h_; exact h_
          have hji17v : (ji15) ≤ 64 → (IntKind.u64.wrap (2 ^ (ji15).toNat)) = ji17 := fun hle_ => by have h_ := hji17z hle_; rw [Int.one_mul] at h_; exact h_
          have H' := Aside0.mk H
          clear H
          have p176 : 0 ≤ (x23_2 : Int) := of_decide_eq_true (by first | (with_reducible assumption) | assumption)
          have q176 : x23_2 < (l0_3.length : Int) := of_decide_eq_true (by first | (with_reducible assumption) | assumption)
          obtain ⟨ad176, e176, hx176_0⟩ := Kd.at_int HR0_3.out x23_2 p176 q176
          cases e176
          replace hx176_0 := (HB.out.cell (World.block_lt_of_cell? w _ hx176_0)).trans hx176_0
          replace p176 := eq_true p176
          replace q176 := eq_true q176
          have hcz18_0 : wr.cell? ⟨gb174, 0, none⟩ = some (.int .i64 a0_0) := (blk_cell BK174.out 0).trans rfl
          have hcz18_1 : wr.cell? ⟨gb174, 1, none⟩ = some (.int .i64 a0_1) := (blk_cell BK174.out 1).trans rfl
          have hcz18_2 : wr.cell? ⟨gb174, 2, none⟩ = some (.slice A0_2 l0_2.length c0_2) := (blk_cell BK174.out 2).trans rfl
          have hcz18_3 : wr.cell? ⟨gb174, 3, none⟩ = some (.slice (some ad176) l0_3.length c0_3) := (blk_cell BK174.out 3).trans rfl
          have hfz18_0 := blk_frozen BK174.out 0
          have hfz18_1 := blk_frozen BK174.out 1
          have hfz18_2 := blk_frozen BK174.out 2
          have hfz18_3 := blk_frozen BK174.out 3
          go_wp2_with (first | ((with_reducible refine gate_callee (f := 50) rfl ?_); refine goesL_ (some 29) rfl rfl Try.func50 (by kernel_rfl) rfl #[.agg #[.int .i64 a0_0, .int .i64 a0_1, .slice A0_2 l0_2.length c0_2, .slice (some ad176) l0_3.length c0_3]] rfl (by (try simp only [List.map_toArray, List.map_cons, List.map_nil]); first | done | rfl | (simp only [List.length_drop, List.length_take]; rfl)) ?_; (with_reducible refine (impl_Figure_grid.calls a0_0 a0_1 _ _ l0_2 _ _ l0_3 t177 t178 _ ?side1 ?side2 ?side3 ?side4 A13.out).mono ?_); (case side1 => repeat (first | exact (Kd.C_below HR0_2.out HB.out) | (with_reducible refine Kd.C_alloc ?_ _) | (with_reducible refine Kd.C_drewN ?_ _) | (with_reducible refine Kd.C_drew ?_))); (case side2 => exact HC0_2.out); (case side3 => repeat (first | exact (Kd.C_below HR0_3.out HB.out) | (with_reducible refine Kd.C_alloc ?_ _) | (with_reducible refine Kd.C_drewN ?_ _) | (with_reducible refine Kd.C_drew ?_))); (case side4 => exact HC0_3.out); rintro e w19 ⟨rfl, hb⟩; refine ⟨_, rfl, ?_⟩; have n0_ := Aside0.mk (blk_below (g := gb174) (o := .cells #[.int .i64 a0_0, .int .i64 a0_1, .slice A0_2 l0_2.length c0_2, .slice (some ad176) l0_3.length c0_3] 43 (0, 0)) (by (with_reducible repeat (first | refine blk_drewN ?_ _ | refine blk_drew ?_ | refine blk_alloc ?_ _)); exact BK174.out) hb); have n1_ := Aside0.mk (below_step (by repeat (first | (with_reducible first | exact HB.out | apply below_alloc | apply pw_below_drewN | apply below_drew1 | refine below_set ?_ GE174.out) | exact HB.out)) hb); clear BK174; clear HB; have BK174 := n0_; have HB := n1_; clear n0_ n1_; (try clear hb); (try clear hb2); (try clear hk); (try clear hi)) | ((with_reducible refine gate_callee (f := 79) rfl ?_); refine goesL_ (some 30) rfl rfl Try.func79 (by kernel_rfl) rfl #[.agg #[.int .i64 t177, .int .i64 t178]] rfl (by (try simp only [List.map_toArray, List.map_cons, List.map_nil]); first | done | rfl | (simp only [List.length_drop, List.length_take]; rfl)) ?_; (with_reducible refine (impl_grid_levels.calls t177 t178 t179 _ A14.out).mono ?_); rintro e w20 ⟨rfl, hb⟩; refine ⟨_, rfl, ?_⟩; have n0_ := Aside0.mk (blk_below (g := gb174) (o := .cells #[.int .i64 a0_0, .int .i64 a0_1, .slice A0_2 l0_2.length c0_2, .slice (some ad176) l0_3.length c0_3] 43 (0, 0)) (by (with_reducible repeat (first | refine blk_drewN ?_ _ | refine blk_drew ?_ | refine blk_alloc ?_ _)); exact BK174.out) hb); have n1_ := Aside0.mk (below_step (by repeat (first | (with_reducible first | exact HB.out | apply below_alloc | apply pw_below_drewN | apply below_drew1 | refine below_set ?_ GE174.out) | exact HB.out)) hb); clear BK174; clear HB; have BK174 := n0_; have HB := n1_; clear n0_ n1_; (try clear hb); (try clear hb2); (try clear hk); (try clear hi)))
          go_roundg k2
          case measure => have := HK1.out; have := HK2.out; omega
          case rel => exact ⟨(Go.bits .or .u64 x3_2 (ji17)), (wrap64 (x23_2 + 1)), (by first | rfl | (simp; done) | (simp only [← hji17] <;> (first | rfl | simp)) | (simp [*]; done)), (by first | rfl | (simp; done) | (simp [*]; done)), H', ⟨by have := HK1.out; have := HK2.out; omega⟩, ⟨by (with_reducible repeat (first | refine blk_drewN ?_ _ | refine blk_drew ?_ | refine blk_alloc ?_ _)); exact BK174.out⟩, ⟨by repeat (first | (with_reducible first | exact HB.out | apply below_alloc | apply pw_below_drewN | apply below_drew1 | refine below_set ?_ GE174.out) | exact HB.out)⟩⟩
         ·rw [if_neg c16] at H
          exact absurd H (by simp)
        ·rw [if_neg c12] at H
         exact absurd H (by simp)
       ·rw [if_neg c11] at H
        exact absurd H (by simp)
      ·rw [if_neg c10] at H
       have c10b0 : decide (x23_2 < (l0_3.length : Int)) = false := decide_eq_false c10
       clear c10
       obtain rfl := Option.some.inj H
       go_wp2
       go_ret
       exact ⟨by first | rfl | (simp [errW_none, errW_some] <;> rfl) | (simp [*, errW_none, errW_some] <;> rfl), by repeat (first | (with_reducible first | exact HB.out | apply below_alloc | apply pw_below_drewN | apply below_drew1 | refine below_set ?_ GE174.out) | exact HB.out)⟩

/-! ### impl_of: function 82 -/
/-- The four cells of a square. -/
def encQ (q : S79) : List Value := [.int .i64 q.f0, .int .i64 q.f1, .int .i64 q.f2, .int .u64 q.f3]
def aggQ (q : S79) : Value := .agg #[.int .i64 q.f0, .int .i64 q.f1, .int .i64 q.f2, .int .u64 q.f3]
/-- Where p holds first, counted from i; -1: nowhere. -/
def idxQ (p : S79 → Bool) : List S79 → Int → Int
 | [], _ => -1
 | x :: xs, i => if p x = true then i else idxQ p xs (i + 1)
theorem idxQ_spec (p : S79 → Bool) : ∀ (l : List S79) (i : Int), 0 ≤ i → (idxQ p l i = -1 ∧ l.filter (fun x => !p x) = l) ∨ ∃ k, k < l.length ∧ idxQ p l i = i + (k : Int) ∧ (∃ h : k < l.length, p l[k] = true) ∧ (l.take k).filter (fun x => !p x) = l.take k
 | [], i, _ => .inl ⟨rfl, rfl⟩
 | x :: xs, i, hi => by
  by_cases hp : p x = true
  ·exact .inr ⟨0, by simp, by simp [idxQ, hp], ⟨by simp, by simpa using hp⟩, rfl⟩
  ·have hp' : p x = false := by simpa using hp
   rcases idxQ_spec p xs (i + 1) (by omega) with ⟨h1, h2⟩ | ⟨k, h1, h2, ⟨h3, h4⟩, h5⟩
   ·exact .inl ⟨by simp [idxQ, hp', h1], by simp [hp', h2]⟩
   ·refine .inr ⟨k + 1, by simpa using h1, by simp only [idxQ, hp']; rw [if_neg (by decide), h2]; omega, ⟨by simpa using h1, by simpa using h4⟩, by simp [hp', h5]⟩
/-- A row is cut, and what lies behind is written over. -/
theorem R_cutover {α : Type} {d : Kd α} {e base g n cap i : Nat} {ok : Nat → Prop} {W : World} {xs : List α} (h : d.R e W base ok (.slice (some ⟨g, 0, none⟩) n cap) xs) (hi : i ≤ n) (seg : List Value) (hs : i * d.sz + seg.length ≤ n * d.sz) :
  d.R e (W.setCells g (i * d.sz) seg) base ok (.slice (some ⟨g, 0, none⟩) i cap) (xs.take i) := by
 obtain ⟨hn, hnc, _⟩ := Kd.R_reads' h
 obtain ⟨hok, inner, ho, hr⟩ := Kd.R_take h (show i ≤ xs.length by omega)
 obtain ⟨ho1, ho2⟩ := ho
 refine ⟨hok, inner, ⟨ho1, ?_⟩, hr.imp_ (fun _ _ hp => d.M_move (fun k hk => setCells_far seg _ k (fun he => hk.2 (by rw [he]; simp [Value.ownBlock]))) hp)⟩
 rcases ho2 with ⟨hv, _⟩ | ⟨g', cap', cur, hv, hb, hh, hnc', hcm, hcs, ht⟩
 ·cases hv
 injection hv with ha hl hc
 injection ha with ha
 injection ha with hg
 subst hg; subst hc
 have hfit : i * d.sz + seg.length ≤ cur.size := by
  have : n * d.sz ≤ cap * d.sz := Nat.mul_le_mul_right _ hnc
  omega
 obtain ⟨cur', h3, h4, h5⟩ := setCells_row seg (i * d.sz) W cur hh hfit
 refine .inr ⟨g, cap, cur', by rw [← hl], hb, h3, hnc', hcm, by rw [h4, hcs], ?_⟩
 have hle : (xs.take i).length * d.sz = i * d.sz := by rw [List.length_take, Nat.min_eq_left (by omega)]
 rw [hle] at ht ⊢
 have hcl : cur.toList.length = cur.size := by simp
 rw [h5, List.append_assoc, List.take_append_of_le_length (by rw [List.length_take]; omega), List.take_take, Nat.min_self]
 exact ht
set_option maxHeartbeats 8000000 in
set_option maxRecDepth 100000 in
theorem of_closure (q : S79) (s : Int) (b0 : Nat) (W : World) (hc : W.cell? ⟨b0, 0, none⟩ = some (.int .u64 s)) :
  Calls Try.prog 97 #[aggQ q, .pointer (some ⟨b0, 0, none⟩)] W fun e w' => e = .returned (.bool (Go.bits .andNot .u64 q.f3 s != 0)) ∧ Below W.heap.size W w' := by
 have hb0 : b0 < W.heap.size := World.block_lt_of_cell? W _ hc
 have hne : b0 ≠ W.heap.size := by omega
 obtain ⟨x, y, z, u⟩ := q
 unfold aggQ
 show Calls Try.prog 97 #[.agg #[.int .i64 x, .int .i64 y, .int .i64 z, .int .u64 u], .pointer (some ⟨b0, 0, none⟩)] W _
 go_enter Try.func97, Try.ntmps97
 go_wp2
 go_ret
 exact ⟨rfl, (Below.refl _ _).alloc (Nat.le_refl _) _⟩
set_option maxHeartbeats 8000000 in
set_option maxRecDepth 100000 in
theorem IndexFuncQ (lb : Array Value) (p : S79 → Bool) (w : World) (A : Option Addr) (c : Nat) (l : List S79) (hr : Kd.C k79 w A l.length l) (hl : l.length ≤ 1000000)
  (hp : ∀ (q : S79) (W : World), Below w.heap.size w W → Calls Try.prog 97 (#[aggQ q] ++ lb) W fun e w' => e = .returned (.bool (p q)) ∧ Below W.heap.size W w') :
  Calls Try.prog 81 #[.slice A l.length c, .func (.func 97) #[] lb] w fun e w' => e = .returned (.int .i64 (idxQ p l 0)) ∧ Below w.heap.size w w' := by
 have eg : ∀ args w, (callFunc 97 args).run Try.prog w = .ok (.enter 97 args) w := enters_of Try.func97 (by kernel_rfl) rfl
 have HR := Aside0.mk hr
 have HP := Aside0.mk hp
 clear hr hp
 go_enter Try.func81, Try.ntmps81
 go_wp2
 go_loopg [5, 8] l.length (fun gg _ s8 wr => ∃ kk : Nat, kk ≤ l.length ∧ l.length - kk ≤ gg ∧ s8 = .int .i64 kk ∧ Aside0 (Below w.heap.size w wr) ∧ Aside0 (idxQ p l 0 = idxQ p (l.drop kk) kk))
 case atStart => exact ⟨0, Nat.zero_le _, by omega, rfl, ⟨Below.refl _ _⟩, ⟨by simp⟩⟩
 case round =>
  obtain ⟨kk, hkk, hg, rfl, HB, HI⟩ := hrel
  by_cases hlt : kk < l.length
  ·have hltz : (kk : Int) < (l.length : Int) := by omega
   obtain ⟨ad, hA, h0, h1, h2, h3⟩ := at_T79 (Kd.C_below HR.out HB.out) (kk : Int) (by omega) (by omega)
   rw [Int.toNat_natCast] at h0 h1 h2 h3
   subst hA
   have hx : rd_T79 l (kk : Int) = l[kk] := by unfold rd_T79; rw [Int.toNat_natCast]; simp [List.getD_eq_getElem?_getD, hlt]
   rw [hx] at h0 h1 h2 h3
   have HD := HI.out
   rw [List.drop_eq_getElem_cons hlt] at HD
   simp only [idxQ] at HD
   clear HI hx
   generalize l[kk] = y at *
   have hcall := fun W hb => HP.out y W hb
   unfold aggQ at hcall
   have HC := Aside0.mk hcall
   clear hcall
   cases hq : p y with
   | true =>
    rw [hq, if_pos rfl] at HD
    have HE := Aside0.mk HD
    have HQ := Aside0.mk hq
    clear HD hq
    go_wp2_with (go_at_fn 97; (with_reducible refine (HC.out _ (by repeat (first | exact HB.out | apply pw_below_drewN | apply below_drew))).mono ?_); rw [HQ.out]; rintro e w' ⟨rfl, hb⟩)
    go_ret
    exact ⟨by rw [HE.out] <;> rfl, HB.out.trans (hb.mono HB.out.size)⟩
   | false =>
    rw [hq, if_neg (by decide)] at HD
    have HE := Aside0.mk HD
    have HQ := Aside0.mk hq
    clear HD hq
    go_wp2_with (go_at_fn 97; (with_reducible refine (HC.out _ (by repeat (first | exact HB.out | apply pw_below_drewN | apply below_drew))).mono ?_); rw [HQ.out]; rintro e w' ⟨rfl, hb⟩)
    go_roundg (l.length - (kk + 1))
    case measure => omega
    case rel => exact ⟨kk + 1, by omega, by omega, by go_num, ⟨HB.out.trans (hb.mono HB.out.size)⟩, ⟨HE.out⟩⟩
  ·have hltz : ¬ (kk : Int) < (l.length : Int) := by omega
   have HE : Aside0 (idxQ p l 0 = -1) := ⟨HI.out.trans (by rw [List.drop_of_length_le (by omega)] <;> rfl)⟩
   clear HI
   go_wp2
   go_ret
   exact ⟨by rw [HE.out] <;> rfl, HB.out⟩
/-- Clone: a row of the call's own that holds the same. -/
theorem own_start (d : Kd S79) (e : Nat) (w : World) : d.R e (w.alloc (.cells #[] e)) w.heap.size (fun _ => True) (.slice (some ⟨w.heap.size, 0, none⟩) 0 0) [] :=
 ⟨fun _ _ => trivial, [], World.ownsRow_made w #[] 0 (Nat.le_refl _) (Nat.zero_le _) (by simp), ⟨by simp, fun j x hj => by simp at hj⟩⟩
set_option maxHeartbeats 8000000 in
set_option maxRecDepth 100000 in
theorem CloneQ (w : World) (A : Option Addr) (c : Nat) (l : List S79) (hr : Kd.C k79 w A l.length l) (hl : l.length ≤ 1000000) :
  Calls Try.prog 96 #[.slice A l.length c] w fun e w' => ∃ v, e = .returned v ∧ Kd.R k79 79 w' w.heap.size (fun _ => True) v l ∧ Below w.heap.size w w' := by
 have q : ∀ (w : World) (a : Option Addr) (n c n' c' : Nat), (binOp .eql 75 (.slice a n c) (.slice none n' c')).run Try.prog w = .ok (.bool a.isNone) w := fun w a n c n' c' => Go.Lib.run_eql_slice_nil w _ _ a n c n' c' Try.underlying75
 cases A with
 | none =>
  have h0 : l = [] := by
   rcases Nat.eq_zero_or_pos l.length with h0 | h0
   ·exact List.eq_nil_of_length_eq_zero h0
   ·obtain ⟨ad, h, _⟩ := hr.2.2 h0
    cases h
  subst h0
  go_enter Try.func96, Try.ntmps96
  go_wp2
  go_ret
  exact ⟨_, rfl, Kd.R_nil _ _ _ _ _, Below.refl _ _⟩
 | some ad =>
  have HR := Aside0.mk hr
  clear hr
  go_enter Try.func96, Try.ntmps96
  go_wp2_with (at_builtin; (refine Kd.R_append_rows k79 (w0 := w) w.heap.size rfl (.tmp 5) (.tmp 6) 75 79 (.agg #[.int .i64 0, .int .i64 0, .int .i64 0, .int .u64 0]) 32 rfl Try.underlying75 info79 rfl (by decide) (by omega) (.slice (some ⟨w.heap.size, 0, none⟩) 0 0) [] l _ _ _ (fun _ => True) (fun _ => False) rfl rfl ?aO ?aR (fun _ _ h => h) (fun _ h => h.elim) ?aF ?aB ?aS ?aL ?_))
  case aO => exact own_start _ _ _
  case aR => exact Kd.C_alloc HR.out _
  case aF => exact fun _ _ => trivial
  case aB => exact (Below.refl _ _).alloc (Nat.le_refl _) _
  case aS => simp
  case aL => simp; omega
  intro v1 w1 hR hB _ _
  go_wp2
  go_ret
  exact ⟨_, rfl, hR, hB⟩
/-- clear at elements of several cells. -/
theorem run_clear_k {P : Program} (w : World) (t e ty : TypeId) (z : Value) (ht : P.underlying t = some (.slice e)) (hv : ∀ w, (zeroValue e).run P w = .ok z w) (b o n c : Nat) (hn : 0 < n) (h1 : ∀ v ∈ (Builtin.zeroCells z.cells n).toList, v.oneCell' = true)
  (hc : ∀ j, j < (Builtin.zeroCells z.cells n).toList.length → (w.cell? ⟨b, o + j, none⟩).isSome = true) (hf : ∀ j, j < (Builtin.zeroCells z.cells n).toList.length → w.frozen? ⟨b, o + j, none⟩ = false) :
  (Builtin.clear_ #[t] ty #[.slice (some ⟨b, o, none⟩) n c]).run P w = .ok (.tuple #[]) (w.setCells b o (Builtin.zeroCells z.cells n).toList) := by
 have hst := run_storeCells_cells (P := P) b o (Builtin.zeroCells z.cells n).toList 0 w (by simpa using hc) (by simpa using hf) h1
 simp only [Nat.add_zero] at hst
 obtain ⟨m, rfl⟩ : ∃ m, n = m + 1 := ⟨n - 1, by omega⟩
 simp [Builtin.clear_, run_underlying ht, hv, hst]
theorem below_setCells {B g : Nat} {w W : World} (h : Below B w W) (hg : B ≤ g) : ∀ (vs : List Value) (o : Nat), Below B w (W.setCells g o vs) := by
 intro vs
 induction vs generalizing W with
 | nil => intro o; exact h
 | cons v r ih => intro o; exact ih (h.setCell (p := ⟨g, o, none⟩) hg v) (o + 1)
theorem zero_one (n : Nat) : ∀ v ∈ (Builtin.zeroCells (Value.agg #[.int .i64 0, .int .i64 0, .int .i64 0, .int .u64 0]).cells n).toList, v.oneCell' = true := by
 intro v hv
 simp only [Builtin.zeroCells, Value.cells, Array.toList_map, List.mem_map] at hv
 obtain ⟨k, _, rfl⟩ := hv
 have hk : k % 4 = 0 ∨ k % 4 = 1 ∨ k % 4 = 2 ∨ k % 4 = 3 := by omega
 show (#[Value.int .i64 0, .int .i64 0, .int .i64 0, .int .u64 0][k % 4]!).oneCell' = true
 rcases hk with h | h | h | h <;> rw [h] <;> rfl
theorem take_snoc_f {p : S79 → Bool} {l : List S79} {j : Nat} (hj : j < l.length) : (l.take (j + 1)).filter p = (l.take j).filter p ++ (if p l[j] = true then [l[j]] else []) := by
 rw [List.take_succ_eq_append_getElem hj, List.filter_append]
 congr 1
 by_cases h : p l[j] = true
 ·simp [h]
 ·simp [h]
def inD (p : S79 → Bool) (l xs : List S79) (i j : Nat) : Prop := xs.length = l.length ∧ xs.take i = (l.take j).filter (fun q => !p q) ∧ xs.drop j = l.drop j
theorem inD_get {p : S79 → Bool} {l xs : List S79} {i j : Nat} (h : inD p l xs i j) (hj : j < l.length) : rd_T79 xs (j : Int) = l[j] := by
 obtain ⟨h1, _, h3⟩ := h
 have hj' : j < xs.length := by omega
 rw [List.drop_eq_getElem_cons hj', List.drop_eq_getElem_cons hj] at h3
 unfold rd_T79
 rw [Int.toNat_natCast, List.getD_eq_getElem?_getD, List.getElem?_eq_getElem hj']
 exact (List.cons.inj h3).1
theorem inD_skip {p : S79 → Bool} {l xs : List S79} {i j : Nat} (h : inD p l xs i j) (hj : j < l.length) (hp : p l[j] = true) : inD p l xs i (j + 1) := by
 obtain ⟨h1, h2, h3⟩ := h
 refine ⟨h1, ?_, ?_⟩
 ·rw [h2, take_snoc_f hj, if_neg (by simp [hp]), List.append_nil]
 ·have := congrArg (List.drop 1) h3
  rwa [List.drop_drop, List.drop_drop] at this
theorem inD_keep {p : S79 → Bool} {l xs : List S79} {i j : Nat} (h : inD p l xs i j) (hj : j < l.length) (hij : i < j) (hp : p l[j] = false) : inD p l (xs.set i l[j]) (i + 1) (j + 1) := by
 obtain ⟨h1, h2, h3⟩ := h
 refine ⟨by rw [List.length_set, h1], ?_, ?_⟩
 ·rw [take_snoc_f hj, if_pos (by simp [hp]), ← h2, List.take_succ_eq_append_getElem (by rw [List.length_set]; omega), List.take_set_of_le (Nat.le_refl _), List.getElem_set_self]
 ·rw [List.drop_set_of_lt (by omega)]
  have := congrArg (List.drop 1) h3
  rwa [List.drop_drop, List.drop_drop] at this
theorem inD_start {p : S79 → Bool} {l : List S79} {k : Nat} (hk : k < l.length) (hp : p l[k] = true) (hf : (l.take k).filter (fun q => !p q) = l.take k) : inD p l l k (k + 1) := by
 refine ⟨rfl, ?_, rfl⟩
 rw [take_snoc_f hk, if_neg (by simp [hp]), List.append_nil, hf]
set_option maxHeartbeats 8000000 in
set_option maxRecDepth 100000 in
theorem DeleteFuncQ (s : Int) (b0 B : Nat) (w : World) (A : Option Addr) (c : Nat) (l : List S79) (hl : l.length ≤ 1000000) (hR : Kd.R k79 79 w B (fun _ => True) (.slice A l.length c) l) (hB : B ≤ w.heap.size)
  (hb0 : w.cell? ⟨b0, 0, none⟩ = some (.int .u64 s)) (hne : (Value.slice A l.length c).ownBlock ≠ some b0) :
  Calls Try.prog 95 #[.slice A l.length c, .func (.func 97) #[] #[.pointer (some ⟨b0, 0, none⟩)]] w fun e w' => ∃ v, e = .returned v ∧ Kd.R k79 79 w' B (fun _ => True) v (l.filter (fun q => !(Go.bits .andNot .u64 q.f3 s != 0))) ∧ Below B w w' := by
 obtain ⟨p, hp⟩ : ∃ p : S79 → Bool, p = fun q => Go.bits .andNot .u64 q.f3 s != 0 := ⟨_, rfl⟩
 have hblt : b0 < w.heap.size := World.block_lt_of_cell? w _ hb0
 have eg : ∀ args w, (callFunc 97 args).run Try.prog w = .ok (.enter 97 args) w := enters_of Try.func97 (by kernel_rfl) rfl
 have hcl : ∀ (q : S79) (W : World), W.cell? ⟨b0, 0, none⟩ = some (.int .u64 s) → Calls Try.prog 97 #[aggQ q, .pointer (some ⟨b0, 0, none⟩)] W fun e w' => e = .returned (.bool (p q)) ∧ Below W.heap.size W w' := fun q W hc => by
  rw [hp]
  exact of_closure q s b0 W hc
 have hIF := IndexFuncQ #[.pointer (some ⟨b0, 0, none⟩)] p w A c l (Kd.R_reads' hR).2.2 hl (fun q W hb => hcl q W ((hb.cell (p := ⟨b0, 0, none⟩) hblt).trans hb0))
 rw [show (fun q : S79 => !(Go.bits .andNot .u64 q.f3 s != 0)) = (fun q => !p q) by rw [hp]]
 clear hp
 have HC := Aside0.mk hcl
 clear hcl
 rcases idxQ_spec p l 0 (by omega) with ⟨h1, h2⟩ | ⟨k0, h1, h2, ⟨h3, h4⟩, h5⟩
 ·rw [h1] at hIF
  rw [h2]
  have HI := Aside0.mk hIF
  have HR := Aside0.mk hR
  clear hIF hR hb0 h1 h2 hne
  go_enter Try.func95, Try.ntmps95
  go_wp2_with (go_at_call 81; (with_reducible refine HI.out.mono ?_); rintro e w' ⟨rfl, hb⟩)
  go_ret
  exact ⟨_, rfl, Kd.R_below HR.out hb, hb.mono hB⟩
 ·rw [h2] at hIF
  rw [show (0 : Int) + (k0 : Int) = (k0 : Int) by omega] at hIF
  have hnil : l.length ≠ 0 := by omega
  have hg : ∃ g, A = some ⟨g, 0, none⟩ ∧ B ≤ g := by
   obtain ⟨inner, ho⟩ := Kd.R_own hR
   rcases ho.2 with ⟨hv, h0⟩ | ⟨g, cap, cur, hv, hb, _⟩
   ·exact absurd h0 hnil
   ·injection hv with ha
    exact ⟨g, ha, hb⟩
  obtain ⟨g, rfl, hBg⟩ := hg
  have hgb : g ≠ b0 := fun he => hne (by rw [he]; rfl)
  have hD := inD_start h3 h4 h5
  have hglt : g < w.heap.size := Kd.R_lt hR g rfl
  have HI := Aside0.mk hIF
  have HR := Aside0.mk hR
  have H0 := Aside0.mk hb0
  have HD := Aside0.mk hD
  have hc1 := (Kd.R_reads' hR).2.1
  have hne1 : ((k0 : Int) == -1) = false := beq_eq_false_iff_ne.2 (by omega)
  clear hIF hR hb0 h2 h3 h4 h5 hne hD
  go_enter Try.func95, Try.ntmps95
  go_wp2_with (go_at_call 81; (with_reducible refine HI.out.mono ?_); rintro e w' ⟨rfl, hb⟩)
  go_loopg [5, 6, 7] l.length (fun gg s5 s6 _ wr => ∃ (i j : Nat) (xs : List S79), s5 = .int .i64 i ∧ s6 = .int .i64 j ∧ j ≤ l.length ∧ l.length - j ≤ gg ∧ i < j ∧ Aside0 (Below B w wr) ∧ Aside0 (Kd.R k79 79 wr B (fun _ => True) (.slice (some ⟨g, 0, none⟩) l.length c) xs) ∧ Aside0 (wr.cell? ⟨b0, 0, none⟩ = some (.int .u64 s)) ∧ Aside0 (inD p l xs i j))
  case atStart => exact ⟨k0, k0 + 1, l, rfl, by go_num, by omega, by omega, by omega, ⟨hb.mono hB⟩, ⟨Kd.R_below HR.out hb⟩, ⟨(hb.cell (p := ⟨b0, 0, none⟩) hblt).trans H0.out⟩, HD⟩
  case round =>
   clear HI HR H0 HD hb hne1
   obtain ⟨i, j, xs, rfl, rfl, hj, hgg, hij, HB, HR, H0, HD⟩ := hrel
   have hxl : xs.length = l.length := HD.out.1
   by_cases hlt : j < l.length
   ·have hltz : (j : Int) < (l.length : Int) := by omega
    obtain ⟨ad, hA, h0, h1, h2, h3⟩ := at_T79 (Kd.R_reads' HR.out).2.2 (j : Int) (by omega) (by omega)
    rw [Int.toNat_natCast] at h0 h1 h2 h3
    injection hA with hA
    subst hA
    rw [inD_get HD.out hlt] at h0 h1 h2 h3
    have hkeep := fun hq => inD_keep (p := p) HD.out hlt hij hq
    have hskip := fun hq => inD_skip (p := p) HD.out hlt hq
    generalize l[j] = y at *
    have HK := Aside0.mk hkeep
    have HS := Aside0.mk hskip
    clear hkeep hskip
    simp only [add_plain] at h0 h1 h2 h3
    have hcall := fun W hb => HC.out y W hb
    unfold aggQ at hcall
    have HCC := Aside0.mk hcall
    clear hcall
    cases hq : p y with
    | true =>
     have HQ := Aside0.mk hq
     clear hq
     go_wp2_with (go_at_fn 97; (with_reducible refine (HCC.out _ (by first | exact H0.out | exact Go.Lib.cell?_alloc_some _ H0.out)).mono ?_); rw [HQ.out]; rintro e w1 ⟨rfl, hb⟩)
     go_roundg (l.length - (j + 1))
     case measure => omega
     case rel =>
      have hs1 := HB.out.size
      have hs2 := hb.size
      have hlt0 := World.block_lt_of_cell? wr _ H0.out
      exact ⟨i, j + 1, xs, rfl, by go_num, by omega, by omega, by omega, ⟨(HB.out.alloc (by omega) _).trans (hb.mono (by simp; omega))⟩, ⟨Kd.R_below (Kd.R_alloc HR.out _) hb⟩, ⟨(hb.cell (p := ⟨b0, 0, none⟩) (by simp; omega)).trans (Go.Lib.cell?_alloc_some _ H0.out)⟩, ⟨HS.out HQ.out⟩⟩
    | false =>
     have HQ := Aside0.mk hq
     clear hq
     go_wp2_with (first | (go_at_fn 97; (with_reducible refine (HCC.out _ (by first | exact H0.out | exact Go.Lib.cell?_alloc_some _ H0.out)).mono ?_); rw [HQ.out]; rintro e w1 ⟨rfl, hb⟩; have hv0 : w1.cell? ⟨wr.heap.size, 0, none⟩ = some (.int .i64 y.f0) := (hb.cell (p := ⟨wr.heap.size, 0, none⟩) (by simp)).trans (by rw [World.cell?_alloc_at _ _ _ _ rfl]; rfl); have hv1 : w1.cell? ⟨wr.heap.size, 1, none⟩ = some (.int .i64 y.f1) := (hb.cell (p := ⟨wr.heap.size, 1, none⟩) (by simp)).trans (by rw [World.cell?_alloc_at _ _ _ _ rfl]; rfl); have hv2 : w1.cell? ⟨wr.heap.size, 2, none⟩ = some (.int .i64 y.f2) := (hb.cell (p := ⟨wr.heap.size, 2, none⟩) (by simp)).trans (by rw [World.cell?_alloc_at _ _ _ _ rfl]; rfl); have hv3 : w1.cell? ⟨wr.heap.size, 3, none⟩ = some (.int .u64 y.f3) := (hb.cell (p := ⟨wr.heap.size, 3, none⟩) (by simp)).trans (by rw [World.cell?_alloc_at _ _ _ _ rfl]; rfl)) | ((with_reducible refine gate_ (.store 79 (.tmp 33) (.tmp 32)) rfl ?_); obtain ⟨cc, hcc, _, hccc, _⟩ := Kd.R_elem (Kd.R_below (Kd.R_alloc HR.out (.cells #[.int .i64 y.f0, .int .i64 y.f1, .int .i64 y.f2, .int .u64 y.f3] 79)) hb) z79 (i : Int) (by omega) (by omega); (refine Kd.R_store k79 (w0 := w) B rfl rfl 79 (.tmp 33) (.tmp 32) rfl 79 (i : Int) 0 xs y (.agg #[.int .i64 y.f0, .int .i64 y.f1, .int .i64 y.f2, .int .u64 y.f3]) [.int .i64 y.f0, .int .i64 y.f1, .int .i64 y.f2, .int .u64 y.f3] cc (fun _ => True) (fun _ => False) rfl ?so rfl rfl ?st ?s1 (Kd.R_below (Kd.R_alloc HR.out _) hb) (by omega) (by omega) hcc hccc ?sj ?sM (fun _ h => h.elim) ?sB ?_)))
     case so => show i * 4 = (i : Int).toNat * 4 + 0; omega
     case st => kernel_rfl
     case s1 =>
      intro q hq
      simp only [List.mem_cons, List.not_mem_nil, or_false] at hq
      rcases hq with rfl | rfl | rfl | rfl <;> rfl
     case sj => exact Nat.le_refl 4
     case sM =>
      have hd : cc.drop (0 + 4) = [] := List.drop_eq_nil_of_le (by rw [hcc]; exact Nat.le_refl 4)
      show Kd.M k79 _ _ _ _ (cc.take 0 ++ [.int .i64 y.f0, .int .i64 y.f1, .int .i64 y.f2, .int .u64 y.f3] ++ cc.drop (0 + 4))
      rw [hd]
      exact k79_mkM _ _ _ _
     case sB =>
      have hs1 := HB.out.size
      exact (HB.out.alloc (by omega) _).trans (hb.mono (by simp; omega))
     intro w2 hR2 hB2 hg2
     have hs1 := HB.out.size
     have hs2 := hb.size
     have hlt0 := World.block_lt_of_cell? wr _ H0.out
     have hc2 : w2.cell? ⟨b0, 0, none⟩ = some (.int .u64 s) := by
      have hc := (hb.cell (p := ⟨b0, 0, none⟩) (by simp; omega)).trans (Go.Lib.cell?_alloc_some _ H0.out)
      have h := hg2.block b0 (World.block_lt_of_cell? _ _ hc) (by intro he; injection he with he; exact hgb he.symm)
      simpa [World.cell?, h] using hc
     have H2 := Aside0.mk hc2
     have HR2 := Aside0.mk hR2
     have HB2 := Aside0.mk hB2
     clear hc2 hR2 hB2 hg2 hv0 hv1 hv2 hv3 h0 h1 h2 h3 hcc hccc
     go_wp2
     go_roundg (l.length - (j + 1))
     case measure => omega
     case rel => exact ⟨i + 1, j + 1, xs.set i y, by go_num, by go_num, by omega, by omega, by omega, HB2, HR2, H2, ⟨HK.out HQ.out⟩⟩
   ·have hje : j = l.length := by omega
    subst hje
    have hltz : ¬ (l.length : Int) < (l.length : Int) := by omega
    obtain ⟨inner, ho⟩ := Kd.R_own HR.out
    have hcells : ∃ cur, wr.heap[g]? = some (.cells cur 79 (0, 0)) ∧ cur.size = c * 4 := by
     rcases ho.2 with ⟨hv, h0⟩ | ⟨g', cap, cur, hv, hb, hh, _, _, hcs, _⟩
     ·cases hv
     ·injection hv with ha _ hc
      injection ha with ha
      injection ha with hg'
      subst hg'; subst hc
      exact ⟨cur, hh, hcs⟩
    obtain ⟨cur, hh, hcs⟩ := hcells
    have hlen : (Builtin.zeroCells (Value.agg #[.int .i64 0, .int .i64 0, .int .i64 0, .int .u64 0]).cells (l.length - i)).toList.length = (l.length - i) * 4 := by simp [Builtin.zeroCells, Value.cells]
    have hclr : ∀ ty, (Builtin.clear_ #[75] ty #[.slice (some ⟨g, i * 4, none⟩) (l.length - i) (c - i)]).run Try.prog wr = .ok (.tuple #[]) (wr.setCells g (i * 4) (Builtin.zeroCells (Value.agg #[.int .i64 0, .int .i64 0, .int .i64 0, .int .u64 0]).cells (l.length - i)).toList) :=
     fun ty => run_clear_k wr 75 79 ty _ Try.underlying75 (fun w => by kernel_rfl) g (i * 4) _ _ (by omega) (zero_one _) (fun j hj => by rw [hlen] at hj; rw [cell_of_row wr g _ cur 79 (0, 0) hh]; simp; omega) (fun j _ => blk_frozen hh _)
    generalize hz : (Builtin.zeroCells (Value.agg #[.int .i64 0, .int .i64 0, .int .i64 0, .int .u64 0]).cells (l.length - i)).toList = seg at *
    have HZ := Aside0.mk hlen
    have hc1' := hc1
    clear hz hlen hh hcs ho
    go_wp2
    go_ret
    have hfil : l.filter (fun q => !p q) = xs.take i := by
     have := HD.out.2.1
     rw [List.take_length] at this
     exact this.symm
    rw [hfil]
    exact ⟨_, rfl, R_cutover HR.out (by omega) seg (by rw [HZ.out]; show i * 4 + (l.length - i) * 4 ≤ l.length * 4; omega), below_setCells HB.out hBg _ _⟩
/-- Those squares all of whose edges a set has. -/
def keepQ (s : Int) (q : S79) : Bool := !(Go.bits .andNot .u64 q.f3 s != 0)
def impl_of.f (l0 : List S79) (a1 : Int) : Option (List S79) := if l0.length ≤ 1000000 then some (l0.filter (keepQ a1)) else none
set_option maxHeartbeats 8000000 in
set_option maxRecDepth 100000 in
theorem impl_of.calls (A0 : Option Addr) (c0 : Nat) (l0 : List (S79)) (a1 : Int) (r : List (S79)) (w : World) (hr0 : Kd.C k79 w A0 l0.length l0) (hc0 : l0.length ≤ c0) (h : impl_of.f l0 a1 = some r) :
  Calls Try.prog 82 #[.slice A0 l0.length c0, .int .u64 a1] w fun e w' => ∃ v0_ : Value, e = .returned (v0_) ∧ Kd.R k79 79 w' w.heap.size (fun _ => True) v0_ r ∧ Below w.heap.size w w' := by
 unfold impl_of.f at h
 by_cases hl : l0.length ≤ 1000000
 ·rw [if_pos hl] at h
  obtain rfl := Option.some.inj h
  clear h
  have hmf : ∀ (fn : Fn) (first cap : Array Value) (w : World), (Instr.makeFunc fn first cap).run Try.prog w = .ok (.func fn first cap) w := fun _ _ _ _ => rfl
  have hclone := CloneQ (w.alloc (.cells #[.int .u64 a1] 77)) A0 c0 l0 (Kd.C_alloc hr0 _) hl
  have HC := Aside0.mk hclone
  have HL := Aside0.mk hl
  clear hclone hr0 hc0 hl
  have hkq : l0.filter (keepQ a1) = l0.filter (fun q => !(Go.bits .andNot .u64 q.f3 a1 != 0)) := rfl
  have HK := Aside0.mk hkq
  clear hkq
  generalize l0.filter (keepQ a1) = res at *
  go_enter Try.func82, Try.ntmps82
  go_wp2_with (first
   | (go_at_call 96; (with_reducible refine HC.out.mono ?_); rintro e w1 ⟨v1, rfl, hR1, hB1⟩; obtain ⟨A1, c1, rfl⟩ := Kd.R_slice hR1; have h01 : w1.cell? ⟨w.heap.size, 0, none⟩ = some (.int .u64 a1) := (hB1.cell (p := ⟨w.heap.size, 0, none⟩) (by simp)).trans (by rw [World.cell?_alloc_at _ _ _ _ rfl]; rfl); have HR1 := Aside0.mk hR1; have HB1 := Aside0.mk hB1; have H01 := Aside0.mk h01; clear hR1 hB1 h01)
   | (go_at_call 95; (with_reducible refine (DeleteFuncQ a1 w.heap.size (w.alloc (.cells #[.int .u64 a1] 77)).heap.size _ A1 c1 l0 HL.out HR1.out HB1.out.size H01.out (fun he => by have := Kd.R_base HR1.out _ he; simp at this; omega)).mono ?_); rintro e w2 ⟨v2, rfl, hR2, hB2⟩))
  go_ret
  refine ⟨_, rfl, ?_, ?_⟩
  ·rw [HK.out]
   exact Kd.R_lower hR2 (by simp)
  ·exact (((Below.refl _ w).alloc (Nat.le_refl _) _).trans (HB1.out.mono (by simp))).trans (hB2.mono (by simp))
 ·rw [if_neg hl] at h; cases h

/-! ### impl_grid_level: function 102 -/
def impl_grid_level.f (a0_0 : Int) (a0_1 : Int) (a1 : Int) (a2 : Int) : Option (Int) := if 0 ≤ (wrap64 ((wrap64 (a2 * a0_0)) + a1)) then (some (shl .u64 1 (wrap64 ((wrap64 (a2 * a0_0)) + a1)))) else (none)
set_option maxHeartbeats 8000000 in
set_option maxRecDepth 100000 in
theorem impl_grid_level.calls (a0_0 : Int) (a0_1 : Int) (a1 : Int) (a2 : Int) (r : Int) (w : World) (h : impl_grid_level.f a0_0 a0_1 a1 a2 = some r) :
  Calls Try.prog 102 #[.agg #[.int .i64 a0_0, .int .i64 a0_1], .int .i64 a1, .int .i64 a2] w fun e w' => e = .returned (.int .u64 r) ∧ Below w.heap.size w w' := by
 have hu71 := Try.underlying71
 have HB := Aside0.mk (Below.refl w.heap.size w)
 have H : (if 0 ≤ (wrap64 ((wrap64 (a2 * a0_0)) + a1)) then (some (shl .u64 1 (wrap64 ((wrap64 (a2 * a0_0)) + a1)))) else (none)) = some r := h
 clear h
 obtain ⟨ji4, hji4⟩ : ∃ j_ : Int, (wrap64 ((wrap64 (a2 * a0_0)) + a1)) = j_ := ⟨_, rfl⟩
 replace H : (if 0 ≤ (ji4) then (some (shl .u64 1 (ji4))) else (none)) = some r := by first | (rw [hji4] at H; exact H) | (simp only [hji4] at H ⊢; exact H)
 have hji4w : (IntKind.i64.wrap ((wrap64 (a2 * a0_0)) + a1)) = ji4 := (i64_w _).trans hji4
 by_cases c5 : 0 ≤ (ji4)
 ·rw [if_pos c5] at H
  have c5b0 := eq_true c5
  have c5b1 : decide (0 ≤ (ji4)) = true := decide_eq_true c5
  clear c5
  obtain ⟨ji6, hji6⟩ : ∃ j_ : Int, (shl .u64 1 (ji4)) = j_ := ⟨_, rfl⟩
  replace H : (some ji6) = some r := by first | (rw [hji6] at H; exact H) | (simp only [hji6] at H ⊢; exact H)
  have hji6_ : (IntKind.u64.wrap (1 * 2 ^ min (ji4).toNat 64)) = ji6 := hji6
  have hji6z : (ji4) ≤ 64 → (IntKind.u64.wrap (1 * 2 ^ (ji4).toNat)) = ji6 := shl_small hji6
  have hji6u : (IntKind.u64.wrap (2 ^ min (ji4).toNat 64)) = ji6 := by have h_ := hji6_; rw [Int.one_mul] at h_; exact h_
  have hji6v : (ji4) ≤ 64 → (IntKind.u64.wrap (2 ^ (ji4).toNat)) = ji6 := fun hle_ => by have h_ := hji6z hle_; rw [Int.one_mul] at h_; exact h_
  obtain rfl := Option.some.inj H
  go_enter Try.func102, Try.ntmps102
  go_wp2_with (first | ((with_reducible refine gate_dst (N := 3) rfl ?_); refine box_event ?hg (N := 3) ?hd (cs := #[.int .i64 a0_0, .int .i64 a0_1]) (t := 71) ?hr ?_; (case hd => rfl); (case hg => rfl); (case hr => first | (go_simp; done) | (go_simp; rfl)); intro gb180 hg w7 hbox hb; have n0_ := Aside0.mk (below_step (by repeat (first | (with_reducible first | exact HB.out | apply below_alloc | apply pw_below_drewN | apply below_drew1) | exact HB.out)) hb); have n1_ := Aside0.mk (hbox); have n2_ := Aside0.mk ((by rw [hg]; exact (below_size (by repeat (first | (with_reducible first | exact HB.out | apply below_alloc | apply pw_below_drewN | apply below_drew1) | exact HB.out))) : w.heap.size ≤ gb180)); have n3_ := Aside0.mk ((by rw [hg]; exact (below_size (by repeat (first | (with_reducible first | exact HB.out | apply below_alloc | apply pw_below_drewN | apply below_drew1) | exact HB.out))) : w.heap.size ≤ gb180)); clear HB; have HB := n0_; have BK180 := n1_; have GW180 := n2_; have GE180 := n3_; clear n0_ n1_ n2_ n3_; clear hb hbox hg; have hcz8_0 : w7.cell? ⟨gb180, 0, none⟩ = some (.int .i64 a0_0) := (blk_cell BK180.out 0).trans rfl; have hcz8_1 : w7.cell? ⟨gb180, 1, none⟩ = some (.int .i64 a0_1) := (blk_cell BK180.out 1).trans rfl; have hfz8_0 := blk_frozen BK180.out 0; have hfz8_1 := blk_frozen BK180.out 1))
  go_ret
  exact ⟨by first | rfl | (simp [errW_none, errW_some] <;> rfl) | (simp only [← hji4, ← hji6]; first | rfl | (simp [errW_none, errW_some] <;> rfl)) | (simp [*, errW_none, errW_some] <;> rfl), by repeat (first | (with_reducible first | exact HB.out | apply below_alloc | apply pw_below_drewN | apply below_drew1 | refine below_set ?_ GE180.out) | exact HB.out)⟩
 ·rw [if_neg c5] at H
  exact absurd H (by simp)

/-! ### impl_grid_upright: function 103 -/
def impl_grid_upright.f (a0_0 : Int) (a0_1 : Int) (a1 : Int) (a2 : Int) : Option (Int) := (impl_grid_levels.f a0_0 a0_1).bind fun t182 => (if 0 ≤ (wrap64 ((wrap64 (t182 + (wrap64 (a2 * (wrap64 (a0_0 + 1)))))) + a1)) then (some (shl .u64 1 (wrap64 ((wrap64 (t182 + (wrap64 (a2 * (wrap64 (a0_0 + 1)))))) + a1)))) else (none))
def impl_grid_upright.T1 : Bool × List (List Nat × List Nat) := (true, [([], []), ([0], [0]), ([], []), ([], []), ([3], [3]), ([4], [4]), ([2, 5], [2, 5]), ([1, 6], [1, 6]), ([], []), ([7, 8], [7, 8]), ([9], [9]), ([10, 1, 0, 1, 2, 3, 4, 5, 6, 7, 8, 9, 10], [10])])
def impl_grid_upright.B1 : List Nat := [0, 1, 0, 0, 8, 24, 60, 127, 0, 511, 1023, 2047]
theorem impl_grid_upright.tab1 : rtab .any (opsOf Try.f103 1) = impl_grid_upright.T1 := by kernel_rfl
theorem impl_grid_upright.bits1 : waitsOk impl_grid_upright.T1.2 impl_grid_upright.B1 = true := by kernel_rfl
set_option maxHeartbeats 8000000 in
set_option maxRecDepth 100000 in
theorem impl_grid_upright.calls (a0_0 : Int) (a0_1 : Int) (a1 : Int) (a2 : Int) (r : Int) (w : World) (h : impl_grid_upright.f a0_0 a0_1 a1 a2 = some r) :
  Calls Try.prog 103 #[.agg #[.int .i64 a0_0, .int .i64 a0_1], .int .i64 a1, .int .i64 a2] w fun e w' => e = .returned (.int .u64 r) ∧ Below w.heap.size w w' := by
 have hu71 := Try.underlying71
 have HB := Aside0.mk (Below.refl w.heap.size w)
 have H : ((impl_grid_levels.f a0_0 a0_1).bind fun t182 => (if 0 ≤ (wrap64 ((wrap64 (t182 + (wrap64 (a2 * (wrap64 (a0_0 + 1)))))) + a1)) then (some (shl .u64 1 (wrap64 ((wrap64 (t182 + (wrap64 (a2 * (wrap64 (a0_0 + 1)))))) + a1)))) else (none))) = some r := h
 clear h
 replace H := Option.bind_eq_some_iff.mp H
 obtain ⟨t182, A40, H⟩ := H
 replace H : (if 0 ≤ (wrap64 ((wrap64 (t182 + (wrap64 (a2 * (wrap64 (a0_0 + 1)))))) + a1)) then (some (shl .u64 1 (wrap64 ((wrap64 (t182 + (wrap64 (a2 * (wrap64 (a0_0 + 1)))))) + a1)))) else (none)) = some r := H
 have A4 := Aside0.mk A40
 clear A40
 obtain ⟨ji5, hji5⟩ : ∃ j_ : Int, (wrap64 ((wrap64 (t182 + (wrap64 (a2 * (wrap64 (a0_0 + 1)))))) + a1)) = j_ := ⟨_, rfl⟩
 replace H : (if 0 ≤ (ji5) then (some (shl .u64 1 (ji5))) else (none)) = some r := by first | (rw [hji5] at H; exact H) | (simp only [hji5] at H ⊢; exact H)
 (try rw [hji5] at A4)
 have hji5w : (IntKind.i64.wrap ((wrap64 (t182 + (wrap64 (a2 * (wrap64 (a0_0 + 1)))))) + a1)) = ji5 := (i64_w _).trans hji5
 by_cases c6 : 0 ≤ (ji5)
 ·rw [if_pos c6] at H
  have c6b0 := eq_true c6
  have c6b1 : decide (0 ≤ (ji5)) = true := decide_eq_true c6
  clear c6
  obtain ⟨ji7, hji7⟩ : ∃ j_ : Int, (shl .u64 1 (ji5)) = j_ := ⟨_, rfl⟩
  replace H : (some ji7) = some r := by first | (rw [hji7] at H; exact H) | (simp only [hji7] at H ⊢; exact H)
  (try rw [hji7] at A4)
  have hji7_ : (IntKind.u64.wrap (1 * 2 ^ min (ji5).toNat 64)) = ji7 := hji7
  have hji7z : (ji5) ≤ 64 → (IntKind.u64.wrap (1 * 2 ^ (ji5).toNat)) = ji7 := shl_small hji7
  have hji7u : (IntKind.u64.wrap (2 ^ min (ji5).toNat 64)) = ji7 := by have h_ := hji7_; rw [Int.one_mul] at h_; exact h_
  have hji7v : (ji5) ≤ 64 → (IntKind.u64.wrap (2 ^ (ji5).toNat)) = ji7 := fun hle_ => by have h_ := hji7z hle_; rw [Int.one_mul] at h_; exact h_
  obtain rfl := Option.some.inj H
  go_enter Try.func103, Try.ntmps103
  try go_wp2_with (first | ((with_reducible refine gate_dst (N := 3) rfl ?_); refine box_event ?hg (N := 3) ?hd (cs := #[.int .i64 a0_0, .int .i64 a0_1]) (t := 71) ?hr ?_; (case hd => rfl); (case hg => rfl); (case hr => first | (go_simp; done) | (go_simp; rfl)); intro gb181 hg w8 hbox hb; have n0_ := Aside0.mk (below_step (by repeat (first | (with_reducible first | exact HB.out | apply below_alloc | apply pw_below_drewN | apply below_drew1) | exact HB.out)) hb); have n1_ := Aside0.mk (hbox); have n2_ := Aside0.mk ((by rw [hg]; exact (below_size (by repeat (first | (with_reducible first | exact HB.out | apply below_alloc | apply pw_below_drewN | apply below_drew1) | exact HB.out))) : w.heap.size ≤ gb181)); have n3_ := Aside0.mk ((by rw [hg]; exact (below_size (by repeat (first | (with_reducible first | exact HB.out | apply below_alloc | apply pw_below_drewN | apply below_drew1) | exact HB.out))) : w.heap.size ≤ gb181)); clear HB; have HB := n0_; have BK181 := n1_; have GW181 := n2_; have GE181 := n3_; clear n0_ n1_ n2_ n3_; clear hb hbox hg))
  have n0_ := Aside0.mk (blk_drew BK181.out)
  have n1_ := Aside0.mk (below_drew1 HB.out)
  clear BK181
  clear HB
  have BK181 := n0_
  have HB := n1_
  clear n0_ n1_
  refine start_ (n := 12) (S := fun w' => w'.cell? ⟨gb181, 0, none⟩ = some (.int .i64 a0_0) ∧ w'.cell? ⟨gb181, 1, none⟩ = some (.int .i64 a0_1)) (ds := []) #[false, false, false, false, false, false, false, false, false, false, false, false] (by kernel_rfl) rfl rfl ⟨(blk_cell BK181.out 0).trans rfl, (blk_cell BK181.out 1).trans rfl⟩ (fun hHeld => ?_); refine with_tabW impl_grid_upright.tab1 impl_grid_upright.bits1 (fun HT_ HW_ => ?_)
  generalize w8.drew = w9 at BK181 HB hHeld ⊢
  refine pure_ (i := 2) (N := some 9) (v := ?_) (a' := ?_) #[false, false, true, false, false, false, false, false, false, false, false, false] rfl rfl (any_of HT_.out (by kernel_rfl)) (fun _ _ _ h => h) (Or.inl ⟨by rfl, ?_⟩) ?_ ?_
  rotate_left
  ·intro w'
   go_simp
   with_reducible rfl
  rotate_left
  ·simp only [Act.put, List.setIfInBounds_toArray, List.set_cons_zero, List.set_cons_succ, i64_w, i32_w]
   rfl
  refine pure_ (i := 3) (N := some 10) (v := ?_) (a' := ?_) #[false, false, true, true, false, false, false, false, false, false, false, false] rfl rfl (any_of HT_.out (by kernel_rfl)) (fun _ _ _ h => h) (Or.inl ⟨by rfl, ?_⟩) ?_ ?_
  rotate_left
  ·intro w'
   go_simp
   with_reducible rfl
  rotate_left
  ·simp only [Act.put, List.setIfInBounds_toArray, List.set_cons_zero, List.set_cons_succ, i64_w, i32_w]
   rfl
  refine pure_ (i := 8) (N := some 15) (v := ?_) (a' := ?_) #[false, false, true, true, false, false, false, false, true, false, false, false] rfl rfl (any_of HT_.out (by kernel_rfl)) (fun _ _ _ h => h) (Or.inl ⟨by rfl, ?_⟩) ?_ ?_
  rotate_left
  ·intro w'
   go_simp
   with_reducible rfl
  rotate_left
  ·simp only [Act.put, List.setIfInBounds_toArray, List.set_cons_zero, List.set_cons_succ, i64_w, i32_w]
   rfl
  refine take_ (i := 0) (N := some 7) (v := ?_) (a' := ?_) #[true, false, true, true, false, false, false, false, true, false, false, false] rfl rfl (take_ofW HT_.out HW_.out (by kernel_rfl)) (fun _ _ _ h => h) (Or.inl ⟨by rfl, ?_⟩) hHeld ?_ ?_
  rotate_left
  ·rintro w' ⟨s0, s1⟩
   go_simp
   with_reducible rfl
  rotate_left
  ·simp only [Act.put, List.setIfInBounds_toArray, List.set_cons_zero, List.set_cons_succ, i64_w, i32_w]
   rfl
  refine take_ (i := 4) (N := some 11) (v := ?_) (a' := ?_) #[true, false, true, true, true, false, false, false, true, false, false, false] rfl rfl (take_ofW HT_.out HW_.out (by kernel_rfl)) (fun _ _ _ h => h) (Or.inl ⟨by rfl, ?_⟩) hHeld ?_ ?_
  rotate_left
  ·rintro w' ⟨s0, s1⟩
   go_simp
   with_reducible rfl
  rotate_left
  ·simp only [Act.put, List.setIfInBounds_toArray, List.set_cons_zero, List.set_cons_succ, i64_w, i32_w]
   rfl
  refine pure_ (i := 5) (N := some 12) (v := ?_) (a' := ?_) #[true, false, true, true, true, true, false, false, true, false, false, false] rfl rfl (any_of HT_.out (by kernel_rfl)) (fun _ _ _ h => h) (Or.inl ⟨by rfl, ?_⟩) ?_ ?_
  rotate_left
  ·intro w'
   go_simp
   with_reducible rfl
  rotate_left
  ·simp only [Act.put, List.setIfInBounds_toArray, List.set_cons_zero, List.set_cons_succ, i64_w, i32_w]
   rfl
  refine pure_ (i := 6) (N := some 13) (v := ?_) (a' := ?_) #[true, false, true, true, true, true, true, false, true, false, false, false] rfl rfl (any_of HT_.out (by kernel_rfl)) (fun _ _ _ h => h) (Or.inl ⟨by rfl, ?_⟩) ?_ ?_
  rotate_left
  ·intro w'
   go_simp
   with_reducible rfl
  rotate_left
  ·simp only [Act.put, List.setIfInBounds_toArray, List.set_cons_zero, List.set_cons_succ, i64_w, i32_w]
   rfl
  refine one_ (i := 1) (N := some 8) #[true, true, true, true, true, true, true, false, true, false, false, false] rfl rfl (one_of HT_.out (by kernel_rfl)) (by decide) (fun K hK => ?_)
  refine goes_ Try.func79 (by kernel_rfl) rfl #[.agg #[.int .i64 a0_0, .int .i64 a0_1]] (by rfl) rfl rfl (by (try simp only [List.map_toArray, List.map_cons, List.map_nil]); first | done | rfl | (simp only [List.length_drop, List.length_take]; rfl)) ?_
  with_reducible refine (impl_grid_levels.calls a0_0 a0_1 t182 _ A4.out).mono ?_
  rintro e w10 ⟨rfl, hb⟩
  refine ⟨_, rfl, ?_⟩
  have n0_ := Aside0.mk (blk_below (g := gb181) (o := .cells #[.int .i64 a0_0, .int .i64 a0_1] 71 (0, 0)) (by (with_reducible repeat (first | refine blk_drewN ?_ _ | refine blk_drew ?_ | refine blk_alloc ?_ _)); exact BK181.out) hb)
  have n1_ := Aside0.mk (below_step (by repeat (first | (with_reducible first | exact HB.out | apply below_alloc | apply pw_below_drewN | apply below_drew1 | refine below_set ?_ GE181.out) | exact HB.out)) hb)
  clear BK181
  clear HB
  have BK181 := n0_
  have HB := n1_
  clear n0_ n1_
  (try clear hb)
  (try clear hb2)
  (try clear hk)
  (try clear hi)
  refine hK.out _ _ ⟨(blk_cell BK181.out 0).trans rfl, (blk_cell BK181.out 1).trans rfl⟩ (fun hHeld => ?_)
  clear hK K
  refine norm_ (a' := ?_) ?_ ?_
  rotate_left
  ·show Act.put _ (some 8) _ = _
   simp only [Act.put, List.setIfInBounds_toArray, List.set_cons_zero, List.set_cons_succ, i64_w, i32_w]
   rfl
  refine pure_ (i := 7) (N := some 14) (v := ?_) (a' := ?_) #[true, true, true, true, true, true, true, true, true, false, false, false] rfl rfl (any_of HT_.out (by kernel_rfl)) (fun _ _ _ h => h) (Or.inl ⟨by rfl, ?_⟩) ?_ ?_
  rotate_left
  ·intro w'
   go_simp
   with_reducible rfl
  rotate_left
  ·simp only [Act.put, List.setIfInBounds_toArray, List.set_cons_zero, List.set_cons_succ, i64_w, i32_w]
   rfl
  refine pure_ (i := 9) (N := some 16) (v := ?_) (a' := ?_) #[true, true, true, true, true, true, true, true, true, true, false, false] rfl rfl (any_of HT_.out (by kernel_rfl)) (fun _ _ _ h => h) (Or.inl ⟨by rfl, ?_⟩) ?_ ?_
  rotate_left
  ·intro w'
   go_simp
   with_reducible rfl
  rotate_left
  ·simp only [Act.put, List.setIfInBounds_toArray, List.set_cons_zero, List.set_cons_succ, i64_w, i32_w]
   rfl
  refine pure_ (i := 10) (N := some 17) (v := ?_) (a' := ?_) #[true, true, true, true, true, true, true, true, true, true, true, false] rfl rfl (any_of HT_.out (by kernel_rfl)) (fun _ _ _ h => h) (Or.inl ⟨by rfl, ?_⟩) ?_ ?_
  rotate_left
  ·intro w'
   go_simp
   with_reducible rfl
  rotate_left
  ·simp only [Act.put, List.setIfInBounds_toArray, List.set_cons_zero, List.set_cons_succ, i64_w, i32_w]
   rfl
  refine pure_ (i := 11) (N := some 6) (v := ?_) (a' := ?_) #[true, true, true, true, true, true, true, true, true, true, true, true] rfl rfl (any_of HT_.out (by kernel_rfl)) (fun _ _ _ h => h) (Or.inl ⟨by rfl, ?_⟩) ?_ ?_
  rotate_left
  ·intro w'
   go_simp
   with_reducible rfl
  rotate_left
  ·simp only [Act.put, List.setIfInBounds_toArray, List.set_cons_zero, List.set_cons_succ, i64_w, i32_w]
   rfl
  refine done_ (done_of HT_.out (by kernel_rfl)) ?_
  try go_wp2
  go_ret
  exact ⟨by first | rfl | (simp [errW_none, errW_some] <;> rfl) | (simp only [← hji5, ← hji7]; first | rfl | (simp [errW_none, errW_some] <;> rfl)) | (simp [*, errW_none, errW_some] <;> rfl), by repeat (first | (with_reducible first | exact HB.out | apply below_alloc | apply pw_below_drewN | apply below_drew1 | refine below_set ?_ GE181.out) | exact HB.out)⟩
 ·rw [if_neg c6] at H
  exact absurd H (by simp)

end Go.Proofs.Ytjkkgnpgjgfidaa.Q
