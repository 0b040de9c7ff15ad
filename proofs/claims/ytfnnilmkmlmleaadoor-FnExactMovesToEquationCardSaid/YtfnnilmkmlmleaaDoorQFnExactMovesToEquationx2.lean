-- written by a program of this session, pm.py, for this claim
-- half the indentation
import Derived.Test.YtfnnilmkmlmleaaDoorQFnExactMovesToEquationx0
import Derived.Test.YtfnnilmkmlmleaaDoorQFnExactMovesToEquationx1
namespace Go.Proofs.YtfnnilmkmlmleaaDoor.Q
open Go.RowKit Go.Proofs.YtfnnilmkmlmleaaDoorW.PrintWords Go.Proofs.YtfnnilmkmlmleaaDoorW.PrintLast Go.Proofs.YtfnnilmkmlmleaaDoorW.PrintMore
attribute [local go_sem] max2_int min2_int max_two min_two max_three min_three max_four min_four   -- for this text's walks alone
set_option linter.unusedVariables false
set_option linter.unusedSimpArgs false

/-! ### spec_fiThose: function 66 -/
def spec_fiThose.l0 : Nat → List Int → Bool → List Int → List Int → Int → Int → Option (List Int)
 | 0, _, _, _, _, _, _ => none
 | k + 1, x1, x2, x7, x10, x11, x12 => if x12 < x11 then (if 0 ≤ x12 then (if x12 < (x10.length : Int) then ((spec_l1Has.f k x1 (rd x10 x12)).bind fun t144 => (if (t144 == x2) = true then (if x7.length < 17592186044416 then (spec_fiThose.l0 k x1 x2 (x7 ++ [rd x10 x12]) x10 x11 (wrap64 (x12 + 1))) else (none)) else (spec_fiThose.l0 k x1 x2 x7 x10 x11 (wrap64 (x12 + 1))))) else (none)) else (none)) else (some x7)
def spec_fiThose.f (k : Nat) (l0 : List Int) (l1 : List Int) (a2 : Bool) : Option (List Int) := spec_fiThose.l0 k l1 a2 ([] : List Int) l0 (l0.length : Int) 0
theorem spec_fiThose.mono_l : ∀ k, (∀ y0 y1 y2 y3 y4 y5, LeO (spec_fiThose.l0 k y0 y1 y2 y3 y4 y5) (spec_fiThose.l0 (k + 1) y0 y1 y2 y3 y4 y5))
 | 0 => fun _ _ _ _ _ _ r h => by simp [spec_fiThose.l0] at h
 | k + 1 => by
  have ih0 := spec_fiThose.mono_l k
  ·intro y0 y1 y2 y3 y4 y5
   unfold spec_fiThose.l0
   repeat' first
   | (with_reducible exact ih0 _ _ _ _ _ _)
   | (with_reducible exact spec_l1Has.mono _ _ _)
   | (with_reducible exact LeO.refl _)
   | (with_reducible exact LeO.none _)
   | (with_reducible refine LeO.ite ?_ ?_)
   | (with_reducible refine LeO.bind ?_ (fun _ => ?_))
   | exact ih0 _ _ _ _ _ _
   | exact spec_l1Has.mono _ _ _
   | exact LeO.none _
   | refine LeO.ite ?_ ?_
   | refine LeO.bind ?_ (fun _ => ?_)
theorem spec_fiThose.mono : ∀ a0 a1 a2 k, LeO (spec_fiThose.f k a0 a1 a2) (spec_fiThose.f (k + 1) a0 a1 a2) := by
 intro a0 a1 a2 k
 have ih0 := spec_fiThose.mono_l k
 unfold spec_fiThose.f
 repeat' first
   | (with_reducible exact ih0 _ _ _ _ _ _)
   | (with_reducible exact spec_l1Has.mono _ _ _)
   | (with_reducible exact LeO.refl _)
   | (with_reducible exact LeO.none _)
   | (with_reducible refine LeO.ite ?_ ?_)
   | (with_reducible refine LeO.bind ?_ (fun _ => ?_))
   | exact ih0 _ _ _ _ _ _
   | exact spec_l1Has.mono _ _ _
   | exact LeO.none _
   | refine LeO.ite ?_ ?_
   | refine LeO.bind ?_ (fun _ => ?_)
set_option maxHeartbeats 8000000 in
set_option maxRecDepth 100000 in
theorem spec_fiThose.calls (k : Nat) (A0 : Option Addr) (c0 : Nat) (l0 : List Int) (A1 : Option Addr) (c1 : Nat) (l1 : List Int) (a2 : Bool) (r : List Int) (w : World) (hr0 : Kd.C (Kd.int .i64) w A0 l0.length l0) (hc0 : l0.length ≤ c0) (hr1 : Kd.C (Kd.int .i64) w A1 l1.length l1) (hc1 : l1.length ≤ c1) (h : spec_fiThose.f k l0 l1 a2 = some r) :
  Calls Tryd.prog 66 #[.slice A0 l0.length c0, .slice A1 l1.length c1, .bool a2] w fun e w' => ∃ v0_ : Value, e = .returned (v0_) ∧ Kd.R (Kd.int .i64) 3 w' w.heap.size (fun _ => True) v0_ r ∧ Below w.heap.size w w' := by
 have HR0 := Aside0.mk hr0
 have HC0 := Aside0.mk hc0
 clear hr0 hc0
 have HR1 := Aside0.mk hr1
 have HC1 := Aside0.mk hc1
 clear hr1 hc1
 have HB := Aside0.mk (Below.refl w.heap.size w)
 have H : (spec_fiThose.l0 k l1 a2 ([] : List Int) l0 (l0.length : Int) 0) = some r := h
 clear h
 have H' := Aside0.mk H
 clear H
 go_enter Tryd.func66, Tryd.ntmps66
 go_wp2
 go_loopg [7, 12] k (fun kq v7 v12 w' => ∃ (x7_1 : List Int) (x12_1 : Int), v12 = .int .i64 x12_1 ∧ Aside0 (spec_fiThose.l0 kq l1 a2 x7_1 l0 (l0.length : Int) x12_1 = some r) ∧ Aside0 (kq ≤ k) ∧ Aside0 (Kd.R (Kd.int .i64) 3 w' w.heap.size (fun _ => True) v7 x7_1) ∧ Aside0 (Below w.heap.size w w'))
 case atStart => exact ⟨(([] : List Int)), (0), (by first | rfl | (simp; done) | (simp [*]; done)), H', ⟨Nat.le_refl _⟩, ⟨by first | exact Kd.R_nil _ _ _ _ _ | exact Kd.N_nil _ _ _ _ _ | exact Kd.V_nil _ _ _ _ _ | exact Kd.Q_nil _ _ _ _ _ | exact Kd.S_nil _ _ _ _ _⟩, ⟨by repeat (first | (with_reducible first | exact HB.out | apply below_alloc | apply pw_below_drewN | apply below_drew1) | exact HB.out)⟩⟩
 case round =>
  clear H'
  try clear c1
  try clear p2
  obtain ⟨x7_1, x12_1, rfl, HA, HK1, HO_7, HB⟩ := hrel
  cases gk with
  | zero => exact absurd HA.out (by simp [spec_fiThose.l0])
  | succ k1 =>
   have H := HA.out
   clear HA
   simp only [spec_fiThose.l0] at H
   by_cases c4 : x12_1 < (l0.length : Int)
   ·rw [if_pos c4] at H
    have c4b0 : decide (x12_1 < (l0.length : Int)) = true := decide_eq_true c4
    clear c4
    by_cases c5 : 0 ≤ x12_1
    ·rw [if_pos c5] at H
     have c5b0 : decide (0 ≤ x12_1) = true := decide_eq_true c5
     clear c5
     by_cases c6 : x12_1 < (l0.length : Int)
     ·rw [if_pos c6] at H
      have c6b0 : decide (x12_1 < (l0.length : Int)) = true := decide_eq_true c6
      clear c6
      replace H := Option.bind_eq_some_iff.mp H
      obtain ⟨t144, A70, H⟩ := H
      replace H : (if (t144 == a2) = true then (if x7_1.length < 17592186044416 then (spec_fiThose.l0 k1 l1 a2 (x7_1 ++ [rd l0 x12_1]) l0 (l0.length : Int) (wrap64 (x12_1 + 1))) else (none)) else (spec_fiThose.l0 k1 l1 a2 x7_1 l0 (l0.length : Int) (wrap64 (x12_1 + 1)))) = some r := H
      have A7 := Aside0.mk A70
      clear A70
      by_cases c8 : (t144 == a2) = true
      ·rw [if_pos c8] at H
       have c8b0 : (t144 == a2) = true := c8
       (try (have c8b1 : decide (t144 = a2) = true := by simpa using c8))
       (try (have c8b2 : (t144 == a2) = true := by simpa using c8))
       clear c8
       by_cases c9 : x7_1.length < 17592186044416
       ·rw [if_pos c9] at H
        have LMc9 := Aside0.mk c9
        clear c9
        obtain ⟨y145, hy145⟩ : ∃ y_ : List Int, y_ = (x7_1 ++ [rd l0 x12_1]) := ⟨_, rfl⟩
        replace H : (spec_fiThose.l0 k1 l1 a2 y145 l0 (l0.length : Int) (wrap64 (x12_1 + 1))) = some r := by first | (rw [hy145]; with_reducible exact H) | (have H2_ := (Option.bind_some _ _).symm.trans H; rw [hy145]; with_reducible exact H2_) | (have H2_ := (Option.bind_some _ _).symm.trans H; with_reducible exact H2_) | with_reducible exact H | (rw [hy145]; exact H) | exact H
        have Ny145 := Aside0.mk hy145
        clear hy145
        have H' := Aside0.mk H
        clear H
        have p143 : 0 ≤ (x12_1 : Int) := of_decide_eq_true (by first | (with_reducible assumption) | assumption)
        have q143 : x12_1 < (l0.length : Int) := of_decide_eq_true (by first | (with_reducible assumption) | assumption)
        obtain ⟨ad143, e143, hx143_0⟩ := Kd.at_int HR0.out x12_1 p143 q143
        cases e143
        replace hx143_0 := (HB.out.cell (World.block_lt_of_cell? w _ hx143_0)).trans hx143_0
        replace p143 := eq_true p143
        replace q143 := eq_true q143
        go_wp2_with (first | ((with_reducible refine gate_callee (f := 80) rfl ?_); refine goesL_ (some 18) rfl rfl Tryd.func80 (by kernel_rfl) rfl #[.slice A1 l1.length c1, .int .i64 (rd l0 x12_1)] rfl (by (try simp only [List.map_toArray, List.map_cons, List.map_nil]); first | done | rfl | (simp only [List.length_drop, List.length_take]; rfl)) ?_; (with_reducible refine (spec_l1Has.calls k1 _ _ l1 (rd l0 x12_1) t144 _ ?side1 ?side2 A7.out).mono ?_); (case side1 => repeat (first | exact (Kd.C_below HR1.out HB.out) | (with_reducible refine Kd.C_alloc ?_ _) | (with_reducible refine Kd.C_drewN ?_ _) | (with_reducible refine Kd.C_drew ?_))); (case side2 => exact HC1.out); rintro e w' ⟨rfl, ⟨nd, rfl⟩⟩; refine ⟨_, rfl, ?_⟩) | ((with_reducible refine gate_builtin (b := .append) (xs := #[.tmp 21, .tmp 23]) rfl ?_); at_builtin; refine Kd.R_append (Kd.int .i64) (w0 := w) w.heap.size rfl (.tmp 21) (.tmp 23) 33 3 (.int .i64 0) 8 rfl Tryd.underlying33 info3 rfl (by decide) (by omega) u7 x7_1 (rd l0 x12_1) [.int .i64 (rd l0 x12_1)] (fun _ => True) (fun _ => False) rfl rfl ?aP (fun _ hk => hk.elim) ?aF ?aO ?aB ?aS ?aL ?_; (case aP => exact rfl); (case aB => exact (by repeat (first | (with_reducible first | exact HB.out | apply below_alloc | apply pw_below_drewN | apply below_drew1) | exact HB.out))); (case aF => exact (fun _ _ => trivial)); (case aO => exact (by (with_reducible repeat (first | apply Kd.R_alloc | apply Kd.R_drewN | apply Kd.R_drew)); exact HO_7.out)); (case aS => exact (below_size (by repeat (first | (with_reducible first | exact HB.out | apply below_alloc | apply pw_below_drewN | apply below_drew1) | exact HB.out)))); (case aL => have := LMc9.out; omega); intro v146 w10 ho hb hg hat; rw [← Ny145.out] at ho; have n0_ := Aside0.mk (hb); have n1_ := Aside0.mk (ho); clear HB; clear HO_7; have HB := n0_; have HO147 := n1_; clear n0_ n1_; clear ho hb hg hat))
        go_roundg k1
        case measure => have := HK1.out; omega
        case rel => exact ⟨(y145), (wrap64 (x12_1 + 1)), (by first | rfl | (simp; done) | (simp [*]; done)), H', ⟨by have := HK1.out; omega⟩, ⟨by (with_reducible repeat (first | apply Kd.R_alloc | apply Kd.R_drewN | apply Kd.R_drew)); exact HO147.out⟩, ⟨by repeat (first | (with_reducible first | exact HB.out | apply below_alloc | apply pw_below_drewN | apply below_drew1) | exact HB.out)⟩⟩
       ·rw [if_neg c9] at H
        exact absurd H (by simp)
      ·rw [if_neg c8] at H
       have c8b0 : (t144 == a2) = false := by simpa using c8
       (try (have c8b1 : decide (t144 = a2) = false := by simpa using c8))
       (try (have c8b2 : (t144 == a2) = false := by simpa using c8))
       (try (have c8b3 : ¬ (t144 = a2) := by simpa using c8))
       clear c8
       have H' := Aside0.mk H
       clear H
       have p143 : 0 ≤ (x12_1 : Int) := of_decide_eq_true (by first | (with_reducible assumption) | assumption)
       have q143 : x12_1 < (l0.length : Int) := of_decide_eq_true (by first | (with_reducible assumption) | assumption)
       obtain ⟨ad143, e143, hx143_0⟩ := Kd.at_int HR0.out x12_1 p143 q143
       cases e143
       replace hx143_0 := (HB.out.cell (World.block_lt_of_cell? w _ hx143_0)).trans hx143_0
       replace p143 := eq_true p143
       replace q143 := eq_true q143
       go_wp2_with (first | ((with_reducible refine gate_callee (f := 80) rfl ?_); refine goesL_ (some 18) rfl rfl Tryd.func80 (by kernel_rfl) rfl #[.slice A1 l1.length c1, .int .i64 (rd l0 x12_1)] rfl (by (try simp only [List.map_toArray, List.map_cons, List.map_nil]); first | done | rfl | (simp only [List.length_drop, List.length_take]; rfl)) ?_; (with_reducible refine (spec_l1Has.calls k1 _ _ l1 (rd l0 x12_1) t144 _ ?side1 ?side2 A7.out).mono ?_); (case side1 => repeat (first | exact (Kd.C_below HR1.out HB.out) | (with_reducible refine Kd.C_alloc ?_ _) | (with_reducible refine Kd.C_drewN ?_ _) | (with_reducible refine Kd.C_drew ?_))); (case side2 => exact HC1.out); rintro e w' ⟨rfl, ⟨nd, rfl⟩⟩; refine ⟨_, rfl, ?_⟩))
       go_roundg k1
       case measure => have := HK1.out; omega
       case rel => exact ⟨(x7_1), (wrap64 (x12_1 + 1)), (by first | rfl | (simp; done) | (simp [*]; done)), H', ⟨by have := HK1.out; omega⟩, ⟨by (with_reducible repeat (first | apply Kd.R_alloc | apply Kd.R_drewN | apply Kd.R_drew)); exact HO_7.out⟩, ⟨by repeat (first | (with_reducible first | exact HB.out | apply below_alloc | apply pw_below_drewN | apply below_drew1) | exact HB.out)⟩⟩
     ·rw [if_neg c6] at H
      exact absurd H (by simp)
    ·rw [if_neg c5] at H
     exact absurd H (by simp)
   ·rw [if_neg c4] at H
    have c4b0 : decide (x12_1 < (l0.length : Int)) = false := decide_eq_false c4
    clear c4
    obtain rfl := Option.some.inj H
    go_wp2
    go_ret
    exact ⟨_, by first | rfl | (simp [errW_none, errW_some] <;> rfl) | (simp [*, errW_none, errW_some] <;> rfl), by (with_reducible repeat (first | apply Kd.R_alloc | apply Kd.R_drewN | apply Kd.R_drew)); exact HO_7.out, by repeat (first | (with_reducible first | exact HB.out | apply below_alloc | apply pw_below_drewN | apply below_drew1) | exact HB.out)⟩

/-! ### spec_nuChange: function 49 -/
def spec_nuChange.f (k : Nat) (a0 : Int) (a1 : Int) : Option (Int × Int) := (spec_nuPlaces.f a1).bind fun t148 => ((spec_nuPlaces.f a0).bind fun t151 => ((spec_fiThose.f k t148 t151 false).bind fun t154 => ((spec_nuPlaces.f a0).bind fun t157 => ((spec_nuPlaces.f a1).bind fun t160 => ((spec_fiThose.f k t157 t160 false).bind fun t163 => (some ((t154.length : Int), (t163.length : Int))))))))
theorem spec_nuChange.mono : ∀ a0 a1 k, LeO (spec_nuChange.f k a0 a1) (spec_nuChange.f (k + 1) a0 a1) := by
 intro a0 a1 k
 unfold spec_nuChange.f
 repeat' first
   | (with_reducible exact spec_fiThose.mono _ _ _ _)
   | (with_reducible exact LeO.refl _)
   | (with_reducible exact LeO.none _)
   | (with_reducible refine LeO.ite ?_ ?_)
   | (with_reducible refine LeO.bind ?_ (fun _ => ?_))
   | exact spec_fiThose.mono _ _ _ _
   | exact LeO.none _
   | refine LeO.ite ?_ ?_
   | refine LeO.bind ?_ (fun _ => ?_)
set_option maxHeartbeats 8000000 in
set_option maxRecDepth 100000 in
theorem spec_nuChange.calls (k : Nat) (a0 : Int) (a1 : Int) (r1 : Int) (r2 : Int) (w : World) (h : spec_nuChange.f k a0 a1 = some (r1, r2)) :
  Calls Tryd.prog 49 #[.int .i64 a0, .int .i64 a1] w fun e w' => e = .returned (.tuple #[.int .i64 r1, .int .i64 r2]) ∧ Below w.heap.size w w' := by
 have HB := Aside0.mk (Below.refl w.heap.size w)
 have H : ((spec_nuPlaces.f a1).bind fun t148 => ((spec_nuPlaces.f a0).bind fun t151 => ((spec_fiThose.f k t148 t151 false).bind fun t154 => ((spec_nuPlaces.f a0).bind fun t157 => ((spec_nuPlaces.f a1).bind fun t160 => ((spec_fiThose.f k t157 t160 false).bind fun t163 => (some ((t154.length : Int), (t163.length : Int))))))))) = some (r1, r2) := h
 clear h
 replace H := Option.bind_eq_some_iff.mp H
 obtain ⟨t148, A30, H⟩ := H
 replace H : ((spec_nuPlaces.f a0).bind fun t151 => ((spec_fiThose.f k t148 t151 false).bind fun t154 => ((spec_nuPlaces.f a0).bind fun t157 => ((spec_nuPlaces.f a1).bind fun t160 => ((spec_fiThose.f k t157 t160 false).bind fun t163 => (some ((t154.length : Int), (t163.length : Int)))))))) = some (r1, r2) := H
 have A3 := Aside0.mk A30
 clear A30
 replace H := Option.bind_eq_some_iff.mp H
 obtain ⟨t151, A40, H⟩ := H
 replace H : ((spec_fiThose.f k t148 t151 false).bind fun t154 => ((spec_nuPlaces.f a0).bind fun t157 => ((spec_nuPlaces.f a1).bind fun t160 => ((spec_fiThose.f k t157 t160 false).bind fun t163 => (some ((t154.length : Int), (t163.length : Int))))))) = some (r1, r2) := H
 have A4 := Aside0.mk A40
 clear A40
 replace H := Option.bind_eq_some_iff.mp H
 obtain ⟨t154, A50, H⟩ := H
 replace H : ((spec_nuPlaces.f a0).bind fun t157 => ((spec_nuPlaces.f a1).bind fun t160 => ((spec_fiThose.f k t157 t160 false).bind fun t163 => (some ((t154.length : Int), (t163.length : Int)))))) = some (r1, r2) := H
 have A5 := Aside0.mk A50
 clear A50
 replace H := Option.bind_eq_some_iff.mp H
 obtain ⟨t157, A60, H⟩ := H
 replace H : ((spec_nuPlaces.f a1).bind fun t160 => ((spec_fiThose.f k t157 t160 false).bind fun t163 => (some ((t154.length : Int), (t163.length : Int))))) = some (r1, r2) := H
 have A6 := Aside0.mk A60
 clear A60
 replace H := Option.bind_eq_some_iff.mp H
 obtain ⟨t160, A70, H⟩ := H
 replace H : ((spec_fiThose.f k t157 t160 false).bind fun t163 => (some ((t154.length : Int), (t163.length : Int)))) = some (r1, r2) := H
 have A7 := Aside0.mk A70
 clear A70
 replace H := Option.bind_eq_some_iff.mp H
 obtain ⟨t163, A80, H⟩ := H
 replace H : (some ((t154.length : Int), (t163.length : Int))) = some (r1, r2) := H
 have A8 := Aside0.mk A80
 clear A80
 simp only [Option.some.injEq, Prod.mk.injEq] at H
 obtain ⟨rfl, rfl⟩ := H
 go_enter Tryd.func49, Tryd.ntmps49
 go_wp2_with (first | ((with_reducible refine gate_callee (f := 28) rfl ?_); refine goesL_ (some 7) rfl rfl Tryd.func28 (by kernel_rfl) rfl #[.int .i64 a1] rfl (by (try simp only [List.map_toArray, List.map_cons, List.map_nil]); first | done | rfl | (simp only [List.length_drop, List.length_take]; rfl)) ?_; (with_reducible refine (spec_nuPlaces.calls a1 t148 _ A3.out).mono ?_); rintro e w9 ⟨v149, rfl, ho0, hb⟩; refine ⟨_, rfl, ?_⟩; have n0_ := Aside0.mk (Kd.V_lower (Kd.V_mono (ok' := fun k_ => True) ho0 (fun k_ hk_ => trivial)) (below_size (by repeat (first | (with_reducible first | exact HB.out | apply below_alloc | apply pw_below_drewN | apply below_drew1) | exact HB.out)))); have n1_ := Aside0.mk (below_step (by repeat (first | (with_reducible first | exact HB.out | apply below_alloc | apply pw_below_drewN | apply below_drew1) | exact HB.out)) hb); clear HB; have HO150 := n0_; have HB := n1_; clear n0_ n1_; (try clear hb); (try clear hb2); (try clear hk); (try clear hi); (try clear ho0)) | ((with_reducible refine gate_callee (f := 28) rfl ?_); refine goesL_ (some 9) rfl rfl Tryd.func28 (by kernel_rfl) rfl #[.int .i64 a0] rfl (by (try simp only [List.map_toArray, List.map_cons, List.map_nil]); first | done | rfl | (simp only [List.length_drop, List.length_take]; rfl)) ?_; (with_reducible refine (spec_nuPlaces.calls a0 t151 _ A4.out).mono ?_); rintro e w10 ⟨v152, rfl, ho0, hb⟩; refine ⟨_, rfl, ?_⟩; have n0_ := Aside0.mk (Kd.V_below (by (with_reducible repeat (first | apply Kd.V_alloc | apply Kd.V_drewN | apply Kd.V_drew)); exact HO150.out) hb); have n1_ := Aside0.mk (Kd.V_lower (Kd.V_mono (ok' := fun k_ => True) ho0 (fun k_ hk_ => trivial)) (below_size (by repeat (first | (with_reducible first | exact HB.out | apply below_alloc | apply pw_below_drewN | apply below_drew1) | exact HB.out)))); have n2_ := Aside0.mk (below_step (by repeat (first | (with_reducible first | exact HB.out | apply below_alloc | apply pw_below_drewN | apply below_drew1) | exact HB.out)) hb); clear HO150; clear HB; have HO150 := n0_; have HO153 := n1_; have HB := n2_; clear n0_ n1_ n2_; (try clear hb); (try clear hb2); (try clear hk); (try clear hi); (try clear ho0); obtain ⟨Ao11, co11, eo11⟩ := Kd.V_slice HO150.out; subst eo11; obtain ⟨Ao12, co12, eo12⟩ := Kd.V_slice HO153.out; subst eo12) | ((with_reducible refine gate_callee (f := 66) rfl ?_); refine goesL_ (some 10) rfl rfl Tryd.func66 (by kernel_rfl) rfl #[.slice Ao11 t148.length co11, .slice Ao12 t151.length co12, .bool false] rfl (by (try simp only [List.map_toArray, List.map_cons, List.map_nil]); first | done | rfl | (simp only [List.length_drop, List.length_take]; rfl)) ?_; (with_reducible refine (spec_fiThose.calls k _ _ t148 _ _ t151 false t154 _ ?side1 ?side2 ?side3 ?side4 A5.out).mono ?_); (case side1 => repeat (first | exact (Kd.V_reads' HO150.out).2.2 | (with_reducible refine Kd.C_alloc ?_ _) | (with_reducible refine Kd.C_drewN ?_ _) | (with_reducible refine Kd.C_drew ?_))); (case side2 => exact (Kd.V_reads' HO150.out).2.1); (case side3 => repeat (first | exact (Kd.V_reads' HO153.out).2.2 | (with_reducible refine Kd.C_alloc ?_ _) | (with_reducible refine Kd.C_drewN ?_ _) | (with_reducible refine Kd.C_drew ?_))); (case side4 => exact (Kd.V_reads' HO153.out).2.1); rintro e w13 ⟨v155, rfl, ho0, hb⟩; refine ⟨_, rfl, ?_⟩; have n0_ := Aside0.mk (Kd.V_elder' (by (with_reducible repeat (first | apply Kd.V_alloc | apply Kd.V_drewN | apply Kd.V_drew)); exact HO150.out) (Kd.R_base ho0) hb); have n1_ := Aside0.mk (Kd.V_elder' (by (with_reducible repeat (first | apply Kd.V_alloc | apply Kd.V_drewN | apply Kd.V_drew)); exact HO153.out) (Kd.R_base ho0) hb); have n2_ := Aside0.mk (Kd.R_lower ho0 (below_size (by repeat (first | (with_reducible first | exact HB.out | apply below_alloc | apply pw_below_drewN | apply below_drew1) | exact HB.out)))); have n3_ := Aside0.mk (below_step (by repeat (first | (with_reducible first | exact HB.out | apply below_alloc | apply pw_below_drewN | apply below_drew1) | exact HB.out)) hb); clear HO150; clear HO153; clear HB; have HO150 := n0_; have HO153 := n1_; have HO156 := n2_; have HB := n3_; clear n0_ n1_ n2_ n3_; (try clear hb); (try clear hb2); (try clear hk); (try clear hi); (try clear ho0); obtain ⟨Ao14, co14, eo14⟩ := Kd.R_slice HO156.out; subst eo14) | ((with_reducible refine gate_callee (f := 28) rfl ?_); refine goesL_ (some 13) rfl rfl Tryd.func28 (by kernel_rfl) rfl #[.int .i64 a0] rfl (by (try simp only [List.map_toArray, List.map_cons, List.map_nil]); first | done | rfl | (simp only [List.length_drop, List.length_take]; rfl)) ?_; (with_reducible refine (spec_nuPlaces.calls a0 t157 _ A6.out).mono ?_); rintro e w15 ⟨v158, rfl, ho0, hb⟩; refine ⟨_, rfl, ?_⟩; have n0_ := Aside0.mk (Kd.V_below (by (with_reducible repeat (first | apply Kd.V_alloc | apply Kd.V_drewN | apply Kd.V_drew)); exact HO150.out) hb); have n1_ := Aside0.mk (Kd.V_below (by (with_reducible repeat (first | apply Kd.V_alloc | apply Kd.V_drewN | apply Kd.V_drew)); exact HO153.out) hb); have n2_ := Aside0.mk (Kd.R_below (by (with_reducible repeat (first | apply Kd.R_alloc | apply Kd.R_drewN | apply Kd.R_drew)); exact HO156.out) hb); have n3_ := Aside0.mk (Kd.V_lower (Kd.V_mono (ok' := fun k_ => some k_ ≠ (.slice Ao14 t154.length co14 : Value).ownBlock) ho0 (fun k_ hk_ => (Kd.fresh' (Kd.R_lt (by (with_reducible repeat (first | apply Kd.R_alloc | apply Kd.R_drewN | apply Kd.R_drew)); exact HO156.out)) k_ hk_))) (below_size (by repeat (first | (with_reducible first | exact HB.out | apply below_alloc | apply pw_below_drewN | apply below_drew1) | exact HB.out)))); have n4_ := Aside0.mk (below_step (by repeat (first | (with_reducible first | exact HB.out | apply below_alloc | apply pw_below_drewN | apply below_drew1) | exact HB.out)) hb); clear HO150; clear HO153; clear HO156; clear HB; have HO150 := n0_; have HO153 := n1_; have HO156 := n2_; have HO159 := n3_; have HB := n4_; clear n0_ n1_ n2_ n3_ n4_; (try clear hb); (try clear hb2); (try clear hk); (try clear hi); (try clear ho0)) | ((with_reducible refine gate_callee (f := 28) rfl ?_); refine goesL_ (some 15) rfl rfl Tryd.func28 (by kernel_rfl) rfl #[.int .i64 a1] rfl (by (try simp only [List.map_toArray, List.map_cons, List.map_nil]); first | done | rfl | (simp only [List.length_drop, List.length_take]; rfl)) ?_; (with_reducible refine (spec_nuPlaces.calls a1 t160 _ A7.out).mono ?_); rintro e w16 ⟨v161, rfl, ho0, hb⟩; refine ⟨_, rfl, ?_⟩; have n0_ := Aside0.mk (Kd.V_below (by (with_reducible repeat (first | apply Kd.V_alloc | apply Kd.V_drewN | apply Kd.V_drew)); exact HO150.out) hb); have n1_ := Aside0.mk (Kd.V_below (by (with_reducible repeat (first | apply Kd.V_alloc | apply Kd.V_drewN | apply Kd.V_drew)); exact HO153.out) hb); have n2_ := Aside0.mk (Kd.R_below (by (with_reducible repeat (first | apply Kd.R_alloc | apply Kd.R_drewN | apply Kd.R_drew)); exact HO156.out) hb); have n3_ := Aside0.mk (Kd.V_below (by (with_reducible repeat (first | apply Kd.V_alloc | apply Kd.V_drewN | apply Kd.V_drew)); exact HO159.out) hb); have n4_ := Aside0.mk (Kd.V_lower (Kd.V_mono (ok' := fun k_ => some k_ ≠ (.slice Ao14 t154.length co14 : Value).ownBlock) ho0 (fun k_ hk_ => (Kd.fresh' (Kd.R_lt (by (with_reducible repeat (first | apply Kd.R_alloc | apply Kd.R_drewN | apply Kd.R_drew)); exact HO156.out)) k_ hk_))) (below_size (by repeat (first | (with_reducible first | exact HB.out | apply below_alloc | apply pw_below_drewN | apply below_drew1) | exact HB.out)))); have n5_ := Aside0.mk (below_step (by repeat (first | (with_reducible first | exact HB.out | apply below_alloc | apply pw_below_drewN | apply below_drew1) | exact HB.out)) hb); clear HO150; clear HO153; clear HO156; clear HO159; clear HB; have HO150 := n0_; have HO153 := n1_; have HO156 := n2_; have HO159 := n3_; have HO162 := n4_; have HB := n5_; clear n0_ n1_ n2_ n3_ n4_ n5_; (try clear hb); (try clear hb2); (try clear hk); (try clear hi); (try clear ho0); obtain ⟨Ao17, co17, eo17⟩ := Kd.V_slice HO159.out; subst eo17; obtain ⟨Ao18, co18, eo18⟩ := Kd.V_slice HO162.out; subst eo18) | ((with_reducible refine gate_callee (f := 66) rfl ?_); refine goesL_ (some 16) rfl rfl Tryd.func66 (by kernel_rfl) rfl #[.slice Ao17 t157.length co17, .slice Ao18 t160.length co18, .bool false] rfl (by (try simp only [List.map_toArray, List.map_cons, List.map_nil]); first | done | rfl | (simp only [List.length_drop, List.length_take]; rfl)) ?_; (with_reducible refine (spec_fiThose.calls k _ _ t157 _ _ t160 false t163 _ ?side1 ?side2 ?side3 ?side4 A8.out).mono ?_); (case side1 => repeat (first | exact (Kd.V_reads' HO159.out).2.2 | (with_reducible refine Kd.C_alloc ?_ _) | (with_reducible refine Kd.C_drewN ?_ _) | (with_reducible refine Kd.C_drew ?_))); (case side2 => exact (Kd.V_reads' HO159.out).2.1); (case side3 => repeat (first | exact (Kd.V_reads' HO162.out).2.2 | (with_reducible refine Kd.C_alloc ?_ _) | (with_reducible refine Kd.C_drewN ?_ _) | (with_reducible refine Kd.C_drew ?_))); (case side4 => exact (Kd.V_reads' HO162.out).2.1); rintro e w19 ⟨v164, rfl, ho0, hb⟩; refine ⟨_, rfl, ?_⟩; have n0_ := Aside0.mk (Kd.V_elder' (by (with_reducible repeat (first | apply Kd.V_alloc | apply Kd.V_drewN | apply Kd.V_drew)); exact HO150.out) (Kd.R_base ho0) hb); have n1_ := Aside0.mk (Kd.V_elder' (by (with_reducible repeat (first | apply Kd.V_alloc | apply Kd.V_drewN | apply Kd.V_drew)); exact HO153.out) (Kd.R_base ho0) hb); have n2_ := Aside0.mk (Kd.R_elder' (by (with_reducible repeat (first | apply Kd.R_alloc | apply Kd.R_drewN | apply Kd.R_drew)); exact HO156.out) (Kd.R_base ho0) hb); have n3_ := Aside0.mk (Kd.V_elder' (by (with_reducible repeat (first | apply Kd.V_alloc | apply Kd.V_drewN | apply Kd.V_drew)); exact HO159.out) (Kd.R_base ho0) hb); have n4_ := Aside0.mk (Kd.V_elder' (by (with_reducible repeat (first | apply Kd.V_alloc | apply Kd.V_drewN | apply Kd.V_drew)); exact HO162.out) (Kd.R_base ho0) hb); have n5_ := Aside0.mk (Kd.R_lower (Kd.R_new' ho0 (Kd.R_lt (by (with_reducible repeat (first | apply Kd.R_alloc | apply Kd.R_drewN | apply Kd.R_drew)); exact HO156.out))) (below_size (by repeat (first | (with_reducible first | exact HB.out | apply below_alloc | apply pw_below_drewN | apply below_drew1) | exact HB.out)))); have n6_ := Aside0.mk (below_step (by repeat (first | (with_reducible first | exact HB.out | apply below_alloc | apply pw_below_drewN | apply below_drew1) | exact HB.out)) hb); clear HO150; clear HO153; clear HO156; clear HO159; clear HO162; clear HB; have HO150 := n0_; have HO153 := n1_; have HO156 := n2_; have HO159 := n3_; have HO162 := n4_; have HO165 := n5_; have HB := n6_; clear n0_ n1_ n2_ n3_ n4_ n5_ n6_; (try clear hb); (try clear hb2); (try clear hk); (try clear hi); (try clear ho0); obtain ⟨Ao20, co20, eo20⟩ := Kd.R_slice HO165.out; subst eo20))
 go_ret2
 exact ⟨by first | rfl | (simp [errW_none, errW_some] <;> rfl) | (simp [*, errW_none, errW_some] <;> rfl), by repeat (first | (with_reducible first | exact HB.out | apply below_alloc | apply pw_below_drewN | apply below_drew1) | exact HB.out)⟩

/-! ### spec_nuMoves: function 34 -/
/-- The matches added and taken, place by place (of texts of ASCII bytes). -/
def mvIn (k : Nat) : List UInt8 → List UInt8 → Int → Int → Option (Int × Int)
 | [], _, a, t => some (a, t)
 | x :: xs, y :: ys, a, t => if x.toNat < 128 then (spec_nuChange.f k (((x.toNat : Int) - 48) % 256) (((y.toNat : Int) - 48) % 256)).bind fun pq => mvIn k xs ys (wrap64 (a + pq.1)) (wrap64 (t + pq.2)) else none
 | _ :: _, [], _, _ => none
/-- .. numeral by numeral. -/
def mvOut (k : Nat) : List ByteArray → List ByteArray → Int → Int → Option (Int × Int × Bool)
 | [], _, a, t => some (a, t, true)
 | s :: ss, u :: us, a, t => if s.size = u.size then (mvIn k s.data.toList u.data.toList a t).bind fun at2 => mvOut k ss us at2.1 at2.2 else some (0, 0, false)
 | _ :: _, [], _, _ => none
theorem mvIn.mono : ∀ (l m : List UInt8) (a t : Int) (k : Nat), LeO (mvIn k l m a t) (mvIn (k + 1) l m a t)
 | [], _, a, t, k => LeO.refl _
 | x :: xs, y :: ys, a, t, k => by
  simp only [mvIn]
  exact LeO.ite (LeO.bind (spec_nuChange.mono _ _ _) (fun _ => mvIn.mono xs ys _ _ k)) (LeO.none _)
 | _ :: _, [], _, _, _ => LeO.none _
theorem mvOut.mono : ∀ (l m : List ByteArray) (a t : Int) (k : Nat), LeO (mvOut k l m a t) (mvOut (k + 1) l m a t)
 | [], _, a, t, k => LeO.refl _
 | s :: ss, u :: us, a, t, k => by
  simp only [mvOut]
  exact LeO.ite (LeO.bind (mvIn.mono _ _ _ _ k) (fun _ => mvOut.mono ss us _ _ k)) (LeO.refl _)
 | _ :: _, [], _, _, _ => LeO.none _
def spec_nuMoves.f (k : Nat) (l0_0 : List ByteArray) (a0_1 : Bool) (l1_0 : List ByteArray) (a1_1 : Bool) : Option (Int × Int × Bool) :=
 mvOut k l0_0 l1_0 (if a1_1 = true then (if a0_1 = true then 0 else 1) else 0) (if a0_1 = true then (if a1_1 = true then 0 else 1) else 0)
theorem spec_nuMoves.mono : ∀ a0 a1 a2 a3 k, LeO (spec_nuMoves.f k a0 a1 a2 a3) (spec_nuMoves.f (k + 1) a0 a1 a2 a3) := fun _ _ _ _ _ => mvOut.mono _ _ _ _ _
theorem cell_keepM {wc w1 : World} {p : Addr} {v : Value} (h : wc.cell? p = some v) (hb : Below wc.heap.size wc w1) : w1.cell? p = some v := (hb.cell (World.block_lt_of_cell? _ _ h)).trans h
theorem keepM {W wc w1 : World} (h : Below W.heap.size W wc ∧ True) (hb : Below wc.heap.size wc w1) : Below W.heap.size W w1 ∧ True := ⟨h.1.trans (hb.mono h.1.size), trivial⟩
theorem digit_numM (b : UInt8) : IntKind.i64.wrap (IntKind.u8.wrap ((b.toNat : Int) - 48)) = ((b.toNat : Int) - 48) % 256 := by
 rw [show IntKind.u8.wrap ((b.toNat : Int) - 48) = ((b.toNat : Int) - 48) % 256 by simp [IntKind.wrap, IntKind.bits, IntKind.signed], IntKind.wrap_i64]
 omega
set_option maxHeartbeats 8000000 in
set_option maxRecDepth 100000 in
theorem spec_nuMoves.calls (k : Nat) (A0_0 : Option Addr) (c0_0 : Nat) (l0_0 : List ByteArray) (a0_1 : Bool) (A1_0 : Option Addr) (c1_0 : Nat) (l1_0 : List ByteArray) (a1_1 : Bool) (r1 : Int) (r2 : Int) (r3 : Bool) (w : World) (hr0_0 : Kd.C Kd.string w A0_0 l0_0.length l0_0) (hc0_0 : l0_0.length ≤ c0_0) (hr1_0 : Kd.C Kd.string w A1_0 l1_0.length l1_0) (hc1_0 : l1_0.length ≤ c1_0) (h : spec_nuMoves.f k l0_0 a0_1 l1_0 a1_1 = some (r1, r2, r3)) :
  Calls Tryd.prog 34 #[.agg #[.slice A0_0 l0_0.length c0_0, .bool a0_1], .agg #[.slice A1_0 l1_0.length c1_0, .bool a1_1]] w fun e w' => e = .returned (.tuple #[.int .i64 r1, .int .i64 r2, .bool r3]) ∧ Below w.heap.size w w' := by
 unfold spec_nuMoves.f at h
 have HN := Aside0.mk h
 have HR0 := Aside0.mk hr0_0
 have HR1 := Aside0.mk hr1_0
 clear h hr0_0 hr1_0
 generalize ha0 : (if a1_1 = true then (if a0_1 = true then (0 : Int) else 1) else 0) = x0 at *
 generalize ht0 : (if a0_1 = true then (if a1_1 = true then (0 : Int) else 1) else 0) = y0 at *
 have hl0 : l0_0.length ≤ 9223372036854775807 := Kd.C_max HR0.out
 go_enter Tryd.func34, Tryd.ntmps34
 go_upto_region 2 with fail
 have hE := blk_alloc (blk_new w (.cells #[.slice A0_0 l0_0.length c0_0, .bool a0_1] 39)) (.cells #[.slice A1_0 l1_0.length c1_0, .bool a1_1] 39)
 have hF := blk_new (w.alloc (.cells #[.slice A0_0 l0_0.length c0_0, .bool a0_1] 39)) (.cells #[.slice A1_0 l1_0.length c1_0, .bool a1_1] 39)
 have hB := below_alloc (below_alloc (Below.refl w.heap.size w) (.cells #[.slice A0_0 l0_0.length c0_0, .bool a0_1] 39)) (.cells #[.slice A1_0 l1_0.length c1_0, .bool a1_1] 39)
 rw [show (w.alloc (.cells #[.slice A0_0 l0_0.length c0_0, .bool a0_1] 39)).heap.size = w.heap.size + 1 by simp] at hF
 generalize (w.alloc (.cells #[.slice A0_0 l0_0.length c0_0, .bool a0_1] 39)).alloc (.cells #[.slice A1_0 l1_0.length c1_0, .bool a1_1] 39) = W0 at *
 have HC0 := Aside0.mk (Kd.C_below HR0.out hB)
 have HC1 := Aside0.mk (Kd.C_below HR1.out hB)
 clear HR0 HR1
 cases a0_1 <;> cases a1_1
 all_goals
  have hz0 := (blk_cell hE 0).trans rfl
  have hz1 := (blk_cell hE 1).trans rfl
  have hy0 := (blk_cell hF 0).trans rfl
  have hy1 := (blk_cell hF 1).trans rfl
  have HE := Aside0.mk hE
  have HF := Aside0.mk hF
  have HB := Aside0.mk hB
  clear hE hF hB
  go_wp2
  go_loopg [7, 8, 36] l0_0.length (fun gg v7 v8 v36 wr => ∃ (i : Nat) (a t : Int), v7 = .int .i64 a ∧ v8 = .int .i64 t ∧ v36 = .int .i64 i ∧ i ≤ l0_0.length ∧ l0_0.length - i ≤ gg ∧ Aside0 (mvOut k (l0_0.drop i) (l1_0.drop i) a t = some (r1, r2, r3)) ∧ Aside0 (Below W0.heap.size W0 wr))
  case atStart => exact ⟨0, x0, y0, by subst ha0; rfl, by subst ht0; rfl, rfl, by omega, by omega, ⟨by simpa using HN.out⟩, ⟨Below.refl _ _⟩⟩
  case round =>
   clear HN hz0 hz1 hy0 hy1 ha0 ht0
   obtain ⟨i, a, t, rfl, rfl, rfl, hi, hg, HA, HBr⟩ := hrel
   by_cases hlt : i < l0_0.length
   ·have hlz : (i : Int) < (l0_0.length : Int) := by omega
    have H := HA.out
    rw [List.drop_eq_getElem_cons hlt] at H
    by_cases hlu : i < l1_0.length
    case neg => rw [show l1_0.drop i = [] from List.drop_of_length_le (by omega)] at H; cases H
    have hlv : (i : Int) < (l1_0.length : Int) := by omega
    rw [List.drop_eq_getElem_cons hlu] at H
    simp only [mvOut] at H
    obtain ⟨ad, hAd, h0⟩ := Kd.at_string (Kd.C_below HC0.out HBr.out) (i : Int) (by omega) (by omega)
    obtain ⟨bd, hBd, h1⟩ := Kd.at_string (Kd.C_below HC1.out HBr.out) (i : Int) (by omega) (by omega)
    rw [Int.toNat_natCast] at h0 h1
    have hx : rdOf ByteArray.empty l0_0 (i : Int) = l0_0[i] := by unfold rdOf; rw [Int.toNat_natCast]; simp [List.getD_eq_getElem?_getD, hlt]
    have hy : rdOf ByteArray.empty l1_0 (i : Int) = l1_0[i] := by unfold rdOf; rw [Int.toNat_natCast]; simp [List.getD_eq_getElem?_getD, hlu]
    rw [hx] at h0
    rw [hy] at h1
    clear HA hx hy
    generalize l0_0[i] = s at *
    generalize l1_0[i] = u at *
    subst hAd
    subst hBd
    have hq0 := (blk_cell (blk_below HF.out HBr.out) 0).trans rfl
    have hi0 : (0 : Int) ≤ (i : Int) := by omega
    by_cases hsz : s.size = u.size
    case neg =>
     rw [if_neg hsz] at H
     obtain ⟨rfl, h2⟩ := Prod.mk.inj (Option.some.inj H)
     obtain ⟨rfl, rfl⟩ := Prod.mk.inj h2
     clear H h2
     have hsz2 : ((s.size : Int) != (u.size : Int)) = true := bne_iff_ne.2 (by omega)
     go_wp2
     go_ret3
     exact ⟨rfl, HB.out.trans (HBr.out.mono HB.out.size)⟩
    case pos =>
     rw [if_pos hsz] at H
     obtain ⟨⟨fa, ft⟩, hin, H⟩ := Option.bind_eq_some_iff.mp H
     have HIN := Aside0.mk hin
     have HH := Aside0.mk H
     clear hin H
     have hsz2 : ((s.size : Int) != (u.size : Int)) = false := bne_eq_false_iff_eq.2 (by omega)
     go_wp2
     obtain ⟨wo, hwo⟩ : ∃ wo, wo = wr := ⟨_, rfl⟩
     subst hwo
     generalize hw0 : wo.heap.size = k0
     go_loopg [7, 8] s.size (fun gg v7 v8 wx => ∃ (j : Nat) (a' t' : Int), s.size - j ≤ gg ∧ j ≤ s.size ∧ v7 = .int .i64 a' ∧ v8 = .int .i64 t' ∧ Aside0 (wx.heap[k0]? = some (.stringIter s j)) ∧ Aside0 (Below k0 wo wx) ∧ Aside0 (mvIn k (s.data.toList.drop j) (u.data.toList.drop j) a' t' = some (fa, ft)))
     case atStart => exact ⟨0, a, t, by omega, by omega, rfl, rfl, ⟨by subst hw0; exact World.iter_heap _ _ _⟩, ⟨by subst hw0; exact (Below.refl _ _).alloc (Nat.le_refl _) _⟩, ⟨by rw [List.drop_zero, List.drop_zero]; exact HIN.out⟩⟩
     case round =>
      obtain ⟨j, a', t', hjg, hjl, rfl, rfl, HK, HBx, HI⟩ := hrel
      clear h0 h1 hq0
      have hsl : s.data.toList.length = s.size := (Lib.size_eq s).symm
      have hul : u.data.toList.length = u.size := (Lib.size_eq u).symm
      by_cases hj : j < s.size
      ·have hju : j < u.size := by omega
       have hI := HI.out
       rw [List.drop_eq_getElem_cons (show j < s.data.toList.length by omega), List.drop_eq_getElem_cons (show j < u.data.toList.length by omega)] at hI
       simp only [mvIn] at hI
       have hxe : ∀ h, s.data.toList[j]'h = s[j]'hj := fun h => by rw [Array.getElem_toList]; rfl
       have hye : ∀ h, u.data.toList[j]'h = u[j]'hju := fun h => by rw [Array.getElem_toList]; rfl
       rw [hxe, hye] at hI
       obtain ⟨x, hx⟩ : ∃ x, s[j]'hj = x := ⟨_, rfl⟩
       obtain ⟨y, hy⟩ : ∃ y, u[j]'hju = y := ⟨_, rfl⟩
       rw [hx, hy] at hI
       by_cases hx8 : x.toNat < 128
       case neg => rw [if_neg hx8] at hI; cases hI
       rw [if_pos hx8] at hI
       obtain ⟨⟨p, q⟩, hpq, hI⟩ := Option.bind_eq_some_iff.mp hI
       have hnx := fun ty => Lib.run_next_ascii_at (P := Tryd.prog) wr k0 s j ty HK.out hj (by rw [hx]; exact hx8)
       have HK1 := Aside0.mk (Lib.iterAt_heap wr k0 s j (j + 1) HK.out)
       have HB1 := Aside0.mk (Lib.below_iterAt HBx.out (Nat.le_refl _) s (j + 1))
       have hkz := blk_lt HK1.out
       have hbx : ∀ h : j < s.size, ((s[j]'h).toNat : Int) = (x.toNat : Int) := fun h => by rw [hx]
       have hby : ∀ h : j < u.size, ((u[j]'h).toNat : Int) = (y.toNat : Int) := fun h => by rw [hy]
       have d1 := digit_numM x
       have d2 := digit_numM y
       have j0 : (0 : Int) ≤ (j : Int) := by omega
       have j1 : (j : Int) < (s.size : Int) := by omega
       have j2 : (j : Int) < (u.size : Int) := by omega
       have mixed : Tryd.prog.follows .mixedOrders = true := by kernel_rfl
       have HPQ := Aside0.mk (fun W => spec_nuChange.calls k _ _ p q W hpq)
       have HH2 := Aside0.mk hI
       clear hxe hye hpq hI hx8
       rw [hx] at hnx
       generalize wr.iterAt k0 s (j + 1) = wq at *
       clear hx hy HK HBx HI
       go_wp2
       go_region_held3 (fun w' => Below wq.heap.size wq w' ∧ True)
        (first | exact ⟨below_drew (Below.refl _ _), trivial⟩ | exact ⟨(below_drew (Below.refl _ _)).trans hb3, trivial⟩ | exact keepM (by assumption) hb3)
        ((go_at_call 49; refine (HPQ.out _).mono ?_; rintro e w3 ⟨rfl, hb3⟩))
       all_goals
        have hbz := And.left (by assumption : Below wq.heap.size wq _ ∧ True)
        go_wp2
        go_roundg (s.size - (j + 1))
        case measure => omega
        case rel => exact ⟨j + 1, _, _, by omega, by omega, rfl, rfl, ⟨(hbz.block k0 hkz).trans HK1.out⟩, ⟨HB1.out.trans (hbz.mono (by omega))⟩, HH2⟩
      ·obtain rfl : j = s.size := by omega
       have hnx := fun ty => Lib.run_next_end_at (P := Tryd.prog) wr k0 s s.size ty HK.out (by omega)
       have hI := HI.out
       rw [List.drop_of_length_le (by omega)] at hI
       obtain ⟨rfl, rfl⟩ := Prod.mk.inj (Option.some.inj hI)
       clear hI HI
       go_wp2
       go_roundg (l0_0.length - (i + 1))
       case measure => omega
       case rel => exact ⟨i + 1, _, _, rfl, rfl, by go_num, by omega, by omega, HH, ⟨HBr.out.trans (Below.mono (by rw [hw0]; exact HBx.out) HBr.out.size)⟩⟩
   ·have hlz : ¬ (i : Int) < (l0_0.length : Int) := by omega
    have H := HA.out
    rw [List.drop_of_length_le (by omega)] at H
    obtain ⟨rfl, h2⟩ := Prod.mk.inj (Option.some.inj H)
    obtain ⟨rfl, rfl⟩ := Prod.mk.inj h2
    clear H h2 HA
    go_wp2
    go_ret3
    exact ⟨rfl, HB.out.trans (HBr.out.mono HB.out.size)⟩

/-! ### spec_MovesToEquation: function 18 -/
def spec_MovesToEquation.j0 : Nat → Bool → List ByteArray → Bool → List ByteArray → Bool → Option (Int × Bool)
 | 0, _, _, _, _, _ => none
 | k + 1, x28, x172000, x172001, x178000, x178001 => if x28 = true then (some (0, false)) else ((spec_nuMoves.f k x172000 x172001 x178000 x178001).bind fun bt178 => (if bt178.2.2 = true then (if bt178.1 = bt178.2.1 then (some (bt178.1, true)) else (some (0, false))) else (some (0, false))))
def spec_MovesToEquation.f (k : Nat) (a0 : ByteArray) (a1 : ByteArray) : Option (Int × Bool) := (spec_nuRead.f k a0).bind fun bt166 => ((spec_nuRead.f k a1).bind fun bt172 => (if bt166.2.2 = true then (spec_MovesToEquation.j0 k (!bt172.2.2) bt166.1 bt166.2.1 bt172.1 bt172.2.1) else (spec_MovesToEquation.j0 k true bt166.1 bt166.2.1 bt172.1 bt172.2.1)))
theorem spec_MovesToEquation.mono_l : ∀ k, (∀ y0 y1 y2 y3 y4, LeO (spec_MovesToEquation.j0 k y0 y1 y2 y3 y4) (spec_MovesToEquation.j0 (k + 1) y0 y1 y2 y3 y4))
 | 0 => fun _ _ _ _ _ r h => by simp [spec_MovesToEquation.j0] at h
 | k + 1 => by
  have ih0 := spec_MovesToEquation.mono_l k
  ·intro y0 y1 y2 y3 y4
   unfold spec_MovesToEquation.j0
   repeat' first
   | (with_reducible exact ih0 _ _ _ _ _)
   | (with_reducible exact spec_nuMoves.mono _ _ _ _ _)
   | (with_reducible exact spec_nuRead.mono _ _)
   | (with_reducible exact LeO.refl _)
   | (with_reducible exact LeO.none _)
   | (with_reducible refine LeO.ite ?_ ?_)
   | (with_reducible refine LeO.bind ?_ (fun _ => ?_))
   | exact ih0 _ _ _ _ _
   | exact spec_nuMoves.mono _ _ _ _ _
   | exact spec_nuRead.mono _ _
   | exact LeO.none _
   | refine LeO.ite ?_ ?_
   | refine LeO.bind ?_ (fun _ => ?_)
theorem spec_MovesToEquation.mono : ∀ a0 a1 k, LeO (spec_MovesToEquation.f k a0 a1) (spec_MovesToEquation.f (k + 1) a0 a1) := by
 intro a0 a1 k
 have ih0 := spec_MovesToEquation.mono_l k
 unfold spec_MovesToEquation.f
 repeat' first
   | (with_reducible exact ih0 _ _ _ _ _)
   | (with_reducible exact spec_nuMoves.mono _ _ _ _ _)
   | (with_reducible exact spec_nuRead.mono _ _)
   | (with_reducible exact LeO.refl _)
   | (with_reducible exact LeO.none _)
   | (with_reducible refine LeO.ite ?_ ?_)
   | (with_reducible refine LeO.bind ?_ (fun _ => ?_))
   | exact ih0 _ _ _ _ _
   | exact spec_nuMoves.mono _ _ _ _ _
   | exact spec_nuRead.mono _ _
   | exact LeO.none _
   | refine LeO.ite ?_ ?_
   | refine LeO.bind ?_ (fun _ => ?_)
set_option maxHeartbeats 8000000 in
set_option maxRecDepth 100000 in
theorem spec_MovesToEquation.calls (k : Nat) (a0 : ByteArray) (a1 : ByteArray) (r1 : Int) (r2 : Bool) (w : World) (h : spec_MovesToEquation.f k a0 a1 = some (r1, r2)) :
  Calls Tryd.prog 18 #[.string a0, .string a1] w fun e w' => e = .returned (.tuple #[.int .i64 r1, .bool r2]) ∧ Below w.heap.size w w' := by
 have hu39 := Tryd.underlying39
 have HB := Aside0.mk (Below.refl w.heap.size w)
 have H : ((spec_nuRead.f k a0).bind fun bt166 => ((spec_nuRead.f k a1).bind fun bt172 => (if bt166.2.2 = true then (spec_MovesToEquation.j0 k (!bt172.2.2) bt166.1 bt166.2.1 bt172.1 bt172.2.1) else (spec_MovesToEquation.j0 k true bt166.1 bt166.2.1 bt172.1 bt172.2.1)))) = some (r1, r2) := h
 clear h
 replace H := Option.bind_eq_some_iff.mp H
 obtain ⟨⟨t166, t169, t170⟩, A30, H⟩ := H
 replace H : ((spec_nuRead.f k a1).bind fun bt172 => (if t170 = true then (spec_MovesToEquation.j0 k (!bt172.2.2) t166 t169 bt172.1 bt172.2.1) else (spec_MovesToEquation.j0 k true t166 t169 bt172.1 bt172.2.1))) = some (r1, r2) := H
 have A3 := Aside0.mk A30
 clear A30
 replace H := Option.bind_eq_some_iff.mp H
 obtain ⟨⟨t172, t175, t176⟩, A40, H⟩ := H
 replace H : (if t170 = true then (spec_MovesToEquation.j0 k (!t176) t166 t169 t172 t175) else (spec_MovesToEquation.j0 k true t166 t169 t172 t175)) = some (r1, r2) := H
 have A4 := Aside0.mk A40
 clear A40
 have HC5 := Aside0.mk H
 clear H
 go_enter Tryd.func18, Tryd.ntmps18
 go_upto_region 3 with (first | ((with_reducible refine gate_callee (f := 30) rfl ?_); refine goesL_ (some 15) rfl rfl Tryd.func30 (by kernel_rfl) rfl #[.string a0] rfl (by (try simp only [List.map_toArray, List.map_cons, List.map_nil]); first | done | rfl | (simp only [List.length_drop, List.length_take]; rfl)) ?_; (with_reducible refine (spec_nuRead.calls k a0 t166 t169 t170 _ A3.out).mono ?_); rintro e w6 ⟨v167, rfl, ho0, hb⟩; refine ⟨_, rfl, ?_⟩; have n0_ := Aside0.mk (Kd.R_lower ho0 (below_size (by repeat (first | (with_reducible first | exact HB.out | apply below_alloc | apply pw_below_drewN | apply below_drew1) | exact HB.out)))); have n1_ := Aside0.mk (below_step (by repeat (first | (with_reducible first | exact HB.out | apply below_alloc | apply pw_below_drewN | apply below_drew1) | exact HB.out)) hb); clear HB; have HO168 := n0_; have HB := n1_; clear n0_ n1_; (try clear hb); (try clear hb2); (try clear hk); (try clear hi); (try clear ho0)) | ((with_reducible refine gate_dst (N := 6) rfl ?_); refine box_event ?hg (N := 6) ?hd (cs := #[.slice none 0 0, .bool false]) (t := 39) ?hr ?_; (case hd => rfl); (case hg => rfl); (case hr => first | (go_simp; done) | (go_simp; rfl)); intro gb171 hg w7 hbox hb; have n0_ := Aside0.mk (Kd.R_below (by (with_reducible repeat (first | apply Kd.R_alloc | apply Kd.R_drewN | apply Kd.R_drew)); exact HO168.out) hb); have n1_ := Aside0.mk (below_step (by repeat (first | (with_reducible first | exact HB.out | apply below_alloc | apply pw_below_drewN | apply below_drew1) | exact HB.out)) hb); have n2_ := Aside0.mk (hbox); have n3_ := Aside0.mk ((by rw [hg]; exact (below_size (by repeat (first | (with_reducible first | exact HB.out | apply below_alloc | apply pw_below_drewN | apply below_drew1) | exact HB.out))) : w.heap.size ≤ gb171)); have n4_ := Aside0.mk ((by rw [hg]; exact (below_size (by repeat (first | (with_reducible first | exact HB.out | apply below_alloc | apply pw_below_drewN | apply below_drew1) | exact HB.out))) : w.heap.size ≤ gb171)); clear HO168; clear HB; have HO168 := n0_; have HB := n1_; have BK171 := n2_; have GW171 := n3_; have GE171 := n4_; clear n0_ n1_ n2_ n3_ n4_; clear hb hbox hg; obtain ⟨Ao8, co8, eo8⟩ := Kd.R_slice HO168.out; subst eo8; have hcz9_0 : w7.cell? ⟨gb171, 0, none⟩ = some (.slice none 0 0) := (blk_cell BK171.out 0).trans rfl; have hcz9_1 : w7.cell? ⟨gb171, 1, none⟩ = some (.bool false) := (blk_cell BK171.out 1).trans rfl; have hfz9_0 := blk_frozen BK171.out 0; have hfz9_1 := blk_frozen BK171.out 1) | ((with_reducible refine gate_callee (f := 30) rfl ?_); refine goesL_ (some 20) rfl rfl Tryd.func30 (by kernel_rfl) rfl #[.string a1] rfl (by (try simp only [List.map_toArray, List.map_cons, List.map_nil]); first | done | rfl | (simp only [List.length_drop, List.length_take]; rfl)) ?_; (with_reducible refine (spec_nuRead.calls k a1 t172 t175 t176 _ A4.out).mono ?_); rintro e w10 ⟨v173, rfl, ho0, hb⟩; refine ⟨_, rfl, ?_⟩; have n0_ := Aside0.mk (Kd.R_elder' (by (with_reducible repeat (first | apply Kd.R_alloc | apply Kd.R_drewN | apply Kd.R_drew)); exact (Kd.R_mono (Kd.R_far (p := ⟨gb171, 1, none⟩) (Kd.R_far (p := ⟨gb171, 0, none⟩) (Kd.R_types HO168.out BK171.out (by decide)) (fun _ hk => hk.2) (.slice Ao8 t166.length co8)) (fun _ hk => hk.2) (.bool t169)) (fun _ h_ => h_.1))) (Kd.R_base ho0) hb); have n1_ := Aside0.mk (Kd.R_lower (Kd.R_new' ho0 (Kd.R_lt (by (with_reducible repeat (first | apply Kd.R_alloc | apply Kd.R_drewN | apply Kd.R_drew)); exact (Kd.R_mono (Kd.R_far (p := ⟨gb171, 1, none⟩) (Kd.R_far (p := ⟨gb171, 0, none⟩) (Kd.R_types HO168.out BK171.out (by decide)) (fun _ hk => hk.2) (.slice Ao8 t166.length co8)) (fun _ hk => hk.2) (.bool t169)) (fun _ h_ => h_.1))))) (below_size (by repeat (first | (with_reducible first | exact HB.out | apply below_alloc | apply pw_below_drewN | apply below_drew1 | refine below_set ?_ GE171.out) | exact HB.out)))); have n2_ := Aside0.mk (blk_below (g := gb171) (o := .cells #[.slice Ao8 t166.length co8, .bool t169] 39 (0, 0)) (by (with_reducible repeat (first | refine blk_drewN ?_ _ | refine blk_drew ?_ | refine blk_alloc ?_ _)); refine blk_put (cs := #[.slice Ao8 t166.length co8, .bool false]) ?_ 1 _ rfl; (with_reducible repeat (first | refine blk_drewN ?_ _ | refine blk_drew ?_ | refine blk_alloc ?_ _)); refine blk_put (cs := #[.slice none 0 0, .bool false]) ?_ 0 _ rfl; (with_reducible repeat (first | refine blk_drewN ?_ _ | refine blk_drew ?_ | refine blk_alloc ?_ _)); exact BK171.out) hb); have n3_ := Aside0.mk (below_step (by repeat (first | (with_reducible first | exact HB.out | apply below_alloc | apply pw_below_drewN | apply below_drew1 | refine below_set ?_ GE171.out) | exact HB.out)) hb); clear HO168; clear BK171; clear HB; have HO168 := n0_; have HO174 := n1_; have BK171 := n2_; have HB := n3_; clear n0_ n1_ n2_ n3_; (try clear hb); (try clear hb2); (try clear hk); (try clear hi); (try clear ho0)) | ((with_reducible refine gate_dst (N := 8) rfl ?_); refine box_event ?hg (N := 8) ?hd (cs := #[.slice none 0 0, .bool false]) (t := 39) ?hr ?_; (case hd => rfl); (case hg => rfl); (case hr => first | (go_simp; done) | (go_simp; rfl)); intro gb177 hg w11 hbox hb; have n0_ := Aside0.mk (Kd.R_below (by (with_reducible repeat (first | apply Kd.R_alloc | apply Kd.R_drewN | apply Kd.R_drew)); exact HO168.out) hb); have n1_ := Aside0.mk (Kd.R_below (by (with_reducible repeat (first | apply Kd.R_alloc | apply Kd.R_drewN | apply Kd.R_drew)); exact HO174.out) hb); have n2_ := Aside0.mk (blk_below (g := gb171) (o := .cells #[.slice Ao8 t166.length co8, .bool t169] 39 (0, 0)) (by (with_reducible repeat (first | refine blk_drewN ?_ _ | refine blk_drew ?_ | refine blk_alloc ?_ _)); exact BK171.out) hb); have n3_ := Aside0.mk (below_step (by repeat (first | (with_reducible first | exact HB.out | apply below_alloc | apply pw_below_drewN | apply below_drew1 | refine below_set ?_ GE171.out) | exact HB.out)) hb); have n4_ := Aside0.mk (hbox); have n5_ := Aside0.mk ((by rw [hg]; exact (below_size (by repeat (first | (with_reducible first | exact HB.out | apply below_alloc | apply pw_below_drewN | apply below_drew1 | refine below_set ?_ GE171.out) | exact HB.out))) : w.heap.size ≤ gb177)); have n6_ := Aside0.mk ((by rw [hg]; exact (below_size (by repeat (first | (with_reducible first | exact HB.out | apply below_alloc | apply pw_below_drewN | apply below_drew1 | refine below_set ?_ GE171.out) | exact HB.out))) : w.heap.size ≤ gb177)); have n7_ := Aside0.mk ((by rw [hg]; exact Nat.ne_of_lt (blk_lt (g := gb171) (o := .cells #[.slice Ao8 t166.length co8, .bool t169] 39 (0, 0)) (by (with_reducible repeat (first | refine blk_drewN ?_ _ | refine blk_drew ?_ | refine blk_alloc ?_ _)); exact BK171.out)) : gb171 ≠ gb177)); have n8_ := Aside0.mk ((by rw [hg]; exact Nat.ne_of_gt (blk_lt (g := gb171) (o := .cells #[.slice Ao8 t166.length co8, .bool t169] 39 (0, 0)) (by (with_reducible repeat (first | refine blk_drewN ?_ _ | refine blk_drew ?_ | refine blk_alloc ?_ _)); exact BK171.out)) : gb177 ≠ gb171)); clear HO168; clear HO174; clear BK171; clear HB; have HO168 := n0_; have HO174 := n1_; have BK171 := n2_; have HB := n3_; have BK177 := n4_; have GW177 := n5_; have GE177 := n6_; have NB171_177 := n7_; have NB177_171 := n8_; clear n0_ n1_ n2_ n3_ n4_ n5_ n6_ n7_ n8_; clear hb hbox hg; obtain ⟨Ao12, co12, eo12⟩ := Kd.R_slice HO174.out; subst eo12; have hnb13 := NB177_171.out; have hnc13 := NB171_177.out; have hcz14_0 : w11.cell? ⟨gb177, 0, none⟩ = some (.slice none 0 0) := (blk_cell BK177.out 0).trans rfl; have hcz14_1 : w11.cell? ⟨gb177, 1, none⟩ = some (.bool false) := (blk_cell BK177.out 1).trans rfl; have hfz14_0 := blk_frozen BK177.out 0; have hfz14_1 := blk_frozen BK177.out 1))
 (try simp only [Act.put, List.setIfInBounds_toArray, List.set_cons_zero, List.set_cons_succ])
 go_cut [28] (fun v28 wc => ∃ (kq : Nat) (x28_4 : Bool), v28 = .bool x28_4 ∧ Aside0 (spec_MovesToEquation.j0 kq x28_4 t166 t169 t172 t175 = some (r1, r2)) ∧ Aside0 (kq ≤ k) ∧ Aside0 (Kd.R Kd.string 9 wc w.heap.size (fun k_ => some k_ ≠ ((.slice Ao12 t172.length co12) : Value).ownBlock) (.slice Ao8 t166.length co8) t166) ∧ Aside0 (Kd.R Kd.string 9 wc w.heap.size (fun k_ => some k_ ≠ ((.slice Ao8 t166.length co8) : Value).ownBlock) (.slice Ao12 t172.length co12) t172) ∧ Aside0 (wc.heap[gb171]? = some (.cells #[(.slice Ao8 t166.length co8), .bool t169] 39 (0, 0))) ∧ Aside0 (wc.heap[gb177]? = some (.cells #[(.slice Ao12 t172.length co12), .bool t175] 39 (0, 0))) ∧ Aside0 (Below w.heap.size w wc))
 case first =>
  have H := HC5.out
  clear HC5
  by_cases c15 : t170 = true
  ·subst c15
   have H1 : (spec_MovesToEquation.j0 k (!t176) t166 t169 t172 t175) = some (r1, r2) := by rw [if_pos rfl] at H; exact H
   clear H
   have H := H1
   clear H1
   have H' := Aside0.mk H
   clear H
   go_wp2
   go_meet
   case rel => exact ⟨_, (!t176), (by first | rfl | (simp; done) | (simp [*]; done)), H', ⟨by first | omega | exact Nat.le_refl _⟩, ⟨by (with_reducible repeat (first | apply Kd.R_alloc | apply Kd.R_drewN | apply Kd.R_drew)); exact Kd.R_mono (Kd.R_far (p := ⟨gb177, 1, none⟩) (Kd.R_far (p := ⟨gb177, 0, none⟩) (Kd.R_types HO168.out BK177.out (by decide)) (fun _ hk => hk.2) (.slice Ao12 t172.length co12)) (fun _ hk => hk.2) (.bool t175)) (fun _ hk => hk.1.2)⟩, ⟨by (with_reducible repeat (first | apply Kd.R_alloc | apply Kd.R_drewN | apply Kd.R_drew)); exact Kd.R_mono (Kd.R_far (p := ⟨gb177, 1, none⟩) (Kd.R_far (p := ⟨gb177, 0, none⟩) (Kd.R_types HO174.out BK177.out (by decide)) (fun _ hk => hk.2) (.slice Ao12 t172.length co12)) (fun _ hk => hk.2) (.bool t175)) (fun _ hk => hk.1.2)⟩, ⟨by (with_reducible repeat (first | refine blk_drewN ?_ _ | refine blk_drew ?_ | refine blk_alloc ?_ _)); refine blk_far ?_ NB171_177.out _; (with_reducible repeat (first | refine blk_drewN ?_ _ | refine blk_drew ?_ | refine blk_alloc ?_ _)); refine blk_far ?_ NB171_177.out _; (with_reducible repeat (first | refine blk_drewN ?_ _ | refine blk_drew ?_ | refine blk_alloc ?_ _)); exact BK171.out⟩, ⟨by (with_reducible repeat (first | refine blk_drewN ?_ _ | refine blk_drew ?_ | refine blk_alloc ?_ _)); refine blk_put (cs := #[.slice Ao12 t172.length co12, .bool false]) ?_ 1 _ rfl; (with_reducible repeat (first | refine blk_drewN ?_ _ | refine blk_drew ?_ | refine blk_alloc ?_ _)); refine blk_put (cs := #[.slice none 0 0, .bool false]) ?_ 0 _ rfl; (with_reducible repeat (first | refine blk_drewN ?_ _ | refine blk_drew ?_ | refine blk_alloc ?_ _)); exact BK177.out⟩, ⟨by repeat (first | (with_reducible first | exact HB.out | apply below_alloc | apply pw_below_drewN | apply below_drew1 | refine below_set ?_ GE171.out | refine below_set ?_ GE177.out) | exact HB.out)⟩⟩
  ·replace c15 := Bool.eq_false_iff.mpr c15
   subst c15
   have H1 : (spec_MovesToEquation.j0 k true t166 t169 t172 t175) = some (r1, r2) := by rw [if_neg (show ¬ (false = true) by decide)] at H; exact H
   clear H
   have H := H1
   clear H1
   have H' := Aside0.mk H
   clear H
   go_wp2
   go_meet
   case rel => exact ⟨_, (true), (by first | rfl | (simp; done) | (simp [*]; done)), H', ⟨by first | omega | exact Nat.le_refl _⟩, ⟨by (with_reducible repeat (first | apply Kd.R_alloc | apply Kd.R_drewN | apply Kd.R_drew)); exact Kd.R_mono (Kd.R_far (p := ⟨gb177, 1, none⟩) (Kd.R_far (p := ⟨gb177, 0, none⟩) (Kd.R_types HO168.out BK177.out (by decide)) (fun _ hk => hk.2) (.slice Ao12 t172.length co12)) (fun _ hk => hk.2) (.bool t175)) (fun _ hk => hk.1.2)⟩, ⟨by (with_reducible repeat (first | apply Kd.R_alloc | apply Kd.R_drewN | apply Kd.R_drew)); exact Kd.R_mono (Kd.R_far (p := ⟨gb177, 1, none⟩) (Kd.R_far (p := ⟨gb177, 0, none⟩) (Kd.R_types HO174.out BK177.out (by decide)) (fun _ hk => hk.2) (.slice Ao12 t172.length co12)) (fun _ hk => hk.2) (.bool t175)) (fun _ hk => hk.1.2)⟩, ⟨by (with_reducible repeat (first | refine blk_drewN ?_ _ | refine blk_drew ?_ | refine blk_alloc ?_ _)); refine blk_far ?_ NB171_177.out _; (with_reducible repeat (first | refine blk_drewN ?_ _ | refine blk_drew ?_ | refine blk_alloc ?_ _)); refine blk_far ?_ NB171_177.out _; (with_reducible repeat (first | refine blk_drewN ?_ _ | refine blk_drew ?_ | refine blk_alloc ?_ _)); exact BK171.out⟩, ⟨by (with_reducible repeat (first | refine blk_drewN ?_ _ | refine blk_drew ?_ | refine blk_alloc ?_ _)); refine blk_put (cs := #[.slice Ao12 t172.length co12, .bool false]) ?_ 1 _ rfl; (with_reducible repeat (first | refine blk_drewN ?_ _ | refine blk_drew ?_ | refine blk_alloc ?_ _)); refine blk_put (cs := #[.slice none 0 0, .bool false]) ?_ 0 _ rfl; (with_reducible repeat (first | refine blk_drewN ?_ _ | refine blk_drew ?_ | refine blk_alloc ?_ _)); exact BK177.out⟩, ⟨by repeat (first | (with_reducible first | exact HB.out | apply below_alloc | apply pw_below_drewN | apply below_drew1 | refine below_set ?_ GE171.out | refine below_set ?_ GE177.out) | exact HB.out)⟩⟩
 case rest =>
  clear HC5
  try clear c1
  try clear p2
  try clear c3
  try clear c13
  try clear c15
  try clear hcz14_0
  try clear hcz14_1
  try clear hcz9_0
  try clear hcz9_1
  try clear hfz14_0
  try clear hfz14_1
  try clear hfz9_0
  try clear hfz9_1
  obtain ⟨kq, x28_4, rfl, HA, HJ4, HO_172000, HO_178000, BK171, BK177, HB⟩ := hcut
  cases kq with
  | zero => exact absurd HA.out (by simp [spec_MovesToEquation.j0])
  | succ kj4 =>
   have H := HA.out
   clear HA
   simp only [spec_MovesToEquation.j0] at H
   by_cases c16 : x28_4 = true
   ·subst c16
    have H1 : (some (0, false)) = some (r1, r2) := by rw [if_pos rfl] at H; exact H
    clear H
    have H := H1
    clear H1
    simp only [Option.some.injEq, Prod.mk.injEq] at H
    obtain ⟨rfl, rfl⟩ := H
    go_wp2
    go_ret2
    exact ⟨by first | rfl | (simp [errW_none, errW_some] <;> rfl) | (simp [*, errW_none, errW_some] <;> rfl), by repeat (first | (with_reducible first | exact HB.out | apply below_alloc | apply pw_below_drewN | apply below_drew1 | refine below_set ?_ GE171.out | refine below_set ?_ GE177.out) | exact HB.out)⟩
   ·replace c16 := Bool.eq_false_iff.mpr c16
    subst c16
    have H1 : ((spec_nuMoves.f kj4 t166 t169 t172 t175).bind fun bt178 => (if bt178.2.2 = true then (if bt178.1 = bt178.2.1 then (some (bt178.1, true)) else (some (0, false))) else (some (0, false)))) = some (r1, r2) := by rw [if_neg (show ¬ (false = true) by decide)] at H; exact H
    clear H
    have H := H1
    clear H1
    replace H := Option.bind_eq_some_iff.mp H
    obtain ⟨⟨t178, t179, t180⟩, A170, H⟩ := H
    replace H : (if t180 = true then (if t178 = t179 then (some (t178, true)) else (some (0, false))) else (some (0, false))) = some (r1, r2) := H
    have A17 := Aside0.mk A170
    clear A170
    by_cases c18 : t180 = true
    ·subst c18
     have H1 : (if t178 = t179 then (some (t178, true)) else (some (0, false))) = some (r1, r2) := by rw [if_pos rfl] at H; exact H
     clear H
     have H := H1
     clear H1
     by_cases c19 : t178 = t179
     ·rw [if_pos c19] at H
      have c19b0 : (t178 == t179) = true := beq_iff_eq.mpr c19
      have c19b1 : (t178 != t179) = false := bne_eq_false_iff_eq.mpr c19
      clear c19
      simp only [Option.some.injEq, Prod.mk.injEq] at H
      obtain ⟨rfl, rfl⟩ := H
      have hnb20 := NB171_177.out
      have hnc20 := NB177_171.out
      have hcz21_0 : wc.cell? ⟨gb171, 0, none⟩ = some (.slice Ao8 t166.length co8) := (blk_cell BK171.out 0).trans rfl
      have hcz21_1 : wc.cell? ⟨gb171, 1, none⟩ = some (.bool t169) := (blk_cell BK171.out 1).trans rfl
      have hfz21_0 := blk_frozen BK171.out 0
      have hfz21_1 := blk_frozen BK171.out 1
      have hcz22_0 : wc.cell? ⟨gb177, 0, none⟩ = some (.slice Ao12 t172.length co12) := (blk_cell BK177.out 0).trans rfl
      have hcz22_1 : wc.cell? ⟨gb177, 1, none⟩ = some (.bool t175) := (blk_cell BK177.out 1).trans rfl
      have hfz22_0 := blk_frozen BK177.out 0
      have hfz22_1 := blk_frozen BK177.out 1
      go_wp2_with (first | ((with_reducible refine gate_callee (f := 34) rfl ?_); refine goesL_ (some 32) rfl rfl Tryd.func34 (by kernel_rfl) rfl #[.agg #[.slice Ao8 t166.length co8, .bool t169], .agg #[.slice Ao12 t172.length co12, .bool t175]] rfl (by (try simp only [List.map_toArray, List.map_cons, List.map_nil]); first | done | rfl | (simp only [List.length_drop, List.length_take]; rfl)) ?_; (with_reducible refine (spec_nuMoves.calls kj4 _ _ t166 t169 _ _ t172 t175 t178 t179 true _ ?side1 ?side2 ?side3 ?side4 A17.out).mono ?_); (case side1 => repeat (first | exact (Kd.R_reads' HO_172000.out).2.2 | (with_reducible refine Kd.C_alloc ?_ _) | (with_reducible refine Kd.C_drewN ?_ _) | (with_reducible refine Kd.C_drew ?_))); (case side2 => exact (Kd.R_reads' HO_172000.out).2.1); (case side3 => repeat (first | exact (Kd.R_reads' HO_178000.out).2.2 | (with_reducible refine Kd.C_alloc ?_ _) | (with_reducible refine Kd.C_drewN ?_ _) | (with_reducible refine Kd.C_drew ?_))); (case side4 => exact (Kd.R_reads' HO_178000.out).2.1); rintro e w23 ⟨rfl, hb⟩; refine ⟨_, rfl, ?_⟩; have n0_ := Aside0.mk (Kd.R_below (by (with_reducible repeat (first | apply Kd.R_alloc | apply Kd.R_drewN | apply Kd.R_drew)); exact HO_172000.out) hb); have n1_ := Aside0.mk (Kd.R_below (by (with_reducible repeat (first | apply Kd.R_alloc | apply Kd.R_drewN | apply Kd.R_drew)); exact HO_178000.out) hb); have n2_ := Aside0.mk (blk_below (g := gb171) (o := .cells #[.slice Ao8 t166.length co8, .bool t169] 39 (0, 0)) (by (with_reducible repeat (first | refine blk_drewN ?_ _ | refine blk_drew ?_ | refine blk_alloc ?_ _)); exact BK171.out) hb); have n3_ := Aside0.mk (blk_below (g := gb177) (o := .cells #[.slice Ao12 t172.length co12, .bool t175] 39 (0, 0)) (by (with_reducible repeat (first | refine blk_drewN ?_ _ | refine blk_drew ?_ | refine blk_alloc ?_ _)); exact BK177.out) hb); have n4_ := Aside0.mk (below_step (by repeat (first | (with_reducible first | exact HB.out | apply below_alloc | apply pw_below_drewN | apply below_drew1 | refine below_set ?_ GE171.out | refine below_set ?_ GE177.out) | exact HB.out)) hb); clear HO_172000; clear HO_178000; clear BK171; clear BK177; clear HB; have HO_172000 := n0_; have HO_178000 := n1_; have BK171 := n2_; have BK177 := n3_; have HB := n4_; clear n0_ n1_ n2_ n3_ n4_; (try clear hb); (try clear hb2); (try clear hk); (try clear hi)))
      go_ret2
      exact ⟨by first | rfl | (simp [errW_none, errW_some] <;> rfl) | (simp [*, errW_none, errW_some] <;> rfl), by repeat (first | (with_reducible first | exact HB.out | apply below_alloc | apply pw_below_drewN | apply below_drew1 | refine below_set ?_ GE171.out | refine below_set ?_ GE177.out) | exact HB.out)⟩
     ·rw [if_neg c19] at H
      have c19b0 : (t178 == t179) = false := beq_eq_false_iff_ne.mpr c19
      have c19b1 : (t178 != t179) = true := bne_iff_ne.mpr c19
      simp only [Option.some.injEq, Prod.mk.injEq] at H
      obtain ⟨rfl, rfl⟩ := H
      have hnb24 := NB171_177.out
      have hnc24 := NB177_171.out
      have hcz25_0 : wc.cell? ⟨gb171, 0, none⟩ = some (.slice Ao8 t166.length co8) := (blk_cell BK171.out 0).trans rfl
      have hcz25_1 : wc.cell? ⟨gb171, 1, none⟩ = some (.bool t169) := (blk_cell BK171.out 1).trans rfl
      have hfz25_0 := blk_frozen BK171.out 0
      have hfz25_1 := blk_frozen BK171.out 1
      have hcz26_0 : wc.cell? ⟨gb177, 0, none⟩ = some (.slice Ao12 t172.length co12) := (blk_cell BK177.out 0).trans rfl
      have hcz26_1 : wc.cell? ⟨gb177, 1, none⟩ = some (.bool t175) := (blk_cell BK177.out 1).trans rfl
      have hfz26_0 := blk_frozen BK177.out 0
      have hfz26_1 := blk_frozen BK177.out 1
      go_wp2_with (first | ((with_reducible refine gate_callee (f := 34) rfl ?_); refine goesL_ (some 32) rfl rfl Tryd.func34 (by kernel_rfl) rfl #[.agg #[.slice Ao8 t166.length co8, .bool t169], .agg #[.slice Ao12 t172.length co12, .bool t175]] rfl (by (try simp only [List.map_toArray, List.map_cons, List.map_nil]); first | done | rfl | (simp only [List.length_drop, List.length_take]; rfl)) ?_; (with_reducible refine (spec_nuMoves.calls kj4 _ _ t166 t169 _ _ t172 t175 t178 t179 true _ ?side1 ?side2 ?side3 ?side4 A17.out).mono ?_); (case side1 => repeat (first | exact (Kd.R_reads' HO_172000.out).2.2 | (with_reducible refine Kd.C_alloc ?_ _) | (with_reducible refine Kd.C_drewN ?_ _) | (with_reducible refine Kd.C_drew ?_))); (case side2 => exact (Kd.R_reads' HO_172000.out).2.1); (case side3 => repeat (first | exact (Kd.R_reads' HO_178000.out).2.2 | (with_reducible refine Kd.C_alloc ?_ _) | (with_reducible refine Kd.C_drewN ?_ _) | (with_reducible refine Kd.C_drew ?_))); (case side4 => exact (Kd.R_reads' HO_178000.out).2.1); rintro e w27 ⟨rfl, hb⟩; refine ⟨_, rfl, ?_⟩; have n0_ := Aside0.mk (Kd.R_below (by (with_reducible repeat (first | apply Kd.R_alloc | apply Kd.R_drewN | apply Kd.R_drew)); exact HO_172000.out) hb); have n1_ := Aside0.mk (Kd.R_below (by (with_reducible repeat (first | apply Kd.R_alloc | apply Kd.R_drewN | apply Kd.R_drew)); exact HO_178000.out) hb); have n2_ := Aside0.mk (blk_below (g := gb171) (o := .cells #[.slice Ao8 t166.length co8, .bool t169] 39 (0, 0)) (by (with_reducible repeat (first | refine blk_drewN ?_ _ | refine blk_drew ?_ | refine blk_alloc ?_ _)); exact BK171.out) hb); have n3_ := Aside0.mk (blk_below (g := gb177) (o := .cells #[.slice Ao12 t172.length co12, .bool t175] 39 (0, 0)) (by (with_reducible repeat (first | refine blk_drewN ?_ _ | refine blk_drew ?_ | refine blk_alloc ?_ _)); exact BK177.out) hb); have n4_ := Aside0.mk (below_step (by repeat (first | (with_reducible first | exact HB.out | apply below_alloc | apply pw_below_drewN | apply below_drew1 | refine below_set ?_ GE171.out | refine below_set ?_ GE177.out) | exact HB.out)) hb); clear HO_172000; clear HO_178000; clear BK171; clear BK177; clear HB; have HO_172000 := n0_; have HO_178000 := n1_; have BK171 := n2_; have BK177 := n3_; have HB := n4_; clear n0_ n1_ n2_ n3_ n4_; (try clear hb); (try clear hb2); (try clear hk); (try clear hi)))
      go_ret2
      exact ⟨by first | rfl | (simp [errW_none, errW_some] <;> rfl) | (simp [*, errW_none, errW_some] <;> rfl), by repeat (first | (with_reducible first | exact HB.out | apply below_alloc | apply pw_below_drewN | apply below_drew1 | refine below_set ?_ GE171.out | refine below_set ?_ GE177.out) | exact HB.out)⟩
    ·replace c18 := Bool.eq_false_iff.mpr c18
     subst c18
     have H1 : (some (0, false)) = some (r1, r2) := by rw [if_neg (show ¬ (false = true) by decide)] at H; exact H
     clear H
     have H := H1
     clear H1
     simp only [Option.some.injEq, Prod.mk.injEq] at H
     obtain ⟨rfl, rfl⟩ := H
     have hnb28 := NB171_177.out
     have hnc28 := NB177_171.out
     have hcz29_0 : wc.cell? ⟨gb171, 0, none⟩ = some (.slice Ao8 t166.length co8) := (blk_cell BK171.out 0).trans rfl
     have hcz29_1 : wc.cell? ⟨gb171, 1, none⟩ = some (.bool t169) := (blk_cell BK171.out 1).trans rfl
     have hfz29_0 := blk_frozen BK171.out 0
     have hfz29_1 := blk_frozen BK171.out 1
     have hcz30_0 : wc.cell? ⟨gb177, 0, none⟩ = some (.slice Ao12 t172.length co12) := (blk_cell BK177.out 0).trans rfl
     have hcz30_1 : wc.cell? ⟨gb177, 1, none⟩ = some (.bool t175) := (blk_cell BK177.out 1).trans rfl
     have hfz30_0 := blk_frozen BK177.out 0
     have hfz30_1 := blk_frozen BK177.out 1
     go_wp2_with (first | ((with_reducible refine gate_callee (f := 34) rfl ?_); refine goesL_ (some 32) rfl rfl Tryd.func34 (by kernel_rfl) rfl #[.agg #[.slice Ao8 t166.length co8, .bool t169], .agg #[.slice Ao12 t172.length co12, .bool t175]] rfl (by (try simp only [List.map_toArray, List.map_cons, List.map_nil]); first | done | rfl | (simp only [List.length_drop, List.length_take]; rfl)) ?_; (with_reducible refine (spec_nuMoves.calls kj4 _ _ t166 t169 _ _ t172 t175 t178 t179 false _ ?side1 ?side2 ?side3 ?side4 A17.out).mono ?_); (case side1 => repeat (first | exact (Kd.R_reads' HO_172000.out).2.2 | (with_reducible refine Kd.C_alloc ?_ _) | (with_reducible refine Kd.C_drewN ?_ _) | (with_reducible refine Kd.C_drew ?_))); (case side2 => exact (Kd.R_reads' HO_172000.out).2.1); (case side3 => repeat (first | exact (Kd.R_reads' HO_178000.out).2.2 | (with_reducible refine Kd.C_alloc ?_ _) | (with_reducible refine Kd.C_drewN ?_ _) | (with_reducible refine Kd.C_drew ?_))); (case side4 => exact (Kd.R_reads' HO_178000.out).2.1); rintro e w31 ⟨rfl, hb⟩; refine ⟨_, rfl, ?_⟩; have n0_ := Aside0.mk (Kd.R_below (by (with_reducible repeat (first | apply Kd.R_alloc | apply Kd.R_drewN | apply Kd.R_drew)); exact HO_172000.out) hb); have n1_ := Aside0.mk (Kd.R_below (by (with_reducible repeat (first | apply Kd.R_alloc | apply Kd.R_drewN | apply Kd.R_drew)); exact HO_178000.out) hb); have n2_ := Aside0.mk (blk_below (g := gb171) (o := .cells #[.slice Ao8 t166.length co8, .bool t169] 39 (0, 0)) (by (with_reducible repeat (first | refine blk_drewN ?_ _ | refine blk_drew ?_ | refine blk_alloc ?_ _)); exact BK171.out) hb); have n3_ := Aside0.mk (blk_below (g := gb177) (o := .cells #[.slice Ao12 t172.length co12, .bool t175] 39 (0, 0)) (by (with_reducible repeat (first | refine blk_drewN ?_ _ | refine blk_drew ?_ | refine blk_alloc ?_ _)); exact BK177.out) hb); have n4_ := Aside0.mk (below_step (by repeat (first | (with_reducible first | exact HB.out | apply below_alloc | apply pw_below_drewN | apply below_drew1 | refine below_set ?_ GE171.out | refine below_set ?_ GE177.out) | exact HB.out)) hb); clear HO_172000; clear HO_178000; clear BK171; clear BK177; clear HB; have HO_172000 := n0_; have HO_178000 := n1_; have BK171 := n2_; have BK177 := n3_; have HB := n4_; clear n0_ n1_ n2_ n3_ n4_; (try clear hb); (try clear hb2); (try clear hk); (try clear hi)))
     go_ret2
     exact ⟨by first | rfl | (simp [errW_none, errW_some] <;> rfl) | (simp [*, errW_none, errW_some] <;> rfl), by repeat (first | (with_reducible first | exact HB.out | apply below_alloc | apply pw_below_drewN | apply below_drew1 | refine below_set ?_ GE171.out | refine below_set ?_ GE177.out) | exact HB.out)⟩

/-! ### impl_within: function 42 -/
def impl_within.f (a0 : Int) (a1 : Int) (a2 : Int) : Option (Bool) := if a1 ≤ a0 then (some (decide (a0 ≤ a2))) else (some false)
set_option maxHeartbeats 8000000 in
set_option maxRecDepth 100000 in
theorem impl_within.calls (a0 : Int) (a1 : Int) (a2 : Int) (r : Bool) (w : World) (h : impl_within.f a0 a1 a2 = some r) :
  Calls Tryd.prog 42 #[.int .i64 a0, .int .i64 a1, .int .i64 a2] w fun e w' => e = .returned (.bool r) ∧ Drawn0 w w' := by
 have H : (if a1 ≤ a0 then (some (decide (a0 ≤ a2))) else (some false)) = some r := h
 clear h
 by_cases c4 : a1 ≤ a0
 ·rw [if_pos c4] at H
  have c4b0 : decide (a1 ≤ a0) = true := decide_eq_true c4
  clear c4
  obtain rfl := Option.some.inj H
  go_enter Tryd.func42, Tryd.ntmps42
  go_wp2
  go_ret
  exact ⟨by first | rfl | (simp; done) | (simp [*]; done), by repeat (first | exact Drawn0.refl _ | apply Drawn0.step)⟩
 ·rw [if_neg c4] at H
  have c4b0 : decide (a1 ≤ a0) = false := decide_eq_false c4
  clear c4
  obtain rfl := Option.some.inj H
  go_enter Tryd.func42, Tryd.ntmps42
  go_wp2
  go_ret
  exact ⟨by first | rfl | (simp; done) | (simp [*]; done), by repeat (first | exact Drawn0.refl _ | apply Drawn0.step)⟩

/-! ### strings_Trim: function 43 -/
open Go.Shelf in
def Tryd.lays160_ren : Go.Shelf.Ren := ⟨fun | 160 => 43 | 232 => 55 | 231 => 54 | 227 => 56 | 234 => 58 | 233 => 57 | 236 => 60 | 235 => 59 | 228 => 64 | 271 => 74 | 151 => 73 | 197 => 72 | 120 => 93 | 152 => 62 | 260 => 92 | 137 => 76 | 119 => 77 | 224 => 78 | 225 => 79 | 217 => 94 | 266 => 106 | n => n, fun | 9 => 9 | 4 => 4 | 3 => 3 | 5 => 5 | 117 => 88 | 116 => 87 | 0 => 0 | 124 => 91 | 21 => 21 | 105 => 101 | 46 => 106 | 119 => 116 | 139 => 152 | 138 => 151 | n => n, fun | 3 => 4 | 4 => 5 | n => n⟩
open Go.Shelf in
theorem Tryd.lays160 : Go.Proofs.Lays.n160 Tryd.prog Tryd.lays160_ren := {
 mixed := by kernel_rfl,
 f119 := Tryd.func77.trans (congrArg some (by kernel_rfl)),
 f120 := Tryd.func93.trans (congrArg some (by kernel_rfl)),
 f137 := Tryd.func76.trans (congrArg some (by kernel_rfl)),
 f151 := Tryd.func73.trans (congrArg some (by kernel_rfl)),
 f152 := Tryd.func62.trans (congrArg some (by kernel_rfl)),
 f160 := Tryd.func43.trans (congrArg some (by kernel_rfl)),
 f197 := Tryd.func72.trans (congrArg some (by kernel_rfl)),
 f217 := Tryd.func94.trans (congrArg some (by kernel_rfl)),
 f224 := Tryd.func78.trans (congrArg some (by kernel_rfl)),
 f225 := Tryd.func79.trans (congrArg some (by kernel_rfl)),
 f227 := Tryd.func56.trans (congrArg some (by kernel_rfl)),
 f228 := Tryd.func64.trans (congrArg some (by kernel_rfl)),
 f231 := Tryd.func54.trans (congrArg some (by kernel_rfl)),
 f232 := Tryd.func55.trans (congrArg some (by kernel_rfl)),
 f233 := Tryd.func57.trans (congrArg some (by kernel_rfl)),
 f234 := Tryd.func58.trans (congrArg some (by kernel_rfl)),
 f235 := Tryd.func59.trans (congrArg some (by kernel_rfl)),
 f236 := Tryd.func60.trans (congrArg some (by kernel_rfl)),
 f260 := Tryd.func92.trans (congrArg some (by kernel_rfl)),
 f266 := Tryd.func106.trans (congrArg some (by kernel_rfl)),
 f271 := Tryd.func74.trans (congrArg some (by kernel_rfl)),
 t0 := Tryd.underlying0,
 a0 := Tryd.isAgg0,
 z0 := Tryd.sizeOf0,
 v0 := Tryd.zeroValue0,
 t3 := Tryd.underlying3,
 a3 := Tryd.isAgg3,
 z3 := Tryd.sizeOf3,
 v3 := Tryd.zeroValue3,
 t4 := Tryd.underlying4,
 a4 := Tryd.isAgg4,
 z4 := Tryd.sizeOf4,
 v4 := Tryd.zeroValue4,
 t5 := Tryd.underlying5,
 a5 := Tryd.isAgg5,
 z5 := Tryd.sizeOf5,
 v5 := Tryd.zeroValue5,
 t9 := Tryd.underlying9,
 a9 := Tryd.isAgg9,
 z9 := Tryd.sizeOf9,
 v9 := Tryd.zeroValue9,
 t21 := Tryd.underlying21,
 a21 := Tryd.isAgg21,
 z21 := Tryd.sizeOf21,
 v21 := Tryd.zeroValue21,
 t46 := Tryd.underlying106,
 a46 := Tryd.isAgg106,
 z46 := Tryd.sizeOf106,
 v46 := Tryd.zeroValue106,
 t105 := Tryd.underlying101,
 a105 := Tryd.isAgg101,
 z105 := Tryd.sizeOf101,
 v105 := Tryd.zeroValue101,
 t116 := Tryd.underlying87,
 a116 := Tryd.isAgg87,
 z116 := Tryd.sizeOf87,
 t117 := Tryd.underlying88,
 a117 := Tryd.isAgg88,
 z117 := Tryd.sizeOf88,
 v117 := Tryd.zeroValue88,
 t119 := Tryd.underlying116,
 a119 := Tryd.isAgg116,
 z119 := Tryd.sizeOf116,
 t124 := Tryd.underlying91,
 a124 := Tryd.isAgg91,
 z124 := Tryd.sizeOf91,
 v124 := Tryd.zeroValue91,
 t138 := Tryd.underlying151,
 a138 := Tryd.isAgg151,
 z138 := Tryd.sizeOf151,
 v138 := Tryd.zeroValue151,
 t139 := Tryd.underlying152,
 a139 := Tryd.isAgg152,
 z139 := Tryd.sizeOf152,
 v139 := Tryd.zeroValue152,
 g3 := by kernel_rfl,
 g4 := by kernel_rfl }
/-- At an ASCII cutset: the bytes of the set go, from both ends. -/
def strings_Trim.f (a0 : ByteArray) (a1 : ByteArray) : Option ByteArray := if a0.size ≤ 9223372036854775807 ∧ a1.size < 4294967281 ∧ (a1.data.toList.all fun b => decide (b.toNat < 128)) = true then some ⟨(Go.Lib.trimS a0.data.toList a1.data.toList).toArray⟩ else none
theorem strings_Trim.calls (a0 : ByteArray) (a1 : ByteArray) (r : ByteArray) (w : World) (h : strings_Trim.f a0 a1 = some r) :
  Calls Tryd.prog 43 #[.string a0, .string a1] w fun e w' => e = .returned (.string r) ∧ Below w.heap.size w w' := by
 unfold strings_Trim.f at h
 by_cases hc : a0.size ≤ 9223372036854775807 ∧ a1.size < 4294967281 ∧ (a1.data.toList.all fun b => decide (b.toNat < 128)) = true
 ·rw [if_pos hc] at h
  obtain rfl := Option.some.inj h
  exact Go.Proofs.Any.strings_Trim_laid Tryd.lays160 (by kernel_rfl) a0 a1 w hc.1 hc.2.1 (fun j b hb => of_decide_eq_true (List.all_eq_true.1 hc.2.2 b (List.mem_of_getElem? hb)))
 ·rw [if_neg hc] at h; cases h

/-! ### impl_isNumeral: function 26 -/
def impl_isNumeral.f (a0 : ByteArray) (a1 : Int) : Option (Bool) := (impl_within.f (a0.size : Int) 1 a1).bind fun t181 => (if t181 = true then ((strings_Trim.f a0 (⟨#[48, 49, 50, 51, 52, 53, 54, 55, 56, 57]⟩ : ByteArray)).bind fun t182 => (some (t182.toList == ([] : List UInt8)))) else (some false))
set_option maxHeartbeats 8000000 in
set_option maxRecDepth 100000 in
theorem impl_isNumeral.calls (a0 : ByteArray) (a1 : Int) (r : Bool) (w : World) (h : impl_isNumeral.f a0 a1 = some r) :
  Calls Tryd.prog 26 #[.string a0, .int .i64 a1] w fun e w' => e = .returned (.bool r) ∧ Below w.heap.size w w' := by
 have HB := Aside0.mk (Below.refl w.heap.size w)
 have H : ((impl_within.f (a0.size : Int) 1 a1).bind fun t181 => (if t181 = true then ((strings_Trim.f a0 (⟨#[48, 49, 50, 51, 52, 53, 54, 55, 56, 57]⟩ : ByteArray)).bind fun t182 => (some (t182.toList == ([] : List UInt8)))) else (some false))) = some r := h
 clear h
 replace H := Option.bind_eq_some_iff.mp H
 obtain ⟨t181, A30, H⟩ := H
 replace H : (if t181 = true then ((strings_Trim.f a0 (⟨#[48, 49, 50, 51, 52, 53, 54, 55, 56, 57]⟩ : ByteArray)).bind fun t182 => (some (t182.toList == ([] : List UInt8)))) else (some false)) = some r := H
 have A3 := Aside0.mk A30
 clear A30
 by_cases c4 : t181 = true
 ·subst c4
  have H1 : ((strings_Trim.f a0 (⟨#[48, 49, 50, 51, 52, 53, 54, 55, 56, 57]⟩ : ByteArray)).bind fun t182 => (some (t182.toList == ([] : List UInt8)))) = some r := by rw [if_pos rfl] at H; exact H
  clear H
  have H := H1
  clear H1
  replace H := Option.bind_eq_some_iff.mp H
  obtain ⟨t182, A50, H⟩ := H
  replace H : (some (t182.toList == ([] : List UInt8))) = some r := H
  have A5 := Aside0.mk A50
  clear A50
  obtain rfl := Option.some.inj H
  go_enter Tryd.func26, Tryd.ntmps26
  go_wp2_with (first | ((with_reducible refine gate_callee (f := 42) rfl ?_); refine goesL_ (some 8) rfl rfl Tryd.func42 (by kernel_rfl) rfl #[.int .i64 (a0.size : Int), .int .i64 1, .int .i64 a1] rfl (by (try simp only [List.map_toArray, List.map_cons, List.map_nil]); first | done | rfl | (simp only [List.length_drop, List.length_take]; rfl)) ?_; (with_reducible refine (impl_within.calls (a0.size : Int) 1 a1 true _ A3.out).mono ?_); rintro e w' ⟨rfl, ⟨nd, rfl⟩⟩; refine ⟨_, rfl, ?_⟩) | (go_at_call 43; (with_reducible refine (strings_Trim.calls a0 (⟨#[48, 49, 50, 51, 52, 53, 54, 55, 56, 57]⟩ : ByteArray) t182 _ A5.out).mono ?_); rintro e w6 ⟨rfl, hb⟩; have n0_ := Aside0.mk (below_step (by repeat (first | (with_reducible first | exact HB.out | apply below_alloc | apply pw_below_drewN | apply below_drew1) | exact HB.out)) hb); clear HB; have HB := n0_; clear n0_; (try clear hb); (try clear hb2); (try clear hk); (try clear hi)))
  go_ret
  exact ⟨by first | rfl | (simp [errW_none, errW_some] <;> rfl) | (simp [*, errW_none, errW_some] <;> rfl), by repeat (first | (with_reducible first | exact HB.out | apply below_alloc | apply pw_below_drewN | apply below_drew1) | exact HB.out)⟩
 ·replace c4 := Bool.eq_false_iff.mpr c4
  subst c4
  have H1 : (some false) = some r := by rw [if_neg (show ¬ (false = true) by decide)] at H; exact H
  clear H
  have H := H1
  clear H1
  obtain rfl := Option.some.inj H
  go_enter Tryd.func26, Tryd.ntmps26
  go_wp2_with (first | ((with_reducible refine gate_callee (f := 42) rfl ?_); refine goesL_ (some 8) rfl rfl Tryd.func42 (by kernel_rfl) rfl #[.int .i64 (a0.size : Int), .int .i64 1, .int .i64 a1] rfl (by (try simp only [List.map_toArray, List.map_cons, List.map_nil]); first | done | rfl | (simp only [List.length_drop, List.length_take]; rfl)) ?_; (with_reducible refine (impl_within.calls (a0.size : Int) 1 a1 false _ A3.out).mono ?_); rintro e w' ⟨rfl, ⟨nd, rfl⟩⟩; refine ⟨_, rfl, ?_⟩))
  go_ret
  exact ⟨by first | rfl | (simp [errW_none, errW_some] <;> rfl) | (simp [*, errW_none, errW_some] <;> rfl), by repeat (first | (with_reducible first | exact HB.out | apply below_alloc | apply pw_below_drewN | apply below_drew1) | exact HB.out)⟩

end Go.Proofs.YtfnnilmkmlmleaaDoor.Q
