-- written by a program of this session, pm.py, for this claim
-- half the indentation
import Derived.Test.YtmjlmmfhcabnfaaGreatDoorQFnExactFalseByMovex0
import Derived.Test.YtmjlmmfhcabnfaaGreatDoorQFnExactFalseByMovex6
namespace Go.Proofs.YtmjlmmfhcabnfaaGreatDoor.Q
open Go.RowKit Go.Proofs.YtmjlmmfhcabnfaaGreatDoorW.PrintWords Go.Proofs.YtmjlmmfhcabnfaaGreatDoorW.PrintLast Go.Proofs.YtmjlmmfhcabnfaaGreatDoorW.PrintMore
attribute [local go_sem] max2_int min2_int max_two min_two max_three min_three max_four min_four   -- for this text's walks alone
set_option linter.unusedVariables false
set_option linter.unusedSimpArgs false

/-! ### impl_isTrue: function 31 -/
def impl_isTrue.l0 : Nat → Int → List Int → List ByteArray → Int → Int → Option (Bool)
 | 0, _, _, _, _, _ => none
 | k + 1, x4, x6, x18, x19, x20 => if x20 < x19 then (if 0 ≤ x20 then (if x20 < (x18.length : Int) then ((strconv_Atoi.f (rdOf ByteArray.empty x18 x20)).bind fun bt295 => (if x6.length < 17592186044416 then (impl_isTrue.l0 k x4 (x6 ++ [bt295.1]) x18 x19 (wrap64 (x20 + 1))) else (none))) else (none)) else (none)) else (if x4 = 43 then (if 0 < (x6.length : Int) then (if 1 < (x6.length : Int) then (if 2 < (x6.length : Int) then (some ((wrap64 ((rd x6 0) + (rd x6 1))) == (rd x6 2))) else (none)) else (none)) else (none)) else (if 0 < (x6.length : Int) then (if 1 < (x6.length : Int) then (if 2 < (x6.length : Int) then (some ((wrap64 ((rd x6 0) - (rd x6 1))) == (rd x6 2))) else (none)) else (none)) else (none)))
def impl_isTrue.f (k : Nat) (a0 : ByteArray) : Option (Bool) := (impl_numerals.f a0).bind fun bt286 => (impl_isTrue.l0 k bt286.2.1 (([] : List Int)) bt286.1 (bt286.1.length : Int) 0)
theorem impl_isTrue.mono_l : ∀ k, (∀ y0 y1 y2 y3 y4, LeO (impl_isTrue.l0 k y0 y1 y2 y3 y4) (impl_isTrue.l0 (k + 1) y0 y1 y2 y3 y4))
 | 0 => fun _ _ _ _ _ r h => by simp [impl_isTrue.l0] at h
 | k + 1 => by
  have ih0 := impl_isTrue.mono_l k
  ·intro y0 y1 y2 y3 y4
   unfold impl_isTrue.l0
   repeat' first
   | (with_reducible exact ih0 _ _ _ _ _)
   | (with_reducible exact LeO.refl _)
   | (with_reducible exact LeO.none _)
   | (with_reducible refine LeO.ite ?_ ?_)
   | (with_reducible refine LeO.bind ?_ (fun _ => ?_))
   | exact ih0 _ _ _ _ _
   | exact LeO.none _
   | refine LeO.ite ?_ ?_
   | refine LeO.bind ?_ (fun _ => ?_)
theorem impl_isTrue.mono : ∀ a0 k, LeO (impl_isTrue.f k a0) (impl_isTrue.f (k + 1) a0) := by
 intro a0 k
 have ih0 := impl_isTrue.mono_l k
 unfold impl_isTrue.f
 repeat' first
   | (with_reducible exact ih0 _ _ _ _ _)
   | (with_reducible exact LeO.refl _)
   | (with_reducible exact LeO.none _)
   | (with_reducible refine LeO.ite ?_ ?_)
   | (with_reducible refine LeO.bind ?_ (fun _ => ?_))
   | exact ih0 _ _ _ _ _
   | exact LeO.none _
   | refine LeO.ite ?_ ?_
   | refine LeO.bind ?_ (fun _ => ?_)
set_option maxHeartbeats 8000000 in
set_option maxRecDepth 100000 in
theorem impl_isTrue.calls (k : Nat) (a0 : ByteArray) (r : Bool) (w : World) (h : impl_isTrue.f k a0 = some r) :
  Calls Tryz.prog 31 #[.string a0] w fun e w' => e = .returned (.bool r) ∧ Below w.heap.size w w' := by
 have HB := Aside0.mk (Below.refl w.heap.size w)
 have H : ((impl_numerals.f a0).bind fun bt286 => (impl_isTrue.l0 k bt286.2.1 (([] : List Int)) bt286.1 (bt286.1.length : Int) 0)) = some r := h
 clear h
 replace H := Option.bind_eq_some_iff.mp H
 obtain ⟨⟨t286, t287, t288⟩, A20, H⟩ := H
 replace H : (impl_isTrue.l0 k t287 (([] : List Int)) t286 (t286.length : Int) 0) = some r := H
 have A2 := Aside0.mk A20
 clear A20
 obtain ⟨y291, hy291⟩ : ∃ y_ : List Int, y_ = (([] : List Int)) := ⟨_, rfl⟩
 replace H : (impl_isTrue.l0 k t287 y291 t286 (t286.length : Int) 0) = some r := by first | (rw [hy291]; with_reducible exact H) | (have H2_ := (Option.bind_some _ _).symm.trans H; rw [hy291]; with_reducible exact H2_) | (have H2_ := (Option.bind_some _ _).symm.trans H; with_reducible exact H2_) | with_reducible exact H | (rw [hy291]; exact H) | exact H
 have Ny291 := Aside0.mk hy291
 clear hy291
 have H' := Aside0.mk H
 clear H
 go_enter Tryz.func31, Tryz.ntmps31
 go_wp2_with (first | (go_at_call 37; (with_reducible refine (impl_numerals.calls a0 t286 t287 t288 _ A2.out).mono ?_); rintro e w3 ⟨v289, rfl, ho0, hb⟩; have n0_ := Aside0.mk (Kd.R_lower ho0 (below_size (by repeat (first | (with_reducible first | exact HB.out | apply below_alloc | apply pw_below_drewN | apply below_drew1) | exact HB.out)))); have n1_ := Aside0.mk (below_step (by repeat (first | (with_reducible first | exact HB.out | apply below_alloc | apply pw_below_drewN | apply below_drew1) | exact HB.out)) hb); clear HB; have HO290 := n0_; have HB := n1_; clear n0_ n1_; (try clear hb); (try clear hb2); (try clear hk); (try clear hi); (try clear ho0)) | ((with_reducible refine gate_dst (N := 17) rfl ?_); refine Kd.R_lit (Kd.int .i64) _ 3 ?hg (N := 17) ?hd (xs := ([] : List Int)) (inner := []) (ok := fun _ => True) (okp := fun _ => True) ?hr ?hp (fun _ hk => hk) trivial (Below.refl _ _) (Nat.le_refl _) (by simp) ?_; (case hd => rfl); (case hg => rfl); (case hr => first | (go_simp; done) | (go_simp; rfl)); (case hp => exact (Reps.none _ _)); intro v292 w4 ho5 hb hg_ hnew_; clear hg_ hnew_; (first | rw [← Ny291.out] at ho5 | (simp only [Int.reduceToNat] at ho5; rw [← Ny291.out] at ho5)); have n0_ := Aside0.mk (Kd.R_below (by (with_reducible repeat (first | apply Kd.R_alloc | apply Kd.R_drewN | apply Kd.R_drew)); exact HO290.out) hb); have n1_ := Aside0.mk (Kd.R_lower ho5 (below_size (by repeat (first | (with_reducible first | exact HB.out | apply below_alloc | apply pw_below_drewN | apply below_drew1) | exact HB.out)))); have n2_ := Aside0.mk (below_step (by repeat (first | (with_reducible first | exact HB.out | apply below_alloc | apply pw_below_drewN | apply below_drew1) | exact HB.out)) hb); clear HO290; clear HB; have HO290 := n0_; have HO293 := n1_; have HB := n2_; clear n0_ n1_ n2_; clear hb ho5; obtain ⟨Ao6, co6, eo6⟩ := Kd.R_slice HO290.out; subst eo6))
 repeat (go_quiet (first | (go_at_call 37; (with_reducible refine (impl_numerals.calls a0 t286 t287 t288 _ A2.out).mono ?_); rintro e w3 ⟨v289, rfl, ho0, hb⟩; have n0_ := Aside0.mk (Kd.R_lower ho0 (below_size (by repeat (first | (with_reducible first | exact HB.out | apply below_alloc | apply pw_below_drewN | apply below_drew1) | exact HB.out)))); have n1_ := Aside0.mk (below_step (by repeat (first | (with_reducible first | exact HB.out | apply below_alloc | apply pw_below_drewN | apply below_drew1) | exact HB.out)) hb); clear HB; have HO290 := n0_; have HB := n1_; clear n0_ n1_; (try clear hb); (try clear hb2); (try clear hk); (try clear hi); (try clear ho0)) | ((with_reducible refine gate_dst (N := 17) rfl ?_); refine Kd.R_lit (Kd.int .i64) _ 3 ?hg (N := 17) ?hd (xs := ([] : List Int)) (inner := []) (ok := fun _ => True) (okp := fun _ => True) ?hr ?hp (fun _ hk => hk) trivial (Below.refl _ _) (Nat.le_refl _) (by simp) ?_; (case hd => rfl); (case hg => rfl); (case hr => first | (go_simp; done) | (go_simp; rfl)); (case hp => exact (Reps.none _ _)); intro v292 w4 ho5 hb hg_ hnew_; clear hg_ hnew_; (first | rw [← Ny291.out] at ho5 | (simp only [Int.reduceToNat] at ho5; rw [← Ny291.out] at ho5)); have n0_ := Aside0.mk (Kd.R_below (by (with_reducible repeat (first | apply Kd.R_alloc | apply Kd.R_drewN | apply Kd.R_drew)); exact HO290.out) hb); have n1_ := Aside0.mk (Kd.R_lower ho5 (below_size (by repeat (first | (with_reducible first | exact HB.out | apply below_alloc | apply pw_below_drewN | apply below_drew1) | exact HB.out)))); have n2_ := Aside0.mk (below_step (by repeat (first | (with_reducible first | exact HB.out | apply below_alloc | apply pw_below_drewN | apply below_drew1) | exact HB.out)) hb); clear HO290; clear HB; have HO290 := n0_; have HO293 := n1_; have HB := n2_; clear n0_ n1_ n2_; clear hb ho5; obtain ⟨Ao6, co6, eo6⟩ := Kd.R_slice HO290.out; subst eo6)); try go_wp2_with (first | (go_at_call 37; (with_reducible refine (impl_numerals.calls a0 t286 t287 t288 _ A2.out).mono ?_); rintro e w3 ⟨v289, rfl, ho0, hb⟩; have n0_ := Aside0.mk (Kd.R_lower ho0 (below_size (by repeat (first | (with_reducible first | exact HB.out | apply below_alloc | apply pw_below_drewN | apply below_drew1) | exact HB.out)))); have n1_ := Aside0.mk (below_step (by repeat (first | (with_reducible first | exact HB.out | apply below_alloc | apply pw_below_drewN | apply below_drew1) | exact HB.out)) hb); clear HB; have HO290 := n0_; have HB := n1_; clear n0_ n1_; (try clear hb); (try clear hb2); (try clear hk); (try clear hi); (try clear ho0)) | ((with_reducible refine gate_dst (N := 17) rfl ?_); refine Kd.R_lit (Kd.int .i64) _ 3 ?hg (N := 17) ?hd (xs := ([] : List Int)) (inner := []) (ok := fun _ => True) (okp := fun _ => True) ?hr ?hp (fun _ hk => hk) trivial (Below.refl _ _) (Nat.le_refl _) (by simp) ?_; (case hd => rfl); (case hg => rfl); (case hr => first | (go_simp; done) | (go_simp; rfl)); (case hp => exact (Reps.none _ _)); intro v292 w4 ho5 hb hg_ hnew_; clear hg_ hnew_; (first | rw [← Ny291.out] at ho5 | (simp only [Int.reduceToNat] at ho5; rw [← Ny291.out] at ho5)); have n0_ := Aside0.mk (Kd.R_below (by (with_reducible repeat (first | apply Kd.R_alloc | apply Kd.R_drewN | apply Kd.R_drew)); exact HO290.out) hb); have n1_ := Aside0.mk (Kd.R_lower ho5 (below_size (by repeat (first | (with_reducible first | exact HB.out | apply below_alloc | apply pw_below_drewN | apply below_drew1) | exact HB.out)))); have n2_ := Aside0.mk (below_step (by repeat (first | (with_reducible first | exact HB.out | apply below_alloc | apply pw_below_drewN | apply below_drew1) | exact HB.out)) hb); clear HO290; clear HB; have HO290 := n0_; have HO293 := n1_; have HB := n2_; clear n0_ n1_ n2_; clear hb ho5; obtain ⟨Ao6, co6, eo6⟩ := Kd.R_slice HO290.out; subst eo6)))
 go_loopg [6, 20] k (fun kq v6 v20 w' => ∃ (x6_1 : List Int) (x20_1 : Int), v20 = .int .i64 x20_1 ∧ Aside0 (impl_isTrue.l0 kq t287 x6_1 t286 (t286.length : Int) x20_1 = some r) ∧ Aside0 (kq ≤ k) ∧ Aside0 (Kd.R (Kd.int .i64) 3 w' w.heap.size (fun _ => True) v6 x6_1) ∧ Aside0 (Kd.R Kd.string 9 w' w.heap.size (fun _ => True) (.slice Ao6 t286.length co6) t286) ∧ Aside0 (Below w.heap.size w w'))
 case atStart => exact ⟨(y291), (0), (by first | rfl | (simp; done) | (simp [*]; done)), H', ⟨Nat.le_refl _⟩, ⟨by (with_reducible repeat (first | apply Kd.R_alloc | apply Kd.R_drewN | apply Kd.R_drew)); exact HO293.out⟩, ⟨by (with_reducible repeat (first | apply Kd.R_alloc | apply Kd.R_drewN | apply Kd.R_drew)); exact HO290.out⟩, ⟨by repeat (first | (with_reducible first | exact HB.out | apply below_alloc | apply pw_below_drewN | apply below_drew1) | exact HB.out)⟩⟩
 case round =>
  clear H'
  try clear p2
  try clear c3
  obtain ⟨x6_1, x20_1, rfl, HA, HK1, HO_6, HO_18, HB⟩ := hrel
  cases gk with
  | zero => exact absurd HA.out (by simp [impl_isTrue.l0])
  | succ k1 =>
   have H := HA.out
   clear HA
   simp only [impl_isTrue.l0] at H
   by_cases c7 : x20_1 < (t286.length : Int)
   ·rw [if_pos c7] at H
    have c7b0 : decide (x20_1 < (t286.length : Int)) = true := decide_eq_true c7
    clear c7
    by_cases c8 : 0 ≤ x20_1
    ·rw [if_pos c8] at H
     have c8b0 : decide (0 ≤ x20_1) = true := decide_eq_true c8
     clear c8
     by_cases c9 : x20_1 < (t286.length : Int)
     ·rw [if_pos c9] at H
      have c9b0 : decide (x20_1 < (t286.length : Int)) = true := decide_eq_true c9
      clear c9
      replace H := Option.bind_eq_some_iff.mp H
      obtain ⟨⟨t295, t296⟩, A100, H⟩ := H
      replace H : (if x6_1.length < 17592186044416 then (impl_isTrue.l0 k1 t287 (x6_1 ++ [t295]) t286 (t286.length : Int) (wrap64 (x20_1 + 1))) else (none)) = some r := H
      have A10 := Aside0.mk A100
      clear A100
      by_cases c11 : x6_1.length < 17592186044416
      ·rw [if_pos c11] at H
       have LMc11 := Aside0.mk c11
       clear c11
       obtain ⟨y297, hy297⟩ : ∃ y_ : List Int, y_ = (x6_1 ++ [t295]) := ⟨_, rfl⟩
       replace H : (impl_isTrue.l0 k1 t287 y297 t286 (t286.length : Int) (wrap64 (x20_1 + 1))) = some r := by first | (rw [hy297]; with_reducible exact H) | (have H2_ := (Option.bind_some _ _).symm.trans H; rw [hy297]; with_reducible exact H2_) | (have H2_ := (Option.bind_some _ _).symm.trans H; with_reducible exact H2_) | with_reducible exact H | (rw [hy297]; exact H) | exact H
       have Ny297 := Aside0.mk hy297
       clear hy297
       have H' := Aside0.mk H
       clear H
       have p294 : 0 ≤ (x20_1 : Int) := of_decide_eq_true (by first | (with_reducible assumption) | assumption)
       have q294 : x20_1 < (t286.length : Int) := of_decide_eq_true (by first | (with_reducible assumption) | assumption)
       obtain ⟨ad294, e294, hx294_0⟩ := Kd.at_string (Kd.R_reads' HO_18.out).2.2 x20_1 p294 q294
       cases e294
       replace p294 := eq_true p294
       replace q294 := eq_true q294
       go_wp2_with (first | (go_at_call 43; (with_reducible refine (strconv_Atoi.calls (rdOf ByteArray.empty t286 x20_1) t295 t296 _ A10.out).mono ?_); rintro e w12 ⟨rfl, hb⟩; have n0_ := Aside0.mk (Kd.R_below (by (with_reducible repeat (first | apply Kd.R_alloc | apply Kd.R_drewN | apply Kd.R_drew)); exact HO_6.out) hb); have n1_ := Aside0.mk (Kd.R_below (by (with_reducible repeat (first | apply Kd.R_alloc | apply Kd.R_drewN | apply Kd.R_drew)); exact HO_18.out) hb); have n2_ := Aside0.mk (below_step (by repeat (first | (with_reducible first | exact HB.out | apply below_alloc | apply pw_below_drewN | apply below_drew1) | exact HB.out)) hb); clear HO_6; clear HO_18; clear HB; have HO_6 := n0_; have HO_18 := n1_; have HB := n2_; clear n0_ n1_ n2_; (try clear hb); (try clear hb2); (try clear hk); (try clear hi); (try simp only [errW_none, errW_some])) | ((with_reducible refine gate_builtin (b := .append) (xs := #[.tmp 29, .tmp 31]) rfl ?_); at_builtin; refine Kd.R_append (Kd.int .i64) (w0 := w) w.heap.size rfl (.tmp 29) (.tmp 31) 57 3 (.int .i64 0) 8 rfl Tryz.underlying57 info3 rfl (by decide) (by omega) u6 x6_1 t295 [.int .i64 t295] (fun _ => True) (fun _ => False) rfl rfl ?aP (fun _ hk => hk.elim) ?aF ?aO ?aB ?aS ?aL ?_; (case aP => exact rfl); (case aB => exact (by repeat (first | (with_reducible first | exact HB.out | apply below_alloc | apply pw_below_drewN | apply below_drew1) | exact HB.out))); (case aF => exact (fun _ _ => trivial)); (case aO => exact (by (with_reducible repeat (first | apply Kd.R_alloc | apply Kd.R_drewN | apply Kd.R_drew)); exact HO_6.out)); (case aS => exact (below_size (by repeat (first | (with_reducible first | exact HB.out | apply below_alloc | apply pw_below_drewN | apply below_drew1) | exact HB.out)))); (case aL => have := LMc11.out; omega); intro v298 w13 ho hb hg hat; rw [← Ny297.out] at ho; have n0_ := Aside0.mk (Kd.R_over' (by (with_reducible repeat (first | apply Kd.R_alloc | apply Kd.R_drewN | apply Kd.R_drew)); exact HO_18.out) (Kd.R_typed (by (with_reducible repeat (first | apply Kd.R_alloc | apply Kd.R_drewN | apply Kd.R_drew)); exact HO_6.out)) (by decide) hg); have n1_ := Aside0.mk (hb); have n2_ := Aside0.mk (ho); clear HO_18; clear HB; clear HO_6; have HO_18 := n0_; have HB := n1_; have HO299 := n2_; clear n0_ n1_ n2_; clear ho hb hg hat))
       repeat (go_quiet (first | (go_at_call 43; (with_reducible refine (strconv_Atoi.calls (rdOf ByteArray.empty t286 x20_1) t295 t296 _ A10.out).mono ?_); rintro e w12 ⟨rfl, hb⟩; have n0_ := Aside0.mk (Kd.R_below (by (with_reducible repeat (first | apply Kd.R_alloc | apply Kd.R_drewN | apply Kd.R_drew)); exact HO_6.out) hb); have n1_ := Aside0.mk (Kd.R_below (by (with_reducible repeat (first | apply Kd.R_alloc | apply Kd.R_drewN | apply Kd.R_drew)); exact HO_18.out) hb); have n2_ := Aside0.mk (below_step (by repeat (first | (with_reducible first | exact HB.out | apply below_alloc | apply pw_below_drewN | apply below_drew1) | exact HB.out)) hb); clear HO_6; clear HO_18; clear HB; have HO_6 := n0_; have HO_18 := n1_; have HB := n2_; clear n0_ n1_ n2_; (try clear hb); (try clear hb2); (try clear hk); (try clear hi); (try simp only [errW_none, errW_some])) | ((with_reducible refine gate_builtin (b := .append) (xs := #[.tmp 29, .tmp 31]) rfl ?_); at_builtin; refine Kd.R_append (Kd.int .i64) (w0 := w) w.heap.size rfl (.tmp 29) (.tmp 31) 57 3 (.int .i64 0) 8 rfl Tryz.underlying57 info3 rfl (by decide) (by omega) u6 x6_1 t295 [.int .i64 t295] (fun _ => True) (fun _ => False) rfl rfl ?aP (fun _ hk => hk.elim) ?aF ?aO ?aB ?aS ?aL ?_; (case aP => exact rfl); (case aB => exact (by repeat (first | (with_reducible first | exact HB.out | apply below_alloc | apply pw_below_drewN | apply below_drew1) | exact HB.out))); (case aF => exact (fun _ _ => trivial)); (case aO => exact (by (with_reducible repeat (first | apply Kd.R_alloc | apply Kd.R_drewN | apply Kd.R_drew)); exact HO_6.out)); (case aS => exact (below_size (by repeat (first | (with_reducible first | exact HB.out | apply below_alloc | apply pw_below_drewN | apply below_drew1) | exact HB.out)))); (case aL => have := LMc11.out; omega); intro v298 w13 ho hb hg hat; rw [← Ny297.out] at ho; have n0_ := Aside0.mk (Kd.R_over' (by (with_reducible repeat (first | apply Kd.R_alloc | apply Kd.R_drewN | apply Kd.R_drew)); exact HO_18.out) (Kd.R_typed (by (with_reducible repeat (first | apply Kd.R_alloc | apply Kd.R_drewN | apply Kd.R_drew)); exact HO_6.out)) (by decide) hg); have n1_ := Aside0.mk (hb); have n2_ := Aside0.mk (ho); clear HO_18; clear HB; clear HO_6; have HO_18 := n0_; have HB := n1_; have HO299 := n2_; clear n0_ n1_ n2_; clear ho hb hg hat)); try go_wp2_with (first | (go_at_call 43; (with_reducible refine (strconv_Atoi.calls (rdOf ByteArray.empty t286 x20_1) t295 t296 _ A10.out).mono ?_); rintro e w12 ⟨rfl, hb⟩; have n0_ := Aside0.mk (Kd.R_below (by (with_reducible repeat (first | apply Kd.R_alloc | apply Kd.R_drewN | apply Kd.R_drew)); exact HO_6.out) hb); have n1_ := Aside0.mk (Kd.R_below (by (with_reducible repeat (first | apply Kd.R_alloc | apply Kd.R_drewN | apply Kd.R_drew)); exact HO_18.out) hb); have n2_ := Aside0.mk (below_step (by repeat (first | (with_reducible first | exact HB.out | apply below_alloc | apply pw_below_drewN | apply below_drew1) | exact HB.out)) hb); clear HO_6; clear HO_18; clear HB; have HO_6 := n0_; have HO_18 := n1_; have HB := n2_; clear n0_ n1_ n2_; (try clear hb); (try clear hb2); (try clear hk); (try clear hi); (try simp only [errW_none, errW_some])) | ((with_reducible refine gate_builtin (b := .append) (xs := #[.tmp 29, .tmp 31]) rfl ?_); at_builtin; refine Kd.R_append (Kd.int .i64) (w0 := w) w.heap.size rfl (.tmp 29) (.tmp 31) 57 3 (.int .i64 0) 8 rfl Tryz.underlying57 info3 rfl (by decide) (by omega) u6 x6_1 t295 [.int .i64 t295] (fun _ => True) (fun _ => False) rfl rfl ?aP (fun _ hk => hk.elim) ?aF ?aO ?aB ?aS ?aL ?_; (case aP => exact rfl); (case aB => exact (by repeat (first | (with_reducible first | exact HB.out | apply below_alloc | apply pw_below_drewN | apply below_drew1) | exact HB.out))); (case aF => exact (fun _ _ => trivial)); (case aO => exact (by (with_reducible repeat (first | apply Kd.R_alloc | apply Kd.R_drewN | apply Kd.R_drew)); exact HO_6.out)); (case aS => exact (below_size (by repeat (first | (with_reducible first | exact HB.out | apply below_alloc | apply pw_below_drewN | apply below_drew1) | exact HB.out)))); (case aL => have := LMc11.out; omega); intro v298 w13 ho hb hg hat; rw [← Ny297.out] at ho; have n0_ := Aside0.mk (Kd.R_over' (by (with_reducible repeat (first | apply Kd.R_alloc | apply Kd.R_drewN | apply Kd.R_drew)); exact HO_18.out) (Kd.R_typed (by (with_reducible repeat (first | apply Kd.R_alloc | apply Kd.R_drewN | apply Kd.R_drew)); exact HO_6.out)) (by decide) hg); have n1_ := Aside0.mk (hb); have n2_ := Aside0.mk (ho); clear HO_18; clear HB; clear HO_6; have HO_18 := n0_; have HB := n1_; have HO299 := n2_; clear n0_ n1_ n2_; clear ho hb hg hat)))
       go_roundg k1
       case measure => have := HK1.out; omega
       case rel => exact ⟨(y297), (wrap64 (x20_1 + 1)), (by first | rfl | (simp; done) | (simp [*]; done)), H', ⟨by have := HK1.out; omega⟩, ⟨by (with_reducible repeat (first | apply Kd.R_alloc | apply Kd.R_drewN | apply Kd.R_drew)); exact HO299.out⟩, ⟨by (with_reducible repeat (first | apply Kd.R_alloc | apply Kd.R_drewN | apply Kd.R_drew)); exact HO_18.out⟩, ⟨by repeat (first | (with_reducible first | exact HB.out | apply below_alloc | apply pw_below_drewN | apply below_drew1) | exact HB.out)⟩⟩
      ·rw [if_neg c11] at H
       exact absurd H (by simp)
     ·rw [if_neg c9] at H
      exact absurd H (by simp)
    ·rw [if_neg c8] at H
     exact absurd H (by simp)
   ·rw [if_neg c7] at H
    have c7b0 : decide (x20_1 < (t286.length : Int)) = false := decide_eq_false c7
    clear c7
    by_cases c14 : t287 = 43
    ·rw [if_pos c14] at H
     have c14b0 : (t287 == 43) = true := beq_iff_eq.mpr c14
     have c14b1 : (t287 != 43) = false := bne_eq_false_iff_eq.mpr c14
     clear c14
     by_cases c15 : 0 < (x6_1.length : Int)
     ·rw [if_pos c15] at H
      have c15b0 : decide (0 < (x6_1.length : Int)) = true := decide_eq_true c15
      have c15b1 : decide (0 < x6_1.length) = true := decide_eq_true (by omega)
      clear c15
      by_cases c16 : 1 < (x6_1.length : Int)
      ·rw [if_pos c16] at H
       have c16b0 : decide (1 < (x6_1.length : Int)) = true := decide_eq_true c16
       have c16b1 : decide (1 < x6_1.length) = true := decide_eq_true (by omega)
       clear c16
       by_cases c17 : 2 < (x6_1.length : Int)
       ·rw [if_pos c17] at H
        have c17b0 : decide (2 < (x6_1.length : Int)) = true := decide_eq_true c17
        have c17b1 : decide (2 < x6_1.length) = true := decide_eq_true (by omega)
        clear c17
        obtain rfl := Option.some.inj H
        obtain ⟨Ao18, co18, eo18⟩ := Kd.R_slice HO_6.out
        subst eo18
        have p300 : 0 ≤ (0 : Int) := (by omega)
        have q300 : 0 < (x6_1.length : Int) := of_decide_eq_true (by first | (with_reducible assumption) | assumption)
        obtain ⟨ad300, e300, hx300_0⟩ := Kd.at_int (Kd.R_reads' HO_6.out).2.2 0 p300 q300
        cases e300
        have qi300 : (0 < x6_1.length) = True := eq_true (by omega)
        (try rw [show ((0 : Int)).toNat = 0 from rfl] at hx300_0)
        (try rw [Addr.add_zero'] at hx300_0)
        replace p300 := eq_true p300
        replace q300 := eq_true q300
        have p301 : 0 ≤ (1 : Int) := (by omega)
        have q301 : 1 < (x6_1.length : Int) := of_decide_eq_true (by first | (with_reducible assumption) | assumption)
        obtain ⟨ad301, e301, hx301_0⟩ := Kd.at_int (Kd.R_reads' HO_6.out).2.2 1 p301 q301
        obtain rfl : ad300 = ad301 := (by injection e301)
        (try simp only [show (1 : Int).toNat = 1 from rfl, Nat.reduceMul, Nat.reduceEqDiff, Go.Addr.add, ↓reduceIte] at hx301_0)
        have qi301 : (1 < x6_1.length) = True := eq_true (by omega)
        (try rw [show ((1 : Int)).toNat = 1 from rfl] at hx301_0)
        replace p301 := eq_true p301
        replace q301 := eq_true q301
        have p302 : 0 ≤ (2 : Int) := (by omega)
        have q302 : 2 < (x6_1.length : Int) := of_decide_eq_true (by first | (with_reducible assumption) | assumption)
        obtain ⟨ad302, e302, hx302_0⟩ := Kd.at_int (Kd.R_reads' HO_6.out).2.2 2 p302 q302
        obtain rfl : ad300 = ad302 := (by injection e302)
        (try simp only [show (2 : Int).toNat = 2 from rfl, Nat.reduceMul, Nat.reduceEqDiff, Go.Addr.add, ↓reduceIte] at hx302_0)
        have qi302 : (2 < x6_1.length) = True := eq_true (by omega)
        (try rw [show ((2 : Int)).toNat = 2 from rfl] at hx302_0)
        replace p302 := eq_true p302
        replace q302 := eq_true q302
        go_wp2
        repeat (go_quiet (fail); try go_wp2)
        go_ret
        exact ⟨by first | rfl | (simp [errW_none, errW_some] <;> rfl) | (simp [*, errW_none, errW_some] <;> rfl), by repeat (first | (with_reducible first | exact HB.out | apply below_alloc | apply pw_below_drewN | apply below_drew1) | exact HB.out)⟩
       ·rw [if_neg c17] at H
        exact absurd H (by simp)
      ·rw [if_neg c16] at H
       exact absurd H (by simp)
     ·rw [if_neg c15] at H
      exact absurd H (by simp)
    ·rw [if_neg c14] at H
     have c14b0 : (t287 == 43) = false := beq_eq_false_iff_ne.mpr c14
     have c14b1 : (t287 != 43) = true := bne_iff_ne.mpr c14
     by_cases c19 : 0 < (x6_1.length : Int)
     ·rw [if_pos c19] at H
      have c19b0 : decide (0 < (x6_1.length : Int)) = true := decide_eq_true c19
      have c19b1 : decide (0 < x6_1.length) = true := decide_eq_true (by omega)
      clear c19
      by_cases c20 : 1 < (x6_1.length : Int)
      ·rw [if_pos c20] at H
       have c20b0 : decide (1 < (x6_1.length : Int)) = true := decide_eq_true c20
       have c20b1 : decide (1 < x6_1.length) = true := decide_eq_true (by omega)
       clear c20
       by_cases c21 : 2 < (x6_1.length : Int)
       ·rw [if_pos c21] at H
        have c21b0 : decide (2 < (x6_1.length : Int)) = true := decide_eq_true c21
        have c21b1 : decide (2 < x6_1.length) = true := decide_eq_true (by omega)
        clear c21
        obtain rfl := Option.some.inj H
        obtain ⟨Ao22, co22, eo22⟩ := Kd.R_slice HO_6.out
        subst eo22
        have p303 : 0 ≤ (0 : Int) := (by omega)
        have q303 : 0 < (x6_1.length : Int) := of_decide_eq_true (by first | (with_reducible assumption) | assumption)
        obtain ⟨ad303, e303, hx303_0⟩ := Kd.at_int (Kd.R_reads' HO_6.out).2.2 0 p303 q303
        cases e303
        have qi303 : (0 < x6_1.length) = True := eq_true (by omega)
        (try rw [show ((0 : Int)).toNat = 0 from rfl] at hx303_0)
        (try rw [Addr.add_zero'] at hx303_0)
        replace p303 := eq_true p303
        replace q303 := eq_true q303
        have p304 : 0 ≤ (1 : Int) := (by omega)
        have q304 : 1 < (x6_1.length : Int) := of_decide_eq_true (by first | (with_reducible assumption) | assumption)
        obtain ⟨ad304, e304, hx304_0⟩ := Kd.at_int (Kd.R_reads' HO_6.out).2.2 1 p304 q304
        obtain rfl : ad303 = ad304 := (by injection e304)
        (try simp only [show (1 : Int).toNat = 1 from rfl, Nat.reduceMul, Nat.reduceEqDiff, Go.Addr.add, ↓reduceIte] at hx304_0)
        have qi304 : (1 < x6_1.length) = True := eq_true (by omega)
        (try rw [show ((1 : Int)).toNat = 1 from rfl] at hx304_0)
        replace p304 := eq_true p304
        replace q304 := eq_true q304
        have p305 : 0 ≤ (2 : Int) := (by omega)
        have q305 : 2 < (x6_1.length : Int) := of_decide_eq_true (by first | (with_reducible assumption) | assumption)
        obtain ⟨ad305, e305, hx305_0⟩ := Kd.at_int (Kd.R_reads' HO_6.out).2.2 2 p305 q305
        obtain rfl : ad303 = ad305 := (by injection e305)
        (try simp only [show (2 : Int).toNat = 2 from rfl, Nat.reduceMul, Nat.reduceEqDiff, Go.Addr.add, ↓reduceIte] at hx305_0)
        have qi305 : (2 < x6_1.length) = True := eq_true (by omega)
        (try rw [show ((2 : Int)).toNat = 2 from rfl] at hx305_0)
        replace p305 := eq_true p305
        replace q305 := eq_true q305
        go_wp2
        repeat (go_quiet (fail); try go_wp2)
        go_ret
        exact ⟨by first | rfl | (simp [errW_none, errW_some] <;> rfl) | (simp [*, errW_none, errW_some] <;> rfl), by repeat (first | (with_reducible first | exact HB.out | apply below_alloc | apply pw_below_drewN | apply below_drew1) | exact HB.out)⟩
       ·rw [if_neg c21] at H
        exact absurd H (by simp)
      ·rw [if_neg c20] at H
       exact absurd H (by simp)
     ·rw [if_neg c19] at H
      exact absurd H (by simp)

/-! ### bits_OnesCount8: function 55 -/
def bits_OnesCount8.f (a0 : Int) : Option Int := if 0 ≤ a0 then (if a0 ≤ 255 then some (Go.Lib.onesCount a0.toNat : Int) else none) else none
set_option maxHeartbeats 8000000 in
set_option maxRecDepth 100000 in
theorem bits_OnesCount8.calls (a0 : Int) (r : Int) (w : World) (h : bits_OnesCount8.f a0 = some r) :
  Calls Tryz.prog 55 #[.int .u8 a0] w fun e w' => e = .returned (.int .i64 r) ∧ Drawn0 w w' := by
 unfold bits_OnesCount8.f at h
 by_cases h0 : 0 ≤ a0
 ·by_cases h1 : a0 ≤ 255
  ·rw [if_pos h0, if_pos h1] at h
   obtain rfl := Option.some.inj h
   clear h
   rw [← Go.Lib.pop8_int a0 h0 h1]
   go_enter Tryz.func55, Tryz.ntmps55
   go_wp2
   go_ret
   refine ⟨?_, by repeat (first | exact Drawn0.refl _ | apply Drawn0.step)⟩
   show Ending.returned (.int .i64 (wrap64 (Go.Lib.pop8 a0))) = _
   generalize Go.Lib.pop8 a0 = p
   exact congrArg (fun z => Ending.returned (.int .i64 z)) (by unfold wrap64; omega)
  ·rw [if_pos h0, if_neg h1] at h; cases h
 ·rw [if_neg h0] at h; cases h

/-- A table of bytes lies in a package's variable. -/
def LaidT (g n : Nat) (l : List Int) (w : World) : Prop := g < w.heap.size ∧ ∀ i : Nat, i < n → w.cell? ⟨g, i, none⟩ = some (.int .u8 (l.getD i 0))
theorem LaidT_below {g n : Nat} {l : List Int} {w w1 : World} (h : LaidT g n l w) (hb : Below w.heap.size w w1) : LaidT g n l w1 := ⟨Nat.lt_of_lt_of_le h.1 hb.size, fun i hi => (hb.cell h.1).trans (h.2 i hi)⟩
/-- As the package lays it: math bits deBruijn64tab. -/
def deBr : List Int := [0, 1, 56, 2, 57, 49, 28, 3, 61, 58, 42, 50, 38, 29, 17, 4, 62, 47, 59, 36, 45, 43, 51, 22, 53, 39, 33, 30, 24, 18, 12, 5, 63, 55, 48, 27, 60, 41, 37, 16, 46, 35, 44, 21, 52, 32, 23, 11, 54, 26, 40, 15, 34, 20, 31, 10, 25, 14, 19, 9, 13, 8, 7, 6]
/-- As the package lays it: loop example g01233 impl laid. -/
def digL : List Int := [63, 6, 91, 79, 102, 109, 125, 7, 127, 111]
/-- The tables lie where the packages laid them. -/
def LaidG (w : World) : Prop := LaidT 8 64 deBr w ∧ LaidT 0 10 digL w
theorem laid_deBr {w : World} (h : LaidG w) : LaidT 8 64 deBr w := h.1
theorem laid_digL {w : World} (h : LaidG w) : LaidT 0 10 digL w := h.2
theorem LaidG_below {w w1 : World} (h : LaidG w) (hb : Below w.heap.size w w1) : LaidG w1 := ⟨LaidT_below (h.1) hb, LaidT_below (h.2) hb⟩
theorem LaidG_alloc {w : World} (h : LaidG w) (o : Obj) : LaidG (w.alloc o) := LaidG_below h (below_alloc (Below.refl _ _) o)
theorem LaidG_drewN {w : World} (h : LaidG w) (m : Nat) : LaidG (w.drewN m) := LaidG_below h (pw_below_drewN (Below.refl _ _) m)
theorem LaidG_drew {w : World} (h : LaidG w) : LaidG w.drew := LaidG_below h (below_drew (Below.refl _ _))
/-! ### impl_places: function 56 -/
def impl_places.f (a0 : Int) : Option Int := if a0 = 43 then some 1 else if a0 = 45 then some 0 else if a0 = 61 then some 0 else if 48 ≤ a0 then (if a0 < 58 then some (digL.getD (a0 - 48).toNat 0) else none) else none
set_option maxHeartbeats 8000000 in
set_option maxRecDepth 100000 in
theorem impl_places.calls (a0 : Int) (r : Int) (w : World) (hG : LaidG w) (h : impl_places.f a0 = some r) :
  Calls Tryz.prog 56 #[.int .u8 a0] w fun e w' => e = .returned (.int .u8 r) ∧ Drawn0 w w' := by
 unfold impl_places.f at h
 by_cases c1 : a0 = 43
 ·rw [if_pos c1] at h
  obtain rfl := Option.some.inj h
  subst c1
  clear hG h
  go_enter Tryz.func56, Tryz.ntmps56
  go_wp2
  go_ret
  exact ⟨rfl, Drawn0.refl _⟩
 rw [if_neg c1] at h
 by_cases c2 : a0 = 45
 ·rw [if_pos c2] at h
  obtain rfl := Option.some.inj h
  subst c2
  clear hG h
  go_enter Tryz.func56, Tryz.ntmps56
  go_wp2
  go_ret
  exact ⟨rfl, Drawn0.refl _⟩
 rw [if_neg c2] at h
 by_cases c3 : a0 = 61
 ·rw [if_pos c3] at h
  obtain rfl := Option.some.inj h
  subst c3
  clear hG h
  go_enter Tryz.func56, Tryz.ntmps56
  go_wp2
  go_ret
  exact ⟨rfl, Drawn0.refl _⟩
 rw [if_neg c3] at h
 by_cases h0 : 48 ≤ a0
 ·by_cases h1 : a0 < 58
  ·rw [if_pos h0, if_pos h1] at h
   obtain rfl := Option.some.inj h
   obtain ⟨m, rfl⟩ : ∃ m : Nat, a0 = 48 + m := ⟨(a0 - 48).toNat, by omega⟩
   have e0 : ((48 + (m : Int)) - 48).toNat = m := by omega
   rw [e0]
   have hc := (laid_digL hG).2 m (by omega)
   clear hG h e0
   have d1 : ((48 + (m : Int)) == 43) = false := beq_eq_false_iff_ne.2 c1
   have d2 : ((48 + (m : Int)) == 45) = false := beq_eq_false_iff_ne.2 c2
   have d3 : ((48 + (m : Int)) == 61) = false := beq_eq_false_iff_ne.2 c3
   have d4 : IntKind.u8.wrap (48 + (m : Int) - 48) = (m : Int) := by
    rw [show (48 + (m : Int) - 48) = (m : Int) by omega]
    simp [IntKind.wrap, IntKind.bits, IntKind.signed]
    omega
   have d5 : (m : Int) < 10 := by omega
   have d6 : (0 : Int) ≤ (m : Int) := by omega
   generalize digL.getD m 0 = v at *
   go_enter Tryz.func56, Tryz.ntmps56
   go_wp2
   go_ret
   exact ⟨rfl, Drawn0.refl _⟩
  ·rw [if_pos h0, if_neg h1] at h; cases h
 ·rw [if_neg h0] at h; cases h

end Go.Proofs.YtmjlmmfhcabnfaaGreatDoor.Q
