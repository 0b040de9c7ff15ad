-- written by a program of this session, pm.py, for this claim
-- half the indentation
import Derived.Test.YtfnnilmkmlmleaaDoorQFnExactMovesToEquationx0
import Derived.Test.YtfnnilmkmlmleaaDoorQFnExactMovesToEquationx2
import Derived.Test.YtfnnilmkmlmleaaDoorQFnExactMovesToEquationx3
namespace Go.Proofs.YtfnnilmkmlmleaaDoor.Q
open Go.RowKit Go.Proofs.YtfnnilmkmlmleaaDoorW.PrintWords Go.Proofs.YtfnnilmkmlmleaaDoorW.PrintLast Go.Proofs.YtfnnilmkmlmleaaDoorW.PrintMore
attribute [local go_sem] max2_int min2_int max_two min_two max_three min_three max_four min_four   -- for this text's walks alone
set_option linter.unusedVariables false
set_option linter.unusedSimpArgs false

/-! ### impl_MovesToEquation: function 19 -/
mutual
def impl_MovesToEquation.j0 : Nat → ByteArray → ByteArray → List ByteArray → List ByteArray → Bool → Option (Int × Bool)
 | 0, _, _, _, _, _ => none
 | k + 1, x0, x1, x6, x9, x33 => if x33 = true then (some (0, false)) else (impl_MovesToEquation.l0 k x0 x1 x6 x9 (x6.length : Int) 0)
def impl_MovesToEquation.l0 : Nat → ByteArray → ByteArray → List ByteArray → List ByteArray → Int → Int → Option (Int × Bool)
 | 0, _, _, _, _, _, _ => none
 | k + 1, x0, x1, x6, x9, x35, x36 => if x36 < x35 then (if 0 ≤ x36 then (if x36 < (x6.length : Int) then (if x36 < (x9.length : Int) then (if ((rdOf ByteArray.empty x6 x36).size : Int) = ((rdOf ByteArray.empty x9 x36).size : Int) then (impl_MovesToEquation.l0 k x0 x1 x6 x9 x35 (wrap64 (x36 + 1))) else (some (0, false))) else (none)) else (none)) else (none)) else (impl_MovesToEquation.l1 k x0 x1 0 0 (x0.size : Int) 0)
def impl_MovesToEquation.l1 : Nat → ByteArray → ByteArray → Int → Int → Int → Int → Option (Int × Bool)
 | 0, _, _, _, _, _, _ => none
 | k + 1, x0, x1, x13, x14, x52, x53 => if x53 < x52 then (if 0 ≤ x53 then (if x53 < (x1.size : Int) then ((impl_places.f (bt x1 x53)).bind fun t195 => (if x53 < (x0.size : Int) then ((impl_places.f (bt x0 x53)).bind fun t196 => ((bits_OnesCount8.f (Go.bits .andNot .u8 t195 t196)).bind fun t197 => ((impl_places.f (bt x0 x53)).bind fun t198 => ((impl_places.f (bt x1 x53)).bind fun t199 => ((bits_OnesCount8.f (Go.bits .andNot .u8 t198 t199)).bind fun t200 => (impl_MovesToEquation.l1 k x0 x1 (wrap64 (x13 + t197)) (wrap64 (x14 + t200)) x52 (wrap64 (x53 + 1)))))))) else (none))) else (none)) else (none)) else (if x13 = x14 then (some (x13, true)) else (some (0, false)))
end
def impl_MovesToEquation.f (k : Nat) (a0 : ByteArray) (a1 : ByteArray) : Option (Int × Bool) := (impl_numerals.f a0).bind fun bt183 => ((impl_numerals.f a1).bind fun bt188 => (if bt183.2.2 = true then (impl_MovesToEquation.j0 k a0 a1 bt183.1 bt188.1 (!bt188.2.2)) else (impl_MovesToEquation.j0 k a0 a1 bt183.1 bt188.1 true)))
theorem impl_MovesToEquation.mono_l : ∀ k, (∀ y0 y1 y2 y3 y4, LeO (impl_MovesToEquation.j0 k y0 y1 y2 y3 y4) (impl_MovesToEquation.j0 (k + 1) y0 y1 y2 y3 y4)) ∧ (∀ y0 y1 y2 y3 y4 y5, LeO (impl_MovesToEquation.l0 k y0 y1 y2 y3 y4 y5) (impl_MovesToEquation.l0 (k + 1) y0 y1 y2 y3 y4 y5)) ∧ (∀ y0 y1 y2 y3 y4 y5, LeO (impl_MovesToEquation.l1 k y0 y1 y2 y3 y4 y5) (impl_MovesToEquation.l1 (k + 1) y0 y1 y2 y3 y4 y5))
 | 0 => ⟨fun _ _ _ _ _ r h => by simp [impl_MovesToEquation.j0] at h, fun _ _ _ _ _ _ r h => by simp [impl_MovesToEquation.l0] at h, fun _ _ _ _ _ _ r h => by simp [impl_MovesToEquation.l1] at h⟩
 | k + 1 => by
  obtain ⟨ih0, ih1, ih2⟩ := impl_MovesToEquation.mono_l k
  refine ⟨?_, ?_, ?_⟩
  ·intro y0 y1 y2 y3 y4
   unfold impl_MovesToEquation.j0
   repeat' first
   | (with_reducible exact ih0 _ _ _ _ _)
   | (with_reducible exact ih1 _ _ _ _ _ _)
   | (with_reducible exact ih2 _ _ _ _ _ _)
   | (with_reducible exact LeO.refl _)
   | (with_reducible exact LeO.none _)
   | (with_reducible refine LeO.ite ?_ ?_)
   | (with_reducible refine LeO.bind ?_ (fun _ => ?_))
   | exact ih0 _ _ _ _ _
   | exact ih1 _ _ _ _ _ _
   | exact ih2 _ _ _ _ _ _
   | exact LeO.none _
   | refine LeO.ite ?_ ?_
   | refine LeO.bind ?_ (fun _ => ?_)
  ·intro y0 y1 y2 y3 y4 y5
   unfold impl_MovesToEquation.l0
   repeat' first
   | (with_reducible exact ih0 _ _ _ _ _)
   | (with_reducible exact ih1 _ _ _ _ _ _)
   | (with_reducible exact ih2 _ _ _ _ _ _)
   | (with_reducible exact LeO.refl _)
   | (with_reducible exact LeO.none _)
   | (with_reducible refine LeO.ite ?_ ?_)
   | (with_reducible refine LeO.bind ?_ (fun _ => ?_))
   | exact ih0 _ _ _ _ _
   | exact ih1 _ _ _ _ _ _
   | exact ih2 _ _ _ _ _ _
   | exact LeO.none _
   | refine LeO.ite ?_ ?_
   | refine LeO.bind ?_ (fun _ => ?_)
  ·intro y0 y1 y2 y3 y4 y5
   unfold impl_MovesToEquation.l1
   repeat' first
   | (with_reducible exact ih0 _ _ _ _ _)
   | (with_reducible exact ih1 _ _ _ _ _ _)
   | (with_reducible exact ih2 _ _ _ _ _ _)
   | (with_reducible exact LeO.refl _)
   | (with_reducible exact LeO.none _)
   | (with_reducible refine LeO.ite ?_ ?_)
   | (with_reducible refine LeO.bind ?_ (fun _ => ?_))
   | exact ih0 _ _ _ _ _
   | exact ih1 _ _ _ _ _ _
   | exact ih2 _ _ _ _ _ _
   | exact LeO.none _
   | refine LeO.ite ?_ ?_
   | refine LeO.bind ?_ (fun _ => ?_)
theorem impl_MovesToEquation.mono : ∀ a0 a1 k, LeO (impl_MovesToEquation.f k a0 a1) (impl_MovesToEquation.f (k + 1) a0 a1) := by
 intro a0 a1 k
 obtain ⟨ih0, ih1, ih2⟩ := impl_MovesToEquation.mono_l k
 unfold impl_MovesToEquation.f
 repeat' first
   | (with_reducible exact ih0 _ _ _ _ _)
   | (with_reducible exact ih1 _ _ _ _ _ _)
   | (with_reducible exact ih2 _ _ _ _ _ _)
   | (with_reducible exact LeO.refl _)
   | (with_reducible exact LeO.none _)
   | (with_reducible refine LeO.ite ?_ ?_)
   | (with_reducible refine LeO.bind ?_ (fun _ => ?_))
   | exact ih0 _ _ _ _ _
   | exact ih1 _ _ _ _ _ _
   | exact ih2 _ _ _ _ _ _
   | exact LeO.none _
   | refine LeO.ite ?_ ?_
   | refine LeO.bind ?_ (fun _ => ?_)
set_option maxHeartbeats 8000000 in
set_option maxRecDepth 100000 in
theorem impl_MovesToEquation.calls (k : Nat) (a0 : ByteArray) (a1 : ByteArray) (r1 : Int) (r2 : Bool) (w : World) (hG : LaidG w) (h : impl_MovesToEquation.f k a0 a1 = some (r1, r2)) :
  Calls Tryd.prog 19 #[.string a0, .string a1] w fun e w' => e = .returned (.tuple #[.int .i64 r1, .bool r2]) ∧ Below w.heap.size w w' := by
 have HG := Aside0.mk hG
 clear hG
 have HB := Aside0.mk (Below.refl w.heap.size w)
 have H : ((impl_numerals.f a0).bind fun bt183 => ((impl_numerals.f a1).bind fun bt188 => (if bt183.2.2 = true then (impl_MovesToEquation.j0 k a0 a1 bt183.1 bt188.1 (!bt188.2.2)) else (impl_MovesToEquation.j0 k a0 a1 bt183.1 bt188.1 true)))) = some (r1, r2) := h
 clear h
 replace H := Option.bind_eq_some_iff.mp H
 obtain ⟨⟨t183, t184, t185⟩, A30, H⟩ := H
 replace H : ((impl_numerals.f a1).bind fun bt188 => (if t185 = true then (impl_MovesToEquation.j0 k a0 a1 t183 bt188.1 (!bt188.2.2)) else (impl_MovesToEquation.j0 k a0 a1 t183 bt188.1 true))) = some (r1, r2) := H
 have A3 := Aside0.mk A30
 clear A30
 replace H := Option.bind_eq_some_iff.mp H
 obtain ⟨⟨t188, t189, t190⟩, A40, H⟩ := H
 replace H : (if t185 = true then (impl_MovesToEquation.j0 k a0 a1 t183 t188 (!t190)) else (impl_MovesToEquation.j0 k a0 a1 t183 t188 true)) = some (r1, r2) := H
 have A4 := Aside0.mk A40
 clear A40
 have HC5 := Aside0.mk H
 clear H
 go_enter Tryd.func19, Tryd.ntmps19
 go_upto_region 3 with (first | (go_at_call 31; (with_reducible refine (impl_numerals.calls a0 t183 t184 t185 _ A3.out).mono ?_); rintro e w6 ⟨v186, rfl, ho0, hb⟩; have n0_ := Aside0.mk (Kd.R_lower ho0 (below_size (by repeat (first | (with_reducible first | exact HB.out | apply below_alloc | apply pw_below_drewN | apply below_drew1) | exact HB.out)))); have n1_ := Aside0.mk (below_step (by repeat (first | (with_reducible first | exact HB.out | apply below_alloc | apply pw_below_drewN | apply below_drew1) | exact HB.out)) hb); clear HB; have HO187 := n0_; have HB := n1_; clear n0_ n1_; (try clear hb); (try clear hb2); (try clear hk); (try clear hi); (try clear ho0)) | (go_at_call 31; (with_reducible refine (impl_numerals.calls a1 t188 t189 t190 _ A4.out).mono ?_); rintro e w7 ⟨v191, rfl, ho0, hb⟩; have n0_ := Aside0.mk (Kd.R_elder' (by (with_reducible repeat (first | apply Kd.R_alloc | apply Kd.R_drewN | apply Kd.R_drew)); exact HO187.out) (Kd.R_base ho0) hb); have n1_ := Aside0.mk (Kd.R_lower (Kd.R_new' ho0 (Kd.R_lt (by (with_reducible repeat (first | apply Kd.R_alloc | apply Kd.R_drewN | apply Kd.R_drew)); exact HO187.out))) (below_size (by repeat (first | (with_reducible first | exact HB.out | apply below_alloc | apply pw_below_drewN | apply below_drew1) | exact HB.out)))); have n2_ := Aside0.mk (below_step (by repeat (first | (with_reducible first | exact HB.out | apply below_alloc | apply pw_below_drewN | apply below_drew1) | exact HB.out)) hb); clear HO187; clear HB; have HO187 := n0_; have HO192 := n1_; have HB := n2_; clear n0_ n1_ n2_; (try clear hb); (try clear hb2); (try clear hk); (try clear hi); (try clear ho0)))
 repeat (go_quiet (first | (go_at_call 31; (with_reducible refine (impl_numerals.calls a0 t183 t184 t185 _ A3.out).mono ?_); rintro e w6 ⟨v186, rfl, ho0, hb⟩; have n0_ := Aside0.mk (Kd.R_lower ho0 (below_size (by repeat (first | (with_reducible first | exact HB.out | apply below_alloc | apply pw_below_drewN | apply below_drew1) | exact HB.out)))); have n1_ := Aside0.mk (below_step (by repeat (first | (with_reducible first | exact HB.out | apply below_alloc | apply pw_below_drewN | apply below_drew1) | exact HB.out)) hb); clear HB; have HO187 := n0_; have HB := n1_; clear n0_ n1_; (try clear hb); (try clear hb2); (try clear hk); (try clear hi); (try clear ho0)) | (go_at_call 31; (with_reducible refine (impl_numerals.calls a1 t188 t189 t190 _ A4.out).mono ?_); rintro e w7 ⟨v191, rfl, ho0, hb⟩; have n0_ := Aside0.mk (Kd.R_elder' (by (with_reducible repeat (first | apply Kd.R_alloc | apply Kd.R_drewN | apply Kd.R_drew)); exact HO187.out) (Kd.R_base ho0) hb); have n1_ := Aside0.mk (Kd.R_lower (Kd.R_new' ho0 (Kd.R_lt (by (with_reducible repeat (first | apply Kd.R_alloc | apply Kd.R_drewN | apply Kd.R_drew)); exact HO187.out))) (below_size (by repeat (first | (with_reducible first | exact HB.out | apply below_alloc | apply pw_below_drewN | apply below_drew1) | exact HB.out)))); have n2_ := Aside0.mk (below_step (by repeat (first | (with_reducible first | exact HB.out | apply below_alloc | apply pw_below_drewN | apply below_drew1) | exact HB.out)) hb); clear HO187; clear HB; have HO187 := n0_; have HO192 := n1_; have HB := n2_; clear n0_ n1_ n2_; (try clear hb); (try clear hb2); (try clear hk); (try clear hi); (try clear ho0))); go_upto_region 3 with (first | (go_at_call 31; (with_reducible refine (impl_numerals.calls a0 t183 t184 t185 _ A3.out).mono ?_); rintro e w6 ⟨v186, rfl, ho0, hb⟩; have n0_ := Aside0.mk (Kd.R_lower ho0 (below_size (by repeat (first | (with_reducible first | exact HB.out | apply below_alloc | apply pw_below_drewN | apply below_drew1) | exact HB.out)))); have n1_ := Aside0.mk (below_step (by repeat (first | (with_reducible first | exact HB.out | apply below_alloc | apply pw_below_drewN | apply below_drew1) | exact HB.out)) hb); clear HB; have HO187 := n0_; have HB := n1_; clear n0_ n1_; (try clear hb); (try clear hb2); (try clear hk); (try clear hi); (try clear ho0)) | (go_at_call 31; (with_reducible refine (impl_numerals.calls a1 t188 t189 t190 _ A4.out).mono ?_); rintro e w7 ⟨v191, rfl, ho0, hb⟩; have n0_ := Aside0.mk (Kd.R_elder' (by (with_reducible repeat (first | apply Kd.R_alloc | apply Kd.R_drewN | apply Kd.R_drew)); exact HO187.out) (Kd.R_base ho0) hb); have n1_ := Aside0.mk (Kd.R_lower (Kd.R_new' ho0 (Kd.R_lt (by (with_reducible repeat (first | apply Kd.R_alloc | apply Kd.R_drewN | apply Kd.R_drew)); exact HO187.out))) (below_size (by repeat (first | (with_reducible first | exact HB.out | apply below_alloc | apply pw_below_drewN | apply below_drew1) | exact HB.out)))); have n2_ := Aside0.mk (below_step (by repeat (first | (with_reducible first | exact HB.out | apply below_alloc | apply pw_below_drewN | apply below_drew1) | exact HB.out)) hb); clear HO187; clear HB; have HO187 := n0_; have HO192 := n1_; have HB := n2_; clear n0_ n1_ n2_; (try clear hb); (try clear hb2); (try clear hk); (try clear hi); (try clear ho0))))
 (try simp only [Act.put, List.setIfInBounds_toArray, List.set_cons_zero, List.set_cons_succ])
 go_cut [33] (fun v33 wc => ∃ (kq : Nat) (x33_4 : Bool), v33 = .bool x33_4 ∧ Aside0 (impl_MovesToEquation.j0 kq a0 a1 t183 t188 x33_4 = some (r1, r2)) ∧ Aside0 (kq ≤ k) ∧ Aside0 (Kd.R Kd.string 9 wc w.heap.size (fun k_ => some k_ ≠ (v191 : Value).ownBlock) v186 t183) ∧ Aside0 (Kd.R Kd.string 9 wc w.heap.size (fun k_ => some k_ ≠ (v186 : Value).ownBlock) v191 t188) ∧ Aside0 (Below w.heap.size w wc))
 case first =>
  have H := HC5.out
  clear HC5
  by_cases c8 : t185 = true
  ·subst c8
   have H1 : (impl_MovesToEquation.j0 k a0 a1 t183 t188 (!t190)) = some (r1, r2) := by rw [if_pos rfl] at H; exact H
   clear H
   have H := H1
   clear H1
   have H' := Aside0.mk H
   clear H
   go_wp2
   repeat (go_quiet (fail); try go_wp2)
   go_meet
   case rel => exact ⟨_, (!t190), (by first | rfl | (simp; done) | (simp [*]; done) | (simp only [IntKind.wrap_i64, wrap64]; done)), H', ⟨by first | omega | exact Nat.le_refl _⟩, ⟨by (with_reducible repeat (first | apply Kd.R_alloc | apply Kd.R_drewN | apply Kd.R_drew)); exact Kd.R_mono HO187.out (fun _ hk => hk.2)⟩, ⟨by (with_reducible repeat (first | apply Kd.R_alloc | apply Kd.R_drewN | apply Kd.R_drew)); exact Kd.R_mono HO192.out (fun _ hk => hk.2)⟩, ⟨by repeat (first | (with_reducible first | exact HB.out | apply below_alloc | apply pw_below_drewN | apply below_drew1) | exact HB.out)⟩⟩
  ·replace c8 := Bool.eq_false_iff.mpr c8
   subst c8
   have H1 : (impl_MovesToEquation.j0 k a0 a1 t183 t188 true) = some (r1, r2) := by rw [if_neg (show ¬ (false = true) by decide)] at H; exact H
   clear H
   have H := H1
   clear H1
   have H' := Aside0.mk H
   clear H
   go_wp2
   repeat (go_quiet (fail); try go_wp2)
   go_meet
   case rel => exact ⟨_, (true), (by first | rfl | (simp; done) | (simp [*]; done) | (simp only [IntKind.wrap_i64, wrap64]; done)), H', ⟨by first | omega | exact Nat.le_refl _⟩, ⟨by (with_reducible repeat (first | apply Kd.R_alloc | apply Kd.R_drewN | apply Kd.R_drew)); exact Kd.R_mono HO187.out (fun _ hk => hk.2)⟩, ⟨by (with_reducible repeat (first | apply Kd.R_alloc | apply Kd.R_drewN | apply Kd.R_drew)); exact Kd.R_mono HO192.out (fun _ hk => hk.2)⟩, ⟨by repeat (first | (with_reducible first | exact HB.out | apply below_alloc | apply pw_below_drewN | apply below_drew1) | exact HB.out)⟩⟩
 case rest =>
  clear HC5
  try clear c1
  try clear p2
  try clear c8
  obtain ⟨kq, x33_4, rfl, HA, HJ4, HO_6, HO_9, HB⟩ := hcut
  cases kq with
  | zero => exact absurd HA.out (by simp [impl_MovesToEquation.j0])
  | succ kj4 =>
   have H := HA.out
   clear HA
   simp only [impl_MovesToEquation.j0] at H
   by_cases c9 : x33_4 = true
   ·subst c9
    have H1 : (some (0, false)) = some (r1, r2) := by rw [if_pos rfl] at H; exact H
    clear H
    have H := H1
    clear H1
    simp only [Option.some.injEq, Prod.mk.injEq] at H
    obtain ⟨rfl, rfl⟩ := H
    go_wp2
    repeat (go_quiet (fail); try go_wp2)
    go_ret2
    exact ⟨by first | rfl | (simp [errW_none, errW_some] <;> rfl) | (simp [*, errW_none, errW_some] <;> rfl), by repeat (first | (with_reducible first | exact HB.out | apply below_alloc | apply pw_below_drewN | apply below_drew1) | exact HB.out)⟩
   ·replace c9 := Bool.eq_false_iff.mpr c9
    subst c9
    have H1 : (impl_MovesToEquation.l0 kj4 a0 a1 t183 t188 (t183.length : Int) 0) = some (r1, r2) := by rw [if_neg (show ¬ (false = true) by decide)] at H; exact H
    clear H
    have H := H1
    clear H1
    have H' := Aside0.mk H
    clear H
    obtain ⟨Ao10, co10, eo10⟩ := Kd.R_slice HO_6.out
    subst eo10
    go_wp2
    repeat (go_quiet (fail); try go_wp2)
    go_loopg [36] kj4 (fun kq v36 w' => ∃ (x36_2 : Int), v36 = .int .i64 x36_2 ∧ Aside0 (impl_MovesToEquation.l0 kq a0 a1 t183 t188 (t183.length : Int) x36_2 = some (r1, r2)) ∧ Aside0 (kq ≤ kj4) ∧ Aside0 (Kd.R Kd.string 9 w' w.heap.size (fun k_ => some k_ ≠ (v191 : Value).ownBlock) (.slice Ao10 t183.length co10) t183) ∧ Aside0 (Kd.R Kd.string 9 w' w.heap.size (fun k_ => some k_ ≠ ((.slice Ao10 t183.length co10) : Value).ownBlock) v191 t188) ∧ Aside0 (Below w.heap.size w w'))
    case atStart => exact ⟨(0), (by first | rfl | (simp; done) | (simp [*]; done) | (simp only [IntKind.wrap_i64, wrap64]; done)), H', ⟨Nat.le_refl _⟩, ⟨by (with_reducible repeat (first | apply Kd.R_alloc | apply Kd.R_drewN | apply Kd.R_drew)); exact HO_6.out⟩, ⟨by (with_reducible repeat (first | apply Kd.R_alloc | apply Kd.R_drewN | apply Kd.R_drew)); exact HO_9.out⟩, ⟨by repeat (first | (with_reducible first | exact HB.out | apply below_alloc | apply pw_below_drewN | apply below_drew1) | exact HB.out)⟩⟩
    case round =>
     clear H'
     try clear c1
     try clear p2
     try clear c8
     try clear c9
     try clear p2
     obtain ⟨x36_2, rfl, HA, HK2, HO_6, HO_9, HB⟩ := hrel
     cases gk with
     | zero => exact absurd HA.out (by simp [impl_MovesToEquation.l0])
     | succ k2 =>
      have H := HA.out
      clear HA
      simp only [impl_MovesToEquation.l0] at H
      by_cases c11 : x36_2 < (t183.length : Int)
      ·rw [if_pos c11] at H
       have c11b0 : decide (x36_2 < (t183.length : Int)) = true := decide_eq_true c11
       clear c11
       by_cases c12 : 0 ≤ x36_2
       ·rw [if_pos c12] at H
        have c12b0 : decide (0 ≤ x36_2) = true := decide_eq_true c12
        clear c12
        by_cases c13 : x36_2 < (t183.length : Int)
        ·rw [if_pos c13] at H
         have c13b0 : decide (x36_2 < (t183.length : Int)) = true := decide_eq_true c13
         clear c13
         by_cases c14 : x36_2 < (t188.length : Int)
         ·rw [if_pos c14] at H
          have c14b0 : decide (x36_2 < (t188.length : Int)) = true := decide_eq_true c14
          clear c14
          by_cases c15 : ((rdOf ByteArray.empty t183 x36_2).size : Int) = ((rdOf ByteArray.empty t188 x36_2).size : Int)
          ·rw [if_pos c15] at H
           have c15b0 : (((rdOf ByteArray.empty t183 x36_2).size : Int) == ((rdOf ByteArray.empty t188 x36_2).size : Int)) = true := beq_iff_eq.mpr c15
           have c15b1 : (((rdOf ByteArray.empty t183 x36_2).size : Int) != ((rdOf ByteArray.empty t188 x36_2).size : Int)) = false := bne_eq_false_iff_eq.mpr c15
           have c15b2 : ((rdOf ByteArray.empty t183 x36_2).size == (rdOf ByteArray.empty t188 x36_2).size) = true := by first | simpa using c15 | (simp at c15 ⊢; omega)
           clear c15
           have H' := Aside0.mk H
           clear H
           have p193 : 0 ≤ (x36_2 : Int) := of_decide_eq_true (by first | (with_reducible assumption) | assumption)
           have q193 : x36_2 < (t183.length : Int) := of_decide_eq_true (by first | (with_reducible assumption) | assumption)
           obtain ⟨ad193, e193, hx193_0⟩ := Kd.at_string (Kd.R_reads' HO_6.out).2.2 x36_2 p193 q193
           cases e193
           replace p193 := eq_true p193
           replace q193 := eq_true q193
           obtain ⟨Ao16, co16, eo16⟩ := Kd.R_slice HO_9.out
           subst eo16
           have p194 : 0 ≤ (x36_2 : Int) := of_decide_eq_true (by first | (with_reducible assumption) | assumption)
           have q194 : x36_2 < (t188.length : Int) := of_decide_eq_true (by first | (with_reducible assumption) | assumption)
           obtain ⟨ad194, e194, hx194_0⟩ := Kd.at_string (Kd.R_reads' HO_9.out).2.2 x36_2 p194 q194
           cases e194
           replace p194 := eq_true p194
           replace q194 := eq_true q194
           go_wp2
           repeat (go_quiet (fail); try go_wp2)
           go_roundg k2
           case measure => have := HJ4.out; have := HK2.out; omega
           case rel => exact ⟨(wrap64 (x36_2 + 1)), (by first | rfl | (simp; done) | (simp [*]; done) | (simp only [IntKind.wrap_i64, wrap64]; done)), H', ⟨by have := HJ4.out; have := HK2.out; omega⟩, ⟨by (with_reducible repeat (first | apply Kd.R_alloc | apply Kd.R_drewN | apply Kd.R_drew)); exact HO_6.out⟩, ⟨by (with_reducible repeat (first | apply Kd.R_alloc | apply Kd.R_drewN | apply Kd.R_drew)); exact HO_9.out⟩, ⟨by repeat (first | (with_reducible first | exact HB.out | apply below_alloc | apply pw_below_drewN | apply below_drew1) | exact HB.out)⟩⟩
          ·rw [if_neg c15] at H
           have c15b0 : (((rdOf ByteArray.empty t183 x36_2).size : Int) == ((rdOf ByteArray.empty t188 x36_2).size : Int)) = false := beq_eq_false_iff_ne.mpr c15
           have c15b1 : (((rdOf ByteArray.empty t183 x36_2).size : Int) != ((rdOf ByteArray.empty t188 x36_2).size : Int)) = true := bne_iff_ne.mpr c15
           have c15b2 : ((rdOf ByteArray.empty t183 x36_2).size == (rdOf ByteArray.empty t188 x36_2).size) = false := by first | simpa using c15 | (simp at c15 ⊢; omega)
           simp only [Option.some.injEq, Prod.mk.injEq] at H
           obtain ⟨rfl, rfl⟩ := H
           have p193 : 0 ≤ (x36_2 : Int) := of_decide_eq_true (by first | (with_reducible assumption) | assumption)
           have q193 : x36_2 < (t183.length : Int) := of_decide_eq_true (by first | (with_reducible assumption) | assumption)
           obtain ⟨ad193, e193, hx193_0⟩ := Kd.at_string (Kd.R_reads' HO_6.out).2.2 x36_2 p193 q193
           cases e193
           replace p193 := eq_true p193
           replace q193 := eq_true q193
           obtain ⟨Ao17, co17, eo17⟩ := Kd.R_slice HO_9.out
           subst eo17
           have p194 : 0 ≤ (x36_2 : Int) := of_decide_eq_true (by first | (with_reducible assumption) | assumption)
           have q194 : x36_2 < (t188.length : Int) := of_decide_eq_true (by first | (with_reducible assumption) | assumption)
           obtain ⟨ad194, e194, hx194_0⟩ := Kd.at_string (Kd.R_reads' HO_9.out).2.2 x36_2 p194 q194
           cases e194
           replace p194 := eq_true p194
           replace q194 := eq_true q194
           go_wp2
           repeat (go_quiet (fail); try go_wp2)
           go_ret2
           exact ⟨by first | rfl | (simp [errW_none, errW_some] <;> rfl) | (simp [*, errW_none, errW_some] <;> rfl), by repeat (first | (with_reducible first | exact HB.out | apply below_alloc | apply pw_below_drewN | apply below_drew1) | exact HB.out)⟩
         ·rw [if_neg c14] at H
          exact absurd H (by simp)
        ·rw [if_neg c13] at H
         exact absurd H (by simp)
       ·rw [if_neg c12] at H
        exact absurd H (by simp)
      ·rw [if_neg c11] at H
       have c11b0 : decide (x36_2 < (t183.length : Int)) = false := decide_eq_false c11
       clear c11
       have H' := Aside0.mk H
       clear H
       go_wp2
       repeat (go_quiet (fail); try go_wp2)
       go_loopg [13, 14, 53] k2 (fun kq v13 v14 v53 w' => ∃ (x13_3 : Int) (x14_3 : Int) (x53_3 : Int), v13 = .int .i64 x13_3 ∧ v14 = .int .i64 x14_3 ∧ v53 = .int .i64 x53_3 ∧ Aside0 (impl_MovesToEquation.l1 kq a0 a1 x13_3 x14_3 (a0.size : Int) x53_3 = some (r1, r2)) ∧ Aside0 (kq ≤ k2) ∧ Aside0 (Below w.heap.size w w'))
       case atStart => exact ⟨(0), (0), (0), (by first | rfl | (simp; done) | (simp [*]; done) | (simp only [IntKind.wrap_i64, wrap64]; done)), (by first | rfl | (simp; done) | (simp [*]; done) | (simp only [IntKind.wrap_i64, wrap64]; done)), (by first | rfl | (simp; done) | (simp [*]; done) | (simp only [IntKind.wrap_i64, wrap64]; done)), H', ⟨Nat.le_refl _⟩, ⟨by repeat (first | (with_reducible first | exact HB.out | apply below_alloc | apply pw_below_drewN | apply below_drew1) | exact HB.out)⟩⟩
       case round =>
        clear H'
        try clear c1
        try clear p1
        try clear q1
        try clear hx1
        try clear p2
        try clear p6
        try clear c8
        try clear c9
        try clear c11
        try clear c11b0
        try clear c12
        try clear c12b0
        try clear c13
        try clear c13b0
        try clear c14
        try clear c14b0
        try clear c15
        try clear c15b0
        try clear c15b1
        try clear c15b2
        try clear hx193_0
        try clear hx194_0
        try clear p193
        try clear p194
        try clear p2
        try clear q193
        try clear q194
        obtain ⟨x13_3, x14_3, x53_3, rfl, rfl, rfl, HA, HK3, HB⟩ := hrel
        cases gk with
        | zero => exact absurd HA.out (by simp [impl_MovesToEquation.l1])
        | succ k3 =>
         have H := HA.out
         clear HA
         simp only [impl_MovesToEquation.l1] at H
         by_cases c18 : x53_3 < (a0.size : Int)
         ·rw [if_pos c18] at H
          have c18b0 : decide (x53_3 < (a0.size : Int)) = true := decide_eq_true c18
          clear c18
          by_cases c19 : 0 ≤ x53_3
          ·rw [if_pos c19] at H
           have c19b0 : decide (0 ≤ x53_3) = true := decide_eq_true c19
           clear c19
           by_cases c20 : x53_3 < (a1.size : Int)
           ·rw [if_pos c20] at H
            have c20b0 : decide (x53_3 < (a1.size : Int)) = true := decide_eq_true c20
            clear c20
            replace H := Option.bind_eq_some_iff.mp H
            obtain ⟨t195, A220, H⟩ := H
            replace H : (if x53_3 < (a0.size : Int) then ((impl_places.f (bt a0 x53_3)).bind fun t196 => ((bits_OnesCount8.f (Go.bits .andNot .u8 t195 t196)).bind fun t197 => ((impl_places.f (bt a0 x53_3)).bind fun t198 => ((impl_places.f (bt a1 x53_3)).bind fun t199 => ((bits_OnesCount8.f (Go.bits .andNot .u8 t198 t199)).bind fun t200 => (impl_MovesToEquation.l1 k3 a0 a1 (wrap64 (x13_3 + t197)) (wrap64 (x14_3 + t200)) (a0.size : Int) (wrap64 (x53_3 + 1)))))))) else (none)) = some (r1, r2) := H
            have A22 := Aside0.mk A220
            clear A220
            by_cases c23 : x53_3 < (a0.size : Int)
            ·rw [if_pos c23] at H
             have c23b0 : decide (x53_3 < (a0.size : Int)) = true := decide_eq_true c23
             clear c23
             replace H := Option.bind_eq_some_iff.mp H
             obtain ⟨t196, A250, H⟩ := H
             replace H : ((bits_OnesCount8.f (Go.bits .andNot .u8 t195 t196)).bind fun t197 => ((impl_places.f (bt a0 x53_3)).bind fun t198 => ((impl_places.f (bt a1 x53_3)).bind fun t199 => ((bits_OnesCount8.f (Go.bits .andNot .u8 t198 t199)).bind fun t200 => (impl_MovesToEquation.l1 k3 a0 a1 (wrap64 (x13_3 + t197)) (wrap64 (x14_3 + t200)) (a0.size : Int) (wrap64 (x53_3 + 1))))))) = some (r1, r2) := H
             have A25 := Aside0.mk A250
             clear A250
             replace H := Option.bind_eq_some_iff.mp H
             obtain ⟨t197, A260, H⟩ := H
             replace H : ((impl_places.f (bt a0 x53_3)).bind fun t198 => ((impl_places.f (bt a1 x53_3)).bind fun t199 => ((bits_OnesCount8.f (Go.bits .andNot .u8 t198 t199)).bind fun t200 => (impl_MovesToEquation.l1 k3 a0 a1 (wrap64 (x13_3 + t197)) (wrap64 (x14_3 + t200)) (a0.size : Int) (wrap64 (x53_3 + 1)))))) = some (r1, r2) := H
             have A26 := Aside0.mk A260
             clear A260
             replace H := Option.bind_eq_some_iff.mp H
             obtain ⟨t198, h0_, H⟩ := H
             obtain rfl : t196 = t198 := Option.some.inj (A25.out.symm.trans h0_)
             clear h0_
             replace H : ((impl_places.f (bt a1 x53_3)).bind fun t199 => ((bits_OnesCount8.f (Go.bits .andNot .u8 t196 t199)).bind fun t200 => (impl_MovesToEquation.l1 k3 a0 a1 (wrap64 (x13_3 + t197)) (wrap64 (x14_3 + t200)) (a0.size : Int) (wrap64 (x53_3 + 1))))) = some (r1, r2) := H
             replace H := Option.bind_eq_some_iff.mp H
             obtain ⟨t199, h0_, H⟩ := H
             obtain rfl : t195 = t199 := Option.some.inj (A22.out.symm.trans h0_)
             clear h0_
             replace H : ((bits_OnesCount8.f (Go.bits .andNot .u8 t196 t195)).bind fun t200 => (impl_MovesToEquation.l1 k3 a0 a1 (wrap64 (x13_3 + t197)) (wrap64 (x14_3 + t200)) (a0.size : Int) (wrap64 (x53_3 + 1)))) = some (r1, r2) := H
             replace H := Option.bind_eq_some_iff.mp H
             obtain ⟨t200, A290, H⟩ := H
             replace H : (impl_MovesToEquation.l1 k3 a0 a1 (wrap64 (x13_3 + t197)) (wrap64 (x14_3 + t200)) (a0.size : Int) (wrap64 (x53_3 + 1))) = some (r1, r2) := H
             have A29 := Aside0.mk A290
             clear A290
             have H' := Aside0.mk H
             clear H
             have p21 : 0 ≤ (x53_3 : Int) := of_decide_eq_true (by first | (with_reducible assumption) | assumption)
             have q21 : x53_3 < (a1.size : Int) := of_decide_eq_true (by first | (with_reducible assumption) | assumption)
             have hx21 := bt_at a1 x53_3
             replace p21 := eq_true p21
             replace q21 := eq_true q21
             go_wp2_with (first | (go_at_call 33; (with_reducible refine (impl_places.calls (bt a1 x53_3) t195 _ ?side1 A22.out).mono ?_); (case side1 => first | exact LaidG_below HG.out (by repeat (first | (with_reducible first | exact HB.out | apply below_alloc | apply pw_below_drewN | apply below_drew1) | exact HB.out)) | (repeat (first | exact HG.out | (with_reducible refine LaidG_alloc ?_ _) | (with_reducible refine LaidG_drewN ?_ _) | (with_reducible refine LaidG_drew ?_)))); rintro e w' ⟨rfl, ⟨nd, rfl⟩⟩; (try first | exact ⟨rfl, _, World.drewN_drewN _ _ _⟩ | exact ⟨rfl, _, Eq.trans (World.drewN_drewN _ _ _) (congrArg (World.drewN _) (Nat.add_assoc _ _ _))⟩); have p24 : 0 ≤ (x53_3 : Int) := of_decide_eq_true (by first | (with_reducible assumption) | assumption); have q24 : x53_3 < (a0.size : Int) := of_decide_eq_true (by first | (with_reducible assumption) | assumption); have hx24 := bt_at a0 x53_3; replace p24 := eq_true p24; replace q24 := eq_true q24) | (go_at_call 33; (with_reducible refine (impl_places.calls (bt a0 x53_3) t196 _ ?side1 A25.out).mono ?_); (case side1 => first | exact LaidG_below HG.out (by repeat (first | (with_reducible first | exact HB.out | apply below_alloc | apply pw_below_drewN | apply below_drew1) | exact HB.out)) | (repeat (first | exact HG.out | (with_reducible refine LaidG_alloc ?_ _) | (with_reducible refine LaidG_drewN ?_ _) | (with_reducible refine LaidG_drew ?_)))); rintro e w' ⟨rfl, ⟨nd, rfl⟩⟩; (try first | exact ⟨rfl, _, World.drewN_drewN _ _ _⟩ | exact ⟨rfl, _, Eq.trans (World.drewN_drewN _ _ _) (congrArg (World.drewN _) (Nat.add_assoc _ _ _))⟩)) | (go_at_call 32; (with_reducible refine (bits_OnesCount8.calls (Go.bits .andNot .u8 t195 t196) t197 _ A26.out).mono ?_); rintro e w' ⟨rfl, ⟨nd, rfl⟩⟩; (try first | exact ⟨rfl, _, World.drewN_drewN _ _ _⟩ | exact ⟨rfl, _, Eq.trans (World.drewN_drewN _ _ _) (congrArg (World.drewN _) (Nat.add_assoc _ _ _))⟩); have p27 : 0 ≤ (x53_3 : Int) := of_decide_eq_true (by first | (with_reducible assumption) | assumption); have q27 : x53_3 < (a0.size : Int) := of_decide_eq_true (by first | (with_reducible assumption) | assumption); have hx27 := bt_at a0 x53_3; replace p27 := eq_true p27; replace q27 := eq_true q27; have p28 : 0 ≤ (x53_3 : Int) := of_decide_eq_true (by first | (with_reducible assumption) | assumption); have q28 : x53_3 < (a1.size : Int) := of_decide_eq_true (by first | (with_reducible assumption) | assumption); have hx28 := bt_at a1 x53_3; replace p28 := eq_true p28; replace q28 := eq_true q28) | (go_at_call 32; (with_reducible refine (bits_OnesCount8.calls (Go.bits .andNot .u8 t196 t195) t200 _ A29.out).mono ?_); rintro e w' ⟨rfl, ⟨nd, rfl⟩⟩; (try first | exact ⟨rfl, _, World.drewN_drewN _ _ _⟩ | exact ⟨rfl, _, Eq.trans (World.drewN_drewN _ _ _) (congrArg (World.drewN _) (Nat.add_assoc _ _ _))⟩)))
             repeat (go_quiet (first | (go_at_call 33; (with_reducible refine (impl_places.calls (bt a1 x53_3) t195 _ ?side1 A22.out).mono ?_); (case side1 => first | exact LaidG_below HG.out (by repeat (first | (with_reducible first | exact HB.out | apply below_alloc | apply pw_below_drewN | apply below_drew1) | exact HB.out)) | (repeat (first | exact HG.out | (with_reducible refine LaidG_alloc ?_ _) | (with_reducible refine LaidG_drewN ?_ _) | (with_reducible refine LaidG_drew ?_)))); rintro e w' ⟨rfl, ⟨nd, rfl⟩⟩; (try first | exact ⟨rfl, _, World.drewN_drewN _ _ _⟩ | exact ⟨rfl, _, Eq.trans (World.drewN_drewN _ _ _) (congrArg (World.drewN _) (Nat.add_assoc _ _ _))⟩); have p24 : 0 ≤ (x53_3 : Int) := of_decide_eq_true (by first | (with_reducible assumption) | assumption); have q24 : x53_3 < (a0.size : Int) := of_decide_eq_true (by first | (with_reducible assumption) | assumption); have hx24 := bt_at a0 x53_3; replace p24 := eq_true p24; replace q24 := eq_true q24) | (go_at_call 33; (with_reducible refine (impl_places.calls (bt a0 x53_3) t196 _ ?side1 A25.out).mono ?_); (case side1 => first | exact LaidG_below HG.out (by repeat (first | (with_reducible first | exact HB.out | apply below_alloc | apply pw_below_drewN | apply below_drew1) | exact HB.out)) | (repeat (first | exact HG.out | (with_reducible refine LaidG_alloc ?_ _) | (with_reducible refine LaidG_drewN ?_ _) | (with_reducible refine LaidG_drew ?_)))); rintro e w' ⟨rfl, ⟨nd, rfl⟩⟩; (try first | exact ⟨rfl, _, World.drewN_drewN _ _ _⟩ | exact ⟨rfl, _, Eq.trans (World.drewN_drewN _ _ _) (congrArg (World.drewN _) (Nat.add_assoc _ _ _))⟩)) | (go_at_call 32; (with_reducible refine (bits_OnesCount8.calls (Go.bits .andNot .u8 t195 t196) t197 _ A26.out).mono ?_); rintro e w' ⟨rfl, ⟨nd, rfl⟩⟩; (try first | exact ⟨rfl, _, World.drewN_drewN _ _ _⟩ | exact ⟨rfl, _, Eq.trans (World.drewN_drewN _ _ _) (congrArg (World.drewN _) (Nat.add_assoc _ _ _))⟩); have p27 : 0 ≤ (x53_3 : Int) := of_decide_eq_true (by first | (with_reducible assumption) | assumption); have q27 : x53_3 < (a0.size : Int) := of_decide_eq_true (by first | (with_reducible assumption) | assumption); have hx27 := bt_at a0 x53_3; replace p27 := eq_true p27; replace q27 := eq_true q27; have p28 : 0 ≤ (x53_3 : Int) := of_decide_eq_true (by first | (with_reducible assumption) | assumption); have q28 : x53_3 < (a1.size : Int) := of_decide_eq_true (by first | (with_reducible assumption) | assumption); have hx28 := bt_at a1 x53_3; replace p28 := eq_true p28; replace q28 := eq_true q28) | (go_at_call 32; (with_reducible refine (bits_OnesCount8.calls (Go.bits .andNot .u8 t196 t195) t200 _ A29.out).mono ?_); rintro e w' ⟨rfl, ⟨nd, rfl⟩⟩; (try first | exact ⟨rfl, _, World.drewN_drewN _ _ _⟩ | exact ⟨rfl, _, Eq.trans (World.drewN_drewN _ _ _) (congrArg (World.drewN _) (Nat.add_assoc _ _ _))⟩))); try go_wp2_with (first | (go_at_call 33; (with_reducible refine (impl_places.calls (bt a1 x53_3) t195 _ ?side1 A22.out).mono ?_); (case side1 => first | exact LaidG_below HG.out (by repeat (first | (with_reducible first | exact HB.out | apply below_alloc | apply pw_below_drewN | apply below_drew1) | exact HB.out)) | (repeat (first | exact HG.out | (with_reducible refine LaidG_alloc ?_ _) | (with_reducible refine LaidG_drewN ?_ _) | (with_reducible refine LaidG_drew ?_)))); rintro e w' ⟨rfl, ⟨nd, rfl⟩⟩; (try first | exact ⟨rfl, _, World.drewN_drewN _ _ _⟩ | exact ⟨rfl, _, Eq.trans (World.drewN_drewN _ _ _) (congrArg (World.drewN _) (Nat.add_assoc _ _ _))⟩); have p24 : 0 ≤ (x53_3 : Int) := of_decide_eq_true (by first | (with_reducible assumption) | assumption); have q24 : x53_3 < (a0.size : Int) := of_decide_eq_true (by first | (with_reducible assumption) | assumption); have hx24 := bt_at a0 x53_3; replace p24 := eq_true p24; replace q24 := eq_true q24) | (go_at_call 33; (with_reducible refine (impl_places.calls (bt a0 x53_3) t196 _ ?side1 A25.out).mono ?_); (case side1 => first | exact LaidG_below HG.out (by repeat (first | (with_reducible first | exact HB.out | apply below_alloc | apply pw_below_drewN | apply below_drew1) | exact HB.out)) | (repeat (first | exact HG.out | (with_reducible refine LaidG_alloc ?_ _) | (with_reducible refine LaidG_drewN ?_ _) | (with_reducible refine LaidG_drew ?_)))); rintro e w' ⟨rfl, ⟨nd, rfl⟩⟩; (try first | exact ⟨rfl, _, World.drewN_drewN _ _ _⟩ | exact ⟨rfl, _, Eq.trans (World.drewN_drewN _ _ _) (congrArg (World.drewN _) (Nat.add_assoc _ _ _))⟩)) | (go_at_call 32; (with_reducible refine (bits_OnesCount8.calls (Go.bits .andNot .u8 t195 t196) t197 _ A26.out).mono ?_); rintro e w' ⟨rfl, ⟨nd, rfl⟩⟩; (try first | exact ⟨rfl, _, World.drewN_drewN _ _ _⟩ | exact ⟨rfl, _, Eq.trans (World.drewN_drewN _ _ _) (congrArg (World.drewN _) (Nat.add_assoc _ _ _))⟩); have p27 : 0 ≤ (x53_3 : Int) := of_decide_eq_true (by first | (with_reducible assumption) | assumption); have q27 : x53_3 < (a0.size : Int) := of_decide_eq_true (by first | (with_reducible assumption) | assumption); have hx27 := bt_at a0 x53_3; replace p27 := eq_true p27; replace q27 := eq_true q27; have p28 : 0 ≤ (x53_3 : Int) := of_decide_eq_true (by first | (with_reducible assumption) | assumption); have q28 : x53_3 < (a1.size : Int) := of_decide_eq_true (by first | (with_reducible assumption) | assumption); have hx28 := bt_at a1 x53_3; replace p28 := eq_true p28; replace q28 := eq_true q28) | (go_at_call 32; (with_reducible refine (bits_OnesCount8.calls (Go.bits .andNot .u8 t196 t195) t200 _ A29.out).mono ?_); rintro e w' ⟨rfl, ⟨nd, rfl⟩⟩; (try first | exact ⟨rfl, _, World.drewN_drewN _ _ _⟩ | exact ⟨rfl, _, Eq.trans (World.drewN_drewN _ _ _) (congrArg (World.drewN _) (Nat.add_assoc _ _ _))⟩))))
             go_roundg k3
             case measure => have := HJ4.out; have := HK2.out; have := HK3.out; omega
             case rel => exact ⟨(wrap64 (x13_3 + t197)), (wrap64 (x14_3 + t200)), (wrap64 (x53_3 + 1)), (by first | rfl | (simp; done) | (simp [*]; done) | (simp only [IntKind.wrap_i64, wrap64]; done)), (by first | rfl | (simp; done) | (simp [*]; done) | (simp only [IntKind.wrap_i64, wrap64]; done)), (by first | rfl | (simp; done) | (simp [*]; done) | (simp only [IntKind.wrap_i64, wrap64]; done)), H', ⟨by have := HJ4.out; have := HK2.out; have := HK3.out; omega⟩, ⟨by repeat (first | (with_reducible first | exact HB.out | apply below_alloc | apply pw_below_drewN | apply below_drew1) | exact HB.out)⟩⟩
            ·rw [if_neg c23] at H
             exact absurd H (by simp)
           ·rw [if_neg c20] at H
            exact absurd H (by simp)
          ·rw [if_neg c19] at H
           exact absurd H (by simp)
         ·rw [if_neg c18] at H
          have c18b0 : decide (x53_3 < (a0.size : Int)) = false := decide_eq_false c18
          clear c18
          by_cases c30 : x13_3 = x14_3
          ·rw [if_pos c30] at H
           have c30b0 : (x13_3 == x14_3) = true := beq_iff_eq.mpr c30
           have c30b1 : (x13_3 != x14_3) = false := bne_eq_false_iff_eq.mpr c30
           clear c30
           simp only [Option.some.injEq, Prod.mk.injEq] at H
           obtain ⟨rfl, rfl⟩ := H
           go_wp2
           repeat (go_quiet (fail); try go_wp2)
           go_ret2
           exact ⟨by first | rfl | (simp [errW_none, errW_some] <;> rfl) | (simp [*, errW_none, errW_some] <;> rfl), by repeat (first | (with_reducible first | exact HB.out | apply below_alloc | apply pw_below_drewN | apply below_drew1) | exact HB.out)⟩
          ·rw [if_neg c30] at H
           have c30b0 : (x13_3 == x14_3) = false := beq_eq_false_iff_ne.mpr c30
           have c30b1 : (x13_3 != x14_3) = true := bne_iff_ne.mpr c30
           simp only [Option.some.injEq, Prod.mk.injEq] at H
           obtain ⟨rfl, rfl⟩ := H
           go_wp2
           repeat (go_quiet (fail); try go_wp2)
           go_ret2
           exact ⟨by first | rfl | (simp [errW_none, errW_some] <;> rfl) | (simp [*, errW_none, errW_some] <;> rfl), by repeat (first | (with_reducible first | exact HB.out | apply below_alloc | apply pw_below_drewN | apply below_drew1) | exact HB.out)⟩

/-! ### laws_FnExactMovesToEquation: function 7 -/
def laws_FnExactMovesToEquation.f (k : Nat) (a0 : ByteArray) (a1 : ByteArray) : Option (Bool) := if (wrap64 ((a0.size : Int) + (a1.size : Int))) > 1000000 then (some true) else ((spec_MovesToEquation.f k a0 a1).bind fun bt201 => ((impl_MovesToEquation.f k a0 a1).bind fun bt203 => (if bt203.1 = bt201.1 then (if (bt203.2 != bt201.2) = true then (some false) else (some true)) else (some false))))
theorem laws_FnExactMovesToEquation.mono : ∀ a0 a1 k, LeO (laws_FnExactMovesToEquation.f k a0 a1) (laws_FnExactMovesToEquation.f (k + 1) a0 a1) := by
 intro a0 a1 k
 unfold laws_FnExactMovesToEquation.f
 repeat' first
   | (with_reducible exact impl_MovesToEquation.mono _ _ _)
   | (with_reducible exact spec_MovesToEquation.mono _ _ _)
   | (with_reducible exact LeO.refl _)
   | (with_reducible exact LeO.none _)
   | (with_reducible refine LeO.ite ?_ ?_)
   | (with_reducible refine LeO.bind ?_ (fun _ => ?_))
   | exact impl_MovesToEquation.mono _ _ _
   | exact spec_MovesToEquation.mono _ _ _
   | exact LeO.none _
   | refine LeO.ite ?_ ?_
   | refine LeO.bind ?_ (fun _ => ?_)
set_option maxHeartbeats 8000000 in
set_option maxRecDepth 100000 in
theorem laws_FnExactMovesToEquation.calls (k : Nat) (a0 : ByteArray) (a1 : ByteArray) (r : Bool) (w : World) (hG : LaidG w) (hr_ : r = true) (h : laws_FnExactMovesToEquation.f k a0 a1 = some r) :
  Calls Tryd.prog 7 #[.string a0, .string a1] w fun e w' => e = .returned (.bool r) ∧ Below w.heap.size w w' := by
 have HG := Aside0.mk hG
 clear hG
 have HR_ := Aside0.mk hr_
 clear hr_
 have HB := Aside0.mk (Below.refl w.heap.size w)
 have H : (if (wrap64 ((a0.size : Int) + (a1.size : Int))) > 1000000 then (some true) else ((spec_MovesToEquation.f k a0 a1).bind fun bt201 => ((impl_MovesToEquation.f k a0 a1).bind fun bt203 => (if bt203.1 = bt201.1 then (if (bt203.2 != bt201.2) = true then (some false) else (some true)) else (some false))))) = some r := h
 clear h
 by_cases c3 : (wrap64 ((a0.size : Int) + (a1.size : Int))) > 1000000
 ·rw [if_pos c3] at H
  have c3b0 : decide (1000000 < (wrap64 ((a0.size : Int) + (a1.size : Int)))) = true := decide_eq_true c3
  clear c3
  obtain rfl := Option.some.inj H
  go_enter Tryd.func7, Tryd.ntmps7
  go_wp2
  go_ret
  exact ⟨by first | rfl | (simp [errW_none, errW_some] <;> rfl) | (simp [*, errW_none, errW_some] <;> rfl), by repeat (first | (with_reducible first | exact HB.out | apply below_alloc | apply pw_below_drewN | apply below_drew1) | exact HB.out)⟩
 ·rw [if_neg c3] at H
  have c3b0 : decide (1000000 < (wrap64 ((a0.size : Int) + (a1.size : Int)))) = false := decide_eq_false c3
  clear c3
  replace H := Option.bind_eq_some_iff.mp H
  obtain ⟨⟨t201, t202⟩, A40, H⟩ := H
  replace H : ((impl_MovesToEquation.f k a0 a1).bind fun bt203 => (if bt203.1 = t201 then (if (bt203.2 != t202) = true then (some false) else (some true)) else (some false))) = some r := H
  have A4 := Aside0.mk A40
  clear A40
  replace H := Option.bind_eq_some_iff.mp H
  obtain ⟨⟨t203, t204⟩, A50, H⟩ := H
  replace H : (if t203 = t201 then (if (t204 != t202) = true then (some false) else (some true)) else (some false)) = some r := H
  have A5 := Aside0.mk A50
  clear A50
  by_cases c6 : t203 = t201
  ·rw [if_pos c6] at H
   have c6b0 : (t203 == t201) = true := beq_iff_eq.mpr c6
   have c6b1 : (t203 != t201) = false := bne_eq_false_iff_eq.mpr c6
   clear c6
   by_cases c7 : (t204 != t202) = true
   ·rw [if_pos c7] at H
    have c7b0 : (t204 != t202) = true := c7
    (try (have c7b1 : decide (t204 = t202) = false := by simpa using c7))
    (try (have c7b2 : (t204 == t202) = false := by simpa using c7))
    (try (have c7b3 : ¬ (t204 = t202) := by simpa using c7))
    clear c7
    exact absurd ((Option.some.inj H).trans HR_.out) Bool.false_ne_true
   ·rw [if_neg c7] at H
    have c7b0 : (t204 != t202) = false := by simpa using c7
    (try (have c7b1 : decide (t204 = t202) = true := by simpa using c7))
    (try (have c7b2 : (t204 == t202) = true := by simpa using c7))
    clear c7
    obtain rfl := Option.some.inj H
    go_enter Tryd.func7, Tryd.ntmps7
    go_wp2_with (first | ((with_reducible refine gate_callee (f := 18) rfl ?_); refine goesL_ (some 18) rfl rfl Tryd.func18 (by kernel_rfl) rfl #[.string a0, .string a1] rfl (by (try simp only [List.map_toArray, List.map_cons, List.map_nil]); first | done | rfl | (simp only [List.length_drop, List.length_take]; rfl)) ?_; (with_reducible refine (spec_MovesToEquation.calls k a0 a1 t201 t202 _ A4.out).mono ?_); rintro e w8 ⟨rfl, hb⟩; refine ⟨_, rfl, ?_⟩; have n0_ := Aside0.mk (below_step (by repeat (first | (with_reducible first | exact HB.out | apply below_alloc | apply pw_below_drewN | apply below_drew1) | exact HB.out)) hb); clear HB; have HB := n0_; clear n0_; (try clear hb); (try clear hb2); (try clear hk); (try clear hi)) | ((with_reducible refine gate_callee (f := 19) rfl ?_); refine goesL_ (some 24) rfl rfl Tryd.func19 (by kernel_rfl) rfl #[.string a0, .string a1] rfl (by (try simp only [List.map_toArray, List.map_cons, List.map_nil]); first | done | rfl | (simp only [List.length_drop, List.length_take]; rfl)) ?_; (with_reducible refine (impl_MovesToEquation.calls k a0 a1 t203 t204 _ ?side1 A5.out).mono ?_); (case side1 => first | exact LaidG_below HG.out (by repeat (first | (with_reducible first | exact HB.out | apply below_alloc | apply pw_below_drewN | apply below_drew1) | exact HB.out)) | (repeat (first | exact HG.out | (with_reducible refine LaidG_alloc ?_ _) | (with_reducible refine LaidG_drewN ?_ _) | (with_reducible refine LaidG_drew ?_)))); rintro e w9 ⟨rfl, hb⟩; refine ⟨_, rfl, ?_⟩; have n0_ := Aside0.mk (below_step (by repeat (first | (with_reducible first | exact HB.out | apply below_alloc | apply pw_below_drewN | apply below_drew1) | exact HB.out)) hb); clear HB; have HB := n0_; clear n0_; (try clear hb); (try clear hb2); (try clear hk); (try clear hi)))
    go_ret
    exact ⟨by first | rfl | (simp [errW_none, errW_some] <;> rfl) | (simp [*, errW_none, errW_some] <;> rfl), by repeat (first | (with_reducible first | exact HB.out | apply below_alloc | apply pw_below_drewN | apply below_drew1) | exact HB.out)⟩
  ·rw [if_neg c6] at H
   have c6b0 : (t203 == t201) = false := beq_eq_false_iff_ne.mpr c6
   have c6b1 : (t203 != t201) = true := bne_iff_ne.mpr c6
   exact absurd ((Option.some.inj H).trans HR_.out) Bool.false_ne_true

/-- THE ONE PURE STATEMENT of laws_FnExactMovesToEquation. -/
def laws_FnExactMovesToEquation.Pure : Prop := ∀ (a0 : ByteArray) (a1 : ByteArray), a0.size ≤ 140737488351232 → a1.size ≤ 140737488351232 → ∃ k, laws_FnExactMovesToEquation.f k a0 a1 = some true

end Go.Proofs.YtfnnilmkmlmleaaDoor.Q
