-- written by a program of this session, pm.py, for this claim
-- half the indentation
import Derived.Test.YtmlkihaoeopobaaDoorQFnExactFigureOfStrokex0
import Derived.Test.YtmlkihaoeopobaaDoorQFnExactFigureOfStrokex7
namespace Go.Proofs.YtmlkihaoeopobaaDoor.Q
open Go.RowKit Go.Proofs.YtmlkihaoeopobaaDoorW.PrintWords Go.Proofs.YtmlkihaoeopobaaDoorW.PrintLast Go.Proofs.YtmlkihaoeopobaaDoorW.PrintMore
attribute [local go_sem] max2_int min2_int max_two min_two max_three min_three max_four min_four   -- for this text's walks alone
set_option linter.unusedVariables false
set_option linter.unusedSimpArgs false

/-! ### impl_grid_upright: function 80 -/
def impl_grid_upright.f (a0_0 : Int) (a0_1 : Int) (a1 : Int) (a2 : Int) : Option (Int) := (impl_grid_levels.f a0_0 a0_1).bind fun t391 => (if 0 ≤ (wrap64 ((wrap64 (t391 + (wrap64 (a2 * (wrap64 (a0_0 + 1)))))) + a1)) then (some (shl .u64 1 (wrap64 ((wrap64 (t391 + (wrap64 (a2 * (wrap64 (a0_0 + 1)))))) + a1)))) else (none))
def impl_grid_upright.T1 : Bool × List (List Nat × List Nat) := (true, [([], []), ([0], [0]), ([], []), ([], []), ([3], [3]), ([4], [4]), ([2, 5], [2, 5]), ([1, 6], [1, 6]), ([], []), ([7, 8], [7, 8]), ([9], [9]), ([10, 1, 0, 1, 2, 3, 4, 5, 6, 7, 8, 9, 10], [10])])
def impl_grid_upright.B1 : List Nat := [0, 1, 0, 0, 8, 24, 60, 127, 0, 511, 1023, 2047]
theorem impl_grid_upright.tab1 : rtab .any (opsOf Tryd.f80 1) = impl_grid_upright.T1 := by kernel_rfl
theorem impl_grid_upright.bits1 : waitsOk impl_grid_upright.T1.2 impl_grid_upright.B1 = true := by kernel_rfl
set_option maxHeartbeats 8000000 in
set_option maxRecDepth 100000 in
theorem impl_grid_upright.calls (a0_0 : Int) (a0_1 : Int) (a1 : Int) (a2 : Int) (r : Int) (w : World) (h : impl_grid_upright.f a0_0 a0_1 a1 a2 = some r) :
  Calls Tryd.prog 80 #[.agg #[.int .i64 a0_0, .int .i64 a0_1], .int .i64 a1, .int .i64 a2] w fun e w' => e = .returned (.int .u64 r) ∧ Below w.heap.size w w' := by
 have hu48 := Tryd.underlying48
 have HB := Aside0.mk (Below.refl w.heap.size w)
 have H : ((impl_grid_levels.f a0_0 a0_1).bind fun t391 => (if 0 ≤ (wrap64 ((wrap64 (t391 + (wrap64 (a2 * (wrap64 (a0_0 + 1)))))) + a1)) then (some (shl .u64 1 (wrap64 ((wrap64 (t391 + (wrap64 (a2 * (wrap64 (a0_0 + 1)))))) + a1)))) else (none))) = some r := h
 clear h
 replace H := Option.bind_eq_some_iff.mp H
 obtain ⟨t391, A40, H⟩ := H
 replace H : (if 0 ≤ (wrap64 ((wrap64 (t391 + (wrap64 (a2 * (wrap64 (a0_0 + 1)))))) + a1)) then (some (shl .u64 1 (wrap64 ((wrap64 (t391 + (wrap64 (a2 * (wrap64 (a0_0 + 1)))))) + a1)))) else (none)) = some r := H
 have A4 := Aside0.mk A40
 clear A40
 obtain ⟨ji5, hji5⟩ : ∃ j_ : Int, (wrap64 ((wrap64 (t391 + (wrap64 (a2 * (wrap64 (a0_0 + 1)))))) + a1)) = j_ := ⟨_, rfl⟩
 replace H : (if 0 ≤ (ji5) then (some (shl .u64 1 (ji5))) else (none)) = some r := by first | (rw [hji5] at H; exact H) | (simp only [hji5] at H ⊢; exact H)
 (try rw [hji5] at A4)
 have hji5w : (IntKind.i64.wrap ((wrap64 (t391 + (wrap64 (a2 * (wrap64 (a0_0 + 1)))))) + a1)) = ji5 := (i64_w _).trans hji5
 by_cases c6 : 0 ≤ (ji5)
 ·rw [if_pos c6] at H
  have c6b0 := eq_true c6
  have c6b1 : decide (0 ≤ (ji5)) = true := decide_eq_true c6
  clear c6
  obtain ⟨ji7, hji7⟩ : ∃ j_ : Int, (shl .u64 1 (ji5)) = j_ := ⟨_, rfl⟩
  replace H : (some ji7) = some r := by first | (rw [hji7] at H; exact H) | (simp only [hji7] at H ⊢; exact H)
  (try rw [hji7] at A4)
  have hji7_ : (IntKind.u64.wrap (1 * 2 ^ min (ji5).toNat 64)) = ji7 := hji7
  have hji7z : (ji5) ≤ 64 → (IntKind.u64.wrap (1 * 2 ^ (ji5).toNat)) = ji7 := shl_small hji7
  have hji7u : (IntKind.u64.wrap (2 ^ min (ji5).toNat 64)) = ji7 := by have h_ := hji7_; rw [Int.one_mul] at h_; exact h_
  have hji7v : (ji5) ≤ 64 → (IntKind.u64.wrap (2 ^ (ji5).toNat)) = ji7 := fun hle_ => by have h_ := hji7z hle_; rw [Int.one_mul] at h_; exact h_
  obtain rfl := Option.some.inj H
  go_enter Tryd.func80, Tryd.ntmps80
  try go_wp2_with (first | ((with_reducible refine gate_dst (N := 3) rfl ?_); refine box_event ?hg (N := 3) ?hd (cs := #[.int .i64 a0_0, .int .i64 a0_1]) (t := 48) ?hr ?_; (case hd => rfl); (case hg => rfl); (case hr => first | (go_simp; done) | (go_simp; rfl)); intro gb390 hg w8 hbox hb; have n0_ := Aside0.mk (below_step (by repeat (first | (with_reducible first | exact HB.out | apply zA | apply zN | apply zD) | exact HB.out)) hb); have n1_ := Aside0.mk (hbox); have n2_ := Aside0.mk ((by rw [hg]; exact (below_size (by repeat (first | (with_reducible first | exact HB.out | apply zA | apply zN | apply zD) | exact HB.out))) : w.heap.size ≤ gb390)); have n3_ := Aside0.mk ((by rw [hg]; exact (below_size (by repeat (first | (with_reducible first | exact HB.out | apply zA | apply zN | apply zD) | exact HB.out))) : w.heap.size ≤ gb390)); clear HB; have HB := n0_; have BK390 := n1_; have GW390 := n2_; have GE390 := n3_; clear n0_ n1_ n2_ n3_; clear hb hbox hg))
  have n0_ := Aside0.mk (zbD BK390.out)
  have n1_ := Aside0.mk (zD HB.out)
  clear BK390
  clear HB
  have BK390 := n0_
  have HB := n1_
  clear n0_ n1_
  refine start_ (n := 12) (S := fun w' => w'.cell? ⟨gb390, 0, none⟩ = some (.int .i64 a0_0) ∧ w'.cell? ⟨gb390, 1, none⟩ = some (.int .i64 a0_1)) (ds := []) #[false, false, false, false, false, false, false, false, false, false, false, false] (by kernel_rfl) rfl rfl ⟨(zbC BK390.out 0).trans rfl, (zbC BK390.out 1).trans rfl⟩ (fun hHeld => ?_); refine with_tabW impl_grid_upright.tab1 impl_grid_upright.bits1 (fun HT_ HW_ => ?_)
  generalize w8.drew = w9 at BK390 HB hHeld ⊢
  refine pure_ (i := 2) (N := some 9) (v := ?_) (a' := ?_) #[false, false, true, false, false, false, false, false, false, false, false, false] rfl rfl (any_of HT_.out (by kernel_rfl)) (fun _ _ _ h => h) (Or.inl ⟨by rfl, ?_⟩) ?_ ?_
  rotate_left
  ·intro w'
   go_simp
   with_reducible rfl
  rotate_left
  ·simp only [Act.put, List.setIfInBounds_toArray, List.set_cons_zero, List.set_cons_succ, i64_w, i32_w]
   rfl
  refine pure_ (i := 3) (N := some 10) (v := ?_) (a' := ?_) #[false, false, true, true, false, false, false, false, false, false, false, false] rfl rfl (any_of HT_.out (by kernel_rfl)) (fun _ _ _ h => h) (Or.inl ⟨by rfl, ?_⟩) ?_ ?_
  rotate_left
  ·intro w'
   go_simp
   with_reducible rfl
  rotate_left
  ·simp only [Act.put, List.setIfInBounds_toArray, List.set_cons_zero, List.set_cons_succ, i64_w, i32_w]
   rfl
  refine pure_ (i := 8) (N := some 15) (v := ?_) (a' := ?_) #[false, false, true, true, false, false, false, false, true, false, false, false] rfl rfl (any_of HT_.out (by kernel_rfl)) (fun _ _ _ h => h) (Or.inl ⟨by rfl, ?_⟩) ?_ ?_
  rotate_left
  ·intro w'
   go_simp
   with_reducible rfl
  rotate_left
  ·simp only [Act.put, List.setIfInBounds_toArray, List.set_cons_zero, List.set_cons_succ, i64_w, i32_w]
   rfl
  refine take_ (i := 0) (N := some 7) (v := ?_) (a' := ?_) #[true, false, true, true, false, false, false, false, true, false, false, false] rfl rfl (take_ofW HT_.out HW_.out (by kernel_rfl)) (fun _ _ _ h => h) (Or.inl ⟨by rfl, ?_⟩) hHeld ?_ ?_
  rotate_left
  ·rintro w' ⟨s0, s1⟩
   go_simp
   with_reducible rfl
  rotate_left
  ·simp only [Act.put, List.setIfInBounds_toArray, List.set_cons_zero, List.set_cons_succ, i64_w, i32_w]
   rfl
  refine take_ (i := 4) (N := some 11) (v := ?_) (a' := ?_) #[true, false, true, true, true, false, false, false, true, false, false, false] rfl rfl (take_ofW HT_.out HW_.out (by kernel_rfl)) (fun _ _ _ h => h) (Or.inl ⟨by rfl, ?_⟩) hHeld ?_ ?_
  rotate_left
  ·rintro w' ⟨s0, s1⟩
   go_simp
   with_reducible rfl
  rotate_left
  ·simp only [Act.put, List.setIfInBounds_toArray, List.set_cons_zero, List.set_cons_succ, i64_w, i32_w]
   rfl
  refine pure_ (i := 5) (N := some 12) (v := ?_) (a' := ?_) #[true, false, true, true, true, true, false, false, true, false, false, false] rfl rfl (any_of HT_.out (by kernel_rfl)) (fun _ _ _ h => h) (Or.inl ⟨by rfl, ?_⟩) ?_ ?_
  rotate_left
  ·intro w'
   go_simp
   with_reducible rfl
  rotate_left
  ·simp only [Act.put, List.setIfInBounds_toArray, List.set_cons_zero, List.set_cons_succ, i64_w, i32_w]
   rfl
  refine pure_ (i := 6) (N := some 13) (v := ?_) (a' := ?_) #[true, false, true, true, true, true, true, false, true, false, false, false] rfl rfl (any_of HT_.out (by kernel_rfl)) (fun _ _ _ h => h) (Or.inl ⟨by rfl, ?_⟩) ?_ ?_
  rotate_left
  ·intro w'
   go_simp
   with_reducible rfl
  rotate_left
  ·simp only [Act.put, List.setIfInBounds_toArray, List.set_cons_zero, List.set_cons_succ, i64_w, i32_w]
   rfl
  refine one_ (i := 1) (N := some 8) #[true, true, true, true, true, true, true, false, true, false, false, false] rfl rfl (one_of HT_.out (by kernel_rfl)) (by decide) (fun K hK => ?_)
  refine goes_ Tryd.func65 (by kernel_rfl) rfl #[.agg #[.int .i64 a0_0, .int .i64 a0_1]] (by rfl) rfl rfl (by (try simp only [List.map_toArray, List.map_cons, List.map_nil]); first | done | rfl | (simp only [List.length_drop, List.length_take]; rfl)) ?_
  with_reducible refine (impl_grid_levels.calls a0_0 a0_1 t391 _ A4.out).mono ?_
  rintro e w10 ⟨rfl, hb⟩
  refine ⟨_, rfl, ?_⟩
  have n0_ := Aside0.mk (blk_below (g := gb390) (o := .cells #[.int .i64 a0_0, .int .i64 a0_1] 48 (0, 0)) (by (with_reducible repeat (first | refine zbN ?_ _ | refine zbD ?_ | refine zbA ?_ _)); exact BK390.out) hb)
  have n1_ := Aside0.mk (below_step (by repeat (first | (with_reducible first | exact HB.out | apply zA | apply zN | apply zD | refine zS ?_ GE390.out) | exact HB.out)) hb)
  clear BK390
  clear HB
  have BK390 := n0_
  have HB := n1_
  clear n0_ n1_
  (try clear hb)
  (try clear hb2)
  (try clear hk)
  (try clear hi)
  refine hK.out _ _ ⟨(zbC BK390.out 0).trans rfl, (zbC BK390.out 1).trans rfl⟩ (fun hHeld => ?_)
  clear hK K
  refine norm_ (a' := ?_) ?_ ?_
  rotate_left
  ·show Act.put _ (some 8) _ = _
   simp only [Act.put, List.setIfInBounds_toArray, List.set_cons_zero, List.set_cons_succ, i64_w, i32_w]
   rfl
  refine pure_ (i := 7) (N := some 14) (v := ?_) (a' := ?_) #[true, true, true, true, true, true, true, true, true, false, false, false] rfl rfl (any_of HT_.out (by kernel_rfl)) (fun _ _ _ h => h) (Or.inl ⟨by rfl, ?_⟩) ?_ ?_
  rotate_left
  ·intro w'
   go_simp
   with_reducible rfl
  rotate_left
  ·simp only [Act.put, List.setIfInBounds_toArray, List.set_cons_zero, List.set_cons_succ, i64_w, i32_w]
   rfl
  refine pure_ (i := 9) (N := some 16) (v := ?_) (a' := ?_) #[true, true, true, true, true, true, true, true, true, true, false, false] rfl rfl (any_of HT_.out (by kernel_rfl)) (fun _ _ _ h => h) (Or.inl ⟨by rfl, ?_⟩) ?_ ?_
  rotate_left
  ·intro w'
   go_simp
   with_reducible rfl
  rotate_left
  ·simp only [Act.put, List.setIfInBounds_toArray, List.set_cons_zero, List.set_cons_succ, i64_w, i32_w]
   rfl
  refine pure_ (i := 10) (N := some 17) (v := ?_) (a' := ?_) #[true, true, true, true, true, true, true, true, true, true, true, false] rfl rfl (any_of HT_.out (by kernel_rfl)) (fun _ _ _ h => h) (Or.inl ⟨by rfl, ?_⟩) ?_ ?_
  rotate_left
  ·intro w'
   go_simp
   with_reducible rfl
  rotate_left
  ·simp only [Act.put, List.setIfInBounds_toArray, List.set_cons_zero, List.set_cons_succ, i64_w, i32_w]
   rfl
  refine pure_ (i := 11) (N := some 6) (v := ?_) (a' := ?_) #[true, true, true, true, true, true, true, true, true, true, true, true] rfl rfl (any_of HT_.out (by kernel_rfl)) (fun _ _ _ h => h) (Or.inl ⟨by rfl, ?_⟩) ?_ ?_
  rotate_left
  ·intro w'
   go_simp
   with_reducible rfl
  rotate_left
  ·simp only [Act.put, List.setIfInBounds_toArray, List.set_cons_zero, List.set_cons_succ, i64_w, i32_w]
   rfl
  refine done_ (done_of HT_.out (by kernel_rfl)) ?_
  try go_wp2
  go_ret
  exact ⟨by first | rfl | (simp [errW_none, errW_some] <;> rfl) | (simp only [← hji5, ← hji7]; first | rfl | (simp [errW_none, errW_some] <;> rfl)) | (simp [*, errW_none, errW_some] <;> rfl), by repeat (first | (with_reducible first | exact HB.out | apply zA | apply zN | apply zD | refine zS ?_ GE390.out) | exact HB.out)⟩
 ·rw [if_neg c6] at H
  exact absurd H (by simp)

/-! ### impl_Corner_next: function 86 -/
def impl_Corner_next.f (a0_0 : Int) (a0_1 : Int) (a1 : Int) : Option (Int × Int) := if a1 = 110 then (some (a0_0, wrap64 (a0_1 - 1))) else (if a1 = 101 then (some (wrap64 (a0_0 + 1), a0_1)) else (if a1 = 115 then (some (a0_0, wrap64 (a0_1 + 1))) else (some (wrap64 (a0_0 - 1), a0_1))))
set_option maxHeartbeats 8000000 in
set_option maxRecDepth 100000 in
theorem impl_Corner_next.calls (a0_0 : Int) (a0_1 : Int) (a1 : Int) (r1 : Int) (r2 : Int) (w : World) (h : impl_Corner_next.f a0_0 a0_1 a1 = some (r1, r2)) :
  Calls Tryd.prog 86 #[.agg #[.int .i64 a0_0, .int .i64 a0_1], .int .u8 a1] w fun e w' => e = .returned (.agg #[.int .i64 r1, .int .i64 r2]) ∧ Below w.heap.size w w' := by
 have hu43 := Tryd.underlying43
 have HB := Aside0.mk (Below.refl w.heap.size w)
 have H : (if a1 = 110 then (some (a0_0, wrap64 (a0_1 - 1))) else (if a1 = 101 then (some (wrap64 (a0_0 + 1), a0_1)) else (if a1 = 115 then (some (a0_0, wrap64 (a0_1 + 1))) else (some (wrap64 (a0_0 - 1), a0_1))))) = some (r1, r2) := h
 clear h
 by_cases c3 : a1 = 110
 ·rw [if_pos c3] at H
  have c3b0 : (a1 == 110) = true := beq_iff_eq.mpr c3
  have c3b1 : (a1 != 110) = false := bne_eq_false_iff_eq.mpr c3
  clear c3
  simp only [Option.some.injEq, Prod.mk.injEq] at H
  obtain ⟨rfl, rfl⟩ := H
  go_enter Tryd.func86, Tryd.ntmps86
  go_wp2_with (first | ((with_reducible refine gate_dst (N := 2) rfl ?_); refine box_event ?hg (N := 2) ?hd (cs := #[.int .i64 a0_0, .int .i64 a0_1]) (t := 43) ?hr ?_; (case hd => rfl); (case hg => rfl); (case hr => first | (go_simp; done) | (go_simp; rfl)); intro gb392 hg w4 hbox hb; have n0_ := Aside0.mk (below_step (by repeat (first | (with_reducible first | exact HB.out | apply zA | apply zN | apply zD) | exact HB.out)) hb); have n1_ := Aside0.mk (hbox); have n2_ := Aside0.mk ((by rw [hg]; exact (below_size (by repeat (first | (with_reducible first | exact HB.out | apply zA | apply zN | apply zD) | exact HB.out))) : w.heap.size ≤ gb392)); have n3_ := Aside0.mk ((by rw [hg]; exact (below_size (by repeat (first | (with_reducible first | exact HB.out | apply zA | apply zN | apply zD) | exact HB.out))) : w.heap.size ≤ gb392)); clear HB; have HB := n0_; have BK392 := n1_; have GW392 := n2_; have GE392 := n3_; clear n0_ n1_ n2_ n3_; clear hb hbox hg) | ((with_reducible refine gate_dst (N := 4) rfl ?_); refine box_event ?hg (N := 4) ?hd (cs := #[.int .i64 0, .int .i64 0]) (t := 43) ?hr ?_; (case hd => rfl); (case hg => rfl); (case hr => first | (go_simp; done) | (go_simp; rfl)); intro gb393 hg w5 hbox hb; have n0_ := Aside0.mk (blk_below (g := gb392) (o := .cells #[.int .i64 a0_0, .int .i64 a0_1] 43 (0, 0)) (by (with_reducible repeat (first | refine zbN ?_ _ | refine zbD ?_ | refine zbA ?_ _)); exact BK392.out) hb); have n1_ := Aside0.mk (below_step (by repeat (first | (with_reducible first | exact HB.out | apply zA | apply zN | apply zD | refine zS ?_ GE392.out) | exact HB.out)) hb); have n2_ := Aside0.mk (hbox); have n3_ := Aside0.mk ((by rw [hg]; exact (below_size (by repeat (first | (with_reducible first | exact HB.out | apply zA | apply zN | apply zD | refine zS ?_ GE392.out) | exact HB.out))) : w.heap.size ≤ gb393)); have n4_ := Aside0.mk ((by rw [hg]; exact (below_size (by repeat (first | (with_reducible first | exact HB.out | apply zA | apply zN | apply zD | refine zS ?_ GE392.out) | exact HB.out))) : w.heap.size ≤ gb393)); have n5_ := Aside0.mk ((by rw [hg]; exact Nat.ne_of_lt (blk_lt (g := gb392) (o := .cells #[.int .i64 a0_0, .int .i64 a0_1] 43 (0, 0)) (by (with_reducible repeat (first | refine zbN ?_ _ | refine zbD ?_ | refine zbA ?_ _)); exact BK392.out)) : gb392 ≠ gb393)); have n6_ := Aside0.mk ((by rw [hg]; exact Nat.ne_of_gt (blk_lt (g := gb392) (o := .cells #[.int .i64 a0_0, .int .i64 a0_1] 43 (0, 0)) (by (with_reducible repeat (first | refine zbN ?_ _ | refine zbD ?_ | refine zbA ?_ _)); exact BK392.out)) : gb393 ≠ gb392)); clear BK392; clear HB; have BK392 := n0_; have HB := n1_; have BK393 := n2_; have GW393 := n3_; have GE393 := n4_; have NB392_393 := n5_; have NB393_392 := n6_; clear n0_ n1_ n2_ n3_ n4_ n5_ n6_; clear hb hbox hg; have hnb6 := NB392_393.out; have hnc6 := NB393_392.out; have hcz7_0 : w5.cell? ⟨gb392, 0, none⟩ = some (.int .i64 a0_0) := (zbC BK392.out 0).trans rfl; have hcz7_1 : w5.cell? ⟨gb392, 1, none⟩ = some (.int .i64 a0_1) := (zbC BK392.out 1).trans rfl; have hfz7_0 := zbF BK392.out 0; have hfz7_1 := zbF BK392.out 1; have hcz8_0 : w5.cell? ⟨gb393, 0, none⟩ = some (.int .i64 0) := (zbC BK393.out 0).trans rfl; have hcz8_1 : w5.cell? ⟨gb393, 1, none⟩ = some (.int .i64 0) := (zbC BK393.out 1).trans rfl; have hfz8_0 := zbF BK393.out 0; have hfz8_1 := zbF BK393.out 1))
  refine bodyPost_ret (results_cell_row rfl _ _ gb393 43 #[.int .i64 a0_0, .int .i64 (wrap64 (a0_1 - 1))] (0, 0) _ rfl (by (with_reducible repeat (first | refine zbN ?_ _ | refine zbD ?_ | refine zbA ?_ _)); refine blk_put (cs := #[.int .i64 a0_0, .int .i64 0]) ?_ 1 _ rfl; (with_reducible repeat (first | refine zbN ?_ _ | refine zbD ?_ | refine zbA ?_ _)); refine blk_put (cs := #[.int .i64 0, .int .i64 0]) ?_ 0 _ rfl; (with_reducible repeat (first | refine zbN ?_ _ | refine zbD ?_ | refine zbA ?_ _)); exact BK393.out) Tryd.underlying43 rfl (by kernel_rfl)) rfl ?_
  exact ⟨by first | rfl | (simp [errW_none, errW_some] <;> rfl) | (simp [*, errW_none, errW_some] <;> rfl), by repeat (first | (with_reducible first | exact HB.out | apply zA | apply zN | apply zD | refine zS ?_ GE392.out | refine zS ?_ GE393.out) | exact HB.out)⟩
 ·rw [if_neg c3] at H
  have c3b0 : (a1 == 110) = false := beq_eq_false_iff_ne.mpr c3
  have c3b1 : (a1 != 110) = true := bne_iff_ne.mpr c3
  by_cases c9 : a1 = 101
  ·rw [if_pos c9] at H
   have c9b0 : (a1 == 101) = true := beq_iff_eq.mpr c9
   have c9b1 : (a1 != 101) = false := bne_eq_false_iff_eq.mpr c9
   clear c9
   simp only [Option.some.injEq, Prod.mk.injEq] at H
   obtain ⟨rfl, rfl⟩ := H
   go_enter Tryd.func86, Tryd.ntmps86
   go_wp2_with (first | ((with_reducible refine gate_dst (N := 2) rfl ?_); refine box_event ?hg (N := 2) ?hd (cs := #[.int .i64 a0_0, .int .i64 a0_1]) (t := 43) ?hr ?_; (case hd => rfl); (case hg => rfl); (case hr => first | (go_simp; done) | (go_simp; rfl)); intro gb392 hg w10 hbox hb; have n0_ := Aside0.mk (below_step (by repeat (first | (with_reducible first | exact HB.out | apply zA | apply zN | apply zD) | exact HB.out)) hb); have n1_ := Aside0.mk (hbox); have n2_ := Aside0.mk ((by rw [hg]; exact (below_size (by repeat (first | (with_reducible first | exact HB.out | apply zA | apply zN | apply zD) | exact HB.out))) : w.heap.size ≤ gb392)); have n3_ := Aside0.mk ((by rw [hg]; exact (below_size (by repeat (first | (with_reducible first | exact HB.out | apply zA | apply zN | apply zD) | exact HB.out))) : w.heap.size ≤ gb392)); clear HB; have HB := n0_; have BK392 := n1_; have GW392 := n2_; have GE392 := n3_; clear n0_ n1_ n2_ n3_; clear hb hbox hg) | ((with_reducible refine gate_dst (N := 4) rfl ?_); refine box_event ?hg (N := 4) ?hd (cs := #[.int .i64 0, .int .i64 0]) (t := 43) ?hr ?_; (case hd => rfl); (case hg => rfl); (case hr => first | (go_simp; done) | (go_simp; rfl)); intro gb393 hg w11 hbox hb; have n0_ := Aside0.mk (blk_below (g := gb392) (o := .cells #[.int .i64 a0_0, .int .i64 a0_1] 43 (0, 0)) (by (with_reducible repeat (first | refine zbN ?_ _ | refine zbD ?_ | refine zbA ?_ _)); exact BK392.out) hb); have n1_ := Aside0.mk (below_step (by repeat (first | (with_reducible first | exact HB.out | apply zA | apply zN | apply zD | refine zS ?_ GE392.out) | exact HB.out)) hb); have n2_ := Aside0.mk (hbox); have n3_ := Aside0.mk ((by rw [hg]; exact (below_size (by repeat (first | (with_reducible first | exact HB.out | apply zA | apply zN | apply zD | refine zS ?_ GE392.out) | exact HB.out))) : w.heap.size ≤ gb393)); have n4_ := Aside0.mk ((by rw [hg]; exact (below_size (by repeat (first | (with_reducible first | exact HB.out | apply zA | apply zN | apply zD | refine zS ?_ GE392.out) | exact HB.out))) : w.heap.size ≤ gb393)); have n5_ := Aside0.mk ((by rw [hg]; exact Nat.ne_of_lt (blk_lt (g := gb392) (o := .cells #[.int .i64 a0_0, .int .i64 a0_1] 43 (0, 0)) (by (with_reducible repeat (first | refine zbN ?_ _ | refine zbD ?_ | refine zbA ?_ _)); exact BK392.out)) : gb392 ≠ gb393)); have n6_ := Aside0.mk ((by rw [hg]; exact Nat.ne_of_gt (blk_lt (g := gb392) (o := .cells #[.int .i64 a0_0, .int .i64 a0_1] 43 (0, 0)) (by (with_reducible repeat (first | refine zbN ?_ _ | refine zbD ?_ | refine zbA ?_ _)); exact BK392.out)) : gb393 ≠ gb392)); clear BK392; clear HB; have BK392 := n0_; have HB := n1_; have BK393 := n2_; have GW393 := n3_; have GE393 := n4_; have NB392_393 := n5_; have NB393_392 := n6_; clear n0_ n1_ n2_ n3_ n4_ n5_ n6_; clear hb hbox hg; have hnb12 := NB392_393.out; have hnc12 := NB393_392.out; have hcz13_0 : w11.cell? ⟨gb392, 0, none⟩ = some (.int .i64 a0_0) := (zbC BK392.out 0).trans rfl; have hcz13_1 : w11.cell? ⟨gb392, 1, none⟩ = some (.int .i64 a0_1) := (zbC BK392.out 1).trans rfl; have hfz13_0 := zbF BK392.out 0; have hfz13_1 := zbF BK392.out 1; have hcz14_0 : w11.cell? ⟨gb393, 0, none⟩ = some (.int .i64 0) := (zbC BK393.out 0).trans rfl; have hcz14_1 : w11.cell? ⟨gb393, 1, none⟩ = some (.int .i64 0) := (zbC BK393.out 1).trans rfl; have hfz14_0 := zbF BK393.out 0; have hfz14_1 := zbF BK393.out 1))
   refine bodyPost_ret (results_cell_row rfl _ _ gb393 43 #[.int .i64 (wrap64 (a0_0 + 1)), .int .i64 a0_1] (0, 0) _ rfl (by (with_reducible repeat (first | refine zbN ?_ _ | refine zbD ?_ | refine zbA ?_ _)); refine blk_put (cs := #[.int .i64 (wrap64 (a0_0 + 1)), .int .i64 0]) ?_ 1 _ rfl; (with_reducible repeat (first | refine zbN ?_ _ | refine zbD ?_ | refine zbA ?_ _)); refine blk_put (cs := #[.int .i64 0, .int .i64 0]) ?_ 0 _ rfl; (with_reducible repeat (first | refine zbN ?_ _ | refine zbD ?_ | refine zbA ?_ _)); exact BK393.out) Tryd.underlying43 rfl (by kernel_rfl)) rfl ?_
   exact ⟨by first | rfl | (simp [errW_none, errW_some] <;> rfl) | (simp [*, errW_none, errW_some] <;> rfl), by repeat (first | (with_reducible first | exact HB.out | apply zA | apply zN | apply zD | refine zS ?_ GE392.out | refine zS ?_ GE393.out) | exact HB.out)⟩
  ·rw [if_neg c9] at H
   have c9b0 : (a1 == 101) = false := beq_eq_false_iff_ne.mpr c9
   have c9b1 : (a1 != 101) = true := bne_iff_ne.mpr c9
   by_cases c15 : a1 = 115
   ·rw [if_pos c15] at H
    have c15b0 : (a1 == 115) = true := beq_iff_eq.mpr c15
    have c15b1 : (a1 != 115) = false := bne_eq_false_iff_eq.mpr c15
    clear c15
    simp only [Option.some.injEq, Prod.mk.injEq] at H
    obtain ⟨rfl, rfl⟩ := H
    go_enter Tryd.func86, Tryd.ntmps86
    go_wp2_with (first | ((with_reducible refine gate_dst (N := 2) rfl ?_); refine box_event ?hg (N := 2) ?hd (cs := #[.int .i64 a0_0, .int .i64 a0_1]) (t := 43) ?hr ?_; (case hd => rfl); (case hg => rfl); (case hr => first | (go_simp; done) | (go_simp; rfl)); intro gb392 hg w16 hbox hb; have n0_ := Aside0.mk (below_step (by repeat (first | (with_reducible first | exact HB.out | apply zA | apply zN | apply zD) | exact HB.out)) hb); have n1_ := Aside0.mk (hbox); have n2_ := Aside0.mk ((by rw [hg]; exact (below_size (by repeat (first | (with_reducible first | exact HB.out | apply zA | apply zN | apply zD) | exact HB.out))) : w.heap.size ≤ gb392)); have n3_ := Aside0.mk ((by rw [hg]; exact (below_size (by repeat (first | (with_reducible first | exact HB.out | apply zA | apply zN | apply zD) | exact HB.out))) : w.heap.size ≤ gb392)); clear HB; have HB := n0_; have BK392 := n1_; have GW392 := n2_; have GE392 := n3_; clear n0_ n1_ n2_ n3_; clear hb hbox hg) | ((with_reducible refine gate_dst (N := 4) rfl ?_); refine box_event ?hg (N := 4) ?hd (cs := #[.int .i64 0, .int .i64 0]) (t := 43) ?hr ?_; (case hd => rfl); (case hg => rfl); (case hr => first | (go_simp; done) | (go_simp; rfl)); intro gb393 hg w17 hbox hb; have n0_ := Aside0.mk (blk_below (g := gb392) (o := .cells #[.int .i64 a0_0, .int .i64 a0_1] 43 (0, 0)) (by (with_reducible repeat (first | refine zbN ?_ _ | refine zbD ?_ | refine zbA ?_ _)); exact BK392.out) hb); have n1_ := Aside0.mk (below_step (by repeat (first | (with_reducible first | exact HB.out | apply zA | apply zN | apply zD | refine zS ?_ GE392.out) | exact HB.out)) hb); have n2_ := Aside0.mk (hbox); have n3_ := Aside0.mk ((by rw [hg]; exact (below_size (by repeat (first | (with_reducible first | exact HB.out | apply zA | apply zN | apply zD | refine zS ?_ GE392.out) | exact HB.out))) : w.heap.size ≤ gb393)); have n4_ := Aside0.mk ((by rw [hg]; exact (below_size (by repeat (first | (with_reducible first | exact HB.out | apply zA | apply zN | apply zD | refine zS ?_ GE392.out) | exact HB.out))) : w.heap.size ≤ gb393)); have n5_ := Aside0.mk ((by rw [hg]; exact Nat.ne_of_lt (blk_lt (g := gb392) (o := .cells #[.int .i64 a0_0, .int .i64 a0_1] 43 (0, 0)) (by (with_reducible repeat (first | refine zbN ?_ _ | refine zbD ?_ | refine zbA ?_ _)); exact BK392.out)) : gb392 ≠ gb393)); have n6_ := Aside0.mk ((by rw [hg]; exact Nat.ne_of_gt (blk_lt (g := gb392) (o := .cells #[.int .i64 a0_0, .int .i64 a0_1] 43 (0, 0)) (by (with_reducible repeat (first | refine zbN ?_ _ | refine zbD ?_ | refine zbA ?_ _)); exact BK392.out)) : gb393 ≠ gb392)); clear BK392; clear HB; have BK392 := n0_; have HB := n1_; have BK393 := n2_; have GW393 := n3_; have GE393 := n4_; have NB392_393 := n5_; have NB393_392 := n6_; clear n0_ n1_ n2_ n3_ n4_ n5_ n6_; clear hb hbox hg; have hnb18 := NB392_393.out; have hnc18 := NB393_392.out; have hcz19_0 : w17.cell? ⟨gb392, 0, none⟩ = some (.int .i64 a0_0) := (zbC BK392.out 0).trans rfl; have hcz19_1 : w17.cell? ⟨gb392, 1, none⟩ = some (.int .i64 a0_1) := (zbC BK392.out 1).trans rfl; have hfz19_0 := zbF BK392.out 0; have hfz19_1 := zbF BK392.out 1; have hcz20_0 : w17.cell? ⟨gb393, 0, none⟩ = some (.int .i64 0) := (zbC BK393.out 0).trans rfl; have hcz20_1 : w17.cell? ⟨gb393, 1, none⟩ = some (.int .i64 0) := (zbC BK393.out 1).trans rfl; have hfz20_0 := zbF BK393.out 0; have hfz20_1 := zbF BK393.out 1))
    refine bodyPost_ret (results_cell_row rfl _ _ gb393 43 #[.int .i64 a0_0, .int .i64 (wrap64 (a0_1 + 1))] (0, 0) _ rfl (by (with_reducible repeat (first | refine zbN ?_ _ | refine zbD ?_ | refine zbA ?_ _)); refine blk_put (cs := #[.int .i64 a0_0, .int .i64 0]) ?_ 1 _ rfl; (with_reducible repeat (first | refine zbN ?_ _ | refine zbD ?_ | refine zbA ?_ _)); refine blk_put (cs := #[.int .i64 0, .int .i64 0]) ?_ 0 _ rfl; (with_reducible repeat (first | refine zbN ?_ _ | refine zbD ?_ | refine zbA ?_ _)); exact BK393.out) Tryd.underlying43 rfl (by kernel_rfl)) rfl ?_
    exact ⟨by first | rfl | (simp [errW_none, errW_some] <;> rfl) | (simp [*, errW_none, errW_some] <;> rfl), by repeat (first | (with_reducible first | exact HB.out | apply zA | apply zN | apply zD | refine zS ?_ GE392.out | refine zS ?_ GE393.out) | exact HB.out)⟩
   ·rw [if_neg c15] at H
    have c15b0 : (a1 == 115) = false := beq_eq_false_iff_ne.mpr c15
    have c15b1 : (a1 != 115) = true := bne_iff_ne.mpr c15
    simp only [Option.some.injEq, Prod.mk.injEq] at H
    obtain ⟨rfl, rfl⟩ := H
    go_enter Tryd.func86, Tryd.ntmps86
    go_wp2_with (first | ((with_reducible refine gate_dst (N := 2) rfl ?_); refine box_event ?hg (N := 2) ?hd (cs := #[.int .i64 a0_0, .int .i64 a0_1]) (t := 43) ?hr ?_; (case hd => rfl); (case hg => rfl); (case hr => first | (go_simp; done) | (go_simp; rfl)); intro gb392 hg w21 hbox hb; have n0_ := Aside0.mk (below_step (by repeat (first | (with_reducible first | exact HB.out | apply zA | apply zN | apply zD) | exact HB.out)) hb); have n1_ := Aside0.mk (hbox); have n2_ := Aside0.mk ((by rw [hg]; exact (below_size (by repeat (first | (with_reducible first | exact HB.out | apply zA | apply zN | apply zD) | exact HB.out))) : w.heap.size ≤ gb392)); have n3_ := Aside0.mk ((by rw [hg]; exact (below_size (by repeat (first | (with_reducible first | exact HB.out | apply zA | apply zN | apply zD) | exact HB.out))) : w.heap.size ≤ gb392)); clear HB; have HB := n0_; have BK392 := n1_; have GW392 := n2_; have GE392 := n3_; clear n0_ n1_ n2_ n3_; clear hb hbox hg) | ((with_reducible refine gate_dst (N := 4) rfl ?_); refine box_event ?hg (N := 4) ?hd (cs := #[.int .i64 0, .int .i64 0]) (t := 43) ?hr ?_; (case hd => rfl); (case hg => rfl); (case hr => first | (go_simp; done) | (go_simp; rfl)); intro gb393 hg w22 hbox hb; have n0_ := Aside0.mk (blk_below (g := gb392) (o := .cells #[.int .i64 a0_0, .int .i64 a0_1] 43 (0, 0)) (by (with_reducible repeat (first | refine zbN ?_ _ | refine zbD ?_ | refine zbA ?_ _)); exact BK392.out) hb); have n1_ := Aside0.mk (below_step (by repeat (first | (with_reducible first | exact HB.out | apply zA | apply zN | apply zD | refine zS ?_ GE392.out) | exact HB.out)) hb); have n2_ := Aside0.mk (hbox); have n3_ := Aside0.mk ((by rw [hg]; exact (below_size (by repeat (first | (with_reducible first | exact HB.out | apply zA | apply zN | apply zD | refine zS ?_ GE392.out) | exact HB.out))) : w.heap.size ≤ gb393)); have n4_ := Aside0.mk ((by rw [hg]; exact (below_size (by repeat (first | (with_reducible first | exact HB.out | apply zA | apply zN | apply zD | refine zS ?_ GE392.out) | exact HB.out))) : w.heap.size ≤ gb393)); have n5_ := Aside0.mk ((by rw [hg]; exact Nat.ne_of_lt (blk_lt (g := gb392) (o := .cells #[.int .i64 a0_0, .int .i64 a0_1] 43 (0, 0)) (by (with_reducible repeat (first | refine zbN ?_ _ | refine zbD ?_ | refine zbA ?_ _)); exact BK392.out)) : gb392 ≠ gb393)); have n6_ := Aside0.mk ((by rw [hg]; exact Nat.ne_of_gt (blk_lt (g := gb392) (o := .cells #[.int .i64 a0_0, .int .i64 a0_1] 43 (0, 0)) (by (with_reducible repeat (first | refine zbN ?_ _ | refine zbD ?_ | refine zbA ?_ _)); exact BK392.out)) : gb393 ≠ gb392)); clear BK392; clear HB; have BK392 := n0_; have HB := n1_; have BK393 := n2_; have GW393 := n3_; have GE393 := n4_; have NB392_393 := n5_; have NB393_392 := n6_; clear n0_ n1_ n2_ n3_ n4_ n5_ n6_; clear hb hbox hg; have hnb23 := NB392_393.out; have hnc23 := NB393_392.out; have hcz24_0 : w22.cell? ⟨gb392, 0, none⟩ = some (.int .i64 a0_0) := (zbC BK392.out 0).trans rfl; have hcz24_1 : w22.cell? ⟨gb392, 1, none⟩ = some (.int .i64 a0_1) := (zbC BK392.out 1).trans rfl; have hfz24_0 := zbF BK392.out 0; have hfz24_1 := zbF BK392.out 1; have hcz25_0 : w22.cell? ⟨gb393, 0, none⟩ = some (.int .i64 0) := (zbC BK393.out 0).trans rfl; have hcz25_1 : w22.cell? ⟨gb393, 1, none⟩ = some (.int .i64 0) := (zbC BK393.out 1).trans rfl; have hfz25_0 := zbF BK393.out 0; have hfz25_1 := zbF BK393.out 1))
    refine bodyPost_ret (results_cell_row rfl _ _ gb393 43 #[.int .i64 (wrap64 (a0_0 - 1)), .int .i64 a0_1] (0, 0) _ rfl (by (with_reducible repeat (first | refine zbN ?_ _ | refine zbD ?_ | refine zbA ?_ _)); refine blk_put (cs := #[.int .i64 (wrap64 (a0_0 - 1)), .int .i64 0]) ?_ 1 _ rfl; (with_reducible repeat (first | refine zbN ?_ _ | refine zbD ?_ | refine zbA ?_ _)); refine blk_put (cs := #[.int .i64 0, .int .i64 0]) ?_ 0 _ rfl; (with_reducible repeat (first | refine zbN ?_ _ | refine zbD ?_ | refine zbA ?_ _)); exact BK393.out) Tryd.underlying43 rfl (by kernel_rfl)) rfl ?_
    exact ⟨by first | rfl | (simp [errW_none, errW_some] <;> rfl) | (simp [*, errW_none, errW_some] <;> rfl), by repeat (first | (with_reducible first | exact HB.out | apply zA | apply zN | apply zD | refine zS ?_ GE392.out | refine zS ?_ GE393.out) | exact HB.out)⟩

/-! ### impl_grid_between: function 85 -/
def impl_grid_between.j0 : Nat → Bool → Int → Int → Int → Int → Int → Int → Option (Int)
 | 0, _, _, _, _, _, _, _ => none
 | k + 1, x20, x395000, x395001, x396000, x396001, x399000, x399001 => if x20 = true then (some 0) else (if x396001 = x399001 then ((impl_grid_level.f x395000 x395001 (mn x396000 x399000) x396001).bind fun t401 => (some t401)) else ((impl_grid_upright.f x395000 x395001 x396000 (mn x396001 x399001)).bind fun t402 => (some t402)))
def impl_grid_between.f (k : Nat) (a0_0 : Int) (a0_1 : Int) (a1_0 : Int) (a1_1 : Int) (a2 : Int) : Option (Int) := (impl_Corner_next.f a1_0 a1_1 a2).bind fun bt396 => ((impl_grid_isCorner.f a0_0 a0_1 a1_0 a1_1).bind fun t399 => (if t399 = true then ((impl_grid_isCorner.f a0_0 a0_1 bt396.1 bt396.2).bind fun t400 => (impl_grid_between.j0 k (!t400) a0_0 a0_1 a1_0 a1_1 bt396.1 bt396.2)) else (impl_grid_between.j0 k true a0_0 a0_1 a1_0 a1_1 bt396.1 bt396.2)))
theorem impl_grid_between.mono_l : ∀ k, (∀ y0 y1 y2 y3 y4 y5 y6, LeO (impl_grid_between.j0 k y0 y1 y2 y3 y4 y5 y6) (impl_grid_between.j0 (k + 1) y0 y1 y2 y3 y4 y5 y6))
 | 0 => fun _ _ _ _ _ _ _ r h => by simp [impl_grid_between.j0] at h
 | k + 1 => by
  have ih0 := impl_grid_between.mono_l k
  ·intro y0 y1 y2 y3 y4 y5 y6
   unfold impl_grid_between.j0
   repeat' first
   | (with_reducible exact ih0 _ _ _ _ _ _ _)
   | (with_reducible exact LeO.refl _)
   | (with_reducible exact LeO.none _)
   | (with_reducible refine LeO.ite ?_ ?_)
   | (with_reducible refine LeO.bind ?_ (fun _ => ?_))
   | exact ih0 _ _ _ _ _ _ _
   | exact LeO.none _
   | refine LeO.ite ?_ ?_
   | refine LeO.bind ?_ (fun _ => ?_)
theorem impl_grid_between.mono : ∀ a0 a1 a2 a3 a4 k, LeO (impl_grid_between.f k a0 a1 a2 a3 a4) (impl_grid_between.f (k + 1) a0 a1 a2 a3 a4) := by
 intro a0 a1 a2 a3 a4 k
 have ih0 := impl_grid_between.mono_l k
 unfold impl_grid_between.f
 repeat' first
   | (with_reducible exact ih0 _ _ _ _ _ _ _)
   | (with_reducible exact LeO.refl _)
   | (with_reducible exact LeO.none _)
   | (with_reducible refine LeO.ite ?_ ?_)
   | (with_reducible refine LeO.bind ?_ (fun _ => ?_))
   | exact ih0 _ _ _ _ _ _ _
   | exact LeO.none _
   | refine LeO.ite ?_ ?_
   | refine LeO.bind ?_ (fun _ => ?_)
set_option maxHeartbeats 8000000 in
set_option maxRecDepth 100000 in
theorem impl_grid_between.calls (k : Nat) (a0_0 : Int) (a0_1 : Int) (a1_0 : Int) (a1_1 : Int) (a2 : Int) (r : Int) (w : World) (h : impl_grid_between.f k a0_0 a0_1 a1_0 a1_1 a2 = some r) :
  Calls Tryd.prog 85 #[.agg #[.int .i64 a0_0, .int .i64 a0_1], .agg #[.int .i64 a1_0, .int .i64 a1_1], .int .u8 a2] w fun e w' => e = .returned (.int .u64 r) ∧ Below w.heap.size w w' := by
 have hu48 := Tryd.underlying48
 have hu43 := Tryd.underlying43
 have HB := Aside0.mk (Below.refl w.heap.size w)
 have H : ((impl_Corner_next.f a1_0 a1_1 a2).bind fun bt396 => ((impl_grid_isCorner.f a0_0 a0_1 a1_0 a1_1).bind fun t399 => (if t399 = true then ((impl_grid_isCorner.f a0_0 a0_1 bt396.1 bt396.2).bind fun t400 => (impl_grid_between.j0 k (!t400) a0_0 a0_1 a1_0 a1_1 bt396.1 bt396.2)) else (impl_grid_between.j0 k true a0_0 a0_1 a1_0 a1_1 bt396.1 bt396.2)))) = some r := h
 clear h
 replace H := Option.bind_eq_some_iff.mp H
 obtain ⟨⟨t396, t397⟩, A40, H⟩ := H
 replace H : ((impl_grid_isCorner.f a0_0 a0_1 a1_0 a1_1).bind fun t399 => (if t399 = true then ((impl_grid_isCorner.f a0_0 a0_1 t396 t397).bind fun t400 => (impl_grid_between.j0 k (!t400) a0_0 a0_1 a1_0 a1_1 t396 t397)) else (impl_grid_between.j0 k true a0_0 a0_1 a1_0 a1_1 t396 t397))) = some r := H
 have A4 := Aside0.mk A40
 clear A40
 have HC5 := Aside0.mk H
 clear H
 go_enter Tryd.func85, Tryd.ntmps85
 go_upto_region 2 with (first | ((with_reducible refine gate_dst (N := 3) rfl ?_); refine box_event ?hg (N := 3) ?hd (cs := #[.int .i64 a0_0, .int .i64 a0_1]) (t := 48) ?hr ?_; (case hd => rfl); (case hg => rfl); (case hr => first | (go_simp; done) | (go_simp; rfl)); intro gb394 hg w6 hbox hb; have n0_ := Aside0.mk (below_step (by repeat (first | (with_reducible first | exact HB.out | apply zA | apply zN | apply zD) | exact HB.out)) hb); have n1_ := Aside0.mk (hbox); have n2_ := Aside0.mk ((by rw [hg]; exact (below_size (by repeat (first | (with_reducible first | exact HB.out | apply zA | apply zN | apply zD) | exact HB.out))) : w.heap.size ≤ gb394)); have n3_ := Aside0.mk ((by rw [hg]; exact (below_size (by repeat (first | (with_reducible first | exact HB.out | apply zA | apply zN | apply zD) | exact HB.out))) : w.heap.size ≤ gb394)); clear HB; have HB := n0_; have BK394 := n1_; have GW394 := n2_; have GE394 := n3_; clear n0_ n1_ n2_ n3_; clear hb hbox hg) | ((with_reducible refine gate_dst (N := 4) rfl ?_); refine box_event ?hg (N := 4) ?hd (cs := #[.int .i64 a1_0, .int .i64 a1_1]) (t := 43) ?hr ?_; (case hd => rfl); (case hg => rfl); (case hr => first | (go_simp; done) | (go_simp; rfl)); intro gb395 hg w7 hbox hb; have n0_ := Aside0.mk (blk_below (g := gb394) (o := .cells #[.int .i64 a0_0, .int .i64 a0_1] 48 (0, 0)) (by (with_reducible repeat (first | refine zbN ?_ _ | refine zbD ?_ | refine zbA ?_ _)); exact BK394.out) hb); have n1_ := Aside0.mk (below_step (by repeat (first | (with_reducible first | exact HB.out | apply zA | apply zN | apply zD | refine zS ?_ GE394.out) | exact HB.out)) hb); have n2_ := Aside0.mk (hbox); have n3_ := Aside0.mk ((by rw [hg]; exact (below_size (by repeat (first | (with_reducible first | exact HB.out | apply zA | apply zN | apply zD | refine zS ?_ GE394.out) | exact HB.out))) : w.heap.size ≤ gb395)); have n4_ := Aside0.mk ((by rw [hg]; exact (below_size (by repeat (first | (with_reducible first | exact HB.out | apply zA | apply zN | apply zD | refine zS ?_ GE394.out) | exact HB.out))) : w.heap.size ≤ gb395)); have n5_ := Aside0.mk ((by rw [hg]; exact Nat.ne_of_lt (blk_lt (g := gb394) (o := .cells #[.int .i64 a0_0, .int .i64 a0_1] 48 (0, 0)) (by (with_reducible repeat (first | refine zbN ?_ _ | refine zbD ?_ | refine zbA ?_ _)); exact BK394.out)) : gb394 ≠ gb395)); have n6_ := Aside0.mk ((by rw [hg]; exact Nat.ne_of_gt (blk_lt (g := gb394) (o := .cells #[.int .i64 a0_0, .int .i64 a0_1] 48 (0, 0)) (by (with_reducible repeat (first | refine zbN ?_ _ | refine zbD ?_ | refine zbA ?_ _)); exact BK394.out)) : gb395 ≠ gb394)); clear BK394; clear HB; have BK394 := n0_; have HB := n1_; have BK395 := n2_; have GW395 := n3_; have GE395 := n4_; have NB394_395 := n5_; have NB395_394 := n6_; clear n0_ n1_ n2_ n3_ n4_ n5_ n6_; clear hb hbox hg; have hnb8 := NB395_394.out; have hnc8 := NB394_395.out; have hcz9_0 : w7.cell? ⟨gb395, 0, none⟩ = some (.int .i64 a1_0) := (zbC BK395.out 0).trans rfl; have hcz9_1 : w7.cell? ⟨gb395, 1, none⟩ = some (.int .i64 a1_1) := (zbC BK395.out 1).trans rfl; have hfz9_0 := zbF BK395.out 0; have hfz9_1 := zbF BK395.out 1) | ((with_reducible refine gate_callee (f := 86) rfl ?_); refine goesL_ (some 10) rfl rfl Tryd.func86 (by kernel_rfl) rfl #[.agg #[.int .i64 a1_0, .int .i64 a1_1], .int .u8 a2] rfl (by (try simp only [List.map_toArray, List.map_cons, List.map_nil]); first | done | rfl | (simp only [List.length_drop, List.length_take]; rfl)) ?_; (with_reducible refine (impl_Corner_next.calls a1_0 a1_1 a2 t396 t397 _ A4.out).mono ?_); rintro e w10 ⟨rfl, hb⟩; refine ⟨_, rfl, ?_⟩; have n0_ := Aside0.mk (blk_below (g := gb394) (o := .cells #[.int .i64 a0_0, .int .i64 a0_1] 48 (0, 0)) (by (with_reducible repeat (first | refine zbN ?_ _ | refine zbD ?_ | refine zbA ?_ _)); exact BK394.out) hb); have n1_ := Aside0.mk (blk_below (g := gb395) (o := .cells #[.int .i64 a1_0, .int .i64 a1_1] 43 (0, 0)) (by (with_reducible repeat (first | refine zbN ?_ _ | refine zbD ?_ | refine zbA ?_ _)); exact BK395.out) hb); have n2_ := Aside0.mk (below_step (by repeat (first | (with_reducible first | exact HB.out | apply zA | apply zN | apply zD | refine zS ?_ GE394.out | refine zS ?_ GE395.out) | exact HB.out)) hb); clear BK394; clear BK395; clear HB; have BK394 := n0_; have BK395 := n1_; have HB := n2_; clear n0_ n1_ n2_; (try clear hb); (try clear hb2); (try clear hk); (try clear hi)) | ((with_reducible refine gate_dst (N := 7) rfl ?_); refine box_event ?hg (N := 7) ?hd (cs := #[.int .i64 0, .int .i64 0]) (t := 43) ?hr ?_; (case hd => rfl); (case hg => rfl); (case hr => first | (go_simp; done) | (go_simp; rfl)); intro gb398 hg w11 hbox hb; have n0_ := Aside0.mk (blk_below (g := gb394) (o := .cells #[.int .i64 a0_0, .int .i64 a0_1] 48 (0, 0)) (by (with_reducible repeat (first | refine zbN ?_ _ | refine zbD ?_ | refine zbA ?_ _)); exact BK394.out) hb); have n1_ := Aside0.mk (blk_below (g := gb395) (o := .cells #[.int .i64 a1_0, .int .i64 a1_1] 43 (0, 0)) (by (with_reducible repeat (first | refine zbN ?_ _ | refine zbD ?_ | refine zbA ?_ _)); exact BK395.out) hb); have n2_ := Aside0.mk (below_step (by repeat (first | (with_reducible first | exact HB.out | apply zA | apply zN | apply zD | refine zS ?_ GE394.out | refine zS ?_ GE395.out) | exact HB.out)) hb); have n3_ := Aside0.mk (hbox); have n4_ := Aside0.mk ((by rw [hg]; exact (below_size (by repeat (first | (with_reducible first | exact HB.out | apply zA | apply zN | apply zD | refine zS ?_ GE394.out | refine zS ?_ GE395.out) | exact HB.out))) : w.heap.size ≤ gb398)); have n5_ := Aside0.mk ((by rw [hg]; exact (below_size (by repeat (first | (with_reducible first | exact HB.out | apply zA | apply zN | apply zD | refine zS ?_ GE394.out | refine zS ?_ GE395.out) | exact HB.out))) : w.heap.size ≤ gb398)); have n6_ := Aside0.mk ((by rw [hg]; exact Nat.ne_of_lt (blk_lt (g := gb394) (o := .cells #[.int .i64 a0_0, .int .i64 a0_1] 48 (0, 0)) (by (with_reducible repeat (first | refine zbN ?_ _ | refine zbD ?_ | refine zbA ?_ _)); exact BK394.out)) : gb394 ≠ gb398)); have n7_ := Aside0.mk ((by rw [hg]; exact Nat.ne_of_gt (blk_lt (g := gb394) (o := .cells #[.int .i64 a0_0, .int .i64 a0_1] 48 (0, 0)) (by (with_reducible repeat (first | refine zbN ?_ _ | refine zbD ?_ | refine zbA ?_ _)); exact BK394.out)) : gb398 ≠ gb394)); have n8_ := Aside0.mk ((by rw [hg]; exact Nat.ne_of_lt (blk_lt (g := gb395) (o := .cells #[.int .i64 a1_0, .int .i64 a1_1] 43 (0, 0)) (by (with_reducible repeat (first | refine zbN ?_ _ | refine zbD ?_ | refine zbA ?_ _)); exact BK395.out)) : gb395 ≠ gb398)); have n9_ := Aside0.mk ((by rw [hg]; exact Nat.ne_of_gt (blk_lt (g := gb395) (o := .cells #[.int .i64 a1_0, .int .i64 a1_1] 43 (0, 0)) (by (with_reducible repeat (first | refine zbN ?_ _ | refine zbD ?_ | refine zbA ?_ _)); exact BK395.out)) : gb398 ≠ gb395)); clear BK394; clear BK395; clear HB; have BK394 := n0_; have BK395 := n1_; have HB := n2_; have BK398 := n3_; have GW398 := n4_; have GE398 := n5_; have NB394_398 := n6_; have NB398_394 := n7_; have NB395_398 := n8_; have NB398_395 := n9_; clear n0_ n1_ n2_ n3_ n4_ n5_ n6_ n7_ n8_ n9_; clear hb hbox hg; have hnb12 := NB398_394.out; have hnc12 := NB394_398.out; have hnb13 := NB398_395.out; have hnc13 := NB395_398.out; have hcz14_0 : w11.cell? ⟨gb398, 0, none⟩ = some (.int .i64 0) := (zbC BK398.out 0).trans rfl; have hcz14_1 : w11.cell? ⟨gb398, 1, none⟩ = some (.int .i64 0) := (zbC BK398.out 1).trans rfl; have hfz14_0 := zbF BK398.out 0; have hfz14_1 := zbF BK398.out 1))
 (try simp only [Act.put, List.setIfInBounds_toArray, List.set_cons_zero, List.set_cons_succ])
 go_cut [20] (fun v20 wc => ∃ (kq : Nat) (x20_4 : Bool), v20 = .bool x20_4 ∧ Aside0 (impl_grid_between.j0 kq x20_4 a0_0 a0_1 a1_0 a1_1 t396 t397 = some r) ∧ Aside0 (kq ≤ k) ∧ Aside0 (wc.heap[gb394]? = some (.cells #[.int .i64 a0_0, .int .i64 a0_1] 48 (0, 0))) ∧ Aside0 (wc.heap[gb395]? = some (.cells #[.int .i64 a1_0, .int .i64 a1_1] 43 (0, 0))) ∧ Aside0 (wc.heap[gb398]? = some (.cells #[.int .i64 t396, .int .i64 t397] 43 (0, 0))) ∧ Aside0 (Below w.heap.size w wc))
 case first =>
  have H := HC5.out
  clear HC5
  replace H := Option.bind_eq_some_iff.mp H
  obtain ⟨t399, A150, H⟩ := H
  replace H : (if t399 = true then ((impl_grid_isCorner.f a0_0 a0_1 t396 t397).bind fun t400 => (impl_grid_between.j0 k (!t400) a0_0 a0_1 a1_0 a1_1 t396 t397)) else (impl_grid_between.j0 k true a0_0 a0_1 a1_0 a1_1 t396 t397)) = some r := H
  have A15 := Aside0.mk A150
  clear A150
  by_cases c16 : t399 = true
  ·subst c16
   have H1 : ((impl_grid_isCorner.f a0_0 a0_1 t396 t397).bind fun t400 => (impl_grid_between.j0 k (!t400) a0_0 a0_1 a1_0 a1_1 t396 t397)) = some r := by rw [if_pos rfl] at H; exact H
   clear H
   have H := H1
   clear H1
   replace H := Option.bind_eq_some_iff.mp H
   obtain ⟨t400, A170, H⟩ := H
   replace H : (impl_grid_between.j0 k (!t400) a0_0 a0_1 a1_0 a1_1 t396 t397) = some r := H
   have A17 := Aside0.mk A170
   clear A170
   have H' := Aside0.mk H
   clear H
   have hnb18 := NB394_395.out
   have hnc18 := NB395_394.out
   have hnb19 := NB394_398.out
   have hnc19 := NB398_394.out
   have hcz20_0 : w11.cell? ⟨gb394, 0, none⟩ = some (.int .i64 a0_0) := (zbC BK394.out 0).trans rfl
   have hcz20_1 : w11.cell? ⟨gb394, 1, none⟩ = some (.int .i64 a0_1) := (zbC BK394.out 1).trans rfl
   have hfz20_0 := zbF BK394.out 0
   have hfz20_1 := zbF BK394.out 1
   have hnb21 := NB395_398.out
   have hnc21 := NB398_395.out
   have hcz22_0 : w11.cell? ⟨gb395, 0, none⟩ = some (.int .i64 a1_0) := (zbC BK395.out 0).trans rfl
   have hcz22_1 : w11.cell? ⟨gb395, 1, none⟩ = some (.int .i64 a1_1) := (zbC BK395.out 1).trans rfl
   have hfz22_0 := zbF BK395.out 0
   have hfz22_1 := zbF BK395.out 1
   go_wp2_with (first | ((with_reducible refine gate_callee (f := 61) rfl ?_); refine goesL_ (some 13) rfl rfl Tryd.func61 (by kernel_rfl) rfl #[.agg #[.int .i64 a0_0, .int .i64 a0_1], .agg #[.int .i64 a1_0, .int .i64 a1_1]] rfl (by (try simp only [List.map_toArray, List.map_cons, List.map_nil]); first | done | rfl | (simp only [List.length_drop, List.length_take]; rfl)) ?_; (with_reducible refine (impl_grid_isCorner.calls a0_0 a0_1 a1_0 a1_1 true _ A15.out).mono ?_); rintro e w23 ⟨rfl, hb⟩; refine ⟨_, rfl, ?_⟩; have n0_ := Aside0.mk (blk_below (g := gb394) (o := .cells #[.int .i64 a0_0, .int .i64 a0_1] 48 (0, 0)) (by (with_reducible repeat (first | refine zbN ?_ _ | refine zbD ?_ | refine zbA ?_ _)); refine blk_far ?_ NB394_398.out _; (with_reducible repeat (first | refine zbN ?_ _ | refine zbD ?_ | refine zbA ?_ _)); refine blk_far ?_ NB394_398.out _; (with_reducible repeat (first | refine zbN ?_ _ | refine zbD ?_ | refine zbA ?_ _)); exact BK394.out) hb); have n1_ := Aside0.mk (blk_below (g := gb395) (o := .cells #[.int .i64 a1_0, .int .i64 a1_1] 43 (0, 0)) (by (with_reducible repeat (first | refine zbN ?_ _ | refine zbD ?_ | refine zbA ?_ _)); refine blk_far ?_ NB395_398.out _; (with_reducible repeat (first | refine zbN ?_ _ | refine zbD ?_ | refine zbA ?_ _)); refine blk_far ?_ NB395_398.out _; (with_reducible repeat (first | refine zbN ?_ _ | refine zbD ?_ | refine zbA ?_ _)); exact BK395.out) hb); have n2_ := Aside0.mk (blk_below (g := gb398) (o := .cells #[.int .i64 t396, .int .i64 t397] 43 (0, 0)) (by (with_reducible repeat (first | refine zbN ?_ _ | refine zbD ?_ | refine zbA ?_ _)); refine blk_put (cs := #[.int .i64 t396, .int .i64 0]) ?_ 1 _ rfl; (with_reducible repeat (first | refine zbN ?_ _ | refine zbD ?_ | refine zbA ?_ _)); refine blk_put (cs := #[.int .i64 0, .int .i64 0]) ?_ 0 _ rfl; (with_reducible repeat (first | refine zbN ?_ _ | refine zbD ?_ | refine zbA ?_ _)); exact BK398.out) hb); have n3_ := Aside0.mk (below_step (by repeat (first | (with_reducible first | exact HB.out | apply zA | apply zN | apply zD | refine zS ?_ GE394.out | refine zS ?_ GE395.out | refine zS ?_ GE398.out) | exact HB.out)) hb); clear BK394; clear BK395; clear BK398; clear HB; have BK394 := n0_; have BK395 := n1_; have BK398 := n2_; have HB := n3_; clear n0_ n1_ n2_ n3_; (try clear hb); (try clear hb2); (try clear hk); (try clear hi); have hcz24_0 : w23.cell? ⟨gb394, 0, none⟩ = some (.int .i64 a0_0) := (zbC BK394.out 0).trans rfl; have hcz24_1 : w23.cell? ⟨gb394, 1, none⟩ = some (.int .i64 a0_1) := (zbC BK394.out 1).trans rfl; have hfz24_0 := zbF BK394.out 0; have hfz24_1 := zbF BK394.out 1; have hcz25_0 : w23.cell? ⟨gb398, 0, none⟩ = some (.int .i64 t396) := (zbC BK398.out 0).trans rfl; have hcz25_1 : w23.cell? ⟨gb398, 1, none⟩ = some (.int .i64 t397) := (zbC BK398.out 1).trans rfl; have hfz25_0 := zbF BK398.out 0; have hfz25_1 := zbF BK398.out 1) | (go_at_call 61; (with_reducible refine (impl_grid_isCorner.calls a0_0 a0_1 t396 t397 t400 _ A17.out).mono ?_); rintro e w26 ⟨rfl, hb⟩; have n0_ := Aside0.mk (blk_below (g := gb394) (o := .cells #[.int .i64 a0_0, .int .i64 a0_1] 48 (0, 0)) (by (with_reducible repeat (first | refine zbN ?_ _ | refine zbD ?_ | refine zbA ?_ _)); exact BK394.out) hb); have n1_ := Aside0.mk (blk_below (g := gb395) (o := .cells #[.int .i64 a1_0, .int .i64 a1_1] 43 (0, 0)) (by (with_reducible repeat (first | refine zbN ?_ _ | refine zbD ?_ | refine zbA ?_ _)); exact BK395.out) hb); have n2_ := Aside0.mk (blk_below (g := gb398) (o := .cells #[.int .i64 t396, .int .i64 t397] 43 (0, 0)) (by (with_reducible repeat (first | refine zbN ?_ _ | refine zbD ?_ | refine zbA ?_ _)); exact BK398.out) hb); have n3_ := Aside0.mk (below_step (by repeat (first | (with_reducible first | exact HB.out | apply zA | apply zN | apply zD | refine zS ?_ GE394.out | refine zS ?_ GE395.out | refine zS ?_ GE398.out) | exact HB.out)) hb); clear BK394; clear BK395; clear BK398; clear HB; have BK394 := n0_; have BK395 := n1_; have BK398 := n2_; have HB := n3_; clear n0_ n1_ n2_ n3_; (try clear hb); (try clear hb2); (try clear hk); (try clear hi)))
   go_meet
   case rel => exact ⟨_, (!t400), (by first | rfl | (simp; done) | (simp [*]; done)), H', ⟨by first | omega | exact Nat.le_refl _⟩, ⟨by (with_reducible repeat (first | refine zbN ?_ _ | refine zbD ?_ | refine zbA ?_ _)); exact BK394.out⟩, ⟨by (with_reducible repeat (first | refine zbN ?_ _ | refine zbD ?_ | refine zbA ?_ _)); exact BK395.out⟩, ⟨by (with_reducible repeat (first | refine zbN ?_ _ | refine zbD ?_ | refine zbA ?_ _)); exact BK398.out⟩, ⟨by repeat (first | (with_reducible first | exact HB.out | apply zA | apply zN | apply zD | refine zS ?_ GE394.out | refine zS ?_ GE395.out | refine zS ?_ GE398.out) | exact HB.out)⟩⟩
  ·replace c16 := Bool.eq_false_iff.mpr c16
   subst c16
   have H1 : (impl_grid_between.j0 k true a0_0 a0_1 a1_0 a1_1 t396 t397) = some r := by rw [if_neg (show ¬ (false = true) by decide)] at H; exact H
   clear H
   have H := H1
   clear H1
   have H' := Aside0.mk H
   clear H
   have hnb27 := NB394_395.out
   have hnc27 := NB395_394.out
   have hnb28 := NB394_398.out
   have hnc28 := NB398_394.out
   have hcz29_0 : w11.cell? ⟨gb394, 0, none⟩ = some (.int .i64 a0_0) := (zbC BK394.out 0).trans rfl
   have hcz29_1 : w11.cell? ⟨gb394, 1, none⟩ = some (.int .i64 a0_1) := (zbC BK394.out 1).trans rfl
   have hfz29_0 := zbF BK394.out 0
   have hfz29_1 := zbF BK394.out 1
   have hnb30 := NB395_398.out
   have hnc30 := NB398_395.out
   have hcz31_0 : w11.cell? ⟨gb395, 0, none⟩ = some (.int .i64 a1_0) := (zbC BK395.out 0).trans rfl
   have hcz31_1 : w11.cell? ⟨gb395, 1, none⟩ = some (.int .i64 a1_1) := (zbC BK395.out 1).trans rfl
   have hfz31_0 := zbF BK395.out 0
   have hfz31_1 := zbF BK395.out 1
   go_wp2_with (first | ((with_reducible refine gate_callee (f := 61) rfl ?_); refine goesL_ (some 13) rfl rfl Tryd.func61 (by kernel_rfl) rfl #[.agg #[.int .i64 a0_0, .int .i64 a0_1], .agg #[.int .i64 a1_0, .int .i64 a1_1]] rfl (by (try simp only [List.map_toArray, List.map_cons, List.map_nil]); first | done | rfl | (simp only [List.length_drop, List.length_take]; rfl)) ?_; (with_reducible refine (impl_grid_isCorner.calls a0_0 a0_1 a1_0 a1_1 false _ A15.out).mono ?_); rintro e w32 ⟨rfl, hb⟩; refine ⟨_, rfl, ?_⟩; have n0_ := Aside0.mk (blk_below (g := gb394) (o := .cells #[.int .i64 a0_0, .int .i64 a0_1] 48 (0, 0)) (by (with_reducible repeat (first | refine zbN ?_ _ | refine zbD ?_ | refine zbA ?_ _)); refine blk_far ?_ NB394_398.out _; (with_reducible repeat (first | refine zbN ?_ _ | refine zbD ?_ | refine zbA ?_ _)); refine blk_far ?_ NB394_398.out _; (with_reducible repeat (first | refine zbN ?_ _ | refine zbD ?_ | refine zbA ?_ _)); exact BK394.out) hb); have n1_ := Aside0.mk (blk_below (g := gb395) (o := .cells #[.int .i64 a1_0, .int .i64 a1_1] 43 (0, 0)) (by (with_reducible repeat (first | refine zbN ?_ _ | refine zbD ?_ | refine zbA ?_ _)); refine blk_far ?_ NB395_398.out _; (with_reducible repeat (first | refine zbN ?_ _ | refine zbD ?_ | refine zbA ?_ _)); refine blk_far ?_ NB395_398.out _; (with_reducible repeat (first | refine zbN ?_ _ | refine zbD ?_ | refine zbA ?_ _)); exact BK395.out) hb); have n2_ := Aside0.mk (blk_below (g := gb398) (o := .cells #[.int .i64 t396, .int .i64 t397] 43 (0, 0)) (by (with_reducible repeat (first | refine zbN ?_ _ | refine zbD ?_ | refine zbA ?_ _)); refine blk_put (cs := #[.int .i64 t396, .int .i64 0]) ?_ 1 _ rfl; (with_reducible repeat (first | refine zbN ?_ _ | refine zbD ?_ | refine zbA ?_ _)); refine blk_put (cs := #[.int .i64 0, .int .i64 0]) ?_ 0 _ rfl; (with_reducible repeat (first | refine zbN ?_ _ | refine zbD ?_ | refine zbA ?_ _)); exact BK398.out) hb); have n3_ := Aside0.mk (below_step (by repeat (first | (with_reducible first | exact HB.out | apply zA | apply zN | apply zD | refine zS ?_ GE394.out | refine zS ?_ GE395.out | refine zS ?_ GE398.out) | exact HB.out)) hb); clear BK394; clear BK395; clear BK398; clear HB; have BK394 := n0_; have BK395 := n1_; have BK398 := n2_; have HB := n3_; clear n0_ n1_ n2_ n3_; (try clear hb); (try clear hb2); (try clear hk); (try clear hi)))
   go_meet
   case rel => exact ⟨_, (true), (by first | rfl | (simp; done) | (simp [*]; done)), H', ⟨by first | omega | exact Nat.le_refl _⟩, ⟨by (with_reducible repeat (first | refine zbN ?_ _ | refine zbD ?_ | refine zbA ?_ _)); exact BK394.out⟩, ⟨by (with_reducible repeat (first | refine zbN ?_ _ | refine zbD ?_ | refine zbA ?_ _)); exact BK395.out⟩, ⟨by (with_reducible repeat (first | refine zbN ?_ _ | refine zbD ?_ | refine zbA ?_ _)); exact BK398.out⟩, ⟨by repeat (first | (with_reducible first | exact HB.out | apply zA | apply zN | apply zD | refine zS ?_ GE394.out | refine zS ?_ GE395.out | refine zS ?_ GE398.out) | exact HB.out)⟩⟩
 case rest =>
  clear HC5
  try clear c1
  try clear c2
  try clear p2
  try clear c3
  try clear c6
  try clear c8
  try clear c12
  try clear c13
  try clear c16
  try clear c18
  try clear c19
  try clear c21
  try clear c27
  try clear c28
  try clear c30
  try clear hcz14_0
  try clear hcz14_1
  try clear hcz20_0
  try clear hcz20_1
  try clear hcz22_0
  try clear hcz22_1
  try clear hcz24_0
  try clear hcz24_1
  try clear hcz25_0
  try clear hcz25_1
  try clear hcz29_0
  try clear hcz29_1
  try clear hcz31_0
  try clear hcz31_1
  try clear hcz9_0
  try clear hcz9_1
  try clear hfz14_0
  try clear hfz14_1
  try clear hfz20_0
  try clear hfz20_1
  try clear hfz22_0
  try clear hfz22_1
  try clear hfz24_0
  try clear hfz24_1
  try clear hfz25_0
  try clear hfz25_1
  try clear hfz29_0
  try clear hfz29_1
  try clear hfz31_0
  try clear hfz31_1
  try clear hfz9_0
  try clear hfz9_1
  obtain ⟨kq, x20_4, rfl, HA, HJ4, BK394, BK395, BK398, HB⟩ := hcut
  cases kq with
  | zero => exact absurd HA.out (by simp [impl_grid_between.j0])
  | succ kj4 =>
   have H := HA.out
   clear HA
   simp only [impl_grid_between.j0] at H
   by_cases c33 : x20_4 = true
   ·subst c33
    have H1 : (some 0) = some r := by rw [if_pos rfl] at H; exact H
    clear H
    have H := H1
    clear H1
    obtain rfl := Option.some.inj H
    go_wp2
    go_ret
    exact ⟨by first | rfl | (simp [errW_none, errW_some] <;> rfl) | (simp [*, errW_none, errW_some] <;> rfl), by repeat (first | (with_reducible first | exact HB.out | apply zA | apply zN | apply zD | refine zS ?_ GE394.out | refine zS ?_ GE395.out | refine zS ?_ GE398.out) | exact HB.out)⟩
   ·replace c33 := Bool.eq_false_iff.mpr c33
    subst c33
    have H1 : (if a1_1 = t397 then ((impl_grid_level.f a0_0 a0_1 (mn a1_0 t396) a1_1).bind fun t401 => (some t401)) else ((impl_grid_upright.f a0_0 a0_1 a1_0 (mn a1_1 t397)).bind fun t402 => (some t402))) = some r := by rw [if_neg (show ¬ (false = true) by decide)] at H; exact H
    clear H
    have H := H1
    clear H1
    by_cases c34 : a1_1 = t397
    ·rw [if_pos c34] at H
     have c34b0 : (a1_1 == t397) = true := beq_iff_eq.mpr c34
     have c34b1 : (a1_1 != t397) = false := bne_eq_false_iff_eq.mpr c34
     clear c34
     obtain ⟨ji35, hji35⟩ : ∃ j_ : Int, (mn a1_0 t396) = j_ := ⟨_, rfl⟩
     replace H : ((impl_grid_level.f a0_0 a0_1 (ji35) a1_1).bind fun t401 => (some t401)) = some r := by first | (rw [hji35] at H; exact H) | (simp only [hji35] at H ⊢; exact H)
     have hji35_ : (if t396 < a1_0 then t396 else a1_0) = ji35 := hji35
     replace H := Option.bind_eq_some_iff.mp H
     obtain ⟨t401, A360, H⟩ := H
     replace H : (some t401) = some r := H
     have A36 := Aside0.mk A360
     clear A360
     obtain rfl := Option.some.inj H
     have hnb37 := NB395_394.out
     have hnc37 := NB394_395.out
     have hnb38 := NB395_398.out
     have hnc38 := NB398_395.out
     have hcz39_0 : wc.cell? ⟨gb395, 0, none⟩ = some (.int .i64 a1_0) := (zbC BK395.out 0).trans rfl
     have hcz39_1 : wc.cell? ⟨gb395, 1, none⟩ = some (.int .i64 a1_1) := (zbC BK395.out 1).trans rfl
     have hfz39_0 := zbF BK395.out 0
     have hfz39_1 := zbF BK395.out 1
     have hnb40 := NB398_394.out
     have hnc40 := NB394_398.out
     have hcz41_0 : wc.cell? ⟨gb398, 0, none⟩ = some (.int .i64 t396) := (zbC BK398.out 0).trans rfl
     have hcz41_1 : wc.cell? ⟨gb398, 1, none⟩ = some (.int .i64 t397) := (zbC BK398.out 1).trans rfl
     have hfz41_0 := zbF BK398.out 0
     have hfz41_1 := zbF BK398.out 1
     have hcz42_0 : wc.cell? ⟨gb394, 0, none⟩ = some (.int .i64 a0_0) := (zbC BK394.out 0).trans rfl
     have hcz42_1 : wc.cell? ⟨gb394, 1, none⟩ = some (.int .i64 a0_1) := (zbC BK394.out 1).trans rfl
     have hfz42_0 := zbF BK394.out 0
     have hfz42_1 := zbF BK394.out 1
     go_wp2_with (first | ((with_reducible refine gate_callee (f := 79) rfl ?_); refine goesL_ (some 34) rfl rfl Tryd.func79 (by kernel_rfl) rfl #[.agg #[.int .i64 a0_0, .int .i64 a0_1], .int .i64 ji35, .int .i64 a1_1] rfl (by (try simp only [List.map_toArray, List.map_cons, List.map_nil]); first | done | (simp only [hji35]; rfl) | rfl | (simp only [List.length_drop, List.length_take]; rfl)) ?_; (with_reducible refine (impl_grid_level.calls a0_0 a0_1 ji35 a1_1 t401 _ A36.out).mono ?_); rintro e w43 ⟨rfl, hb⟩; refine ⟨_, rfl, ?_⟩; have n0_ := Aside0.mk (blk_below (g := gb394) (o := .cells #[.int .i64 a0_0, .int .i64 a0_1] 48 (0, 0)) (by (with_reducible repeat (first | refine zbN ?_ _ | refine zbD ?_ | refine zbA ?_ _)); exact BK394.out) hb); have n1_ := Aside0.mk (blk_below (g := gb395) (o := .cells #[.int .i64 a1_0, .int .i64 a1_1] 43 (0, 0)) (by (with_reducible repeat (first | refine zbN ?_ _ | refine zbD ?_ | refine zbA ?_ _)); exact BK395.out) hb); have n2_ := Aside0.mk (blk_below (g := gb398) (o := .cells #[.int .i64 t396, .int .i64 t397] 43 (0, 0)) (by (with_reducible repeat (first | refine zbN ?_ _ | refine zbD ?_ | refine zbA ?_ _)); exact BK398.out) hb); have n3_ := Aside0.mk (below_step (by repeat (first | (with_reducible first | exact HB.out | apply zA | apply zN | apply zD | refine zS ?_ GE394.out | refine zS ?_ GE395.out | refine zS ?_ GE398.out) | exact HB.out)) hb); clear BK394; clear BK395; clear BK398; clear HB; have BK394 := n0_; have BK395 := n1_; have BK398 := n2_; have HB := n3_; clear n0_ n1_ n2_ n3_; (try clear hb); (try clear hb2); (try clear hk); (try clear hi)))
     go_ret
     exact ⟨by first | rfl | (simp [errW_none, errW_some] <;> rfl) | (simp only [← hji35]; first | rfl | (simp [errW_none, errW_some] <;> rfl)) | (simp [*, errW_none, errW_some] <;> rfl), by repeat (first | (with_reducible first | exact HB.out | apply zA | apply zN | apply zD | refine zS ?_ GE394.out | refine zS ?_ GE395.out | refine zS ?_ GE398.out) | exact HB.out)⟩
    ·rw [if_neg c34] at H
     have c34b0 : (a1_1 == t397) = false := beq_eq_false_iff_ne.mpr c34
     have c34b1 : (a1_1 != t397) = true := bne_iff_ne.mpr c34
     obtain ⟨ji44, hji44⟩ : ∃ j_ : Int, (mn a1_1 t397) = j_ := ⟨_, rfl⟩
     replace H : ((impl_grid_upright.f a0_0 a0_1 a1_0 (ji44)).bind fun t402 => (some t402)) = some r := by first | (rw [hji44] at H; exact H) | (simp only [hji44] at H ⊢; exact H)
     have hji44_ : (if t397 < a1_1 then t397 else a1_1) = ji44 := hji44
     replace H := Option.bind_eq_some_iff.mp H
     obtain ⟨t402, A450, H⟩ := H
     replace H : (some t402) = some r := H
     have A45 := Aside0.mk A450
     clear A450
     obtain rfl := Option.some.inj H
     have hnb46 := NB395_394.out
     have hnc46 := NB394_395.out
     have hnb47 := NB395_398.out
     have hnc47 := NB398_395.out
     have hcz48_0 : wc.cell? ⟨gb395, 0, none⟩ = some (.int .i64 a1_0) := (zbC BK395.out 0).trans rfl
     have hcz48_1 : wc.cell? ⟨gb395, 1, none⟩ = some (.int .i64 a1_1) := (zbC BK395.out 1).trans rfl
     have hfz48_0 := zbF BK395.out 0
     have hfz48_1 := zbF BK395.out 1
     have hnb49 := NB398_394.out
     have hnc49 := NB394_398.out
     have hcz50_0 : wc.cell? ⟨gb398, 0, none⟩ = some (.int .i64 t396) := (zbC BK398.out 0).trans rfl
     have hcz50_1 : wc.cell? ⟨gb398, 1, none⟩ = some (.int .i64 t397) := (zbC BK398.out 1).trans rfl
     have hfz50_0 := zbF BK398.out 0
     have hfz50_1 := zbF BK398.out 1
     have hcz51_0 : wc.cell? ⟨gb394, 0, none⟩ = some (.int .i64 a0_0) := (zbC BK394.out 0).trans rfl
     have hcz51_1 : wc.cell? ⟨gb394, 1, none⟩ = some (.int .i64 a0_1) := (zbC BK394.out 1).trans rfl
     have hfz51_0 := zbF BK394.out 0
     have hfz51_1 := zbF BK394.out 1
     go_wp2_with (first | ((with_reducible refine gate_callee (f := 80) rfl ?_); refine goesL_ (some 43) rfl rfl Tryd.func80 (by kernel_rfl) rfl #[.agg #[.int .i64 a0_0, .int .i64 a0_1], .int .i64 a1_0, .int .i64 ji44] rfl (by (try simp only [List.map_toArray, List.map_cons, List.map_nil]); first | done | (simp only [hji44]; rfl) | rfl | (simp only [List.length_drop, List.length_take]; rfl)) ?_; (with_reducible refine (impl_grid_upright.calls a0_0 a0_1 a1_0 ji44 t402 _ A45.out).mono ?_); rintro e w52 ⟨rfl, hb⟩; refine ⟨_, rfl, ?_⟩; have n0_ := Aside0.mk (blk_below (g := gb394) (o := .cells #[.int .i64 a0_0, .int .i64 a0_1] 48 (0, 0)) (by (with_reducible repeat (first | refine zbN ?_ _ | refine zbD ?_ | refine zbA ?_ _)); exact BK394.out) hb); have n1_ := Aside0.mk (blk_below (g := gb395) (o := .cells #[.int .i64 a1_0, .int .i64 a1_1] 43 (0, 0)) (by (with_reducible repeat (first | refine zbN ?_ _ | refine zbD ?_ | refine zbA ?_ _)); exact BK395.out) hb); have n2_ := Aside0.mk (blk_below (g := gb398) (o := .cells #[.int .i64 t396, .int .i64 t397] 43 (0, 0)) (by (with_reducible repeat (first | refine zbN ?_ _ | refine zbD ?_ | refine zbA ?_ _)); exact BK398.out) hb); have n3_ := Aside0.mk (below_step (by repeat (first | (with_reducible first | exact HB.out | apply zA | apply zN | apply zD | refine zS ?_ GE394.out | refine zS ?_ GE395.out | refine zS ?_ GE398.out) | exact HB.out)) hb); clear BK394; clear BK395; clear BK398; clear HB; have BK394 := n0_; have BK395 := n1_; have BK398 := n2_; have HB := n3_; clear n0_ n1_ n2_ n3_; (try clear hb); (try clear hb2); (try clear hk); (try clear hi)))
     go_ret
     exact ⟨by first | rfl | (simp [errW_none, errW_some] <;> rfl) | (simp only [← hji44]; first | rfl | (simp [errW_none, errW_some] <;> rfl)) | (simp [*, errW_none, errW_some] <;> rfl), by repeat (first | (with_reducible first | exact HB.out | apply zA | apply zN | apply zD | refine zS ?_ GE394.out | refine zS ?_ GE395.out | refine zS ?_ GE398.out) | exact HB.out)⟩

/-! ### impl_grid_stroke: function 63 -/
/-- The steps one after another: what is drawn so far, where it stands. -/
def strokeL (k : Nat) (w h : Int) : List UInt8 → Int → Int → Int → Option (Int × Bool)
 | [], o, _, _ => some (o, true)
 | b :: bs, o, x, y => (impl_grid_between.f k w h x y (b.toNat : Int)).bind fun e => if e = 0 then some (0, false) else if Go.bits .and .u64 o e = 0 then (impl_Corner_next.f x y (b.toNat : Int)).bind fun d => strokeL k w h bs (Go.bits .or .u64 o e) d.1 d.2 else some (0, false)
def impl_grid_stroke.f (k : Nat) (a0_0 : Int) (a0_1 : Int) (a1_0 : Int) (a1_1 : Int) (a2 : ByteArray) : Option (Int × Bool) := if a2.size ≤ 1000000 then strokeL k a0_0 a0_1 a2.data.toList 0 a1_0 a1_1 else none
theorem strokeL.mono (w h : Int) : ∀ (l : List UInt8) (o x y : Int) (k : Nat), LeO (strokeL k w h l o x y) (strokeL (k + 1) w h l o x y)
 | [], _, _, _, _ => LeO.refl _
 | b :: bs, o, x, y, k => by
  unfold strokeL
  refine LeO.bind (impl_grid_between.mono _ _ _ _ _ _) (fun e => ?_)
  refine LeO.ite (LeO.refl _) ?_
  refine LeO.ite ?_ (LeO.refl _)
  exact LeO.bind (LeO.refl _) (fun d => strokeL.mono w h bs _ _ _ k)
theorem impl_grid_stroke.mono : ∀ a0 a1 a2 a3 a4 k, LeO (impl_grid_stroke.f k a0 a1 a2 a3 a4) (impl_grid_stroke.f (k + 1) a0 a1 a2 a3 a4) := by
 intro a0 a1 a2 a3 a4 k
 unfold impl_grid_stroke.f
 exact LeO.ite (strokeL.mono _ _ _ _ _ _ _) (LeO.refl _)
theorem cell_keepT {wc w1 : World} {p : Addr} {v : Value} (h : wc.cell? p = some v) (hb : Below wc.heap.size wc w1) : w1.cell? p = some v := (hb.cell (World.block_lt_of_cell? _ _ h)).trans h
/-- What the walk knows of memory: the boxes of the grid and of the corner, the row of the steps. -/
def StrC (w w' : World) (a0_0 a0_1 x y : Int) (s : ByteArray) : Prop := w.heap.size + 1 + 1 < w'.heap.size ∧ w'.cell? ⟨w.heap.size, 0, none⟩ = some (.int .i64 a0_0) ∧ w'.cell? ⟨w.heap.size, 1, none⟩ = some (.int .i64 a0_1) ∧ w'.heap[w.heap.size + 1]? = some (.cells #[.int .i64 x, .int .i64 y] 43 (0, 0)) ∧
 ∀ j, j < s.size → w'.cell? ⟨w.heap.size + 1 + 1, j, none⟩ = some (.int .u8 (s.data.toList.getD j 0).toNat)
theorem StrC.keep {w wc w1 : World} {a0_0 a0_1 x y : Int} {s : ByteArray} (h : StrC w wc a0_0 a0_1 x y s) (hb : Below wc.heap.size wc w1) : StrC w w1 a0_0 a0_1 x y s :=
 ⟨Nat.lt_of_lt_of_le h.1 hb.size, cell_keepT h.2.1 hb, cell_keepT h.2.2.1 hb, (hb.block _ (by have := h.1; omega)).trans h.2.2.2.1, fun j hj => cell_keepT (h.2.2.2.2 j hj) hb⟩
theorem bytes_belowT {B : Nat} {w W : World} (h : Below B w W) (hB : B ≤ W.heap.size) (e : TypeId) (s : ByteArray) : Below B w (Go.Lib.bytesWorld W e s) :=
 h.trans ⟨rfl, rfl, rfl, by rw [Go.Lib.bytesWorld_size]; omega, fun i hi => Go.Lib.bytesWorld_at_old W e s i (by omega)⟩
theorem cell_farT {w : World} {p a : Addr} (u : Value) (h : a.block ≠ p.block) : (w.setCell p u).cell? a = w.cell? a := by
 unfold World.cell?
 rw [Below.heap_setCell w p u a.block h]
theorem StrC.put {w wc : World} {a0_0 a0_1 x y : Int} {s : ByteArray} (h : StrC w wc a0_0 a0_1 x y s) (d1 d2 : Int) : StrC w ((wc.setCell ⟨w.heap.size + 1, 0, none⟩ (.int .i64 d1)).setCell ⟨w.heap.size + 1, 1, none⟩ (.int .i64 d2)) a0_0 a0_1 d1 d2 s := by
 have hf : ∀ a : Addr, a.block ≠ w.heap.size + 1 → ((wc.setCell ⟨w.heap.size + 1, 0, none⟩ (.int .i64 d1)).setCell ⟨w.heap.size + 1, 1, none⟩ (.int .i64 d2)).cell? a = wc.cell? a := fun a ha => (cell_farT _ ha).trans (cell_farT _ ha)
 refine ⟨by simpa [World.setCell] using h.1, ?_, ?_, ?_, fun j hj => ?_⟩
 ·rw [hf _ (by simp)]; exact h.2.1
 ·rw [hf _ (by simp)]; exact h.2.2.1
 ·exact blk_set (blk_set h.2.2.2.1 0 _) 1 _
 ·rw [hf _ (by simp)]; exact h.2.2.2.2 j hj
set_option maxHeartbeats 8000000 in
set_option maxRecDepth 100000 in
theorem impl_grid_stroke.calls (k : Nat) (a0_0 : Int) (a0_1 : Int) (a1_0 : Int) (a1_1 : Int) (a2 : ByteArray) (r1 : Int) (r2 : Bool) (w : World) (h : impl_grid_stroke.f k a0_0 a0_1 a1_0 a1_1 a2 = some (r1, r2)) :
  Calls Tryd.prog 63 #[.agg #[.int .i64 a0_0, .int .i64 a0_1], .agg #[.int .i64 a1_0, .int .i64 a1_1], .string a2] w fun e w' => e = .returned (.tuple #[.int .u64 r1, .bool r2]) ∧ Below w.heap.size w w' := by
 unfold impl_grid_stroke.f at h
 by_cases hl : a2.size ≤ 1000000
 ·rw [if_pos hl] at h
  have HN := Aside0.mk h
  clear h
  have kc : ∀ (o1 o2 : Obj), (convert 9 87 (.string a2)).run Tryd.prog ((w.alloc o1).alloc o2) = .ok (.slice (some ⟨w.heap.size + 1 + 1, 0, none⟩) a2.size (grownCap ((w.alloc o1).alloc o2) a2.size 0 5)) (Go.Lib.bytesWorld ((w.alloc o1).alloc o2) 5 a2) := fun o1 o2 => by
   have hs : ((w.alloc o1).alloc o2).heap.size = w.heap.size + 1 + 1 := by simp
   have := Go.Lib.run_convert_string_bytes (P := Tryd.prog) ((w.alloc o1).alloc o2) 9 87 5 a2 Tryd.underlying9 Tryd.underlying87 Tryd.underlying5
   rw [hs] at this
   exact this
  have hst : StrC w (Go.Lib.bytesWorld ((w.alloc (.cells #[.int .i64 a0_0, .int .i64 a0_1] 48)).alloc (.cells #[.int .i64 a1_0, .int .i64 a1_1] 43)) 5 a2) a0_0 a0_1 a1_0 a1_1 a2 := by
   have s1 : (w.alloc (.cells #[.int .i64 a0_0, .int .i64 a0_1] 48)).heap.size = w.heap.size + 1 := by simp
   have s2 : ((w.alloc (.cells #[.int .i64 a0_0, .int .i64 a0_1] 48)).alloc (.cells #[.int .i64 a1_0, .int .i64 a1_1] 43)).heap.size = w.heap.size + 1 + 1 := by simp
   refine ⟨by rw [Go.Lib.bytesWorld_size, s2]; omega, ?_, ?_, ?_, fun j hj => ?_⟩
   ·rw [Go.Lib.bytesWorld_old _ _ _ _ (by rw [s2]; simp; omega)]
    exact Go.Lib.cell?_alloc_some _ (by rw [World.cell?_alloc_at _ _ _ _ rfl]; rfl)
   ·rw [Go.Lib.bytesWorld_old _ _ _ _ (by rw [s2]; simp; omega)]
    exact Go.Lib.cell?_alloc_some _ (by rw [World.cell?_alloc_at _ _ _ _ rfl]; rfl)
   ·rw [Go.Lib.bytesWorld_at_old _ _ _ _ (by rw [s2]; omega)]
    have e := Array.getElem?_push_size (xs := (w.alloc (.cells #[.int .i64 a0_0, .int .i64 a0_1] 48)).heap) (x := (.cells #[.int .i64 a1_0, .int .i64 a1_1] 43 : Obj))
    rw [s1] at e
    exact e
   ·have := Go.Lib.bytesWorld_cell ((w.alloc (.cells #[.int .i64 a0_0, .int .i64 a0_1] 48)).alloc (.cells #[.int .i64 a1_0, .int .i64 a1_1] 43)) 5 a2 j hj
    rw [s2] at this
    exact this
  have hbw : Below w.heap.size w (Go.Lib.bytesWorld ((w.alloc (.cells #[.int .i64 a0_0, .int .i64 a0_1] 48)).alloc (.cells #[.int .i64 a1_0, .int .i64 a1_1] 43)) 5 a2) := by
   refine bytes_belowT (zA (zA (Below.refl _ _) _) _) ?_ _ _
   simp <;> omega
  have HS := Aside0.mk hst
  have HW := Aside0.mk hbw
  clear hst hbw
  go_enter Tryd.func63, Tryd.ntmps63
  go_wp2
  go_loopg [8, 15] a2.size (fun gg v8 v15 w' => ∃ (o : Int) (i : Nat) (x y : Int), v8 = .int .u64 o ∧ v15 = .int .i64 i ∧ i ≤ a2.size ∧ a2.size - i ≤ gg ∧ Aside0 (strokeL k a0_0 a0_1 (a2.data.toList.drop i) o x y = some (r1, r2)) ∧ Aside0 (Below w.heap.size w w') ∧ Aside0 (StrC w w' a0_0 a0_1 x y a2))
  case atStart => exact ⟨0, 0, a1_0, a1_1, rfl, rfl, Nat.zero_le _, by omega, ⟨by simpa using HN.out⟩, HW, HS⟩
  case round =>
   clear HN HS HW kc
   obtain ⟨o, i, x, y, rfl, rfl, hi, hg, HA, HB, HM⟩ := hrel
   by_cases hlt : i < a2.size
   ·have hlz : (i : Int) < (a2.size : Int) := by omega
    have hlen : a2.data.toList.length = a2.size := by rw [Array.length_toList]; rfl
    obtain ⟨m0, m1, m2, m3, m4⟩ := HM.out
    have hrow := m4 i hlt
    have H := HA.out
    rw [List.drop_eq_getElem_cons (by omega)] at H
    have hx : a2.data.toList.getD i 0 = a2.data.toList[i] := by simp [List.getD_eq_getElem?_getD, hlen, hlt]
    rw [hx] at hrow
    generalize a2.data.toList[i] = b at *
    simp only [strokeL] at H
    replace H := Option.bind_eq_some_iff.mp H
    obtain ⟨e, he, H⟩ := H
    have HE := Aside0.mk he
    have c0 := (zbC m3 0).trans rfl
    have c1 := (zbC m3 1).trans rfl
    have f0 := zbF m3 0
    have f1 := zbF m3 1
    clear he m4 HA
    by_cases h0 : e = 0
    ·rw [if_pos h0] at H
     obtain ⟨rfl, rfl⟩ := Prod.mk.inj (Option.some.inj H)
     subst h0
     clear H
     go_wp2_with (go_at_call 85; (with_reducible refine (impl_grid_between.calls k a0_0 a0_1 x y _ 0 _ HE.out).mono ?_); rintro e w1 ⟨rfl, hb⟩)
     go_ret2
     exact ⟨rfl, HB.out.trans (hb.mono HB.out.size)⟩
    ·rw [if_neg h0] at H
     have b0 : (e == 0) = false := beq_eq_false_iff_ne.2 h0
     by_cases h1 : Go.bits .and .u64 o e = 0
     ·rw [if_pos h1] at H
      have b1 : (Go.bits .and .u64 o e != 0) = false := bne_eq_false_iff_eq.2 h1
      replace H := Option.bind_eq_some_iff.mp H
      obtain ⟨d, hd, H⟩ := H
      obtain ⟨d1, d2⟩ := d
      have HD := Aside0.mk hd
      have HH := Aside0.mk H
      clear hd H
      go_wp2_with (first | (go_at_call 85; (with_reducible refine (impl_grid_between.calls k a0_0 a0_1 x y _ e _ HE.out).mono ?_); rintro e w1 ⟨rfl, hb⟩; have n3 := (hb.block _ (by omega)).trans m3; have c0 : w1.cell? ⟨w.heap.size + 1, 0, none⟩ = some (.int .i64 x) := (zbC n3 0).trans rfl; have c1 : w1.cell? ⟨w.heap.size + 1, 1, none⟩ = some (.int .i64 y) := (zbC n3 1).trans rfl; have f0 := zbF n3 0; have f1 := zbF n3 1) | (go_at_call 86; (with_reducible refine (impl_Corner_next.calls x y _ d1 d2 _ HD.out).mono ?_); rintro e w2 ⟨rfl, hb2⟩; have k3 := (hb2.block _ (by have := hb.size; omega)).trans n3; have c0 : w2.cell? ⟨w.heap.size + 1, 0, none⟩ = some (.int .i64 x) := (zbC k3 0).trans rfl; have c1 : w2.cell? ⟨w.heap.size + 1, 1, none⟩ = some (.int .i64 y) := (zbC k3 1).trans rfl; have f0 := zbF k3 0; have f1 := zbF k3 1))
      have hbb := hb.trans (hb2.mono hb.size)
      have hM2 := (HM.out.keep hbb).put d1 d2
      have hsz := HB.out.size
      go_roundg (a2.size - (i + 1))
      case measure => omega
      case rel => exact ⟨_, i + 1, d1, d2, rfl, by go_num, by omega, by omega, HH, ⟨((HB.out.trans (hbb.mono hsz)).setCell (p := ⟨w.heap.size + 1, 0, none⟩) (by simp) _).setCell (p := ⟨w.heap.size + 1, 1, none⟩) (by simp) _⟩, ⟨hM2⟩⟩
     ·rw [if_neg h1] at H
      have b1 : (Go.bits .and .u64 o e != 0) = true := bne_iff_ne.2 h1
      obtain ⟨rfl, rfl⟩ := Prod.mk.inj (Option.some.inj H)
      clear H
      go_wp2_with (go_at_call 85; (with_reducible refine (impl_grid_between.calls k a0_0 a0_1 x y _ e _ HE.out).mono ?_); rintro e w1 ⟨rfl, hb⟩)
      go_ret2
      exact ⟨rfl, HB.out.trans (hb.mono HB.out.size)⟩
   ·have hlz : ¬ (i : Int) < (a2.size : Int) := by omega
    have H := HA.out
    rw [List.drop_of_length_le (by rw [Array.length_toList]; exact Nat.le_of_not_lt hlt)] at H
    obtain ⟨rfl, rfl⟩ := Prod.mk.inj (Option.some.inj H)
    clear H HA
    go_wp2
    go_ret2
    exact ⟨rfl, HB.out⟩
 ·rw [if_neg hl] at h; cases h

/-! ### impl_FigureOfStroke: function 33 -/
def impl_FigureOfStroke.j0 : Nat → ByteArray → Bool → Int → Int → Int → Int → Option (Int × Int × List Int × List Int × Bool)
 | 0, _, _, _, _, _, _ => none
 | k + 1, x3, x30, x404000, x404001, x406000, x406001 => if x30 = true then (some (0, 0, ([] : List Int), ([] : List Int), false)) else ((impl_grid_stroke.f k x406000 x406001 x404000 x404001 x3).bind fun bt409 => (if bt409.2 = true then ((impl_grid_figure.f k x406000 x406001 bt409.1).bind fun bt411 => (some (bt411.1, bt411.2.1, bt411.2.2.1, bt411.2.2.2, true))) else (some (0, 0, ([] : List Int), ([] : List Int), false))))
def impl_FigureOfStroke.f (k : Nat) (a0 : Int) (a1 : Int) (a2_0 : Int) (a2_1 : Int) (a3 : ByteArray) : Option (Int × Int × List Int × List Int × Bool) := (impl_isGrid.f a0 a1).bind fun t406 => (if t406 = true then ((impl_grid_isCorner.f a0 a1 a2_0 a2_1).bind fun t407 => (if t407 = true then ((impl_areSteps.f a3).bind fun t408 => (impl_FigureOfStroke.j0 k a3 (!t408) a2_0 a2_1 a0 a1)) else (impl_FigureOfStroke.j0 k a3 true a2_0 a2_1 a0 a1))) else (impl_FigureOfStroke.j0 k a3 true a2_0 a2_1 a0 a1))
theorem impl_FigureOfStroke.mono_l : ∀ k, (∀ y0 y1 y2 y3 y4 y5, LeO (impl_FigureOfStroke.j0 k y0 y1 y2 y3 y4 y5) (impl_FigureOfStroke.j0 (k + 1) y0 y1 y2 y3 y4 y5))
 | 0 => fun _ _ _ _ _ _ r h => by simp [impl_FigureOfStroke.j0] at h
 | k + 1 => by
  have ih0 := impl_FigureOfStroke.mono_l k
  ·intro y0 y1 y2 y3 y4 y5
   unfold impl_FigureOfStroke.j0
   repeat' first
   | (with_reducible exact ih0 _ _ _ _ _ _)
   | (with_reducible exact impl_grid_figure.mono _ _ _ _)
   | (with_reducible exact impl_grid_stroke.mono _ _ _ _ _ _)
   | (with_reducible exact LeO.refl _)
   | (with_reducible exact LeO.none _)
   | (with_reducible refine LeO.ite ?_ ?_)
   | (with_reducible refine LeO.bind ?_ (fun _ => ?_))
   | exact ih0 _ _ _ _ _ _
   | exact impl_grid_figure.mono _ _ _ _
   | exact impl_grid_stroke.mono _ _ _ _ _ _
   | exact LeO.none _
   | refine LeO.ite ?_ ?_
   | refine LeO.bind ?_ (fun _ => ?_)
theorem impl_FigureOfStroke.mono : ∀ a0 a1 a2 a3 a4 k, LeO (impl_FigureOfStroke.f k a0 a1 a2 a3 a4) (impl_FigureOfStroke.f (k + 1) a0 a1 a2 a3 a4) := by
 intro a0 a1 a2 a3 a4 k
 have ih0 := impl_FigureOfStroke.mono_l k
 unfold impl_FigureOfStroke.f
 repeat' first
   | (with_reducible exact ih0 _ _ _ _ _ _)
   | (with_reducible exact impl_grid_figure.mono _ _ _ _)
   | (with_reducible exact impl_grid_stroke.mono _ _ _ _ _ _)
   | (with_reducible exact LeO.refl _)
   | (with_reducible exact LeO.none _)
   | (with_reducible refine LeO.ite ?_ ?_)
   | (with_reducible refine LeO.bind ?_ (fun _ => ?_))
   | exact ih0 _ _ _ _ _ _
   | exact impl_grid_figure.mono _ _ _ _
   | exact impl_grid_stroke.mono _ _ _ _ _ _
   | exact LeO.none _
   | refine LeO.ite ?_ ?_
   | refine LeO.bind ?_ (fun _ => ?_)
set_option maxHeartbeats 8000000 in
set_option maxRecDepth 100000 in
theorem impl_FigureOfStroke.calls (k : Nat) (a0 : Int) (a1 : Int) (a2_0 : Int) (a2_1 : Int) (a3 : ByteArray) (r1 : Int) (r2 : Int) (r3 : List Int) (r4 : List Int) (r5 : Bool) (w : World) (hG : LaidG w) (h : impl_FigureOfStroke.f k a0 a1 a2_0 a2_1 a3 = some (r1, r2, r3, r4, r5)) :
  Calls Tryd.prog 33 #[.int .i64 a0, .int .i64 a1, .agg #[.int .i64 a2_0, .int .i64 a2_1], .string a3] w fun e w' => ∃ v2_ v3_ : Value, e = .returned (.tuple #[.agg #[.int .i64 r1, .int .i64 r2, v2_, v3_], .bool r5]) ∧ Kd.R (Kd.int .i64) 3 w' w.heap.size (fun k_ => some k_ ≠ (v3_ : Value).ownBlock) v2_ r3 ∧ Kd.R (Kd.int .i64) 3 w' w.heap.size (fun k_ => some k_ ≠ (v2_ : Value).ownBlock) v3_ r4 ∧ Below w.heap.size w w' := by
 have hu43 := Tryd.underlying43
 have hu26 := Tryd.underlying26
 have hu48 := Tryd.underlying48
 have HG := Aside0.mk hG
 clear hG
 have HB := Aside0.mk (Below.refl w.heap.size w)
 have H : ((impl_isGrid.f a0 a1).bind fun t406 => (if t406 = true then ((impl_grid_isCorner.f a0 a1 a2_0 a2_1).bind fun t407 => (if t407 = true then ((impl_areSteps.f a3).bind fun t408 => (impl_FigureOfStroke.j0 k a3 (!t408) a2_0 a2_1 a0 a1)) else (impl_FigureOfStroke.j0 k a3 true a2_0 a2_1 a0 a1))) else (impl_FigureOfStroke.j0 k a3 true a2_0 a2_1 a0 a1))) = some (r1, r2, r3, r4, r5) := h
 clear h
 have HC5 := Aside0.mk H
 clear H
 go_enter Tryd.func33, Tryd.ntmps33
 go_upto_region 2 with (first | ((with_reducible refine gate_dst (N := 6) rfl ?_); refine box_event ?hg (N := 6) ?hd (cs := #[.int .i64 a2_0, .int .i64 a2_1]) (t := 43) ?hr ?_; (case hd => rfl); (case hg => rfl); (case hr => first | (go_simp; done) | (go_simp; rfl)); intro gb403 hg w6 hbox hb; have n0_ := Aside0.mk (below_step (by repeat (first | (with_reducible first | exact HB.out | apply zA | apply zN | apply zD) | exact HB.out)) hb); have n1_ := Aside0.mk (hbox); have n2_ := Aside0.mk ((by rw [hg]; exact (below_size (by repeat (first | (with_reducible first | exact HB.out | apply zA | apply zN | apply zD) | exact HB.out))) : w.heap.size ≤ gb403)); have n3_ := Aside0.mk ((by rw [hg]; exact (below_size (by repeat (first | (with_reducible first | exact HB.out | apply zA | apply zN | apply zD) | exact HB.out))) : w.heap.size ≤ gb403)); clear HB; have HB := n0_; have BK403 := n1_; have GW403 := n2_; have GE403 := n3_; clear n0_ n1_ n2_ n3_; clear hb hbox hg) | ((with_reducible refine gate_dst (N := 8) rfl ?_); refine box_event ?hg (N := 8) ?hd (cs := #[.int .i64 0, .int .i64 0, .slice none 0 0, .slice none 0 0]) (t := 26) ?hr ?_; (case hd => rfl); (case hg => rfl); (case hr => first | (go_simp; done) | (go_simp; rfl)); intro gb404 hg w7 hbox hb; have n0_ := Aside0.mk (blk_below (g := gb403) (o := .cells #[.int .i64 a2_0, .int .i64 a2_1] 43 (0, 0)) (by (with_reducible repeat (first | refine zbN ?_ _ | refine zbD ?_ | refine zbA ?_ _)); exact BK403.out) hb); have n1_ := Aside0.mk (below_step (by repeat (first | (with_reducible first | exact HB.out | apply zA | apply zN | apply zD | refine zS ?_ GE403.out) | exact HB.out)) hb); have n2_ := Aside0.mk (hbox); have n3_ := Aside0.mk ((by rw [hg]; exact (below_size (by repeat (first | (with_reducible first | exact HB.out | apply zA | apply zN | apply zD | refine zS ?_ GE403.out) | exact HB.out))) : w.heap.size ≤ gb404)); have n4_ := Aside0.mk ((by rw [hg]; exact (below_size (by repeat (first | (with_reducible first | exact HB.out | apply zA | apply zN | apply zD | refine zS ?_ GE403.out) | exact HB.out))) : w.heap.size ≤ gb404)); have n5_ := Aside0.mk ((by rw [hg]; exact Nat.ne_of_lt (blk_lt (g := gb403) (o := .cells #[.int .i64 a2_0, .int .i64 a2_1] 43 (0, 0)) (by (with_reducible repeat (first | refine zbN ?_ _ | refine zbD ?_ | refine zbA ?_ _)); exact BK403.out)) : gb403 ≠ gb404)); have n6_ := Aside0.mk ((by rw [hg]; exact Nat.ne_of_gt (blk_lt (g := gb403) (o := .cells #[.int .i64 a2_0, .int .i64 a2_1] 43 (0, 0)) (by (with_reducible repeat (first | refine zbN ?_ _ | refine zbD ?_ | refine zbA ?_ _)); exact BK403.out)) : gb404 ≠ gb403)); clear BK403; clear HB; have BK403 := n0_; have HB := n1_; have BK404 := n2_; have GW404 := n3_; have GE404 := n4_; have NB403_404 := n5_; have NB404_403 := n6_; clear n0_ n1_ n2_ n3_ n4_ n5_ n6_; clear hb hbox hg) | ((with_reducible refine gate_dst (N := 10) rfl ?_); refine box_event ?hg (N := 10) ?hd (cs := #[.int .i64 0, .int .i64 0]) (t := 48) ?hr ?_; (case hd => rfl); (case hg => rfl); (case hr => first | (go_simp; done) | (go_simp; rfl)); intro gb405 hg w8 hbox hb; have n0_ := Aside0.mk (blk_below (g := gb403) (o := .cells #[.int .i64 a2_0, .int .i64 a2_1] 43 (0, 0)) (by (with_reducible repeat (first | refine zbN ?_ _ | refine zbD ?_ | refine zbA ?_ _)); exact BK403.out) hb); have n1_ := Aside0.mk (blk_below (g := gb404) (o := .cells #[.int .i64 0, .int .i64 0, .slice none 0 0, .slice none 0 0] 26 (0, 0)) (by (with_reducible repeat (first | refine zbN ?_ _ | refine zbD ?_ | refine zbA ?_ _)); exact BK404.out) hb); have n2_ := Aside0.mk (below_step (by repeat (first | (with_reducible first | exact HB.out | apply zA | apply zN | apply zD | refine zS ?_ GE403.out | refine zS ?_ GE404.out) | exact HB.out)) hb); have n3_ := Aside0.mk (hbox); have n4_ := Aside0.mk ((by rw [hg]; exact (below_size (by repeat (first | (with_reducible first | exact HB.out | apply zA | apply zN | apply zD | refine zS ?_ GE403.out | refine zS ?_ GE404.out) | exact HB.out))) : w.heap.size ≤ gb405)); have n5_ := Aside0.mk ((by rw [hg]; exact (below_size (by repeat (first | (with_reducible first | exact HB.out | apply zA | apply zN | apply zD | refine zS ?_ GE403.out | refine zS ?_ GE404.out) | exact HB.out))) : w.heap.size ≤ gb405)); have n6_ := Aside0.mk ((by rw [hg]; exact Nat.ne_of_lt (blk_lt (g := gb403) (o := .cells #[.int .i64 a2_0, .int .i64 a2_1] 43 (0, 0)) (by (with_reducible repeat (first | refine zbN ?_ _ | refine zbD ?_ | refine zbA ?_ _)); exact BK403.out)) : gb403 ≠ gb405)); have n7_ := Aside0.mk ((by rw [hg]; exact Nat.ne_of_gt (blk_lt (g := gb403) (o := .cells #[.int .i64 a2_0, .int .i64 a2_1] 43 (0, 0)) (by (with_reducible repeat (first | refine zbN ?_ _ | refine zbD ?_ | refine zbA ?_ _)); exact BK403.out)) : gb405 ≠ gb403)); have n8_ := Aside0.mk ((by rw [hg]; exact Nat.ne_of_lt (blk_lt (g := gb404) (o := .cells #[.int .i64 0, .int .i64 0, .slice none 0 0, .slice none 0 0] 26 (0, 0)) (by (with_reducible repeat (first | refine zbN ?_ _ | refine zbD ?_ | refine zbA ?_ _)); exact BK404.out)) : gb404 ≠ gb405)); have n9_ := Aside0.mk ((by rw [hg]; exact Nat.ne_of_gt (blk_lt (g := gb404) (o := .cells #[.int .i64 0, .int .i64 0, .slice none 0 0, .slice none 0 0] 26 (0, 0)) (by (with_reducible repeat (first | refine zbN ?_ _ | refine zbD ?_ | refine zbA ?_ _)); exact BK404.out)) : gb405 ≠ gb404)); clear BK403; clear BK404; clear HB; have BK403 := n0_; have BK404 := n1_; have HB := n2_; have BK405 := n3_; have GW405 := n4_; have GE405 := n5_; have NB403_405 := n6_; have NB405_403 := n7_; have NB404_405 := n8_; have NB405_404 := n9_; clear n0_ n1_ n2_ n3_ n4_ n5_ n6_ n7_ n8_ n9_; clear hb hbox hg; have hnb9 := NB405_403.out; have hnc9 := NB403_405.out; have hnb10 := NB405_404.out; have hnc10 := NB404_405.out; have hcz11_0 : w8.cell? ⟨gb405, 0, none⟩ = some (.int .i64 0) := (zbC BK405.out 0).trans rfl; have hcz11_1 : w8.cell? ⟨gb405, 1, none⟩ = some (.int .i64 0) := (zbC BK405.out 1).trans rfl; have hfz11_0 := zbF BK405.out 0; have hfz11_1 := zbF BK405.out 1))
 (try simp only [Act.put, List.setIfInBounds_toArray, List.set_cons_zero, List.set_cons_succ])
 go_cut [30] (fun v30 wc => ∃ (kq : Nat) (x30_4 : Bool), v30 = .bool x30_4 ∧ Aside0 (impl_FigureOfStroke.j0 kq a3 x30_4 a2_0 a2_1 a0 a1 = some (r1, r2, r3, r4, r5)) ∧ Aside0 (kq ≤ k) ∧ Aside0 (wc.heap[gb403]? = some (.cells #[.int .i64 a2_0, .int .i64 a2_1] 43 (0, 0))) ∧ Aside0 (wc.heap[gb404]? = some (.cells #[.int .i64 0, .int .i64 0, (.slice none 0 0), (.slice none 0 0)] 26 (0, 0))) ∧ Aside0 (wc.heap[gb405]? = some (.cells #[.int .i64 a0, .int .i64 a1] 48 (0, 0))) ∧ Aside0 (Below w.heap.size w wc))
 case first =>
  have H := HC5.out
  clear HC5
  replace H := Option.bind_eq_some_iff.mp H
  obtain ⟨t406, A120, H⟩ := H
  replace H : (if t406 = true then ((impl_grid_isCorner.f a0 a1 a2_0 a2_1).bind fun t407 => (if t407 = true then ((impl_areSteps.f a3).bind fun t408 => (impl_FigureOfStroke.j0 k a3 (!t408) a2_0 a2_1 a0 a1)) else (impl_FigureOfStroke.j0 k a3 true a2_0 a2_1 a0 a1))) else (impl_FigureOfStroke.j0 k a3 true a2_0 a2_1 a0 a1)) = some (r1, r2, r3, r4, r5) := H
  have A12 := Aside0.mk A120
  clear A120
  by_cases c13 : t406 = true
  ·subst c13
   have H1 : ((impl_grid_isCorner.f a0 a1 a2_0 a2_1).bind fun t407 => (if t407 = true then ((impl_areSteps.f a3).bind fun t408 => (impl_FigureOfStroke.j0 k a3 (!t408) a2_0 a2_1 a0 a1)) else (impl_FigureOfStroke.j0 k a3 true a2_0 a2_1 a0 a1))) = some (r1, r2, r3, r4, r5) := by rw [if_pos rfl] at H; exact H
   clear H
   have H := H1
   clear H1
   replace H := Option.bind_eq_some_iff.mp H
   obtain ⟨t407, A140, H⟩ := H
   replace H : (if t407 = true then ((impl_areSteps.f a3).bind fun t408 => (impl_FigureOfStroke.j0 k a3 (!t408) a2_0 a2_1 a0 a1)) else (impl_FigureOfStroke.j0 k a3 true a2_0 a2_1 a0 a1)) = some (r1, r2, r3, r4, r5) := H
   have A14 := Aside0.mk A140
   clear A140
   by_cases c15 : t407 = true
   ·subst c15
    have H1 : ((impl_areSteps.f a3).bind fun t408 => (impl_FigureOfStroke.j0 k a3 (!t408) a2_0 a2_1 a0 a1)) = some (r1, r2, r3, r4, r5) := by rw [if_pos rfl] at H; exact H
    clear H
    have H := H1
    clear H1
    replace H := Option.bind_eq_some_iff.mp H
    obtain ⟨t408, A160, H⟩ := H
    replace H : (impl_FigureOfStroke.j0 k a3 (!t408) a2_0 a2_1 a0 a1) = some (r1, r2, r3, r4, r5) := H
    have A16 := Aside0.mk A160
    clear A160
    have H' := Aside0.mk H
    clear H
    go_wp2_with (first | ((with_reducible refine gate_callee (f := 51) rfl ?_); refine goesL_ (some 18) rfl rfl Tryd.func51 (by kernel_rfl) rfl #[.int .i64 a0, .int .i64 a1] rfl (by (try simp only [List.map_toArray, List.map_cons, List.map_nil]); first | done | rfl | (simp only [List.length_drop, List.length_take]; rfl)) ?_; (with_reducible refine (impl_isGrid.calls a0 a1 true _ A12.out).mono ?_); rintro e w' ⟨rfl, ⟨nd, rfl⟩⟩; refine ⟨_, rfl, ?_⟩; have hnb17 := NB405_403.out; have hnc17 := NB403_405.out; have hnb18 := NB405_404.out; have hnc18 := NB404_405.out; have hcz19_0 : w8.cell? ⟨gb405, 0, none⟩ = some (.int .i64 0) := (zbC BK405.out 0).trans rfl; have hcz19_1 : w8.cell? ⟨gb405, 1, none⟩ = some (.int .i64 0) := (zbC BK405.out 1).trans rfl; have hfz19_0 := zbF BK405.out 0; have hfz19_1 := zbF BK405.out 1; have hnb20 := NB403_404.out; have hnc20 := NB404_403.out; have hcz21_0 : w8.cell? ⟨gb403, 0, none⟩ = some (.int .i64 a2_0) := (zbC BK403.out 0).trans rfl; have hcz21_1 : w8.cell? ⟨gb403, 1, none⟩ = some (.int .i64 a2_1) := (zbC BK403.out 1).trans rfl; have hfz21_0 := zbF BK403.out 0; have hfz21_1 := zbF BK403.out 1) | (go_at_call 61; (with_reducible refine (impl_grid_isCorner.calls a0 a1 a2_0 a2_1 true _ A14.out).mono ?_); rintro e w22 ⟨rfl, hb⟩; have n0_ := Aside0.mk (blk_below (g := gb403) (o := .cells #[.int .i64 a2_0, .int .i64 a2_1] 43 (0, 0)) (by (with_reducible repeat (first | refine zbN ?_ _ | refine zbD ?_ | refine zbA ?_ _)); refine blk_far ?_ NB403_405.out _; (with_reducible repeat (first | refine zbN ?_ _ | refine zbD ?_ | refine zbA ?_ _)); refine blk_far ?_ NB403_405.out _; (with_reducible repeat (first | refine zbN ?_ _ | refine zbD ?_ | refine zbA ?_ _)); exact BK403.out) hb); have n1_ := Aside0.mk (blk_below (g := gb404) (o := .cells #[.int .i64 0, .int .i64 0, .slice none 0 0, .slice none 0 0] 26 (0, 0)) (by (with_reducible repeat (first | refine zbN ?_ _ | refine zbD ?_ | refine zbA ?_ _)); refine blk_far ?_ NB404_405.out _; (with_reducible repeat (first | refine zbN ?_ _ | refine zbD ?_ | refine zbA ?_ _)); refine blk_far ?_ NB404_405.out _; (with_reducible repeat (first | refine zbN ?_ _ | refine zbD ?_ | refine zbA ?_ _)); exact BK404.out) hb); have n2_ := Aside0.mk (blk_below (g := gb405) (o := .cells #[.int .i64 a0, .int .i64 a1] 48 (0, 0)) (by (with_reducible repeat (first | refine zbN ?_ _ | refine zbD ?_ | refine zbA ?_ _)); refine blk_put (cs := #[.int .i64 a0, .int .i64 0]) ?_ 1 _ rfl; (with_reducible repeat (first | refine zbN ?_ _ | refine zbD ?_ | refine zbA ?_ _)); refine blk_put (cs := #[.int .i64 0, .int .i64 0]) ?_ 0 _ rfl; (with_reducible repeat (first | refine zbN ?_ _ | refine zbD ?_ | refine zbA ?_ _)); exact BK405.out) hb); have n3_ := Aside0.mk (below_step (by repeat (first | (with_reducible first | exact HB.out | apply zA | apply zN | apply zD | refine zS ?_ GE403.out | refine zS ?_ GE404.out | refine zS ?_ GE405.out) | exact HB.out)) hb); clear BK403; clear BK404; clear BK405; clear HB; have BK403 := n0_; have BK404 := n1_; have BK405 := n2_; have HB := n3_; clear n0_ n1_ n2_ n3_; (try clear hb); (try clear hb2); (try clear hk); (try clear hi)) | (go_at_call 62; (with_reducible refine (impl_areSteps.calls a3 t408 _ A16.out).mono ?_); rintro e w23 ⟨rfl, hb⟩; have n0_ := Aside0.mk (blk_below (g := gb403) (o := .cells #[.int .i64 a2_0, .int .i64 a2_1] 43 (0, 0)) (by (with_reducible repeat (first | refine zbN ?_ _ | refine zbD ?_ | refine zbA ?_ _)); exact BK403.out) hb); have n1_ := Aside0.mk (blk_below (g := gb404) (o := .cells #[.int .i64 0, .int .i64 0, .slice none 0 0, .slice none 0 0] 26 (0, 0)) (by (with_reducible repeat (first | refine zbN ?_ _ | refine zbD ?_ | refine zbA ?_ _)); exact BK404.out) hb); have n2_ := Aside0.mk (blk_below (g := gb405) (o := .cells #[.int .i64 a0, .int .i64 a1] 48 (0, 0)) (by (with_reducible repeat (first | refine zbN ?_ _ | refine zbD ?_ | refine zbA ?_ _)); exact BK405.out) hb); have n3_ := Aside0.mk (below_step (by repeat (first | (with_reducible first | exact HB.out | apply zA | apply zN | apply zD | refine zS ?_ GE403.out | refine zS ?_ GE404.out | refine zS ?_ GE405.out) | exact HB.out)) hb); clear BK403; clear BK404; clear BK405; clear HB; have BK403 := n0_; have BK404 := n1_; have BK405 := n2_; have HB := n3_; clear n0_ n1_ n2_ n3_; (try clear hb); (try clear hb2); (try clear hk); (try clear hi)))
    go_meet
    case rel => exact ⟨_, (!t408), (by first | rfl | (simp; done) | (simp [*]; done)), H', ⟨by first | omega | exact Nat.le_refl _⟩, ⟨by (with_reducible repeat (first | refine zbN ?_ _ | refine zbD ?_ | refine zbA ?_ _)); exact BK403.out⟩, ⟨by (with_reducible repeat (first | refine zbN ?_ _ | refine zbD ?_ | refine zbA ?_ _)); exact BK404.out⟩, ⟨by (with_reducible repeat (first | refine zbN ?_ _ | refine zbD ?_ | refine zbA ?_ _)); exact BK405.out⟩, ⟨by repeat (first | (with_reducible first | exact HB.out | apply zA | apply zN | apply zD | refine zS ?_ GE403.out | refine zS ?_ GE404.out | refine zS ?_ GE405.out) | exact HB.out)⟩⟩
   ·replace c15 := Bool.eq_false_iff.mpr c15
    subst c15
    have H1 : (impl_FigureOfStroke.j0 k a3 true a2_0 a2_1 a0 a1) = some (r1, r2, r3, r4, r5) := by rw [if_neg (show ¬ (false = true) by decide)] at H; exact H
    clear H
    have H := H1
    clear H1
    have H' := Aside0.mk H
    clear H
    go_wp2_with (first | ((with_reducible refine gate_callee (f := 51) rfl ?_); refine goesL_ (some 18) rfl rfl Tryd.func51 (by kernel_rfl) rfl #[.int .i64 a0, .int .i64 a1] rfl (by (try simp only [List.map_toArray, List.map_cons, List.map_nil]); first | done | rfl | (simp only [List.length_drop, List.length_take]; rfl)) ?_; (with_reducible refine (impl_isGrid.calls a0 a1 true _ A12.out).mono ?_); rintro e w' ⟨rfl, ⟨nd, rfl⟩⟩; refine ⟨_, rfl, ?_⟩; have hnb24 := NB405_403.out; have hnc24 := NB403_405.out; have hnb25 := NB405_404.out; have hnc25 := NB404_405.out; have hcz26_0 : w8.cell? ⟨gb405, 0, none⟩ = some (.int .i64 0) := (zbC BK405.out 0).trans rfl; have hcz26_1 : w8.cell? ⟨gb405, 1, none⟩ = some (.int .i64 0) := (zbC BK405.out 1).trans rfl; have hfz26_0 := zbF BK405.out 0; have hfz26_1 := zbF BK405.out 1; have hnb27 := NB403_404.out; have hnc27 := NB404_403.out; have hcz28_0 : w8.cell? ⟨gb403, 0, none⟩ = some (.int .i64 a2_0) := (zbC BK403.out 0).trans rfl; have hcz28_1 : w8.cell? ⟨gb403, 1, none⟩ = some (.int .i64 a2_1) := (zbC BK403.out 1).trans rfl; have hfz28_0 := zbF BK403.out 0; have hfz28_1 := zbF BK403.out 1) | (go_at_call 61; (with_reducible refine (impl_grid_isCorner.calls a0 a1 a2_0 a2_1 false _ A14.out).mono ?_); rintro e w29 ⟨rfl, hb⟩; have n0_ := Aside0.mk (blk_below (g := gb403) (o := .cells #[.int .i64 a2_0, .int .i64 a2_1] 43 (0, 0)) (by (with_reducible repeat (first | refine zbN ?_ _ | refine zbD ?_ | refine zbA ?_ _)); refine blk_far ?_ NB403_405.out _; (with_reducible repeat (first | refine zbN ?_ _ | refine zbD ?_ | refine zbA ?_ _)); refine blk_far ?_ NB403_405.out _; (with_reducible repeat (first | refine zbN ?_ _ | refine zbD ?_ | refine zbA ?_ _)); exact BK403.out) hb); have n1_ := Aside0.mk (blk_below (g := gb404) (o := .cells #[.int .i64 0, .int .i64 0, .slice none 0 0, .slice none 0 0] 26 (0, 0)) (by (with_reducible repeat (first | refine zbN ?_ _ | refine zbD ?_ | refine zbA ?_ _)); refine blk_far ?_ NB404_405.out _; (with_reducible repeat (first | refine zbN ?_ _ | refine zbD ?_ | refine zbA ?_ _)); refine blk_far ?_ NB404_405.out _; (with_reducible repeat (first | refine zbN ?_ _ | refine zbD ?_ | refine zbA ?_ _)); exact BK404.out) hb); have n2_ := Aside0.mk (blk_below (g := gb405) (o := .cells #[.int .i64 a0, .int .i64 a1] 48 (0, 0)) (by (with_reducible repeat (first | refine zbN ?_ _ | refine zbD ?_ | refine zbA ?_ _)); refine blk_put (cs := #[.int .i64 a0, .int .i64 0]) ?_ 1 _ rfl; (with_reducible repeat (first | refine zbN ?_ _ | refine zbD ?_ | refine zbA ?_ _)); refine blk_put (cs := #[.int .i64 0, .int .i64 0]) ?_ 0 _ rfl; (with_reducible repeat (first | refine zbN ?_ _ | refine zbD ?_ | refine zbA ?_ _)); exact BK405.out) hb); have n3_ := Aside0.mk (below_step (by repeat (first | (with_reducible first | exact HB.out | apply zA | apply zN | apply zD | refine zS ?_ GE403.out | refine zS ?_ GE404.out | refine zS ?_ GE405.out) | exact HB.out)) hb); clear BK403; clear BK404; clear BK405; clear HB; have BK403 := n0_; have BK404 := n1_; have BK405 := n2_; have HB := n3_; clear n0_ n1_ n2_ n3_; (try clear hb); (try clear hb2); (try clear hk); (try clear hi)))
    go_meet
    case rel => exact ⟨_, (true), (by first | rfl | (simp; done) | (simp [*]; done)), H', ⟨by first | omega | exact Nat.le_refl _⟩, ⟨by (with_reducible repeat (first | refine zbN ?_ _ | refine zbD ?_ | refine zbA ?_ _)); exact BK403.out⟩, ⟨by (with_reducible repeat (first | refine zbN ?_ _ | refine zbD ?_ | refine zbA ?_ _)); exact BK404.out⟩, ⟨by (with_reducible repeat (first | refine zbN ?_ _ | refine zbD ?_ | refine zbA ?_ _)); exact BK405.out⟩, ⟨by repeat (first | (with_reducible first | exact HB.out | apply zA | apply zN | apply zD | refine zS ?_ GE403.out | refine zS ?_ GE404.out | refine zS ?_ GE405.out) | exact HB.out)⟩⟩
  ·replace c13 := Bool.eq_false_iff.mpr c13
   subst c13
   have H1 : (impl_FigureOfStroke.j0 k a3 true a2_0 a2_1 a0 a1) = some (r1, r2, r3, r4, r5) := by rw [if_neg (show ¬ (false = true) by decide)] at H; exact H
   clear H
   have H := H1
   clear H1
   have H' := Aside0.mk H
   clear H
   go_wp2_with (first | ((with_reducible refine gate_callee (f := 51) rfl ?_); refine goesL_ (some 18) rfl rfl Tryd.func51 (by kernel_rfl) rfl #[.int .i64 a0, .int .i64 a1] rfl (by (try simp only [List.map_toArray, List.map_cons, List.map_nil]); first | done | rfl | (simp only [List.length_drop, List.length_take]; rfl)) ?_; (with_reducible refine (impl_isGrid.calls a0 a1 false _ A12.out).mono ?_); rintro e w' ⟨rfl, ⟨nd, rfl⟩⟩; refine ⟨_, rfl, ?_⟩))
   go_meet
   case rel => exact ⟨_, (true), (by first | rfl | (simp; done) | (simp [*]; done)), H', ⟨by first | omega | exact Nat.le_refl _⟩, ⟨by (with_reducible repeat (first | refine zbN ?_ _ | refine zbD ?_ | refine zbA ?_ _)); refine blk_far ?_ NB403_405.out _; (with_reducible repeat (first | refine zbN ?_ _ | refine zbD ?_ | refine zbA ?_ _)); refine blk_far ?_ NB403_405.out _; (with_reducible repeat (first | refine zbN ?_ _ | refine zbD ?_ | refine zbA ?_ _)); exact BK403.out⟩, ⟨by (with_reducible repeat (first | refine zbN ?_ _ | refine zbD ?_ | refine zbA ?_ _)); refine blk_far ?_ NB404_405.out _; (with_reducible repeat (first | refine zbN ?_ _ | refine zbD ?_ | refine zbA ?_ _)); refine blk_far ?_ NB404_405.out _; (with_reducible repeat (first | refine zbN ?_ _ | refine zbD ?_ | refine zbA ?_ _)); exact BK404.out⟩, ⟨by (with_reducible repeat (first | refine zbN ?_ _ | refine zbD ?_ | refine zbA ?_ _)); refine blk_put (cs := #[.int .i64 a0, .int .i64 0]) ?_ 1 _ rfl; (with_reducible repeat (first | refine zbN ?_ _ | refine zbD ?_ | refine zbA ?_ _)); refine blk_put (cs := #[.int .i64 0, .int .i64 0]) ?_ 0 _ rfl; (with_reducible repeat (first | refine zbN ?_ _ | refine zbD ?_ | refine zbA ?_ _)); exact BK405.out⟩, ⟨by repeat (first | (with_reducible first | exact HB.out | apply zA | apply zN | apply zD | refine zS ?_ GE403.out | refine zS ?_ GE404.out | refine zS ?_ GE405.out) | exact HB.out)⟩⟩
 case rest =>
  clear HC5
  try clear c1
  try clear c2
  try clear p2
  try clear c3
  try clear c5
  try clear c9
  try clear c10
  try clear c13
  try clear c15
  try clear c17
  try clear c18
  try clear c20
  try clear c24
  try clear c25
  try clear c27
  try clear hcz11_0
  try clear hcz11_1
  try clear hcz19_0
  try clear hcz19_1
  try clear hcz21_0
  try clear hcz21_1
  try clear hcz26_0
  try clear hcz26_1
  try clear hcz28_0
  try clear hcz28_1
  try clear hfz11_0
  try clear hfz11_1
  try clear hfz19_0
  try clear hfz19_1
  try clear hfz21_0
  try clear hfz21_1
  try clear hfz26_0
  try clear hfz26_1
  try clear hfz28_0
  try clear hfz28_1
  obtain ⟨kq, x30_4, rfl, HA, HJ4, BK403, BK404, BK405, HB⟩ := hcut
  cases kq with
  | zero => exact absurd HA.out (by simp [impl_FigureOfStroke.j0])
  | succ kj4 =>
   have H := HA.out
   clear HA
   simp only [impl_FigureOfStroke.j0] at H
   by_cases c30 : x30_4 = true
   ·subst c30
    have H1 : (some (0, 0, ([] : List Int), ([] : List Int), false)) = some (r1, r2, r3, r4, r5) := by rw [if_pos rfl] at H; exact H
    clear H
    have H := H1
    clear H1
    simp only [Option.some.injEq, Prod.mk.injEq] at H
    obtain ⟨rfl, rfl, rfl, rfl, rfl⟩ := H
    have hnb31 := NB404_403.out
    have hnc31 := NB403_404.out
    have hnb32 := NB404_405.out
    have hnc32 := NB405_404.out
    have hcz33_0 : wc.cell? ⟨gb404, 0, none⟩ = some (.int .i64 0) := (zbC BK404.out 0).trans rfl
    have hcz33_1 : wc.cell? ⟨gb404, 1, none⟩ = some (.int .i64 0) := (zbC BK404.out 1).trans rfl
    have hcz33_2 : wc.cell? ⟨gb404, 2, none⟩ = some (.slice none 0 0) := (zbC BK404.out 2).trans rfl
    have hcz33_3 : wc.cell? ⟨gb404, 3, none⟩ = some (.slice none 0 0) := (zbC BK404.out 3).trans rfl
    have hfz33_0 := zbF BK404.out 0
    have hfz33_1 := zbF BK404.out 1
    have hfz33_2 := zbF BK404.out 2
    have hfz33_3 := zbF BK404.out 3
    go_wp2
    refine bodyPost_ret (results_ct rfl _ _ gb404 26 #[.int .i64 0, .int .i64 0, .slice none 0 0, .slice none 0 0] (0, 0) _ rfl (by (with_reducible repeat (first | refine zbN ?_ _ | refine zbD ?_ | refine zbA ?_ _)); refine blk_put (cs := #[.int .i64 0, .int .i64 0, .slice none 0 0, .slice none 0 0]) ?_ 3 _ rfl; (with_reducible repeat (first | refine zbN ?_ _ | refine zbD ?_ | refine zbA ?_ _)); refine blk_put (cs := #[.int .i64 0, .int .i64 0, .slice none 0 0, .slice none 0 0]) ?_ 2 _ rfl; (with_reducible repeat (first | refine zbN ?_ _ | refine zbD ?_ | refine zbA ?_ _)); refine blk_put (cs := #[.int .i64 0, .int .i64 0, .slice none 0 0, .slice none 0 0]) ?_ 1 _ rfl; (with_reducible repeat (first | refine zbN ?_ _ | refine zbD ?_ | refine zbA ?_ _)); refine blk_put (cs := #[.int .i64 0, .int .i64 0, .slice none 0 0, .slice none 0 0]) ?_ 0 _ rfl; (with_reducible repeat (first | refine zbN ?_ _ | refine zbD ?_ | refine zbA ?_ _)); exact BK404.out) Tryd.underlying26 rfl (by kernel_rfl)) rfl ?_
    exact ⟨_, _, by first | rfl | (simp [errW_none, errW_some] <;> rfl) | (simp [*, errW_none, errW_some] <;> rfl), by first | exact Kd.R_nil _ _ _ _ _ | exact Kd.N_nil _ _ _ _ _ | exact Kd.V_nil _ _ _ _ _ | exact Kd.Q_nil _ _ _ _ _ | exact Kd.S_nil _ _ _ _ _, by first | exact Kd.R_nil _ _ _ _ _ | exact Kd.N_nil _ _ _ _ _ | exact Kd.V_nil _ _ _ _ _ | exact Kd.Q_nil _ _ _ _ _ | exact Kd.S_nil _ _ _ _ _, by repeat (first | (with_reducible first | exact HB.out | apply zA | apply zN | apply zD | refine zS ?_ GE403.out | refine zS ?_ GE404.out | refine zS ?_ GE405.out) | exact HB.out)⟩
   ·replace c30 := Bool.eq_false_iff.mpr c30
    subst c30
    have H1 : ((impl_grid_stroke.f kj4 a0 a1 a2_0 a2_1 a3).bind fun bt409 => (if bt409.2 = true then ((impl_grid_figure.f kj4 a0 a1 bt409.1).bind fun bt411 => (some (bt411.1, bt411.2.1, bt411.2.2.1, bt411.2.2.2, true))) else (some (0, 0, ([] : List Int), ([] : List Int), false)))) = some (r1, r2, r3, r4, r5) := by rw [if_neg (show ¬ (false = true) by decide)] at H; exact H
    clear H
    have H := H1
    clear H1
    replace H := Option.bind_eq_some_iff.mp H
    obtain ⟨⟨t409, t410⟩, A340, H⟩ := H
    replace H : (if t410 = true then ((impl_grid_figure.f kj4 a0 a1 t409).bind fun bt411 => (some (bt411.1, bt411.2.1, bt411.2.2.1, bt411.2.2.2, true))) else (some (0, 0, ([] : List Int), ([] : List Int), false))) = some (r1, r2, r3, r4, r5) := H
    have A34 := Aside0.mk A340
    clear A340
    by_cases c35 : t410 = true
    ·subst c35
     have H1 : ((impl_grid_figure.f kj4 a0 a1 t409).bind fun bt411 => (some (bt411.1, bt411.2.1, bt411.2.2.1, bt411.2.2.2, true))) = some (r1, r2, r3, r4, r5) := by rw [if_pos rfl] at H; exact H
     clear H
     have H := H1
     clear H1
     replace H := Option.bind_eq_some_iff.mp H
     obtain ⟨⟨t411, t412, t413, t416⟩, A360, H⟩ := H
     replace H : (some (t411, t412, t413, t416, true)) = some (r1, r2, r3, r4, r5) := H
     have A36 := Aside0.mk A360
     clear A360
     simp only [Option.some.injEq, Prod.mk.injEq] at H
     obtain ⟨rfl, rfl, rfl, rfl, rfl⟩ := H
     have hnb37 := NB405_403.out
     have hnc37 := NB403_405.out
     have hnb38 := NB405_404.out
     have hnc38 := NB404_405.out
     have hcz39_0 : wc.cell? ⟨gb405, 0, none⟩ = some (.int .i64 a0) := (zbC BK405.out 0).trans rfl
     have hcz39_1 : wc.cell? ⟨gb405, 1, none⟩ = some (.int .i64 a1) := (zbC BK405.out 1).trans rfl
     have hfz39_0 := zbF BK405.out 0
     have hfz39_1 := zbF BK405.out 1
     have hnb40 := NB403_404.out
     have hnc40 := NB404_403.out
     have hcz41_0 : wc.cell? ⟨gb403, 0, none⟩ = some (.int .i64 a2_0) := (zbC BK403.out 0).trans rfl
     have hcz41_1 : wc.cell? ⟨gb403, 1, none⟩ = some (.int .i64 a2_1) := (zbC BK403.out 1).trans rfl
     have hfz41_0 := zbF BK403.out 0
     have hfz41_1 := zbF BK403.out 1
     go_wp2_with (first | ((with_reducible refine gate_callee (f := 63) rfl ?_); refine goesL_ (some 36) rfl rfl Tryd.func63 (by kernel_rfl) rfl #[.agg #[.int .i64 a0, .int .i64 a1], .agg #[.int .i64 a2_0, .int .i64 a2_1], .string a3] rfl (by (try simp only [List.map_toArray, List.map_cons, List.map_nil]); first | done | rfl | (simp only [List.length_drop, List.length_take]; rfl)) ?_; (with_reducible refine (impl_grid_stroke.calls kj4 a0 a1 a2_0 a2_1 a3 t409 true _ A34.out).mono ?_); rintro e w42 ⟨rfl, hb⟩; refine ⟨_, rfl, ?_⟩; have n0_ := Aside0.mk (blk_below (g := gb403) (o := .cells #[.int .i64 a2_0, .int .i64 a2_1] 43 (0, 0)) (by (with_reducible repeat (first | refine zbN ?_ _ | refine zbD ?_ | refine zbA ?_ _)); exact BK403.out) hb); have n1_ := Aside0.mk (blk_below (g := gb404) (o := .cells #[.int .i64 0, .int .i64 0, .slice none 0 0, .slice none 0 0] 26 (0, 0)) (by (with_reducible repeat (first | refine zbN ?_ _ | refine zbD ?_ | refine zbA ?_ _)); exact BK404.out) hb); have n2_ := Aside0.mk (blk_below (g := gb405) (o := .cells #[.int .i64 a0, .int .i64 a1] 48 (0, 0)) (by (with_reducible repeat (first | refine zbN ?_ _ | refine zbD ?_ | refine zbA ?_ _)); exact BK405.out) hb); have n3_ := Aside0.mk (below_step (by repeat (first | (with_reducible first | exact HB.out | apply zA | apply zN | apply zD | refine zS ?_ GE403.out | refine zS ?_ GE404.out | refine zS ?_ GE405.out) | exact HB.out)) hb); clear BK403; clear BK404; clear BK405; clear HB; have BK403 := n0_; have BK404 := n1_; have BK405 := n2_; have HB := n3_; clear n0_ n1_ n2_ n3_; (try clear hb); (try clear hb2); (try clear hk); (try clear hi); have hcz43_0 : w42.cell? ⟨gb405, 0, none⟩ = some (.int .i64 a0) := (zbC BK405.out 0).trans rfl; have hcz43_1 : w42.cell? ⟨gb405, 1, none⟩ = some (.int .i64 a1) := (zbC BK405.out 1).trans rfl; have hfz43_0 := zbF BK405.out 0; have hfz43_1 := zbF BK405.out 1) | ((with_reducible refine gate_callee (f := 39) rfl ?_); refine goesL_ (some 44) rfl rfl Tryd.func39 (by kernel_rfl) rfl #[.agg #[.int .i64 a0, .int .i64 a1], .int .u64 t409] rfl (by (try simp only [List.map_toArray, List.map_cons, List.map_nil]); first | done | rfl | (simp only [List.length_drop, List.length_take]; rfl)) ?_; (with_reducible refine (impl_grid_figure.calls kj4 a0 a1 t409 t411 t412 t413 t416 _ ?side1 A36.out).mono ?_); (case side1 => first | exact LaidG_below HG.out (by repeat (first | (with_reducible first | exact HB.out | apply zA | apply zN | apply zD | refine zS ?_ GE403.out | refine zS ?_ GE404.out | refine zS ?_ GE405.out) | exact HB.out)) | (repeat (first | exact HG.out | (with_reducible refine LaidG_alloc ?_ _) | (with_reducible refine LaidG_drewN ?_ _) | (with_reducible refine LaidG_drew ?_)))); rintro e w44 ⟨v414, v417, rfl, ho0, ho1, hb⟩; refine ⟨_, rfl, ?_⟩; have n0_ := Aside0.mk (Kd.R_lower ho0 (below_size (by repeat (first | (with_reducible first | exact HB.out | apply zA | apply zN | apply zD | refine zS ?_ GE403.out | refine zS ?_ GE404.out | refine zS ?_ GE405.out) | exact HB.out)))); have n1_ := Aside0.mk (Kd.R_lower ho1 (below_size (by repeat (first | (with_reducible first | exact HB.out | apply zA | apply zN | apply zD | refine zS ?_ GE403.out | refine zS ?_ GE404.out | refine zS ?_ GE405.out) | exact HB.out)))); have n2_ := Aside0.mk (blk_below (g := gb403) (o := .cells #[.int .i64 a2_0, .int .i64 a2_1] 43 (0, 0)) (by (with_reducible repeat (first | refine zbN ?_ _ | refine zbD ?_ | refine zbA ?_ _)); exact BK403.out) hb); have n3_ := Aside0.mk (blk_below (g := gb404) (o := .cells #[.int .i64 0, .int .i64 0, .slice none 0 0, .slice none 0 0] 26 (0, 0)) (by (with_reducible repeat (first | refine zbN ?_ _ | refine zbD ?_ | refine zbA ?_ _)); exact BK404.out) hb); have n4_ := Aside0.mk (blk_below (g := gb405) (o := .cells #[.int .i64 a0, .int .i64 a1] 48 (0, 0)) (by (with_reducible repeat (first | refine zbN ?_ _ | refine zbD ?_ | refine zbA ?_ _)); exact BK405.out) hb); have n5_ := Aside0.mk (below_step (by repeat (first | (with_reducible first | exact HB.out | apply zA | apply zN | apply zD | refine zS ?_ GE403.out | refine zS ?_ GE404.out | refine zS ?_ GE405.out) | exact HB.out)) hb); clear BK403; clear BK404; clear BK405; clear HB; have HO415 := n0_; have HO418 := n1_; have BK403 := n2_; have BK404 := n3_; have BK405 := n4_; have HB := n5_; clear n0_ n1_ n2_ n3_ n4_ n5_; (try clear hb); (try clear hb2); (try clear hk); (try clear hi); (try clear ho0); (try clear ho1); have hcz45_0 : w44.cell? ⟨gb404, 0, none⟩ = some (.int .i64 0) := (zbC BK404.out 0).trans rfl; have hcz45_1 : w44.cell? ⟨gb404, 1, none⟩ = some (.int .i64 0) := (zbC BK404.out 1).trans rfl; have hcz45_2 : w44.cell? ⟨gb404, 2, none⟩ = some (.slice none 0 0) := (zbC BK404.out 2).trans rfl; have hcz45_3 : w44.cell? ⟨gb404, 3, none⟩ = some (.slice none 0 0) := (zbC BK404.out 3).trans rfl; have hfz45_0 := zbF BK404.out 0; have hfz45_1 := zbF BK404.out 1; have hfz45_2 := zbF BK404.out 2; have hfz45_3 := zbF BK404.out 3; obtain ⟨Ao46, co46, eo46⟩ := Kd.R_slice HO415.out; subst eo46; obtain ⟨Ao47, co47, eo47⟩ := Kd.R_slice HO418.out; subst eo47))
     refine bodyPost_ret (results_ct rfl _ _ gb404 26 #[.int .i64 t411, .int .i64 t412, .slice Ao46 t413.length co46, .slice Ao47 t416.length co47] (0, 0) _ rfl (by (with_reducible repeat (first | refine zbN ?_ _ | refine zbD ?_ | refine zbA ?_ _)); refine blk_put (cs := #[.int .i64 t411, .int .i64 t412, .slice Ao46 t413.length co46, .slice none 0 0]) ?_ 3 _ rfl; (with_reducible repeat (first | refine zbN ?_ _ | refine zbD ?_ | refine zbA ?_ _)); refine blk_put (cs := #[.int .i64 t411, .int .i64 t412, .slice none 0 0, .slice none 0 0]) ?_ 2 _ rfl; (with_reducible repeat (first | refine zbN ?_ _ | refine zbD ?_ | refine zbA ?_ _)); refine blk_put (cs := #[.int .i64 t411, .int .i64 0, .slice none 0 0, .slice none 0 0]) ?_ 1 _ rfl; (with_reducible repeat (first | refine zbN ?_ _ | refine zbD ?_ | refine zbA ?_ _)); refine blk_put (cs := #[.int .i64 0, .int .i64 0, .slice none 0 0, .slice none 0 0]) ?_ 0 _ rfl; (with_reducible repeat (first | refine zbN ?_ _ | refine zbD ?_ | refine zbA ?_ _)); exact BK404.out) Tryd.underlying26 rfl (by kernel_rfl)) rfl ?_
     exact ⟨_, _, by first | rfl | (simp [errW_none, errW_some] <;> rfl) | (simp [*, errW_none, errW_some] <;> rfl), by (with_reducible repeat (first | apply Kd.R_alloc | apply Kd.R_drewN | apply Kd.R_drew)); exact Kd.R_mono (Kd.R_far (p := ⟨gb404, 3, none⟩) (Kd.R_far (p := ⟨gb404, 2, none⟩) (Kd.R_far (p := ⟨gb404, 1, none⟩) (Kd.R_far (p := ⟨gb404, 0, none⟩) (Kd.R_types HO415.out BK404.out (by decide)) (fun _ hk => hk.2) (.int .i64 t411)) (fun _ hk => hk.2) (.int .i64 t412)) (fun _ hk => hk.2) (.slice Ao46 t413.length co46)) (fun _ hk => hk.2) (.slice Ao47 t416.length co47)) (fun _ hk => hk.1), by (with_reducible repeat (first | apply Kd.R_alloc | apply Kd.R_drewN | apply Kd.R_drew)); exact Kd.R_mono (Kd.R_far (p := ⟨gb404, 3, none⟩) (Kd.R_far (p := ⟨gb404, 2, none⟩) (Kd.R_far (p := ⟨gb404, 1, none⟩) (Kd.R_far (p := ⟨gb404, 0, none⟩) (Kd.R_types HO418.out BK404.out (by decide)) (fun _ hk => hk.2) (.int .i64 t411)) (fun _ hk => hk.2) (.int .i64 t412)) (fun _ hk => hk.2) (.slice Ao46 t413.length co46)) (fun _ hk => hk.2) (.slice Ao47 t416.length co47)) (fun _ hk => hk.1), by repeat (first | (with_reducible first | exact HB.out | apply zA | apply zN | apply zD | refine zS ?_ GE403.out | refine zS ?_ GE404.out | refine zS ?_ GE405.out) | exact HB.out)⟩
    ·replace c35 := Bool.eq_false_iff.mpr c35
     subst c35
     have H1 : (some (0, 0, ([] : List Int), ([] : List Int), false)) = some (r1, r2, r3, r4, r5) := by rw [if_neg (show ¬ (false = true) by decide)] at H; exact H
     clear H
     have H := H1
     clear H1
     simp only [Option.some.injEq, Prod.mk.injEq] at H
     obtain ⟨rfl, rfl, rfl, rfl, rfl⟩ := H
     have hnb48 := NB405_403.out
     have hnc48 := NB403_405.out
     have hnb49 := NB405_404.out
     have hnc49 := NB404_405.out
     have hcz50_0 : wc.cell? ⟨gb405, 0, none⟩ = some (.int .i64 a0) := (zbC BK405.out 0).trans rfl
     have hcz50_1 : wc.cell? ⟨gb405, 1, none⟩ = some (.int .i64 a1) := (zbC BK405.out 1).trans rfl
     have hfz50_0 := zbF BK405.out 0
     have hfz50_1 := zbF BK405.out 1
     have hnb51 := NB403_404.out
     have hnc51 := NB404_403.out
     have hcz52_0 : wc.cell? ⟨gb403, 0, none⟩ = some (.int .i64 a2_0) := (zbC BK403.out 0).trans rfl
     have hcz52_1 : wc.cell? ⟨gb403, 1, none⟩ = some (.int .i64 a2_1) := (zbC BK403.out 1).trans rfl
     have hfz52_0 := zbF BK403.out 0
     have hfz52_1 := zbF BK403.out 1
     go_wp2_with (first | ((with_reducible refine gate_callee (f := 63) rfl ?_); refine goesL_ (some 36) rfl rfl Tryd.func63 (by kernel_rfl) rfl #[.agg #[.int .i64 a0, .int .i64 a1], .agg #[.int .i64 a2_0, .int .i64 a2_1], .string a3] rfl (by (try simp only [List.map_toArray, List.map_cons, List.map_nil]); first | done | rfl | (simp only [List.length_drop, List.length_take]; rfl)) ?_; (with_reducible refine (impl_grid_stroke.calls kj4 a0 a1 a2_0 a2_1 a3 t409 false _ A34.out).mono ?_); rintro e w53 ⟨rfl, hb⟩; refine ⟨_, rfl, ?_⟩; have n0_ := Aside0.mk (blk_below (g := gb403) (o := .cells #[.int .i64 a2_0, .int .i64 a2_1] 43 (0, 0)) (by (with_reducible repeat (first | refine zbN ?_ _ | refine zbD ?_ | refine zbA ?_ _)); exact BK403.out) hb); have n1_ := Aside0.mk (blk_below (g := gb404) (o := .cells #[.int .i64 0, .int .i64 0, .slice none 0 0, .slice none 0 0] 26 (0, 0)) (by (with_reducible repeat (first | refine zbN ?_ _ | refine zbD ?_ | refine zbA ?_ _)); exact BK404.out) hb); have n2_ := Aside0.mk (blk_below (g := gb405) (o := .cells #[.int .i64 a0, .int .i64 a1] 48 (0, 0)) (by (with_reducible repeat (first | refine zbN ?_ _ | refine zbD ?_ | refine zbA ?_ _)); exact BK405.out) hb); have n3_ := Aside0.mk (below_step (by repeat (first | (with_reducible first | exact HB.out | apply zA | apply zN | apply zD | refine zS ?_ GE403.out | refine zS ?_ GE404.out | refine zS ?_ GE405.out) | exact HB.out)) hb); clear BK403; clear BK404; clear BK405; clear HB; have BK403 := n0_; have BK404 := n1_; have BK405 := n2_; have HB := n3_; clear n0_ n1_ n2_ n3_; (try clear hb); (try clear hb2); (try clear hk); (try clear hi); have hcz54_0 : w53.cell? ⟨gb404, 0, none⟩ = some (.int .i64 0) := (zbC BK404.out 0).trans rfl; have hcz54_1 : w53.cell? ⟨gb404, 1, none⟩ = some (.int .i64 0) := (zbC BK404.out 1).trans rfl; have hcz54_2 : w53.cell? ⟨gb404, 2, none⟩ = some (.slice none 0 0) := (zbC BK404.out 2).trans rfl; have hcz54_3 : w53.cell? ⟨gb404, 3, none⟩ = some (.slice none 0 0) := (zbC BK404.out 3).trans rfl; have hfz54_0 := zbF BK404.out 0; have hfz54_1 := zbF BK404.out 1; have hfz54_2 := zbF BK404.out 2; have hfz54_3 := zbF BK404.out 3))
     refine bodyPost_ret (results_ct rfl _ _ gb404 26 #[.int .i64 0, .int .i64 0, .slice none 0 0, .slice none 0 0] (0, 0) _ rfl (by (with_reducible repeat (first | refine zbN ?_ _ | refine zbD ?_ | refine zbA ?_ _)); refine blk_put (cs := #[.int .i64 0, .int .i64 0, .slice none 0 0, .slice none 0 0]) ?_ 3 _ rfl; (with_reducible repeat (first | refine zbN ?_ _ | refine zbD ?_ | refine zbA ?_ _)); refine blk_put (cs := #[.int .i64 0, .int .i64 0, .slice none 0 0, .slice none 0 0]) ?_ 2 _ rfl; (with_reducible repeat (first | refine zbN ?_ _ | refine zbD ?_ | refine zbA ?_ _)); refine blk_put (cs := #[.int .i64 0, .int .i64 0, .slice none 0 0, .slice none 0 0]) ?_ 1 _ rfl; (with_reducible repeat (first | refine zbN ?_ _ | refine zbD ?_ | refine zbA ?_ _)); refine blk_put (cs := #[.int .i64 0, .int .i64 0, .slice none 0 0, .slice none 0 0]) ?_ 0 _ rfl; (with_reducible repeat (first | refine zbN ?_ _ | refine zbD ?_ | refine zbA ?_ _)); exact BK404.out) Tryd.underlying26 rfl (by kernel_rfl)) rfl ?_
     exact ⟨_, _, by first | rfl | (simp [errW_none, errW_some] <;> rfl) | (simp [*, errW_none, errW_some] <;> rfl), by first | exact Kd.R_nil _ _ _ _ _ | exact Kd.N_nil _ _ _ _ _ | exact Kd.V_nil _ _ _ _ _ | exact Kd.Q_nil _ _ _ _ _ | exact Kd.S_nil _ _ _ _ _, by first | exact Kd.R_nil _ _ _ _ _ | exact Kd.N_nil _ _ _ _ _ | exact Kd.V_nil _ _ _ _ _ | exact Kd.Q_nil _ _ _ _ _ | exact Kd.S_nil _ _ _ _ _, by repeat (first | (with_reducible first | exact HB.out | apply zA | apply zN | apply zD | refine zS ?_ GE403.out | refine zS ?_ GE404.out | refine zS ?_ GE405.out) | exact HB.out)⟩

end Go.Proofs.YtmlkihaoeopobaaDoor.Q
