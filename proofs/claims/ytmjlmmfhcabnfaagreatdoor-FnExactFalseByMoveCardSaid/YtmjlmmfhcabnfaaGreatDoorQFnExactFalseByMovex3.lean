-- written by a program of this session, pm.py, for this claim
-- half the indentation
import Derived.Test.YtmjlmmfhcabnfaaGreatDoorQFnExactFalseByMovex0
import Derived.Test.YtmjlmmfhcabnfaaGreatDoorQFnExactFalseByMovex2
namespace Go.Proofs.YtmjlmmfhcabnfaaGreatDoor.Q
open Go.RowKit Go.Proofs.YtmjlmmfhcabnfaaGreatDoorW.PrintWords Go.Proofs.YtmjlmmfhcabnfaaGreatDoorW.PrintLast Go.Proofs.YtmjlmmfhcabnfaaGreatDoorW.PrintMore
attribute [local go_sem] max2_int min2_int max_two min_two max_three min_three max_four min_four   -- for this text's walks alone
set_option linter.unusedVariables false
set_option linter.unusedSimpArgs false

/-! ### spec_l1Num: function 45 -/
def spec_l1Num.f : Nat → Int → Option (ByteArray)
 | 0, _ => none
 | k + 1, a0 => if a0 < 10 then (some (strOfNums (([(wrap64 (48 + a0)) % 256] : List Int)))) else ((spec_l1Num.f k (wrap64 (Int.tdiv a0 10))).bind fun t178 => ((some (([(wrap64 (48 + (Int.tmod a0 10))) % 256] : List Int) : List Int)).bind fun y179 => (if t178.size + (strOfNums y179).size ≤ 9223372036854775807 then (some (t178 ++ (strOfNums y179))) else (none))))
theorem spec_l1Num.mono_l : ∀ k, (∀ y0, LeO (spec_l1Num.f k y0) (spec_l1Num.f (k + 1) y0))
 | 0 => fun _ r h => by simp [spec_l1Num.f] at h
 | k + 1 => by
  have ih0 := spec_l1Num.mono_l k
  ·intro y0
   unfold spec_l1Num.f
   repeat' first
   | (with_reducible exact ih0 _)
   | (with_reducible exact LeO.refl _)
   | (with_reducible exact LeO.none _)
   | (with_reducible refine LeO.ite ?_ ?_)
   | (with_reducible refine LeO.bind ?_ (fun _ => ?_))
   | exact ih0 _
   | exact LeO.none _
   | refine LeO.ite ?_ ?_
   | refine LeO.bind ?_ (fun _ => ?_)
theorem spec_l1Num.mono : ∀ a0 k, LeO (spec_l1Num.f k a0) (spec_l1Num.f (k + 1) a0) := by
 intro a0 k
 have ih0 := spec_l1Num.mono_l k
 exact ih0 a0
def spec_l1Num.T3 : Bool × List (List Nat × List Nat) := (true, [([], []), ([0], [0]), ([1], [1]), ([], []), ([3], [3]), ([4], [4]), ([5], [5]), ([6], [6]), ([7], [7]), ([2, 8], [2, 8]), ([9, 2, 0, 1, 2, 3, 4, 5, 6, 7, 8, 9], [9])])
def spec_l1Num.B3 : List Nat := [0, 1, 3, 0, 8, 24, 56, 120, 248, 511, 1023]
theorem spec_l1Num.tab3 : rtab .any (opsOf Tryz.f45 3) = spec_l1Num.T3 := by kernel_rfl
theorem spec_l1Num.bits3 : waitsOk spec_l1Num.T3.2 spec_l1Num.B3 = true := by kernel_rfl
set_option maxHeartbeats 8000000 in
set_option maxRecDepth 100000 in
theorem spec_l1Num.calls (k : Nat) : ∀ (a0 : Int) (r : ByteArray) (w : World) (h : spec_l1Num.f k a0 = some r),
  Calls Tryz.prog 45 #[.int .i64 a0] w fun e w' => e = .returned (.string r) ∧ Below w.heap.size w w' := by
 induction k using Nat.strongRecOn with
 | _ k ih =>
 intro a0 r w h
 cases k with
 | zero => exact absurd h (by simp [spec_l1Num.f])
 | succ k =>
 simp only [spec_l1Num.f] at h
 have HB := Aside0.mk (Below.refl w.heap.size w)
 have H : (if a0 < 10 then (some (strOfNums (([(wrap64 (48 + a0)) % 256] : List Int)))) else ((spec_l1Num.f k (wrap64 (Int.tdiv a0 10))).bind fun t178 => ((some (([(wrap64 (48 + (Int.tmod a0 10))) % 256] : List Int) : List Int)).bind fun y179 => (if t178.size + (strOfNums y179).size ≤ 9223372036854775807 then (some (t178 ++ (strOfNums y179))) else (none))))) = some r := h
 clear h
 by_cases c2 : a0 < 10
 ·rw [if_pos c2] at H
  have c2b0 : decide (a0 < 10) = true := decide_eq_true c2
  clear c2
  obtain ⟨y175, hy175⟩ : ∃ y_ : List Int, y_ = (([(wrap64 (48 + a0)) % 256] : List Int)) := ⟨_, rfl⟩
  replace H : (some (strOfNums y175)) = some r := by first | (rw [hy175]; with_reducible exact H) | (have H2_ := (Option.bind_some _ _).symm.trans H; rw [hy175]; with_reducible exact H2_) | (have H2_ := (Option.bind_some _ _).symm.trans H; with_reducible exact H2_) | with_reducible exact H | (rw [hy175]; exact H) | exact H
  have Ny175 := Aside0.mk hy175
  clear hy175
  obtain rfl := Option.some.inj H
  go_enter Tryz.func45, Tryz.ntmps45
  go_wp2_with (first | ((with_reducible refine gate_dst (N := 8) rfl ?_); refine Kd.R_lit (Kd.int .u8) _ 5 ?hg (N := 8) ?hd (xs := ([(wrap64 (48 + a0)) % 256] : List Int)) (inner := [.int .u8 ((wrap64 (48 + a0)) % 256)]) (ok := fun _ => True) (okp := fun _ => True) ?hr ?hp (fun _ hk => hk) trivial (Below.refl _ _) (Nat.le_refl _) (by simp) ?_; (case hd => rfl); (case hg => rfl); (case hr => first | (go_simp; done) | (go_simp; rfl)); (case hp => exact (Reps.one (show Kd.M (Kd.int .u8) _ _ _ ((wrap64 (48 + a0)) % 256) [.int .u8 ((wrap64 (48 + a0)) % 256)] from rfl) (Reps.none _ _))); intro v176 w3 ho4 hb hg_ hnew_; clear hg_ hnew_; (first | rw [← Ny175.out] at ho4 | (simp only [Int.reduceToNat] at ho4; rw [← Ny175.out] at ho4)); have n0_ := Aside0.mk (Kd.R_lower ho4 (below_size (by repeat (first | (with_reducible first | exact HB.out | apply below_alloc | apply pw_below_drewN | apply below_drew1) | exact HB.out)))); have n1_ := Aside0.mk (below_step (by repeat (first | (with_reducible first | exact HB.out | apply below_alloc | apply pw_below_drewN | apply below_drew1) | exact HB.out)) hb); clear HB; have HO177 := n0_; have HB := n1_; clear n0_ n1_; clear hb ho4; have hcv5 := own_string (P := Tryz.prog) Tryz.underlying43 Tryz.underlying5 Tryz.underlying9 (Kd.own_of_R HO177.out)))
  go_ret
  exact ⟨by first | rfl | (simp [errW_none, errW_some] <;> rfl) | (simp [*, errW_none, errW_some] <;> rfl), by repeat (first | (with_reducible first | exact HB.out | apply below_alloc | apply pw_below_drewN | apply below_drew1) | exact HB.out)⟩
 ·rw [if_neg c2] at H
  have c2b0 : decide (a0 < 10) = false := decide_eq_false c2
  clear c2
  replace H := Option.bind_eq_some_iff.mp H
  obtain ⟨t178, A60, H⟩ := H
  replace H : ((some (([(wrap64 (48 + (Int.tmod a0 10))) % 256] : List Int) : List Int)).bind fun y179 => (if t178.size + (strOfNums y179).size ≤ 9223372036854775807 then (some (t178 ++ (strOfNums y179))) else (none))) = some r := H
  have A6 := Aside0.mk A60
  clear A60
  obtain ⟨y179, hy179⟩ : ∃ y_ : List Int, y_ = (([(wrap64 (48 + (Int.tmod a0 10))) % 256] : List Int)) := ⟨_, rfl⟩
  replace H : (if t178.size + (strOfNums y179).size ≤ 9223372036854775807 then (some (t178 ++ (strOfNums y179))) else (none)) = some r := by first | (rw [hy179]; with_reducible exact H) | (have H2_ := (Option.bind_some _ _).symm.trans H; rw [hy179]; with_reducible exact H2_) | (have H2_ := (Option.bind_some _ _).symm.trans H; with_reducible exact H2_) | with_reducible exact H | (rw [hy179]; exact H) | exact H
  have Ny179 := Aside0.mk hy179
  clear hy179
  by_cases c7 : t178.size + (strOfNums y179).size ≤ 9223372036854775807
  ·rw [if_pos c7] at H
   have c7b0 := eq_true c7
   have c7b1 : decide (t178.size + (strOfNums y179).size ≤ 9223372036854775807) = true := decide_eq_true c7
   try have c7b2 : (9223372036854775807 < t178.size + (strOfNums y179).size) = False := eq_false (Nat.not_lt.2 c7)
   obtain rfl := Option.some.inj H
   go_enter Tryz.func45, Tryz.ntmps45
   try go_wp2
   have n0_ := Aside0.mk (below_drew1 HB.out)
   clear HB
   have HB := n0_
   clear n0_
   refine start_ (n := 11) (S := fun w' => True) (ds := []) #[false, false, false, false, false, false, false, false, false, false, false] (by kernel_rfl) rfl rfl trivial (fun hHeld => ?_); refine with_tabW spec_l1Num.tab3 spec_l1Num.bits3 (fun HT_ HW_ => ?_)
   generalize w.drew = w8 at HB hHeld ⊢
   refine pure_ (i := 0) (N := some 10) (v := ?_) (a' := ?_) #[true, false, false, false, false, false, false, false, false, false, false] rfl rfl (any_of HT_.out (by kernel_rfl)) (fun _ _ _ h => h) (Or.inl ⟨by rfl, ?_⟩) ?_ ?_
   rotate_left
   ·intro w'
    go_simp
    with_reducible rfl
   rotate_left
   ·simp only [Act.put, List.setIfInBounds_toArray, List.set_cons_zero, List.set_cons_succ, i64_w, i32_w]
    rfl
   refine pure_ (i := 1) (N := some 11) (v := ?_) (a' := ?_) #[true, true, false, false, false, false, false, false, false, false, false] rfl rfl (any_of HT_.out (by kernel_rfl)) (fun _ _ _ h => h) (Or.inl ⟨by rfl, ?_⟩) ?_ ?_
   rotate_left
   ·intro w'
    go_simp
    with_reducible rfl
   rotate_left
   ·simp only [Act.put, List.setIfInBounds_toArray, List.set_cons_zero, List.set_cons_succ, i64_w, i32_w]
    rfl
   refine pure_ (i := 3) (N := some 13) (v := ?_) (a' := ?_) #[true, true, false, true, false, false, false, false, false, false, false] rfl rfl (any_of HT_.out (by kernel_rfl)) (fun _ _ _ h => h) (Or.inl ⟨by rfl, ?_⟩) ?_ ?_
   rotate_left
   ·intro w'
    go_simp
    with_reducible rfl
   rotate_left
   ·simp only [Act.put, List.setIfInBounds_toArray, List.set_cons_zero, List.set_cons_succ, i64_w, i32_w]
    rfl
   refine pure_ (i := 4) (N := some 14) (v := ?_) (a' := ?_) #[true, true, false, true, true, false, false, false, false, false, false] rfl rfl (any_of HT_.out (by kernel_rfl)) (fun _ _ _ h => h) (Or.inl ⟨by rfl, ?_⟩) ?_ ?_
   rotate_left
   ·intro w'
    go_simp
    with_reducible rfl
   rotate_left
   ·simp only [Act.put, List.setIfInBounds_toArray, List.set_cons_zero, List.set_cons_succ, i64_w, i32_w]
    rfl
   refine pure_ (i := 5) (N := some 15) (v := ?_) (a' := ?_) #[true, true, false, true, true, true, false, false, false, false, false] rfl rfl (any_of HT_.out (by kernel_rfl)) (fun _ _ _ h => h) (Or.inl ⟨by rfl, ?_⟩) ?_ ?_
   rotate_left
   ·intro w'
    go_simp
    with_reducible rfl
   rotate_left
   ·simp only [Act.put, List.setIfInBounds_toArray, List.set_cons_zero, List.set_cons_succ, i64_w, i32_w]
    rfl
   refine pure_ (i := 6) (N := some 16) (v := ?_) (a' := ?_) #[true, true, false, true, true, true, true, false, false, false, false] rfl rfl (any_of HT_.out (by kernel_rfl)) (fun _ _ _ h => h) (Or.inl ⟨by rfl, ?_⟩) ?_ ?_
   rotate_left
   ·intro w'
    go_simp
    with_reducible rfl
   rotate_left
   ·simp only [Act.put, List.setIfInBounds_toArray, List.set_cons_zero, List.set_cons_succ, i64_w, i32_w]
    rfl
   refine join_ (σ := Value) 2 #[true, true, true, true, true, true, true, true, true, false, false] (fun s_ => [(12, .string t178), (17, s_), (18, .string (strOfNums y179))]) (fun s_ w' => (Kd.R (Kd.int .u8) 5 w' w.heap.size (fun _ => True) s_ y179) ∧ (Below w.heap.size w w')) ?_ ?_
   rotate_left
   ·intro hCont
    refine two_ (i := 2) (j := 7) (Ni := some 12) (Nj := some 17) #[true, true, true, true, true, true, true, false, false, false, false] #[true, true, false, true, true, true, true, true, false, false, false] rfl rfl rfl rfl (two_of HT_.out (by kernel_rfl)) (by decide) (by decide) (fun K hK => ?_) (fun K hK => ?_)
    ·skip
     refine goes_ Tryz.func45 (by kernel_rfl) rfl #[.int .i64 (wrap64 (Int.tdiv a0 10))] (by rfl) rfl rfl (by (try simp only [List.map_toArray, List.map_cons, List.map_nil]); first | done | rfl | (simp only [List.length_drop, List.length_take]; rfl)) ?_
     with_reducible refine (ih k (by omega) (wrap64 (Int.tdiv a0 10)) t178 _ A6.out).mono ?_
     rintro e w9 ⟨rfl, hb⟩
     refine ⟨_, rfl, ?_⟩
     have n0_ := Aside0.mk (below_step (by repeat (first | (with_reducible first | exact HB.out | apply below_alloc | apply pw_below_drewN | apply below_drew1) | exact HB.out)) hb)
     clear HB
     have HB := n0_
     clear n0_
     (try clear hb)
     (try clear hb2)
     (try clear hk)
     (try clear hi)
     refine hK.out _ _ trivial (fun hHeld => ?_)
     clear hK K
     refine norm_ (a' := ?_) ?_ ?_
     rotate_left
     ·show Act.put _ (some 12) _ = _
      simp only [Act.put, List.setIfInBounds_toArray, List.set_cons_zero, List.set_cons_succ, i64_w, i32_w]
      rfl
     refine one_ (i := 7) (N := some 17) #[true, true, true, true, true, true, true, true, false, false, false] rfl rfl (one_of HT_.out (by kernel_rfl)) (by decide) (fun K hK => ?_)
     refine Kd.R_lit_step (Kd.int .u8) _ 5 ?hg (N := 17) ?hd (xs := ([(wrap64 (48 + (Int.tmod a0 10))) % 256] : List Int)) (inner := [.int .u8 ((wrap64 (48 + (Int.tmod a0 10))) % 256)]) (ok := fun _ => True) (okp := fun _ => True) ?hr ?hp (fun _ hk => hk) trivial (Below.refl _ _) (Nat.le_refl _) (by simp) ?_; (case hd => rfl); (case hg => rfl); (case hr => first | (go_simp; done) | (go_simp; rfl)); (case hp => exact (Reps.one (show Kd.M (Kd.int .u8) _ _ _ ((wrap64 (48 + (Int.tmod a0 10))) % 256) [.int .u8 ((wrap64 (48 + (Int.tmod a0 10))) % 256)] from rfl) (Reps.none _ _)))
     intro v180 w10 ho11 hb hg_ hnew_
     clear hg_ hnew_
     (first | rw [← Ny179.out] at ho11 | (simp only [Int.reduceToNat] at ho11; rw [← Ny179.out] at ho11))
     have n0_ := Aside0.mk (Kd.R_lower ho11 (below_size (by repeat (first | (with_reducible first | exact HB.out | apply below_alloc | apply pw_below_drewN | apply below_drew1) | exact HB.out))))
     have n1_ := Aside0.mk (below_step (by repeat (first | (with_reducible first | exact HB.out | apply below_alloc | apply pw_below_drewN | apply below_drew1) | exact HB.out)) hb)
     clear HB
     have HO181 := n0_
     have HB := n1_
     clear n0_ n1_
     clear hb ho11
     refine hK.out _ _ trivial (fun hHeld => ?_)
     clear hK K
     refine norm_ (a' := ?_) ?_ ?_
     rotate_left
     ·show Act.put _ (some 17) _ = _
      simp only [Act.put, List.setIfInBounds_toArray, List.set_cons_zero, List.set_cons_succ, i64_w, i32_w]
      rfl
     refine one_ (i := 8) (N := some 18) #[true, true, true, true, true, true, true, true, true, false, false] rfl rfl (one_of HT_.out (by kernel_rfl)) (by decide) (fun K hK => ?_)
     have hcv12 := own_string (P := Tryz.prog) Tryz.underlying43 Tryz.underlying5 Tryz.underlying9 (Kd.own_of_R HO181.out)
     refine value_ (w1 := ?_) (v := ?_) (by rfl) rfl ?_ ?_
     rotate_left 2
     ·go_simp
      constructor
      ·rfl
      ·rfl
     clear hcv12
     refine hK.out _ _ trivial (fun hHeld => ?_)
     clear hK K
     refine norm_ (a' := ?_) ?_ ?_
     rotate_left
     ·show Act.put _ (some 18) _ = _
      simp only [Act.put, List.setIfInBounds_toArray, List.set_cons_zero, List.set_cons_succ, i64_w, i32_w]
      rfl
     exact norm_ (by simp only [putAll, Act.put, List.setIfInBounds_toArray, List.set_cons_zero, List.set_cons_succ]) (hCont (v180) _ ⟨(by (with_reducible repeat (first | apply Kd.R_alloc | apply Kd.R_drewN | apply Kd.R_drew)); exact HO181.out), (by repeat (first | (with_reducible first | exact HB.out | apply below_alloc | apply pw_below_drewN | apply below_drew1) | exact HB.out))⟩)
    ·skip
     refine Kd.R_lit_step (Kd.int .u8) _ 5 ?hg (N := 17) ?hd (xs := ([(wrap64 (48 + (Int.tmod a0 10))) % 256] : List Int)) (inner := [.int .u8 ((wrap64 (48 + (Int.tmod a0 10))) % 256)]) (ok := fun _ => True) (okp := fun _ => True) ?hr ?hp (fun _ hk => hk) trivial (Below.refl _ _) (Nat.le_refl _) (by simp) ?_; (case hd => rfl); (case hg => rfl); (case hr => first | (go_simp; done) | (go_simp; rfl)); (case hp => exact (Reps.one (show Kd.M (Kd.int .u8) _ _ _ ((wrap64 (48 + (Int.tmod a0 10))) % 256) [.int .u8 ((wrap64 (48 + (Int.tmod a0 10))) % 256)] from rfl) (Reps.none _ _)))
     intro v180 w9 ho10 hb hg_ hnew_
     clear hg_ hnew_
     (first | rw [← Ny179.out] at ho10 | (simp only [Int.reduceToNat] at ho10; rw [← Ny179.out] at ho10))
     have n0_ := Aside0.mk (Kd.R_lower ho10 (below_size (by repeat (first | (with_reducible first | exact HB.out | apply below_alloc | apply pw_below_drewN | apply below_drew1) | exact HB.out))))
     have n1_ := Aside0.mk (below_step (by repeat (first | (with_reducible first | exact HB.out | apply below_alloc | apply pw_below_drewN | apply below_drew1) | exact HB.out)) hb)
     clear HB
     have HO181 := n0_
     have HB := n1_
     clear n0_ n1_
     clear hb ho10
     refine hK.out _ _ trivial (fun hHeld => ?_)
     clear hK K
     refine norm_ (a' := ?_) ?_ ?_
     rotate_left
     ·show Act.put _ (some 17) _ = _
      simp only [Act.put, List.setIfInBounds_toArray, List.set_cons_zero, List.set_cons_succ, i64_w, i32_w]
      rfl
     refine two_ (i := 2) (j := 8) (Ni := some 12) (Nj := some 18) #[true, true, true, true, true, true, true, true, false, false, false] #[true, true, false, true, true, true, true, true, true, false, false] rfl rfl rfl rfl (two_of HT_.out (by kernel_rfl)) (by decide) (by decide) (fun K hK => ?_) (fun K hK => ?_)
     ·skip
      refine goes_ Tryz.func45 (by kernel_rfl) rfl #[.int .i64 (wrap64 (Int.tdiv a0 10))] (by rfl) rfl rfl (by (try simp only [List.map_toArray, List.map_cons, List.map_nil]); first | done | rfl | (simp only [List.length_drop, List.length_take]; rfl)) ?_
      with_reducible refine (ih k (by omega) (wrap64 (Int.tdiv a0 10)) t178 _ A6.out).mono ?_
      rintro e w11 ⟨rfl, hb⟩
      refine ⟨_, rfl, ?_⟩
      have n0_ := Aside0.mk (Kd.R_below (by (with_reducible repeat (first | apply Kd.R_alloc | apply Kd.R_drewN | apply Kd.R_drew)); exact HO181.out) hb)
      have n1_ := Aside0.mk (below_step (by repeat (first | (with_reducible first | exact HB.out | apply below_alloc | apply pw_below_drewN | apply below_drew1) | exact HB.out)) hb)
      clear HO181
      clear HB
      have HO181 := n0_
      have HB := n1_
      clear n0_ n1_
      (try clear hb)
      (try clear hb2)
      (try clear hk)
      (try clear hi)
      refine hK.out _ _ trivial (fun hHeld => ?_)
      clear hK K
      refine norm_ (a' := ?_) ?_ ?_
      rotate_left
      ·show Act.put _ (some 12) _ = _
       simp only [Act.put, List.setIfInBounds_toArray, List.set_cons_zero, List.set_cons_succ, i64_w, i32_w]
       rfl
      refine one_ (i := 8) (N := some 18) #[true, true, true, true, true, true, true, true, true, false, false] rfl rfl (one_of HT_.out (by kernel_rfl)) (by decide) (fun K hK => ?_)
      have hcv12 := own_string (P := Tryz.prog) Tryz.underlying43 Tryz.underlying5 Tryz.underlying9 (Kd.own_of_R HO181.out)
      refine value_ (w1 := ?_) (v := ?_) (by rfl) rfl ?_ ?_
      rotate_left 2
      ·go_simp
       constructor
       ·rfl
       ·rfl
      clear hcv12
      refine hK.out _ _ trivial (fun hHeld => ?_)
      clear hK K
      refine norm_ (a' := ?_) ?_ ?_
      rotate_left
      ·show Act.put _ (some 18) _ = _
       simp only [Act.put, List.setIfInBounds_toArray, List.set_cons_zero, List.set_cons_succ, i64_w, i32_w]
       rfl
      exact norm_ (by simp only [putAll, Act.put, List.setIfInBounds_toArray, List.set_cons_zero, List.set_cons_succ]) (hCont (v180) _ ⟨(by (with_reducible repeat (first | apply Kd.R_alloc | apply Kd.R_drewN | apply Kd.R_drew)); exact HO181.out), (by repeat (first | (with_reducible first | exact HB.out | apply below_alloc | apply pw_below_drewN | apply below_drew1) | exact HB.out))⟩)
     ·skip
      have hcv11 := own_string (P := Tryz.prog) Tryz.underlying43 Tryz.underlying5 Tryz.underlying9 (Kd.own_of_R HO181.out)
      refine value_ (w1 := ?_) (v := ?_) (by rfl) rfl ?_ ?_
      rotate_left 2
      ·go_simp
       constructor
       ·rfl
       ·rfl
      clear hcv11
      refine hK.out _ _ trivial (fun hHeld => ?_)
      clear hK K
      refine norm_ (a' := ?_) ?_ ?_
      rotate_left
      ·show Act.put _ (some 18) _ = _
       simp only [Act.put, List.setIfInBounds_toArray, List.set_cons_zero, List.set_cons_succ, i64_w, i32_w]
       rfl
      refine one_ (i := 2) (N := some 12) #[true, true, true, true, true, true, true, true, true, false, false] rfl rfl (one_of HT_.out (by kernel_rfl)) (by decide) (fun K hK => ?_)
      refine goes_ Tryz.func45 (by kernel_rfl) rfl #[.int .i64 (wrap64 (Int.tdiv a0 10))] (by rfl) rfl rfl (by (try simp only [List.map_toArray, List.map_cons, List.map_nil]); first | done | rfl | (simp only [List.length_drop, List.length_take]; rfl)) ?_
      with_reducible refine (ih k (by omega) (wrap64 (Int.tdiv a0 10)) t178 _ A6.out).mono ?_
      rintro e w12 ⟨rfl, hb⟩
      refine ⟨_, rfl, ?_⟩
      have n0_ := Aside0.mk (Kd.R_below (by (with_reducible repeat (first | apply Kd.R_alloc | apply Kd.R_drewN | apply Kd.R_drew)); exact HO181.out) hb)
      have n1_ := Aside0.mk (below_step (by repeat (first | (with_reducible first | exact HB.out | apply below_alloc | apply pw_below_drewN | apply below_drew1) | exact HB.out)) hb)
      clear HO181
      clear HB
      have HO181 := n0_
      have HB := n1_
      clear n0_ n1_
      (try clear hb)
      (try clear hb2)
      (try clear hk)
      (try clear hi)
      refine hK.out _ _ trivial (fun hHeld => ?_)
      clear hK K
      refine norm_ (a' := ?_) ?_ ?_
      rotate_left
      ·show Act.put _ (some 12) _ = _
       simp only [Act.put, List.setIfInBounds_toArray, List.set_cons_zero, List.set_cons_succ, i64_w, i32_w]
       rfl
      exact norm_ (by simp only [putAll, Act.put, List.setIfInBounds_toArray, List.set_cons_zero, List.set_cons_succ]) (hCont (v180) _ ⟨(by (with_reducible repeat (first | apply Kd.R_alloc | apply Kd.R_drewN | apply Kd.R_drew)); exact HO181.out), (by repeat (first | (with_reducible first | exact HB.out | apply below_alloc | apply pw_below_drewN | apply below_drew1) | exact HB.out))⟩)
   rintro v180 w13 ⟨h0_, h1_⟩
   have n0_ : Aside0 (Kd.R (Kd.int .u8) 5 w13 w.heap.size (fun _ => True) v180 y179) := ⟨h0_⟩
   have n1_ : Aside0 (Below w.heap.size w w13) := ⟨h1_⟩
   clear HB
   clear h0_ h1_
   have HO181 := n0_
   have HB := n1_
   clear n0_ n1_
   have hHeld := trivial
   refine norm_ (a' := ?_) ?_ ?_
   rotate_left
   ·simp only [putAll, Act.put, List.setIfInBounds_toArray, List.set_cons_zero, List.set_cons_succ]
    rfl
   refine pure_ (i := 9) (N := some 19) (v := ?_) (a' := ?_) #[true, true, true, true, true, true, true, true, true, true, false] rfl rfl (any_of HT_.out (by kernel_rfl)) (fun _ _ _ h => h) (Or.inl ⟨by rfl, ?_⟩) ?_ ?_
   rotate_left
   ·intro w'
    go_simp
    with_reducible rfl
   rotate_left
   ·simp only [Act.put, List.setIfInBounds_toArray, List.set_cons_zero, List.set_cons_succ, i64_w, i32_w]
    rfl
   refine pure_ (i := 10) (N := some 2) (v := ?_) (a' := ?_) #[true, true, true, true, true, true, true, true, true, true, true] rfl rfl (any_of HT_.out (by kernel_rfl)) (fun _ _ _ h => h) (Or.inl ⟨by rfl, ?_⟩) ?_ ?_
   rotate_left
   ·intro w'
    go_simp
    with_reducible rfl
   rotate_left
   ·simp only [Act.put, List.setIfInBounds_toArray, List.set_cons_zero, List.set_cons_succ, i64_w, i32_w]
    rfl
   refine done_ (done_of HT_.out (by kernel_rfl)) ?_
   try go_wp2
   go_ret
   exact ⟨by first | rfl | (simp [errW_none, errW_some] <;> rfl) | (simp [*, errW_none, errW_some] <;> rfl), by repeat (first | (with_reducible first | exact HB.out | apply below_alloc | apply pw_below_drewN | apply below_drew1) | exact HB.out)⟩
  ·rw [if_neg c7] at H
   exact absurd H (by simp)

/-! ### spec_nuOne: function 34 -/
/-- One digit (place j of numeral i, x now) made d, d + 1, .. (n of them). -/
def oneD (k : Nat) (l0 : List ByteArray) (pl : Bool) (i : Nat) (s : ByteArray) (j : Nat) (x : Int) : Nat → Int → List S31 → Option (List S31)
 | 0, _, acc => some acc
 | n + 1, d, acc => (spec_nuChange.f k x d).bind fun pq => if 1 < pq.1 ∨ 1 < pq.2 ∨ wrap64 (pq.1 + pq.2) = 0 then oneD k l0 pl i s j x n (d + 1) acc else (spec_l1Num.f k d).bind fun t => if acc.length < 100000 ∧ t.size ≤ 100 then oneD k l0 pl i s j x n (d + 1) (acc ++ [(⟨l0.set i (s.extract 0 j ++ t ++ s.extract (j + 1) s.size), pl⟩ : S31)]) else none
/-- .. at all places of a numeral. -/
def oneK (k : Nat) (l0 : List ByteArray) (pl : Bool) (i : Nat) (s : ByteArray) : List UInt8 → Nat → List S31 → Option (List S31)
 | [], _, acc => some acc
 | b :: bs, j, acc => if b.toNat < 128 then (oneD k l0 pl i s j (((b.toNat : Int) - 48) % 256) 10 0 acc).bind fun a => oneK k l0 pl i s bs (j + 1) a else none
/-- .. of all numerals. -/
def oneI (k : Nat) (l0 : List ByteArray) (pl : Bool) : List ByteArray → Nat → List S31 → Option (List S31)
 | [], _, acc => some acc
 | s :: ss, i, acc => if s.size ≤ 1000 then (oneK k l0 pl i s s.data.toList 0 acc).bind fun a => oneI k l0 pl ss (i + 1) a else none
theorem oneD.mono (l0 : List ByteArray) (pl : Bool) (i : Nat) (s : ByteArray) (j : Nat) (x : Int) (k : Nat) : ∀ (n : Nat) (d : Int) (acc : List S31), LeO (oneD k l0 pl i s j x n d acc) (oneD (k + 1) l0 pl i s j x n d acc)
 | 0, _, _ => LeO.refl _
 | n + 1, d, acc => by
  simp only [oneD]
  exact LeO.bind (spec_nuChange.mono _ _ _) (fun _ => LeO.ite (oneD.mono l0 pl i s j x k n _ _) (LeO.bind (spec_l1Num.mono _ _) (fun _ => LeO.ite (oneD.mono l0 pl i s j x k n _ _) (LeO.none _))))
theorem oneK.mono (l0 : List ByteArray) (pl : Bool) (i : Nat) (s : ByteArray) (k : Nat) : ∀ (bs : List UInt8) (j : Nat) (acc : List S31), LeO (oneK k l0 pl i s bs j acc) (oneK (k + 1) l0 pl i s bs j acc)
 | [], _, _ => LeO.refl _
 | b :: bs, j, acc => by
  simp only [oneK]
  exact LeO.ite (LeO.bind (oneD.mono _ _ _ _ _ _ _ _ _ _) (fun _ => oneK.mono l0 pl i s k bs _ _)) (LeO.none _)
theorem oneI.mono (l0 : List ByteArray) (pl : Bool) (k : Nat) : ∀ (ss : List ByteArray) (i : Nat) (acc : List S31), LeO (oneI k l0 pl ss i acc) (oneI (k + 1) l0 pl ss i acc)
 | [], _, _ => LeO.refl _
 | s :: ss, i, acc => by
  simp only [oneI]
  exact LeO.ite (LeO.bind (oneK.mono _ _ _ _ _ _ _ _) (fun _ => oneI.mono l0 pl k ss _ _)) (LeO.none _)
def spec_nuOne.f (k : Nat) (l0_0 : List ByteArray) (a0_1 : Bool) : Option (List S31) := if l0_0.length ≤ 1000 then oneI k l0_0 a0_1 l0_0 0 [] else none
theorem spec_nuOne.mono : ∀ a0 a1 k, LeO (spec_nuOne.f k a0 a1) (spec_nuOne.f (k + 1) a0 a1) := fun _ _ _ => LeO.ite (oneI.mono _ _ _ _ _ _) (LeO.none _)
theorem cell_keepO {wc w1 : World} {p : Addr} {v : Value} (h : wc.cell? p = some v) (hb : Below wc.heap.size wc w1) : w1.cell? p = some v := (hb.cell (World.block_lt_of_cell? _ _ h)).trans h
theorem digit_numO (b : UInt8) : IntKind.i64.wrap (IntKind.u8.wrap ((b.toNat : Int) - 48)) = ((b.toNat : Int) - 48) % 256 := by
 rw [show IntKind.u8.wrap ((b.toNat : Int) - 48) = ((b.toNat : Int) - 48) % 256 by simp [IntKind.wrap, IntKind.bits, IntKind.signed], IntKind.wrap_i64]
 omega
/-- A text's iterator is none of the row's blocks. -/
theorem iter_far {α : Type} {d : Kd α} {e base : Nat} {ok : Nat → Prop} {W : World} {v : Value} {xs : List α} {k0 j : Nat} {s : ByteArray} (h : Kd.S d e W base ok v xs) (hk : W.heap[k0]? = some (.stringIter s j)) : some k0 ≠ v.ownBlock := by
 intro he
 obtain ⟨cells, hc⟩ := Kd.R_typed (Kd.S_R h) k0 he.symm
 rw [hc] at hk
 cases hk
theorem S_iter {α : Type} {d : Kd α} {e base : Nat} {ok : Nat → Prop} {W : World} {v : Value} {xs : List α} {k0 j j' : Nat} {s : ByteArray} (h : Kd.S d e W base ok v xs) (hk : W.heap[k0]? = some (.stringIter s j)) : Kd.S d e (W.iterAt k0 s j') base ok v xs := by
 have h2 : Kd.S d e (W.iterAt k0 s j') base (fun k => ok k ∧ k ≠ k0) v xs := Kd.S_step (Kd.S_mono (Kd.S_bound h) (fun k hk' => ⟨hk'.1, fun he => by
  obtain ⟨_, _, cells, hc⟩ := hk'.2.2.2
  rw [he, hk] at hc
  cases hc⟩)) (fun k hk' _ => Lib.iterAt_other W k0 k s j' hk'.2)
 exact Kd.S_mono h2 (fun _ hk' => hk'.1)
theorem bounds_one (j : Nat) (s t : ByteArray) (hj : j < s.size) (hs : s.size ≤ 1000) (ht : t.size ≤ 100) : (j : Int) ≤ (s.size : Int) ∧ (j : Int) + 1 ≤ (s.size : Int) ∧ (0 : Int) ≤ (j : Int) + 1 ∧ wrap64 ((j : Int) + 1) = (j : Int) + 1 ∧ ((j : Int) + 1).toNat = j + 1 ∧ j + 1 ≤ s.size ∧ (s.extract 0 j).size = j ∧ j + t.size ≤ 9223372036854775807 ∧ j + t.size + (s.size - (j + 1)) ≤ 9223372036854775807 ∧ (s.extract (j + 1) s.size).size = s.size - (j + 1) := by
 refine ⟨by omega, by omega, by omega, by unfold wrap64; omega, by omega, by omega, by rw [ByteArray.size_extract]; omega, by omega, by omega, by rw [ByteArray.size_extract]; omega⟩
theorem room_one (n : Nat) (h : n < 100000) : (n + 1) * 32 ≤ 140737488355328 := by omega
theorem rows_noneO (W : World) (base n : Nat) (hn : n = W.heap.size) (hb : base ≤ W.heap.size) : Kd.R Kd.string 9 (W.alloc (.cells #[] 9)) base (fun _ => True) (.slice (some ⟨n, 0, none⟩) 0 0) [] := rows_noneN W base n hn hb
set_option maxHeartbeats 8000000 in
set_option maxRecDepth 100000 in
theorem spec_nuOne.calls (k : Nat) (A0_0 : Option Addr) (c0_0 : Nat) (l0_0 : List ByteArray) (a0_1 : Bool) (r : List (S31)) (w : World) (hr0_0 : Kd.C Kd.string w A0_0 l0_0.length l0_0) (hc0_0 : l0_0.length ≤ c0_0) (h : spec_nuOne.f k l0_0 a0_1 = some r) :
  Calls Tryz.prog 34 #[.agg #[.slice A0_0 l0_0.length c0_0, .bool a0_1]] w fun e w' => ∃ v0_ : Value, e = .returned (v0_) ∧ Kd.S k31 31 w' w.heap.size (fun _ => True) v0_ r ∧ Below w.heap.size w w' := by
 unfold spec_nuOne.f at h
 by_cases hl0 : l0_0.length ≤ 1000
 case neg => rw [if_neg hl0] at h; cases h
 rw [if_pos hl0] at h
 have HN := Aside0.mk h
 have HR0 := Aside0.mk hr0_0
 clear h hr0_0
 have hcl0 : l0_0.length ≤ 9223372036854775807 := by omega
 go_enter Tryz.func34, Tryz.ntmps34
 go_upto_region 2 with fail
 have hE := blk_new w (.cells #[.slice A0_0 l0_0.length c0_0, .bool a0_1] 31)
 have hB := below_alloc (Below.refl w.heap.size w) (.cells #[.slice A0_0 l0_0.length c0_0, .bool a0_1] 31)
 generalize w.alloc (.cells #[.slice A0_0 l0_0.length c0_0, .bool a0_1] 31) = W0 at *
 have HC0 := Aside0.mk (Kd.C_below HR0.out hB)
 clear HR0
 have hz0 := (blk_cell hE 0).trans rfl
 have HE := Aside0.mk hE
 have HB := Aside0.mk hB
 clear hE hB
 go_wp2
 go_loopg [3, 14] l0_0.length (fun gg v3 v14 wr => ∃ (i : Nat) (acc : List S31), v14 = .int .i64 i ∧ i ≤ l0_0.length ∧ l0_0.length - i ≤ gg ∧ Aside0 (oneI k l0_0 a0_1 (l0_0.drop i) i acc = some r) ∧ Aside0 (Kd.S k31 31 wr W0.heap.size (fun _ => True) v3 acc) ∧ Aside0 (Below W0.heap.size W0 wr))
 case atStart => exact ⟨0, [], rfl, by omega, by omega, ⟨by simpa using HN.out⟩, ⟨Kd.S_nil _ _ _ _ _⟩, ⟨Below.refl _ _⟩⟩
 case round =>
  clear HN hz0
  obtain ⟨i, acc, rfl, hi, hg, HA, HS, HBr⟩ := hrel
  by_cases hlt : i < l0_0.length
  ·have hlz : (i : Int) < (l0_0.length : Int) := by omega
   have H := HA.out
   rw [List.drop_eq_getElem_cons hlt] at H
   simp only [oneI] at H
   obtain ⟨ad, hAd, h0⟩ := Kd.at_string (Kd.C_below HC0.out HBr.out) (i : Int) (by omega) (by omega)
   rw [Int.toNat_natCast] at h0
   have hx : rdOf ByteArray.empty l0_0 (i : Int) = l0_0[i] := by unfold rdOf; rw [Int.toNat_natCast]; simp [List.getD_eq_getElem?_getD, hlt]
   rw [hx] at h0
   clear HA hx
   generalize l0_0[i] = s at *
   subst hAd
   by_cases hsz : s.size ≤ 1000
   case neg => rw [if_neg hsz] at H; cases H
   rw [if_pos hsz] at H
   obtain ⟨accR, hin, H⟩ := Option.bind_eq_some_iff.mp H
   have HIN := Aside0.mk hin
   have HH := Aside0.mk H
   clear hin H
   have hi0 : (0 : Int) ≤ (i : Int) := by omega
   go_wp2
   obtain ⟨wo, hwo⟩ : ∃ wo, wo = wr := ⟨_, rfl⟩
   subst hwo
   generalize hw0 : wo.heap.size = k0
   have hW0k : W0.heap.size ≤ k0 := by have := HBr.out.size; omega
   go_loopg [3] s.size (fun gg v3 wx => ∃ (j : Nat) (acc' : List S31), s.size - j ≤ gg ∧ j ≤ s.size ∧ Aside0 (wx.heap[k0]? = some (.stringIter s j)) ∧ Aside0 (Below W0.heap.size W0 wx) ∧ Aside0 (Kd.S k31 31 wx W0.heap.size (fun _ => True) v3 acc') ∧ Aside0 (oneK k l0_0 a0_1 i s (s.data.toList.drop j) j acc' = some accR))
   case atStart => exact ⟨0, acc, by omega, by omega, ⟨by subst hw0; exact World.iter_heap _ _ _⟩, ⟨HBr.out.alloc HBr.out.size _⟩, ⟨Kd.S_below HS.out ((Below.refl _ _).alloc (Nat.le_refl _) _)⟩, ⟨by rw [List.drop_zero]; exact HIN.out⟩⟩
   case round =>
    clear HIN HS h0
    obtain ⟨j, acc', hjg, hjl, HK, HBx, HSx, HI⟩ := hrel
    have hsl : s.data.toList.length = s.size := (Lib.size_eq s).symm
    by_cases hj : j < s.size
    ·have hI := HI.out
     rw [List.drop_eq_getElem_cons (show j < s.data.toList.length by omega)] at hI
     simp only [oneK] at hI
     have hxe : ∀ h, s.data.toList[j]'h = s[j]'hj := fun h => by rw [Array.getElem_toList]; rfl
     rw [hxe] at hI
     obtain ⟨x, hx⟩ : ∃ x, s[j]'hj = x := ⟨_, rfl⟩
     rw [hx] at hI
     by_cases hx8 : x.toNat < 128
     case neg => rw [if_neg hx8] at hI; cases hI
     rw [if_pos hx8] at hI
     obtain ⟨acc2, hD, hI⟩ := Option.bind_eq_some_iff.mp hI
     have hnx := fun ty => Lib.run_next_ascii_at (P := Tryz.prog) wr k0 s j ty HK.out hj (by rw [hx]; exact hx8)
     have HK1 := Aside0.mk (Lib.iterAt_heap wr k0 s j (j + 1) HK.out)
     have HB1 := Aside0.mk (Lib.below_iterAt HBx.out hW0k s (j + 1))
     have HS1 := Aside0.mk (S_iter (j' := j + 1) HSx.out HK.out)
     have hxx : ∀ h : j < s.size, s[j]'h = x := fun h => hx
     have j0 : (0 : Int) ≤ (j : Int) := by omega
     have j1 : (j : Int) < (s.size : Int) := by omega
     have HDD := Aside0.mk hD
     have HII := Aside0.mk hI
     clear hxe hD hI hx8
     rw [hx] at hnx
     generalize wr.iterAt k0 s (j + 1) = wq at *
     clear hx HK HBx HI HSx
     go_wp2
     go_loopg [3, 7] 10 (fun gg v3 v7 wy => ∃ (d : Nat) (a3 : List S31), v7 = .int .i64 d ∧ d ≤ 10 ∧ 10 - d ≤ gg ∧ Aside0 (oneD k l0_0 a0_1 i s j (((x.toNat : Int) - 48) % 256) (10 - d) (d : Int) a3 = some acc2) ∧ Aside0 (wy.heap[k0]? = some (.stringIter s (j + 1))) ∧ Aside0 (Below W0.heap.size W0 wy) ∧ Aside0 (Kd.S k31 31 wy W0.heap.size (fun _ => True) v3 a3))
     case atStart => exact ⟨0, acc', rfl, by omega, by omega, ⟨by simpa using HDD.out⟩, HK1, HB1, HS1⟩
     case round =>
      clear HDD HK1 HB1 HS1 hnx
      obtain ⟨d, a3, rfl, hd, hdg, HD, HK, HBy, HSy⟩ := hrel
      by_cases hd9 : d ≤ 9
      ·have hdz : (d : Int) ≤ 9 := by omega
       obtain ⟨n, hn⟩ : ∃ n, 10 - d = n + 1 := ⟨9 - d, by omega⟩
       have hn2 : 10 - (d + 1) = n := by omega
       have H := HD.out
       rw [hn] at H
       simp only [oneD] at H
       obtain ⟨⟨p, q⟩, hpq, H⟩ := Option.bind_eq_some_iff.mp H
       have hbx : ∀ h : j < s.size, ((s[j]'h).toNat : Int) = (x.toNat : Int) := fun h => by rw [hxx h]
       have d1 := digit_numO x
       have HPQ := Aside0.mk (fun W => spec_nuChange.calls k _ _ p q W hpq)
       clear HD hpq
       by_cases ht : 1 < p ∨ 1 < q ∨ wrap64 (p + q) = 0
       ·rw [if_pos ht] at H
        have HH2 := Aside0.mk H
        clear H
        by_cases t1 : 1 < p
        ·go_wp2_with (go_at_call 35; (with_reducible refine (HPQ.out _).mono ?_); rintro e w3 ⟨rfl, hb3⟩)
         go_roundg (10 - (d + 1))
         case measure => omega
         case rel => exact ⟨d + 1, a3, by go_num, by omega, by omega, ⟨by rw [hn2]; exact HH2.out⟩, ⟨blk_below HK.out hb3⟩, ⟨HBy.out.trans (hb3.mono HBy.out.size)⟩, ⟨Kd.S_below HSy.out hb3⟩⟩
        by_cases t2 : 1 < q
        ·go_wp2_with (go_at_call 35; (with_reducible refine (HPQ.out _).mono ?_); rintro e w3 ⟨rfl, hb3⟩)
         go_roundg (10 - (d + 1))
         case measure => omega
         case rel => exact ⟨d + 1, a3, by go_num, by omega, by omega, ⟨by rw [hn2]; exact HH2.out⟩, ⟨blk_below HK.out hb3⟩, ⟨HBy.out.trans (hb3.mono HBy.out.size)⟩, ⟨Kd.S_below HSy.out hb3⟩⟩
        have t3 : (wrap64 (p + q) == 0) = true := beq_iff_eq.2 (by rcases ht with h | h | h; exact absurd h t1; exact absurd h t2; exact h)
        ·go_wp2_with (go_at_call 35; (with_reducible refine (HPQ.out _).mono ?_); rintro e w3 ⟨rfl, hb3⟩)
         go_roundg (10 - (d + 1))
         case measure => omega
         case rel => exact ⟨d + 1, a3, by go_num, by omega, by omega, ⟨by rw [hn2]; exact HH2.out⟩, ⟨blk_below HK.out hb3⟩, ⟨HBy.out.trans (hb3.mono HBy.out.size)⟩, ⟨Kd.S_below HSy.out hb3⟩⟩
       ·rw [if_neg ht] at H
        obtain ⟨t, ht2, H⟩ := Option.bind_eq_some_iff.mp H
        by_cases hq : a3.length < 100000 ∧ t.size ≤ 100
        case neg => rw [if_neg hq] at H; cases H
        rw [if_pos hq] at H
        have HH2 := Aside0.mk H
        have HT := Aside0.mk (fun W => spec_l1Num.calls k _ t W ht2)
        clear H ht2
        have t1 : ¬ 1 < p := fun h => ht (.inl h)
        have t2 : ¬ 1 < q := fun h => ht (.inr (.inl h))
        have t3 : (wrap64 (p + q) == 0) = false := beq_eq_false_iff_ne.2 (fun h => ht (.inr (.inr h)))
        clear ht
        have mixed : Tryz.prog.follows .mixedOrders = true := by kernel_rfl
        have mixed : Tryz.prog.follows .mixedOrders = true := by kernel_rfl
        go_upto_region 13 with (go_at_call 35; (with_reducible refine (HPQ.out _).mono ?_); rintro e w3 ⟨rfl, hb3⟩)
        have hy0 := (blk_cell (blk_below (blk_below HE.out HBy.out) hb3) 0).trans rfl
        have hy1 := (blk_cell (blk_below (blk_below HE.out HBy.out) hb3) 1).trans rfl
        have hya : (w3.alloc (.cells #[] 9)).cell? ⟨w.heap.size, 0, none⟩ = some (.slice (some ad) l0_0.length c0_0) := (blk_cell (blk_alloc (blk_below (blk_below HE.out HBy.out) hb3) _) 0).trans rfl
        go_upto_region 14 with ((with_reducible refine gate_builtin (b := .append) (xs := #[.tmp 50, .tmp 52]) rfl ?_); at_builtin; refine Kd.R_append_rows Kd.string (w0 := w3) w3.heap.size rfl (.tmp 50) (.tmp 52) 22 9 (.string ⟨#[]⟩) 16 rfl Tryz.underlying22 info9 rfl (by decide) (by omega) _ [] l0_0 _ _ _ (fun _ => True) (fun _ => False) rfl rfl ?aO ?aR (fun _ _ h => h) (fun _ h => h.elim) (fun _ _ => trivial) ?aB ?aS ?aL ?_; (case aO => exact rows_noneO _ _ _ rfl (Nat.le_refl _)); (case aR => exact Kd.C_alloc (Kd.C_below (Kd.C_below HC0.out HBy.out) hb3) _); (case aB => exact below_alloc (Below.refl _ _) _); (case aS => simp); (case aL => simp; omega); intro v1 w5 hR hb5 hg5 hat5; rw [List.nil_append] at hR; obtain ⟨g2, cp2, rfl, hg2, hg2w, -⟩ := Kd.R_form hR (by omega))
        have hci := Kd.R_cell ByteArray.empty hR (i : Int) hi0 hlz
        rw [Int.toNat_natCast] at hci
        obtain ⟨hci, hfi⟩ := hci
        obtain ⟨j2, j3, j4, j5, j6, j7, e0, e1, e3, e4⟩ := bounds_one j s t hj hsz hq.2
        refine start_ (n := 15) (S := fun w' => w'.cell? ⟨g2, i, none⟩ = some (.string (rdOf ByteArray.empty l0_0 (i : Int))) ∧ w'.frozen? ⟨g2, i, none⟩ = false) (ds := [14]) #[false, false, false, false, false, false, false, false, false, false, false, false, false, false, false] (by kernel_rfl) rfl rfl ⟨hci, hfi⟩ (fun hHeld => ?_)
        refine pure_ (i := 0) (N := some 54) (v := ?_) (a' := ?_) #[true, false, false, false, false, false, false, false, false, false, false, false, false, false, false] rfl rfl (by kernel_rfl) (fun _ _ _ h => h) (Or.inl ⟨by rfl, ?_⟩) ?_ ?_
        rotate_left
        ·intro w'
         go_simp
         with_reducible rfl
        rotate_left
        ·simp only [Act.put, List.setIfInBounds_toArray, List.set_cons_zero, List.set_cons_succ, i64_w, i32_w]
         rfl
        refine pure_ (i := 1) (N := some 55) (v := ?_) (a' := ?_) #[true, true, false, false, false, false, false, false, false, false, false, false, false, false, false] rfl rfl (by kernel_rfl) (fun _ _ _ h => h) (Or.inl ⟨by rfl, ?_⟩) ?_ ?_
        rotate_left
        ·intro w'
         go_simp
         with_reducible rfl
        rotate_left
        ·simp only [Act.put, List.setIfInBounds_toArray, List.set_cons_zero, List.set_cons_succ, i64_w, i32_w]
         rfl
        refine pure_ (i := 2) (N := some 56) (v := ?_) (a' := ?_) #[true, true, true, false, false, false, false, false, false, false, false, false, false, false, false] rfl rfl (by kernel_rfl) (fun _ _ _ h => h) (Or.inl ⟨by rfl, ?_⟩) ?_ ?_
        rotate_left
        ·intro w'
         go_simp
         with_reducible rfl
        rotate_left
        ·simp only [Act.put, List.setIfInBounds_toArray, List.set_cons_zero, List.set_cons_succ, i64_w, i32_w]
         rfl
        refine pure_ (i := 3) (N := some 57) (v := ?_) (a' := ?_) #[true, true, true, true, false, false, false, false, false, false, false, false, false, false, false] rfl rfl (by kernel_rfl) (fun _ _ _ h => h) (Or.inl ⟨by rfl, ?_⟩) ?_ ?_
        rotate_left
        ·intro w'
         go_simp
         with_reducible rfl
        rotate_left
        ·simp only [Act.put, List.setIfInBounds_toArray, List.set_cons_zero, List.set_cons_succ, i64_w, i32_w]
         rfl
        refine pure_ (i := 4) (N := some 58) (v := ?_) (a' := ?_) #[true, true, true, true, true, false, false, false, false, false, false, false, false, false, false] rfl rfl (by kernel_rfl) (fun _ _ _ h => h) (Or.inl ⟨by rfl, ?_⟩) ?_ ?_
        rotate_left
        ·intro w'
         go_simp
         with_reducible rfl
        rotate_left
        ·simp only [Act.put, List.setIfInBounds_toArray, List.set_cons_zero, List.set_cons_succ, i64_w, i32_w]
         rfl
        refine pure_ (i := 5) (N := some 59) (v := ?_) (a' := ?_) #[true, true, true, true, true, true, false, false, false, false, false, false, false, false, false] rfl rfl (by kernel_rfl) (fun _ _ _ h => h) (Or.inl ⟨by rfl, ?_⟩) ?_ ?_
        rotate_left
        ·intro w'
         go_simp
         with_reducible rfl
        rotate_left
        ·simp only [Act.put, List.setIfInBounds_toArray, List.set_cons_zero, List.set_cons_succ, i64_w, i32_w]
         rfl
        refine pure_ (i := 8) (N := some 62) (v := ?_) (a' := ?_) #[true, true, true, true, true, true, false, false, true, false, false, false, false, false, false] rfl rfl (by kernel_rfl) (fun _ _ _ h => h) (Or.inl ⟨by rfl, ?_⟩) ?_ ?_
        rotate_left
        ·intro w'
         go_simp
         with_reducible rfl
        rotate_left
        ·simp only [Act.put, List.setIfInBounds_toArray, List.set_cons_zero, List.set_cons_succ, i64_w, i32_w]
         rfl
        refine pure_ (i := 9) (N := some 63) (v := ?_) (a' := ?_) #[true, true, true, true, true, true, false, false, true, true, false, false, false, false, false] rfl rfl (by kernel_rfl) (fun _ _ _ h => h) (Or.inl ⟨by rfl, ?_⟩) ?_ ?_
        rotate_left
        ·intro w'
         go_simp
         with_reducible rfl
        rotate_left
        ·simp only [Act.put, List.setIfInBounds_toArray, List.set_cons_zero, List.set_cons_succ, i64_w, i32_w]
         rfl
        refine pure_ (i := 10) (N := some 64) (v := ?_) (a' := ?_) #[true, true, true, true, true, true, false, false, true, true, true, false, false, false, false] rfl rfl (by kernel_rfl) (fun _ _ _ h => h) (Or.inl ⟨by rfl, ?_⟩) ?_ ?_
        rotate_left
        ·intro w'
         go_simp
         with_reducible rfl
        rotate_left
        ·simp only [Act.put, List.setIfInBounds_toArray, List.set_cons_zero, List.set_cons_succ, i64_w, i32_w]
         rfl
        refine pure_ (i := 11) (N := some 65) (v := ?_) (a' := ?_) #[true, true, true, true, true, true, false, false, true, true, true, true, false, false, false] rfl rfl (by kernel_rfl) (fun _ _ _ h => h) (Or.inl ⟨by rfl, ?_⟩) ?_ ?_
        rotate_left
        ·intro w'
         go_simp
         with_reducible rfl
        rotate_left
        ·simp only [Act.put, List.setIfInBounds_toArray, List.set_cons_zero, List.set_cons_succ, i64_w, i32_w]
         rfl
        refine one_ (i := 6) (N := some 60) #[true, true, true, true, true, true, true, false, true, true, true, true, false, false, false] rfl rfl (by kernel_rfl) (by decide) (fun K hK => ?_)
        refine call_ 45 #[.int .i64 (d : Int)] (by rfl) rfl (by first | (go_simp; done) | (go_simp; exact egL _ _)) ?_
        refine (HT.out _).mono ?_
        rintro e w6 ⟨rfl, hb6⟩
        refine ⟨_, rfl, ?_⟩
        have hbb := hb6
        refine hK.out _ _ ⟨(hb6.cell (World.block_lt_of_cell? _ _ hHeld.1)).trans hHeld.1, (hb6.frozen (World.block_lt_of_cell? _ _ hHeld.1)).trans hHeld.2⟩ (fun hHeld => ?_)
        clear hK K
        refine norm_ (a' := ?_) ?_ ?_
        rotate_left
        ·show Act.put _ (some 60) _ = _
         simp only [Act.put, List.setIfInBounds_toArray, List.set_cons_zero, List.set_cons_succ, i64_w, i32_w]
         rfl
        refine pure_ (i := 7) (N := some 61) (v := ?_) (a' := ?_) #[true, true, true, true, true, true, true, true, true, true, true, true, false, false, false] rfl rfl (by kernel_rfl) (fun _ _ _ h => h) (Or.inl ⟨by rfl, ?_⟩) ?_ ?_
        rotate_left
        ·intro w'
         go_simp
         rw [if_neg (by first | exact Nat.not_lt.2 e1 | exact Nat.not_lt.2 e3 | omega | (simp only [ByteArray.size_append, e0, e4]; omega))]
        rotate_left
        ·simp only [Act.put, List.setIfInBounds_toArray, List.set_cons_zero, List.set_cons_succ, i64_w, i32_w]
         rfl
        refine pure_ (i := 12) (N := some 66) (v := ?_) (a' := ?_) #[true, true, true, true, true, true, true, true, true, true, true, true, true, false, false] rfl rfl (by kernel_rfl) (fun _ _ _ h => h) (Or.inl ⟨by rfl, ?_⟩) ?_ ?_
        rotate_left
        ·intro w'
         go_simp
         rw [if_neg (by first | exact Nat.not_lt.2 e1 | exact Nat.not_lt.2 e3 | omega | (simp only [ByteArray.size_append, e0, e4]; omega))]
        rotate_left
        ·simp only [Act.put, List.setIfInBounds_toArray, List.set_cons_zero, List.set_cons_succ, i64_w, i32_w]
         rfl
        refine pure_ (i := 13) (N := some 67) (v := ?_) (a' := ?_) #[true, true, true, true, true, true, true, true, true, true, true, true, true, true, false] rfl rfl (by kernel_rfl) (fun _ _ _ h => h) (Or.inl ⟨by rfl, ?_⟩) ?_ ?_
        rotate_left
        ·intro w'
         go_simp
         with_reducible rfl
        rotate_left
        ·simp only [Act.put, List.setIfInBounds_toArray, List.set_cons_zero, List.set_cons_succ, i64_w, i32_w]
         rfl
        have hq0 := hHeld.1
        have hq1 := hHeld.2
        refine last_ (i := 14) (N := none) #[true, true, true, true, true, true, true, true, true, true, true, true, true, true, true] rfl rfl (by kernel_rfl) (by decide) (fun K hK => ?_)
        refine skip_ (w1 := ?_) (by rfl) rfl ?_ ?_
        rotate_left
        ·go_simp
         rfl
        refine hK.out _ _ ?_
        clear hK K
        refine done_ (by kernel_rfl) ?_
        have hR6 := Kd.R_below (Kd.R_drew hR) hb6
        have hb65 : Below w3.heap.size w3 w6 := (below_drew hb5).trans (hb6.mono hb5.size)
        have hR7 := (Kd.R_put hR6 (i : Int) (s.extract 0 j ++ t ++ s.extract (j + 1) s.size)).1
        rw [Int.toNat_natCast] at hR7
        have hb7 := below_set (g := g2) (j := i) (v := .string (s.extract 0 j ++ t ++ s.extract (j + 1) s.size)) hb65 hg2
        generalize w6.setCell ⟨g2, i, none⟩ (.string (s.extract 0 j ++ t ++ s.extract (j + 1) s.size)) = w7 at *
        have hs3 := hb3.size
        have hs7 := hb7.size
        have hsy := HBy.out.size
        have hw7 := (HBy.out.trans (hb3.mono hsy)).trans (hb7.mono (Nat.le_trans hsy hs3))
        have hS7 := Kd.S_below (Kd.S_below (Kd.S_mono (ok' := fun k_ => True ∧ ¬ w3.heap.size ≤ k_) (Kd.S_bound HSy.out) (fun k_ hk => ⟨trivial, fun hle => Nat.lt_irrefl _ (Nat.lt_of_lt_of_le hk.2.2.1 (Nat.le_trans hs3 hle))⟩)) hb3) hb7
        have hM7 := Kd.R_lower (Kd.R_mono (ok' := fun k_ => w3.heap.size ≤ k_) (Kd.R_bound hR7) (fun _ hk => hk.2.1)) (Nat.le_trans hsy hs3)
        have hK7 := blk_below (blk_below HK.out hb3) hb7
        have hfar := iter_far HSy.out HK.out
        have hy7 := (blk_cell (blk_below (blk_below (blk_below HE.out HBy.out) hb3) hb7) 1).trans rfl
        have hlt7 := Kd.S_lt HSy.out
        have hlen := hq.1
        clear hR6 hb65 hR7 hb6 hHeld hq0 hq1 hbb hR hb5 hg5 hat5 hci hfi hya hy0 hy1
        go_wp2_with ((with_reducible refine gate_builtin (b := .append) (xs := #[.tmp 68, .tmp 73]) rfl ?_); at_builtin; refine Kd.S_append k31 (w0 := W0) W0.heap.size rfl (.tmp 68) (.tmp 73) 34 31 (.agg #[(.slice none 0 0), (.bool false)]) 32 rfl Tryz.underlying34 info31 rfl (by decide) (by omega) _ a3 (⟨l0_0.set i (s.extract 0 j ++ t ++ s.extract (j + 1) s.size), a0_1⟩ : S31) [.slice (some ⟨g2, 0, none⟩) l0_0.length cp2, .bool a0_1] (fun _ => True) (fun k_ => w3.heap.size ≤ k_) rfl rfl ?aP ?aK (fun _ _ => trivial) ?aO ?aB ?aS ?aL ?_; (case aP => exact k31_mkM _ _ _ (⟨l0_0.set i (s.extract 0 j ++ t ++ s.extract (j + 1) s.size), a0_1⟩ : S31) hM7); (case aK => exact fun k_ hk => ⟨trivial, fun he => Nat.lt_irrefl _ (Nat.lt_of_lt_of_le (hlt7 k_ he.symm) (Nat.le_trans hs3 hk))⟩); (case aO => exact hS7); (case aB => exact hw7); (case aS => exact hw7.size); (case aL => exact room_one _ hlen); intro v8 w8 hS8 hb8 hg8 hat8; have hK8 := blk_grown hK7 hg8 hfar)
        go_roundg (10 - (d + 1))
        case measure => omega
        case rel => exact ⟨d + 1, _, by go_num, by omega, by omega, ⟨by rw [hn2]; exact HH2.out⟩, ⟨hK8⟩, ⟨hb8⟩, ⟨hS8⟩⟩
      ·have hdz : ¬ (d : Int) ≤ 9 := by omega
       obtain rfl : d = 10 := by omega
       obtain rfl := Option.some.inj HD.out
       clear HD
       go_wp2
       go_roundg (s.size - (j + 1))
       case measure => omega
       case rel => exact ⟨j + 1, _, by omega, by omega, HK, HBy, HSy, HII⟩
    ·obtain rfl : j = s.size := by omega
     have hnx := fun ty => Lib.run_next_end_at (P := Tryz.prog) wr k0 s s.size ty HK.out (by omega)
     have hI := HI.out
     rw [List.drop_of_length_le (by omega)] at hI
     obtain rfl := Option.some.inj hI
     clear hI HI
     go_wp2
     go_roundg (l0_0.length - (i + 1))
     case measure => omega
     case rel => exact ⟨i + 1, _, by go_num, by omega, by omega, HH, HSx, HBx⟩
  ·have hlz : ¬ (i : Int) < (l0_0.length : Int) := by omega
   have H := HA.out
   rw [List.drop_of_length_le (by omega)] at H
   obtain rfl := Option.some.inj H
   clear H HA
   go_wp2
   go_ret
   exact ⟨_, rfl, Kd.S_lower HS.out HB.out.size, HB.out.trans (HBr.out.mono HB.out.size)⟩

end Go.Proofs.YtmjlmmfhcabnfaaGreatDoor.Q
