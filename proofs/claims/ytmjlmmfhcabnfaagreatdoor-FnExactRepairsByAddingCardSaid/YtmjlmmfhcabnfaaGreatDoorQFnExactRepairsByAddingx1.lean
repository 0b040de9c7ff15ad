-- written by a program of this session, pm.py, for this claim
-- half the indentation
import Derived.Test.YtmjlmmfhcabnfaaGreatDoorQFnExactRepairsByAddingx0
namespace Go.Proofs.YtmjlmmfhcabnfaaGreatDoor.Q
open Go.RowKit Go.Proofs.YtmjlmmfhcabnfaaGreatDoorW.PrintWords Go.Proofs.YtmjlmmfhcabnfaaGreatDoorW.PrintLast Go.Proofs.YtmjlmmfhcabnfaaGreatDoorW.PrintMore
attribute [local go_sem] max2_int min2_int max_two min_two max_three min_three max_four min_four   -- for this text's walks alone
set_option linter.unusedVariables false
set_option linter.unusedSimpArgs false

/-! ### spec_l1Split: function 32 -/
def spec_l1Split.l0 : Nat → ByteArray → Int → List ByteArray → Int → Int → Option (List ByteArray)
 | 0, _, _, _, _, _ => none
 | k + 1, x0, x1, x5, x6, x7 => if x7 < (x0.size : Int) then (if 0 ≤ x7 then (if (bt x0 x7) = x1 then (if 0 ≤ x6 then (if x6 ≤ x7 then (if x7 ≤ (x0.size : Int) then (if x5.length < 8796093022208 then (spec_l1Split.l0 k x0 x1 (x5 ++ [x0.extract (x6 : Int).toNat (x7 : Int).toNat]) (wrap64 (x7 + 1)) (wrap64 (x7 + 1))) else (none)) else (none)) else (none)) else (none)) else (spec_l1Split.l0 k x0 x1 x5 x6 (wrap64 (x7 + 1)))) else (none)) else (if 0 ≤ x6 then (if x6 ≤ (x0.size : Int) then (if x5.length < 8796093022208 then (some (x5 ++ [x0.extract (x6 : Int).toNat x0.size])) else (none)) else (none)) else (none))
def spec_l1Split.f (k : Nat) (a0 : ByteArray) (a1 : Int) : Option (List ByteArray) := spec_l1Split.l0 k a0 a1 ([] : List ByteArray) 0 0
theorem spec_l1Split.mono_l : ∀ k, (∀ y0 y1 y2 y3 y4, LeO (spec_l1Split.l0 k y0 y1 y2 y3 y4) (spec_l1Split.l0 (k + 1) y0 y1 y2 y3 y4))
 | 0 => fun _ _ _ _ _ r h => by simp [spec_l1Split.l0] at h
 | k + 1 => by
  have ih0 := spec_l1Split.mono_l k
  ·intro y0 y1 y2 y3 y4
   unfold spec_l1Split.l0
   repeat' first
   | (with_reducible exact ih0 _ _ _ _ _)
   | (with_reducible exact LeO.refl _)
   | (with_reducible exact LeO.none _)
   | (with_reducible refine LeO.ite ?_ ?_)
   | (with_reducible refine LeO.bind ?_ (fun _ => ?_))
   | exact ih0 _ _ _ _ _
   | exact LeO.none _
   | refine LeO.ite ?_ ?_
   | refine LeO.bind ?_ (fun _ => ?_)
theorem spec_l1Split.mono : ∀ a0 a1 k, LeO (spec_l1Split.f k a0 a1) (spec_l1Split.f (k + 1) a0 a1) := by
 intro a0 a1 k
 have ih0 := spec_l1Split.mono_l k
 unfold spec_l1Split.f
 repeat' first
   | (with_reducible exact ih0 _ _ _ _ _)
   | (with_reducible exact LeO.refl _)
   | (with_reducible exact LeO.none _)
   | (with_reducible refine LeO.ite ?_ ?_)
   | (with_reducible refine LeO.bind ?_ (fun _ => ?_))
   | exact ih0 _ _ _ _ _
   | exact LeO.none _
   | refine LeO.ite ?_ ?_
   | refine LeO.bind ?_ (fun _ => ?_)
set_option maxHeartbeats 8000000 in
set_option maxRecDepth 100000 in
theorem spec_l1Split.calls (k : Nat) (a0 : ByteArray) (a1 : Int) (r : List ByteArray) (w : World) (h : spec_l1Split.f k a0 a1 = some r) :
  Calls Tryz.prog 32 #[.string a0, .int .u8 a1] w fun e w' => ∃ v0_ : Value, e = .returned (v0_) ∧ Kd.R Kd.string 9 w' w.heap.size (fun _ => True) v0_ r ∧ Below w.heap.size w w' := by
 have HB := Aside0.mk (Below.refl w.heap.size w)
 have H : (spec_l1Split.l0 k a0 a1 ([] : List ByteArray) 0 0) = some r := h
 clear h
 have H' := Aside0.mk H
 clear H
 go_enter Tryz.func32, Tryz.ntmps32
 go_wp2
 go_loopg [5, 6, 7] k (fun kq v5 v6 v7 w' => ∃ (x5_1 : List ByteArray) (x6_1 : Int) (x7_1 : Int), v6 = .int .i64 x6_1 ∧ v7 = .int .i64 x7_1 ∧ Aside0 (spec_l1Split.l0 kq a0 a1 x5_1 x6_1 x7_1 = some r) ∧ Aside0 (kq ≤ k) ∧ Aside0 (Kd.R Kd.string 9 w' w.heap.size (fun _ => True) v5 x5_1) ∧ Aside0 (Below w.heap.size w w'))
 case atStart => exact ⟨(([] : List ByteArray)), (0), (0), (by first | rfl | (simp; done) | (simp [*]; done)), (by first | rfl | (simp; done) | (simp [*]; done)), H', ⟨Nat.le_refl _⟩, ⟨by first | exact Kd.R_nil _ _ _ _ _ | exact Kd.N_nil _ _ _ _ _ | exact Kd.V_nil _ _ _ _ _ | exact Kd.Q_nil _ _ _ _ _ | exact Kd.S_nil _ _ _ _ _⟩, ⟨by repeat (first | (with_reducible first | exact HB.out | apply below_alloc | apply pw_below_drewN | apply below_drew1) | exact HB.out)⟩⟩
 case round =>
  clear H'
  try clear p2
  obtain ⟨x5_1, x6_1, x7_1, rfl, rfl, HA, HK1, HO_5, HB⟩ := hrel
  cases gk with
  | zero => exact absurd HA.out (by simp [spec_l1Split.l0])
  | succ k1 =>
   have H := HA.out
   clear HA
   simp only [spec_l1Split.l0] at H
   by_cases c3 : x7_1 < (a0.size : Int)
   ·rw [if_pos c3] at H
    have c3b0 : decide (x7_1 < (a0.size : Int)) = true := decide_eq_true c3
    clear c3
    by_cases c4 : 0 ≤ x7_1
    ·rw [if_pos c4] at H
     have c4b0 : decide (0 ≤ x7_1) = true := decide_eq_true c4
     clear c4
     by_cases c6 : (bt a0 x7_1) = a1
     ·rw [if_pos c6] at H
      have c6b0 : ((bt a0 x7_1) == a1) = true := beq_iff_eq.mpr c6
      have c6b1 : ((bt a0 x7_1) != a1) = false := bne_eq_false_iff_eq.mpr c6
      clear c6
      by_cases c7 : 0 ≤ x6_1
      ·rw [if_pos c7] at H
       have c7b0 := eq_true c7
       have c7b1 : decide (0 ≤ x6_1) = true := decide_eq_true c7
       clear c7
       by_cases c8 : x6_1 ≤ x7_1
       ·rw [if_pos c8] at H
        have c8b0 := eq_true c8
        have c8b1 : decide (x6_1 ≤ x7_1) = true := decide_eq_true c8
        clear c8
        by_cases c9 : x7_1 ≤ (a0.size : Int)
        ·rw [if_pos c9] at H
         have c9b0 := eq_true c9
         have c9b1 : decide (x7_1 ≤ (a0.size : Int)) = true := decide_eq_true c9
         clear c9
         by_cases c10 : x5_1.length < 8796093022208
         ·rw [if_pos c10] at H
          have LMc10 := Aside0.mk c10
          clear c10
          obtain ⟨y101, hy101⟩ : ∃ y_ : List ByteArray, y_ = (x5_1 ++ [a0.extract (x6_1 : Int).toNat (x7_1 : Int).toNat]) := ⟨_, rfl⟩
          replace H : (spec_l1Split.l0 k1 a0 a1 y101 (wrap64 (x7_1 + 1)) (wrap64 (x7_1 + 1))) = some r := by first | (rw [hy101]; with_reducible exact H) | (have H2_ := (Option.bind_some _ _).symm.trans H; rw [hy101]; with_reducible exact H2_) | (have H2_ := (Option.bind_some _ _).symm.trans H; with_reducible exact H2_) | with_reducible exact H | (rw [hy101]; exact H) | exact H
          have Ny101 := Aside0.mk hy101
          clear hy101
          have H' := Aside0.mk H
          clear H
          have p5 : 0 ≤ (x7_1 : Int) := of_decide_eq_true (by first | (with_reducible assumption) | assumption)
          have q5 : x7_1 < (a0.size : Int) := of_decide_eq_true (by first | (with_reducible assumption) | assumption)
          have hx5 := bt_at a0 x7_1
          replace p5 := eq_true p5
          replace q5 := eq_true q5
          go_wp2_with (first | ((with_reducible refine gate_builtin (b := .append) (xs := #[.tmp 19, .tmp 24]) rfl ?_); at_builtin; refine Kd.R_append Kd.string (w0 := w) w.heap.size rfl (.tmp 19) (.tmp 24) 22 9 (.string ⟨#[]⟩) 16 rfl Tryz.underlying22 info9 rfl (by decide) (by omega) u5 x5_1 (a0.extract (x6_1 : Int).toNat (x7_1 : Int).toNat) [.string (a0.extract (x6_1 : Int).toNat (x7_1 : Int).toNat)] (fun _ => True) (fun _ => False) rfl rfl ?aP (fun _ hk => hk.elim) ?aF ?aO ?aB ?aS ?aL ?_; (case aP => exact rfl); (case aB => exact (by repeat (first | (with_reducible first | exact HB.out | apply below_alloc | apply pw_below_drewN | apply below_drew1) | exact HB.out))); (case aF => exact (fun _ _ => trivial)); (case aO => exact (by (with_reducible repeat (first | apply Kd.R_alloc | apply Kd.R_drewN | apply Kd.R_drew)); exact HO_5.out)); (case aS => exact (below_size (by repeat (first | (with_reducible first | exact HB.out | apply below_alloc | apply pw_below_drewN | apply below_drew1) | exact HB.out)))); (case aL => have := LMc10.out; omega); intro v102 w11 ho hb hg hat; rw [← Ny101.out] at ho; have n0_ := Aside0.mk (hb); have n1_ := Aside0.mk (ho); clear HB; clear HO_5; have HB := n0_; have HO103 := n1_; clear n0_ n1_; clear ho hb hg hat))
          go_roundg k1
          case measure => have := HK1.out; omega
          case rel => exact ⟨(y101), (wrap64 (x7_1 + 1)), (wrap64 (x7_1 + 1)), (by first | rfl | (simp; done) | (simp [*]; done)), (by first | rfl | (simp; done) | (simp [*]; done)), H', ⟨by have := HK1.out; omega⟩, ⟨by (with_reducible repeat (first | apply Kd.R_alloc | apply Kd.R_drewN | apply Kd.R_drew)); exact HO103.out⟩, ⟨by repeat (first | (with_reducible first | exact HB.out | apply below_alloc | apply pw_below_drewN | apply below_drew1) | exact HB.out)⟩⟩
         ·rw [if_neg c10] at H
          exact absurd H (by simp)
        ·rw [if_neg c9] at H
         exact absurd H (by simp)
       ·rw [if_neg c8] at H
        exact absurd H (by simp)
      ·rw [if_neg c7] at H
       exact absurd H (by simp)
     ·rw [if_neg c6] at H
      have c6b0 : ((bt a0 x7_1) == a1) = false := beq_eq_false_iff_ne.mpr c6
      have c6b1 : ((bt a0 x7_1) != a1) = true := bne_iff_ne.mpr c6
      have H' := Aside0.mk H
      clear H
      have p5 : 0 ≤ (x7_1 : Int) := of_decide_eq_true (by first | (with_reducible assumption) | assumption)
      have q5 : x7_1 < (a0.size : Int) := of_decide_eq_true (by first | (with_reducible assumption) | assumption)
      have hx5 := bt_at a0 x7_1
      replace p5 := eq_true p5
      replace q5 := eq_true q5
      go_wp2
      go_roundg k1
      case measure => have := HK1.out; omega
      case rel => exact ⟨(x5_1), (x6_1), (wrap64 (x7_1 + 1)), (by first | rfl | (simp; done) | (simp [*]; done)), (by first | rfl | (simp; done) | (simp [*]; done)), H', ⟨by have := HK1.out; omega⟩, ⟨by (with_reducible repeat (first | apply Kd.R_alloc | apply Kd.R_drewN | apply Kd.R_drew)); exact HO_5.out⟩, ⟨by repeat (first | (with_reducible first | exact HB.out | apply below_alloc | apply pw_below_drewN | apply below_drew1) | exact HB.out)⟩⟩
    ·rw [if_neg c4] at H
     exact absurd H (by simp)
   ·rw [if_neg c3] at H
    have c3b0 : decide (x7_1 < (a0.size : Int)) = false := decide_eq_false c3
    clear c3
    by_cases c12 : 0 ≤ x6_1
    ·rw [if_pos c12] at H
     have c12b0 := eq_true c12
     have c12b1 : decide (0 ≤ x6_1) = true := decide_eq_true c12
     clear c12
     by_cases c13 : x6_1 ≤ (a0.size : Int)
     ·rw [if_pos c13] at H
      have c13b0 := eq_true c13
      have c13b1 : decide (x6_1 ≤ (a0.size : Int)) = true := decide_eq_true c13
      clear c13
      by_cases c14 : x5_1.length < 8796093022208
      ·rw [if_pos c14] at H
       have LMc14 := Aside0.mk c14
       clear c14
       obtain ⟨y104, hy104⟩ : ∃ y_ : List ByteArray, y_ = (x5_1 ++ [a0.extract (x6_1 : Int).toNat a0.size]) := ⟨_, rfl⟩
       replace H : (some y104) = some r := by first | (rw [hy104]; with_reducible exact H) | (have H2_ := (Option.bind_some _ _).symm.trans H; rw [hy104]; with_reducible exact H2_) | (have H2_ := (Option.bind_some _ _).symm.trans H; with_reducible exact H2_) | with_reducible exact H | (rw [hy104]; exact H) | exact H
       have Ny104 := Aside0.mk hy104
       clear hy104
       obtain rfl := Option.some.inj H
       go_wp2_with (first | ((with_reducible refine gate_builtin (b := .append) (xs := #[.tmp 28, .tmp 32]) rfl ?_); at_builtin; refine Kd.R_append Kd.string (w0 := w) w.heap.size rfl (.tmp 28) (.tmp 32) 22 9 (.string ⟨#[]⟩) 16 rfl Tryz.underlying22 info9 rfl (by decide) (by omega) u5 x5_1 (a0.extract (x6_1 : Int).toNat a0.size) [.string (a0.extract (x6_1 : Int).toNat a0.size)] (fun _ => True) (fun _ => False) rfl rfl ?aP (fun _ hk => hk.elim) ?aF ?aO ?aB ?aS ?aL ?_; (case aP => exact rfl); (case aB => exact (by repeat (first | (with_reducible first | exact HB.out | apply below_alloc | apply pw_below_drewN | apply below_drew1) | exact HB.out))); (case aF => exact (fun _ _ => trivial)); (case aO => exact (by (with_reducible repeat (first | apply Kd.R_alloc | apply Kd.R_drewN | apply Kd.R_drew)); exact HO_5.out)); (case aS => exact (below_size (by repeat (first | (with_reducible first | exact HB.out | apply below_alloc | apply pw_below_drewN | apply below_drew1) | exact HB.out)))); (case aL => have := LMc14.out; omega); intro v105 w15 ho hb hg hat; rw [← Ny104.out] at ho; have n0_ := Aside0.mk (hb); have n1_ := Aside0.mk (ho); clear HB; clear HO_5; have HB := n0_; have HO106 := n1_; clear n0_ n1_; clear ho hb hg hat))
       go_ret
       exact ⟨_, by first | rfl | (simp [errW_none, errW_some] <;> rfl) | (simp [*, errW_none, errW_some] <;> rfl), by (with_reducible repeat (first | apply Kd.R_alloc | apply Kd.R_drewN | apply Kd.R_drew)); exact HO106.out, by repeat (first | (with_reducible first | exact HB.out | apply below_alloc | apply pw_below_drewN | apply below_drew1) | exact HB.out)⟩
      ·rw [if_neg c14] at H
       exact absurd H (by simp)
     ·rw [if_neg c13] at H
      exact absurd H (by simp)
    ·rw [if_neg c12] at H
     exact absurd H (by simp)

/-! ### spec_l1In: function 44 -/
def spec_l1In.f (a0 : Int) (a1 : Int) (a2 : Int) : Option (Bool) := if a0 ≥ a1 then (some (decide (a0 ≤ a2))) else (some false)
set_option maxHeartbeats 8000000 in
set_option maxRecDepth 100000 in
theorem spec_l1In.calls (a0 : Int) (a1 : Int) (a2 : Int) (r : Bool) (w : World) (h : spec_l1In.f a0 a1 a2 = some r) :
  Calls Tryz.prog 44 #[.int .i64 a0, .int .i64 a1, .int .i64 a2] w fun e w' => e = .returned (.bool r) ∧ Drawn0 w w' := by
 have H : (if a0 ≥ a1 then (some (decide (a0 ≤ a2))) else (some false)) = some r := h
 clear h
 by_cases c4 : a0 ≥ a1
 ·rw [if_pos c4] at H
  have c4b0 : decide (a1 ≤ a0) = true := decide_eq_true c4
  clear c4
  obtain rfl := Option.some.inj H
  go_enter Tryz.func44, Tryz.ntmps44
  go_wp2
  go_ret
  exact ⟨by first | rfl | (simp; done) | (simp [*]; done), by repeat (first | exact Drawn0.refl _ | apply Drawn0.step)⟩
 ·rw [if_neg c4] at H
  have c4b0 : decide (a1 ≤ a0) = false := decide_eq_false c4
  clear c4
  obtain rfl := Option.some.inj H
  go_enter Tryz.func44, Tryz.ntmps44
  go_wp2
  go_ret
  exact ⟨by first | rfl | (simp; done) | (simp [*]; done), by repeat (first | exact Drawn0.refl _ | apply Drawn0.step)⟩

/-! ### spec_nuNumeral: function 33 -/
def spec_nuNumeral.l0 : Nat → ByteArray → Int → Option (Bool)
 | 0, _, _ => none
 | k + 1, x0, x5 => if x5 < (x0.size : Int) then (if 0 ≤ x5 then (if (bt x0 x5) < 48 then (some false) else (if (bt x0 x5) > 57 then (some false) else (spec_nuNumeral.l0 k x0 (wrap64 (x5 + 1))))) else (none)) else (some true)
def spec_nuNumeral.f (k : Nat) (a0 : ByteArray) (a1 : Int) : Option (Bool) := (spec_l1In.f (a0.size : Int) 1 a1).bind fun t107 => (if t107 = true then (spec_nuNumeral.l0 k a0 0) else (some false))
theorem spec_nuNumeral.mono_l : ∀ k, (∀ y0 y1, LeO (spec_nuNumeral.l0 k y0 y1) (spec_nuNumeral.l0 (k + 1) y0 y1))
 | 0 => fun _ _ r h => by simp [spec_nuNumeral.l0] at h
 | k + 1 => by
  have ih0 := spec_nuNumeral.mono_l k
  ·intro y0 y1
   unfold spec_nuNumeral.l0
   repeat' first
   | (with_reducible exact ih0 _ _)
   | (with_reducible exact LeO.refl _)
   | (with_reducible exact LeO.none _)
   | (with_reducible refine LeO.ite ?_ ?_)
   | (with_reducible refine LeO.bind ?_ (fun _ => ?_))
   | exact ih0 _ _
   | exact LeO.none _
   | refine LeO.ite ?_ ?_
   | refine LeO.bind ?_ (fun _ => ?_)
theorem spec_nuNumeral.mono : ∀ a0 a1 k, LeO (spec_nuNumeral.f k a0 a1) (spec_nuNumeral.f (k + 1) a0 a1) := by
 intro a0 a1 k
 have ih0 := spec_nuNumeral.mono_l k
 unfold spec_nuNumeral.f
 repeat' first
   | (with_reducible exact ih0 _ _)
   | (with_reducible exact LeO.refl _)
   | (with_reducible exact LeO.none _)
   | (with_reducible refine LeO.ite ?_ ?_)
   | (with_reducible refine LeO.bind ?_ (fun _ => ?_))
   | exact ih0 _ _
   | exact LeO.none _
   | refine LeO.ite ?_ ?_
   | refine LeO.bind ?_ (fun _ => ?_)
set_option maxHeartbeats 8000000 in
set_option maxRecDepth 100000 in
theorem spec_nuNumeral.calls (k : Nat) (a0 : ByteArray) (a1 : Int) (r : Bool) (w : World) (h : spec_nuNumeral.f k a0 a1 = some r) :
  Calls Tryz.prog 33 #[.string a0, .int .i64 a1] w fun e w' => e = .returned (.bool r) ∧ Drawn0 w w' := by
 have H : ((spec_l1In.f (a0.size : Int) 1 a1).bind fun t107 => (if t107 = true then (spec_nuNumeral.l0 k a0 0) else (some false))) = some r := h
 clear h
 replace H := Option.bind_eq_some_iff.mp H
 obtain ⟨t107, A30, H⟩ := H
 replace H : (if t107 = true then (spec_nuNumeral.l0 k a0 0) else (some false)) = some r := H
 have A3 := Aside0.mk A30
 clear A30
 by_cases c4 : t107 = true
 ·subst c4
  have H1 : (spec_nuNumeral.l0 k a0 0) = some r := by rw [if_pos rfl] at H; exact H
  clear H
  have H := H1
  clear H1
  have H' := Aside0.mk H
  clear H
  go_enter Tryz.func33, Tryz.ntmps33
  go_wp2_with (first | ((with_reducible refine gate_callee (f := 44) rfl ?_); refine goesL_ (some 9) rfl rfl Tryz.func44 (by kernel_rfl) rfl #[.int .i64 (a0.size : Int), .int .i64 1, .int .i64 a1] rfl (by (try simp only [List.map_toArray, List.map_cons, List.map_nil]); first | done | rfl | (simp only [List.length_drop, List.length_take]; rfl)) ?_; (with_reducible refine (spec_l1In.calls (a0.size : Int) 1 a1 true _ A3.out).mono ?_); rintro e w' ⟨rfl, ⟨nd, rfl⟩⟩; refine ⟨_, rfl, ?_⟩))
  go_loopg [5] k (fun kq v5 w' => ∃ (x5_1 : Int), v5 = .int .i64 x5_1 ∧ Aside0 (spec_nuNumeral.l0 kq a0 x5_1 = some r) ∧ Aside0 (kq ≤ k) ∧ Drawn0 w w')
  case atStart => exact ⟨(0), (by first | rfl | (simp; done) | (simp [*]; done)), H', ⟨Nat.le_refl _⟩, by repeat (first | exact Drawn0.refl _ | apply Drawn0.step)⟩
  case round =>
   clear H'
   try clear p2
   try clear c3
   try clear c4
   obtain ⟨x5_1, rfl, HA, HK1, ⟨m1, rfl⟩⟩ := hrel
   cases gk with
   | zero => exact absurd HA.out (by simp [spec_nuNumeral.l0])
   | succ k1 =>
    have H := HA.out
    clear HA
    simp only [spec_nuNumeral.l0] at H
    by_cases c5 : x5_1 < (a0.size : Int)
    ·rw [if_pos c5] at H
     have c5b0 : decide (x5_1 < (a0.size : Int)) = true := decide_eq_true c5
     clear c5
     by_cases c6 : 0 ≤ x5_1
     ·rw [if_pos c6] at H
      have c6b0 : decide (0 ≤ x5_1) = true := decide_eq_true c6
      clear c6
      by_cases c8 : (bt a0 x5_1) < 48
      ·rw [if_pos c8] at H
       have c8b0 : decide ((bt a0 x5_1) < 48) = true := decide_eq_true c8
       clear c8
       obtain rfl := Option.some.inj H
       have p7 : 0 ≤ (x5_1 : Int) := of_decide_eq_true (by first | (with_reducible assumption) | assumption)
       have q7 : x5_1 < (a0.size : Int) := of_decide_eq_true (by first | (with_reducible assumption) | assumption)
       have hx7 := bt_at a0 x5_1
       replace p7 := eq_true p7
       replace q7 := eq_true q7
       go_wp2
       go_ret
       exact ⟨by first | rfl | (simp; done) | (simp [*]; done), by repeat (first | exact Drawn0.refl _ | apply Drawn0.step)⟩
      ·rw [if_neg c8] at H
       have c8b0 : decide ((bt a0 x5_1) < 48) = false := decide_eq_false c8
       clear c8
       by_cases c10 : (bt a0 x5_1) > 57
       ·rw [if_pos c10] at H
        have c10b0 : decide (57 < (bt a0 x5_1)) = true := decide_eq_true c10
        clear c10
        obtain rfl := Option.some.inj H
        have p7 : 0 ≤ (x5_1 : Int) := of_decide_eq_true (by first | (with_reducible assumption) | assumption)
        have q7 : x5_1 < (a0.size : Int) := of_decide_eq_true (by first | (with_reducible assumption) | assumption)
        have hx7 := bt_at a0 x5_1
        replace p7 := eq_true p7
        replace q7 := eq_true q7
        have p9 : 0 ≤ (x5_1 : Int) := of_decide_eq_true (by first | (with_reducible assumption) | assumption)
        have q9 : x5_1 < (a0.size : Int) := of_decide_eq_true (by first | (with_reducible assumption) | assumption)
        have hx9 := bt_at a0 x5_1
        replace p9 := eq_true p9
        replace q9 := eq_true q9
        go_wp2
        go_ret
        exact ⟨by first | rfl | (simp; done) | (simp [*]; done), by repeat (first | exact Drawn0.refl _ | apply Drawn0.step)⟩
       ·rw [if_neg c10] at H
        have c10b0 : decide (57 < (bt a0 x5_1)) = false := decide_eq_false c10
        clear c10
        have H' := Aside0.mk H
        clear H
        have p7 : 0 ≤ (x5_1 : Int) := of_decide_eq_true (by first | (with_reducible assumption) | assumption)
        have q7 : x5_1 < (a0.size : Int) := of_decide_eq_true (by first | (with_reducible assumption) | assumption)
        have hx7 := bt_at a0 x5_1
        replace p7 := eq_true p7
        replace q7 := eq_true q7
        have p9 : 0 ≤ (x5_1 : Int) := of_decide_eq_true (by first | (with_reducible assumption) | assumption)
        have q9 : x5_1 < (a0.size : Int) := of_decide_eq_true (by first | (with_reducible assumption) | assumption)
        have hx9 := bt_at a0 x5_1
        replace p9 := eq_true p9
        replace q9 := eq_true q9
        go_wp2
        go_roundg k1
        case measure => have := HK1.out; omega
        case rel => exact ⟨(wrap64 (x5_1 + 1)), (by first | rfl | (simp; done) | (simp [*]; done)), H', ⟨by have := HK1.out; omega⟩, by repeat (first | exact Drawn0.refl _ | apply Drawn0.step)⟩
     ·rw [if_neg c6] at H
      exact absurd H (by simp)
    ·rw [if_neg c5] at H
     have c5b0 : decide (x5_1 < (a0.size : Int)) = false := decide_eq_false c5
     clear c5
     obtain rfl := Option.some.inj H
     go_wp2
     go_ret
     exact ⟨by first | rfl | (simp; done) | (simp [*]; done), by repeat (first | exact Drawn0.refl _ | apply Drawn0.step)⟩
 ·replace c4 := Bool.eq_false_iff.mpr c4
  subst c4
  have H1 : (some false) = some r := by rw [if_neg (show ¬ (false = true) by decide)] at H; exact H
  clear H
  have H := H1
  clear H1
  obtain rfl := Option.some.inj H
  go_enter Tryz.func33, Tryz.ntmps33
  go_wp2_with (first | ((with_reducible refine gate_callee (f := 44) rfl ?_); refine goesL_ (some 9) rfl rfl Tryz.func44 (by kernel_rfl) rfl #[.int .i64 (a0.size : Int), .int .i64 1, .int .i64 a1] rfl (by (try simp only [List.map_toArray, List.map_cons, List.map_nil]); first | done | rfl | (simp only [List.length_drop, List.length_take]; rfl)) ?_; (with_reducible refine (spec_l1In.calls (a0.size : Int) 1 a1 false _ A3.out).mono ?_); rintro e w' ⟨rfl, ⟨nd, rfl⟩⟩; refine ⟨_, rfl, ?_⟩))
  go_ret
  exact ⟨by first | rfl | (simp; done) | (simp [*]; done), by repeat (first | exact Drawn0.refl _ | apply Drawn0.step)⟩

/-! ### spec_nuRead: function 21 -/
/-- All of some texts are numerals. -/
def nuAll (k : Nat) : List ByteArray → Option Bool
 | [] => some true
 | x :: xs => (spec_nuNumeral.f k x 3).bind fun b => if b = true then nuAll k xs else some false
def nuRest (k : Nat) (ps : List ByteArray) (t : ByteArray) (plus : Bool) : Option (List ByteArray × Bool × Bool) :=
 if ps.length ≤ 2000000 then (if (ps ++ [t]).length = 3 then (nuAll k (ps ++ [t])).bind fun b => if b = true then some (ps ++ [t], plus, true) else some ([], false, false) else some ([], false, false)) else none
def spec_nuRead.f (k : Nat) (a0 : ByteArray) : Option (List ByteArray × Bool × Bool) :=
 (spec_l1Split.f k a0 61).bind fun hs => if hs.length = 2 then (spec_l1Split.f k (rdOf ByteArray.empty hs 0) 43).bind fun ps => (if ps.length = 1 then (spec_l1Split.f k (rdOf ByteArray.empty hs 0) 45).bind fun qs => nuRest k qs (rdOf ByteArray.empty hs 1) false else nuRest k ps (rdOf ByteArray.empty hs 1) true) else some ([], false, false)
theorem nuAll.mono : ∀ l k, LeO (nuAll k l) (nuAll (k + 1) l)
 | [], k => LeO.refl _
 | x :: xs, k => by
  unfold nuAll
  refine LeO.bind (spec_nuNumeral.mono _ _ _) (fun b => LeO.ite (nuAll.mono xs k) (LeO.refl _))
theorem spec_nuRead.mono : ∀ a0 k, LeO (spec_nuRead.f k a0) (spec_nuRead.f (k + 1) a0) := by
 intro a0 k
 unfold spec_nuRead.f nuRest
 repeat' first
  | (with_reducible exact spec_l1Split.mono _ _ _)
  | (with_reducible exact nuAll.mono _ _)
  | (with_reducible exact LeO.refl _)
  | (with_reducible exact LeO.none _)
  | (with_reducible refine LeO.ite ?_ ?_)
  | (with_reducible refine LeO.bind ?_ (fun _ => ?_))
theorem rows_none (W : World) (base : Nat) (hb : base ≤ W.heap.size) : Kd.R Kd.string 9 (W.alloc (.cells #[] 9)) base (fun _ => True) (.slice (some ⟨W.heap.size, 0, none⟩) 0 0) [] := Kd.R_of_own (xs := []) (World.ownsRow_lit W #[] 0 hb (by decide) rfl) (fun _ _ => trivial)
theorem row_one (W : World) (t : ByteArray) : Kd.C Kd.string (W.alloc (.cells #[.string t] 9)) (some ⟨W.heap.size, 0, none⟩) 1 [t] :=
 (Kd.R_reads' (Kd.R_of_own (xs := [t]) (World.ownsRow_lit (base := 0) (e := 9) (size := 1) W #[.string t] 1 (Nat.zero_le _) (by decide) rfl) (fun _ _ => trivial) : Kd.R Kd.string 9 _ 0 (fun _ => True) (.slice (some ⟨W.heap.size, 0, none⟩) 1 1) [t])).2.2
theorem rows_noneN (W : World) (base n : Nat) (hn : n = W.heap.size) (hb : base ≤ W.heap.size) : Kd.R Kd.string 9 (W.alloc (.cells #[] 9)) base (fun _ => True) (.slice (some ⟨n, 0, none⟩) 0 0) [] := hn ▸ rows_none W base hb
theorem row_oneN (W : World) (t : ByteArray) (n : Nat) (hn : n = W.heap.size) : Kd.C Kd.string (W.alloc (.cells #[.string t] 9)) (some ⟨n, 0, none⟩) 1 [t] := hn ▸ row_one W t
theorem row_kept {W w1 : World} {b : Nat} {row : Option Nat} {t : ByteArray} (h : Kd.C Kd.string W (some ⟨b, 0, none⟩) 1 [t]) (hg : W.grownBy w1 row) (hb : b < W.heap.size) (hne : row ≠ some b) : Kd.C Kd.string w1 (some ⟨b, 0, none⟩) 1 [t] := by
 refine ⟨rfl, by decide, fun _ => ?_⟩
 obtain ⟨ad, e, hc⟩ := h.2.2 (by decide)
 cases e
 refine ⟨_, rfl, fun j p hp => ?_⟩
 obtain ⟨c, h1, h2, h3⟩ := hc j p hp
 refine ⟨c, h1, h2, fun i u hu => ?_⟩
 have hbk : ((⟨b, 0, none⟩ : Addr).add (j * Kd.string.sz + i)).block = b := by unfold Addr.add; split <;> rfl
 rw [hg.cell_far _ (by rw [hbk]; exact hb) (by rw [hbk]; exact Ne.symm hne)]
 exact h3 i u hu
theorem far_of {n0 : Nat} {v : Value} (h : ∀ k, v.ownBlock = some k → n0 ≤ k) {g : Nat} (hg : g < n0) : some g ≠ v.ownBlock := fun e => by have := h g e.symm; omega
theorem grown_lt {n1 n0 : Nat} {v v1 : Value} (h : ∀ k, v.ownBlock = some k → n0 ≤ k) (hn : n0 ≤ n1) (hat : v1.ownBlock = v.ownBlock ∨ ∃ b, v1.ownBlock = some b ∧ n1 ≤ b) : ∀ k, v1.ownBlock = some k → n0 ≤ k := fun k hk => by
 rcases hat with e | ⟨b, e, hb⟩
 ·exact h k (e ▸ hk)
 ·rw [e] at hk; cases hk; omega
theorem cell_keepR {wc w1 : World} {p : Addr} {v : Value} (h : wc.cell? p = some v) (hb : Below wc.heap.size wc w1) : w1.cell? p = some v := (hb.cell (World.block_lt_of_cell? _ _ h)).trans h
set_option maxHeartbeats 8000000 in
set_option maxRecDepth 100000 in
theorem spec_nuRead.calls (k : Nat) (a0 : ByteArray) (r1 : List ByteArray) (r2 : Bool) (r3 : Bool) (w : World) (h : spec_nuRead.f k a0 = some (r1, r2, r3)) :
  Calls Tryz.prog 21 #[.string a0] w fun e w' => ∃ v0_ : Value, e = .returned (.tuple #[.agg #[v0_, .bool r2], .bool r3]) ∧ Kd.R Kd.string 9 w' w.heap.size (fun _ => True) v0_ r1 ∧ Below w.heap.size w w' := by
 unfold spec_nuRead.f at h
 obtain ⟨hs, h1, h⟩ := Option.bind_eq_some_iff.mp h
 have H1 := Aside0.mk h1
 clear h1
 by_cases c2 : hs.length = 2
 case neg =>
  rw [if_neg c2] at h
  obtain ⟨rfl, h2⟩ := Prod.mk.inj (Option.some.inj h)
  obtain ⟨rfl, rfl⟩ := Prod.mk.inj h2
  clear h h2
  have c2z : ((hs.length : Int) != 2) = true := bne_iff_ne.2 (by omega)
  go_enter Tryz.func21, Tryz.ntmps21
  go_wp2_with (go_at_call 32; (with_reducible refine (spec_l1Split.calls k a0 61 hs _ H1.out).mono ?_); rintro e w1 ⟨v0, rfl, hR, hb⟩; obtain ⟨A1, c1, rfl⟩ := Kd.R_slice hR; have BK0 := Aside0.mk (blk_below (blk_new w _) hb); have HB := Aside0.mk ((below_alloc (Below.refl w.heap.size w) _).trans (hb.mono (by simp))); have hz0 := (blk_cell BK0.out 0).trans rfl; have hz1 := (blk_cell BK0.out 1).trans rfl; have hf0 := blk_frozen BK0.out 0; have hf1 := blk_frozen BK0.out 1; clear hb hR)
  refine bodyPost_ret (results_ct rfl _ _ w.heap.size 31 #[.slice none 0 0, .bool false] (0, 0) _ rfl (blk_set (blk_set BK0.out 0 _) 1 _) Tryz.underlying31 rfl (by kernel_rfl)) rfl ?_
  exact ⟨_, rfl, Kd.R_nil _ _ _ _ _, below_set (below_set HB.out (Nat.le_refl _)) (Nat.le_refl _)⟩
 case pos =>
  rw [if_pos c2] at h
  obtain ⟨ps, h1, h⟩ := Option.bind_eq_some_iff.mp h
  have H2 := Aside0.mk h1
  have HT := Aside0.mk h
  clear h1 h
  have c2z : ((hs.length : Int) != 2) = false := bne_eq_false_iff_eq.2 (by omega)
  go_enter Tryz.func21, Tryz.ntmps21
  go_upto_region 5 with (go_at_call 32; (with_reducible refine (spec_l1Split.calls k a0 61 hs _ H1.out).mono ?_); rintro e w1 ⟨v0, rfl, hR, hb⟩; obtain ⟨g1, c1, rfl, hg1a, hg1b, hty1⟩ := Kd.R_form hR (by omega); have BK0 := Aside0.mk (blk_below (blk_new w _) hb); have HB := Aside0.mk ((below_alloc (Below.refl w.heap.size w) _).trans (hb.mono (by simp))); have HR1 := Aside0.mk hR; clear hb hR)
  have hx0 := (Kd.R_cell ByteArray.empty (Kd.R_alloc HR1.out (.cells #[.slice none 0 0, .bool true] 31)) 0 (by omega) (by omega)).1
  have hx1 := (Kd.R_cell ByteArray.empty (Kd.R_alloc HR1.out (.cells #[.slice none 0 0, .bool true] 31)) 1 (by omega) (by omega)).1
  have HBK0 := Aside0.mk (blk_alloc BK0.out (.cells #[.slice none 0 0, .bool true] 31))
  have HBKE := Aside0.mk (blk_new w1 (.cells #[.slice none 0 0, .bool true] 31))
  have hBA := below_alloc HB.out (.cells #[.slice none 0 0, .bool true] 31)
  have hge : w.heap.size < w1.heap.size := blk_lt BK0.out
  have hgg : g1 ≠ w.heap.size := fun e => by
   obtain ⟨cl, hcl⟩ := hty1
   rw [e, BK0.out] at hcl
   cases hcl
  have hg1e : g1 < w1.heap.size := hg1b
  clear HB BK0 HR1 hty1
  generalize w1.alloc (.cells #[.slice none 0 0, .bool true] 31) = W4 at *
  generalize w1.heap.size = ge at *
  generalize rdOf ByteArray.empty hs 0 = x0 at *
  generalize rdOf ByteArray.empty hs 1 = x1 at *
  rw [show ((0 : Int)).toNat = 0 from rfl] at hx0
  rw [show ((1 : Int)).toNat = 1 from rfl] at hx1
  have HX0 := Aside0.mk hx0
  have HX1 := Aside0.mk hx1
  have HB := Aside0.mk hBA
  clear hx1 hBA
  go_upto_if 22 with (go_at_call 32; (with_reducible refine (spec_l1Split.calls k x0 43 ps _ H2.out).mono ?_); rintro e w5 ⟨v0, rfl, hR, hb⟩; obtain ⟨A5, c5, rfl⟩ := Kd.R_slice hR; have HR5 := Aside0.mk (Kd.R_lower hR HB.out.size); have HB5 := Aside0.mk hb; clear hb hR)
  have HBK0' := Aside0.mk (blk_below HBK0.out HB5.out)
  have HBKE' := Aside0.mk (blk_below HBKE.out HB5.out)
  have HX0' := Aside0.mk (cell_keepR HX0.out HB5.out)
  have HX1' := Aside0.mk (cell_keepR HX1.out HB5.out)
  have HB' := Aside0.mk (HB.out.trans (HB5.out.mono HB.out.size))
  clear HBK0 HBKE HX0 HX1 HB HB5 hx0
  go_cut [6] (fun v6 wc => ∃ (qs : List ByteArray) (plus : Bool) (A : Option Addr) (c : Nat), v6 = .slice A qs.length c ∧ Aside0 (nuRest k qs x1 plus = some (r1, r2, r3)) ∧ Aside0 (Kd.R Kd.string 9 wc w.heap.size (fun _ => True) (.slice A qs.length c) qs) ∧ Aside0 (wc.heap[w.heap.size]? = some (.cells #[.slice none 0 0, .bool false] 31 (0, 0))) ∧ Aside0 (wc.heap[ge]? = some (.cells #[.slice none 0 0, .bool plus] 31 (0, 0))) ∧ Aside0 (wc.cell? ⟨g1, 1, none⟩ = some (.string x1)) ∧ Aside0 (Below w.heap.size w wc))
  case first =>
   have hge0 : w.heap.size ≠ ge := by omega
   have hge1 : g1 ≠ ge := by omega
   by_cases c3 : ps.length = 1
   ·have c3z : ((ps.length : Int) == 1) = true := beq_iff_eq.2 (by omega)
    have h := HT.out
    rw [if_pos c3] at h
    obtain ⟨qs, h1, h⟩ := Option.bind_eq_some_iff.mp h
    have H3 := Aside0.mk h1
    have HN := Aside0.mk h
    clear h h1
    have hz1 := (blk_cell HBKE'.out 1).trans rfl
    have hf1 := blk_frozen HBKE'.out 1
    go_upto_region 8 with fail
    have HK0 := Aside0.mk (blk_far HBK0'.out (p := ⟨ge, 1, none⟩) hge0 (.bool false))
    have HKE := Aside0.mk (blk_set HBKE'.out 1 (.bool false))
    have hx0 := (World.cell?_setCell_far w5 ⟨ge, 1, none⟩ ⟨g1, 0, none⟩ (.bool false) (Ne.symm hge1)).trans HX0'.out
    have HX1 := Aside0.mk ((World.cell?_setCell_far w5 ⟨ge, 1, none⟩ ⟨g1, 1, none⟩ (.bool false) (Ne.symm hge1)).trans HX1'.out)
    have HB := Aside0.mk (below_set (g := ge) (j := 1) (v := .bool false) HB'.out (by omega))
    clear hz1 hf1 HR5
    generalize w5.setCell ⟨ge, 1, none⟩ (.bool false) = W7 at *
    go_wp2_with (go_at_call 32; (with_reducible refine (spec_l1Split.calls k x0 45 qs _ H3.out).mono ?_); rintro e w8 ⟨v0, rfl, hR, hb⟩; obtain ⟨A8, c8, rfl⟩ := Kd.R_slice hR; have HR8 := Aside0.mk (Kd.R_lower hR HB.out.size); have HB8 := Aside0.mk hb; clear hb hR)
    go_meet
    case rel => exact ⟨qs, false, A8, c8, rfl, HN, HR8, ⟨blk_below HK0.out HB8.out⟩, ⟨blk_below HKE.out HB8.out⟩, ⟨cell_keepR HX1.out HB8.out⟩, ⟨HB.out.trans (HB8.out.mono HB.out.size)⟩⟩
   ·have c3z : ((ps.length : Int) == 1) = false := beq_eq_false_iff_ne.2 (by omega)
    have h := HT.out
    rw [if_neg c3] at h
    have HN := Aside0.mk h
    clear h
    go_wp2
    go_meet
    case rel => exact ⟨ps, true, A5, c5, rfl, HN, HR5, HBK0', HBKE', HX1', HB'⟩
  case rest =>
   clear HT HR5 HBK0' HBKE' HX0' HX1' HB' H1 H2
   obtain ⟨qs, plus, A, c, rfl, HN, HR, HK0, HKE, HX1, HB⟩ := hcut
   have hn := HN.out
   unfold nuRest at hn
   by_cases q1 : qs.length ≤ 2000000
   case neg => rw [if_neg q1] at hn; cases hn
   rw [if_pos q1] at hn
   have HN2 := Aside0.mk hn
   have hc1 := HX1.out
   clear hn HN
   have hg1w : g1 < wc.heap.size := World.block_lt_of_cell? _ _ hc1
   have hgew : ge < wc.heap.size := blk_lt HKE.out
   have hnw := World.new_ne wc _ hc1
   have mixed : Tryz.prog.follows .mixedOrders = true := by kernel_rfl
   have hC := (Kd.R_reads' HR.out).2.2
   have HC := Aside0.mk hC
   clear hC
   have hgrw : w.heap.size < wc.heap.size := blk_lt HK0.out
   have hge1 : g1 ≠ ge := by omega
   go_upto_region 9 with fail
   go_cut [] (fun wz => ∃ (g2 cp2 : Nat), Aside0 (Kd.R Kd.string 9 wz w.heap.size (fun _ => True) (.slice (some ⟨g2, 0, none⟩) (qs ++ [x1]).length cp2) (qs ++ [x1])) ∧ Aside0 (wz.heap[w.heap.size]? = some (.cells #[.slice none 0 0, .bool false] 31 (0, 0))) ∧ Aside0 (wz.heap[ge]? = some (.cells #[.slice (some ⟨g2, 0, none⟩) (qs ++ [x1]).length cp2, .bool plus] 31 (0, 0))) ∧ Aside0 (Below w.heap.size w wz))
   case first =>
    go_region_held3 (fun w' => w'.cell? ⟨g1, 1, none⟩ = some (.string x1))
     (first | assumption | exact (World.cell?_setCell_far _ ⟨ge, 0, none⟩ ⟨g1, 1, none⟩ _ (Ne.symm (by assumption))).trans (by assumption) | go_keep)
     (first | (refine Kd.R_append_rows_step Kd.string (w0 := w) w.heap.size (by rfl) _ _ 22 9 _ 16 (by rfl) Tryz.underlying22 info9 rfl (by decide) (by decide) _ [] qs A qs.length c (fun _ => True) (fun _ => False) (by rfl) (by rfl) (by repeat (first | (refine rows_noneN _ _ _ ?_ (Below.size (by repeat (first | exact HB.out | (with_reducible apply below_alloc) | (with_reducible apply below_drew)))); (first | rfl | simp)) | (with_reducible apply Kd.R_alloc) | (with_reducible apply Kd.R_drew))) (show Kd.C Kd.string _ A qs.length qs from by repeat (first | exact HC.out | (with_reducible apply Kd.C_alloc) | (with_reducible apply Kd.C_drew))) (fun _ _ h => h) (fun _ h => h.elim) (fun _ _ => trivial) (by repeat (first | exact HB.out | (with_reducible apply below_alloc) | (with_reducible apply below_drew))) (Below.size (by repeat (first | exact HB.out | (with_reducible apply below_alloc) | (with_reducible apply below_drew)))) (by simp only [List.length_nil]; omega) ?_; intro v1 w1 hR1 hb1 hg1 hat1; have hl1 := grown_lt (n0 := wc.heap.size) (fun k hk => by have h_ := Option.some.inj (hk : some _ = some k); simp at h_; omega) (by simp; try omega) hat1; have kE1 := blk_grown (by repeat (first | exact HKE.out | (with_reducible apply blk_alloc) | (with_reducible apply blk_drew))) hg1 (far_of (n0 := wc.heap.size) (fun k hk => by have h_ := Option.some.inj (hk : some _ = some k); simp at h_; omega) hgew); have kK1 := blk_grown (by repeat (first | exact HK0.out | (with_reducible apply blk_alloc) | (with_reducible apply blk_drew))) hg1 (far_of (n0 := wc.heap.size) (fun k hk => by have h_ := Option.some.inj (hk : some _ = some k); simp at h_; omega) hgrw); have hs1 := Nat.le_trans (by simp; try omega : wc.heap.size ≤ _) hg1.size; have kc1 := (hg1.cell_far ⟨g1, 1, none⟩ (by simp; omega) (far_of (n0 := wc.heap.size) (fun k hk => by have h_ := Option.some.inj (hk : some _ = some k); simp at h_; omega) hg1w)).trans (by assumption)) | (refine Kd.R_append_rows_step Kd.string (w0 := w) w.heap.size (by rfl) _ _ 22 9 _ 16 (by rfl) Tryz.underlying22 info9 rfl (by decide) (by decide) v1 qs [x1] _ 1 _ (fun _ => True) (fun _ => False) (by rfl) (by rfl) (by repeat (first | exact hR1 | (with_reducible apply Kd.R_alloc) | (with_reducible apply Kd.R_drew))) (show Kd.C Kd.string _ _ 1 [x1] from by first | (with_reducible refine row_oneN _ _ _ ?_; (first | rfl | simp)) | exact row_kept (by repeat (first | (with_reducible refine row_oneN _ _ _ ?_; (first | rfl | simp)) | (with_reducible apply Kd.C_alloc) | (with_reducible apply Kd.C_drew))) hg1 (by simp; try omega) (by intro he; have h_ := Option.some.inj (he : some _ = some _); simp at h_; try omega)) (fun _ _ h => h) (fun _ h => h.elim) (fun _ _ => trivial) (by repeat (first | exact hb1 | (with_reducible apply below_alloc) | (with_reducible apply below_drew))) (Below.size (by repeat (first | exact hb1 | (with_reducible apply below_alloc) | (with_reducible apply below_drew)))) (by omega) ?_; intro v2 w2 hR2 hb2 hg2 hat2; obtain ⟨g2, cp2, rfl, hg2a, hg2b, hty2⟩ := Kd.R_form hR2 (by simp); have hl2 := grown_lt (n0 := wc.heap.size) hl1 (by have h_ := hs1; simp; try omega) hat2; have kE2 := blk_grown (by repeat (first | exact kE1 | (with_reducible apply blk_alloc) | (with_reducible apply blk_drew))) hg2 (far_of (n0 := wc.heap.size) hl1 hgew); have kK2 := blk_grown (by repeat (first | exact kK1 | (with_reducible apply blk_alloc) | (with_reducible apply blk_drew))) hg2 (far_of (n0 := wc.heap.size) hl1 hgrw); have kc2 := (hg2.cell_far ⟨g1, 1, none⟩ (by have h_ := hs1; simp; try omega) (far_of (n0 := wc.heap.size) hl1 hg1w)).trans (by assumption); have hz0 := (blk_cell kE2 0).trans rfl; have hf0 := blk_frozen kE2 0) | fail)
    all_goals
     have hsl : (qs ++ [x1]).length = qs.length + 1 := by simp
     go_wp2
     go_meet
     case rel =>
      rw [← hsl]
      exact ⟨g2, cp2, ⟨Kd.R_set hR2 kE2 (by decide) 0 _⟩, ⟨blk_far kK2 (by show w.heap.size ≠ ge; omega) _⟩, ⟨blk_set kE2 0 _⟩, ⟨below_set hb2 (Nat.le_of_lt (by omega))⟩⟩
   case rest =>
    clear HR HK0 HKE HX1 HB HC hc1 hnw
    obtain ⟨g2, cp2, HR, HK0, HKE, HB⟩ := hcut
    have hn := HN2.out
    clear HN2
    have hz0 := (blk_cell HKE.out 0).trans rfl
    have hz1 := (blk_cell HKE.out 1).trans rfl
    have hy0 := (blk_cell HK0.out 0).trans rfl
    have hy1 := (blk_cell HK0.out 1).trans rfl
    have hf0 := blk_frozen HK0.out 0
    have hf1 := blk_frozen HK0.out 1
    generalize hls : qs ++ [x1] = l at *
    by_cases q3 : l.length = 3
    case neg =>
     rw [if_neg q3] at hn
     obtain ⟨rfl, h2⟩ := Prod.mk.inj (Option.some.inj hn)
     obtain ⟨rfl, rfl⟩ := Prod.mk.inj h2
     clear hn h2
     have q3z : ((l.length : Int) != 3) = true := bne_iff_ne.2 (by omega)
     go_wp2
     refine bodyPost_ret (results_ct rfl _ _ w.heap.size 31 #[.slice none 0 0, .bool false] (0, 0) _ rfl (blk_set (blk_set HK0.out 0 _) 1 _) Tryz.underlying31 rfl (by kernel_rfl)) rfl ?_
     exact ⟨_, rfl, Kd.R_nil _ _ _ _ _, below_set (below_set HB.out (Nat.le_refl _)) (Nat.le_refl _)⟩
    case pos =>
     rw [if_pos q3] at hn
     obtain ⟨b, hb1, hn⟩ := Option.bind_eq_some_iff.mp hn
     have q3z : ((l.length : Int) != 3) = false := bne_eq_false_iff_eq.2 (by omega)
     have HA := Aside0.mk hb1
     have HN := Aside0.mk hn
     clear hb1 hn
     go_wp2
     go_loopg [8, 45] 3 (fun gg _ v45 wr => ∃ kk : Nat, kk ≤ 3 ∧ 3 - kk ≤ gg ∧ v45 = .int .i64 kk ∧ Aside0 (∃ m, wr = wc.drewN m) ∧ Aside0 (nuAll k (l.drop kk) = some b))
     case atStart => exact ⟨0, by omega, by omega, rfl, ⟨0, rfl⟩, ⟨by rw [List.drop_zero]; exact HA.out⟩⟩
     case round =>
      obtain ⟨kk, hkk, hg, rfl, HM, HI⟩ := hrel
      obtain ⟨m, rfl⟩ := HM.out
      by_cases hlt : kk < 3
      ·have hltz : (kk : Int) < 3 := by omega
       have hx := (Kd.R_cell ByteArray.empty (Kd.R_drewN HR.out m) (kk : Int) (by omega) (by omega)).1
       rw [Int.toNat_natCast] at hx
       have hxr : rdOf ByteArray.empty l (kk : Int) = l[kk]'(by omega) := by unfold rdOf; rw [Int.toNat_natCast]; simp [List.getD_eq_getElem?_getD, show kk < l.length from by omega]
       rw [hxr] at hx
       have HD := HI.out
       rw [List.drop_eq_getElem_cons (show kk < l.length from by omega)] at HD
       simp only [nuAll] at HD
       clear HI hxr HM
       generalize l[kk]'(by omega) = y at *
       obtain ⟨bb, hbb, HD⟩ := Option.bind_eq_some_iff.mp HD
       have HBB := Aside0.mk hbb
       clear hbb
       cases bb with
       | false =>
        rw [if_neg (by decide)] at HD
        obtain rfl := Option.some.inj HD
        obtain ⟨rfl, h2⟩ := Prod.mk.inj (Option.some.inj HN.out)
        obtain ⟨rfl, rfl⟩ := Prod.mk.inj h2
        clear h2 HD HN
        go_wp2_with (go_at_call 33; (with_reducible refine (spec_nuNumeral.calls k y 3 _ _ HBB.out).mono ?_); rintro e w3 ⟨rfl, ⟨nd, rfl⟩⟩)
        refine bodyPost_ret (results_ct rfl _ _ w.heap.size 31 #[.slice none 0 0, .bool false] (0, 0) _ rfl (blk_set (blk_set (blk_drewN HK0.out _) 0 _) 1 _) Tryz.underlying31 rfl (by kernel_rfl)) rfl ?_
        exact ⟨_, rfl, Kd.R_nil _ _ _ _ _, by repeat (first | exact HB.out | (with_reducible apply pw_below_drewN) | (refine below_set ?_ (Nat.le_refl _)))⟩
       | true =>
        rw [if_pos rfl] at HD
        have HE := Aside0.mk HD
        clear HD
        go_wp2_with (go_at_call 33; (with_reducible refine (spec_nuNumeral.calls k y 3 _ _ HBB.out).mono ?_); rintro e w3 ⟨rfl, ⟨nd, rfl⟩⟩)
        go_roundg (3 - (kk + 1))
        case measure => omega
        case rel => exact ⟨kk + 1, by omega, by omega, by go_num, ⟨_, rfl⟩, ⟨HE.out⟩⟩
      ·have hltz : ¬ (kk : Int) < 3 := by omega
       have hb2 : b = true := by
        have := HI.out
        rw [List.drop_of_length_le (by omega)] at this
        exact (Option.some.inj this).symm
       subst hb2
       obtain ⟨rfl, h2⟩ := Prod.mk.inj (Option.some.inj HN.out)
       obtain ⟨rfl, rfl⟩ := Prod.mk.inj h2
       clear h2 HN HI
       go_wp2
       refine bodyPost_ret (results_ct rfl _ _ w.heap.size 31 #[.slice (some ⟨g2, 0, none⟩) 3 cp2, .bool plus] (0, 0) _ rfl (blk_set (blk_set (blk_drewN HK0.out _) 0 _) 1 _) Tryz.underlying31 rfl (by kernel_rfl)) rfl ?_
       exact ⟨_, rfl, by have h3 := HR.out; rw [q3] at h3; exact Kd.R_set (Kd.R_set (Kd.R_drewN h3 _) (blk_drewN HK0.out _) (by decide) 0 _) (blk_set (blk_drewN HK0.out _) 0 _) (by decide) 1 _, by repeat (first | exact HB.out | (with_reducible apply pw_below_drewN) | (refine below_set ?_ (Nat.le_refl _)))⟩

/-! ### spec_l1Has: function 61 -/
def spec_l1Has.l0 : Nat → Int → List Int → Int → Int → Option (Bool)
 | 0, _, _, _, _ => none
 | k + 1, x1, x7, x8, x9 => if x9 < x8 then (if 0 ≤ x9 then (if x9 < (x7.length : Int) then (if (rd x7 x9) = x1 then (some true) else (spec_l1Has.l0 k x1 x7 x8 (wrap64 (x9 + 1)))) else (none)) else (none)) else (some false)
def spec_l1Has.f (k : Nat) (l0 : List Int) (a1 : Int) : Option (Bool) := spec_l1Has.l0 k a1 l0 (l0.length : Int) 0
theorem spec_l1Has.mono_l : ∀ k, (∀ y0 y1 y2 y3, LeO (spec_l1Has.l0 k y0 y1 y2 y3) (spec_l1Has.l0 (k + 1) y0 y1 y2 y3))
 | 0 => fun _ _ _ _ r h => by simp [spec_l1Has.l0] at h
 | k + 1 => by
  have ih0 := spec_l1Has.mono_l k
  ·intro y0 y1 y2 y3
   unfold spec_l1Has.l0
   repeat' first
   | (with_reducible exact ih0 _ _ _ _)
   | (with_reducible exact LeO.refl _)
   | (with_reducible exact LeO.none _)
   | (with_reducible refine LeO.ite ?_ ?_)
   | (with_reducible refine LeO.bind ?_ (fun _ => ?_))
   | exact ih0 _ _ _ _
   | exact LeO.none _
   | refine LeO.ite ?_ ?_
   | refine LeO.bind ?_ (fun _ => ?_)
theorem spec_l1Has.mono : ∀ a0 a1 k, LeO (spec_l1Has.f k a0 a1) (spec_l1Has.f (k + 1) a0 a1) := by
 intro a0 a1 k
 have ih0 := spec_l1Has.mono_l k
 unfold spec_l1Has.f
 repeat' first
   | (with_reducible exact ih0 _ _ _ _)
   | (with_reducible exact LeO.refl _)
   | (with_reducible exact LeO.none _)
   | (with_reducible refine LeO.ite ?_ ?_)
   | (with_reducible refine LeO.bind ?_ (fun _ => ?_))
   | exact ih0 _ _ _ _
   | exact LeO.none _
   | refine LeO.ite ?_ ?_
   | refine LeO.bind ?_ (fun _ => ?_)
set_option maxHeartbeats 8000000 in
set_option maxRecDepth 100000 in
theorem spec_l1Has.calls (k : Nat) (A0 : Option Addr) (c0 : Nat) (l0 : List Int) (a1 : Int) (r : Bool) (w : World) (hr0 : Kd.C (Kd.int .i64) w A0 l0.length l0) (hc0 : l0.length ≤ c0) (h : spec_l1Has.f k l0 a1 = some r) :
  Calls Tryz.prog 61 #[.slice A0 l0.length c0, .int .i64 a1] w fun e w' => e = .returned (.bool r) ∧ Drawn0 w w' := by
 have HR0 := Aside0.mk hr0
 have HC0 := Aside0.mk hc0
 clear hr0 hc0
 have H : (spec_l1Has.l0 k a1 l0 (l0.length : Int) 0) = some r := h
 clear h
 have H' := Aside0.mk H
 clear H
 go_enter Tryz.func61, Tryz.ntmps61
 go_wp2
 go_loopg [9] k (fun kq v9 w' => ∃ (x9_1 : Int), v9 = .int .i64 x9_1 ∧ Aside0 (spec_l1Has.l0 kq a1 l0 (l0.length : Int) x9_1 = some r) ∧ Aside0 (kq ≤ k) ∧ Drawn0 w w')
 case atStart => exact ⟨(0), (by first | rfl | (simp; done) | (simp [*]; done)), H', ⟨Nat.le_refl _⟩, by repeat (first | exact Drawn0.refl _ | apply Drawn0.step)⟩
 case round =>
  clear H'
  try clear p2
  obtain ⟨x9_1, rfl, HA, HK1, ⟨m1, rfl⟩⟩ := hrel
  cases gk with
  | zero => exact absurd HA.out (by simp [spec_l1Has.l0])
  | succ k1 =>
   have H := HA.out
   clear HA
   simp only [spec_l1Has.l0] at H
   by_cases c3 : x9_1 < (l0.length : Int)
   ·rw [if_pos c3] at H
    have c3b0 : decide (x9_1 < (l0.length : Int)) = true := decide_eq_true c3
    clear c3
    by_cases c4 : 0 ≤ x9_1
    ·rw [if_pos c4] at H
     have c4b0 : decide (0 ≤ x9_1) = true := decide_eq_true c4
     clear c4
     by_cases c5 : x9_1 < (l0.length : Int)
     ·rw [if_pos c5] at H
      have c5b0 : decide (x9_1 < (l0.length : Int)) = true := decide_eq_true c5
      clear c5
      by_cases c6 : (rd l0 x9_1) = a1
      ·rw [if_pos c6] at H
       have c6b0 : ((rd l0 x9_1) == a1) = true := beq_iff_eq.mpr c6
       have c6b1 : ((rd l0 x9_1) != a1) = false := bne_eq_false_iff_eq.mpr c6
       clear c6
       obtain rfl := Option.some.inj H
       have p108 : 0 ≤ (x9_1 : Int) := of_decide_eq_true (by first | (with_reducible assumption) | assumption)
       have q108 : x9_1 < (l0.length : Int) := of_decide_eq_true (by first | (with_reducible assumption) | assumption)
       obtain ⟨ad108, e108, hx108_0⟩ := Kd.at_int HR0.out x9_1 p108 q108
       cases e108
       replace p108 := eq_true p108
       replace q108 := eq_true q108
       go_wp2
       go_ret
       exact ⟨by first | rfl | (simp; done) | (simp [*]; done), by repeat (first | exact Drawn0.refl _ | apply Drawn0.step)⟩
      ·rw [if_neg c6] at H
       have c6b0 : ((rd l0 x9_1) == a1) = false := beq_eq_false_iff_ne.mpr c6
       have c6b1 : ((rd l0 x9_1) != a1) = true := bne_iff_ne.mpr c6
       have H' := Aside0.mk H
       clear H
       have p108 : 0 ≤ (x9_1 : Int) := of_decide_eq_true (by first | (with_reducible assumption) | assumption)
       have q108 : x9_1 < (l0.length : Int) := of_decide_eq_true (by first | (with_reducible assumption) | assumption)
       obtain ⟨ad108, e108, hx108_0⟩ := Kd.at_int HR0.out x9_1 p108 q108
       cases e108
       replace p108 := eq_true p108
       replace q108 := eq_true q108
       go_wp2
       go_roundg k1
       case measure => have := HK1.out; omega
       case rel => exact ⟨(wrap64 (x9_1 + 1)), (by first | rfl | (simp; done) | (simp [*]; done)), H', ⟨by have := HK1.out; omega⟩, by repeat (first | exact Drawn0.refl _ | apply Drawn0.step)⟩
     ·rw [if_neg c5] at H
      exact absurd H (by simp)
    ·rw [if_neg c4] at H
     exact absurd H (by simp)
   ·rw [if_neg c3] at H
    have c3b0 : decide (x9_1 < (l0.length : Int)) = false := decide_eq_false c3
    clear c3
    obtain rfl := Option.some.inj H
    go_wp2
    go_ret
    exact ⟨by first | rfl | (simp; done) | (simp [*]; done), by repeat (first | exact Drawn0.refl _ | apply Drawn0.step)⟩

/-! ### spec_fiThose: function 46 -/
def spec_fiThose.l0 : Nat → List Int → Bool → List Int → List Int → Int → Int → Option (List Int)
 | 0, _, _, _, _, _, _ => none
 | k + 1, x1, x2, x7, x10, x11, x12 => if x12 < x11 then (if 0 ≤ x12 then (if x12 < (x10.length : Int) then ((spec_l1Has.f k x1 (rd x10 x12)).bind fun t110 => (if (t110 == x2) = true then (if x7.length < 17592186044416 then (spec_fiThose.l0 k x1 x2 (x7 ++ [rd x10 x12]) x10 x11 (wrap64 (x12 + 1))) else (none)) else (spec_fiThose.l0 k x1 x2 x7 x10 x11 (wrap64 (x12 + 1))))) else (none)) else (none)) else (some x7)
def spec_fiThose.f (k : Nat) (l0 : List Int) (l1 : List Int) (a2 : Bool) : Option (List Int) := spec_fiThose.l0 k l1 a2 ([] : List Int) l0 (l0.length : Int) 0
theorem spec_fiThose.mono_l : ∀ k, (∀ y0 y1 y2 y3 y4 y5, LeO (spec_fiThose.l0 k y0 y1 y2 y3 y4 y5) (spec_fiThose.l0 (k + 1) y0 y1 y2 y3 y4 y5))
 | 0 => fun _ _ _ _ _ _ r h => by simp [spec_fiThose.l0] at h
 | k + 1 => by
  have ih0 := spec_fiThose.mono_l k
  ·intro y0 y1 y2 y3 y4 y5
   unfold spec_fiThose.l0
   repeat' first
   | (with_reducible exact ih0 _ _ _ _ _ _)
   | (with_reducible exact spec_l1Has.mono _ _ _)
   | (with_reducible exact LeO.refl _)
   | (with_reducible exact LeO.none _)
   | (with_reducible refine LeO.ite ?_ ?_)
   | (with_reducible refine LeO.bind ?_ (fun _ => ?_))
   | exact ih0 _ _ _ _ _ _
   | exact spec_l1Has.mono _ _ _
   | exact LeO.none _
   | refine LeO.ite ?_ ?_
   | refine LeO.bind ?_ (fun _ => ?_)
theorem spec_fiThose.mono : ∀ a0 a1 a2 k, LeO (spec_fiThose.f k a0 a1 a2) (spec_fiThose.f (k + 1) a0 a1 a2) := by
 intro a0 a1 a2 k
 have ih0 := spec_fiThose.mono_l k
 unfold spec_fiThose.f
 repeat' first
   | (with_reducible exact ih0 _ _ _ _ _ _)
   | (with_reducible exact spec_l1Has.mono _ _ _)
   | (with_reducible exact LeO.refl _)
   | (with_reducible exact LeO.none _)
   | (with_reducible refine LeO.ite ?_ ?_)
   | (with_reducible refine LeO.bind ?_ (fun _ => ?_))
   | exact ih0 _ _ _ _ _ _
   | exact spec_l1Has.mono _ _ _
   | exact LeO.none _
   | refine LeO.ite ?_ ?_
   | refine LeO.bind ?_ (fun _ => ?_)
set_option maxHeartbeats 8000000 in
set_option maxRecDepth 100000 in
theorem spec_fiThose.calls (k : Nat) (A0 : Option Addr) (c0 : Nat) (l0 : List Int) (A1 : Option Addr) (c1 : Nat) (l1 : List Int) (a2 : Bool) (r : List Int) (w : World) (hr0 : Kd.C (Kd.int .i64) w A0 l0.length l0) (hc0 : l0.length ≤ c0) (hr1 : Kd.C (Kd.int .i64) w A1 l1.length l1) (hc1 : l1.length ≤ c1) (h : spec_fiThose.f k l0 l1 a2 = some r) :
  Calls Tryz.prog 46 #[.slice A0 l0.length c0, .slice A1 l1.length c1, .bool a2] w fun e w' => ∃ v0_ : Value, e = .returned (v0_) ∧ Kd.R (Kd.int .i64) 3 w' w.heap.size (fun _ => True) v0_ r ∧ Below w.heap.size w w' := by
 have HR0 := Aside0.mk hr0
 have HC0 := Aside0.mk hc0
 clear hr0 hc0
 have HR1 := Aside0.mk hr1
 have HC1 := Aside0.mk hc1
 clear hr1 hc1
 have HB := Aside0.mk (Below.refl w.heap.size w)
 have H : (spec_fiThose.l0 k l1 a2 ([] : List Int) l0 (l0.length : Int) 0) = some r := h
 clear h
 have H' := Aside0.mk H
 clear H
 go_enter Tryz.func46, Tryz.ntmps46
 go_wp2
 go_loopg [7, 12] k (fun kq v7 v12 w' => ∃ (x7_1 : List Int) (x12_1 : Int), v12 = .int .i64 x12_1 ∧ Aside0 (spec_fiThose.l0 kq l1 a2 x7_1 l0 (l0.length : Int) x12_1 = some r) ∧ Aside0 (kq ≤ k) ∧ Aside0 (Kd.R (Kd.int .i64) 3 w' w.heap.size (fun _ => True) v7 x7_1) ∧ Aside0 (Below w.heap.size w w'))
 case atStart => exact ⟨(([] : List Int)), (0), (by first | rfl | (simp; done) | (simp [*]; done)), H', ⟨Nat.le_refl _⟩, ⟨by first | exact Kd.R_nil _ _ _ _ _ | exact Kd.N_nil _ _ _ _ _ | exact Kd.V_nil _ _ _ _ _ | exact Kd.Q_nil _ _ _ _ _ | exact Kd.S_nil _ _ _ _ _⟩, ⟨by repeat (first | (with_reducible first | exact HB.out | apply below_alloc | apply pw_below_drewN | apply below_drew1) | exact HB.out)⟩⟩
 case round =>
  clear H'
  try clear c1
  try clear p2
  obtain ⟨x7_1, x12_1, rfl, HA, HK1, HO_7, HB⟩ := hrel
  cases gk with
  | zero => exact absurd HA.out (by simp [spec_fiThose.l0])
  | succ k1 =>
   have H := HA.out
   clear HA
   simp only [spec_fiThose.l0] at H
   by_cases c4 : x12_1 < (l0.length : Int)
   ·rw [if_pos c4] at H
    have c4b0 : decide (x12_1 < (l0.length : Int)) = true := decide_eq_true c4
    clear c4
    by_cases c5 : 0 ≤ x12_1
    ·rw [if_pos c5] at H
     have c5b0 : decide (0 ≤ x12_1) = true := decide_eq_true c5
     clear c5
     by_cases c6 : x12_1 < (l0.length : Int)
     ·rw [if_pos c6] at H
      have c6b0 : decide (x12_1 < (l0.length : Int)) = true := decide_eq_true c6
      clear c6
      replace H := Option.bind_eq_some_iff.mp H
      obtain ⟨t110, A70, H⟩ := H
      replace H : (if (t110 == a2) = true then (if x7_1.length < 17592186044416 then (spec_fiThose.l0 k1 l1 a2 (x7_1 ++ [rd l0 x12_1]) l0 (l0.length : Int) (wrap64 (x12_1 + 1))) else (none)) else (spec_fiThose.l0 k1 l1 a2 x7_1 l0 (l0.length : Int) (wrap64 (x12_1 + 1)))) = some r := H
      have A7 := Aside0.mk A70
      clear A70
      by_cases c8 : (t110 == a2) = true
      ·rw [if_pos c8] at H
       have c8b0 : (t110 == a2) = true := c8
       (try (have c8b1 : decide (t110 = a2) = true := by simpa using c8))
       (try (have c8b2 : (t110 == a2) = true := by simpa using c8))
       clear c8
       by_cases c9 : x7_1.length < 17592186044416
       ·rw [if_pos c9] at H
        have LMc9 := Aside0.mk c9
        clear c9
        obtain ⟨y111, hy111⟩ : ∃ y_ : List Int, y_ = (x7_1 ++ [rd l0 x12_1]) := ⟨_, rfl⟩
        replace H : (spec_fiThose.l0 k1 l1 a2 y111 l0 (l0.length : Int) (wrap64 (x12_1 + 1))) = some r := by first | (rw [hy111]; with_reducible exact H) | (have H2_ := (Option.bind_some _ _).symm.trans H; rw [hy111]; with_reducible exact H2_) | (have H2_ := (Option.bind_some _ _).symm.trans H; with_reducible exact H2_) | with_reducible exact H | (rw [hy111]; exact H) | exact H
        have Ny111 := Aside0.mk hy111
        clear hy111
        have H' := Aside0.mk H
        clear H
        have p109 : 0 ≤ (x12_1 : Int) := of_decide_eq_true (by first | (with_reducible assumption) | assumption)
        have q109 : x12_1 < (l0.length : Int) := of_decide_eq_true (by first | (with_reducible assumption) | assumption)
        obtain ⟨ad109, e109, hx109_0⟩ := Kd.at_int HR0.out x12_1 p109 q109
        cases e109
        replace hx109_0 := (HB.out.cell (World.block_lt_of_cell? w _ hx109_0)).trans hx109_0
        replace p109 := eq_true p109
        replace q109 := eq_true q109
        go_wp2_with (first | ((with_reducible refine gate_callee (f := 61) rfl ?_); refine goesL_ (some 18) rfl rfl Tryz.func61 (by kernel_rfl) rfl #[.slice A1 l1.length c1, .int .i64 (rd l0 x12_1)] rfl (by (try simp only [List.map_toArray, List.map_cons, List.map_nil]); first | done | rfl | (simp only [List.length_drop, List.length_take]; rfl)) ?_; (with_reducible refine (spec_l1Has.calls k1 _ _ l1 (rd l0 x12_1) t110 _ ?side1 ?side2 A7.out).mono ?_); (case side1 => repeat (first | exact (Kd.C_below HR1.out HB.out) | (with_reducible refine Kd.C_alloc ?_ _) | (with_reducible refine Kd.C_drewN ?_ _) | (with_reducible refine Kd.C_drew ?_))); (case side2 => exact HC1.out); rintro e w' ⟨rfl, ⟨nd, rfl⟩⟩; refine ⟨_, rfl, ?_⟩) | ((with_reducible refine gate_builtin (b := .append) (xs := #[.tmp 21, .tmp 23]) rfl ?_); at_builtin; refine Kd.R_append (Kd.int .i64) (w0 := w) w.heap.size rfl (.tmp 21) (.tmp 23) 57 3 (.int .i64 0) 8 rfl Tryz.underlying57 info3 rfl (by decide) (by omega) u7 x7_1 (rd l0 x12_1) [.int .i64 (rd l0 x12_1)] (fun _ => True) (fun _ => False) rfl rfl ?aP (fun _ hk => hk.elim) ?aF ?aO ?aB ?aS ?aL ?_; (case aP => exact rfl); (case aB => exact (by repeat (first | (with_reducible first | exact HB.out | apply below_alloc | apply pw_below_drewN | apply below_drew1) | exact HB.out))); (case aF => exact (fun _ _ => trivial)); (case aO => exact (by (with_reducible repeat (first | apply Kd.R_alloc | apply Kd.R_drewN | apply Kd.R_drew)); exact HO_7.out)); (case aS => exact (below_size (by repeat (first | (with_reducible first | exact HB.out | apply below_alloc | apply pw_below_drewN | apply below_drew1) | exact HB.out)))); (case aL => have := LMc9.out; omega); intro v112 w10 ho hb hg hat; rw [← Ny111.out] at ho; have n0_ := Aside0.mk (hb); have n1_ := Aside0.mk (ho); clear HB; clear HO_7; have HB := n0_; have HO113 := n1_; clear n0_ n1_; clear ho hb hg hat))
        go_roundg k1
        case measure => have := HK1.out; omega
        case rel => exact ⟨(y111), (wrap64 (x12_1 + 1)), (by first | rfl | (simp; done) | (simp [*]; done)), H', ⟨by have := HK1.out; omega⟩, ⟨by (with_reducible repeat (first | apply Kd.R_alloc | apply Kd.R_drewN | apply Kd.R_drew)); exact HO113.out⟩, ⟨by repeat (first | (with_reducible first | exact HB.out | apply below_alloc | apply pw_below_drewN | apply below_drew1) | exact HB.out)⟩⟩
       ·rw [if_neg c9] at H
        exact absurd H (by simp)
      ·rw [if_neg c8] at H
       have c8b0 : (t110 == a2) = false := by simpa using c8
       (try (have c8b1 : decide (t110 = a2) = false := by simpa using c8))
       (try (have c8b2 : (t110 == a2) = false := by simpa using c8))
       (try (have c8b3 : ¬ (t110 = a2) := by simpa using c8))
       clear c8
       have H' := Aside0.mk H
       clear H
       have p109 : 0 ≤ (x12_1 : Int) := of_decide_eq_true (by first | (with_reducible assumption) | assumption)
       have q109 : x12_1 < (l0.length : Int) := of_decide_eq_true (by first | (with_reducible assumption) | assumption)
       obtain ⟨ad109, e109, hx109_0⟩ := Kd.at_int HR0.out x12_1 p109 q109
       cases e109
       replace hx109_0 := (HB.out.cell (World.block_lt_of_cell? w _ hx109_0)).trans hx109_0
       replace p109 := eq_true p109
       replace q109 := eq_true q109
       go_wp2_with (first | ((with_reducible refine gate_callee (f := 61) rfl ?_); refine goesL_ (some 18) rfl rfl Tryz.func61 (by kernel_rfl) rfl #[.slice A1 l1.length c1, .int .i64 (rd l0 x12_1)] rfl (by (try simp only [List.map_toArray, List.map_cons, List.map_nil]); first | done | rfl | (simp only [List.length_drop, List.length_take]; rfl)) ?_; (with_reducible refine (spec_l1Has.calls k1 _ _ l1 (rd l0 x12_1) t110 _ ?side1 ?side2 A7.out).mono ?_); (case side1 => repeat (first | exact (Kd.C_below HR1.out HB.out) | (with_reducible refine Kd.C_alloc ?_ _) | (with_reducible refine Kd.C_drewN ?_ _) | (with_reducible refine Kd.C_drew ?_))); (case side2 => exact HC1.out); rintro e w' ⟨rfl, ⟨nd, rfl⟩⟩; refine ⟨_, rfl, ?_⟩))
       go_roundg k1
       case measure => have := HK1.out; omega
       case rel => exact ⟨(x7_1), (wrap64 (x12_1 + 1)), (by first | rfl | (simp; done) | (simp [*]; done)), H', ⟨by have := HK1.out; omega⟩, ⟨by (with_reducible repeat (first | apply Kd.R_alloc | apply Kd.R_drewN | apply Kd.R_drew)); exact HO_7.out⟩, ⟨by repeat (first | (with_reducible first | exact HB.out | apply below_alloc | apply pw_below_drewN | apply below_drew1) | exact HB.out)⟩⟩
     ·rw [if_neg c6] at H
      exact absurd H (by simp)
    ·rw [if_neg c5] at H
     exact absurd H (by simp)
   ·rw [if_neg c4] at H
    have c4b0 : decide (x12_1 < (l0.length : Int)) = false := decide_eq_false c4
    clear c4
    obtain rfl := Option.some.inj H
    go_wp2
    go_ret
    exact ⟨_, by first | rfl | (simp [errW_none, errW_some] <;> rfl) | (simp [*, errW_none, errW_some] <;> rfl), by (with_reducible repeat (first | apply Kd.R_alloc | apply Kd.R_drewN | apply Kd.R_drew)); exact HO_7.out, by repeat (first | (with_reducible first | exact HB.out | apply below_alloc | apply pw_below_drewN | apply below_drew1) | exact HB.out)⟩

end Go.Proofs.YtmjlmmfhcabnfaaGreatDoor.Q
