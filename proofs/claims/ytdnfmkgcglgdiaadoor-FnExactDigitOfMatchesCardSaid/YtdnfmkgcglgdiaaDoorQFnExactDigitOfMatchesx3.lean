-- written by a program of this session, pm.py, for this claim
import Derived.Test.YtdnfmkgcglgdiaaDoorQFnExactDigitOfMatchesx0
import Derived.Test.YtdnfmkgcglgdiaaDoorQFnExactDigitOfMatchesx1
import Derived.Test.YtdnfmkgcglgdiaaDoorQFnExactDigitOfMatchesx2
namespace Go.Proofs.YtdnfmkgcglgdiaaDoor.Q
open Go.RowKit Go.Proofs.YtdnfmkgcglgdiaaDoorW.PrintWords Go.Proofs.YtdnfmkgcglgdiaaDoorW.PrintLast Go.Proofs.YtdnfmkgcglgdiaaDoorW.PrintMore
attribute [local go_sem] max2_int min2_int max_two min_two max_three min_three max_four min_four   -- for this text's walks alone
set_option linter.unusedVariables false
set_option linter.unusedSimpArgs false

/-! ### impl_DigitOfMatches: function 24 -/
mutual
def impl_DigitOfMatches.j0 : Nat → List Int → Bool → Option (Int × Bool)
  | 0, _, _ => none
  | k + 1, x0, x15 => if x15 = true then (some (0, false)) else (impl_DigitOfMatches.l0 k 0 x0 (x0.length : Int) 0)
def impl_DigitOfMatches.l0 : Nat → Int → List Int → Int → Int → Option (Int × Bool)
  | 0, _, _, _, _ => none
  | k + 1, x4, x16, x17, x18 => if x18 < x17 then (if 0 ≤ x18 then (if x18 < (x16.length : Int) then (if 0 ≤ (rd x16 x18) then (impl_DigitOfMatches.l0 k (Go.bits .or .u8 x4 (shl .u8 1 (rd x16 x18))) x16 x17 (wrap64 (x18 + 1))) else (none)) else (none)) else (none)) else ((impl_digitOf.f x4).bind fun t156 => (some (mx t156 0, decide (t156 ≥ 0))))
end
def impl_DigitOfMatches.f (k : Nat) (l0 : List Int) : Option (Int × Bool) := (impl_isRising.f k l0).bind fun t153 => (if t153 = true then ((impl_areWithin.f l0 0 6).bind fun t154 => (impl_DigitOfMatches.j0 k l0 (!t154))) else (impl_DigitOfMatches.j0 k l0 true))
theorem impl_DigitOfMatches.mono_l : ∀ k, (∀ y0 y1, LeO (impl_DigitOfMatches.j0 k y0 y1) (impl_DigitOfMatches.j0 (k + 1) y0 y1)) ∧ (∀ y0 y1 y2 y3, LeO (impl_DigitOfMatches.l0 k y0 y1 y2 y3) (impl_DigitOfMatches.l0 (k + 1) y0 y1 y2 y3))
  | 0 => ⟨fun _ _ r h => by simp [impl_DigitOfMatches.j0] at h, fun _ _ _ _ r h => by simp [impl_DigitOfMatches.l0] at h⟩
  | k + 1 => by
    obtain ⟨ih0, ih1⟩ := impl_DigitOfMatches.mono_l k
    refine ⟨?_, ?_⟩
    · intro y0 y1
      unfold impl_DigitOfMatches.j0
      repeat' first
      | (with_reducible exact ih0 _ _)
      | (with_reducible exact ih1 _ _ _ _)
      | (with_reducible exact impl_isRising.mono _ _)
      | (with_reducible exact LeO.refl _)
      | (with_reducible exact LeO.none _)
      | (with_reducible refine LeO.ite ?_ ?_)
      | (with_reducible refine LeO.bind ?_ (fun _ => ?_))
      | exact ih0 _ _
      | exact ih1 _ _ _ _
      | exact impl_isRising.mono _ _
      | exact LeO.none _
      | refine LeO.ite ?_ ?_
      | refine LeO.bind ?_ (fun _ => ?_)
    · intro y0 y1 y2 y3
      unfold impl_DigitOfMatches.l0
      repeat' first
      | (with_reducible exact ih0 _ _)
      | (with_reducible exact ih1 _ _ _ _)
      | (with_reducible exact impl_isRising.mono _ _)
      | (with_reducible exact LeO.refl _)
      | (with_reducible exact LeO.none _)
      | (with_reducible refine LeO.ite ?_ ?_)
      | (with_reducible refine LeO.bind ?_ (fun _ => ?_))
      | exact ih0 _ _
      | exact ih1 _ _ _ _
      | exact impl_isRising.mono _ _
      | exact LeO.none _
      | refine LeO.ite ?_ ?_
      | refine LeO.bind ?_ (fun _ => ?_)
theorem impl_DigitOfMatches.mono : ∀ a0 k, LeO (impl_DigitOfMatches.f k a0) (impl_DigitOfMatches.f (k + 1) a0) := by
  intro a0 k
  obtain ⟨ih0, ih1⟩ := impl_DigitOfMatches.mono_l k
  unfold impl_DigitOfMatches.f
  repeat' first
      | (with_reducible exact ih0 _ _)
      | (with_reducible exact ih1 _ _ _ _)
      | (with_reducible exact impl_isRising.mono _ _)
      | (with_reducible exact LeO.refl _)
      | (with_reducible exact LeO.none _)
      | (with_reducible refine LeO.ite ?_ ?_)
      | (with_reducible refine LeO.bind ?_ (fun _ => ?_))
      | exact ih0 _ _
      | exact ih1 _ _ _ _
      | exact impl_isRising.mono _ _
      | exact LeO.none _
      | refine LeO.ite ?_ ?_
      | refine LeO.bind ?_ (fun _ => ?_)
set_option maxHeartbeats 8000000 in
set_option maxRecDepth 100000 in
theorem impl_DigitOfMatches.calls (k : Nat) (A0 : Option Addr) (c0 : Nat) (l0 : List Int) (r1 : Int) (r2 : Bool) (w : World) (hr0 : Kd.C (Kd.int .i64) w A0 l0.length l0) (hc0 : l0.length ≤ c0) (hG : LaidG w) (h : impl_DigitOfMatches.f k l0 = some (r1, r2)) :
    Calls Tryd.prog 24 #[.slice A0 l0.length c0] w fun e w' => e = .returned (.tuple #[.int .i64 r1, .bool r2]) ∧ Below w.heap.size w w' := by
  have HR0 := Aside0.mk hr0
  have HC0 := Aside0.mk hc0
  clear hr0 hc0
  have HG := Aside0.mk hG
  clear hG
  have HB := Aside0.mk (Below.refl w.heap.size w)
  have H : ((impl_isRising.f k l0).bind fun t153 => (if t153 = true then ((impl_areWithin.f l0 0 6).bind fun t154 => (impl_DigitOfMatches.j0 k l0 (!t154))) else (impl_DigitOfMatches.j0 k l0 true))) = some (r1, r2) := h
  clear h
  have HC2 := Aside0.mk H
  clear H
  go_enter Tryd.func24, Tryd.ntmps24
  go_upto_region 1 with (fail)
  go_cut [15] (fun v15 wc => ∃ (kq : Nat) (x15_1 : Bool), v15 = .bool x15_1 ∧ Aside0 (impl_DigitOfMatches.j0 kq l0 x15_1 = some (r1, r2)) ∧ Aside0 (kq ≤ k) ∧ Aside0 (Below w.heap.size w wc))
  case first =>
    have H := HC2.out
    clear HC2
    replace H := Option.bind_eq_some_iff.mp H
    obtain ⟨t153, A30, H⟩ := H
    replace H : (if t153 = true then ((impl_areWithin.f l0 0 6).bind fun t154 => (impl_DigitOfMatches.j0 k l0 (!t154))) else (impl_DigitOfMatches.j0 k l0 true)) = some (r1, r2) := H
    have A3 := Aside0.mk A30
    clear A30
    by_cases c4 : t153 = true
    · subst c4
      have H1 : ((impl_areWithin.f l0 0 6).bind fun t154 => (impl_DigitOfMatches.j0 k l0 (!t154))) = some (r1, r2) := by rw [if_pos rfl] at H; exact H
      clear H
      have H := H1
      clear H1
      replace H := Option.bind_eq_some_iff.mp H
      obtain ⟨t154, A50, H⟩ := H
      replace H : (impl_DigitOfMatches.j0 k l0 (!t154)) = some (r1, r2) := H
      have A5 := Aside0.mk A50
      clear A50
      have H' := Aside0.mk H
      clear H
      go_wp2_with (first | ((with_reducible refine gate_callee (f := 40) rfl ?_); refine goesL_ (some 9) rfl rfl Tryd.func40 (by kernel_rfl) rfl #[.slice A0 l0.length c0] rfl (by (try simp only [List.map_toArray, List.map_cons, List.map_nil]); first | done | rfl | (simp only [List.length_drop, List.length_take]; rfl)) ?_; (with_reducible refine (impl_isRising.calls k _ _ l0 true _ ?side1 ?side2 A3.out).mono ?_); (case side1 => repeat (first | exact (Kd.C_below HR0.out HB.out) | (with_reducible refine Kd.C_alloc ?_ _) | (with_reducible refine Kd.C_drewN ?_ _) | (with_reducible refine Kd.C_drew ?_))); (case side2 => exact HC0.out); rintro e w' ⟨rfl, ⟨nd, rfl⟩⟩; refine ⟨_, rfl, ?_⟩) | (go_at_call 41; (with_reducible refine (impl_areWithin.calls _ _ l0 0 6 t154 _ ?side1 ?side2 A5.out).mono ?_); (case side1 => repeat (first | exact (Kd.C_below HR0.out (by repeat (first | (with_reducible first | exact HB.out | apply below_alloc | apply pw_below_drewN | apply below_drew1) | exact HB.out))) | (with_reducible refine Kd.C_alloc ?_ _) | (with_reducible refine Kd.C_drewN ?_ _) | (with_reducible refine Kd.C_drew ?_))); (case side2 => exact HC0.out); rintro e w6 ⟨rfl, hb⟩; have n0_ := Aside0.mk (below_step (by repeat (first | (with_reducible first | exact HB.out | apply below_alloc | apply pw_below_drewN | apply below_drew1) | exact HB.out)) hb); clear HB; have HB := n0_; clear n0_; (try clear hb); (try clear hb2); (try clear hk); (try clear hi)))
      go_meet
      case rel => exact ⟨_, (!t154), (by first | rfl | (simp; done) | (simp [*]; done)), H', ⟨by first | omega | exact Nat.le_refl _⟩, ⟨by repeat (first | (with_reducible first | exact HB.out | apply below_alloc | apply pw_below_drewN | apply below_drew1) | exact HB.out)⟩⟩
    · replace c4 := Bool.eq_false_iff.mpr c4
      subst c4
      have H1 : (impl_DigitOfMatches.j0 k l0 true) = some (r1, r2) := by rw [if_neg (show ¬ (false = true) by decide)] at H; exact H
      clear H
      have H := H1
      clear H1
      have H' := Aside0.mk H
      clear H
      go_wp2_with (first | ((with_reducible refine gate_callee (f := 40) rfl ?_); refine goesL_ (some 9) rfl rfl Tryd.func40 (by kernel_rfl) rfl #[.slice A0 l0.length c0] rfl (by (try simp only [List.map_toArray, List.map_cons, List.map_nil]); first | done | rfl | (simp only [List.length_drop, List.length_take]; rfl)) ?_; (with_reducible refine (impl_isRising.calls k _ _ l0 false _ ?side1 ?side2 A3.out).mono ?_); (case side1 => repeat (first | exact (Kd.C_below HR0.out HB.out) | (with_reducible refine Kd.C_alloc ?_ _) | (with_reducible refine Kd.C_drewN ?_ _) | (with_reducible refine Kd.C_drew ?_))); (case side2 => exact HC0.out); rintro e w' ⟨rfl, ⟨nd, rfl⟩⟩; refine ⟨_, rfl, ?_⟩))
      go_meet
      case rel => exact ⟨_, (true), (by first | rfl | (simp; done) | (simp [*]; done)), H', ⟨by first | omega | exact Nat.le_refl _⟩, ⟨by repeat (first | (with_reducible first | exact HB.out | apply below_alloc | apply pw_below_drewN | apply below_drew1) | exact HB.out)⟩⟩
  case rest =>
    clear HC2
    try clear c2
    try clear p2
    try clear c4
    obtain ⟨kq, x15_1, rfl, HA, HJ1, HB⟩ := hcut
    cases kq with
    | zero => exact absurd HA.out (by simp [impl_DigitOfMatches.j0])
    | succ kj1 =>
      have H := HA.out
      clear HA
      simp only [impl_DigitOfMatches.j0] at H
      by_cases c7 : x15_1 = true
      · subst c7
        have H1 : (some (0, false)) = some (r1, r2) := by rw [if_pos rfl] at H; exact H
        clear H
        have H := H1
        clear H1
        simp only [Option.some.injEq, Prod.mk.injEq] at H
        obtain ⟨rfl, rfl⟩ := H
        go_wp2
        go_ret2
        exact ⟨by first | rfl | (simp [errW_none, errW_some] <;> rfl) | (simp [*, errW_none, errW_some] <;> rfl), by repeat (first | (with_reducible first | exact HB.out | apply below_alloc | apply pw_below_drewN | apply below_drew1) | exact HB.out)⟩
      · replace c7 := Bool.eq_false_iff.mpr c7
        subst c7
        have H1 : (impl_DigitOfMatches.l0 kj1 0 l0 (l0.length : Int) 0) = some (r1, r2) := by rw [if_neg (show ¬ (false = true) by decide)] at H; exact H
        clear H
        have H := H1
        clear H1
        have H' := Aside0.mk H
        clear H
        go_wp2
        go_loopg [4, 18] kj1 (fun kq v4 v18 w' => ∃ (x4_2 : Int) (x18_2 : Int), v4 = .int .u8 x4_2 ∧ v18 = .int .i64 x18_2 ∧ Aside0 (impl_DigitOfMatches.l0 kq x4_2 l0 (l0.length : Int) x18_2 = some (r1, r2)) ∧ Aside0 (kq ≤ kj1) ∧ Aside0 (Below w.heap.size w w'))
        case atStart => exact ⟨(0), (0), (by first | rfl | (simp; done) | (simp [*]; done)), (by first | rfl | (simp; done) | (simp [*]; done)), H', ⟨Nat.le_refl _⟩, ⟨by repeat (first | (with_reducible first | exact HB.out | apply below_alloc | apply pw_below_drewN | apply below_drew1) | exact HB.out)⟩⟩
        case round =>
          clear H'
          try clear c2
          try clear p2
          try clear c4
          try clear c7
          try clear p2
          obtain ⟨x4_2, x18_2, rfl, rfl, HA, HK2, HB⟩ := hrel
          cases gk with
          | zero => exact absurd HA.out (by simp [impl_DigitOfMatches.l0])
          | succ k2 =>
            have H := HA.out
            clear HA
            simp only [impl_DigitOfMatches.l0] at H
            by_cases c8 : x18_2 < (l0.length : Int)
            · rw [if_pos c8] at H
              have c8b0 : decide (x18_2 < (l0.length : Int)) = true := decide_eq_true c8
              clear c8
              by_cases c9 : 0 ≤ x18_2
              · rw [if_pos c9] at H
                have c9b0 : decide (0 ≤ x18_2) = true := decide_eq_true c9
                clear c9
                by_cases c10 : x18_2 < (l0.length : Int)
                · rw [if_pos c10] at H
                  have c10b0 : decide (x18_2 < (l0.length : Int)) = true := decide_eq_true c10
                  clear c10
                  by_cases c11 : 0 ≤ (rd l0 x18_2)
                  · rw [if_pos c11] at H
                    have c11b0 := eq_true c11
                    have c11b1 : decide (0 ≤ (rd l0 x18_2)) = true := decide_eq_true c11
                    clear c11
                    obtain ⟨ji12, hji12⟩ : ∃ j_ : Int, (shl .u8 1 (rd l0 x18_2)) = j_ := ⟨_, rfl⟩
                    replace H : (impl_DigitOfMatches.l0 k2 (Go.bits .or .u8 x4_2 (ji12)) l0 (l0.length : Int) (wrap64 (x18_2 + 1))) = some (r1, r2) := by first | (rw [hji12] at H; exact H) | (simp only [hji12] at H ⊢; exact H)
                    have hji12_ : (IntKind.u8.wrap (1 * 2 ^ min (rd l0 x18_2).toNat 8)) = ji12 := hji12
                    have hji12z : (rd l0 x18_2) ≤ 8 → (IntKind.u8.wrap (1 * 2 ^ (rd l0 x18_2).toNat)) = ji12 := shl_small hji12
                    have hji12u : (IntKind.u8.wrap (2 ^ min (rd l0 x18_2).toNat 8)) = ji12 := by have h_ := hji12_; rw [Int.one_mul] at h_; exact h_
                    have hji12v : (rd l0 x18_2) ≤ 8 → (IntKind.u8.wrap (2 ^ (rd l0 x18_2).toNat)) = ji12 := fun hle_ => by have h_ := hji12z hle_; rw [Int.one_mul] at h_; exact h_
                    have H' := Aside0.mk H
                    clear H
                    have p155 : 0 ≤ (x18_2 : Int) := of_decide_eq_true (by first | (with_reducible assumption) | assumption)
                    have q155 : x18_2 < (l0.length : Int) := of_decide_eq_true (by first | (with_reducible assumption) | assumption)
                    obtain ⟨ad155, e155, hx155_0⟩ := Kd.at_int HR0.out x18_2 p155 q155
                    cases e155
                    replace hx155_0 := (HB.out.cell (World.block_lt_of_cell? w _ hx155_0)).trans hx155_0
                    replace p155 := eq_true p155
                    replace q155 := eq_true q155
                    go_wp2
                    go_roundg k2
                    case measure => have := HJ1.out; have := HK2.out; omega
                    case rel => exact ⟨(Go.bits .or .u8 x4_2 (ji12)), (wrap64 (x18_2 + 1)), (by first | rfl | (simp; done) | (simp only [← hji12] <;> (first | rfl | simp)) | (simp [*]; done)), (by first | rfl | (simp; done) | (simp [*]; done)), H', ⟨by have := HJ1.out; have := HK2.out; omega⟩, ⟨by repeat (first | (with_reducible first | exact HB.out | apply below_alloc | apply pw_below_drewN | apply below_drew1) | exact HB.out)⟩⟩
                  · rw [if_neg c11] at H
                    exact absurd H (by simp)
                · rw [if_neg c10] at H
                  exact absurd H (by simp)
              · rw [if_neg c9] at H
                exact absurd H (by simp)
            · rw [if_neg c8] at H
              have c8b0 : decide (x18_2 < (l0.length : Int)) = false := decide_eq_false c8
              clear c8
              replace H := Option.bind_eq_some_iff.mp H
              obtain ⟨t156, A130, H⟩ := H
              replace H : (some (mx t156 0, decide (t156 ≥ 0))) = some (r1, r2) := H
              have A13 := Aside0.mk A130
              clear A130
              obtain ⟨ji14, hji14⟩ : ∃ j_ : Int, (mx t156 0) = j_ := ⟨_, rfl⟩
              replace H : (some (ji14, decide (t156 ≥ 0))) = some (r1, r2) := by first | (rw [hji14] at H; exact H) | (simp only [hji14] at H ⊢; exact H)
              (try rw [hji14] at A13)
              (try (have hji14l : 0 ≤ ji14 := by (rw [← hji14]; unfold mx; (repeat' split) <;> omega)))
              (try (have hji14m : 0 ≤ ji14 := by omega))
              have hji14_ : (if t156 < 0 then 0 else t156) = ji14 := hji14
              simp only [Option.some.injEq, Prod.mk.injEq] at H
              obtain ⟨rfl, rfl⟩ := H
              go_wp2_with (first | ((with_reducible refine gate_callee (f := 42) rfl ?_); refine goesL_ (some 28) rfl rfl Tryd.func42 (by kernel_rfl) rfl #[.int .u8 x4_2] rfl (by (try simp only [List.map_toArray, List.map_cons, List.map_nil]); first | done | rfl | (simp only [List.length_drop, List.length_take]; rfl)) ?_; (with_reducible refine (impl_digitOf.calls x4_2 t156 _ ?side1 A13.out).mono ?_); (case side1 => first | exact LaidG_below HG.out (by repeat (first | (with_reducible first | exact HB.out | apply below_alloc | apply pw_below_drewN | apply below_drew1) | exact HB.out)) | (repeat (first | exact HG.out | (with_reducible refine LaidG_alloc ?_ _) | (with_reducible refine LaidG_drewN ?_ _) | (with_reducible refine LaidG_drew ?_)))); rintro e w' ⟨rfl, ⟨nd, rfl⟩⟩; refine ⟨_, rfl, ?_⟩))
              go_ret2
              exact ⟨by first | rfl | (simp [errW_none, errW_some] <;> rfl) | (simp only [← hji14]; first | rfl | (simp [errW_none, errW_some] <;> rfl)) | (simp [*, errW_none, errW_some] <;> rfl), by repeat (first | (with_reducible first | exact HB.out | apply below_alloc | apply pw_below_drewN | apply below_drew1) | exact HB.out)⟩

/-! ### laws_eqIntS: function 19 -/
def laws_eqIntS.l0 : Nat → List Int → List Int → Int → Option (Bool)
  | 0, _, _, _ => none
  | k + 1, x0, x1, x5 => if x5 < (x0.length : Int) then (if 0 ≤ x5 then (if x5 < (x1.length : Int) then (if (rd x0 x5) = (rd x1 x5) then (laws_eqIntS.l0 k x0 x1 (wrap64 (x5 + 1))) else (some false)) else (none)) else (none)) else (some true)
def laws_eqIntS.f (k : Nat) (l0 : List Int) (l1 : List Int) : Option (Bool) := if (l0.length : Int) = (l1.length : Int) then (laws_eqIntS.l0 k l0 l1 0) else (some false)
theorem laws_eqIntS.mono_l : ∀ k, (∀ y0 y1 y2, LeO (laws_eqIntS.l0 k y0 y1 y2) (laws_eqIntS.l0 (k + 1) y0 y1 y2))
  | 0 => fun _ _ _ r h => by simp [laws_eqIntS.l0] at h
  | k + 1 => by
    have ih0 := laws_eqIntS.mono_l k
    · intro y0 y1 y2
      unfold laws_eqIntS.l0
      repeat' first
      | (with_reducible exact ih0 _ _ _)
      | (with_reducible exact LeO.refl _)
      | (with_reducible exact LeO.none _)
      | (with_reducible refine LeO.ite ?_ ?_)
      | (with_reducible refine LeO.bind ?_ (fun _ => ?_))
      | exact ih0 _ _ _
      | exact LeO.none _
      | refine LeO.ite ?_ ?_
      | refine LeO.bind ?_ (fun _ => ?_)
theorem laws_eqIntS.mono : ∀ a0 a1 k, LeO (laws_eqIntS.f k a0 a1) (laws_eqIntS.f (k + 1) a0 a1) := by
  intro a0 a1 k
  have ih0 := laws_eqIntS.mono_l k
  unfold laws_eqIntS.f
  repeat' first
      | (with_reducible exact ih0 _ _ _)
      | (with_reducible exact LeO.refl _)
      | (with_reducible exact LeO.none _)
      | (with_reducible refine LeO.ite ?_ ?_)
      | (with_reducible refine LeO.bind ?_ (fun _ => ?_))
      | exact ih0 _ _ _
      | exact LeO.none _
      | refine LeO.ite ?_ ?_
      | refine LeO.bind ?_ (fun _ => ?_)
set_option maxHeartbeats 8000000 in
set_option maxRecDepth 100000 in
theorem laws_eqIntS.calls (k : Nat) (A0 : Option Addr) (c0 : Nat) (l0 : List Int) (A1 : Option Addr) (c1 : Nat) (l1 : List Int) (r : Bool) (w : World) (hr0 : Kd.C (Kd.int .i64) w A0 l0.length l0) (hc0 : l0.length ≤ c0) (hr1 : Kd.C (Kd.int .i64) w A1 l1.length l1) (hc1 : l1.length ≤ c1) (h : laws_eqIntS.f k l0 l1 = some r) :
    Calls Tryd.prog 19 #[.slice A0 l0.length c0, .slice A1 l1.length c1] w fun e w' => e = .returned (.bool r) ∧ Drawn0 w w' := by
  have HR0 := Aside0.mk hr0
  have HC0 := Aside0.mk hc0
  clear hr0 hc0
  have HR1 := Aside0.mk hr1
  have HC1 := Aside0.mk hc1
  clear hr1 hc1
  have H : (if (l0.length : Int) = (l1.length : Int) then (laws_eqIntS.l0 k l0 l1 0) else (some false)) = some r := h
  clear h
  by_cases c3 : (l0.length : Int) = (l1.length : Int)
  · rw [if_pos c3] at H
    have c3b0 : ((l0.length : Int) == (l1.length : Int)) = true := beq_iff_eq.mpr c3
    have c3b1 : ((l0.length : Int) != (l1.length : Int)) = false := bne_eq_false_iff_eq.mpr c3
    have c3b2 : (l0.length == l1.length) = true := by first | simpa using c3 | (simp at c3 ⊢; omega)
    clear c3
    have H' := Aside0.mk H
    clear H
    go_enter Tryd.func19, Tryd.ntmps19
    go_wp2
    repeat (go_quiet (fail); try go_wp2)
    go_loopg [5] k (fun kq v5 w' => ∃ (x5_1 : Int), v5 = .int .i64 x5_1 ∧ Aside0 (laws_eqIntS.l0 kq l0 l1 x5_1 = some r) ∧ Aside0 (kq ≤ k) ∧ Drawn0 w w')
    case atStart => exact ⟨(0), (by first | rfl | (simp; done) | (simp [*]; done)), H', ⟨Nat.le_refl _⟩, by repeat (first | exact Drawn0.refl _ | apply Drawn0.step)⟩
    case round =>
      clear H'
      try clear c1
      try clear p2
      try clear c3
      try clear c3b0
      try clear c3b1
      try clear c3b2
      obtain ⟨x5_1, rfl, HA, HK1, ⟨m1, rfl⟩⟩ := hrel
      cases gk with
      | zero => exact absurd HA.out (by simp [laws_eqIntS.l0])
      | succ k1 =>
        have H := HA.out
        clear HA
        simp only [laws_eqIntS.l0] at H
        by_cases c4 : x5_1 < (l0.length : Int)
        · rw [if_pos c4] at H
          have c4b0 : decide (x5_1 < (l0.length : Int)) = true := decide_eq_true c4
          clear c4
          by_cases c5 : 0 ≤ x5_1
          · rw [if_pos c5] at H
            have c5b0 : decide (0 ≤ x5_1) = true := decide_eq_true c5
            clear c5
            by_cases c6 : x5_1 < (l1.length : Int)
            · rw [if_pos c6] at H
              have c6b0 : decide (x5_1 < (l1.length : Int)) = true := decide_eq_true c6
              clear c6
              by_cases c7 : (rd l0 x5_1) = (rd l1 x5_1)
              · rw [if_pos c7] at H
                have c7b0 : ((rd l0 x5_1) == (rd l1 x5_1)) = true := beq_iff_eq.mpr c7
                have c7b1 : ((rd l0 x5_1) != (rd l1 x5_1)) = false := bne_eq_false_iff_eq.mpr c7
                clear c7
                have H' := Aside0.mk H
                clear H
                have p157 : 0 ≤ (x5_1 : Int) := of_decide_eq_true (by first | (with_reducible assumption) | assumption)
                have q157 : x5_1 < (l0.length : Int) := of_decide_eq_true (by first | (with_reducible assumption) | assumption)
                obtain ⟨ad157, e157, hx157_0⟩ := Kd.at_int HR0.out x5_1 p157 q157
                cases e157
                replace p157 := eq_true p157
                replace q157 := eq_true q157
                have p158 : 0 ≤ (x5_1 : Int) := of_decide_eq_true (by first | (with_reducible assumption) | assumption)
                have q158 : x5_1 < (l1.length : Int) := of_decide_eq_true (by first | (with_reducible assumption) | assumption)
                obtain ⟨ad158, e158, hx158_0⟩ := Kd.at_int HR1.out x5_1 p158 q158
                cases e158
                replace p158 := eq_true p158
                replace q158 := eq_true q158
                go_wp2
                repeat (go_quiet (fail); try go_wp2)
                go_roundg k1
                case measure => have := HK1.out; omega
                case rel => exact ⟨(wrap64 (x5_1 + 1)), (by first | rfl | (simp; done) | (simp [*]; done)), H', ⟨by have := HK1.out; omega⟩, by repeat (first | exact Drawn0.refl _ | apply Drawn0.step)⟩
              · rw [if_neg c7] at H
                have c7b0 : ((rd l0 x5_1) == (rd l1 x5_1)) = false := beq_eq_false_iff_ne.mpr c7
                have c7b1 : ((rd l0 x5_1) != (rd l1 x5_1)) = true := bne_iff_ne.mpr c7
                obtain rfl := Option.some.inj H
                have p157 : 0 ≤ (x5_1 : Int) := of_decide_eq_true (by first | (with_reducible assumption) | assumption)
                have q157 : x5_1 < (l0.length : Int) := of_decide_eq_true (by first | (with_reducible assumption) | assumption)
                obtain ⟨ad157, e157, hx157_0⟩ := Kd.at_int HR0.out x5_1 p157 q157
                cases e157
                replace p157 := eq_true p157
                replace q157 := eq_true q157
                have p158 : 0 ≤ (x5_1 : Int) := of_decide_eq_true (by first | (with_reducible assumption) | assumption)
                have q158 : x5_1 < (l1.length : Int) := of_decide_eq_true (by first | (with_reducible assumption) | assumption)
                obtain ⟨ad158, e158, hx158_0⟩ := Kd.at_int HR1.out x5_1 p158 q158
                cases e158
                replace p158 := eq_true p158
                replace q158 := eq_true q158
                go_wp2
                repeat (go_quiet (fail); try go_wp2)
                go_ret
                exact ⟨by first | rfl | (simp; done) | (simp [*]; done), by repeat (first | exact Drawn0.refl _ | apply Drawn0.step)⟩
            · rw [if_neg c6] at H
              exact absurd H (by simp)
          · rw [if_neg c5] at H
            exact absurd H (by simp)
        · rw [if_neg c4] at H
          have c4b0 : decide (x5_1 < (l0.length : Int)) = false := decide_eq_false c4
          clear c4
          obtain rfl := Option.some.inj H
          go_wp2
          repeat (go_quiet (fail); try go_wp2)
          go_ret
          exact ⟨by first | rfl | (simp; done) | (simp [*]; done), by repeat (first | exact Drawn0.refl _ | apply Drawn0.step)⟩
  · rw [if_neg c3] at H
    have c3b0 : ((l0.length : Int) == (l1.length : Int)) = false := beq_eq_false_iff_ne.mpr c3
    have c3b1 : ((l0.length : Int) != (l1.length : Int)) = true := bne_iff_ne.mpr c3
    have c3b2 : (l0.length == l1.length) = false := by first | simpa using c3 | (simp at c3 ⊢; omega)
    obtain rfl := Option.some.inj H
    go_enter Tryd.func19, Tryd.ntmps19
    go_wp2
    repeat (go_quiet (fail); try go_wp2)
    go_ret
    exact ⟨by first | rfl | (simp; done) | (simp [*]; done), by repeat (first | exact Drawn0.refl _ | apply Drawn0.step)⟩

theorem laws_eqIntS_from (a b : List Int) (hab : a.length = b.length) (d : Nat) : ∀ (k i : Nat), i + d = a.length → a.length ≤ 3000000 → d < k → laws_eqIntS.l0 k a b (i : Int) = some (decide (a.drop i = b.drop i)) := by
  induction d with
  | zero =>
    intro k i hi _ hk
    obtain ⟨k, rfl⟩ : ∃ m, k = m + 1 := ⟨k - 1, by omega⟩
    simp only [laws_eqIntS.l0]
    rw [if_neg (by omega), List.drop_of_length_le (by omega), List.drop_of_length_le (by omega)]
    rfl
  | succ d ih =>
    intro k i hi hl hk
    obtain ⟨k, rfl⟩ : ∃ m, k = m + 1 := ⟨k - 1, by omega⟩
    have ha : i < a.length := by omega
    have hb : i < b.length := by omega
    simp only [laws_eqIntS.l0]
    rw [if_pos (by omega), if_pos (by omega), if_pos (by omega)]
    have ea : rd a (i : Int) = a[i] := by unfold rd; rw [Int.toNat_natCast]; simp [List.getD_eq_getElem?_getD, ha]
    have eb : rd b (i : Int) = b[i] := by unfold rd; rw [Int.toNat_natCast]; simp [List.getD_eq_getElem?_getD, hb]
    have e : (a.drop i = b.drop i) ↔ (a[i] = b[i] ∧ a.drop (i + 1) = b.drop (i + 1)) := by rw [List.drop_eq_getElem_cons ha, List.drop_eq_getElem_cons hb, List.cons.injEq]
    rw [ea, eb]
    by_cases h : a[i] = b[i]
    · rw [if_pos h, show wrap64 ((i : Int) + 1) = ((i + 1 : Nat) : Int) from by unfold wrap64; omega, ih k (i + 1) (by omega) hl (by omega)]
      simp only [e, h, true_and]
    · rw [if_neg h]
      simp only [e, h, false_and, decide_false]
theorem laws_eqIntS_tells (a b : List Int) (hl : a.length ≤ 3000000) : ∃ k, laws_eqIntS.f k a b = some (decide (a = b)) := by
  by_cases hab : a.length = b.length
  · refine ⟨a.length + 1, ?_⟩
    unfold laws_eqIntS.f
    rw [if_pos (by omega)]
    have := laws_eqIntS_from a b hab a.length (a.length + 1) 0 (by omega) hl (by omega)
    simpa using this
  · refine ⟨0, ?_⟩
    unfold laws_eqIntS.f
    rw [if_neg (by omega)]
    have : a ≠ b := fun e => hab (by rw [e])
    simp [this]
theorem laws_intactIntS_ext {w : World} {A : Option Addr} {c : Nat} {l : List Int} (hl : l.length ≤ 1000000) (hr : Kd.C (Kd.int .i64) w A l.length l) (hp : Kd.Sp w A c l) :
    Kd.C (Kd.int .i64) w A (l ++ spares l.length).length (l ++ spares l.length) ∧ (l ++ spares l.length).length ≤ c := by
  have hrl := roomOf_le l.length
  obtain ⟨g, c', cur, t, hv, hg, hc, hi⟩ := hp
  injection hv with hA _ hcc
  subst hA
  subst hcc
  have hlen : (l ++ spares l.length).length = l.length + roomOf l.length := by rw [List.length_append, spares_length]
  refine ⟨Kd.C_of_reads (d := (0 : Int)) (h1 := fun _ => rfl) ⟨rfl, by omega, fun _ => ⟨_, rfl, fun j hj => ?_⟩⟩, by omega⟩
  by_cases hjl : j < l.length
  · obtain ⟨ad, ha, hcell⟩ := Kd.at_int hr (j : Int) (by omega) (by omega)
    injection ha with ha
    subst ha
    rw [Int.toNat_natCast] at hcell
    rw [hcell]
    simp [rd, List.getD_eq_getElem?_getD, List.getElem?_append_left hjl]
  · have h := hi (j - l.length) (by omega)
    have e : (Addr.add ⟨g, 0, none⟩ j) = ⟨g, j, none⟩ := addr_plain _ _
    rw [e]
    have hb : w.cell? ⟨g, j, none⟩ = cur[j]? := by simp [World.cell?, hg]
    rw [hb, show j = l.length + (j - l.length) by omega, h]
    simp [List.getD_eq_getElem?_getD, spares, spareV, show j - l.length < roomOf l.length by omega]
theorem laws_intactIntS_cut (A : Option Addr) (n c : Nat) (j : Int) (m : Nat) (h0 : 0 ≤ j) (hm : j = (m : Int)) (hc : m ≤ c) :
    ∀ W : World, (Instr.slice 31 (.slice A n c) none (some (.int .i64 j)) none).run Tryd.prog W = .ok (.slice A m c) W := by
  intro W
  obtain ⟨i0, hi, _, hsz, _⟩ := info_parts info3
  have hel : Tryd.prog.elem 31 = 3 := by simp [Program.elem, Tryd.underlying31]
  have hu : Tryd.prog.underlying 31 = some (.slice (Tryd.prog.elem 31)) := by rw [hel]; exact Tryd.underlying31
  have ha : (A.map fun x => x.add 0) = A := by cases A <;> simp [Addr.add]
  rw [run_slice_h W 31 A n c hu .i64 j h0 (by omega), hel]
  subst hm
  simp [sizeOf, typeInfo, hi, hsz, sliced, Result.andThen, ha]
/-! ### laws_intactIntS: function 25 -/
def laws_intactIntS.f (l0 : List Int) (l1 : List Int) : Option Bool := if l0.length ≤ 1000000 then some (decide (l0 = l1)) else none
set_option maxHeartbeats 8000000 in
set_option maxRecDepth 100000 in
theorem laws_intactIntS.calls (A0 : Option Addr) (c0 : Nat) (l0 : List Int) (A1 : Option Addr) (c1 : Nat) (l1 : List Int) (r : Bool) (w : World) (hr0 : Kd.C (Kd.int .i64) w A0 l0.length l0) (hc0 : l0.length ≤ c0) (hp0 : Kd.Sp w A0 c0 l0) (hr1 : Kd.C (Kd.int .i64) w A1 l1.length l1) (hc1 : l1.length ≤ c1) (hp1 : Kd.Sp w A1 c1 l1) (h : laws_intactIntS.f l0 l1 = some r) :
    Calls Tryd.prog 25 #[.slice A0 l0.length c0, .slice A1 l1.length c1] w fun e w' => e = .returned (.bool r) ∧ Drawn0 w w' := by
  have hl : l0.length ≤ 1000000 := by
    unfold laws_intactIntS.f at h
    split at h
    · assumption
    · cases h
  obtain rfl : decide (l0 = l1) = r := by
    unfold laws_intactIntS.f at h
    rw [if_pos hl] at h
    exact Option.some.inj h
  clear h
  have A3 := Aside0.mk (laws_roomBehind_tells l1.length)
  by_cases c4 : (l0.length : Int) = (l1.length : Int)
  · have hll : l0.length = l1.length := by omega
    have hrl := roomOf_le l1.length
    obtain ⟨C0, L0⟩ := laws_intactIntS_ext hl hr0 hp0
    obtain ⟨C1, L1⟩ := laws_intactIntS_ext (by omega) hr1 hp1
    obtain ⟨k, hk⟩ := laws_eqIntS_tells (l0 ++ spares l0.length) (l1 ++ spares l1.length) (by rw [List.length_append, spares_length, hll]; omega)
    have hd : decide (l0 ++ spares l0.length = l1 ++ spares l1.length) = decide (l0 = l1) := by
      rw [decide_eq_decide, hll]
      exact ⟨fun h => (List.append_inj h hll).1, fun h => by rw [h]⟩
    rw [hd] at hk
    have e0 : (l0 ++ spares l0.length).length = l0.length + roomOf l0.length := by rw [List.length_append, spares_length]
    have e1 : (l1 ++ spares l1.length).length = l1.length + roomOf l1.length := by rw [List.length_append, spares_length]
    obtain ⟨ji5, hji5⟩ : ∃ j_ : Int, (wrap64 ((l1.length : Int) + (roomOf l1.length : Int))) = j_ := ⟨_, rfl⟩
    have hji5w : (IntKind.i64.wrap ((l1.length : Int) + (roomOf l1.length : Int))) = ji5 := (i64_w _).trans hji5
    have hjv : ji5 = ((l1.length + roomOf l1.length : Nat) : Int) := by rw [← hji5]; unfold wrap64; omega
    have c6b0 := eq_true (show 0 ≤ ji5 by omega)
    have c6b1 : decide (0 ≤ ji5) = true := decide_eq_true (by omega)
    have hcut11 := laws_intactIntS_cut A0 l0.length c0 ji5 (l0 ++ spares l0.length).length (by omega) (by rw [e0, hjv, hll]) L0
    have hcut12 := laws_intactIntS_cut A1 l1.length c1 ji5 (l1 ++ spares l1.length).length (by omega) (by rw [e1, hjv]) L1
    clear e0 e1 hjv hrl hll hd
    generalize l0 ++ spares l0.length = X0 at *
    generalize l1 ++ spares l1.length = X1 at *
    have HX := Aside0.mk hk
    have HC0 := Aside0.mk C0
    have HC1 := Aside0.mk C1
    have HL0 := Aside0.mk L0
    have HL1 := Aside0.mk L1
    clear hk C0 C1 L0 L1 hr0 hr1 hp0 hp1 hc0 hc1 hl
    have c4b0 : ((l0.length : Int) == (l1.length : Int)) = true := beq_iff_eq.mpr c4
    have c4b1 : ((l0.length : Int) != (l1.length : Int)) = false := bne_eq_false_iff_eq.mpr c4
    have c4b2 : (l0.length == l1.length) = true := by first | simpa using c4 | (simp at c4 ⊢; omega)
    clear c4
    generalize decide (l0 = l1) = r at *
    go_enter Tryd.func25, Tryd.ntmps25
    go_wp2_with (first | (go_at_call 39; (with_reducible refine (laws_roomBehind.calls (l1.length : Int) _ _ A3.out).mono ?_); rintro e w' ⟨rfl, ⟨nd, rfl⟩⟩; (try first | exact ⟨rfl, _, World.drewN_drewN _ _ _⟩ | exact ⟨rfl, _, Eq.trans (World.drewN_drewN _ _ _) (congrArg (World.drewN _) (Nat.add_assoc _ _ _))⟩)) | (go_at_call 19; (with_reducible refine (laws_eqIntS.calls k _ _ X0 _ _ X1 r _ ?side1 ?side2 ?side3 ?side4 HX.out).mono ?_); (case side1 => repeat (first | exact HC0.out | (with_reducible refine Kd.C_alloc ?_ _) | (with_reducible refine Kd.C_drewN ?_ _) | (with_reducible refine Kd.C_drew ?_))); (case side2 => exact HL0.out); (case side3 => repeat (first | exact HC1.out | (with_reducible refine Kd.C_alloc ?_ _) | (with_reducible refine Kd.C_drewN ?_ _) | (with_reducible refine Kd.C_drew ?_))); (case side4 => exact HL1.out); rintro e w' ⟨rfl, ⟨nd, rfl⟩⟩; (try first | exact ⟨rfl, _, World.drewN_drewN _ _ _⟩ | exact ⟨rfl, _, Eq.trans (World.drewN_drewN _ _ _) (congrArg (World.drewN _) (Nat.add_assoc _ _ _))⟩)))
    repeat (go_quiet (first | (go_at_call 39; (with_reducible refine (laws_roomBehind.calls (l1.length : Int) _ _ A3.out).mono ?_); rintro e w' ⟨rfl, ⟨nd, rfl⟩⟩; (try first | exact ⟨rfl, _, World.drewN_drewN _ _ _⟩ | exact ⟨rfl, _, Eq.trans (World.drewN_drewN _ _ _) (congrArg (World.drewN _) (Nat.add_assoc _ _ _))⟩)) | (go_at_call 19; (with_reducible refine (laws_eqIntS.calls k _ _ X0 _ _ X1 r _ ?side1 ?side2 ?side3 ?side4 HX.out).mono ?_); (case side1 => repeat (first | exact HC0.out | (with_reducible refine Kd.C_alloc ?_ _) | (with_reducible refine Kd.C_drewN ?_ _) | (with_reducible refine Kd.C_drew ?_))); (case side2 => exact HL0.out); (case side3 => repeat (first | exact HC1.out | (with_reducible refine Kd.C_alloc ?_ _) | (with_reducible refine Kd.C_drewN ?_ _) | (with_reducible refine Kd.C_drew ?_))); (case side4 => exact HL1.out); rintro e w' ⟨rfl, ⟨nd, rfl⟩⟩; (try first | exact ⟨rfl, _, World.drewN_drewN _ _ _⟩ | exact ⟨rfl, _, Eq.trans (World.drewN_drewN _ _ _) (congrArg (World.drewN _) (Nat.add_assoc _ _ _))⟩))); try go_wp2_with (fail))
    go_ret
    exact ⟨by first | rfl | (simp; done) | (simp [*]; done), by repeat (first | exact Drawn0.refl _ | apply Drawn0.step)⟩
  · have hne : l0 ≠ l1 := fun e => c4 (by rw [e])
    have hdf : decide (l0 = l1) = false := decide_eq_false hne
    rw [hdf]
    clear hr0 hr1 hp0 hp1 hc0 hc1 hl hne hdf
    have c4b0 : ((l0.length : Int) == (l1.length : Int)) = false := beq_eq_false_iff_ne.mpr c4
    have c4b1 : ((l0.length : Int) != (l1.length : Int)) = true := bne_iff_ne.mpr c4
    have c4b2 : (l0.length == l1.length) = false := by first | simpa using c4 | (simp at c4 ⊢; omega)
    clear c4
    go_enter Tryd.func25, Tryd.ntmps25
    go_wp2_with (first | (go_at_call 39; (with_reducible refine (laws_roomBehind.calls (l1.length : Int) _ _ A3.out).mono ?_); rintro e w' ⟨rfl, ⟨nd, rfl⟩⟩; (try first | exact ⟨rfl, _, World.drewN_drewN _ _ _⟩ | exact ⟨rfl, _, Eq.trans (World.drewN_drewN _ _ _) (congrArg (World.drewN _) (Nat.add_assoc _ _ _))⟩)))
    repeat (go_quiet (first | (go_at_call 39; (with_reducible refine (laws_roomBehind.calls (l1.length : Int) _ _ A3.out).mono ?_); rintro e w' ⟨rfl, ⟨nd, rfl⟩⟩; (try first | exact ⟨rfl, _, World.drewN_drewN _ _ _⟩ | exact ⟨rfl, _, Eq.trans (World.drewN_drewN _ _ _) (congrArg (World.drewN _) (Nat.add_assoc _ _ _))⟩))); try go_wp2_with (fail))
    go_ret
    exact ⟨by first | rfl | (simp; done) | (simp [*]; done), by repeat (first | exact Drawn0.refl _ | apply Drawn0.step)⟩

/-! ### laws_FnExactDigitOfMatches: function 8 -/
def laws_FnExactDigitOfMatches.j0 : Nat → List Int → Int → Bool → List Int → Bool → Option (Bool)
  | 0, _, _, _, _, _ => none
  | k + 1, x0, x3, x4, x5, x33 => if x33 = true then (some false) else ((laws_toIntS.f x0 false).bind fun t169 => ((laws_intactIntS.f x5 t169).bind fun t172 => (if t172 = true then ((laws_toIntS.f x0 true).bind fun t173 => ((impl_DigitOfMatches.f k t173).bind fun bt176 => (if bt176.1 = x3 then (if (bt176.2 != x4) = true then (some false) else (some true)) else (some false)))) else (some false))))
def laws_FnExactDigitOfMatches.f (k : Nat) (l0 : List Int) : Option (Bool) := if (l0.length : Int) > 1000000 then (some true) else ((laws_toIntS.f l0 false).bind fun t159 => ((spec_DigitOfMatches.f k t159).bind fun bt162 => ((laws_toIntS.f l0 false).bind fun t164 => ((impl_DigitOfMatches.f k t164).bind fun bt167 => (if bt167.1 = bt162.1 then (laws_FnExactDigitOfMatches.j0 k l0 bt162.1 bt162.2 t164 (bt167.2 != bt162.2)) else (laws_FnExactDigitOfMatches.j0 k l0 bt162.1 bt162.2 t164 true))))))
theorem laws_FnExactDigitOfMatches.mono_l : ∀ k, (∀ y0 y1 y2 y3 y4, LeO (laws_FnExactDigitOfMatches.j0 k y0 y1 y2 y3 y4) (laws_FnExactDigitOfMatches.j0 (k + 1) y0 y1 y2 y3 y4))
  | 0 => fun _ _ _ _ _ r h => by simp [laws_FnExactDigitOfMatches.j0] at h
  | k + 1 => by
    have ih0 := laws_FnExactDigitOfMatches.mono_l k
    · intro y0 y1 y2 y3 y4
      unfold laws_FnExactDigitOfMatches.j0
      repeat' first
      | (with_reducible exact ih0 _ _ _ _ _)
      | (with_reducible exact impl_DigitOfMatches.mono _ _)
      | (with_reducible exact spec_DigitOfMatches.mono _ _)
      | (with_reducible exact LeO.refl _)
      | (with_reducible exact LeO.none _)
      | (with_reducible refine LeO.ite ?_ ?_)
      | (with_reducible refine LeO.bind ?_ (fun _ => ?_))
      | exact ih0 _ _ _ _ _
      | exact impl_DigitOfMatches.mono _ _
      | exact spec_DigitOfMatches.mono _ _
      | exact LeO.none _
      | refine LeO.ite ?_ ?_
      | refine LeO.bind ?_ (fun _ => ?_)
theorem laws_FnExactDigitOfMatches.mono : ∀ a0 k, LeO (laws_FnExactDigitOfMatches.f k a0) (laws_FnExactDigitOfMatches.f (k + 1) a0) := by
  intro a0 k
  have ih0 := laws_FnExactDigitOfMatches.mono_l k
  unfold laws_FnExactDigitOfMatches.f
  repeat' first
      | (with_reducible exact ih0 _ _ _ _ _)
      | (with_reducible exact impl_DigitOfMatches.mono _ _)
      | (with_reducible exact spec_DigitOfMatches.mono _ _)
      | (with_reducible exact LeO.refl _)
      | (with_reducible exact LeO.none _)
      | (with_reducible refine LeO.ite ?_ ?_)
      | (with_reducible refine LeO.bind ?_ (fun _ => ?_))
      | exact ih0 _ _ _ _ _
      | exact impl_DigitOfMatches.mono _ _
      | exact spec_DigitOfMatches.mono _ _
      | exact LeO.none _
      | refine LeO.ite ?_ ?_
      | refine LeO.bind ?_ (fun _ => ?_)
set_option maxHeartbeats 8000000 in
set_option maxRecDepth 100000 in
theorem laws_FnExactDigitOfMatches.calls (k : Nat) (A0 : Option Addr) (c0 : Nat) (l0 : List Int) (r : Bool) (w : World) (hr0 : Kd.C (Kd.int .i64) w A0 l0.length l0) (hc0 : l0.length ≤ c0) (hG : LaidG w) (h : laws_FnExactDigitOfMatches.f k l0 = some r) :
    Calls Tryd.prog 8 #[.slice A0 l0.length c0] w fun e w' => e = .returned (.bool r) ∧ Below w.heap.size w w' := by
  have HR0 := Aside0.mk hr0
  have HC0 := Aside0.mk hc0
  clear hr0 hc0
  have HG := Aside0.mk hG
  clear hG
  have HB := Aside0.mk (Below.refl w.heap.size w)
  have H : (if (l0.length : Int) > 1000000 then (some true) else ((laws_toIntS.f l0 false).bind fun t159 => ((spec_DigitOfMatches.f k t159).bind fun bt162 => ((laws_toIntS.f l0 false).bind fun t164 => ((impl_DigitOfMatches.f k t164).bind fun bt167 => (if bt167.1 = bt162.1 then (laws_FnExactDigitOfMatches.j0 k l0 bt162.1 bt162.2 t164 (bt167.2 != bt162.2)) else (laws_FnExactDigitOfMatches.j0 k l0 bt162.1 bt162.2 t164 true))))))) = some r := h
  clear h
  by_cases c2 : (l0.length : Int) > 1000000
  · rw [if_pos c2] at H
    have c2b0 : decide (1000000 < (l0.length : Int)) = true := decide_eq_true c2
    have c2b1 : decide (1000000 < l0.length) = true := decide_eq_true (by omega)
    clear c2
    obtain rfl := Option.some.inj H
    go_enter Tryd.func8, Tryd.ntmps8
    go_wp2
    go_ret
    exact ⟨by first | rfl | (simp [errW_none, errW_some] <;> rfl) | (simp [*, errW_none, errW_some] <;> rfl), by repeat (first | (with_reducible first | exact HB.out | apply below_alloc | apply pw_below_drewN | apply below_drew1) | exact HB.out)⟩
  · rw [if_neg c2] at H
    have c2b0 : decide (1000000 < (l0.length : Int)) = false := decide_eq_false c2
    have c2b1 : decide (1000000 < l0.length) = false := decide_eq_false (by omega)
    clear c2
    replace H := Option.bind_eq_some_iff.mp H
    obtain ⟨t159, A30, H⟩ := H
    replace H : ((spec_DigitOfMatches.f k t159).bind fun bt162 => ((laws_toIntS.f l0 false).bind fun t164 => ((impl_DigitOfMatches.f k t164).bind fun bt167 => (if bt167.1 = bt162.1 then (laws_FnExactDigitOfMatches.j0 k l0 bt162.1 bt162.2 t164 (bt167.2 != bt162.2)) else (laws_FnExactDigitOfMatches.j0 k l0 bt162.1 bt162.2 t164 true))))) = some r := H
    have A3 := Aside0.mk A30
    clear A30
    replace H := Option.bind_eq_some_iff.mp H
    obtain ⟨⟨t162, t163⟩, A40, H⟩ := H
    replace H : ((laws_toIntS.f l0 false).bind fun t164 => ((impl_DigitOfMatches.f k t164).bind fun bt167 => (if bt167.1 = t162 then (laws_FnExactDigitOfMatches.j0 k l0 t162 t163 t164 (bt167.2 != t163)) else (laws_FnExactDigitOfMatches.j0 k l0 t162 t163 t164 true)))) = some r := H
    have A4 := Aside0.mk A40
    clear A40
    replace H := Option.bind_eq_some_iff.mp H
    obtain ⟨t164, A50, H⟩ := H
    replace H : ((impl_DigitOfMatches.f k t164).bind fun bt167 => (if bt167.1 = t162 then (laws_FnExactDigitOfMatches.j0 k l0 t162 t163 t164 (bt167.2 != t163)) else (laws_FnExactDigitOfMatches.j0 k l0 t162 t163 t164 true))) = some r := H
    have A5 := Aside0.mk A50
    clear A50
    replace H := Option.bind_eq_some_iff.mp H
    obtain ⟨⟨t167, t168⟩, A60, H⟩ := H
    replace H : (if t167 = t162 then (laws_FnExactDigitOfMatches.j0 k l0 t162 t163 t164 (t168 != t163)) else (laws_FnExactDigitOfMatches.j0 k l0 t162 t163 t164 true)) = some r := H
    have A6 := Aside0.mk A60
    clear A60
    have HC7 := Aside0.mk H
    clear H
    go_enter Tryd.func8, Tryd.ntmps8
    go_upto_region 6 with (first | ((with_reducible refine gate_callee (f := 23) rfl ?_); refine goesL_ (some 15) rfl rfl Tryd.func23 (by kernel_rfl) rfl #[.slice A0 l0.length c0, .bool false] rfl (by (try simp only [List.map_toArray, List.map_cons, List.map_nil]); first | done | rfl | (simp only [List.length_drop, List.length_take]; rfl)) ?_; (with_reducible refine (laws_toIntS.calls _ _ l0 false t159 _ ?side1 ?side2 A3.out).mono ?_); (case side1 => repeat (first | exact HR0.out | (with_reducible refine Kd.C_alloc ?_ _) | (with_reducible refine Kd.C_drewN ?_ _) | (with_reducible refine Kd.C_drew ?_))); (case side2 => exact HC0.out); rintro e w8 ⟨v160, rfl, ho0, hb⟩; refine ⟨_, rfl, ?_⟩; have n0_ := Aside0.mk (Kd.PB_lower ho0 (below_size (by repeat (first | (with_reducible first | exact HB.out | apply below_alloc | apply pw_below_drewN | apply below_drew1) | exact HB.out)))); have n1_ := Aside0.mk (below_step (by repeat (first | (with_reducible first | exact HB.out | apply below_alloc | apply pw_below_drewN | apply below_drew1) | exact HB.out)) hb); clear HB; have HO161 := n0_; have HB := n1_; clear n0_ n1_; (try clear hb); (try clear hb2); (try clear hk); (try clear hi); (try clear ho0); obtain ⟨Ao9, co9, eo9⟩ := Kd.PB_slice HO161.out; subst eo9) | ((with_reducible refine gate_callee (f := 22) rfl ?_); refine goesL_ (some 16) rfl rfl Tryd.func22 (by kernel_rfl) rfl #[.slice Ao9 t159.length co9] rfl (by (try simp only [List.map_toArray, List.map_cons, List.map_nil]); first | done | rfl | (simp only [List.length_drop, List.length_take]; rfl)) ?_; (with_reducible refine (spec_DigitOfMatches.calls k _ _ t159 t162 t163 _ ?side1 ?side2 A4.out).mono ?_); (case side1 => repeat (first | exact (Kd.PB_reads' HO161.out).2.2 | (with_reducible refine Kd.C_alloc ?_ _) | (with_reducible refine Kd.C_drewN ?_ _) | (with_reducible refine Kd.C_drew ?_))); (case side2 => exact (Kd.PB_reads' HO161.out).2.1); rintro e w10 ⟨rfl, hb⟩; refine ⟨_, rfl, ?_⟩; have n0_ := Aside0.mk (Kd.PB_below (by (with_reducible repeat (first | apply Kd.PB_alloc | apply Kd.PB_drewN | apply Kd.PB_drew)); exact HO161.out) hb); have n1_ := Aside0.mk (below_step (by repeat (first | (with_reducible first | exact HB.out | apply below_alloc | apply pw_below_drewN | apply below_drew1) | exact HB.out)) hb); clear HO161; clear HB; have HO161 := n0_; have HB := n1_; clear n0_ n1_; (try clear hb); (try clear hb2); (try clear hk); (try clear hi)) | ((with_reducible refine gate_callee (f := 23) rfl ?_); refine goesL_ (some 20) rfl rfl Tryd.func23 (by kernel_rfl) rfl #[.slice A0 l0.length c0, .bool false] rfl (by (try simp only [List.map_toArray, List.map_cons, List.map_nil]); first | done | rfl | (simp only [List.length_drop, List.length_take]; rfl)) ?_; (with_reducible refine (laws_toIntS.calls _ _ l0 false t164 _ ?side1 ?side2 A5.out).mono ?_); (case side1 => repeat (first | exact (Kd.C_below HR0.out HB.out) | (with_reducible refine Kd.C_alloc ?_ _) | (with_reducible refine Kd.C_drewN ?_ _) | (with_reducible refine Kd.C_drew ?_))); (case side2 => exact HC0.out); rintro e w11 ⟨v165, rfl, ho0, hb⟩; refine ⟨_, rfl, ?_⟩; have n0_ := Aside0.mk (Kd.PB_elder' (by (with_reducible repeat (first | apply Kd.PB_alloc | apply Kd.PB_drewN | apply Kd.PB_drew)); exact HO161.out) (Kd.PB_base ho0) hb); have n1_ := Aside0.mk (Kd.PB_lower (Kd.PB_new' ho0 (Kd.PB_lt (by (with_reducible repeat (first | apply Kd.PB_alloc | apply Kd.PB_drewN | apply Kd.PB_drew)); exact HO161.out))) (below_size (by repeat (first | (with_reducible first | exact HB.out | apply below_alloc | apply pw_below_drewN | apply below_drew1) | exact HB.out)))); have n2_ := Aside0.mk (below_step (by repeat (first | (with_reducible first | exact HB.out | apply below_alloc | apply pw_below_drewN | apply below_drew1) | exact HB.out)) hb); clear HO161; clear HB; have HO161 := n0_; have HO166 := n1_; have HB := n2_; clear n0_ n1_ n2_; (try clear hb); (try clear hb2); (try clear hk); (try clear hi); (try clear ho0); obtain ⟨Ao12, co12, eo12⟩ := Kd.PB_slice HO166.out; subst eo12) | ((with_reducible refine gate_callee (f := 24) rfl ?_); refine goesL_ (some 23) rfl rfl Tryd.func24 (by kernel_rfl) rfl #[.slice Ao12 t164.length co12] rfl (by (try simp only [List.map_toArray, List.map_cons, List.map_nil]); first | done | rfl | (simp only [List.length_drop, List.length_take]; rfl)) ?_; (with_reducible refine (impl_DigitOfMatches.calls k _ _ t164 t167 t168 _ ?side1 ?side2 ?side3 A6.out).mono ?_); (case side1 => repeat (first | exact (Kd.PB_reads' HO166.out).2.2 | (with_reducible refine Kd.C_alloc ?_ _) | (with_reducible refine Kd.C_drewN ?_ _) | (with_reducible refine Kd.C_drew ?_))); (case side2 => exact (Kd.PB_reads' HO166.out).2.1); (case side3 => first | exact LaidG_below HG.out (by repeat (first | (with_reducible first | exact HB.out | apply below_alloc | apply pw_below_drewN | apply below_drew1) | exact HB.out)) | (repeat (first | exact HG.out | (with_reducible refine LaidG_alloc ?_ _) | (with_reducible refine LaidG_drewN ?_ _) | (with_reducible refine LaidG_drew ?_)))); rintro e w13 ⟨rfl, hb⟩; refine ⟨_, rfl, ?_⟩; have n0_ := Aside0.mk (Kd.PB_below (by (with_reducible repeat (first | apply Kd.PB_alloc | apply Kd.PB_drewN | apply Kd.PB_drew)); exact HO161.out) hb); have n1_ := Aside0.mk (Kd.PB_below (by (with_reducible repeat (first | apply Kd.PB_alloc | apply Kd.PB_drewN | apply Kd.PB_drew)); exact HO166.out) hb); have n2_ := Aside0.mk (below_step (by repeat (first | (with_reducible first | exact HB.out | apply below_alloc | apply pw_below_drewN | apply below_drew1) | exact HB.out)) hb); clear HO161; clear HO166; clear HB; have HO161 := n0_; have HO166 := n1_; have HB := n2_; clear n0_ n1_ n2_; (try clear hb); (try clear hb2); (try clear hk); (try clear hi)))
    (try simp only [Act.put, List.setIfInBounds_toArray, List.set_cons_zero, List.set_cons_succ])
    go_cut [33] (fun v33 wc => ∃ (kq : Nat) (x33_6 : Bool), v33 = .bool x33_6 ∧ Aside0 (laws_FnExactDigitOfMatches.j0 kq l0 t162 t163 t164 x33_6 = some r) ∧ Aside0 (kq ≤ k) ∧ Aside0 (Kd.PB false (Kd.int .i64) 3 wc w.heap.size (fun _ => True) (.slice Ao12 t164.length co12) t164) ∧ Aside0 (Below w.heap.size w wc))
    case first =>
      have H := HC7.out
      clear HC7
      by_cases c14 : t167 = t162
      · rw [if_pos c14] at H
        have c14b0 : (t167 == t162) = true := beq_iff_eq.mpr c14
        have c14b1 : (t167 != t162) = false := bne_eq_false_iff_eq.mpr c14
        clear c14
        (first | rw [c14b0] | (simp only [i64_w, i32_w]; rw [c14b0]) | skip)
        have H' := Aside0.mk H
        clear H
        go_wp2
        go_meet
        case rel => exact ⟨_, ((t168 != t163)), (by first | rfl | (simp; done) | (simp [*]; done)), H', ⟨by first | omega | exact Nat.le_refl _⟩, ⟨by (with_reducible repeat (first | apply Kd.PB_alloc | apply Kd.PB_drewN | apply Kd.PB_drew)); exact Kd.PB_mono HO166.out (fun _ hk => trivial)⟩, ⟨by repeat (first | (with_reducible first | exact HB.out | apply below_alloc | apply pw_below_drewN | apply below_drew1) | exact HB.out)⟩⟩
      · rw [if_neg c14] at H
        have c14b0 : (t167 == t162) = false := beq_eq_false_iff_ne.mpr c14
        have c14b1 : (t167 != t162) = true := bne_iff_ne.mpr c14
        (first | rw [c14b0] | (simp only [i64_w, i32_w]; rw [c14b0]) | skip)
        have H' := Aside0.mk H
        clear H
        go_wp2
        go_meet
        case rel => exact ⟨_, (true), (by first | rfl | (simp; done) | (simp [*]; done)), H', ⟨by first | omega | exact Nat.le_refl _⟩, ⟨by (with_reducible repeat (first | apply Kd.PB_alloc | apply Kd.PB_drewN | apply Kd.PB_drew)); exact Kd.PB_mono HO166.out (fun _ hk => trivial)⟩, ⟨by repeat (first | (with_reducible first | exact HB.out | apply below_alloc | apply pw_below_drewN | apply below_drew1) | exact HB.out)⟩⟩
    case rest =>
      clear HC7
      try clear c1
      try clear c2
      try clear c2b0
      try clear c2b1
      try clear p2
      try clear c8
      try clear c14
      try clear c14b0
      try clear c14b1
      obtain ⟨kq, x33_6, rfl, HA, HJ6, HO_5, HB⟩ := hcut
      cases kq with
      | zero => exact absurd HA.out (by simp [laws_FnExactDigitOfMatches.j0])
      | succ kj6 =>
        have H := HA.out
        clear HA
        simp only [laws_FnExactDigitOfMatches.j0] at H
        by_cases c15 : x33_6 = true
        · subst c15
          have H1 : (some false) = some r := by rw [if_pos rfl] at H; exact H
          clear H
          have H := H1
          clear H1
          obtain rfl := Option.some.inj H
          go_wp2
          go_ret
          exact ⟨by first | rfl | (simp [errW_none, errW_some] <;> rfl) | (simp [*, errW_none, errW_some] <;> rfl), by repeat (first | (with_reducible first | exact HB.out | apply below_alloc | apply pw_below_drewN | apply below_drew1) | exact HB.out)⟩
        · replace c15 := Bool.eq_false_iff.mpr c15
          subst c15
          have H1 : ((laws_toIntS.f l0 false).bind fun t169 => ((laws_intactIntS.f t164 t169).bind fun t172 => (if t172 = true then ((laws_toIntS.f l0 true).bind fun t173 => ((impl_DigitOfMatches.f kj6 t173).bind fun bt176 => (if bt176.1 = t162 then (if (bt176.2 != t163) = true then (some false) else (some true)) else (some false)))) else (some false)))) = some r := by rw [if_neg (show ¬ (false = true) by decide)] at H; exact H
          clear H
          have H := H1
          clear H1
          replace H := Option.bind_eq_some_iff.mp H
          obtain ⟨t169, A160, H⟩ := H
          replace H : ((laws_intactIntS.f t164 t169).bind fun t172 => (if t172 = true then ((laws_toIntS.f l0 true).bind fun t173 => ((impl_DigitOfMatches.f kj6 t173).bind fun bt176 => (if bt176.1 = t162 then (if (bt176.2 != t163) = true then (some false) else (some true)) else (some false)))) else (some false))) = some r := H
          have A16 := Aside0.mk A160
          clear A160
          replace H := Option.bind_eq_some_iff.mp H
          obtain ⟨t172, A170, H⟩ := H
          replace H : (if t172 = true then ((laws_toIntS.f l0 true).bind fun t173 => ((impl_DigitOfMatches.f kj6 t173).bind fun bt176 => (if bt176.1 = t162 then (if (bt176.2 != t163) = true then (some false) else (some true)) else (some false)))) else (some false)) = some r := H
          have A17 := Aside0.mk A170
          clear A170
          by_cases c18 : t172 = true
          · subst c18
            have H1 : ((laws_toIntS.f l0 true).bind fun t173 => ((impl_DigitOfMatches.f kj6 t173).bind fun bt176 => (if bt176.1 = t162 then (if (bt176.2 != t163) = true then (some false) else (some true)) else (some false)))) = some r := by rw [if_pos rfl] at H; exact H
            clear H
            have H := H1
            clear H1
            replace H := Option.bind_eq_some_iff.mp H
            obtain ⟨t173, A190, H⟩ := H
            replace H : ((impl_DigitOfMatches.f kj6 t173).bind fun bt176 => (if bt176.1 = t162 then (if (bt176.2 != t163) = true then (some false) else (some true)) else (some false))) = some r := H
            have A19 := Aside0.mk A190
            clear A190
            replace H := Option.bind_eq_some_iff.mp H
            obtain ⟨⟨t176, t177⟩, A200, H⟩ := H
            replace H : (if t176 = t162 then (if (t177 != t163) = true then (some false) else (some true)) else (some false)) = some r := H
            have A20 := Aside0.mk A200
            clear A200
            by_cases c21 : t176 = t162
            · rw [if_pos c21] at H
              have c21b0 : (t176 == t162) = true := beq_iff_eq.mpr c21
              have c21b1 : (t176 != t162) = false := bne_eq_false_iff_eq.mpr c21
              clear c21
              by_cases c22 : (t177 != t163) = true
              · rw [if_pos c22] at H
                have c22b0 : (t177 != t163) = true := c22
                (try (have c22b1 : decide (t177 = t163) = false := by simpa using c22))
                (try (have c22b2 : (t177 == t163) = false := by simpa using c22))
                (try (have c22b3 : ¬ (t177 = t163) := by simpa using c22))
                clear c22
                obtain rfl := Option.some.inj H
                go_wp2_with (first | ((with_reducible refine gate_callee (f := 23) rfl ?_); refine goesL_ (some 36) rfl rfl Tryd.func23 (by kernel_rfl) rfl #[.slice A0 l0.length c0, .bool false] rfl (by (try simp only [List.map_toArray, List.map_cons, List.map_nil]); first | done | rfl | (simp only [List.length_drop, List.length_take]; rfl)) ?_; (with_reducible refine (laws_toIntS.calls _ _ l0 false t169 _ ?side1 ?side2 A16.out).mono ?_); (case side1 => repeat (first | exact (Kd.C_below HR0.out HB.out) | (with_reducible refine Kd.C_alloc ?_ _) | (with_reducible refine Kd.C_drewN ?_ _) | (with_reducible refine Kd.C_drew ?_))); (case side2 => exact HC0.out); rintro e w23 ⟨v170, rfl, ho0, hb⟩; refine ⟨_, rfl, ?_⟩; have n0_ := Aside0.mk (Kd.PB_elder' (by (with_reducible repeat (first | apply Kd.PB_alloc | apply Kd.PB_drewN | apply Kd.PB_drew)); exact HO_5.out) (Kd.PB_base ho0) hb); have n1_ := Aside0.mk (Kd.PB_lower (Kd.PB_new' ho0 (Kd.PB_lt (by (with_reducible repeat (first | apply Kd.PB_alloc | apply Kd.PB_drewN | apply Kd.PB_drew)); exact HO_5.out))) (below_size (by repeat (first | (with_reducible first | exact HB.out | apply below_alloc | apply pw_below_drewN | apply below_drew1) | exact HB.out)))); have n2_ := Aside0.mk (below_step (by repeat (first | (with_reducible first | exact HB.out | apply below_alloc | apply pw_below_drewN | apply below_drew1) | exact HB.out)) hb); clear HO_5; clear HB; have HO_5 := n0_; have HO171 := n1_; have HB := n2_; clear n0_ n1_ n2_; (try clear hb); (try clear hb2); (try clear hk); (try clear hi); (try clear ho0); obtain ⟨Ao24, co24, eo24⟩ := Kd.PB_slice HO171.out; subst eo24) | ((with_reducible refine gate_callee (f := 25) rfl ?_); refine goesL_ (some 37) rfl rfl Tryd.func25 (by kernel_rfl) rfl #[.slice Ao12 t164.length co12, .slice Ao24 t169.length co24] rfl (by (try simp only [List.map_toArray, List.map_cons, List.map_nil]); first | done | rfl | (simp only [List.length_drop, List.length_take]; rfl)) ?_; (with_reducible refine (laws_intactIntS.calls _ _ t164 _ _ t169 true _ ?side1 ?side2 ?side3 ?side4 ?side5 ?side6 A17.out).mono ?_); (case side1 => repeat (first | exact (Kd.PB_reads' HO_5.out).2.2 | (with_reducible refine Kd.C_alloc ?_ _) | (with_reducible refine Kd.C_drewN ?_ _) | (with_reducible refine Kd.C_drew ?_))); (case side2 => exact (Kd.PB_reads' HO_5.out).2.1); (case side3 => repeat (first | exact Kd.PB_sp HO_5.out | (with_reducible refine Kd.Sp_alloc ?_ _) | (with_reducible refine Kd.Sp_drewN ?_ _) | (with_reducible refine Kd.Sp_drew ?_))); (case side4 => repeat (first | exact (Kd.PB_reads' HO171.out).2.2 | (with_reducible refine Kd.C_alloc ?_ _) | (with_reducible refine Kd.C_drewN ?_ _) | (with_reducible refine Kd.C_drew ?_))); (case side5 => exact (Kd.PB_reads' HO171.out).2.1); (case side6 => repeat (first | exact Kd.PB_sp HO171.out | (with_reducible refine Kd.Sp_alloc ?_ _) | (with_reducible refine Kd.Sp_drewN ?_ _) | (with_reducible refine Kd.Sp_drew ?_))); rintro e w' ⟨rfl, ⟨nd, rfl⟩⟩; refine ⟨_, rfl, ?_⟩) | ((with_reducible refine gate_callee (f := 23) rfl ?_); refine goesL_ (some 41) rfl rfl Tryd.func23 (by kernel_rfl) rfl #[.slice A0 l0.length c0, .bool true] rfl (by (try simp only [List.map_toArray, List.map_cons, List.map_nil]); first | done | rfl | (simp only [List.length_drop, List.length_take]; rfl)) ?_; (with_reducible refine (laws_toIntS.calls _ _ l0 true t173 _ ?side1 ?side2 A19.out).mono ?_); (case side1 => repeat (first | exact (Kd.C_below HR0.out (by repeat (first | (with_reducible first | exact HB.out | apply below_alloc | apply pw_below_drewN | apply below_drew1) | exact HB.out))) | (with_reducible refine Kd.C_alloc ?_ _) | (with_reducible refine Kd.C_drewN ?_ _) | (with_reducible refine Kd.C_drew ?_))); (case side2 => exact HC0.out); rintro e w25 ⟨v174, rfl, ho0, hb⟩; refine ⟨_, rfl, ?_⟩; have n0_ := Aside0.mk (Kd.PB_elder' (by (with_reducible repeat (first | apply Kd.PB_alloc | apply Kd.PB_drewN | apply Kd.PB_drew)); exact HO_5.out) (Kd.PB_base ho0) hb); have n1_ := Aside0.mk (Kd.PB_elder' (by (with_reducible repeat (first | apply Kd.PB_alloc | apply Kd.PB_drewN | apply Kd.PB_drew)); exact HO171.out) (Kd.PB_base ho0) hb); have n2_ := Aside0.mk (Kd.PB_lower (Kd.PB_new' (Kd.PB_new' ho0 (Kd.PB_lt (by (with_reducible repeat (first | apply Kd.PB_alloc | apply Kd.PB_drewN | apply Kd.PB_drew)); exact HO_5.out))) (Kd.PB_lt (by (with_reducible repeat (first | apply Kd.PB_alloc | apply Kd.PB_drewN | apply Kd.PB_drew)); exact HO171.out))) (below_size (by repeat (first | (with_reducible first | exact HB.out | apply below_alloc | apply pw_below_drewN | apply below_drew1) | exact HB.out)))); have n3_ := Aside0.mk (below_step (by repeat (first | (with_reducible first | exact HB.out | apply below_alloc | apply pw_below_drewN | apply below_drew1) | exact HB.out)) hb); clear HO_5; clear HO171; clear HB; have HO_5 := n0_; have HO171 := n1_; have HO175 := n2_; have HB := n3_; clear n0_ n1_ n2_ n3_; (try clear hb); (try clear hb2); (try clear hk); (try clear hi); (try clear ho0); obtain ⟨Ao26, co26, eo26⟩ := Kd.PB_slice HO175.out; subst eo26) | ((with_reducible refine gate_callee (f := 24) rfl ?_); refine goesL_ (some 42) rfl rfl Tryd.func24 (by kernel_rfl) rfl #[.slice Ao26 t173.length co26] rfl (by (try simp only [List.map_toArray, List.map_cons, List.map_nil]); first | done | rfl | (simp only [List.length_drop, List.length_take]; rfl)) ?_; (with_reducible refine (impl_DigitOfMatches.calls kj6 _ _ t173 t176 t177 _ ?side1 ?side2 ?side3 A20.out).mono ?_); (case side1 => repeat (first | exact (Kd.PB_reads' HO175.out).2.2 | (with_reducible refine Kd.C_alloc ?_ _) | (with_reducible refine Kd.C_drewN ?_ _) | (with_reducible refine Kd.C_drew ?_))); (case side2 => exact (Kd.PB_reads' HO175.out).2.1); (case side3 => first | exact LaidG_below HG.out (by repeat (first | (with_reducible first | exact HB.out | apply below_alloc | apply pw_below_drewN | apply below_drew1) | exact HB.out)) | (repeat (first | exact HG.out | (with_reducible refine LaidG_alloc ?_ _) | (with_reducible refine LaidG_drewN ?_ _) | (with_reducible refine LaidG_drew ?_)))); rintro e w27 ⟨rfl, hb⟩; refine ⟨_, rfl, ?_⟩; have n0_ := Aside0.mk (Kd.PB_below (by (with_reducible repeat (first | apply Kd.PB_alloc | apply Kd.PB_drewN | apply Kd.PB_drew)); exact HO_5.out) hb); have n1_ := Aside0.mk (Kd.PB_below (by (with_reducible repeat (first | apply Kd.PB_alloc | apply Kd.PB_drewN | apply Kd.PB_drew)); exact HO171.out) hb); have n2_ := Aside0.mk (Kd.PB_below (by (with_reducible repeat (first | apply Kd.PB_alloc | apply Kd.PB_drewN | apply Kd.PB_drew)); exact HO175.out) hb); have n3_ := Aside0.mk (below_step (by repeat (first | (with_reducible first | exact HB.out | apply below_alloc | apply pw_below_drewN | apply below_drew1) | exact HB.out)) hb); clear HO_5; clear HO171; clear HO175; clear HB; have HO_5 := n0_; have HO171 := n1_; have HO175 := n2_; have HB := n3_; clear n0_ n1_ n2_ n3_; (try clear hb); (try clear hb2); (try clear hk); (try clear hi)))
                go_ret
                exact ⟨by first | rfl | (simp [errW_none, errW_some] <;> rfl) | (simp [*, errW_none, errW_some] <;> rfl), by repeat (first | (with_reducible first | exact HB.out | apply below_alloc | apply pw_below_drewN | apply below_drew1) | exact HB.out)⟩
              · rw [if_neg c22] at H
                have c22b0 : (t177 != t163) = false := by simpa using c22
                (try (have c22b1 : decide (t177 = t163) = true := by simpa using c22))
                (try (have c22b2 : (t177 == t163) = true := by simpa using c22))
                clear c22
                obtain rfl := Option.some.inj H
                go_wp2_with (first | ((with_reducible refine gate_callee (f := 23) rfl ?_); refine goesL_ (some 36) rfl rfl Tryd.func23 (by kernel_rfl) rfl #[.slice A0 l0.length c0, .bool false] rfl (by (try simp only [List.map_toArray, List.map_cons, List.map_nil]); first | done | rfl | (simp only [List.length_drop, List.length_take]; rfl)) ?_; (with_reducible refine (laws_toIntS.calls _ _ l0 false t169 _ ?side1 ?side2 A16.out).mono ?_); (case side1 => repeat (first | exact (Kd.C_below HR0.out HB.out) | (with_reducible refine Kd.C_alloc ?_ _) | (with_reducible refine Kd.C_drewN ?_ _) | (with_reducible refine Kd.C_drew ?_))); (case side2 => exact HC0.out); rintro e w28 ⟨v170, rfl, ho0, hb⟩; refine ⟨_, rfl, ?_⟩; have n0_ := Aside0.mk (Kd.PB_elder' (by (with_reducible repeat (first | apply Kd.PB_alloc | apply Kd.PB_drewN | apply Kd.PB_drew)); exact HO_5.out) (Kd.PB_base ho0) hb); have n1_ := Aside0.mk (Kd.PB_lower (Kd.PB_new' ho0 (Kd.PB_lt (by (with_reducible repeat (first | apply Kd.PB_alloc | apply Kd.PB_drewN | apply Kd.PB_drew)); exact HO_5.out))) (below_size (by repeat (first | (with_reducible first | exact HB.out | apply below_alloc | apply pw_below_drewN | apply below_drew1) | exact HB.out)))); have n2_ := Aside0.mk (below_step (by repeat (first | (with_reducible first | exact HB.out | apply below_alloc | apply pw_below_drewN | apply below_drew1) | exact HB.out)) hb); clear HO_5; clear HB; have HO_5 := n0_; have HO171 := n1_; have HB := n2_; clear n0_ n1_ n2_; (try clear hb); (try clear hb2); (try clear hk); (try clear hi); (try clear ho0); obtain ⟨Ao29, co29, eo29⟩ := Kd.PB_slice HO171.out; subst eo29) | ((with_reducible refine gate_callee (f := 25) rfl ?_); refine goesL_ (some 37) rfl rfl Tryd.func25 (by kernel_rfl) rfl #[.slice Ao12 t164.length co12, .slice Ao29 t169.length co29] rfl (by (try simp only [List.map_toArray, List.map_cons, List.map_nil]); first | done | rfl | (simp only [List.length_drop, List.length_take]; rfl)) ?_; (with_reducible refine (laws_intactIntS.calls _ _ t164 _ _ t169 true _ ?side1 ?side2 ?side3 ?side4 ?side5 ?side6 A17.out).mono ?_); (case side1 => repeat (first | exact (Kd.PB_reads' HO_5.out).2.2 | (with_reducible refine Kd.C_alloc ?_ _) | (with_reducible refine Kd.C_drewN ?_ _) | (with_reducible refine Kd.C_drew ?_))); (case side2 => exact (Kd.PB_reads' HO_5.out).2.1); (case side3 => repeat (first | exact Kd.PB_sp HO_5.out | (with_reducible refine Kd.Sp_alloc ?_ _) | (with_reducible refine Kd.Sp_drewN ?_ _) | (with_reducible refine Kd.Sp_drew ?_))); (case side4 => repeat (first | exact (Kd.PB_reads' HO171.out).2.2 | (with_reducible refine Kd.C_alloc ?_ _) | (with_reducible refine Kd.C_drewN ?_ _) | (with_reducible refine Kd.C_drew ?_))); (case side5 => exact (Kd.PB_reads' HO171.out).2.1); (case side6 => repeat (first | exact Kd.PB_sp HO171.out | (with_reducible refine Kd.Sp_alloc ?_ _) | (with_reducible refine Kd.Sp_drewN ?_ _) | (with_reducible refine Kd.Sp_drew ?_))); rintro e w' ⟨rfl, ⟨nd, rfl⟩⟩; refine ⟨_, rfl, ?_⟩) | ((with_reducible refine gate_callee (f := 23) rfl ?_); refine goesL_ (some 41) rfl rfl Tryd.func23 (by kernel_rfl) rfl #[.slice A0 l0.length c0, .bool true] rfl (by (try simp only [List.map_toArray, List.map_cons, List.map_nil]); first | done | rfl | (simp only [List.length_drop, List.length_take]; rfl)) ?_; (with_reducible refine (laws_toIntS.calls _ _ l0 true t173 _ ?side1 ?side2 A19.out).mono ?_); (case side1 => repeat (first | exact (Kd.C_below HR0.out (by repeat (first | (with_reducible first | exact HB.out | apply below_alloc | apply pw_below_drewN | apply below_drew1) | exact HB.out))) | (with_reducible refine Kd.C_alloc ?_ _) | (with_reducible refine Kd.C_drewN ?_ _) | (with_reducible refine Kd.C_drew ?_))); (case side2 => exact HC0.out); rintro e w30 ⟨v174, rfl, ho0, hb⟩; refine ⟨_, rfl, ?_⟩; have n0_ := Aside0.mk (Kd.PB_elder' (by (with_reducible repeat (first | apply Kd.PB_alloc | apply Kd.PB_drewN | apply Kd.PB_drew)); exact HO_5.out) (Kd.PB_base ho0) hb); have n1_ := Aside0.mk (Kd.PB_elder' (by (with_reducible repeat (first | apply Kd.PB_alloc | apply Kd.PB_drewN | apply Kd.PB_drew)); exact HO171.out) (Kd.PB_base ho0) hb); have n2_ := Aside0.mk (Kd.PB_lower (Kd.PB_new' (Kd.PB_new' ho0 (Kd.PB_lt (by (with_reducible repeat (first | apply Kd.PB_alloc | apply Kd.PB_drewN | apply Kd.PB_drew)); exact HO_5.out))) (Kd.PB_lt (by (with_reducible repeat (first | apply Kd.PB_alloc | apply Kd.PB_drewN | apply Kd.PB_drew)); exact HO171.out))) (below_size (by repeat (first | (with_reducible first | exact HB.out | apply below_alloc | apply pw_below_drewN | apply below_drew1) | exact HB.out)))); have n3_ := Aside0.mk (below_step (by repeat (first | (with_reducible first | exact HB.out | apply below_alloc | apply pw_below_drewN | apply below_drew1) | exact HB.out)) hb); clear HO_5; clear HO171; clear HB; have HO_5 := n0_; have HO171 := n1_; have HO175 := n2_; have HB := n3_; clear n0_ n1_ n2_ n3_; (try clear hb); (try clear hb2); (try clear hk); (try clear hi); (try clear ho0); obtain ⟨Ao31, co31, eo31⟩ := Kd.PB_slice HO175.out; subst eo31) | ((with_reducible refine gate_callee (f := 24) rfl ?_); refine goesL_ (some 42) rfl rfl Tryd.func24 (by kernel_rfl) rfl #[.slice Ao31 t173.length co31] rfl (by (try simp only [List.map_toArray, List.map_cons, List.map_nil]); first | done | rfl | (simp only [List.length_drop, List.length_take]; rfl)) ?_; (with_reducible refine (impl_DigitOfMatches.calls kj6 _ _ t173 t176 t177 _ ?side1 ?side2 ?side3 A20.out).mono ?_); (case side1 => repeat (first | exact (Kd.PB_reads' HO175.out).2.2 | (with_reducible refine Kd.C_alloc ?_ _) | (with_reducible refine Kd.C_drewN ?_ _) | (with_reducible refine Kd.C_drew ?_))); (case side2 => exact (Kd.PB_reads' HO175.out).2.1); (case side3 => first | exact LaidG_below HG.out (by repeat (first | (with_reducible first | exact HB.out | apply below_alloc | apply pw_below_drewN | apply below_drew1) | exact HB.out)) | (repeat (first | exact HG.out | (with_reducible refine LaidG_alloc ?_ _) | (with_reducible refine LaidG_drewN ?_ _) | (with_reducible refine LaidG_drew ?_)))); rintro e w32 ⟨rfl, hb⟩; refine ⟨_, rfl, ?_⟩; have n0_ := Aside0.mk (Kd.PB_below (by (with_reducible repeat (first | apply Kd.PB_alloc | apply Kd.PB_drewN | apply Kd.PB_drew)); exact HO_5.out) hb); have n1_ := Aside0.mk (Kd.PB_below (by (with_reducible repeat (first | apply Kd.PB_alloc | apply Kd.PB_drewN | apply Kd.PB_drew)); exact HO171.out) hb); have n2_ := Aside0.mk (Kd.PB_below (by (with_reducible repeat (first | apply Kd.PB_alloc | apply Kd.PB_drewN | apply Kd.PB_drew)); exact HO175.out) hb); have n3_ := Aside0.mk (below_step (by repeat (first | (with_reducible first | exact HB.out | apply below_alloc | apply pw_below_drewN | apply below_drew1) | exact HB.out)) hb); clear HO_5; clear HO171; clear HO175; clear HB; have HO_5 := n0_; have HO171 := n1_; have HO175 := n2_; have HB := n3_; clear n0_ n1_ n2_ n3_; (try clear hb); (try clear hb2); (try clear hk); (try clear hi)))
                go_ret
                exact ⟨by first | rfl | (simp [errW_none, errW_some] <;> rfl) | (simp [*, errW_none, errW_some] <;> rfl), by repeat (first | (with_reducible first | exact HB.out | apply below_alloc | apply pw_below_drewN | apply below_drew1) | exact HB.out)⟩
            · rw [if_neg c21] at H
              have c21b0 : (t176 == t162) = false := beq_eq_false_iff_ne.mpr c21
              have c21b1 : (t176 != t162) = true := bne_iff_ne.mpr c21
              obtain rfl := Option.some.inj H
              go_wp2_with (first | ((with_reducible refine gate_callee (f := 23) rfl ?_); refine goesL_ (some 36) rfl rfl Tryd.func23 (by kernel_rfl) rfl #[.slice A0 l0.length c0, .bool false] rfl (by (try simp only [List.map_toArray, List.map_cons, List.map_nil]); first | done | rfl | (simp only [List.length_drop, List.length_take]; rfl)) ?_; (with_reducible refine (laws_toIntS.calls _ _ l0 false t169 _ ?side1 ?side2 A16.out).mono ?_); (case side1 => repeat (first | exact (Kd.C_below HR0.out HB.out) | (with_reducible refine Kd.C_alloc ?_ _) | (with_reducible refine Kd.C_drewN ?_ _) | (with_reducible refine Kd.C_drew ?_))); (case side2 => exact HC0.out); rintro e w33 ⟨v170, rfl, ho0, hb⟩; refine ⟨_, rfl, ?_⟩; have n0_ := Aside0.mk (Kd.PB_elder' (by (with_reducible repeat (first | apply Kd.PB_alloc | apply Kd.PB_drewN | apply Kd.PB_drew)); exact HO_5.out) (Kd.PB_base ho0) hb); have n1_ := Aside0.mk (Kd.PB_lower (Kd.PB_new' ho0 (Kd.PB_lt (by (with_reducible repeat (first | apply Kd.PB_alloc | apply Kd.PB_drewN | apply Kd.PB_drew)); exact HO_5.out))) (below_size (by repeat (first | (with_reducible first | exact HB.out | apply below_alloc | apply pw_below_drewN | apply below_drew1) | exact HB.out)))); have n2_ := Aside0.mk (below_step (by repeat (first | (with_reducible first | exact HB.out | apply below_alloc | apply pw_below_drewN | apply below_drew1) | exact HB.out)) hb); clear HO_5; clear HB; have HO_5 := n0_; have HO171 := n1_; have HB := n2_; clear n0_ n1_ n2_; (try clear hb); (try clear hb2); (try clear hk); (try clear hi); (try clear ho0); obtain ⟨Ao34, co34, eo34⟩ := Kd.PB_slice HO171.out; subst eo34) | ((with_reducible refine gate_callee (f := 25) rfl ?_); refine goesL_ (some 37) rfl rfl Tryd.func25 (by kernel_rfl) rfl #[.slice Ao12 t164.length co12, .slice Ao34 t169.length co34] rfl (by (try simp only [List.map_toArray, List.map_cons, List.map_nil]); first | done | rfl | (simp only [List.length_drop, List.length_take]; rfl)) ?_; (with_reducible refine (laws_intactIntS.calls _ _ t164 _ _ t169 true _ ?side1 ?side2 ?side3 ?side4 ?side5 ?side6 A17.out).mono ?_); (case side1 => repeat (first | exact (Kd.PB_reads' HO_5.out).2.2 | (with_reducible refine Kd.C_alloc ?_ _) | (with_reducible refine Kd.C_drewN ?_ _) | (with_reducible refine Kd.C_drew ?_))); (case side2 => exact (Kd.PB_reads' HO_5.out).2.1); (case side3 => repeat (first | exact Kd.PB_sp HO_5.out | (with_reducible refine Kd.Sp_alloc ?_ _) | (with_reducible refine Kd.Sp_drewN ?_ _) | (with_reducible refine Kd.Sp_drew ?_))); (case side4 => repeat (first | exact (Kd.PB_reads' HO171.out).2.2 | (with_reducible refine Kd.C_alloc ?_ _) | (with_reducible refine Kd.C_drewN ?_ _) | (with_reducible refine Kd.C_drew ?_))); (case side5 => exact (Kd.PB_reads' HO171.out).2.1); (case side6 => repeat (first | exact Kd.PB_sp HO171.out | (with_reducible refine Kd.Sp_alloc ?_ _) | (with_reducible refine Kd.Sp_drewN ?_ _) | (with_reducible refine Kd.Sp_drew ?_))); rintro e w' ⟨rfl, ⟨nd, rfl⟩⟩; refine ⟨_, rfl, ?_⟩) | ((with_reducible refine gate_callee (f := 23) rfl ?_); refine goesL_ (some 41) rfl rfl Tryd.func23 (by kernel_rfl) rfl #[.slice A0 l0.length c0, .bool true] rfl (by (try simp only [List.map_toArray, List.map_cons, List.map_nil]); first | done | rfl | (simp only [List.length_drop, List.length_take]; rfl)) ?_; (with_reducible refine (laws_toIntS.calls _ _ l0 true t173 _ ?side1 ?side2 A19.out).mono ?_); (case side1 => repeat (first | exact (Kd.C_below HR0.out (by repeat (first | (with_reducible first | exact HB.out | apply below_alloc | apply pw_below_drewN | apply below_drew1) | exact HB.out))) | (with_reducible refine Kd.C_alloc ?_ _) | (with_reducible refine Kd.C_drewN ?_ _) | (with_reducible refine Kd.C_drew ?_))); (case side2 => exact HC0.out); rintro e w35 ⟨v174, rfl, ho0, hb⟩; refine ⟨_, rfl, ?_⟩; have n0_ := Aside0.mk (Kd.PB_elder' (by (with_reducible repeat (first | apply Kd.PB_alloc | apply Kd.PB_drewN | apply Kd.PB_drew)); exact HO_5.out) (Kd.PB_base ho0) hb); have n1_ := Aside0.mk (Kd.PB_elder' (by (with_reducible repeat (first | apply Kd.PB_alloc | apply Kd.PB_drewN | apply Kd.PB_drew)); exact HO171.out) (Kd.PB_base ho0) hb); have n2_ := Aside0.mk (Kd.PB_lower (Kd.PB_new' (Kd.PB_new' ho0 (Kd.PB_lt (by (with_reducible repeat (first | apply Kd.PB_alloc | apply Kd.PB_drewN | apply Kd.PB_drew)); exact HO_5.out))) (Kd.PB_lt (by (with_reducible repeat (first | apply Kd.PB_alloc | apply Kd.PB_drewN | apply Kd.PB_drew)); exact HO171.out))) (below_size (by repeat (first | (with_reducible first | exact HB.out | apply below_alloc | apply pw_below_drewN | apply below_drew1) | exact HB.out)))); have n3_ := Aside0.mk (below_step (by repeat (first | (with_reducible first | exact HB.out | apply below_alloc | apply pw_below_drewN | apply below_drew1) | exact HB.out)) hb); clear HO_5; clear HO171; clear HB; have HO_5 := n0_; have HO171 := n1_; have HO175 := n2_; have HB := n3_; clear n0_ n1_ n2_ n3_; (try clear hb); (try clear hb2); (try clear hk); (try clear hi); (try clear ho0); obtain ⟨Ao36, co36, eo36⟩ := Kd.PB_slice HO175.out; subst eo36) | ((with_reducible refine gate_callee (f := 24) rfl ?_); refine goesL_ (some 42) rfl rfl Tryd.func24 (by kernel_rfl) rfl #[.slice Ao36 t173.length co36] rfl (by (try simp only [List.map_toArray, List.map_cons, List.map_nil]); first | done | rfl | (simp only [List.length_drop, List.length_take]; rfl)) ?_; (with_reducible refine (impl_DigitOfMatches.calls kj6 _ _ t173 t176 t177 _ ?side1 ?side2 ?side3 A20.out).mono ?_); (case side1 => repeat (first | exact (Kd.PB_reads' HO175.out).2.2 | (with_reducible refine Kd.C_alloc ?_ _) | (with_reducible refine Kd.C_drewN ?_ _) | (with_reducible refine Kd.C_drew ?_))); (case side2 => exact (Kd.PB_reads' HO175.out).2.1); (case side3 => first | exact LaidG_below HG.out (by repeat (first | (with_reducible first | exact HB.out | apply below_alloc | apply pw_below_drewN | apply below_drew1) | exact HB.out)) | (repeat (first | exact HG.out | (with_reducible refine LaidG_alloc ?_ _) | (with_reducible refine LaidG_drewN ?_ _) | (with_reducible refine LaidG_drew ?_)))); rintro e w37 ⟨rfl, hb⟩; refine ⟨_, rfl, ?_⟩; have n0_ := Aside0.mk (Kd.PB_below (by (with_reducible repeat (first | apply Kd.PB_alloc | apply Kd.PB_drewN | apply Kd.PB_drew)); exact HO_5.out) hb); have n1_ := Aside0.mk (Kd.PB_below (by (with_reducible repeat (first | apply Kd.PB_alloc | apply Kd.PB_drewN | apply Kd.PB_drew)); exact HO171.out) hb); have n2_ := Aside0.mk (Kd.PB_below (by (with_reducible repeat (first | apply Kd.PB_alloc | apply Kd.PB_drewN | apply Kd.PB_drew)); exact HO175.out) hb); have n3_ := Aside0.mk (below_step (by repeat (first | (with_reducible first | exact HB.out | apply below_alloc | apply pw_below_drewN | apply below_drew1) | exact HB.out)) hb); clear HO_5; clear HO171; clear HO175; clear HB; have HO_5 := n0_; have HO171 := n1_; have HO175 := n2_; have HB := n3_; clear n0_ n1_ n2_ n3_; (try clear hb); (try clear hb2); (try clear hk); (try clear hi)))
              go_ret
              exact ⟨by first | rfl | (simp [errW_none, errW_some] <;> rfl) | (simp [*, errW_none, errW_some] <;> rfl), by repeat (first | (with_reducible first | exact HB.out | apply below_alloc | apply pw_below_drewN | apply below_drew1) | exact HB.out)⟩
          · replace c18 := Bool.eq_false_iff.mpr c18
            subst c18
            have H1 : (some false) = some r := by rw [if_neg (show ¬ (false = true) by decide)] at H; exact H
            clear H
            have H := H1
            clear H1
            obtain rfl := Option.some.inj H
            go_wp2_with (first | ((with_reducible refine gate_callee (f := 23) rfl ?_); refine goesL_ (some 36) rfl rfl Tryd.func23 (by kernel_rfl) rfl #[.slice A0 l0.length c0, .bool false] rfl (by (try simp only [List.map_toArray, List.map_cons, List.map_nil]); first | done | rfl | (simp only [List.length_drop, List.length_take]; rfl)) ?_; (with_reducible refine (laws_toIntS.calls _ _ l0 false t169 _ ?side1 ?side2 A16.out).mono ?_); (case side1 => repeat (first | exact (Kd.C_below HR0.out HB.out) | (with_reducible refine Kd.C_alloc ?_ _) | (with_reducible refine Kd.C_drewN ?_ _) | (with_reducible refine Kd.C_drew ?_))); (case side2 => exact HC0.out); rintro e w38 ⟨v170, rfl, ho0, hb⟩; refine ⟨_, rfl, ?_⟩; have n0_ := Aside0.mk (Kd.PB_elder' (by (with_reducible repeat (first | apply Kd.PB_alloc | apply Kd.PB_drewN | apply Kd.PB_drew)); exact HO_5.out) (Kd.PB_base ho0) hb); have n1_ := Aside0.mk (Kd.PB_lower (Kd.PB_new' ho0 (Kd.PB_lt (by (with_reducible repeat (first | apply Kd.PB_alloc | apply Kd.PB_drewN | apply Kd.PB_drew)); exact HO_5.out))) (below_size (by repeat (first | (with_reducible first | exact HB.out | apply below_alloc | apply pw_below_drewN | apply below_drew1) | exact HB.out)))); have n2_ := Aside0.mk (below_step (by repeat (first | (with_reducible first | exact HB.out | apply below_alloc | apply pw_below_drewN | apply below_drew1) | exact HB.out)) hb); clear HO_5; clear HB; have HO_5 := n0_; have HO171 := n1_; have HB := n2_; clear n0_ n1_ n2_; (try clear hb); (try clear hb2); (try clear hk); (try clear hi); (try clear ho0); obtain ⟨Ao39, co39, eo39⟩ := Kd.PB_slice HO171.out; subst eo39) | ((with_reducible refine gate_callee (f := 25) rfl ?_); refine goesL_ (some 37) rfl rfl Tryd.func25 (by kernel_rfl) rfl #[.slice Ao12 t164.length co12, .slice Ao39 t169.length co39] rfl (by (try simp only [List.map_toArray, List.map_cons, List.map_nil]); first | done | rfl | (simp only [List.length_drop, List.length_take]; rfl)) ?_; (with_reducible refine (laws_intactIntS.calls _ _ t164 _ _ t169 false _ ?side1 ?side2 ?side3 ?side4 ?side5 ?side6 A17.out).mono ?_); (case side1 => repeat (first | exact (Kd.PB_reads' HO_5.out).2.2 | (with_reducible refine Kd.C_alloc ?_ _) | (with_reducible refine Kd.C_drewN ?_ _) | (with_reducible refine Kd.C_drew ?_))); (case side2 => exact (Kd.PB_reads' HO_5.out).2.1); (case side3 => repeat (first | exact Kd.PB_sp HO_5.out | (with_reducible refine Kd.Sp_alloc ?_ _) | (with_reducible refine Kd.Sp_drewN ?_ _) | (with_reducible refine Kd.Sp_drew ?_))); (case side4 => repeat (first | exact (Kd.PB_reads' HO171.out).2.2 | (with_reducible refine Kd.C_alloc ?_ _) | (with_reducible refine Kd.C_drewN ?_ _) | (with_reducible refine Kd.C_drew ?_))); (case side5 => exact (Kd.PB_reads' HO171.out).2.1); (case side6 => repeat (first | exact Kd.PB_sp HO171.out | (with_reducible refine Kd.Sp_alloc ?_ _) | (with_reducible refine Kd.Sp_drewN ?_ _) | (with_reducible refine Kd.Sp_drew ?_))); rintro e w' ⟨rfl, ⟨nd, rfl⟩⟩; refine ⟨_, rfl, ?_⟩))
            go_ret
            exact ⟨by first | rfl | (simp [errW_none, errW_some] <;> rfl) | (simp [*, errW_none, errW_some] <;> rfl), by repeat (first | (with_reducible first | exact HB.out | apply below_alloc | apply pw_below_drewN | apply below_drew1) | exact HB.out)⟩

/-- THE ONE PURE STATEMENT of laws_FnExactDigitOfMatches. -/
def laws_FnExactDigitOfMatches.Pure : Prop := ∀ (l0 : List Int), l0.length ≤ maxLen → (∀ x ∈ l0, (Lit.int .i64 x).wf = true) → ∃ k, laws_FnExactDigitOfMatches.f k l0 = some true

end Go.Proofs.YtdnfmkgcglgdiaaDoor.Q
