-- written by a program of this session, pm.py, for this claim
-- half the indentation
import Derived.Test.YtfnnilmkmlmleaaDoorQFnExactMatchesOfEquationx0
import Derived.Test.YtfnnilmkmlmleaaDoorQFnExactMatchesOfEquationx2
import Derived.Test.YtfnnilmkmlmleaaDoorQFnExactMatchesOfEquationx3
namespace Go.Proofs.YtfnnilmkmlmleaaDoor.Q
open Go.RowKit Go.Proofs.YtfnnilmkmlmleaaDoorW.PrintWords Go.Proofs.YtfnnilmkmlmleaaDoorW.PrintLast Go.Proofs.YtfnnilmkmlmleaaDoorW.PrintMore
attribute [local go_sem] max2_int min2_int max_two min_two max_three min_three max_four min_four   -- for this text's walks alone
set_option linter.unusedVariables false
set_option linter.unusedSimpArgs false

/-! ### laws_FnExactMatchesOfEquation: function 6 -/
def laws_FnExactMatchesOfEquation.f (k : Nat) (a0 : ByteArray) : Option (Bool) := if (a0.size : Int) > 1000000 then (some true) else ((spec_MatchesOfEquation.f k a0).bind fun bt160 => ((impl_MatchesOfEquation.f a0).bind fun bt162 => (if bt162.1 = bt160.1 then (if (bt162.2 != bt160.2) = true then (some false) else (some true)) else (some false))))
theorem laws_FnExactMatchesOfEquation.mono : ∀ a0 k, LeO (laws_FnExactMatchesOfEquation.f k a0) (laws_FnExactMatchesOfEquation.f (k + 1) a0) := by
 intro a0 k
 unfold laws_FnExactMatchesOfEquation.f
 repeat' first
   | (with_reducible exact spec_MatchesOfEquation.mono _ _)
   | (with_reducible exact LeO.refl _)
   | (with_reducible exact LeO.none _)
   | (with_reducible refine LeO.ite ?_ ?_)
   | (with_reducible refine LeO.bind ?_ (fun _ => ?_))
   | exact spec_MatchesOfEquation.mono _ _
   | exact LeO.none _
   | refine LeO.ite ?_ ?_
   | refine LeO.bind ?_ (fun _ => ?_)
set_option maxHeartbeats 8000000 in
set_option maxRecDepth 100000 in
theorem laws_FnExactMatchesOfEquation.calls (k : Nat) (a0 : ByteArray) (r : Bool) (w : World) (hG : LaidG w) (hr_ : r = true) (h : laws_FnExactMatchesOfEquation.f k a0 = some r) :
  Calls Tryd.prog 6 #[.string a0] w fun e w' => e = .returned (.bool r) ∧ Below w.heap.size w w' := by
 have HG := Aside0.mk hG
 clear hG
 have HR_ := Aside0.mk hr_
 clear hr_
 have HB := Aside0.mk (Below.refl w.heap.size w)
 have H : (if (a0.size : Int) > 1000000 then (some true) else ((spec_MatchesOfEquation.f k a0).bind fun bt160 => ((impl_MatchesOfEquation.f a0).bind fun bt162 => (if bt162.1 = bt160.1 then (if (bt162.2 != bt160.2) = true then (some false) else (some true)) else (some false))))) = some r := h
 clear h
 by_cases c2 : (a0.size : Int) > 1000000
 ·rw [if_pos c2] at H
  have c2b0 : decide (1000000 < (a0.size : Int)) = true := decide_eq_true c2
  have c2b1 : decide (1000000 < a0.size) = true := decide_eq_true (by omega)
  clear c2
  obtain rfl := Option.some.inj H
  go_enter Tryd.func6, Tryd.ntmps6
  go_wp2
  go_ret
  exact ⟨by first | rfl | (simp [errW_none, errW_some] <;> rfl) | (simp [*, errW_none, errW_some] <;> rfl), by repeat (first | (with_reducible first | exact HB.out | apply below_alloc | apply pw_below_drewN | apply below_drew1) | exact HB.out)⟩
 ·rw [if_neg c2] at H
  have c2b0 : decide (1000000 < (a0.size : Int)) = false := decide_eq_false c2
  have c2b1 : decide (1000000 < a0.size) = false := decide_eq_false (by omega)
  clear c2
  replace H := Option.bind_eq_some_iff.mp H
  obtain ⟨⟨t160, t161⟩, A30, H⟩ := H
  replace H : ((impl_MatchesOfEquation.f a0).bind fun bt162 => (if bt162.1 = t160 then (if (bt162.2 != t161) = true then (some false) else (some true)) else (some false))) = some r := H
  have A3 := Aside0.mk A30
  clear A30
  replace H := Option.bind_eq_some_iff.mp H
  obtain ⟨⟨t162, t163⟩, A40, H⟩ := H
  replace H : (if t162 = t160 then (if (t163 != t161) = true then (some false) else (some true)) else (some false)) = some r := H
  have A4 := Aside0.mk A40
  clear A40
  by_cases c5 : t162 = t160
  ·rw [if_pos c5] at H
   have c5b0 : (t162 == t160) = true := beq_iff_eq.mpr c5
   have c5b1 : (t162 != t160) = false := bne_eq_false_iff_eq.mpr c5
   clear c5
   by_cases c6 : (t163 != t161) = true
   ·rw [if_pos c6] at H
    have c6b0 : (t163 != t161) = true := c6
    (try (have c6b1 : decide (t163 = t161) = false := by simpa using c6))
    (try (have c6b2 : (t163 == t161) = false := by simpa using c6))
    (try (have c6b3 : ¬ (t163 = t161) := by simpa using c6))
    clear c6
    exact absurd ((Option.some.inj H).trans HR_.out) Bool.false_ne_true
   ·rw [if_neg c6] at H
    have c6b0 : (t163 != t161) = false := by simpa using c6
    (try (have c6b1 : decide (t163 = t161) = true := by simpa using c6))
    (try (have c6b2 : (t163 == t161) = true := by simpa using c6))
    clear c6
    obtain rfl := Option.some.inj H
    go_enter Tryd.func6, Tryd.ntmps6
    go_wp2_with (first | ((with_reducible refine gate_callee (f := 16) rfl ?_); refine goesL_ (some 12) rfl rfl Tryd.func16 (by kernel_rfl) rfl #[.string a0] rfl (by (try simp only [List.map_toArray, List.map_cons, List.map_nil]); first | done | rfl | (simp only [List.length_drop, List.length_take]; rfl)) ?_; (with_reducible refine (spec_MatchesOfEquation.calls k a0 t160 t161 _ A3.out).mono ?_); rintro e w7 ⟨rfl, hb⟩; refine ⟨_, rfl, ?_⟩; have n0_ := Aside0.mk (below_step (by repeat (first | (with_reducible first | exact HB.out | apply below_alloc | apply pw_below_drewN | apply below_drew1) | exact HB.out)) hb); clear HB; have HB := n0_; clear n0_; (try clear hb); (try clear hb2); (try clear hk); (try clear hi)) | ((with_reducible refine gate_callee (f := 17) rfl ?_); refine goesL_ (some 17) rfl rfl Tryd.func17 (by kernel_rfl) rfl #[.string a0] rfl (by (try simp only [List.map_toArray, List.map_cons, List.map_nil]); first | done | rfl | (simp only [List.length_drop, List.length_take]; rfl)) ?_; (with_reducible refine (impl_MatchesOfEquation.calls a0 t162 t163 _ ?side1 A4.out).mono ?_); (case side1 => first | exact LaidG_below HG.out (by repeat (first | (with_reducible first | exact HB.out | apply below_alloc | apply pw_below_drewN | apply below_drew1) | exact HB.out)) | (repeat (first | exact HG.out | (with_reducible refine LaidG_alloc ?_ _) | (with_reducible refine LaidG_drewN ?_ _) | (with_reducible refine LaidG_drew ?_)))); rintro e w8 ⟨rfl, hb⟩; refine ⟨_, rfl, ?_⟩; have n0_ := Aside0.mk (below_step (by repeat (first | (with_reducible first | exact HB.out | apply below_alloc | apply pw_below_drewN | apply below_drew1) | exact HB.out)) hb); clear HB; have HB := n0_; clear n0_; (try clear hb); (try clear hb2); (try clear hk); (try clear hi)))
    go_ret
    exact ⟨by first | rfl | (simp [errW_none, errW_some] <;> rfl) | (simp [*, errW_none, errW_some] <;> rfl), by repeat (first | (with_reducible first | exact HB.out | apply below_alloc | apply pw_below_drewN | apply below_drew1) | exact HB.out)⟩
  ·rw [if_neg c5] at H
   have c5b0 : (t162 == t160) = false := beq_eq_false_iff_ne.mpr c5
   have c5b1 : (t162 != t160) = true := bne_iff_ne.mpr c5
   exact absurd ((Option.some.inj H).trans HR_.out) Bool.false_ne_true

/-- THE ONE PURE STATEMENT of laws_FnExactMatchesOfEquation. -/
def laws_FnExactMatchesOfEquation.Pure : Prop := ∀ (a0 : ByteArray), a0.size ≤ 140737488351232 → ∃ k, laws_FnExactMatchesOfEquation.f k a0 = some true

end Go.Proofs.YtfnnilmkmlmleaaDoor.Q
