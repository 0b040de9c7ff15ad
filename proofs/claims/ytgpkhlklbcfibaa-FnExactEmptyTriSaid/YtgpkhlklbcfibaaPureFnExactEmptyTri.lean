/- Proved here: EmptyTri and its reference answer the same for every integer, and what it returns is memory of its own. Condition: the argument is a 64 bit integer. -/
import Derived.Test.YtgpkhlklbcfibaaPFnExactEmptyTrix2
namespace Go.Proofs.Ytgpkhlklbcfibaa.Pure
open Go.RowKit Go.Proofs.Ytgpkhlklbcfibaa.PFnExactEmptyTri Go.Proofs.YtgpkhlklbcfibaaW.PrintWords Go.Proofs.YtgpkhlklbcfibaaW.PrintLast

theorem FnExactEmptyTri : laws_FnExactEmptyTri.Pure := by
  intro a _
  by_cases h : 1 ≤ a ∧ a ≤ 5
  · obtain ⟨h1, h5⟩ := h
    refine ⟨20, ?_⟩
    obtain rfl | rfl | rfl | rfl | rfl : a = 1 ∨ a = 2 ∨ a = 3 ∨ a = 4 ∨ a = 5 := by omega
    all_goals decide +kernel
  · have hs : spec_EmptyTri.f a = some (0, [], false) := by
      have e : spec_l1In.f a 1 5 = some false := by
        unfold spec_l1In.f
        by_cases h1 : a ≥ 1
        · rw [if_pos h1, decide_eq_false (by omega)]
        · rw [if_neg h1]
      simp [spec_EmptyTri.f, e]
    have hi : impl_EmptyTri.f a = some (0, [], false) := by
      have e : impl_within.f a 1 5 = some false := by
        unfold impl_within.f
        by_cases h1 : 1 ≤ a
        · rw [if_pos h1, decide_eq_false (by omega)]
        · rw [if_neg h1]
      simp [impl_EmptyTri.f, impl_isLevel.f, e]
    refine ⟨20, ?_⟩
    unfold laws_FnExactEmptyTri.f
    simp only [hs, Option.bind_some]
    rw [hi]
    simp only [Option.bind_some, laws_FnExactEmptyTri.j0, laws_FnExactEmptyTri.j1, hi]
    decide +kernel

end Go.Proofs.Ytgpkhlklbcfibaa.Pure
