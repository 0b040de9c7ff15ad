/- Proved here: CountInFull and its reference answer the same for all pairs of integers. Condition: both are 64 bit integers. -/
import Derived.Test.YtgpkhlklbcfibaaPFnExactCountInFullx3
namespace Go.Proofs.Ytgpkhlklbcfibaa.Pure
open Go.RowKit Go.Proofs.Ytgpkhlklbcfibaa.PFnExactCountInFull Go.Proofs.YtgpkhlklbcfibaaW.PrintWords Go.Proofs.YtgpkhlklbcfibaaW.PrintLast

theorem grid_tells (a b : Int) : (1 ≤ a ∧ a ≤ 4 ∧ 1 ≤ b ∧ b ≤ 4) ∨ (spec_fiGrid.f a b = some false ∧ impl_isGrid.f a b = some false) := by
  unfold spec_fiGrid.f impl_isGrid.f spec_l1In.f impl_within.f
  by_cases h1 : 1 ≤ a <;> by_cases h2 : a ≤ 4 <;> by_cases h3 : 1 ≤ b <;> by_cases h4 : b ≤ 4 <;> simp [h1, h2, h3, h4]

theorem FnExactCountInFull : laws_FnExactCountInFull.Pure := by
  intro a b _ _
  rcases grid_tells a b with ⟨h1, h2, h3, h4⟩ | ⟨hs, hi⟩
  · refine ⟨200, ?_⟩
    obtain rfl | rfl | rfl | rfl : a = 1 ∨ a = 2 ∨ a = 3 ∨ a = 4 := by omega
    all_goals
      obtain rfl | rfl | rfl | rfl : b = 1 ∨ b = 2 ∨ b = 3 ∨ b = 4 := by omega
      all_goals decide +kernel
  · exact ⟨0, by simp [laws_FnExactCountInFull.f, spec_CountInFull.f, impl_CountInFull.f, hs, hi]⟩

end Go.Proofs.Ytgpkhlklbcfibaa.Pure
