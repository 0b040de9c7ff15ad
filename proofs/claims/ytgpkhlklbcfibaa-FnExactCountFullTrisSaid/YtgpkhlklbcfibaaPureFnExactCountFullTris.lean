/- Proved here: CountFullTris and its reference answer the same for every integer. Condition: the argument is a 64 bit integer. -/
import Derived.Test.YtgpkhlklbcfibaaPFnExactCountFullTrisx1
namespace Go.Proofs.Ytgpkhlklbcfibaa.Pure
open Go.RowKit Go.Proofs.Ytgpkhlklbcfibaa.PFnExactCountFullTris Go.Proofs.YtgpkhlklbcfibaaW.PrintWords Go.Proofs.YtgpkhlklbcfibaaW.PrintLast

theorem FnExactCountFullTris : laws_FnExactCountFullTris.Pure := by
  intro a _
  by_cases h : 1 ≤ a
  · by_cases h5 : a ≤ 5
    · obtain rfl | rfl | rfl | rfl | rfl : a = 1 ∨ a = 2 ∨ a = 3 ∨ a = 4 ∨ a = 5 := by omega
      all_goals decide +kernel
    · simp [laws_FnExactCountFullTris.f, spec_CountFullTris.f, spec_l1In.f, impl_CountFullTris.f, impl_isLevel.f, impl_within.f, h, h5]
  · simp [laws_FnExactCountFullTris.f, spec_CountFullTris.f, spec_l1In.f, impl_CountFullTris.f, impl_isLevel.f, impl_within.f, h]

end Go.Proofs.Ytgpkhlklbcfibaa.Pure
