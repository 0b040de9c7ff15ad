/- Proved here: the law that the exported constants have the values of the reference answers true. No condition. -/
import Derived.Test.YtgpkhlklbcfibaaPFnExactConstantsx1
namespace Go.Proofs.Ytgpkhlklbcfibaa.Pure
open Go.RowKit Go.Proofs.Ytgpkhlklbcfibaa.PFnExactConstants Go.Proofs.YtgpkhlklbcfibaaW.PrintWords Go.Proofs.YtgpkhlklbcfibaaW.PrintLast

theorem FnExactConstants : laws_FnExactConstants.Pure := rfl

end Go.Proofs.Ytgpkhlklbcfibaa.Pure
