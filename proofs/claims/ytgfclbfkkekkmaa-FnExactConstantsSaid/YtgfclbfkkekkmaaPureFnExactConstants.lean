/- What FnExactConstants's printed functions come to, and that the law answers true: for every input of its kinds. Conditions: none beyond the printed bounds. -/
import Derived.Test.YtgfclbfkkekkmaaPFnExactConstantsx1
import Derived.Test.YtgfclbfkkekkmaaMth
namespace Go.Proofs.Ytgfclbfkkekkmaa.Pure
namespace FnExactConstantsB
open Go.RowKit Go.Proofs.Ytgfclbfkkekkmaa.PFnExactConstants Go.Proofs.YtgfclbfkkekkmaaW.PrintWords Go.Proofs.YtgfclbfkkekkmaaW.PrintLast Go.Proofs.YtgfclbfkkekkmaaW.PrintMore Go.Proofs.Ytgfclbfkkekkmaa.Mth
set_option linter.unusedVariables false
set_option linter.unusedSimpArgs false
end FnExactConstantsB
open Go.RowKit Go.Proofs.Ytgfclbfkkekkmaa.PFnExactConstants Go.Proofs.YtgfclbfkkekkmaaW.PrintWords Go.Proofs.YtgfclbfkkekkmaaW.PrintLast Go.Proofs.YtgfclbfkkekkmaaW.PrintMore Go.Proofs.Ytgfclbfkkekkmaa.Mth FnExactConstantsB
set_option linter.unusedVariables false in
set_option linter.unusedSimpArgs false in
theorem FnExactConstants : laws_FnExactConstants.Pure := by
  rfl
end Go.Proofs.Ytgfclbfkkekkmaa.Pure
