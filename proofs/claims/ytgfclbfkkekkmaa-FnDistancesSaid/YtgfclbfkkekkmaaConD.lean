/- Contracts of the program's functions on gores, discs and rims, second part. Conditions: as stated. -/
import Derived.Test.YtgfclbfkkekkmaaConC
import Derived.Test.YtgfclbfkkekkmaaMgo
import Derived.LoopTactic
namespace Go.Proofs.Ytgfclbfkkekkmaa.Con
open Go.RowKit Go.Proofs.YtgfclbfkkekkmaaW.PrintWords Go.Proofs.YtgfclbfkkekkmaaW.PrintLast Go.Proofs.YtgfclbfkkekkmaaW.PrintMore Go.Proofs.Ytgfclbfkkekkmaa.Mth
attribute [local go_sem] max2_int min2_int max_two min_two max_three min_three
set_option linter.unusedVariables false
set_option linter.unusedSimpArgs false

end Go.Proofs.Ytgfclbfkkekkmaa.Con
