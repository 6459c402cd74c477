-- PRINTED BY print.sh 35421559b90ae4d0a3588c463048766b98c2df88dd9212a6774a882060cdf62d: not written by this session
import Derived.Test.YtgfclbfkkekkmaaProg
import Derived.Below
import Derived.Deep.Draws
import Derived.Deep.AppendLies
import Derived.Maps.AppendAt
import Derived.OwnWalk
import Derived.Laws.BytesArg
import Derived.Laws.MakeOwn
import Derived.Laws.OwnMore
import Derived.Deep.OwnRows
import Derived.Tactics
import Derived.Lib.ConvBytes
import Derived.Laws.Slices
import Derived.WalkKit
import Derived.KernelRfl
import Derived.RowKit3
import Derived.Deep.LoopGhost
import Derived.Deep.QuietTactic
import Derived.BigQuiet
import Derived.WideLaws
import Derived.Deep.DeepCutAuto
import Derived.Deep.CutBlock
import Derived.Deep.RegionHeld3
import Derived.Laws.Rows
import Derived.Lib.AppendStr
import Derived.ArgAppend
import Derived.Laws.IdiomCopy
import Derived.OrdersHeld
import Derived.Laws.BitsLemmas
import Derived.RowKit
import Derived.Test.YtgfclbfkkekkmaaWWords
import Derived.Test.YtgfclbfkkekkmaaWLast
import Derived.Test.YtgfclbfkkekkmaaWTab
import Derived.Test.YtgfclbfkkekkmaaWFour
import Derived.Test.YtgfclbfkkekkmaaWQPut
import Derived.Test.YtgfclbfkkekkmaaWApart
import Derived.Test.YtgfclbfkkekkmaaWArr
import Derived.Test.YtgfclbfkkekkmaaWZeros
import Derived.Test.YtgfclbfkkekkmaaWFoot
import Derived.Test.YtgfclbfkkekkmaaWKept
import Derived.Test.YtgfclbfkkekkmaaWShare
import Derived.Test.YtgfclbfkkekkmaaWN
import Derived.Test.YtgfclbfkkekkmaaWFootNe
import Derived.Test.YtgfclbfkkekkmaaWAt
import Derived.Test.YtgfclbfkkekkmaaWEqStruct
import Derived.Test.YtgfclbfkkekkmaaWRepsOne
import Derived.Test.YtgfclbfkkekkmaaWInv
import Derived.Test.YtgfclbfkkekkmaaWInvWords
import Derived.Test.YtgfclbfkkekkmaaWGuard
import Derived.Test.YtgfclbfkkekkmaaWNEv
import Derived.Test.YtgfclbfkkekkmaaWMore
namespace Go.Proofs.Ytgfclbfkkekkmaa.PFnExactCodeName
open Go.RowKit Go.Proofs.YtgfclbfkkekkmaaW.PrintWords Go.Proofs.YtgfclbfkkekkmaaW.PrintLast Go.Proofs.YtgfclbfkkekkmaaW.PrintMore
attribute [local go_sem] max2_int min2_int max_two min_two max_three min_three max_four min_four   -- for this text's walks alone
set_option linter.unusedVariables false
set_option linter.unusedSimpArgs false



def errW : Option Int → Value
  | none => .nilIface
  | some c => .iface 0 (.int .i64 c)
theorem errW_none : errW none = .nilIface := rfl
theorem errW_some (c : Int) : errW (some c) = .iface 0 (.int .i64 c) := rfl

theorem info9 : (Try.prog.info? 9).map (fun i => (i.zero, i.size, i.bytes)) = some (some (.string ⟨#[]⟩), 1, 16) := by kernel_rfl
-- the values' own types

end Go.Proofs.Ytgfclbfkkekkmaa.PFnExactCodeName
