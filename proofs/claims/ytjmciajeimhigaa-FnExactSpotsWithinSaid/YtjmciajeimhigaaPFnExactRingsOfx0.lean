-- PRINTED BY print.sh 35421559b90ae4d0a3588c463048766b98c2df88dd9212a6774a882060cdf62d: not written by this session
import Derived.Test.YtjmciajeimhigaaProg
import Derived.Below
import Derived.Deep.Draws
import Derived.Deep.AppendLies
import Derived.Maps.AppendAt
import Derived.OwnWalk
import Derived.Laws.BytesArg
import Derived.Laws.MakeOwn
import Derived.Laws.OwnMore
import Derived.Deep.OwnRows
import Derived.Tactics
import Derived.Lib.ConvBytes
import Derived.Laws.Slices
import Derived.WalkKit
import Derived.KernelRfl
import Derived.RowKit3
import Derived.Deep.LoopGhost
import Derived.Deep.QuietTactic
import Derived.BigQuiet
import Derived.WideLaws
import Derived.Deep.DeepCutAuto
import Derived.Deep.CutBlock
import Derived.Deep.RegionHeld3
import Derived.Laws.Rows
import Derived.Lib.AppendStr
import Derived.ArgAppend
import Derived.Laws.IdiomCopy
import Derived.OrdersHeld
import Derived.Laws.BitsLemmas
import Derived.RowKit
import Derived.Test.YtjmciajeimhigaaWWords
import Derived.Test.YtjmciajeimhigaaWLast
import Derived.Test.YtjmciajeimhigaaWTab
import Derived.Test.YtjmciajeimhigaaWFour
import Derived.Test.YtjmciajeimhigaaWQPut
import Derived.Test.YtjmciajeimhigaaWApart
import Derived.Test.YtjmciajeimhigaaWArr
import Derived.Test.YtjmciajeimhigaaWZeros
import Derived.Test.YtjmciajeimhigaaWFoot
import Derived.Test.YtjmciajeimhigaaWKept
import Derived.Test.YtjmciajeimhigaaWShare
import Derived.Test.YtjmciajeimhigaaWN
import Derived.Test.YtjmciajeimhigaaWFootNe
import Derived.Test.YtjmciajeimhigaaWAt
import Derived.Test.YtjmciajeimhigaaWEqStruct
import Derived.Test.YtjmciajeimhigaaWRepsOne
import Derived.Test.YtjmciajeimhigaaWInv
import Derived.Test.YtjmciajeimhigaaWInvWords
import Derived.Test.YtjmciajeimhigaaWGuard
import Derived.Test.YtjmciajeimhigaaWNEv
import Derived.Test.YtjmciajeimhigaaWMore
namespace Go.Proofs.Ytjmciajeimhigaa.PFnExactRingsOf
open Go.RowKit Go.Proofs.YtjmciajeimhigaaW.PrintWords Go.Proofs.YtjmciajeimhigaaW.PrintLast Go.Proofs.YtjmciajeimhigaaW.PrintMore
attribute [local go_sem] max2_int min2_int max_two min_two max_three min_three max_four min_four   -- for this text's walks alone
set_option linter.unusedVariables false
set_option linter.unusedSimpArgs false



def errW : Option Int → Value
  | none => .nilIface
  | some c => .iface 0 (.int .i64 c)
theorem errW_none : errW none = .nilIface := rfl
theorem errW_some (c : Int) : errW (some c) = .iface 0 (.int .i64 c) := rfl

theorem info2 : (Try.prog.info? 2).map (fun i => (i.zero, i.size, i.bytes)) = some (some (.int .i64 0), 1, 8) := by kernel_rfl
-- the values' own types

end Go.Proofs.Ytjmciajeimhigaa.PFnExactRingsOf
