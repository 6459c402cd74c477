-- PRINTED BY print.sh 35421559b90ae4d0a3588c463048766b98c2df88dd9212a6774a882060cdf62d: not written by this session
import Derived.Test.YtkfbbaaniglaeaaProg
import Derived.Below
import Derived.Deep.Draws
import Derived.Deep.AppendLies
import Derived.Maps.AppendAt
import Derived.OwnWalk
import Derived.Laws.BytesArg
import Derived.Laws.MakeOwn
import Derived.Laws.OwnMore
import Derived.Deep.OwnRows
import Derived.Tactics
import Derived.Lib.ConvBytes
import Derived.Laws.Slices
import Derived.WalkKit
import Derived.KernelRfl
import Derived.RowKit3
import Derived.Deep.LoopGhost
import Derived.Deep.QuietTactic
import Derived.BigQuiet
import Derived.WideLaws
import Derived.Deep.DeepCutAuto
import Derived.Deep.CutBlock
import Derived.Deep.RegionHeld3
import Derived.Laws.Rows
import Derived.Lib.AppendStr
import Derived.ArgAppend
import Derived.Laws.IdiomCopy
import Derived.OrdersHeld
import Derived.Laws.BitsLemmas
import Derived.RowKit
import Derived.Test.YtkfbbaaniglaeaaWWords
import Derived.Test.YtkfbbaaniglaeaaWLast
import Derived.Test.YtkfbbaaniglaeaaWTab
import Derived.Test.YtkfbbaaniglaeaaWFour
import Derived.Test.YtkfbbaaniglaeaaWQPut
import Derived.Test.YtkfbbaaniglaeaaWApart
import Derived.Test.YtkfbbaaniglaeaaWArr
import Derived.Test.YtkfbbaaniglaeaaWZeros
import Derived.Test.YtkfbbaaniglaeaaWFoot
import Derived.Test.YtkfbbaaniglaeaaWKept
import Derived.Test.YtkfbbaaniglaeaaWShare
import Derived.Test.YtkfbbaaniglaeaaWN
import Derived.Test.YtkfbbaaniglaeaaWFootNe
import Derived.Test.YtkfbbaaniglaeaaWAt
import Derived.Test.YtkfbbaaniglaeaaWEqStruct
import Derived.Test.YtkfbbaaniglaeaaWRepsOne
import Derived.Test.YtkfbbaaniglaeaaWInv
import Derived.Test.YtkfbbaaniglaeaaWInvWords
import Derived.Test.YtkfbbaaniglaeaaWGuard
import Derived.Test.YtkfbbaaniglaeaaWNEv
import Derived.Test.YtkfbbaaniglaeaaWMore
namespace Go.Proofs.Ytkfbbaaniglaeaa.PFnExactRingsOf
open Go.RowKit Go.Proofs.YtkfbbaaniglaeaaW.PrintWords Go.Proofs.YtkfbbaaniglaeaaW.PrintLast Go.Proofs.YtkfbbaaniglaeaaW.PrintMore
attribute [local go_sem] max2_int min2_int max_two min_two max_three min_three max_four min_four   -- for this text's walks alone
set_option linter.unusedVariables false
set_option linter.unusedSimpArgs false



def errW : Option Int → Value
  | none => .nilIface
  | some c => .iface 0 (.int .i64 c)
theorem errW_none : errW none = .nilIface := rfl
theorem errW_some (c : Int) : errW (some c) = .iface 0 (.int .i64 c) := rfl

theorem info2 : (Try.prog.info? 2).map (fun i => (i.zero, i.size, i.bytes)) = some (some (.int .i64 0), 1, 8) := by kernel_rfl
-- the values' own types

end Go.Proofs.Ytkfbbaaniglaeaa.PFnExactRingsOf
