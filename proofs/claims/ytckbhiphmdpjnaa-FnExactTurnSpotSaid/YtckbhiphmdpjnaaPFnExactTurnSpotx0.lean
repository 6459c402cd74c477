-- PRINTED BY print.sh 35421559b90ae4d0a3588c463048766b98c2df88dd9212a6774a882060cdf62d: not written by this session
import Derived.Test.YtckbhiphmdpjnaaProg
import Derived.Below
import Derived.Deep.Draws
import Derived.Deep.AppendLies
import Derived.Maps.AppendAt
import Derived.OwnWalk
import Derived.Laws.BytesArg
import Derived.Laws.MakeOwn
import Derived.Laws.OwnMore
import Derived.Deep.OwnRows
import Derived.Tactics
import Derived.Lib.ConvBytes
import Derived.Laws.Slices
import Derived.WalkKit
import Derived.KernelRfl
import Derived.RowKit3
import Derived.Deep.LoopGhost
import Derived.Deep.QuietTactic
import Derived.BigQuiet
import Derived.WideLaws
import Derived.Deep.DeepCutAuto
import Derived.Deep.CutBlock
import Derived.Deep.RegionHeld3
import Derived.Laws.Rows
import Derived.Lib.AppendStr
import Derived.ArgAppend
import Derived.Laws.IdiomCopy
import Derived.OrdersHeld
import Derived.Laws.BitsLemmas
import Derived.RowKit
import Derived.Test.YtckbhiphmdpjnaaWWords
import Derived.Test.YtckbhiphmdpjnaaWLast
import Derived.Test.YtckbhiphmdpjnaaWTab
import Derived.Test.YtckbhiphmdpjnaaWFour
import Derived.Test.YtckbhiphmdpjnaaWQPut
import Derived.Test.YtckbhiphmdpjnaaWApart
import Derived.Test.YtckbhiphmdpjnaaWArr
import Derived.Test.YtckbhiphmdpjnaaWZeros
import Derived.Test.YtckbhiphmdpjnaaWFoot
import Derived.Test.YtckbhiphmdpjnaaWKept
import Derived.Test.YtckbhiphmdpjnaaWShare
import Derived.Test.YtckbhiphmdpjnaaWN
import Derived.Test.YtckbhiphmdpjnaaWFootNe
import Derived.Test.YtckbhiphmdpjnaaWAt
import Derived.Test.YtckbhiphmdpjnaaWEqStruct
import Derived.Test.YtckbhiphmdpjnaaWRepsOne
import Derived.Test.YtckbhiphmdpjnaaWInv
import Derived.Test.YtckbhiphmdpjnaaWInvWords
import Derived.Test.YtckbhiphmdpjnaaWGuard
import Derived.Test.YtckbhiphmdpjnaaWNEv
import Derived.Test.YtckbhiphmdpjnaaWMore
namespace Go.Proofs.Ytckbhiphmdpjnaa.PFnExactTurnSpot
open Go.RowKit Go.Proofs.YtckbhiphmdpjnaaW.PrintWords Go.Proofs.YtckbhiphmdpjnaaW.PrintLast Go.Proofs.YtckbhiphmdpjnaaW.PrintMore
attribute [local go_sem] max2_int min2_int max_two min_two max_three min_three max_four min_four   -- for this text's walks alone
set_option linter.unusedVariables false
set_option linter.unusedSimpArgs false



def errW : Option Int → Value
  | none => .nilIface
  | some c => .iface 0 (.int .i64 c)
theorem errW_none : errW none = .nilIface := rfl
theorem errW_some (c : Int) : errW (some c) = .iface 0 (.int .i64 c) := rfl

-- the values' own types

end Go.Proofs.Ytckbhiphmdpjnaa.PFnExactTurnSpot
