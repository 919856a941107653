-- written by xprint.py (a program of this session's, over the kit's print): printed functions, and some by hand
import Derived.Test.YtgmjfdehladelaaProg
import Derived.Below
import Derived.Deep.Draws
import Derived.Deep.AppendLies
import Derived.Maps.AppendAt
import Derived.OwnWalk
import Derived.Laws.BytesArg
import Derived.Laws.MakeOwn
import Derived.Laws.OwnMore
import Derived.Deep.OwnRows
import Derived.Tactics
import Derived.Lib.ConvBytes
import Derived.Laws.Slices
import Derived.WalkKit
import Derived.KernelRfl
import Derived.RowKit3
import Derived.Deep.LoopGhost
import Derived.Deep.QuietTactic
import Derived.BigQuiet
import Derived.WideLaws
import Derived.Deep.DeepCutAuto
import Derived.Deep.CutBlock
import Derived.Deep.RegionHeld3
import Derived.Laws.Rows
import Derived.Lib.AppendStr
import Derived.ArgAppend
import Derived.Laws.IdiomCopy
import Derived.OrdersHeld
import Derived.Laws.BitsLemmas
import Derived.RowKit
import Derived.RegionTactic
import Derived.ChangeAlike
import Derived.Test.YtgmjfdehladelaaWWords
import Derived.Test.YtgmjfdehladelaaWLast
import Derived.Test.YtgmjfdehladelaaWTab
import Derived.Test.YtgmjfdehladelaaWFour
import Derived.Test.YtgmjfdehladelaaWQPut
import Derived.Test.YtgmjfdehladelaaWApart
import Derived.Test.YtgmjfdehladelaaWArr
import Derived.Test.YtgmjfdehladelaaWZeros
import Derived.Test.YtgmjfdehladelaaWFoot
import Derived.Test.YtgmjfdehladelaaWKept
import Derived.Test.YtgmjfdehladelaaWShare
import Derived.Test.YtgmjfdehladelaaWN
import Derived.Test.YtgmjfdehladelaaWFootNe
import Derived.Test.YtgmjfdehladelaaWAt
import Derived.Test.YtgmjfdehladelaaWEqStruct
import Derived.Test.YtgmjfdehladelaaWRepsOne
import Derived.Test.YtgmjfdehladelaaWInv
import Derived.Test.YtgmjfdehladelaaWInvWords
import Derived.Test.YtgmjfdehladelaaWGuard
import Derived.Test.YtgmjfdehladelaaWNEv
import Derived.Test.YtgmjfdehladelaaWMore
namespace Go.Proofs.Ytgmjfdehladelaa.PFnExactSlotFor
open Go.RowKit Go.Proofs.YtgmjfdehladelaaW.PrintWords Go.Proofs.YtgmjfdehladelaaW.PrintLast Go.Proofs.YtgmjfdehladelaaW.PrintMore
attribute [local go_sem] max2_int min2_int max_two min_two max_three min_three max_four min_four   -- for this text's walks alone
set_option linter.unusedVariables false
set_option linter.unusedSimpArgs false



def errW : Option Int → Value
  | none => .nilIface
  | some c => .iface 0 (.int .i64 c)
theorem errW_none : errW none = .nilIface := rfl
theorem errW_some (c : Int) : errW (some c) = .iface 0 (.int .i64 c) := rfl

-- the values' own types

end Go.Proofs.Ytgmjfdehladelaa.PFnExactSlotFor
