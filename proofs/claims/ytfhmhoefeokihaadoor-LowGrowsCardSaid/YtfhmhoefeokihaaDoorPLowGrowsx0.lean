-- Written by a program of this session (wip/tools/myprint.py over the print of the kit).
import Derived.Test.YtfhmhoefeokihaaDoorProg
import Derived.Below
import Derived.Deep.Draws
import Derived.Deep.AppendLies
import Derived.Maps.AppendAt
import Derived.OwnWalk
import Derived.Laws.BytesArg
import Derived.Laws.MakeOwn
import Derived.Laws.OwnMore
import Derived.Deep.OwnRows
import Derived.Tactics
import Derived.Lib.ConvBytes
import Derived.Laws.Slices
import Derived.WalkKit
import Derived.KernelRfl
import Derived.RowKit3
import Derived.Deep.LoopGhost
import Derived.Deep.QuietTactic
import Derived.BigQuiet
import Derived.WideLaws
import Derived.Deep.DeepCutAuto
import Derived.Deep.CutBlock
import Derived.Deep.RegionHeld3
import Derived.Laws.Rows
import Derived.Lib.AppendStr
import Derived.ArgAppend
import Derived.Laws.IdiomCopy
import Derived.OrdersHeld
import Derived.Laws.BitsLemmas
import Derived.RowKit
import Derived.Test.YtfhmhoefeokihaaDoorExt
import Derived.Test.YtfhmhoefeokihaaDoorTabs
import Derived.Test.YtfhmhoefeokihaaDoorWWords
import Derived.Test.YtfhmhoefeokihaaDoorWLast
import Derived.Test.YtfhmhoefeokihaaDoorWTab
import Derived.Test.YtfhmhoefeokihaaDoorWFour
import Derived.Test.YtfhmhoefeokihaaDoorWQPut
import Derived.Test.YtfhmhoefeokihaaDoorWApart
import Derived.Test.YtfhmhoefeokihaaDoorWArr
import Derived.Test.YtfhmhoefeokihaaDoorWZeros
import Derived.Test.YtfhmhoefeokihaaDoorWFoot
import Derived.Test.YtfhmhoefeokihaaDoorWKept
import Derived.Test.YtfhmhoefeokihaaDoorWShare
import Derived.Test.YtfhmhoefeokihaaDoorWN
import Derived.Test.YtfhmhoefeokihaaDoorWFootNe
import Derived.Test.YtfhmhoefeokihaaDoorWAt
import Derived.Test.YtfhmhoefeokihaaDoorWEqStruct
import Derived.Test.YtfhmhoefeokihaaDoorWRepsOne
import Derived.Test.YtfhmhoefeokihaaDoorWInv
import Derived.Test.YtfhmhoefeokihaaDoorWInvWords
import Derived.Test.YtfhmhoefeokihaaDoorWGuard
import Derived.Test.YtfhmhoefeokihaaDoorWNEv
import Derived.Test.YtfhmhoefeokihaaDoorWMore
namespace Go.Proofs.YtfhmhoefeokihaaDoor.PLowGrows
open Go.Proofs.YtfhmhoefeokihaaDoor.Ext
open Go.Proofs.YtfhmhoefeokihaaDoor.Tabs
open Go.RowKit Go.Proofs.YtfhmhoefeokihaaDoorW.PrintWords Go.Proofs.YtfhmhoefeokihaaDoorW.PrintLast Go.Proofs.YtfhmhoefeokihaaDoorW.PrintMore
attribute [local go_sem] max2_int min2_int max_two min_two max_three min_three max_four min_four   -- for this text's walks alone
set_option linter.unusedVariables false
set_option linter.unusedSimpArgs false



def errW : Option Int → Value
  | none => .nilIface
  | some c => .iface 0 (.int .i64 c)
theorem errW_none : errW none = .nilIface := rfl
theorem errW_some (c : Int) : errW (some c) = .iface 0 (.int .i64 c) := rfl

-- the values' own types

end Go.Proofs.YtfhmhoefeokihaaDoor.PLowGrows
