-- Written by a program of this session (wip/tools/myprint.py over the print of the kit).
import Derived.Test.YticpdchlknbodaaProg
import Derived.Below
import Derived.Deep.Draws
import Derived.Deep.AppendLies
import Derived.Maps.AppendAt
import Derived.OwnWalk
import Derived.Laws.BytesArg
import Derived.Laws.MakeOwn
import Derived.Laws.OwnMore
import Derived.Deep.OwnRows
import Derived.Tactics
import Derived.Lib.ConvBytes
import Derived.Laws.Slices
import Derived.WalkKit
import Derived.KernelRfl
import Derived.RowKit3
import Derived.Deep.LoopGhost
import Derived.Deep.QuietTactic
import Derived.BigQuiet
import Derived.WideLaws
import Derived.Deep.DeepCutAuto
import Derived.Deep.CutBlock
import Derived.Deep.RegionHeld3
import Derived.Laws.Rows
import Derived.Lib.AppendStr
import Derived.ArgAppend
import Derived.Laws.IdiomCopy
import Derived.OrdersHeld
import Derived.Laws.BitsLemmas
import Derived.RowKit
import Derived.Test.YticpdchlknbodaaExt
import Derived.Test.YticpdchlknbodaaWWords
import Derived.Test.YticpdchlknbodaaWLast
import Derived.Test.YticpdchlknbodaaWTab
import Derived.Test.YticpdchlknbodaaWFour
import Derived.Test.YticpdchlknbodaaWQPut
import Derived.Test.YticpdchlknbodaaWApart
import Derived.Test.YticpdchlknbodaaWArr
import Derived.Test.YticpdchlknbodaaWZeros
import Derived.Test.YticpdchlknbodaaWFoot
import Derived.Test.YticpdchlknbodaaWKept
import Derived.Test.YticpdchlknbodaaWShare
import Derived.Test.YticpdchlknbodaaWN
import Derived.Test.YticpdchlknbodaaWFootNe
import Derived.Test.YticpdchlknbodaaWAt
import Derived.Test.YticpdchlknbodaaWEqStruct
import Derived.Test.YticpdchlknbodaaWRepsOne
import Derived.Test.YticpdchlknbodaaWInv
import Derived.Test.YticpdchlknbodaaWInvWords
import Derived.Test.YticpdchlknbodaaWGuard
import Derived.Test.YticpdchlknbodaaWNEv
import Derived.Test.YticpdchlknbodaaWMore
namespace Go.Proofs.Yticpdchlknbodaa.PAbsTight
open Go.Proofs.Yticpdchlknbodaa.Ext
open Go.RowKit Go.Proofs.YticpdchlknbodaaW.PrintWords Go.Proofs.YticpdchlknbodaaW.PrintLast Go.Proofs.YticpdchlknbodaaW.PrintMore
attribute [local go_sem] max2_int min2_int max_two min_two max_three min_three max_four min_four   -- for this text's walks alone
set_option linter.unusedVariables false
set_option linter.unusedSimpArgs false



def errW : Option Int → Value
  | none => .nilIface
  | some c => .iface 0 (.int .i64 c)
theorem errW_none : errW none = .nilIface := rfl
theorem errW_some (c : Int) : errW (some c) = .iface 0 (.int .i64 c) := rfl

-- the values' own types

end Go.Proofs.Yticpdchlknbodaa.PAbsTight
