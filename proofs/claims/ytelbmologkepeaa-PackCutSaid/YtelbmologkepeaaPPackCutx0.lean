-- Written by a program of this session (wip/tools/myprint.py over the print of the kit).
import Derived.Test.YtelbmologkepeaaProg
import Derived.Below
import Derived.Deep.Draws
import Derived.Deep.AppendLies
import Derived.Maps.AppendAt
import Derived.OwnWalk
import Derived.Laws.BytesArg
import Derived.Laws.MakeOwn
import Derived.Laws.OwnMore
import Derived.Deep.OwnRows
import Derived.Tactics
import Derived.Lib.ConvBytes
import Derived.Laws.Slices
import Derived.WalkKit
import Derived.KernelRfl
import Derived.RowKit3
import Derived.Deep.LoopGhost
import Derived.Deep.QuietTactic
import Derived.BigQuiet
import Derived.WideLaws
import Derived.Deep.DeepCutAuto
import Derived.Deep.CutBlock
import Derived.Deep.RegionHeld3
import Derived.Laws.Rows
import Derived.Lib.AppendStr
import Derived.ArgAppend
import Derived.Laws.IdiomCopy
import Derived.OrdersHeld
import Derived.Laws.BitsLemmas
import Derived.RowKit
import Derived.Test.YtelbmologkepeaaExt
import Derived.Test.YtelbmologkepeaaWWords
import Derived.Test.YtelbmologkepeaaWLast
import Derived.Test.YtelbmologkepeaaWTab
import Derived.Test.YtelbmologkepeaaWFour
import Derived.Test.YtelbmologkepeaaWQPut
import Derived.Test.YtelbmologkepeaaWApart
import Derived.Test.YtelbmologkepeaaWArr
import Derived.Test.YtelbmologkepeaaWZeros
import Derived.Test.YtelbmologkepeaaWFoot
import Derived.Test.YtelbmologkepeaaWKept
import Derived.Test.YtelbmologkepeaaWShare
import Derived.Test.YtelbmologkepeaaWN
import Derived.Test.YtelbmologkepeaaWFootNe
import Derived.Test.YtelbmologkepeaaWAt
import Derived.Test.YtelbmologkepeaaWEqStruct
import Derived.Test.YtelbmologkepeaaWRepsOne
import Derived.Test.YtelbmologkepeaaWInv
import Derived.Test.YtelbmologkepeaaWInvWords
import Derived.Test.YtelbmologkepeaaWGuard
import Derived.Test.YtelbmologkepeaaWNEv
import Derived.Test.YtelbmologkepeaaWMore
namespace Go.Proofs.Ytelbmologkepeaa.PPackCut
open Go.Proofs.Ytelbmologkepeaa.Ext
open Go.RowKit Go.Proofs.YtelbmologkepeaaW.PrintWords Go.Proofs.YtelbmologkepeaaW.PrintLast Go.Proofs.YtelbmologkepeaaW.PrintMore
attribute [local go_sem] max2_int min2_int max_two min_two max_three min_three max_four min_four   -- for this text's walks alone
set_option linter.unusedVariables false
set_option linter.unusedSimpArgs false



def errW : Option Int → Value
  | none => .nilIface
  | some c => .iface 0 (.int .i64 c)
theorem errW_none : errW none = .nilIface := rfl
theorem errW_some (c : Int) : errW (some c) = .iface 0 (.int .i64 c) := rfl

theorem info5 : (Try.prog.info? 5).map (fun i => (i.zero, i.size, i.bytes)) = some (some (.int .u8 0), 1, 1) := by kernel_rfl
-- the values' own types

end Go.Proofs.Ytelbmologkepeaa.PPackCut
