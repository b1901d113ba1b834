-- Written by a program of this session (wip/tools/myprint.py over the print of the kit).
import Derived.Test.YtaajijommogaoaaProg
import Derived.Below
import Derived.Deep.Draws
import Derived.Deep.AppendLies
import Derived.Maps.AppendAt
import Derived.OwnWalk
import Derived.Laws.BytesArg
import Derived.Laws.MakeOwn
import Derived.Laws.OwnMore
import Derived.Deep.OwnRows
import Derived.Tactics
import Derived.Lib.ConvBytes
import Derived.Laws.Slices
import Derived.WalkKit
import Derived.KernelRfl
import Derived.RowKit3
import Derived.Deep.LoopGhost
import Derived.Deep.QuietTactic
import Derived.BigQuiet
import Derived.WideLaws
import Derived.Deep.DeepCutAuto
import Derived.Deep.CutBlock
import Derived.Deep.RegionHeld3
import Derived.Laws.Rows
import Derived.Lib.AppendStr
import Derived.ArgAppend
import Derived.Laws.IdiomCopy
import Derived.OrdersHeld
import Derived.Laws.BitsLemmas
import Derived.RowKit
import Derived.Test.YtaajijommogaoaaExt
import Derived.Test.YtaajijommogaoaaWWords
import Derived.Test.YtaajijommogaoaaWLast
import Derived.Test.YtaajijommogaoaaWTab
import Derived.Test.YtaajijommogaoaaWFour
import Derived.Test.YtaajijommogaoaaWQPut
import Derived.Test.YtaajijommogaoaaWApart
import Derived.Test.YtaajijommogaoaaWArr
import Derived.Test.YtaajijommogaoaaWZeros
import Derived.Test.YtaajijommogaoaaWFoot
import Derived.Test.YtaajijommogaoaaWKept
import Derived.Test.YtaajijommogaoaaWShare
import Derived.Test.YtaajijommogaoaaWN
import Derived.Test.YtaajijommogaoaaWFootNe
import Derived.Test.YtaajijommogaoaaWAt
import Derived.Test.YtaajijommogaoaaWEqStruct
import Derived.Test.YtaajijommogaoaaWRepsOne
import Derived.Test.YtaajijommogaoaaWInv
import Derived.Test.YtaajijommogaoaaWInvWords
import Derived.Test.YtaajijommogaoaaWGuard
import Derived.Test.YtaajijommogaoaaWNEv
import Derived.Test.YtaajijommogaoaaWMore
namespace Go.Proofs.Ytaajijommogaoaa.PIvlWidens
open Go.Proofs.Ytaajijommogaoaa.Ext
open Go.RowKit Go.Proofs.YtaajijommogaoaaW.PrintWords Go.Proofs.YtaajijommogaoaaW.PrintLast Go.Proofs.YtaajijommogaoaaW.PrintMore
attribute [local go_sem] max2_int min2_int max_two min_two max_three min_three max_four min_four   -- for this text's walks alone
set_option linter.unusedVariables false
set_option linter.unusedSimpArgs false



def errW : Option Int → Value
  | none => .nilIface
  | some c => .iface 0 (.int .i64 c)
theorem errW_none : errW none = .nilIface := rfl
theorem errW_some (c : Int) : errW (some c) = .iface 0 (.int .i64 c) := rfl

-- the values' own types

theorem fld25_1 (x0 x1 : Value) (w : World) : (Instr.field 25 (.agg #[x0, x1]) 1).run Try.prog w = .ok (x1) w := by kernel_rfl
end Go.Proofs.Ytaajijommogaoaa.PIvlWidens
