-- Written by a program of this session (wip/tools/myprint.py over the print of the kit).
import Derived.Test.YtnbfgcoggjghbaaProg
import Derived.Below
import Derived.Deep.Draws
import Derived.Deep.AppendLies
import Derived.Maps.AppendAt
import Derived.OwnWalk
import Derived.Laws.BytesArg
import Derived.Laws.MakeOwn
import Derived.Laws.OwnMore
import Derived.Deep.OwnRows
import Derived.Tactics
import Derived.Lib.ConvBytes
import Derived.Laws.Slices
import Derived.WalkKit
import Derived.KernelRfl
import Derived.RowKit3
import Derived.Deep.LoopGhost
import Derived.Deep.QuietTactic
import Derived.BigQuiet
import Derived.WideLaws
import Derived.Deep.DeepCutAuto
import Derived.Deep.CutBlock
import Derived.Deep.RegionHeld3
import Derived.Laws.Rows
import Derived.Lib.AppendStr
import Derived.ArgAppend
import Derived.Laws.IdiomCopy
import Derived.OrdersHeld
import Derived.Laws.BitsLemmas
import Derived.RowKit
import Derived.Test.YtnbfgcoggjghbaaExt
import Derived.Test.YtnbfgcoggjghbaaWWords
import Derived.Test.YtnbfgcoggjghbaaWLast
import Derived.Test.YtnbfgcoggjghbaaWTab
import Derived.Test.YtnbfgcoggjghbaaWFour
import Derived.Test.YtnbfgcoggjghbaaWQPut
import Derived.Test.YtnbfgcoggjghbaaWApart
import Derived.Test.YtnbfgcoggjghbaaWArr
import Derived.Test.YtnbfgcoggjghbaaWZeros
import Derived.Test.YtnbfgcoggjghbaaWFoot
import Derived.Test.YtnbfgcoggjghbaaWKept
import Derived.Test.YtnbfgcoggjghbaaWShare
import Derived.Test.YtnbfgcoggjghbaaWN
import Derived.Test.YtnbfgcoggjghbaaWFootNe
import Derived.Test.YtnbfgcoggjghbaaWAt
import Derived.Test.YtnbfgcoggjghbaaWEqStruct
import Derived.Test.YtnbfgcoggjghbaaWRepsOne
import Derived.Test.YtnbfgcoggjghbaaWInv
import Derived.Test.YtnbfgcoggjghbaaWInvWords
import Derived.Test.YtnbfgcoggjghbaaWGuard
import Derived.Test.YtnbfgcoggjghbaaWNEv
import Derived.Test.YtnbfgcoggjghbaaWMore
namespace Go.Proofs.Ytnbfgcoggjghbaa.PLebPuts
open Go.Proofs.Ytnbfgcoggjghbaa.Ext
open Go.RowKit Go.Proofs.YtnbfgcoggjghbaaW.PrintWords Go.Proofs.YtnbfgcoggjghbaaW.PrintLast Go.Proofs.YtnbfgcoggjghbaaW.PrintMore
attribute [local go_sem] max2_int min2_int max_two min_two max_three min_three max_four min_four   -- for this text's walks alone
set_option linter.unusedVariables false
set_option linter.unusedSimpArgs false



def errW : Option Int → Value
  | none => .nilIface
  | some c => .iface 0 (.int .i64 c)
theorem errW_none : errW none = .nilIface := rfl
theorem errW_some (c : Int) : errW (some c) = .iface 0 (.int .i64 c) := rfl

theorem info4 : (Try.prog.info? 4).map (fun i => (i.zero, i.size, i.bytes)) = some (some (.bool false), 1, 1) := by kernel_rfl
theorem info5 : (Try.prog.info? 5).map (fun i => (i.zero, i.size, i.bytes)) = some (some (.int .u8 0), 1, 1) := by kernel_rfl
-- the values' own types

end Go.Proofs.Ytnbfgcoggjghbaa.PLebPuts
