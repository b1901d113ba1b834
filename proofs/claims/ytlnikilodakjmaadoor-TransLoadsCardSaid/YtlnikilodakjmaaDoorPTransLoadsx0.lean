-- Written by a program of this session (wip/tools/myprint.py over the print of the kit).
import Derived.Test.YtlnikilodakjmaaDoorProg
import Derived.Below
import Derived.Deep.Draws
import Derived.Deep.AppendLies
import Derived.Maps.AppendAt
import Derived.OwnWalk
import Derived.Laws.BytesArg
import Derived.Laws.MakeOwn
import Derived.Laws.OwnMore
import Derived.Deep.OwnRows
import Derived.Tactics
import Derived.Lib.ConvBytes
import Derived.Laws.Slices
import Derived.WalkKit
import Derived.KernelRfl
import Derived.RowKit3
import Derived.Deep.LoopGhost
import Derived.Deep.QuietTactic
import Derived.BigQuiet
import Derived.WideLaws
import Derived.Deep.DeepCutAuto
import Derived.Deep.CutBlock
import Derived.Deep.RegionHeld3
import Derived.Laws.Rows
import Derived.Lib.AppendStr
import Derived.ArgAppend
import Derived.Laws.IdiomCopy
import Derived.OrdersHeld
import Derived.Laws.BitsLemmas
import Derived.RowKit
import Derived.Test.YtlnikilodakjmaaDoorExt
import Derived.Test.YtlnikilodakjmaaDoorTabs
import Derived.Test.YtlnikilodakjmaaDoorAwTransLoads
import Derived.Test.YtlnikilodakjmaaDoorWWords
import Derived.Test.YtlnikilodakjmaaDoorWLast
import Derived.Test.YtlnikilodakjmaaDoorWTab
import Derived.Test.YtlnikilodakjmaaDoorWFour
import Derived.Test.YtlnikilodakjmaaDoorWQPut
import Derived.Test.YtlnikilodakjmaaDoorWApart
import Derived.Test.YtlnikilodakjmaaDoorWArr
import Derived.Test.YtlnikilodakjmaaDoorWZeros
import Derived.Test.YtlnikilodakjmaaDoorWFoot
import Derived.Test.YtlnikilodakjmaaDoorWKept
import Derived.Test.YtlnikilodakjmaaDoorWShare
import Derived.Test.YtlnikilodakjmaaDoorWN
import Derived.Test.YtlnikilodakjmaaDoorWFootNe
import Derived.Test.YtlnikilodakjmaaDoorWAt
import Derived.Test.YtlnikilodakjmaaDoorWEqStruct
import Derived.Test.YtlnikilodakjmaaDoorWRepsOne
import Derived.Test.YtlnikilodakjmaaDoorWInv
import Derived.Test.YtlnikilodakjmaaDoorWInvWords
import Derived.Test.YtlnikilodakjmaaDoorWGuard
import Derived.Test.YtlnikilodakjmaaDoorWNEv
import Derived.Test.YtlnikilodakjmaaDoorWMore
namespace Go.Proofs.YtlnikilodakjmaaDoor.PTransLoads
open Go.Proofs.YtlnikilodakjmaaDoor.Ext
open Go.Proofs.YtlnikilodakjmaaDoor.Tabs
open Go.RowKit Go.Proofs.YtlnikilodakjmaaDoorW.PrintWords Go.Proofs.YtlnikilodakjmaaDoorW.PrintLast Go.Proofs.YtlnikilodakjmaaDoorW.PrintMore
attribute [local go_sem] max2_int min2_int max_two min_two max_three min_three max_four min_four   -- for this text's walks alone
set_option linter.unusedVariables false
set_option linter.unusedSimpArgs false



def errW : Option Int → Value
  | none => .nilIface
  | some c => .iface 0 (.int .i64 c)
theorem errW_none : errW none = .nilIface := rfl
theorem errW_some (c : Int) : errW (some c) = .iface 0 (.int .i64 c) := rfl

theorem info5 : (Tryd.prog.info? 5).map (fun i => (i.zero, i.size, i.bytes)) = some (some (.int .u8 0), 1, 1) := by kernel_rfl
-- the values' own types

end Go.Proofs.YtlnikilodakjmaaDoor.PTransLoads
