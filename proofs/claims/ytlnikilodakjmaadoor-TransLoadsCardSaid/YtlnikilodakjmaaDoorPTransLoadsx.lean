-- Written by a program of this session (wip/tools/myprint.py over the print of the kit).
import Derived.Test.YtlnikilodakjmaaDoorPTransLoadsx0
import Derived.Test.YtlnikilodakjmaaDoorPTransLoadsx1
import Derived.Test.YtlnikilodakjmaaDoorPTransLoadsx2
namespace Go.Proofs.YtlnikilodakjmaaDoor.PTransLoads
open Go.Proofs.YtlnikilodakjmaaDoor.Ext
open Go.Proofs.YtlnikilodakjmaaDoor.Tabs
open Go.RowKit Go.Proofs.YtlnikilodakjmaaDoorW.PrintWords Go.Proofs.YtlnikilodakjmaaDoorW.PrintLast Go.Proofs.YtlnikilodakjmaaDoorW.PrintMore
attribute [local go_sem] max2_int min2_int max_two min_two max_three min_three max_four min_four   -- for this text's walks alone
set_option linter.unusedVariables false
set_option linter.unusedSimpArgs false

end Go.Proofs.YtlnikilodakjmaaDoor.PTransLoads
