-- Written by a program of this session (wip/tools/myprint.py over the print of the kit).
import Derived.Test.YtfhmhoefeokihaaDoorPLowGrowsx0
import Derived.Test.YtfhmhoefeokihaaDoorPLowGrowsx1
import Derived.Test.YtfhmhoefeokihaaDoorPLowGrowsx2
import Derived.Test.YtfhmhoefeokihaaDoorPLowGrowsx3
import Derived.Test.YtfhmhoefeokihaaDoorPLowGrowsx4
namespace Go.Proofs.YtfhmhoefeokihaaDoor.PLowGrows
open Go.Proofs.YtfhmhoefeokihaaDoor.Ext
open Go.Proofs.YtfhmhoefeokihaaDoor.Tabs
open Go.RowKit Go.Proofs.YtfhmhoefeokihaaDoorW.PrintWords Go.Proofs.YtfhmhoefeokihaaDoorW.PrintLast Go.Proofs.YtfhmhoefeokihaaDoorW.PrintMore
attribute [local go_sem] max2_int min2_int max_two min_two max_three min_three max_four min_four   -- for this text's walks alone
set_option linter.unusedVariables false
set_option linter.unusedSimpArgs false

end Go.Proofs.YtfhmhoefeokihaaDoor.PLowGrows
