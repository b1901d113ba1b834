-- Written by a program of this session (wip/tools/myprint.py over the print of the kit).
import Derived.Test.YtfhmhoefeokihaaDoorPLowSoundx0
import Derived.Test.YtfhmhoefeokihaaDoorPLowSoundx1
import Derived.Test.YtfhmhoefeokihaaDoorPLowSoundx2
import Derived.Test.YtfhmhoefeokihaaDoorPLowSoundx3
import Derived.Test.YtfhmhoefeokihaaDoorPLowSoundx4
import Derived.Test.YtfhmhoefeokihaaDoorPLowSoundx5
namespace Go.Proofs.YtfhmhoefeokihaaDoor.PLowSound
open Go.Proofs.YtfhmhoefeokihaaDoor.Ext
open Go.Proofs.YtfhmhoefeokihaaDoor.Tabs
open Go.RowKit Go.Proofs.YtfhmhoefeokihaaDoorW.PrintWords Go.Proofs.YtfhmhoefeokihaaDoorW.PrintLast Go.Proofs.YtfhmhoefeokihaaDoorW.PrintMore
attribute [local go_sem] max2_int min2_int max_two min_two max_three min_three max_four min_four   -- for this text's walks alone
set_option linter.unusedVariables false
set_option linter.unusedSimpArgs false

end Go.Proofs.YtfhmhoefeokihaaDoor.PLowSound
