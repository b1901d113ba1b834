-- Written by a program of this session (wip/tools/myprint.py over the print of the kit).
import Derived.Test.YticpdchlknbodaaDoorPAbsWidensx0
import Derived.Test.YticpdchlknbodaaDoorPAbsWidensx1
import Derived.Test.YticpdchlknbodaaDoorPAbsWidensx2
import Derived.Test.YticpdchlknbodaaDoorPAbsWidensx3
import Derived.Test.YticpdchlknbodaaDoorPAbsWidensx4
import Derived.Test.YticpdchlknbodaaDoorPAbsWidensx5
import Derived.Test.YticpdchlknbodaaDoorPAbsWidensx6
namespace Go.Proofs.YticpdchlknbodaaDoor.PAbsWidens
open Go.Proofs.YticpdchlknbodaaDoor.Ext
open Go.Proofs.YticpdchlknbodaaDoor.Tabs
open Go.RowKit Go.Proofs.YticpdchlknbodaaDoorW.PrintWords Go.Proofs.YticpdchlknbodaaDoorW.PrintLast Go.Proofs.YticpdchlknbodaaDoorW.PrintMore
attribute [local go_sem] max2_int min2_int max_two min_two max_three min_three max_four min_four   -- for this text's walks alone
set_option linter.unusedVariables false
set_option linter.unusedSimpArgs false

end Go.Proofs.YticpdchlknbodaaDoor.PAbsWidens
