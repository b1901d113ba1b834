-- Written by a program of this session (wip/tools/myprint.py over the print of the kit).
import Derived.Test.YticpdchlknbodaaPAbsTightx0
import Derived.Test.YticpdchlknbodaaPAbsTightx1
import Derived.Test.YticpdchlknbodaaPAbsTightx2
import Derived.Test.YticpdchlknbodaaPAbsTightx3
import Derived.Test.YticpdchlknbodaaPAbsTightx4
import Derived.Test.YticpdchlknbodaaPAbsTightx5
import Derived.Test.YticpdchlknbodaaPAbsTightx6
namespace Go.Proofs.Yticpdchlknbodaa.PAbsTight
open Go.Proofs.Yticpdchlknbodaa.Ext
open Go.RowKit Go.Proofs.YticpdchlknbodaaW.PrintWords Go.Proofs.YticpdchlknbodaaW.PrintLast Go.Proofs.YticpdchlknbodaaW.PrintMore
attribute [local go_sem] max2_int min2_int max_two min_two max_three min_three max_four min_four   -- for this text's walks alone
set_option linter.unusedVariables false
set_option linter.unusedSimpArgs false

end Go.Proofs.Yticpdchlknbodaa.PAbsTight
