-- Written by a program of this session (wip/tools/myprint.py over the print of the kit).
import Derived.Test.YtnbfgcoggjghbaaPLebPutsx0
import Derived.Test.YtnbfgcoggjghbaaPLebPutsx1
import Derived.Test.YtnbfgcoggjghbaaPLebPutsx2
import Derived.Test.YtnbfgcoggjghbaaPLebPutsx3
import Derived.Test.YtnbfgcoggjghbaaPLebPutsx4
namespace Go.Proofs.Ytnbfgcoggjghbaa.PLebPuts
open Go.Proofs.Ytnbfgcoggjghbaa.Ext
open Go.RowKit Go.Proofs.YtnbfgcoggjghbaaW.PrintWords Go.Proofs.YtnbfgcoggjghbaaW.PrintLast Go.Proofs.YtnbfgcoggjghbaaW.PrintMore
attribute [local go_sem] max2_int min2_int max_two min_two max_three min_three max_four min_four   -- for this text's walks alone
set_option linter.unusedVariables false
set_option linter.unusedSimpArgs false

end Go.Proofs.Ytnbfgcoggjghbaa.PLebPuts
