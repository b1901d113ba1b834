-- Written by a program of this session (wip/tools/myprint.py over the print of the kit).
import Derived.Test.YtaajijommogaoaaPIvlWidensx0
import Derived.Test.YtaajijommogaoaaPIvlWidensx1
import Derived.Test.YtaajijommogaoaaPIvlWidensx2
import Derived.Test.YtaajijommogaoaaPIvlWidensx3
namespace Go.Proofs.Ytaajijommogaoaa.PIvlWidens
open Go.Proofs.Ytaajijommogaoaa.Ext
open Go.RowKit Go.Proofs.YtaajijommogaoaaW.PrintWords Go.Proofs.YtaajijommogaoaaW.PrintLast Go.Proofs.YtaajijommogaoaaW.PrintMore
attribute [local go_sem] max2_int min2_int max_two min_two max_three min_three max_four min_four   -- for this text's walks alone
set_option linter.unusedVariables false
set_option linter.unusedSimpArgs false

end Go.Proofs.Ytaajijommogaoaa.PIvlWidens
