-- Written by a program of this session (wip/tools/myprint.py over the print of the kit).
import Derived.Test.YtaajijommogaoaaPIvlJoinx0
import Derived.Test.YtaajijommogaoaaPIvlJoinx1
import Derived.Test.YtaajijommogaoaaPIvlJoinx2
import Derived.Test.YtaajijommogaoaaPIvlJoinx3
namespace Go.Proofs.Ytaajijommogaoaa.PIvlJoin
open Go.Proofs.Ytaajijommogaoaa.Ext
open Go.RowKit Go.Proofs.YtaajijommogaoaaW.PrintWords Go.Proofs.YtaajijommogaoaaW.PrintLast Go.Proofs.YtaajijommogaoaaW.PrintMore
attribute [local go_sem] max2_int min2_int max_two min_two max_three min_three max_four min_four   -- for this text's walks alone
set_option linter.unusedVariables false
set_option linter.unusedSimpArgs false

end Go.Proofs.Ytaajijommogaoaa.PIvlJoin
