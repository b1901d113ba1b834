-- Written by a program of this session (wip/tools/myprint.py over the print of the kit).
import Derived.Test.YtelbmologkepeaaPPackAllx0
import Derived.Test.YtelbmologkepeaaPPackAllx1
import Derived.Test.YtelbmologkepeaaPPackAllx2
import Derived.Test.YtelbmologkepeaaPPackAllx3
import Derived.Test.YtelbmologkepeaaPPackAllx4
namespace Go.Proofs.Ytelbmologkepeaa.PPackAll
open Go.Proofs.Ytelbmologkepeaa.Ext
open Go.RowKit Go.Proofs.YtelbmologkepeaaW.PrintWords Go.Proofs.YtelbmologkepeaaW.PrintLast Go.Proofs.YtelbmologkepeaaW.PrintMore
attribute [local go_sem] max2_int min2_int max_two min_two max_three min_three max_four min_four   -- for this text's walks alone
set_option linter.unusedVariables false
set_option linter.unusedSimpArgs false

end Go.Proofs.Ytelbmologkepeaa.PPackAll
