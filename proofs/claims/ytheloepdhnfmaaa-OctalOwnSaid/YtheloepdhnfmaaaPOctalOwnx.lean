-- Written by wip/tools/myprint.py, a program of this session over the print tool: not a printed text of the kit's
import Derived.Test.YtheloepdhnfmaaaPOctalOwnx0
import Derived.Test.YtheloepdhnfmaaaPOctalOwnx1
import Derived.Test.YtheloepdhnfmaaaPOctalOwnx2
import Derived.Test.YtheloepdhnfmaaaPOctalOwnx3
namespace Go.Proofs.Ytheloepdhnfmaaa.POctalOwn
open Go.RowKit Go.Proofs.YtheloepdhnfmaaaW.PrintWords Go.Proofs.YtheloepdhnfmaaaW.PrintLast Go.Proofs.YtheloepdhnfmaaaW.PrintMore
attribute [local go_sem] max2_int min2_int max_two min_two max_three min_three max_four min_four   -- for this text's walks alone
set_option linter.unusedVariables false
set_option linter.unusedSimpArgs false
set_option maxRecDepth 20000

end Go.Proofs.Ytheloepdhnfmaaa.POctalOwn
