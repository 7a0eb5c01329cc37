-- Written by wip/tools/myprint.py, a program of this session over the print tool: not a printed text of the kit's
import Derived.Test.YtheloepdhnfmaaaPOctalExactsx0
import Derived.Test.YtheloepdhnfmaaaPOctalExactsx1
import Derived.Test.YtheloepdhnfmaaaPOctalExactsx2
import Derived.Test.YtheloepdhnfmaaaPOctalExactsx3
import Derived.Test.YtheloepdhnfmaaaPOctalExactsx4
namespace Go.Proofs.Ytheloepdhnfmaaa.POctalExacts
open Go.RowKit Go.Proofs.YtheloepdhnfmaaaW.PrintWords Go.Proofs.YtheloepdhnfmaaaW.PrintLast Go.Proofs.YtheloepdhnfmaaaW.PrintMore
attribute [local go_sem] max2_int min2_int max_two min_two max_three min_three max_four min_four   -- for this text's walks alone
set_option linter.unusedVariables false
set_option linter.unusedSimpArgs false

end Go.Proofs.Ytheloepdhnfmaaa.POctalExacts
