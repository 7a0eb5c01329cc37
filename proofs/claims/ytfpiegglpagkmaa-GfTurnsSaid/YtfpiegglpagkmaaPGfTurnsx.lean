-- Written by wip/tools/myprint.py, a program of this session over the print tool: not a printed text of the kit's
import Derived.Test.YtfpiegglpagkmaaPGfTurnsx0
import Derived.Test.YtfpiegglpagkmaaPGfTurnsx1
namespace Go.Proofs.Ytfpiegglpagkmaa.PGfTurns
open Go.RowKit Go.Proofs.YtfpiegglpagkmaaW.PrintWords Go.Proofs.YtfpiegglpagkmaaW.PrintLast Go.Proofs.YtfpiegglpagkmaaW.PrintMore
attribute [local go_sem] max2_int min2_int max_two min_two max_three min_three max_four min_four   -- for this text's walks alone
set_option linter.unusedVariables false
set_option linter.unusedSimpArgs false

end Go.Proofs.Ytfpiegglpagkmaa.PGfTurns
