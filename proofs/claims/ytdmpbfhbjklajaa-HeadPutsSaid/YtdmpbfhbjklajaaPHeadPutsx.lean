-- Written by wip/tools/myprint.py, a program of this session over the print tool: not a printed text of the kit's
import Derived.Test.YtdmpbfhbjklajaaPHeadPutsx0
import Derived.Test.YtdmpbfhbjklajaaPHeadPutsx1
import Derived.Test.YtdmpbfhbjklajaaPHeadPutsx2
import Derived.Test.YtdmpbfhbjklajaaPHeadPutsx3
import Derived.Test.YtdmpbfhbjklajaaPHeadPutsx4
namespace Go.Proofs.Ytdmpbfhbjklajaa.PHeadPuts
open Go.RowKit Go.Proofs.YtdmpbfhbjklajaaW.PrintWords Go.Proofs.YtdmpbfhbjklajaaW.PrintLast Go.Proofs.YtdmpbfhbjklajaaW.PrintMore
attribute [local go_sem] max2_int min2_int max_two min_two max_three min_three max_four min_four   -- for this text's walks alone
set_option linter.unusedVariables false
set_option linter.unusedSimpArgs false

end Go.Proofs.Ytdmpbfhbjklajaa.PHeadPuts
