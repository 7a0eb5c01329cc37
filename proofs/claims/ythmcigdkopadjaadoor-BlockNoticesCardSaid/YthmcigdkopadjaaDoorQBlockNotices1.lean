/- Texts of this claim, laid together by wip/tools/squash.py: PBlockNoticesx0. -/
import Derived.Test.YthmcigdkopadjaaDoorQB3
import Derived.Test.YthmcigdkopadjaaDoorProg
import Derived.Below
import Derived.Deep.Draws
import Derived.Deep.AppendLies
import Derived.Maps.AppendAt
import Derived.OwnWalk
import Derived.Laws.BytesArg
import Derived.Laws.MakeOwn
import Derived.Laws.OwnMore
import Derived.Deep.OwnRows
import Derived.Tactics
import Derived.Lib.ConvBytes
import Derived.Laws.Slices
import Derived.WalkKit
import Derived.KernelRfl
import Derived.RowKit3
import Derived.Deep.LoopGhost
import Derived.Deep.QuietTactic
import Derived.BigQuiet
import Derived.WideLaws
import Derived.Deep.DeepCutAuto
import Derived.Deep.CutBlock
import Derived.Deep.RegionHeld3
import Derived.Laws.Rows
import Derived.Lib.AppendStr
import Derived.ArgAppend
import Derived.Laws.IdiomCopy
import Derived.OrdersHeld
import Derived.Laws.BitsLemmas
import Derived.RowKit
import Derived.Test.YthmcigdkopadjaaDoorWWords
import Derived.Test.YthmcigdkopadjaaDoorWLast
import Derived.Test.YthmcigdkopadjaaDoorWTab
import Derived.Test.YthmcigdkopadjaaDoorWFour
import Derived.Test.YthmcigdkopadjaaDoorWQPut
import Derived.Test.YthmcigdkopadjaaDoorWApart
import Derived.Test.YthmcigdkopadjaaDoorWArr
import Derived.Test.YthmcigdkopadjaaDoorWZeros
import Derived.Test.YthmcigdkopadjaaDoorWFoot
import Derived.Test.YthmcigdkopadjaaDoorWKept
import Derived.Test.YthmcigdkopadjaaDoorWShare
import Derived.Test.YthmcigdkopadjaaDoorWN
import Derived.Test.YthmcigdkopadjaaDoorWFootNe
import Derived.Test.YthmcigdkopadjaaDoorWAt
import Derived.Test.YthmcigdkopadjaaDoorWEqStruct
import Derived.Test.YthmcigdkopadjaaDoorWRepsOne
import Derived.Test.YthmcigdkopadjaaDoorWInv
import Derived.Test.YthmcigdkopadjaaDoorWInvWords
import Derived.Test.YthmcigdkopadjaaDoorWGuard
import Derived.Test.YthmcigdkopadjaaDoorWNEv
import Derived.Test.YthmcigdkopadjaaDoorWMore

-- Written by wip/tools/myprint.py, a program of this session over the print tool: not a printed text of the kit's
section
namespace Go.Proofs.YthmcigdkopadjaaDoor.PBlockNotices
open Go.RowKit Go.Proofs.YthmcigdkopadjaaDoorW.PrintWords Go.Proofs.YthmcigdkopadjaaDoorW.PrintLast Go.Proofs.YthmcigdkopadjaaDoorW.PrintMore
attribute [local go_sem] max2_int min2_int max_two min_two max_three min_three max_four min_four   -- for this text's walks alone
set_option linter.unusedVariables false
set_option linter.unusedSimpArgs false



def errW : Option Int → Value
  | none => .nilIface
  | some c => .iface 0 (.int .i64 c)
theorem errW_none : errW none = .nilIface := rfl
theorem errW_some (c : Int) : errW (some c) = .iface 0 (.int .i64 c) := rfl

-- the values' own types

end Go.Proofs.YthmcigdkopadjaaDoor.PBlockNotices
end
