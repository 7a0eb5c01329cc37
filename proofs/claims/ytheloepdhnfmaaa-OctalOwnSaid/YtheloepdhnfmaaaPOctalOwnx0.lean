-- Written by wip/tools/myprint.py, a program of this session over the print tool: not a printed text of the kit's
import Derived.Test.YtheloepdhnfmaaaProg
import Derived.Below
import Derived.Deep.Draws
import Derived.Deep.AppendLies
import Derived.Maps.AppendAt
import Derived.OwnWalk
import Derived.Laws.BytesArg
import Derived.Laws.MakeOwn
import Derived.Laws.OwnMore
import Derived.Deep.OwnRows
import Derived.Tactics
import Derived.Lib.ConvBytes
import Derived.Laws.Slices
import Derived.WalkKit
import Derived.KernelRfl
import Derived.RowKit3
import Derived.Deep.LoopGhost
import Derived.Deep.QuietTactic
import Derived.BigQuiet
import Derived.WideLaws
import Derived.Deep.DeepCutAuto
import Derived.Deep.CutBlock
import Derived.Deep.RegionHeld3
import Derived.Laws.Rows
import Derived.Lib.AppendStr
import Derived.ArgAppend
import Derived.Laws.IdiomCopy
import Derived.OrdersHeld
import Derived.Laws.BitsLemmas
import Derived.RowKit
import Derived.Test.YtheloepdhnfmaaaWWords
import Derived.Test.YtheloepdhnfmaaaWLast
import Derived.Test.YtheloepdhnfmaaaWTab
import Derived.Test.YtheloepdhnfmaaaWFour
import Derived.Test.YtheloepdhnfmaaaWQPut
import Derived.Test.YtheloepdhnfmaaaWApart
import Derived.Test.YtheloepdhnfmaaaWArr
import Derived.Test.YtheloepdhnfmaaaWZeros
import Derived.Test.YtheloepdhnfmaaaWFoot
import Derived.Test.YtheloepdhnfmaaaWKept
import Derived.Test.YtheloepdhnfmaaaWShare
import Derived.Test.YtheloepdhnfmaaaWN
import Derived.Test.YtheloepdhnfmaaaWFootNe
import Derived.Test.YtheloepdhnfmaaaWAt
import Derived.Test.YtheloepdhnfmaaaWEqStruct
import Derived.Test.YtheloepdhnfmaaaWRepsOne
import Derived.Test.YtheloepdhnfmaaaWInv
import Derived.Test.YtheloepdhnfmaaaWInvWords
import Derived.Test.YtheloepdhnfmaaaWGuard
import Derived.Test.YtheloepdhnfmaaaWNEv
import Derived.Test.YtheloepdhnfmaaaWMore
namespace Go.Proofs.Ytheloepdhnfmaaa.POctalOwn
open Go.RowKit Go.Proofs.YtheloepdhnfmaaaW.PrintWords Go.Proofs.YtheloepdhnfmaaaW.PrintLast Go.Proofs.YtheloepdhnfmaaaW.PrintMore
attribute [local go_sem] max2_int min2_int max_two min_two max_three min_three max_four min_four   -- for this text's walks alone
set_option linter.unusedVariables false
set_option linter.unusedSimpArgs false
set_option maxRecDepth 20000



def errW : Option Int → Value
  | none => .nilIface
  | some c => .iface 0 (.int .i64 c)
theorem errW_none : errW none = .nilIface := rfl
theorem errW_some (c : Int) : errW (some c) = .iface 0 (.int .i64 c) := rfl

theorem info5 : (Try.prog.info? 5).map (fun i => (i.zero, i.size, i.bytes)) = some (some (.int .u8 0), 1, 1) := by kernel_rfl
-- the values' own types

end Go.Proofs.Ytheloepdhnfmaaa.POctalOwn
