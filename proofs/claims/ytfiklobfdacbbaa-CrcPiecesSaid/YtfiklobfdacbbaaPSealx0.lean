-- Written by wip/tools/myprint.py, a program of this session over the print tool: not a printed text of the kit's
import Derived.Test.YtfiklobfdacbbaaProg
import Derived.Below
import Derived.Deep.Draws
import Derived.Deep.AppendLies
import Derived.Maps.AppendAt
import Derived.OwnWalk
import Derived.Laws.BytesArg
import Derived.Laws.MakeOwn
import Derived.Laws.OwnMore
import Derived.Deep.OwnRows
import Derived.Tactics
import Derived.Lib.ConvBytes
import Derived.Laws.Slices
import Derived.WalkKit
import Derived.KernelRfl
import Derived.RowKit3
import Derived.Deep.LoopGhost
import Derived.Deep.QuietTactic
import Derived.BigQuiet
import Derived.WideLaws
import Derived.Deep.DeepCutAuto
import Derived.Deep.CutBlock
import Derived.Deep.RegionHeld3
import Derived.Laws.Rows
import Derived.Lib.AppendStr
import Derived.ArgAppend
import Derived.Laws.IdiomCopy
import Derived.OrdersHeld
import Derived.Laws.BitsLemmas
import Derived.RowKit
import Derived.Test.YtfiklobfdacbbaaCrc
import Derived.Test.YtfiklobfdacbbaaClone
import Derived.Test.YtfiklobfdacbbaaWWords
import Derived.Test.YtfiklobfdacbbaaWLast
import Derived.Test.YtfiklobfdacbbaaWTab
import Derived.Test.YtfiklobfdacbbaaWFour
import Derived.Test.YtfiklobfdacbbaaWQPut
import Derived.Test.YtfiklobfdacbbaaWApart
import Derived.Test.YtfiklobfdacbbaaWArr
import Derived.Test.YtfiklobfdacbbaaWZeros
import Derived.Test.YtfiklobfdacbbaaWFoot
import Derived.Test.YtfiklobfdacbbaaWKept
import Derived.Test.YtfiklobfdacbbaaWShare
import Derived.Test.YtfiklobfdacbbaaWN
import Derived.Test.YtfiklobfdacbbaaWFootNe
import Derived.Test.YtfiklobfdacbbaaWAt
import Derived.Test.YtfiklobfdacbbaaWEqStruct
import Derived.Test.YtfiklobfdacbbaaWRepsOne
import Derived.Test.YtfiklobfdacbbaaWInv
import Derived.Test.YtfiklobfdacbbaaWInvWords
import Derived.Test.YtfiklobfdacbbaaWGuard
import Derived.Test.YtfiklobfdacbbaaWNEv
import Derived.Test.YtfiklobfdacbbaaWMore
namespace Go.Proofs.Ytfiklobfdacbbaa.PSeal
open Go.RowKit Go.Proofs.YtfiklobfdacbbaaW.PrintWords Go.Proofs.YtfiklobfdacbbaaW.PrintLast Go.Proofs.YtfiklobfdacbbaaW.PrintMore
attribute [local go_sem] max2_int min2_int max_two min_two max_three min_three max_four min_four   -- for this text's walks alone
set_option linter.unusedVariables false
set_option linter.unusedSimpArgs false



def errW : Option Int → Value
  | none => .nilIface
  | some c => .iface 0 (.int .i64 c)
theorem errW_none : errW none = .nilIface := rfl
theorem errW_some (c : Int) : errW (some c) = .iface 0 (.int .i64 c) := rfl

theorem info5 : (Try.prog.info? 5).map (fun i => (i.zero, i.size, i.bytes)) = some (some (.int .u8 0), 1, 1) := by kernel_rfl
-- the values' own types

end Go.Proofs.Ytfiklobfdacbbaa.PSeal
