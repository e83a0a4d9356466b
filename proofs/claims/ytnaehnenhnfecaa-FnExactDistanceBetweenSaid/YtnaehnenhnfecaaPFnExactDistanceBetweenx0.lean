-- written for this claim by a program of this session (wip/patch_print.py over the kit's print)
import Derived.Test.YtnaehnenhnfecaaProg
import Derived.Below
import Derived.Deep.Draws
import Derived.Deep.AppendLies
import Derived.Maps.AppendAt
import Derived.OwnWalk
import Derived.Laws.BytesArg
import Derived.Laws.MakeOwn
import Derived.Laws.OwnMore
import Derived.Deep.OwnRows
import Derived.Tactics
import Derived.Lib.ConvBytes
import Derived.Laws.Slices
import Derived.WalkKit
import Derived.KernelRfl
import Derived.RowKit3
import Derived.Deep.LoopGhost
import Derived.Deep.QuietTactic
import Derived.BigQuiet
import Derived.WideLaws
import Derived.Deep.DeepCutAuto
import Derived.Deep.CutBlock
import Derived.Deep.RegionHeld3
import Derived.Laws.Rows
import Derived.Lib.AppendStr
import Derived.ArgAppend
import Derived.Laws.IdiomCopy
import Derived.OrdersHeld
import Derived.Laws.BitsLemmas
import Derived.RowKit
import Derived.Lib.Strings
import Derived.Lib.Slices
import Derived.Lib.Walk
import Derived.Lib.Bytealg
import Derived.Deep.WholeRow
import Derived.BigRegion
import Derived.IntWalk
import Derived.Test.YtnaehnenhnfecaaWWords
import Derived.Test.YtnaehnenhnfecaaWLast
import Derived.Test.YtnaehnenhnfecaaWTab
import Derived.Test.YtnaehnenhnfecaaWFour
import Derived.Test.YtnaehnenhnfecaaWQPut
import Derived.Test.YtnaehnenhnfecaaWApart
import Derived.Test.YtnaehnenhnfecaaWArr
import Derived.Test.YtnaehnenhnfecaaWZeros
import Derived.Test.YtnaehnenhnfecaaWFoot
import Derived.Test.YtnaehnenhnfecaaWKept
import Derived.Test.YtnaehnenhnfecaaWShare
import Derived.Test.YtnaehnenhnfecaaWN
import Derived.Test.YtnaehnenhnfecaaWFootNe
import Derived.Test.YtnaehnenhnfecaaWAt
import Derived.Test.YtnaehnenhnfecaaWEqStruct
import Derived.Test.YtnaehnenhnfecaaWRepsOne
import Derived.Test.YtnaehnenhnfecaaWInv
import Derived.Test.YtnaehnenhnfecaaWInvWords
import Derived.Test.YtnaehnenhnfecaaWGuard
import Derived.Test.YtnaehnenhnfecaaWNEv
import Derived.Test.YtnaehnenhnfecaaWMore
namespace Go.Proofs.Ytnaehnenhnfecaa.PFnExactDistanceBetween
open Go.RowKit Go.Proofs.YtnaehnenhnfecaaW.PrintWords Go.Proofs.YtnaehnenhnfecaaW.PrintLast Go.Proofs.YtnaehnenhnfecaaW.PrintMore
attribute [local go_sem] max2_int min2_int max_two min_two max_three min_three max_four min_four   -- for this text's walks alone
set_option linter.unusedVariables false
set_option linter.unusedSimpArgs false



def errW : Option Int → Value
  | none => .nilIface
  | some c => .iface 0 (.int .i64 c)
theorem errW_none : errW none = .nilIface := rfl
theorem errW_some (c : Int) : errW (some c) = .iface 0 (.int .i64 c) := rfl

theorem info3 : (Try.prog.info? 3).map (fun i => (i.zero, i.size, i.bytes)) = some (some (.int .i64 0), 1, 8) := by kernel_rfl
-- the values' own types

end Go.Proofs.Ytnaehnenhnfecaa.PFnExactDistanceBetween
