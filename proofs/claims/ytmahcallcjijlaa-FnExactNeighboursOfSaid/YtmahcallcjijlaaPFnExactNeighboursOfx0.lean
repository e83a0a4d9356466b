-- written for this claim by a program of this session (wip/patch_print.py over the kit's print)
import Derived.Test.YtmahcallcjijlaaProg
import Derived.Below
import Derived.Deep.Draws
import Derived.Deep.AppendLies
import Derived.Maps.AppendAt
import Derived.OwnWalk
import Derived.Laws.BytesArg
import Derived.Laws.MakeOwn
import Derived.Laws.OwnMore
import Derived.Deep.OwnRows
import Derived.Tactics
import Derived.Lib.ConvBytes
import Derived.Laws.Slices
import Derived.WalkKit
import Derived.KernelRfl
import Derived.RowKit3
import Derived.Deep.LoopGhost
import Derived.Deep.QuietTactic
import Derived.BigQuiet
import Derived.WideLaws
import Derived.Deep.DeepCutAuto
import Derived.Deep.CutBlock
import Derived.Deep.RegionHeld3
import Derived.Laws.Rows
import Derived.Lib.AppendStr
import Derived.ArgAppend
import Derived.Laws.IdiomCopy
import Derived.OrdersHeld
import Derived.Laws.BitsLemmas
import Derived.RowKit
import Derived.Lib.Strings
import Derived.Lib.Slices
import Derived.Lib.Walk
import Derived.Lib.Bytealg
import Derived.Test.YtmahcallcjijlaaWWords
import Derived.Test.YtmahcallcjijlaaWLast
import Derived.Test.YtmahcallcjijlaaWTab
import Derived.Test.YtmahcallcjijlaaWFour
import Derived.Test.YtmahcallcjijlaaWQPut
import Derived.Test.YtmahcallcjijlaaWApart
import Derived.Test.YtmahcallcjijlaaWArr
import Derived.Test.YtmahcallcjijlaaWZeros
import Derived.Test.YtmahcallcjijlaaWFoot
import Derived.Test.YtmahcallcjijlaaWKept
import Derived.Test.YtmahcallcjijlaaWShare
import Derived.Test.YtmahcallcjijlaaWN
import Derived.Test.YtmahcallcjijlaaWFootNe
import Derived.Test.YtmahcallcjijlaaWAt
import Derived.Test.YtmahcallcjijlaaWEqStruct
import Derived.Test.YtmahcallcjijlaaWRepsOne
import Derived.Test.YtmahcallcjijlaaWInv
import Derived.Test.YtmahcallcjijlaaWInvWords
import Derived.Test.YtmahcallcjijlaaWGuard
import Derived.Test.YtmahcallcjijlaaWNEv
import Derived.Test.YtmahcallcjijlaaWMore
namespace Go.Proofs.Ytmahcallcjijlaa.PFnExactNeighboursOf
open Go.RowKit Go.Proofs.YtmahcallcjijlaaW.PrintWords Go.Proofs.YtmahcallcjijlaaW.PrintLast Go.Proofs.YtmahcallcjijlaaW.PrintMore
attribute [local go_sem] max2_int min2_int max_two min_two max_three min_three max_four min_four   -- for this text's walks alone
set_option linter.unusedVariables false
set_option linter.unusedSimpArgs false



def errW : Option Int → Value
  | none => .nilIface
  | some c => .iface 0 (.int .i64 c)
theorem errW_none : errW none = .nilIface := rfl
theorem errW_some (c : Int) : errW (some c) = .iface 0 (.int .i64 c) := rfl

theorem info5 : (Try.prog.info? 5).map (fun i => (i.zero, i.size, i.bytes)) = some (some (.int .u8 0), 1, 1) := by kernel_rfl
theorem info9 : (Try.prog.info? 9).map (fun i => (i.zero, i.size, i.bytes)) = some (some (.string ⟨#[]⟩), 1, 16) := by kernel_rfl
-- the values' own types

end Go.Proofs.Ytmahcallcjijlaa.PFnExactNeighboursOf
