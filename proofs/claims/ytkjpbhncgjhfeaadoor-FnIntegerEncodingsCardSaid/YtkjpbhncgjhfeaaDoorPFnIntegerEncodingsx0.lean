-- written for this claim by a program of this session (wip/patch_print.py over the kit's print)
import Derived.Test.YtkjpbhncgjhfeaaDoorProg
import Derived.Below
import Derived.Deep.Draws
import Derived.Deep.AppendLies
import Derived.Maps.AppendAt
import Derived.OwnWalk
import Derived.Laws.BytesArg
import Derived.Laws.MakeOwn
import Derived.Laws.OwnMore
import Derived.Deep.OwnRows
import Derived.Tactics
import Derived.Lib.ConvBytes
import Derived.Laws.Slices
import Derived.WalkKit
import Derived.KernelRfl
import Derived.RowKit3
import Derived.Deep.LoopGhost
import Derived.Deep.QuietTactic
import Derived.BigQuiet
import Derived.WideLaws
import Derived.Deep.DeepCutAuto
import Derived.Deep.CutBlock
import Derived.Deep.RegionHeld3
import Derived.Laws.Rows
import Derived.Lib.AppendStr
import Derived.ArgAppend
import Derived.Laws.IdiomCopy
import Derived.OrdersHeld
import Derived.Laws.BitsLemmas
import Derived.RowKit
import Derived.Lib.Strings
import Derived.Lib.Slices
import Derived.Lib.Walk
import Derived.Lib.Bytealg
import Derived.Deep.WholeRow
import Derived.BigRegion
import Derived.IntWalk
import Derived.Lib.SliceRun
import Derived.Laws.EntriesVeiled
import Derived.Test.YtkjpbhncgjhfeaaDoorHandNum
import Derived.Test.YtkjpbhncgjhfeaaDoorWWords
import Derived.Test.YtkjpbhncgjhfeaaDoorWLast
import Derived.Test.YtkjpbhncgjhfeaaDoorWTab
import Derived.Test.YtkjpbhncgjhfeaaDoorWFour
import Derived.Test.YtkjpbhncgjhfeaaDoorWQPut
import Derived.Test.YtkjpbhncgjhfeaaDoorWApart
import Derived.Test.YtkjpbhncgjhfeaaDoorWArr
import Derived.Test.YtkjpbhncgjhfeaaDoorWZeros
import Derived.Test.YtkjpbhncgjhfeaaDoorWFoot
import Derived.Test.YtkjpbhncgjhfeaaDoorWKept
import Derived.Test.YtkjpbhncgjhfeaaDoorWShare
import Derived.Test.YtkjpbhncgjhfeaaDoorWN
import Derived.Test.YtkjpbhncgjhfeaaDoorWFootNe
import Derived.Test.YtkjpbhncgjhfeaaDoorWAt
import Derived.Test.YtkjpbhncgjhfeaaDoorWEqStruct
import Derived.Test.YtkjpbhncgjhfeaaDoorWRepsOne
import Derived.Test.YtkjpbhncgjhfeaaDoorWInv
import Derived.Test.YtkjpbhncgjhfeaaDoorWInvWords
import Derived.Test.YtkjpbhncgjhfeaaDoorWGuard
import Derived.Test.YtkjpbhncgjhfeaaDoorWNEv
import Derived.Test.YtkjpbhncgjhfeaaDoorWMore
namespace Go.Proofs.YtkjpbhncgjhfeaaDoor.PFnIntegerEncodings
open Go.RowKit Go.Proofs.YtkjpbhncgjhfeaaDoorW.PrintWords Go.Proofs.YtkjpbhncgjhfeaaDoorW.PrintLast Go.Proofs.YtkjpbhncgjhfeaaDoorW.PrintMore
attribute [local go_sem] max2_int min2_int max_two min_two max_three min_three max_four min_four   -- for this text's walks alone
set_option linter.unusedVariables false
set_option linter.unusedSimpArgs false



def errW : Option Int → Value
  | none => .nilIface
  | some c => .iface 0 (.int .i64 c)
theorem errW_none : errW none = .nilIface := rfl
theorem errW_some (c : Int) : errW (some c) = .iface 0 (.int .i64 c) := rfl

theorem info3 : (Tryd.prog.info? 3).map (fun i => (i.zero, i.size, i.bytes)) = some (some (.int .i64 0), 1, 8) := by kernel_rfl
theorem info5 : (Tryd.prog.info? 5).map (fun i => (i.zero, i.size, i.bytes)) = some (some (.int .u8 0), 1, 1) := by kernel_rfl
-- the values' own types

end Go.Proofs.YtkjpbhncgjhfeaaDoor.PFnIntegerEncodings
