import Derived.Test.YtkjpbhncgjhfeaaDoorRows
import Derived.LaidLaws
import Derived.KernelRfl
namespace Go.Proofs.YtkjpbhncgjhfeaaDoor.Laid
set_option linter.unusedVariables false
def tabCells : DataW Unit → Array Value
 | .agg l => (l.map fun
  | .lit (.int k n) => Value.int k n
  | _ => .bool false).toArray
 | _ => #[]
noncomputable def laidWorld (os : Os) : World :=
 let w0 := World.holding Tryd.prog os ⟨#[], #[], []⟩
 let put (h : Array Obj) (g : Nat) (cs : Array Value) : Array Obj := h.modify g fun
  | .cells _ t frozen => .cells cs t frozen
  | o => o
 { w0 with heap := put (put (put w0.heap 4 (tabCells Rows.laid_math_bits_deBruijn32tab)) 5 (tabCells Rows.laid_math_bits_deBruijn64tab)) 3 (tabCells Rows.laid_internal_strconv_uint64pow10) }
abbrev laid3 : List (String × DataW Unit) := [("math/bits.deBruijn32tab", Rows.laid_math_bits_deBruijn32tab), ("math/bits.deBruijn64tab", Rows.laid_math_bits_deBruijn64tab), ("internal/strconv.uint64pow10", Rows.laid_internal_strconv_uint64pow10)]
set_option maxRecDepth 1000000 in
theorem laidWorld_met (os : Os) (args : Array Value) : laidMet Tryd.prog laid3 ((laidWorld os).forCall (fun _ _ => 0) ⟨#[], args, []⟩).memory :=
 laidMet_of_run' 8 (by kernel_rfl) (by kernel_rfl)
end Go.Proofs.YtkjpbhncgjhfeaaDoor.Laid
