import Derived.Test.YtkjpbhncgjhfeaaDoorWInv
import Derived.Test.YtkjpbhncgjhfeaaDoorWFootNe
namespace Go.Proofs.YtkjpbhncgjhfeaaDoorW.PrintWords
open Go.RowKit
end Go.Proofs.YtkjpbhncgjhfeaaDoorW.PrintWords
namespace Go.Proofs.YtkjpbhncgjhfeaaDoorW.PrintLast
section
variable {ops : Array Oper} {a : Act} {o og : Oper} {g : Nat} {t : Tmp} {u : Bool}
end
end Go.Proofs.YtkjpbhncgjhfeaaDoorW.PrintLast
