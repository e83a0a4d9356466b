import Derived.Test.YtkjpbhncgjhfeaaWInv
import Derived.Test.YtkjpbhncgjhfeaaWFootNe
namespace Go.Proofs.YtkjpbhncgjhfeaaW.PrintWords
open Go.RowKit
end Go.Proofs.YtkjpbhncgjhfeaaW.PrintWords
namespace Go.Proofs.YtkjpbhncgjhfeaaW.PrintLast
section
variable {ops : Array Oper} {a : Act} {o og : Oper} {g : Nat} {t : Tmp} {u : Bool}
end
end Go.Proofs.YtkjpbhncgjhfeaaW.PrintLast
