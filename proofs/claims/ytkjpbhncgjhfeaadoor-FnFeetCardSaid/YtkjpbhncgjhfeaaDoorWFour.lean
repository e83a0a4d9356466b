import Derived.Test.YtkjpbhncgjhfeaaDoorWTab
namespace Go.Proofs.YtkjpbhncgjhfeaaDoorW.PrintLast
section
variable {P : Program} {ops : Array Oper} {Q : Exit → Act → World → Prop} {md : Region.Mode} {S : World → Prop} {ds : List Nat} {T : Bool × List (List Nat × List Nat)}
end
end Go.Proofs.YtkjpbhncgjhfeaaDoorW.PrintLast
