import Derived.Test.YtkjpbhncgjhfeaaWTab
namespace Go.Proofs.YtkjpbhncgjhfeaaW.PrintLast
section
variable {P : Program} {ops : Array Oper} {Q : Exit → Act → World → Prop} {md : Region.Mode} {S : World → Prop} {ds : List Nat} {T : Bool × List (List Nat × List Nat)}
end
end Go.Proofs.YtkjpbhncgjhfeaaW.PrintLast
