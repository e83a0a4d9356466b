import Derived.Test.YtkjpbhncgjhfeaaWN
namespace Go.Proofs.YtkjpbhncgjhfeaaW.PrintWords
open Go.RowKit
namespace Kd
section
variable {α : Type} {d : Kd α} {W : World} {g n : Nat} {S ok : Nat → Prop} {A : Option Addr} {ad : Addr} {xs : List α}
end
end Kd
end Go.Proofs.YtkjpbhncgjhfeaaW.PrintWords
