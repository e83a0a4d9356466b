import Derived.Shelf.Strings.OnBuilder
import Derived.Test.YtkjpbhncgjhfeaaProg
namespace Go.Proofs
open Go.Shelf
def Try.lays156_ren : Go.Shelf.Ren := ⟨fun | 156 => 69 | 165 => 79 | 166 => 80 | 169 => 81 | 240 => 84 | 241 => 85 | 276 => 87 | 277 => 88 | n => n, fun | 31 => 25 | 9 => 9 | 3 => 3 | 4 => 4 | 0 => 0 | 20 => 20 | 72 => 78 | 76 => 82 | 70 => 76 | 37 => 22 | 75 => 81 | 127 => 87 | 164 => 88 | 5 => 5 | 80 => 84 | n => n, fun | n => n⟩
theorem Try.lays156 : Go.Proofs.Lays.n156 Try.prog Try.lays156_ren := {
 mixed := by kernel_rfl
 f156 := Try.func69.trans (congrArg some (by kernel_rfl))
 f165 := Try.func79.trans (congrArg some (by kernel_rfl))
 f166 := Try.func80.trans (congrArg some (by kernel_rfl))
 f169 := Try.func81.trans (congrArg some (by kernel_rfl))
 f240 := Try.func84.trans (congrArg some (by kernel_rfl))
 f241 := Try.func85.trans (congrArg some (by kernel_rfl))
 f276 := Try.func87.trans (congrArg some (by kernel_rfl))
 f277 := Try.func88.trans (congrArg some (by kernel_rfl))
 t0 := Try.underlying0
 a0 := Try.isAgg0
 z0 := Try.sizeOf0
 v0 := Try.zeroValue0
 t3 := Try.underlying3
 a3 := Try.isAgg3
 z3 := Try.sizeOf3
 v3 := Try.zeroValue3
 t4 := Try.underlying4
 a4 := Try.isAgg4
 z4 := Try.sizeOf4
 v4 := Try.zeroValue4
 t9 := Try.underlying9
 a9 := Try.isAgg9
 z9 := Try.sizeOf9
 v9 := Try.zeroValue9
 t20 := Try.underlying20
 a20 := Try.isAgg20
 z20 := Try.sizeOf20
 v20 := Try.zeroValue20
 t31 := Try.underlying25
 a31 := Try.isAgg25
 z31 := Try.sizeOf25
 v31 := Try.zeroValue25
 t37 := Try.underlying22
 a37 := Try.isAgg22
 z37 := Try.sizeOf22
 v37 := Try.zeroValue22
 t70 := Try.underlying76
 a70 := Try.isAgg76
 z70 := Try.sizeOf76
 v70 := Try.zeroValue76
 t72 := Try.underlying78
 a72 := Try.isAgg78
 z72 := Try.sizeOf78
 v72 := Try.zeroValue78
 t75 := Try.underlying81
 a75 := Try.isAgg81
 z75 := Try.sizeOf81
 v75 := Try.zeroValue81
 t76 := Try.underlying82
 a76 := Try.isAgg82
 z76 := Try.sizeOf82
 v76 := Try.zeroValue82
 t127 := Try.underlying87
 a127 := Try.isAgg87
 z127 := Try.sizeOf87
 v127 := Try.zeroValue87
 t164 := Try.underlying88
 a164 := Try.isAgg88
 z164 := Try.sizeOf88
 v164 := Try.zeroValue88 }
theorem Try.Builder_Extra_156 : Builder.Extra Try.prog Try.lays156_ren := {
 sizeBuilder := by kernel_rfl
 liesBuilder := by kernel_rfl
 t5 := Try.underlying5
 a5 := Try.isAgg5
 z5 := Try.sizeOf5
 v5 := Try.zeroValue5
 infoByte := by kernel_rfl
 cellsByte := by kernel_rfl
 sizeByte := by kernel_rfl
 neB5 := by decide }
open Go.RowKit in
theorem Try.strings_Join_none (a : Option Addr) (c : Nat) (sep : ByteArray) (w : World) :
  Calls Try.prog 69 #[.slice a 0 c, .string sep] w fun e w' => e = .returned (.string ⟨#[]⟩) ∧ w' = w := Any.strings_Join_none Try.lays156 Try.Builder_Extra_156 a c sep w
open Go.RowKit in
theorem Try.strings_Join (bk o c : Nat) (xs : List ByteArray) (sep : ByteArray) (w : World) (hcells : ∀ (j : Nat) x, xs[j]? = some x → w.cell? ⟨bk, o + j, none⟩ = some (.string x)) (hbk : bk < w.heap.size) (hN : xs.length ≤ 140737488355328) (hcap : xs.length ≤ c) (hlen : (Lib.join (xs.map (·.data.toList)) sep.data.toList).length ≤ 140737488355328) :
  Calls Try.prog 69 #[.slice (some ⟨bk, o, none⟩) xs.length c, .string sep] w fun e w' => e = .returned (.string ⟨(Lib.join (xs.map (·.data.toList)) sep.data.toList).toArray⟩) ∧ Below w.heap.size w w' := Any.strings_Join Try.lays156 Try.Builder_Extra_156 bk o c xs sep w hcells hbk hN hcap hlen
end Go.Proofs
