import Derived.Shelf.Strconv.Itoa3
import Derived.Test.YtkjpbhncgjhfeaaDoorProg
namespace Go.Proofs
open Go.Shelf
def Tryd.lays171_ren : Go.Shelf.Ren := ⟨fun | 171 => 53 | 243 => 58 | 246 => 62 | 283 => 68 | 284 => 69 | 285 => 70 | 286 => 71 | 129 => 76 | 317 => 75 | 318 => 77 | 319 => 78 | 320 => 79 | 337 => 82 | 338 => 83 | n => n, fun | 3 => 3 | 9 => 9 | 2 => 2 | 4 => 4 | 171 => 85 | 0 => 0 | 53 => 86 | 37 => 22 | 5 => 5 | 173 => 89 | 212 => 98 | 51 => 99 | 20 => 20 | 213 => 100 | 46 => 68 | 232 => 110 | 233 => 111 | n => n, fun | 17 => 3 | 18 => 4 | 19 => 5 | n => n⟩
theorem Tryd.lays171 : Go.Proofs.Lays.n171 Tryd.prog Tryd.lays171_ren := {
 mixed := by kernel_rfl
 f129 := Tryd.func76.trans (congrArg some (by kernel_rfl))
 f171 := Tryd.func53.trans (congrArg some (by kernel_rfl))
 f243 := Tryd.func58.trans (congrArg some (by kernel_rfl))
 f246 := Tryd.func62.trans (congrArg some (by kernel_rfl))
 f283 := Tryd.func68.trans (congrArg some (by kernel_rfl))
 f284 := Tryd.func69.trans (congrArg some (by kernel_rfl))
 f285 := Tryd.func70.trans (congrArg some (by kernel_rfl))
 f286 := Tryd.func71.trans (congrArg some (by kernel_rfl))
 f317 := Tryd.func75.trans (congrArg some (by kernel_rfl))
 f318 := Tryd.func77.trans (congrArg some (by kernel_rfl))
 f319 := Tryd.func78.trans (congrArg some (by kernel_rfl))
 f320 := Tryd.func79.trans (congrArg some (by kernel_rfl))
 f337 := Tryd.func82.trans (congrArg some (by kernel_rfl))
 f338 := Tryd.func83.trans (congrArg some (by kernel_rfl))
 t0 := Tryd.underlying0
 a0 := Tryd.isAgg0
 z0 := Tryd.sizeOf0
 v0 := Tryd.zeroValue0
 t2 := Tryd.underlying2
 a2 := Tryd.isAgg2
 z2 := Tryd.sizeOf2
 v2 := Tryd.zeroValue2
 t3 := Tryd.underlying3
 a3 := Tryd.isAgg3
 z3 := Tryd.sizeOf3
 v3 := Tryd.zeroValue3
 t4 := Tryd.underlying4
 a4 := Tryd.isAgg4
 z4 := Tryd.sizeOf4
 v4 := Tryd.zeroValue4
 t5 := Tryd.underlying5
 a5 := Tryd.isAgg5
 z5 := Tryd.sizeOf5
 v5 := Tryd.zeroValue5
 t9 := Tryd.underlying9
 a9 := Tryd.isAgg9
 z9 := Tryd.sizeOf9
 v9 := Tryd.zeroValue9
 t20 := Tryd.underlying20
 a20 := Tryd.isAgg20
 z20 := Tryd.sizeOf20
 v20 := Tryd.zeroValue20
 t37 := Tryd.underlying22
 a37 := Tryd.isAgg22
 z37 := Tryd.sizeOf22
 v37 := Tryd.zeroValue22
 t46 := Tryd.underlying68
 a46 := Tryd.isAgg68
 z46 := Tryd.sizeOf68
 v46 := Tryd.zeroValue68
 t51 := Tryd.underlying99
 a51 := Tryd.isAgg99
 z51 := Tryd.sizeOf99
 v51 := Tryd.zeroValue99
 t53 := Tryd.underlying86
 a53 := Tryd.isAgg86
 z53 := Tryd.sizeOf86
 v53 := Tryd.zeroValue86
 t171 := Tryd.underlying85
 a171 := Tryd.isAgg85
 z171 := Tryd.sizeOf85
 v171 := Tryd.zeroValue85
 t173 := Tryd.underlying89
 a173 := Tryd.isAgg89
 z173 := Tryd.sizeOf89
 v173 := Tryd.zeroValue89
 t212 := Tryd.underlying98
 a212 := Tryd.isAgg98
 z212 := Tryd.sizeOf98
 v212 := Tryd.zeroValue98
 t213 := Tryd.underlying100
 a213 := Tryd.isAgg100
 z213 := Tryd.sizeOf100
 t232 := Tryd.underlying110
 a232 := Tryd.isAgg110
 z232 := Tryd.sizeOf110
 v232 := Tryd.zeroValue110
 t233 := Tryd.underlying111
 a233 := Tryd.isAgg111
 z233 := Tryd.sizeOf111
 v233 := Tryd.zeroValue111
 g17 := by kernel_rfl
 g18 := by kernel_rfl
 g19 := by kernel_rfl }
open Go.RowKit Go.Sort Go.Lib in
theorem Tryd.strconv_Itoa_small (i : Nat) (hi : i < 100) (w : World) :
  Calls Tryd.prog 53 #[.int .i64 i] w fun e w' => e = .returned (.string ⟨(Lib.decDigits i).toArray⟩) ∧ w' = w := Any.strconv_Itoa_small Tryd.lays171 i hi w
end Go.Proofs
