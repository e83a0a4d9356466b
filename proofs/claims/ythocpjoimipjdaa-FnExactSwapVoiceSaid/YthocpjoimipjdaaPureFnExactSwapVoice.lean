/- For every byte, SwapVoice of the program and of the reference agree in both results. -/
import Derived.Test.YthocpjoimipjdaaPFnExactSwapVoicex1
import Derived.Test.YthocpjoimipjdaaBase
namespace Go.Proofs.Ythocpjoimipjdaa.Pure
open Go.RowKit Go.Proofs.Ythocpjoimipjdaa.PFnExactSwapVoice Go.Proofs.YthocpjoimipjdaaW.PrintWords Go.Proofs.YthocpjoimipjdaaW.PrintLast Go.Proofs.YthocpjoimipjdaaW.PrintMore Go.Proofs.Ythocpjoimipjdaa.Base
set_option linter.unusedVariables false
set_option linter.unusedSimpArgs false

/-! sounds -/
/-- Facts on single bytes, tried at each of the 256. -/
theorem byte_cases {P : Int → Prop} (h : ∀ n : Fin 256, P ((n.val : Nat) : Int)) {x : Int} (h0 : 0 ≤ x) (h1 : x ≤ 255) : P x := by
  obtain ⟨m, rfl⟩ := Int.eq_ofNat_of_zero_le h0
  exact h ⟨m, by omega⟩

theorem FnExactSwapVoice : laws_FnExactSwapVoice.Pure := by
  intro b hb
  obtain ⟨h0, h1⟩ := wfu8 hb
  refine byte_cases (P := fun b => laws_FnExactSwapVoice.f b = some true) ?_ h0 h1
  decide +kernel

end Go.Proofs.Ythocpjoimipjdaa.Pure
