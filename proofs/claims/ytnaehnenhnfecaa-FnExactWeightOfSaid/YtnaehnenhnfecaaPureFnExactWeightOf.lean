/- For every syllable, WeightOf of the program and of the reference agree. -/
import Derived.Test.YtnaehnenhnfecaaPFnExactWeightOfx1
import Derived.Test.YtnaehnenhnfecaaBase
namespace Go.Proofs.Ytnaehnenhnfecaa.Pure
open Go.RowKit Go.Proofs.Ytnaehnenhnfecaa.PFnExactWeightOf Go.Proofs.YtnaehnenhnfecaaW.PrintWords Go.Proofs.YtnaehnenhnfecaaW.PrintLast Go.Proofs.YtnaehnenhnfecaaW.PrintMore Go.Proofs.Ytnaehnenhnfecaa.Base
set_option linter.unusedVariables false
set_option linter.unusedSimpArgs false

/-! szone -/
theorem sz_some (a b c : ByteArray) (n : Int) : ∃ t, laws_szSyllable.f a b c n = some t := by
  unfold laws_szSyllable.f
  repeat' split
  all_goals exact ⟨_, rfl⟩

theorem FnExactWeightOf : laws_FnExactWeightOf.Pure := by
  intro a b c _ _ _
  unfold laws_FnExactWeightOf.f
  obtain ⟨t, ht⟩ := sz_some a b c 1048576
  rw [ht]; simp only [Option.bind_some]
  by_cases h : t < 0
  · rw [if_pos h]
  · rw [if_neg h]
    simp only [laws_toSyllable.f, Option.bind_some]
    rw [show impl_WeightOf.f a b c = spec_WeightOf.f a b c from rfl]
    have : ∃ r, spec_WeightOf.f a b c = some r := by
      unfold spec_WeightOf.f
      repeat' split
      all_goals exact ⟨_, rfl⟩
    obtain ⟨r, hr⟩ := this
    rw [hr]; simp

end Go.Proofs.Ytnaehnenhnfecaa.Pure
