/- For every syllable, IsOpen of the program and of the reference agree. -/
import Derived.Test.YthocpjoimipjdaaPFnExactIsOpenx1
import Derived.Test.YthocpjoimipjdaaBase
namespace Go.Proofs.Ythocpjoimipjdaa.Pure
open Go.RowKit Go.Proofs.Ythocpjoimipjdaa.PFnExactIsOpen Go.Proofs.YthocpjoimipjdaaW.PrintWords Go.Proofs.YthocpjoimipjdaaW.PrintLast Go.Proofs.YthocpjoimipjdaaW.PrintMore Go.Proofs.Ythocpjoimipjdaa.Base
set_option linter.unusedVariables false
set_option linter.unusedSimpArgs false

/-! szone -/
theorem sz_some (a b c : ByteArray) (n : Int) : ∃ t, laws_szSyllable.f a b c n = some t := by
  unfold laws_szSyllable.f
  repeat' split
  all_goals exact ⟨_, rfl⟩

theorem FnExactIsOpen : laws_FnExactIsOpen.Pure := by
  intro a b c _ _ _
  unfold laws_FnExactIsOpen.f
  obtain ⟨t, ht⟩ := sz_some a b c 1048576
  rw [ht]; simp only [Option.bind_some]
  by_cases h : t < 0
  · rw [if_pos h]
  · rw [if_neg h]
    simp [laws_toSyllable.f, spec_IsOpen.f, impl_IsOpen.f]

end Go.Proofs.Ythocpjoimipjdaa.Pure
