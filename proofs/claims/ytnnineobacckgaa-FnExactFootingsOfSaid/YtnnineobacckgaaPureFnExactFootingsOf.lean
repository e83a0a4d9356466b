/- For every number, FootingsOf of the program and of the reference hand back the same footings, and what it hands back is its own. -/
import Derived.Test.YtnnineobacckgaaHandFnExactFootingsOf
import Derived.Test.YtnnineobacckgaaBase
import Derived.KernelRfl
namespace Go.Proofs.Ytnnineobacckgaa.Pure
open Go.RowKit Go.Proofs.Ytnnineobacckgaa.PFnExactFootingsOf Go.Proofs.YtnnineobacckgaaW.PrintWords Go.Proofs.YtnnineobacckgaaW.PrintLast Go.Proofs.YtnnineobacckgaaW.PrintMore Go.Proofs.Ytnnineobacckgaa.Base
set_option linter.unusedVariables false
set_option linter.unusedSimpArgs false


def GF (n : Int) : List S44 := impl_FootingsOf.restF n 10 0 []
def mkF (n : Int) : Int × List S44 := (markAllF 400 (GF n) 1).getD (0, [])
theorem F1s : spec_FootingsOf.f 400 1 = some (GF 1) := by kernel_rfl
theorem F2s : spec_FootingsOf.f 400 2 = some (GF 2) := by kernel_rfl
theorem F3s : spec_FootingsOf.f 400 3 = some (GF 3) := by kernel_rfl
theorem F4s : spec_FootingsOf.f 400 4 = some (GF 4) := by kernel_rfl
theorem F1e : laws_eqFootingS.f 400 (GF 1) (GF 1) = some true := by kernel_rfl
theorem F2e : laws_eqFootingS.f 400 (GF 2) (GF 2) = some true := by kernel_rfl
theorem F3e : laws_eqFootingS.f 400 (GF 3) (GF 3) = some true := by kernel_rfl
theorem F4e : laws_eqFootingS.f 400 (GF 4) (GF 4) = some true := by kernel_rfl
theorem F1m : markAllF 400 (GF 1) 1 = some ((mkF 1).1, (mkF 1).2) := by kernel_rfl
theorem F2m : markAllF 400 (GF 2) 1 = some ((mkF 2).1, (mkF 2).2) := by kernel_rfl
theorem F3m : markAllF 400 (GF 3) 1 = some ((mkF 3).1, (mkF 3).2) := by kernel_rfl
theorem F4m : markAllF 400 (GF 4) 1 = some ((mkF 4).1, (mkF 4).2) := by kernel_rfl
theorem F1h : laws_heldFootingS.f 400 (mkF 1).2 1 = some (mkF 1).1 := by kernel_rfl
theorem F2h : laws_heldFootingS.f 400 (mkF 2).2 1 = some (mkF 2).1 := by kernel_rfl
theorem F3h : laws_heldFootingS.f 400 (mkF 3).2 1 = some (mkF 3).1 := by kernel_rfl
theorem F4h : laws_heldFootingS.f 400 (mkF 4).2 1 = some (mkF 4).1 := by kernel_rfl
theorem Fm : 0 ≤ (mkF 1).1 ∧ 0 ≤ (mkF 2).1 ∧ 0 ≤ (mkF 3).1 ∧ 0 ≤ (mkF 4).1 := by decide +kernel
theorem Fl : (GF 1).length ≤ 1000000 ∧ (GF 2).length ≤ 1000000 ∧ (GF 3).length ≤ 1000000 ∧ (GF 4).length ≤ 1000000 := by decide +kernel
theorem FnExactFootingsOf : laws_FnExactFootingsOf.Pure := by
  intro n hw
  by_cases h : 1 ≤ n ∧ n ≤ 4
  · have e : impl_FootingsOf.f n = some (GF n) := by unfold impl_FootingsOf.f impl_FootingsOf.implF; rw [if_pos h]; rfl
    have hn : n = 1 ∨ n = 2 ∨ n = 3 ∨ n = 4 := by omega
    rcases hn with rfl | rfl | rfl | rfl
    · exact ⟨400, GF 1, _, _, F1s, e, F1e, F1m, F1h, Fm.1, Fl.1⟩
    · exact ⟨400, GF 2, _, _, F2s, e, F2e, F2m, F2h, Fm.2.1, Fl.2.1⟩
    · exact ⟨400, GF 3, _, _, F3s, e, F3e, F3m, F3h, Fm.2.2.1, Fl.2.2.1⟩
    · exact ⟨400, GF 4, _, _, F4s, e, F4e, F4m, F4h, Fm.2.2.2, Fl.2.2.2⟩
  · have e : impl_FootingsOf.f n = some [] := by unfold impl_FootingsOf.f impl_FootingsOf.implF; rw [if_neg h]
    have s : spec_FootingsOf.f 400 n = some [] := by
      unfold spec_FootingsOf.f spec_l1In.f
      simp only [Option.bind_some]
      by_cases h1 : n ≥ 1
      · rw [if_pos h1]
        simp only [Option.bind_some]
        rw [if_neg (by simp; omega)]
      · rw [if_neg h1]
        simp only [Option.bind_some]
        rw [if_neg (by decide)]
    exact ⟨400, [], [], 1, s, e, by decide +kernel, rfl, by decide +kernel, by decide, by decide⟩

end Go.Proofs.Ytnnineobacckgaa.Pure
