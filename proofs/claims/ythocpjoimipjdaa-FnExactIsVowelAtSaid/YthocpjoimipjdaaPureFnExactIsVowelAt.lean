/- For every string and place, IsVowelAt of the program and of the reference agree. -/
import Derived.Test.YthocpjoimipjdaaPFnExactIsVowelAtx1
import Derived.Test.YthocpjoimipjdaaBase
namespace Go.Proofs.Ythocpjoimipjdaa.Pure
open Go.RowKit Go.Proofs.Ythocpjoimipjdaa.PFnExactIsVowelAt Go.Proofs.YthocpjoimipjdaaW.PrintWords Go.Proofs.YthocpjoimipjdaaW.PrintLast Go.Proofs.YthocpjoimipjdaaW.PrintMore Go.Proofs.Ythocpjoimipjdaa.Base
set_option linter.unusedVariables false
set_option linter.unusedSimpArgs false

/-! sounds -/
/-- Facts on single bytes, tried at each of the 256. -/
theorem byte_cases {P : Int → Prop} (h : ∀ n : Fin 256, P ((n.val : Nat) : Int)) {x : Int} (h0 : 0 ≤ x) (h1 : x ≤ 255) : P x := by
  obtain ⟨m, rfl⟩ := Int.eq_ofNat_of_zero_le h0
  exact h ⟨m, by omega⟩

/-! within -/
theorem within_f (a b c : Int) : impl_within.f a b c = some (decide (b ≤ a ∧ a ≤ c)) := by
  unfold impl_within.f; by_cases h : b ≤ a
  · rw [if_pos h]; simp [h]
  · rw [if_neg h]; simp; omega

/-! feat -/
/-- Has the byte the feature? -/
def ft (x f : Int) : Bool :=
  if f = 0 then (x == 97 || x == 105) else if f = 1 then (x == 98 || x == 100 || x == 110 || x == 97 || x == 105) else if f = 2 then x == 110 else if f = 3 then (x == 112 || x == 98) else if f = 4 then x == 105 else false

theorem spec_HasFeature_f (x f : Int) : spec_HasFeature.f x f = some (ft x f) := by
  unfold spec_HasFeature.f ft
  repeat' split
  all_goals simp_all

theorem impl_HasFeature_f {x : Int} (h0 : 0 ≤ x) (h1 : x ≤ 255) (f : Int) : impl_HasFeature.f x f = some (ft x f) := by
  by_cases h : 0 ≤ f ∧ f ≤ 4
  · obtain rfl | rfl | rfl | rfl | rfl : f = 0 ∨ f = 1 ∨ f = 2 ∨ f = 3 ∨ f = 4 := by omega
    · refine byte_cases (P := fun x => impl_HasFeature.f x 0 = some (ft x 0)) ?_ h0 h1; decide +kernel
    · refine byte_cases (P := fun x => impl_HasFeature.f x 1 = some (ft x 1)) ?_ h0 h1; decide +kernel
    · refine byte_cases (P := fun x => impl_HasFeature.f x 2 = some (ft x 2)) ?_ h0 h1; decide +kernel
    · refine byte_cases (P := fun x => impl_HasFeature.f x 3 = some (ft x 3)) ?_ h0 h1; decide +kernel
    · refine byte_cases (P := fun x => impl_HasFeature.f x 4 = some (ft x 4)) ?_ h0 h1; decide +kernel
  · unfold impl_HasFeature.f
    rw [within_f]; simp only [Option.bind_some]
    rw [if_neg (by simpa using h)]
    unfold ft
    rw [if_neg (by omega), if_neg (by omega), if_neg (by omega), if_neg (by omega), if_neg (by omega)]

/-! vowelat -/
theorem impl_isVowel_f {x : Int} (h0 : 0 ≤ x) (h1 : x ≤ 255) : impl_isVowel.f x = some (ft x 0) := by
  unfold impl_isVowel.f; rw [impl_HasFeature_f h0 h1]; rfl
theorem impl_isVowel_bt (s : ByteArray) (i : Int) : impl_isVowel.f (bt s i) = some (ft (bt s i) 0) := impl_isVowel_f (bt_range s i).1 (bt_range s i).2
/-- Is there a vowel at the place? -/
def vat (s : ByteArray) (i : Int) : Bool := decide (0 ≤ i ∧ i < (s.size : Int)) && ft (bt s i) 0
theorem spec_IsVowelAt_f (s : ByteArray) (i : Int) : spec_IsVowelAt.f s i = some (vat s i) := by
  unfold spec_IsVowelAt.f vat
  by_cases h : 0 ≤ i
  · by_cases h2 : i < (s.size : Int)
    · rw [if_pos h, if_pos h2, if_pos h, spec_HasFeature_f]; simp [h, h2]
    · rw [if_pos h, if_neg h2]; simp [h2]
  · rw [if_neg h]; simp [h]

/-! ivowelat -/
theorem impl_IsVowelAt_f (s : ByteArray) (hs : s.size ≤ 140737488351232) (i : Int) : impl_IsVowelAt.f s i = some (vat s i) := by
  unfold impl_IsVowelAt.f vat
  rw [within_f, w64 (by omega) (by omega)]; simp only [Option.bind_some]
  by_cases h : 0 ≤ i ∧ i ≤ (s.size : Int) - 1
  · rw [if_pos (by simpa using h), if_pos h.1, if_pos (by omega), impl_isVowel_bt]
    have : i < (s.size : Int) := by omega
    simp [h.1, this]
  · rw [if_neg (by simpa using h)]
    have : ¬ (0 ≤ i ∧ i < (s.size : Int)) := by omega
    simp [this]

theorem FnExactIsVowelAt : laws_FnExactIsVowelAt.Pure := by
  intro s i hs hi
  unfold laws_FnExactIsVowelAt.f
  by_cases hn : (s.size : Int) > 1048576
  · rw [if_pos hn]
  · rw [if_neg hn, spec_IsVowelAt_f, impl_IsVowelAt_f s hs]
    simp

end Go.Proofs.Ythocpjoimipjdaa.Pure
