/- For every number and both answers, SoundsWith of the program and of the reference hand back the same bytes. -/
import Derived.Test.YtnaehnenhnfecaaPFnExactSoundsWithx1
import Derived.Test.YtnaehnenhnfecaaBase
namespace Go.Proofs.Ytnaehnenhnfecaa.Pure
open Go.RowKit Go.Proofs.Ytnaehnenhnfecaa.PFnExactSoundsWith Go.Proofs.YtnaehnenhnfecaaW.PrintWords Go.Proofs.YtnaehnenhnfecaaW.PrintLast Go.Proofs.YtnaehnenhnfecaaW.PrintMore Go.Proofs.Ytnaehnenhnfecaa.Base
set_option linter.unusedVariables false
set_option linter.unusedSimpArgs false

/-! sounds -/
/-- Facts on single bytes, tried at each of the 256. -/
theorem byte_cases {P : Int → Prop} (h : ∀ n : Fin 256, P ((n.val : Nat) : Int)) {x : Int} (h0 : 0 ≤ x) (h1 : x ≤ 255) : P x := by
  obtain ⟨m, rfl⟩ := Int.eq_ofNat_of_zero_le h0
  exact h ⟨m, by omega⟩

/-! within -/
theorem within_f (a b c : Int) : impl_within.f a b c = some (decide (b ≤ a ∧ a ≤ c)) := by
  unfold impl_within.f; by_cases h : b ≤ a
  · rw [if_pos h]; simp [h]
  · rw [if_neg h]; simp; omega

/-! feat -/
/-- Has the byte the feature? -/
def ft (x f : Int) : Bool :=
  if f = 0 then (x == 97 || x == 105) else if f = 1 then (x == 98 || x == 100 || x == 110 || x == 97 || x == 105) else if f = 2 then x == 110 else if f = 3 then (x == 112 || x == 98) else if f = 4 then x == 105 else false

theorem spec_HasFeature_f (x f : Int) : spec_HasFeature.f x f = some (ft x f) := by
  unfold spec_HasFeature.f ft
  repeat' split
  all_goals simp_all

theorem impl_HasFeature_f {x : Int} (h0 : 0 ≤ x) (h1 : x ≤ 255) (f : Int) : impl_HasFeature.f x f = some (ft x f) := by
  by_cases h : 0 ≤ f ∧ f ≤ 4
  · obtain rfl | rfl | rfl | rfl | rfl : f = 0 ∨ f = 1 ∨ f = 2 ∨ f = 3 ∨ f = 4 := by omega
    · refine byte_cases (P := fun x => impl_HasFeature.f x 0 = some (ft x 0)) ?_ h0 h1; decide +kernel
    · refine byte_cases (P := fun x => impl_HasFeature.f x 1 = some (ft x 1)) ?_ h0 h1; decide +kernel
    · refine byte_cases (P := fun x => impl_HasFeature.f x 2 = some (ft x 2)) ?_ h0 h1; decide +kernel
    · refine byte_cases (P := fun x => impl_HasFeature.f x 3 = some (ft x 3)) ?_ h0 h1; decide +kernel
    · refine byte_cases (P := fun x => impl_HasFeature.f x 4 = some (ft x 4)) ?_ h0 h1; decide +kernel
  · unfold impl_HasFeature.f
    rw [within_f]; simp only [Option.bind_some]
    rw [if_neg (by simpa using h)]
    unfold ft
    rw [if_neg (by omega), if_neg (by omega), if_neg (by omega), if_neg (by omega), if_neg (by omega)]

/-! l1in -/
theorem l1In_f (a b c : Int) : spec_l1In.f a b c = some (decide (b ≤ a ∧ a ≤ c)) := by
  unfold spec_l1In.f; by_cases h : a ≥ b
  · rw [if_pos h]; simp [h]
  · rw [if_neg h]; simp; omega

/-! soundswith -/
theorem impl_sw_out (f : Int) (yes : Bool) (h : ¬ (0 ≤ f ∧ f ≤ 4)) (d : Nat) : ∀ (i k : Nat), i + d = 7 → d < k → impl_SoundsWith.l0 k f yes (⟨#[]⟩ : ByteArray) (i : Int) = some (⟨#[]⟩ : ByteArray) := by
  induction d with
  | zero =>
    intro i k hi hk
    obtain ⟨k, rfl⟩ : ∃ m, k = m + 1 := ⟨k - 1, by omega⟩
    simp only [impl_SoundsWith.l0]; rw [if_neg (by omega)]
  | succ d ih =>
    intro i k hi hk
    obtain ⟨k, rfl⟩ : ∃ m, k = m + 1 := ⟨k - 1, by omega⟩
    simp only [impl_SoundsWith.l0]
    rw [if_pos (by omega), within_f]; simp only [Option.bind_some]
    rw [if_neg (by simpa using h), nx (by omega)]
    exact ih (i + 1) k (by omega) (by omega)
/-- Both SoundsWith answer the same. -/
theorem soundswith (f : Int) (yes : Bool) {k : Nat} (hk : 20 ≤ k) : ∃ r, spec_SoundsWith.f k f yes = some r ∧ impl_SoundsWith.f k f yes = some r := by
  have up : ∀ r, spec_SoundsWith.f 20 f yes = some r → impl_SoundsWith.f 20 f yes = some r → ∃ r, spec_SoundsWith.f k f yes = some r ∧ impl_SoundsWith.f k f yes = some r := fun r h1 h2 =>
    ⟨r, at_rounds (g := fun k => spec_SoundsWith.f k f yes) (fun k => spec_SoundsWith.mono f yes k) hk h1, at_rounds (g := fun k => impl_SoundsWith.f k f yes) (fun k => impl_SoundsWith.mono f yes k) hk h2⟩
  by_cases h : 0 ≤ f ∧ f ≤ 4
  · have key : ∀ (f : Fin 5) (yes : Bool), (spec_SoundsWith.f 20 ((f.val : Nat) : Int) yes).isSome = true ∧ impl_SoundsWith.f 20 ((f.val : Nat) : Int) yes = spec_SoundsWith.f 20 ((f.val : Nat) : Int) yes := by decide +kernel
    obtain ⟨m, rfl⟩ := Int.eq_ofNat_of_zero_le h.1
    obtain ⟨k1, k2⟩ := key ⟨m, by omega⟩ yes
    obtain ⟨r, hr⟩ := Option.isSome_iff_exists.1 k1
    exact up r hr (k2.trans hr)
  · refine up (⟨#[]⟩ : ByteArray) ?_ (by have := impl_sw_out f yes h 7 0 20 (by omega) (by omega); exact this)
    simp only [spec_SoundsWith.f, spec_SoundsWith.l0]
    rw [if_pos (by omega), l1In_f]; simp only [Option.bind_some]
    have e : decide (0 ≤ f ∧ f ≤ 4) = false := by simpa using h
    rw [e]
    simp only [spec_SoundsWith.j1]
    rfl

theorem FnExactSoundsWith : laws_FnExactSoundsWith.Pure := by
  intro f yes hf
  refine ⟨20, ?_⟩
  obtain ⟨r, h1, h2⟩ := soundswith f yes (Nat.le_refl 20)
  unfold laws_FnExactSoundsWith.f
  rw [h1, h2]; simp

end Go.Proofs.Ytnaehnenhnfecaa.Pure
