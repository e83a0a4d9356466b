/- For every string, CountVowels of the program and of the reference agree. -/
import Derived.Test.YtnaehnenhnfecaaPFnExactCountVowelsx1
import Derived.Test.YtnaehnenhnfecaaBase
namespace Go.Proofs.Ytnaehnenhnfecaa.Pure
open Go.RowKit Go.Proofs.Ytnaehnenhnfecaa.PFnExactCountVowels Go.Proofs.YtnaehnenhnfecaaW.PrintWords Go.Proofs.YtnaehnenhnfecaaW.PrintLast Go.Proofs.YtnaehnenhnfecaaW.PrintMore Go.Proofs.Ytnaehnenhnfecaa.Base
set_option linter.unusedVariables false
set_option linter.unusedSimpArgs false

/-! sounds -/
/-- Facts on single bytes, tried at each of the 256. -/
theorem byte_cases {P : Int → Prop} (h : ∀ n : Fin 256, P ((n.val : Nat) : Int)) {x : Int} (h0 : 0 ≤ x) (h1 : x ≤ 255) : P x := by
  obtain ⟨m, rfl⟩ := Int.eq_ofNat_of_zero_le h0
  exact h ⟨m, by omega⟩

/-! within -/
theorem within_f (a b c : Int) : impl_within.f a b c = some (decide (b ≤ a ∧ a ≤ c)) := by
  unfold impl_within.f; by_cases h : b ≤ a
  · rw [if_pos h]; simp [h]
  · rw [if_neg h]; simp; omega

/-! feat -/
/-- Has the byte the feature? -/
def ft (x f : Int) : Bool :=
  if f = 0 then (x == 97 || x == 105) else if f = 1 then (x == 98 || x == 100 || x == 110 || x == 97 || x == 105) else if f = 2 then x == 110 else if f = 3 then (x == 112 || x == 98) else if f = 4 then x == 105 else false

theorem spec_HasFeature_f (x f : Int) : spec_HasFeature.f x f = some (ft x f) := by
  unfold spec_HasFeature.f ft
  repeat' split
  all_goals simp_all

theorem impl_HasFeature_f {x : Int} (h0 : 0 ≤ x) (h1 : x ≤ 255) (f : Int) : impl_HasFeature.f x f = some (ft x f) := by
  by_cases h : 0 ≤ f ∧ f ≤ 4
  · obtain rfl | rfl | rfl | rfl | rfl : f = 0 ∨ f = 1 ∨ f = 2 ∨ f = 3 ∨ f = 4 := by omega
    · refine byte_cases (P := fun x => impl_HasFeature.f x 0 = some (ft x 0)) ?_ h0 h1; decide +kernel
    · refine byte_cases (P := fun x => impl_HasFeature.f x 1 = some (ft x 1)) ?_ h0 h1; decide +kernel
    · refine byte_cases (P := fun x => impl_HasFeature.f x 2 = some (ft x 2)) ?_ h0 h1; decide +kernel
    · refine byte_cases (P := fun x => impl_HasFeature.f x 3 = some (ft x 3)) ?_ h0 h1; decide +kernel
    · refine byte_cases (P := fun x => impl_HasFeature.f x 4 = some (ft x 4)) ?_ h0 h1; decide +kernel
  · unfold impl_HasFeature.f
    rw [within_f]; simp only [Option.bind_some]
    rw [if_neg (by simpa using h)]
    unfold ft
    rw [if_neg (by omega), if_neg (by omega), if_neg (by omega), if_neg (by omega), if_neg (by omega)]

/-! vowelat -/
theorem impl_isVowel_f {x : Int} (h0 : 0 ≤ x) (h1 : x ≤ 255) : impl_isVowel.f x = some (ft x 0) := by
  unfold impl_isVowel.f; rw [impl_HasFeature_f h0 h1]; rfl
theorem impl_isVowel_bt (s : ByteArray) (i : Int) : impl_isVowel.f (bt s i) = some (ft (bt s i) 0) := impl_isVowel_f (bt_range s i).1 (bt_range s i).2
/-- Is there a vowel at the place? -/
def vat (s : ByteArray) (i : Int) : Bool := decide (0 ≤ i ∧ i < (s.size : Int)) && ft (bt s i) 0
theorem spec_IsVowelAt_f (s : ByteArray) (i : Int) : spec_IsVowelAt.f s i = some (vat s i) := by
  unfold spec_IsVowelAt.f vat
  by_cases h : 0 ≤ i
  · by_cases h2 : i < (s.size : Int)
    · rw [if_pos h, if_pos h2, if_pos h, spec_HasFeature_f]; simp [h, h2]
    · rw [if_pos h, if_neg h2]; simp [h2]
  · rw [if_neg h]; simp [h]

/-! cntvow -/
/-- How many vowels. -/
def vows (l : List Int) : Nat := l.countP fun x => ft x 0
theorem spec_cntvow_l0 (s : ByteArray) (hs : s.size ≤ 1048576) (d : Nat) : ∀ (i k n : Nat), i + d = s.size → d < k → n ≤ i →
    spec_CountVowels.l0 k s (n : Int) (i : Int) = some ((n + vows ((bytesOf s).drop i) : Nat) : Int) := by
  induction d with
  | zero =>
    intro i k n h hk hn
    obtain ⟨k, rfl⟩ : ∃ m, k = m + 1 := ⟨k - 1, by omega⟩
    simp only [spec_CountVowels.l0]
    rw [if_neg (by omega), List.drop_of_length_le (by rw [bytesOf_length]; omega)]
    simp [vows]
  | succ d ih =>
    intro i k n h hk hn
    obtain ⟨k, rfl⟩ : ∃ m, k = m + 1 := ⟨k - 1, by omega⟩
    simp only [spec_CountVowels.l0]
    rw [if_pos (by omega), spec_IsVowelAt_f, nx (i := i) (by omega), nx (i := n) (by omega)]
    have hv : vat s (i : Int) = ft (bt s (i : Int)) 0 := by unfold vat; simp; omega
    rw [hv, drop_bt s i (by omega)]
    simp only [Option.bind_some, vows, List.countP_cons]
    by_cases hb : ft (bt s (i : Int)) 0 = true
    · rw [if_pos hb, ih (i + 1) k (n + 1) (by omega) (by omega) (by omega)]
      simp only [hb, if_true, vows]; congr 2; omega
    · rw [if_neg hb, ih (i + 1) k n (by omega) (by omega) (by omega)]
      simp [hb, vows]
theorem impl_cntvow_l0 (s : ByteArray) (hs : s.size ≤ 1048576) (d : Nat) : ∀ (i k n : Nat), i + d = s.size → d < k → n ≤ i →
    impl_CountVowels.l0 k s (n : Int) (s.size : Int) (i : Int) = some ((n + vows ((bytesOf s).drop i) : Nat) : Int) := by
  induction d with
  | zero =>
    intro i k n h hk hn
    obtain ⟨k, rfl⟩ : ∃ m, k = m + 1 := ⟨k - 1, by omega⟩
    simp only [impl_CountVowels.l0]
    rw [if_neg (by omega), List.drop_of_length_le (by rw [bytesOf_length]; omega)]
    simp [vows]
  | succ d ih =>
    intro i k n h hk hn
    obtain ⟨k, rfl⟩ : ∃ m, k = m + 1 := ⟨k - 1, by omega⟩
    simp only [impl_CountVowels.l0]
    rw [if_pos (by omega), if_pos (by omega), if_pos (by omega), impl_isVowel_bt, nx (i := i) (by omega), nx (i := n) (by omega), drop_bt s i (by omega)]
    simp only [Option.bind_some, vows, List.countP_cons]
    by_cases hb : ft (bt s (i : Int)) 0 = true
    · rw [if_pos hb, ih (i + 1) k (n + 1) (by omega) (by omega) (by omega)]
      simp only [hb, if_true, vows]; congr 2; omega
    · rw [if_neg hb, ih (i + 1) k n (by omega) (by omega) (by omega)]
      simp [hb, vows]
theorem spec_CountVowels_f (s : ByteArray) (hs : s.size ≤ 1048576) {k : Nat} (hk : s.size < k) : spec_CountVowels.f k s = some (vows (bytesOf s) : Int) := by
  have := spec_cntvow_l0 s hs s.size 0 k 0 (by omega) (by omega) (by omega)
  simpa [spec_CountVowels.f] using this
theorem impl_CountVowels_f (s : ByteArray) (hs : s.size ≤ 1048576) {k : Nat} (hk : s.size < k) : impl_CountVowels.f k s = some (vows (bytesOf s) : Int) := by
  have := impl_cntvow_l0 s hs s.size 0 k 0 (by omega) (by omega) (by omega)
  simpa [impl_CountVowels.f] using this

theorem FnExactCountVowels : laws_FnExactCountVowels.Pure := by
  intro s hs
  refine ⟨s.size + 1, ?_⟩
  unfold laws_FnExactCountVowels.f
  by_cases hn : (s.size : Int) > 1048576
  · rw [if_pos hn]
  · rw [if_neg hn, spec_CountVowels_f s (by omega) (by omega), impl_CountVowels_f s (by omega) (by omega)]
    simp

end Go.Proofs.Ytnaehnenhnfecaa.Pure
