/- For every string, SkeletonOf of the program and of the reference hand back the same bytes. -/
import Derived.Test.YtnaehnenhnfecaaPFnExactSkeletonOfx2
import Derived.Test.YtnaehnenhnfecaaBase
namespace Go.Proofs.Ytnaehnenhnfecaa.Pure
open Go.RowKit Go.Proofs.Ytnaehnenhnfecaa.PFnExactSkeletonOf Go.Proofs.YtnaehnenhnfecaaW.PrintWords Go.Proofs.YtnaehnenhnfecaaW.PrintLast Go.Proofs.YtnaehnenhnfecaaW.PrintMore Go.Proofs.Ytnaehnenhnfecaa.Base
set_option linter.unusedVariables false
set_option linter.unusedSimpArgs false

/-! sounds -/
/-- Facts on single bytes, tried at each of the 256. -/
theorem byte_cases {P : Int → Prop} (h : ∀ n : Fin 256, P ((n.val : Nat) : Int)) {x : Int} (h0 : 0 ≤ x) (h1 : x ≤ 255) : P x := by
  obtain ⟨m, rfl⟩ := Int.eq_ofNat_of_zero_le h0
  exact h ⟨m, by omega⟩

/-! within -/
theorem within_f (a b c : Int) : impl_within.f a b c = some (decide (b ≤ a ∧ a ≤ c)) := by
  unfold impl_within.f; by_cases h : b ≤ a
  · rw [if_pos h]; simp [h]
  · rw [if_neg h]; simp; omega

/-! isform -/
/-- Is the byte a sound? -/
def snd (x : Int) : Bool := x == 112 || x == 116 || x == 98 || x == 100 || x == 110 || x == 97 || x == 105
theorem impl_IsSound_f {x : Int} (h0 : 0 ≤ x) (h1 : x ≤ 255) : impl_IsSound.f x = some (snd x) := by
  refine byte_cases (P := fun x => impl_IsSound.f x = some (snd x)) ?_ h0 h1; decide +kernel
theorem spec_IsSound_f {x : Int} (h0 : 0 ≤ x) (h1 : x ≤ 255) {k : Nat} (hk : 8 ≤ k) : spec_IsSound.f k x = some (snd x) := by
  have h : spec_IsSound.f 8 x = some (snd x) := by
    refine byte_cases (P := fun x => spec_IsSound.f 8 x = some (snd x)) ?_ h0 h1; decide +kernel
  exact at_rounds (g := fun k => spec_IsSound.f k x) (fun k => spec_IsSound.mono x k) hk h

/-- Are all bytes sounds? -/
def sndL (l : List Int) : Bool := l.all snd
theorem spec_l2Sounds_l0 (s : ByteArray) (hs : s.size ≤ 140737488351232) (d : Nat) : ∀ (i k : Nat), i + d = s.size → d + 8 < k →
    spec_l2Sounds.l0 k s (i : Int) = some (sndL ((bytesOf s).drop i) && decide (s.size ≤ 20)) := by
  induction d with
  | zero =>
    intro i k h hk
    obtain ⟨k, rfl⟩ : ∃ m, k = m + 1 := ⟨k - 1, by omega⟩
    simp only [spec_l2Sounds.l0]
    rw [if_neg (by omega), List.drop_of_length_le (by rw [bytesOf_length]; omega)]
    simp [sndL]; omega
  | succ d ih =>
    intro i k h hk
    obtain ⟨k, rfl⟩ : ∃ m, k = m + 1 := ⟨k - 1, by omega⟩
    obtain ⟨b0, b1⟩ := bt_range s (i : Int)
    have := ih (i + 1) k (by omega) (by omega)
    simp only [spec_l2Sounds.l0]
    rw [if_pos (by omega), if_pos (by omega), spec_IsSound_f b0 b1 (by omega), nx (by omega), drop_bt s i (by omega), this]
    simp only [Option.bind_some, sndL, List.all_cons]
    cases snd (bt s (i : Int)) <;> simp
theorem spec_l2Sounds_f (s : ByteArray) (hs : s.size ≤ 140737488351232) {k : Nat} (hk : s.size + 8 < k) : spec_l2Sounds.f k s = some (sndL (bytesOf s) && decide (s.size ≤ 20)) := by
  have := spec_l2Sounds_l0 s hs s.size 0 k (by omega) (by omega)
  simpa [spec_l2Sounds.f] using this
theorem impl_areSounds_l0 (s : ByteArray) (hs : s.size ≤ 140737488351232) (d : Nat) : ∀ (i k : Nat), i + d = s.size → d < k →
    impl_areSounds.l0 k s (s.size : Int) (i : Int) = some (sndL ((bytesOf s).drop i) && decide (1 ≤ s.size ∧ s.size ≤ 20)) := by
  induction d with
  | zero =>
    intro i k h hk
    obtain ⟨k, rfl⟩ : ∃ m, k = m + 1 := ⟨k - 1, by omega⟩
    simp only [impl_areSounds.l0]
    rw [if_neg (by omega), List.drop_of_length_le (by rw [bytesOf_length]; omega), within_f]
    have e : decide (1 ≤ (s.size : Int) ∧ (s.size : Int) ≤ 20) = decide (1 ≤ s.size ∧ s.size ≤ 20) := by rw [decide_eq_decide]; omega
    rw [e]; simp [sndL]
  | succ d ih =>
    intro i k h hk
    obtain ⟨k, rfl⟩ : ∃ m, k = m + 1 := ⟨k - 1, by omega⟩
    obtain ⟨b0, b1⟩ := bt_range s (i : Int)
    have := ih (i + 1) k (by omega) (by omega)
    simp only [impl_areSounds.l0]
    rw [if_pos (by omega), if_pos (by omega), if_pos (by omega), impl_IsSound_f b0 b1, nx (by omega), drop_bt s i (by omega), this]
    simp only [Option.bind_some, sndL, List.all_cons]
    cases snd (bt s (i : Int)) <;> simp
theorem impl_areSounds_f (s : ByteArray) (hs : s.size ≤ 140737488351232) {k : Nat} (hk : s.size < k) : impl_areSounds.f k s = some (sndL (bytesOf s) && decide (1 ≤ s.size ∧ s.size ≤ 20)) := by
  have := impl_areSounds_l0 s hs s.size 0 k (by omega) (by omega)
  simpa [impl_areSounds.f] using this
/-- Is the string a form? -/
def isf (s : ByteArray) : Bool := sndL (bytesOf s) && decide (s.size ≤ 8)

/-! isform2 -/
theorem spec_IsForm_f (s : ByteArray) (hs : s.size ≤ 140737488351232) {k : Nat} (hk : s.size + 8 < k) : spec_IsForm.f k s = some (isf s) := by
  unfold spec_IsForm.f isf
  rw [spec_l2Sounds_f s hs hk]; simp only [Option.bind_some]
  by_cases h : s.size ≤ 8
  · cases sndL (bytesOf s)
    · simp
    · simp [h, show s.size ≤ 20 from by omega]; omega
  · by_cases h2 : s.size ≤ 20
    · cases sndL (bytesOf s) <;> simp [h, h2] <;> omega
    · simp [h, h2]
theorem impl_IsForm_f (s : ByteArray) (hs : s.size ≤ 140737488351232) {k : Nat} (hk : s.size < k) : impl_IsForm.f k s = some (isf s) := by
  unfold impl_IsForm.f isf
  by_cases h : s.size = 0
  · rw [if_pos ((toList_nil_iff s).2 h)]
    have : bytesOf s = [] := List.eq_nil_of_length_eq_zero (by rw [bytesOf_length]; exact h)
    simp [this, sndL, h]
  · rw [if_neg (fun e => h ((toList_nil_iff s).1 e))]
    by_cases h8 : s.size ≤ 8
    · rw [if_pos (by omega), impl_areSounds_f s hs hk]
      have e : decide (1 ≤ s.size ∧ s.size ≤ 20) = true := by simp; omega
      simp [h8, e]
    · rw [if_neg (by omega)]; simp [h8]

/-! feat -/
/-- Has the byte the feature? -/
def ft (x f : Int) : Bool :=
  if f = 0 then (x == 97 || x == 105) else if f = 1 then (x == 98 || x == 100 || x == 110 || x == 97 || x == 105) else if f = 2 then x == 110 else if f = 3 then (x == 112 || x == 98) else if f = 4 then x == 105 else false

theorem spec_HasFeature_f (x f : Int) : spec_HasFeature.f x f = some (ft x f) := by
  unfold spec_HasFeature.f ft
  repeat' split
  all_goals simp_all

theorem impl_HasFeature_f {x : Int} (h0 : 0 ≤ x) (h1 : x ≤ 255) (f : Int) : impl_HasFeature.f x f = some (ft x f) := by
  by_cases h : 0 ≤ f ∧ f ≤ 4
  · obtain rfl | rfl | rfl | rfl | rfl : f = 0 ∨ f = 1 ∨ f = 2 ∨ f = 3 ∨ f = 4 := by omega
    · refine byte_cases (P := fun x => impl_HasFeature.f x 0 = some (ft x 0)) ?_ h0 h1; decide +kernel
    · refine byte_cases (P := fun x => impl_HasFeature.f x 1 = some (ft x 1)) ?_ h0 h1; decide +kernel
    · refine byte_cases (P := fun x => impl_HasFeature.f x 2 = some (ft x 2)) ?_ h0 h1; decide +kernel
    · refine byte_cases (P := fun x => impl_HasFeature.f x 3 = some (ft x 3)) ?_ h0 h1; decide +kernel
    · refine byte_cases (P := fun x => impl_HasFeature.f x 4 = some (ft x 4)) ?_ h0 h1; decide +kernel
  · unfold impl_HasFeature.f
    rw [within_f]; simp only [Option.bind_some]
    rw [if_neg (by simpa using h)]
    unfold ft
    rw [if_neg (by omega), if_neg (by omega), if_neg (by omega), if_neg (by omega), if_neg (by omega)]

/-! vowelat -/
theorem impl_isVowel_f {x : Int} (h0 : 0 ≤ x) (h1 : x ≤ 255) : impl_isVowel.f x = some (ft x 0) := by
  unfold impl_isVowel.f; rw [impl_HasFeature_f h0 h1]; rfl
theorem impl_isVowel_bt (s : ByteArray) (i : Int) : impl_isVowel.f (bt s i) = some (ft (bt s i) 0) := impl_isVowel_f (bt_range s i).1 (bt_range s i).2
/-- Is there a vowel at the place? -/
def vat (s : ByteArray) (i : Int) : Bool := decide (0 ≤ i ∧ i < (s.size : Int)) && ft (bt s i) 0
theorem spec_IsVowelAt_f (s : ByteArray) (i : Int) : spec_IsVowelAt.f s i = some (vat s i) := by
  unfold spec_IsVowelAt.f vat
  by_cases h : 0 ≤ i
  · by_cases h2 : i < (s.size : Int)
    · rw [if_pos h, if_pos h2, if_pos h, spec_HasFeature_f]; simp [h, h2]
    · rw [if_pos h, if_neg h2]; simp [h2]
  · rw [if_neg h]; simp [h]

/-! skeleton -/
/-- The letters of a skeleton. -/
def skl (l : List Int) : List Int := l.map fun x => if ft x 0 = true then 86 else 67
theorem skl_take (s : ByteArray) (i : Nat) (h : i < s.size) : skl ((bytesOf s).take (i + 1)) = skl ((bytesOf s).take i) ++ [if ft (bt s (i : Int)) 0 = true then 86 else 67] := by
  rw [take_bt s i h]; simp [skl]
theorem spec_skel_l0 (s : ByteArray) (hs : s.size ≤ 1048576) (d : Nat) : ∀ (i k : Nat), i + d = s.size → d < k →
    spec_SkeletonOf.l0 k s (strOfNums (skl ((bytesOf s).take i))) (i : Int) = some (strOfNums (skl (bytesOf s))) := by
  induction d with
  | zero =>
    intro i k h hk
    obtain ⟨k, rfl⟩ : ∃ m, k = m + 1 := ⟨k - 1, by omega⟩
    simp only [spec_SkeletonOf.l0]
    rw [if_neg (by omega), List.take_of_length_le (by rw [bytesOf_length]; omega)]
  | succ d ih =>
    intro i k h hk
    obtain ⟨k, rfl⟩ : ∃ m, k = m + 1 := ⟨k - 1, by omega⟩
    have := ih (i + 1) k (by omega) (by omega)
    rw [skl_take s i (by omega), ← str_append] at this
    have hl : (strOfNums (skl ((bytesOf s).take i))).size + 1 ≤ 9223372036854775807 := by simp [str_size, skl, bytesOf_length]; omega
    have hv : vat s (i : Int) = ft (bt s (i : Int)) 0 := by unfold vat; simp; omega
    simp only [spec_SkeletonOf.l0]
    rw [if_pos (by omega), spec_IsVowelAt_f, nx (by omega), hv]
    simp only [Option.bind_some]
    by_cases hb : ft (bt s (i : Int)) 0 = true
    · rw [if_pos hb] at this ⊢
      rw [if_pos hl]; exact this
    · rw [if_neg hb] at this ⊢
      rw [if_pos hl]; exact this
theorem impl_skel_l0 (s : ByteArray) (hs : s.size ≤ 1048576) (hf : isf s = true) (d : Nat) : ∀ (i k : Nat), i + d = s.size → d + s.size < k →
    impl_SkeletonOf.l0 k s (strOfNums (skl ((bytesOf s).take i))) (s.size : Int) (i : Int) = some (strOfNums (skl (bytesOf s))) := by
  induction d with
  | zero =>
    intro i k h hk
    obtain ⟨k, rfl⟩ : ∃ m, k = m + 1 := ⟨k - 1, by omega⟩
    simp only [impl_SkeletonOf.l0]
    rw [if_neg (by omega), List.take_of_length_le (by rw [bytesOf_length]; omega)]
  | succ d ih =>
    intro i k h hk
    obtain ⟨k, rfl⟩ : ∃ m, k = m + 1 := ⟨k - 1, by omega⟩
    have := ih (i + 1) k (by omega) (by omega)
    rw [skl_take s i (by omega), ← str_append] at this
    have hl : (strOfNums (skl ((bytesOf s).take i))).size + 1 ≤ 9223372036854775807 := by simp [str_size, skl, bytesOf_length]; omega
    simp only [impl_SkeletonOf.l0]
    rw [if_pos (by omega), impl_IsForm_f s (by omega) (by omega), hf]
    simp only [Option.bind_some, if_true]
    rw [if_pos (by omega), if_pos (by omega), impl_isVowel_bt, nx (by omega)]
    simp only [Option.bind_some]
    by_cases hb : ft (bt s (i : Int)) 0 = true
    · rw [if_pos hb] at this ⊢
      rw [if_pos hl]; exact this
    · rw [if_neg hb] at this ⊢
      rw [if_pos hl]; exact this
theorem impl_skel_no (s : ByteArray) (hs : s.size ≤ 1048576) (hf : isf s = false) (x : ByteArray) (d : Nat) : ∀ (i k : Nat), i + d = s.size → d + s.size < k →
    impl_SkeletonOf.l0 k s x (s.size : Int) (i : Int) = some x := by
  induction d with
  | zero =>
    intro i k h hk
    obtain ⟨k, rfl⟩ : ∃ m, k = m + 1 := ⟨k - 1, by omega⟩
    simp only [impl_SkeletonOf.l0]; rw [if_neg (by omega)]
  | succ d ih =>
    intro i k h hk
    obtain ⟨k, rfl⟩ : ∃ m, k = m + 1 := ⟨k - 1, by omega⟩
    simp only [impl_SkeletonOf.l0]
    rw [if_pos (by omega), impl_IsForm_f s (by omega) (by omega), hf]
    simp only [Option.bind_some]
    rw [if_neg (by simp), nx (by omega)]
    exact ih (i + 1) k (by omega) (by omega)
/-- What both SkeletonOf answer. -/
def skel (s : ByteArray) : ByteArray := if isf s = true then strOfNums (skl (bytesOf s)) else ⟨#[]⟩
theorem spec_SkeletonOf_f (s : ByteArray) (hs : s.size ≤ 1048576) {k : Nat} (hk : s.size + 8 < k) : spec_SkeletonOf.f k s = some (skel s) := by
  unfold spec_SkeletonOf.f skel
  rw [spec_IsForm_f s (by omega) hk]; simp only [Option.bind_some]
  by_cases h : isf s = true
  · rw [if_pos h, if_pos h]
    have := spec_skel_l0 s hs s.size 0 k (by omega) (by omega)
    exact this
  · rw [if_neg h, if_neg h]
theorem impl_SkeletonOf_f (s : ByteArray) (hs : s.size ≤ 1048576) {k : Nat} (hk : s.size + s.size < k) : impl_SkeletonOf.f k s = some (skel s) := by
  unfold impl_SkeletonOf.f skel
  by_cases h : isf s = true
  · rw [if_pos h]
    have := impl_skel_l0 s hs h s.size 0 k (by omega) (by omega)
    exact this
  · rw [if_neg h]
    have := impl_skel_no s hs (by simpa using h) ⟨#[]⟩ s.size 0 k (by omega) (by omega)
    exact this

theorem FnExactSkeletonOf : laws_FnExactSkeletonOf.Pure := by
  intro s hs
  refine ⟨s.size + s.size + 9, ?_⟩
  unfold laws_FnExactSkeletonOf.f
  by_cases hn : (s.size : Int) > 1048576
  · rw [if_pos hn]
  · rw [if_neg hn, spec_SkeletonOf_f s (by omega) (by omega), impl_SkeletonOf_f s (by omega) (by omega)]
    simp

end Go.Proofs.Ytnaehnenhnfecaa.Pure
