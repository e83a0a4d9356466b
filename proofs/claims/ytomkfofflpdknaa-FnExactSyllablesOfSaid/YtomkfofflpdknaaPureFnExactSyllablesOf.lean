/- For every string, SyllablesOf of the program and of the reference hand back the same list, and the list is the caller's own. -/
import Derived.Test.YtomkfofflpdknaaPFnExactSyllablesOfx6
import Derived.Test.YtomkfofflpdknaaBase
namespace Go.Proofs.Ytomkfofflpdknaa.Pure
open Go.RowKit Go.Proofs.Ytomkfofflpdknaa.PFnExactSyllablesOf Go.Proofs.YtomkfofflpdknaaW.PrintWords Go.Proofs.YtomkfofflpdknaaW.PrintLast Go.Proofs.YtomkfofflpdknaaW.PrintMore Go.Proofs.Ytomkfofflpdknaa.Base
set_option linter.unusedVariables false
set_option linter.unusedSimpArgs false

/-! sounds -/
/-- Facts on single bytes, tried at each of the 256. -/
theorem byte_cases {P : Int → Prop} (h : ∀ n : Fin 256, P ((n.val : Nat) : Int)) {x : Int} (h0 : 0 ≤ x) (h1 : x ≤ 255) : P x := by
  obtain ⟨m, rfl⟩ := Int.eq_ofNat_of_zero_le h0
  exact h ⟨m, by omega⟩

/-! within -/
theorem within_f (a b c : Int) : impl_within.f a b c = some (decide (b ≤ a ∧ a ≤ c)) := by
  unfold impl_within.f; by_cases h : b ≤ a
  · rw [if_pos h]; simp [h]
  · rw [if_neg h]; simp; omega

/-! isform -/
/-- Is the byte a sound? -/
def snd (x : Int) : Bool := x == 112 || x == 116 || x == 98 || x == 100 || x == 110 || x == 97 || x == 105
theorem impl_IsSound_f {x : Int} (h0 : 0 ≤ x) (h1 : x ≤ 255) : impl_IsSound.f x = some (snd x) := by
  refine byte_cases (P := fun x => impl_IsSound.f x = some (snd x)) ?_ h0 h1; decide +kernel
theorem spec_IsSound_f {x : Int} (h0 : 0 ≤ x) (h1 : x ≤ 255) {k : Nat} (hk : 8 ≤ k) : spec_IsSound.f k x = some (snd x) := by
  have h : spec_IsSound.f 8 x = some (snd x) := by
    refine byte_cases (P := fun x => spec_IsSound.f 8 x = some (snd x)) ?_ h0 h1; decide +kernel
  exact at_rounds (g := fun k => spec_IsSound.f k x) (fun k => spec_IsSound.mono x k) hk h

/-- Are all bytes sounds? -/
def sndL (l : List Int) : Bool := l.all snd
theorem spec_l2Sounds_l0 (s : ByteArray) (hs : s.size ≤ 140737488351232) (d : Nat) : ∀ (i k : Nat), i + d = s.size → d + 8 < k →
    spec_l2Sounds.l0 k s (i : Int) = some (sndL ((bytesOf s).drop i) && decide (s.size ≤ 20)) := by
  induction d with
  | zero =>
    intro i k h hk
    obtain ⟨k, rfl⟩ : ∃ m, k = m + 1 := ⟨k - 1, by omega⟩
    simp only [spec_l2Sounds.l0]
    rw [if_neg (by omega), List.drop_of_length_le (by rw [bytesOf_length]; omega)]
    simp [sndL]; omega
  | succ d ih =>
    intro i k h hk
    obtain ⟨k, rfl⟩ : ∃ m, k = m + 1 := ⟨k - 1, by omega⟩
    obtain ⟨b0, b1⟩ := bt_range s (i : Int)
    have := ih (i + 1) k (by omega) (by omega)
    simp only [spec_l2Sounds.l0]
    rw [if_pos (by omega), if_pos (by omega), spec_IsSound_f b0 b1 (by omega), nx (by omega), drop_bt s i (by omega), this]
    simp only [Option.bind_some, sndL, List.all_cons]
    cases snd (bt s (i : Int)) <;> simp
theorem spec_l2Sounds_f (s : ByteArray) (hs : s.size ≤ 140737488351232) {k : Nat} (hk : s.size + 8 < k) : spec_l2Sounds.f k s = some (sndL (bytesOf s) && decide (s.size ≤ 20)) := by
  have := spec_l2Sounds_l0 s hs s.size 0 k (by omega) (by omega)
  simpa [spec_l2Sounds.f] using this
theorem impl_areSounds_l0 (s : ByteArray) (hs : s.size ≤ 140737488351232) (d : Nat) : ∀ (i k : Nat), i + d = s.size → d < k →
    impl_areSounds.l0 k s (s.size : Int) (i : Int) = some (sndL ((bytesOf s).drop i) && decide (1 ≤ s.size ∧ s.size ≤ 20)) := by
  induction d with
  | zero =>
    intro i k h hk
    obtain ⟨k, rfl⟩ : ∃ m, k = m + 1 := ⟨k - 1, by omega⟩
    simp only [impl_areSounds.l0]
    rw [if_neg (by omega), List.drop_of_length_le (by rw [bytesOf_length]; omega), within_f]
    have e : decide (1 ≤ (s.size : Int) ∧ (s.size : Int) ≤ 20) = decide (1 ≤ s.size ∧ s.size ≤ 20) := by rw [decide_eq_decide]; omega
    rw [e]; simp [sndL]
  | succ d ih =>
    intro i k h hk
    obtain ⟨k, rfl⟩ : ∃ m, k = m + 1 := ⟨k - 1, by omega⟩
    obtain ⟨b0, b1⟩ := bt_range s (i : Int)
    have := ih (i + 1) k (by omega) (by omega)
    simp only [impl_areSounds.l0]
    rw [if_pos (by omega), if_pos (by omega), if_pos (by omega), impl_IsSound_f b0 b1, nx (by omega), drop_bt s i (by omega), this]
    simp only [Option.bind_some, sndL, List.all_cons]
    cases snd (bt s (i : Int)) <;> simp
theorem impl_areSounds_f (s : ByteArray) (hs : s.size ≤ 140737488351232) {k : Nat} (hk : s.size < k) : impl_areSounds.f k s = some (sndL (bytesOf s) && decide (1 ≤ s.size ∧ s.size ≤ 20)) := by
  have := impl_areSounds_l0 s hs s.size 0 k (by omega) (by omega)
  simpa [impl_areSounds.f] using this
/-- Is the string a form? -/
def isf (s : ByteArray) : Bool := sndL (bytesOf s) && decide (s.size ≤ 8)

/-! isform2 -/
theorem spec_IsForm_f (s : ByteArray) (hs : s.size ≤ 140737488351232) {k : Nat} (hk : s.size + 8 < k) : spec_IsForm.f k s = some (isf s) := by
  unfold spec_IsForm.f isf
  rw [spec_l2Sounds_f s hs hk]; simp only [Option.bind_some]
  by_cases h : s.size ≤ 8
  · cases sndL (bytesOf s)
    · simp
    · simp [h, show s.size ≤ 20 from by omega]; omega
  · by_cases h2 : s.size ≤ 20
    · cases sndL (bytesOf s) <;> simp [h, h2] <;> omega
    · simp [h, h2]
theorem impl_IsForm_f (s : ByteArray) (hs : s.size ≤ 140737488351232) {k : Nat} (hk : s.size < k) : impl_IsForm.f k s = some (isf s) := by
  unfold impl_IsForm.f isf
  by_cases h : s.size = 0
  · rw [if_pos ((toList_nil_iff s).2 h)]
    have : bytesOf s = [] := List.eq_nil_of_length_eq_zero (by rw [bytesOf_length]; exact h)
    simp [this, sndL, h]
  · rw [if_neg (fun e => h ((toList_nil_iff s).1 e))]
    by_cases h8 : s.size ≤ 8
    · rw [if_pos (by omega), impl_areSounds_f s hs hk]
      have e : decide (1 ≤ s.size ∧ s.size ≤ 20) = true := by simp; omega
      simp [h8, e]
    · rw [if_neg (by omega)]; simp [h8]

/-! feat -/
/-- Has the byte the feature? -/
def ft (x f : Int) : Bool :=
  if f = 0 then (x == 97 || x == 105) else if f = 1 then (x == 98 || x == 100 || x == 110 || x == 97 || x == 105) else if f = 2 then x == 110 else if f = 3 then (x == 112 || x == 98) else if f = 4 then x == 105 else false

theorem spec_HasFeature_f (x f : Int) : spec_HasFeature.f x f = some (ft x f) := by
  unfold spec_HasFeature.f ft
  repeat' split
  all_goals simp_all

theorem impl_HasFeature_f {x : Int} (h0 : 0 ≤ x) (h1 : x ≤ 255) (f : Int) : impl_HasFeature.f x f = some (ft x f) := by
  by_cases h : 0 ≤ f ∧ f ≤ 4
  · obtain rfl | rfl | rfl | rfl | rfl : f = 0 ∨ f = 1 ∨ f = 2 ∨ f = 3 ∨ f = 4 := by omega
    · refine byte_cases (P := fun x => impl_HasFeature.f x 0 = some (ft x 0)) ?_ h0 h1; decide +kernel
    · refine byte_cases (P := fun x => impl_HasFeature.f x 1 = some (ft x 1)) ?_ h0 h1; decide +kernel
    · refine byte_cases (P := fun x => impl_HasFeature.f x 2 = some (ft x 2)) ?_ h0 h1; decide +kernel
    · refine byte_cases (P := fun x => impl_HasFeature.f x 3 = some (ft x 3)) ?_ h0 h1; decide +kernel
    · refine byte_cases (P := fun x => impl_HasFeature.f x 4 = some (ft x 4)) ?_ h0 h1; decide +kernel
  · unfold impl_HasFeature.f
    rw [within_f]; simp only [Option.bind_some]
    rw [if_neg (by simpa using h)]
    unfold ft
    rw [if_neg (by omega), if_neg (by omega), if_neg (by omega), if_neg (by omega), if_neg (by omega)]

/-! vowelat -/
theorem impl_isVowel_f {x : Int} (h0 : 0 ≤ x) (h1 : x ≤ 255) : impl_isVowel.f x = some (ft x 0) := by
  unfold impl_isVowel.f; rw [impl_HasFeature_f h0 h1]; rfl
theorem impl_isVowel_bt (s : ByteArray) (i : Int) : impl_isVowel.f (bt s i) = some (ft (bt s i) 0) := impl_isVowel_f (bt_range s i).1 (bt_range s i).2
/-- Is there a vowel at the place? -/
def vat (s : ByteArray) (i : Int) : Bool := decide (0 ≤ i ∧ i < (s.size : Int)) && ft (bt s i) 0
theorem spec_IsVowelAt_f (s : ByteArray) (i : Int) : spec_IsVowelAt.f s i = some (vat s i) := by
  unfold spec_IsVowelAt.f vat
  by_cases h : 0 ≤ i
  · by_cases h2 : i < (s.size : Int)
    · rw [if_pos h, if_pos h2, if_pos h, spec_HasFeature_f]; simp [h, h2]
    · rw [if_pos h, if_neg h2]; simp [h2]
  · rw [if_neg h]; simp [h]

/-! cntvow -/
/-- How many vowels. -/
def vows (l : List Int) : Nat := l.countP fun x => ft x 0
theorem spec_cntvow_l0 (s : ByteArray) (hs : s.size ≤ 1048576) (d : Nat) : ∀ (i k n : Nat), i + d = s.size → d < k → n ≤ i →
    spec_CountVowels.l0 k s (n : Int) (i : Int) = some ((n + vows ((bytesOf s).drop i) : Nat) : Int) := by
  induction d with
  | zero =>
    intro i k n h hk hn
    obtain ⟨k, rfl⟩ : ∃ m, k = m + 1 := ⟨k - 1, by omega⟩
    simp only [spec_CountVowels.l0]
    rw [if_neg (by omega), List.drop_of_length_le (by rw [bytesOf_length]; omega)]
    simp [vows]
  | succ d ih =>
    intro i k n h hk hn
    obtain ⟨k, rfl⟩ : ∃ m, k = m + 1 := ⟨k - 1, by omega⟩
    simp only [spec_CountVowels.l0]
    rw [if_pos (by omega), spec_IsVowelAt_f, nx (i := i) (by omega), nx (i := n) (by omega)]
    have hv : vat s (i : Int) = ft (bt s (i : Int)) 0 := by unfold vat; simp; omega
    rw [hv, drop_bt s i (by omega)]
    simp only [Option.bind_some, vows, List.countP_cons]
    by_cases hb : ft (bt s (i : Int)) 0 = true
    · rw [if_pos hb, ih (i + 1) k (n + 1) (by omega) (by omega) (by omega)]
      simp only [hb, if_true, vows]; congr 2; omega
    · rw [if_neg hb, ih (i + 1) k n (by omega) (by omega) (by omega)]
      simp [hb, vows]
theorem impl_cntvow_l0 (s : ByteArray) (hs : s.size ≤ 1048576) (d : Nat) : ∀ (i k n : Nat), i + d = s.size → d < k → n ≤ i →
    impl_CountVowels.l0 k s (n : Int) (s.size : Int) (i : Int) = some ((n + vows ((bytesOf s).drop i) : Nat) : Int) := by
  induction d with
  | zero =>
    intro i k n h hk hn
    obtain ⟨k, rfl⟩ : ∃ m, k = m + 1 := ⟨k - 1, by omega⟩
    simp only [impl_CountVowels.l0]
    rw [if_neg (by omega), List.drop_of_length_le (by rw [bytesOf_length]; omega)]
    simp [vows]
  | succ d ih =>
    intro i k n h hk hn
    obtain ⟨k, rfl⟩ : ∃ m, k = m + 1 := ⟨k - 1, by omega⟩
    simp only [impl_CountVowels.l0]
    rw [if_pos (by omega), if_pos (by omega), if_pos (by omega), impl_isVowel_bt, nx (i := i) (by omega), nx (i := n) (by omega), drop_bt s i (by omega)]
    simp only [Option.bind_some, vows, List.countP_cons]
    by_cases hb : ft (bt s (i : Int)) 0 = true
    · rw [if_pos hb, ih (i + 1) k (n + 1) (by omega) (by omega) (by omega)]
      simp only [hb, if_true, vows]; congr 2; omega
    · rw [if_neg hb, ih (i + 1) k n (by omega) (by omega) (by omega)]
      simp [hb, vows]
theorem spec_CountVowels_f (s : ByteArray) (hs : s.size ≤ 1048576) {k : Nat} (hk : s.size < k) : spec_CountVowels.f k s = some (vows (bytesOf s) : Int) := by
  have := spec_cntvow_l0 s hs s.size 0 k 0 (by omega) (by omega) (by omega)
  simpa [spec_CountVowels.f] using this
theorem impl_CountVowels_f (s : ByteArray) (hs : s.size ≤ 1048576) {k : Nat} (hk : s.size < k) : impl_CountVowels.f k s = some (vows (bytesOf s) : Int) := by
  have := impl_cntvow_l0 s hs s.size 0 k 0 (by omega) (by omega) (by omega)
  simpa [impl_CountVowels.f] using this

/-! sylof -/
theorem ext_snoc (s : ByteArray) (a i : Nat) (h : a ≤ i) (hi : i < s.size) : s.extract a i ++ s.extract i (i + 1) = s.extract a (i + 1) := by
  apply bytesOf_inj
  have hl : i < (bytesOf s).length := by rw [bytesOf_length]; exact hi
  rw [bytesOf_append, bytesOf_extract, bytesOf_extract, bytesOf_extract, List.take_succ_eq_append_getElem hl]
  rw [List.drop_append_of_le_length (by rw [List.length_take]; omega), List.drop_append_of_le_length (by rw [List.length_take]; omega)]
  rw [List.drop_of_length_le (i := i) (by rw [List.length_take]; omega), List.nil_append]
theorem ext_nil (s : ByteArray) (a : Nat) : s.extract a a = ⟨#[]⟩ := by
  apply bytesOf_inj
  rw [bytesOf_extract, List.drop_of_length_le (by rw [List.length_take]; omega)]; rfl
theorem ext_size (s : ByteArray) (a b : Nat) (h : a ≤ b) (hb : b ≤ s.size) : (s.extract a b).size = b - a := by
  rw [ByteArray.size_extract]; omega
theorem vat_true (s : ByteArray) (i : Nat) (h : i < s.size) : vat s (i : Int) = ft (bt s (i : Int)) 0 := by unfold vat; simp; omega
theorem vat_end (s : ByteArray) (i : Nat) (h : s.size ≤ i) : vat s (i : Int) = false := by
  unfold vat; rw [decide_eq_false (by omega), Bool.false_and]
theorem size0 (x : ByteArray) (h : x.size ≠ 0) : ¬ x.toList = ([] : List UInt8) := fun e => h ((toList_nil_iff x).1 e)
theorem empty_nil : (⟨#[]⟩ : ByteArray).toList = ([] : List UInt8) := (toList_nil_iff _).2 rfl

/-- How the two ways to cut a form stand to each other before place i: no vowel so far; or the last syllable open; or its end already cut off before a vowel. -/
inductive Cut (s : ByteArray) (i f : Nat) : List S93 → List S93 → ByteArray → ByteArray → ByteArray → Prop
  | none (hf : f = 0) (hv : vows ((bytesOf s).take i) = 0) : Cut s i f [] [] (s.extract 0 i) ⟨#[]⟩ ⟨#[]⟩
  | opened (o : List S93) (a b : ByteArray) (hb : b.size ≠ 0) (hf : f ≤ i) (hi : o.length < i) (hv : vat s (i : Int) = true → f = i) : Cut s i f (o ++ [⟨a, b, ⟨#[]⟩⟩]) o a b (s.extract f i)
  | closed (o : List S93) (a b : ByteArray) (hb : b.size ≠ 0) (hf : f < i) (hi : o.length < i) (hv : vat s (i : Int) = true) : Cut s i f (o ++ [⟨a, b, ⟨#[]⟩⟩]) (o ++ [⟨a, b, s.extract f (i - 1)⟩]) (s.extract (i - 1) i) ⟨#[]⟩ ⟨#[]⟩

theorem rd_last (o : List S93) (x : S93) : rd_T93 (o ++ [x]) (((o ++ [x]).length : Int) - 1) = x := by
  have e : ((o ++ [x]).length : Int) - 1 = ((o.length : Nat) : Int) := by simp
  rw [e]
  have := getD_nat (o ++ [x]) z93 o.length (by simp)
  rw [List.getElem_append_right (Nat.le_refl _)] at this
  simp only [Nat.sub_self, List.getElem_cons_zero] at this
  exact this
theorem set_last (o : List S93) (x y : S93) : (o ++ [x]).set (((o ++ [x]).length : Int) - 1).toNat y = o ++ [y] := by
  have e : (((o ++ [x]).length : Int) - 1).toNat = o.length := by simp
  rw [e, List.set_append_right _ _ (Nat.le_refl _), Nat.sub_self, List.set_cons_zero]

theorem sylof_l0 (s : ByteArray) (hs : s.size ≤ 1048576) (hv : vows (bytesOf s) ≠ 0) (d : Nat) : ∀ (i f k k' : Nat) (x y : List S93) (a b c : ByteArray), i + d = s.size → d < k → d < k' → Cut s i f x y a b c →
    ∃ r, spec_SyllablesOf.l0 k s y (i : Int) a b c = some r ∧ impl_SyllablesOf.l0 k' s x (f : Int) (s.size : Int) (i : Int) = some r ∧ r.length ≤ s.size := by
  induction d with
  | zero =>
    intro i f k k' x y a b c h hk hk' hc
    obtain ⟨k, rfl⟩ : ∃ m, k = m + 1 := ⟨k - 1, by omega⟩
    obtain ⟨k', rfl⟩ : ∃ m, k' = m + 1 := ⟨k' - 1, by omega⟩
    obtain rfl : i = s.size := by omega
    have hlt : ¬ ((s.size : Nat) : Int) < (s.size : Int) := by omega
    simp only [spec_SyllablesOf.l0, impl_SyllablesOf.l0, if_neg hlt]
    cases hc with
    | none hf hv' => rw [List.take_of_length_le (by rw [bytesOf_length]; exact Nat.le_refl _)] at hv'; exact absurd hv' hv
    | closed o a b hb hf hi hv' => rw [vat_end s _ (Nat.le_refl _)] at hv'; cases hv'
    | opened o a b hb hf hi hv' =>
      have hL : (y ++ [(⟨a, b, ⟨#[]⟩⟩ : S93)]).length = y.length + 1 := by simp
      rw [w64 (x := ((y ++ [(⟨a, b, ⟨#[]⟩⟩ : S93)]).length : Int) - 1) (by omega) (by omega), if_pos (by omega), if_pos (by omega), if_pos (by omega), if_pos (by omega), if_pos (by omega), rd_last, set_last, Int.toNat_natCast]
      exact ⟨_, rfl, rfl, by rw [List.length_append]; simp only [List.length_cons, List.length_nil]; omega⟩
  | succ d ih =>
    intro i f k k' x y a b c h hk hk' hc
    obtain ⟨k, rfl⟩ : ∃ m, k = m + 1 := ⟨k - 1, by omega⟩
    obtain ⟨k', rfl⟩ : ∃ m, k' = m + 1 := ⟨k' - 1, by omega⟩
    have h1 : (i : Int) < (s.size : Int) := by omega
    have h2 : 0 ≤ (i : Int) := by omega
    have h3 : (i : Int) ≤ ((i + 1 : Nat) : Int) := by omega
    have h4 : ((i + 1 : Nat) : Int) ≤ (s.size : Int) := by omega
    have h5 : (i : Int) ≤ (s.size : Int) := by omega
    have hx1 : (s.extract i (i + 1)).size = 1 := by rw [ext_size s i (i + 1) (by omega) (by omega)]; omega
    simp only [spec_SyllablesOf.l0, impl_SyllablesOf.l0, if_pos h1, if_pos h2]
    rw [nx (i := i) (by omega)]
    simp only [if_pos h2, if_pos h3, if_pos h4, if_pos h5, Int.toNat_natCast]
    rw [spec_IsVowelAt_f, impl_isVowel_bt, ← vat_true s i (by omega)]
    simp only [Option.bind_some]
    have hvn : vows ((bytesOf s).take (i + 1)) = vows ((bytesOf s).take i) + if vat s (i : Int) = true then 1 else 0 := by
      rw [take_bt s i (by omega), vat_true s i (by omega)]
      unfold vows
      rw [List.countP_append, List.countP_cons, List.countP_nil]; omega
    by_cases hw : vat s (i : Int) = true
    · simp only [if_pos hw]
      cases hc with
      | none hf hv' =>
        subst hf
        rw [if_pos empty_nil, if_neg (by simp), if_pos (by omega), if_pos (by omega), if_pos (by simp)]
        refine ih (i + 1) (i + 1) k k' _ _ _ _ _ (by omega) (by omega) (by omega) ?_
        have := Cut.opened (s := s) (i := i + 1) (f := i + 1) [] (s.extract 0 i) (s.extract i (i + 1)) (by omega) (by omega) (by simp) (fun _ => rfl)
        rw [ext_nil] at this
        exact this
      | opened o a b hb hf hi hv' =>
        obtain rfl := hv' hw
        have hL : (y ++ [(⟨a, b, ⟨#[]⟩⟩ : S93)]).length = y.length + 1 := by simp
        have hL2 : (y ++ [(⟨a, b, s.extract f f⟩ : S93)]).length = y.length + 1 := by simp
        rw [if_neg (size0 b hb), if_pos (show y.length < 2932031007402 by omega), if_pos (show ((y ++ [(⟨a, b, ⟨#[]⟩⟩ : S93)]).length : Int) > 0 by omega), if_neg (show ¬ (f : Int) < (f : Int) by omega), if_pos (show (f : Int) ≤ (f : Int) by omega), if_pos (show (y ++ [(⟨a, b, ⟨#[]⟩⟩ : S93)]).length < 2932031007402 by omega)]
        refine ih (f + 1) (f + 1) k k' _ _ _ _ _ (by omega) (by omega) (by omega) ?_
        have := Cut.opened (s := s) (i := f + 1) (f := f + 1) (y ++ [⟨a, b, s.extract f f⟩]) (s.extract f f) (s.extract f (f + 1)) (by omega) (by omega) (by omega) (fun _ => rfl)
        rw [ext_nil s (f + 1)] at this
        rw [ext_nil s f] at this ⊢
        exact this
      | closed o a b hb hf hi hv' =>
        have e1 : wrap64 ((i : Int) - 1) = ((i - 1 : Nat) : Int) := by rw [w64 (by omega) (by omega)]; omega
        have hL : (o ++ [(⟨a, b, ⟨#[]⟩⟩ : S93)]).length = o.length + 1 := by simp
        have hL2 : (o ++ [(⟨a, b, s.extract f (i - 1)⟩ : S93)]).length = o.length + 1 := by simp
        have e2 : wrap64 (((o ++ [(⟨a, b, ⟨#[]⟩⟩ : S93)]).length : Int) - 1) = ((o ++ [(⟨a, b, ⟨#[]⟩⟩ : S93)]).length : Int) - 1 := w64 (by omega) (by omega)
        rw [if_pos empty_nil, if_pos (show ((o ++ [(⟨a, b, ⟨#[]⟩⟩ : S93)]).length : Int) > 0 by omega), if_pos (show (f : Int) < (i : Int) by omega), e1, e2]
        rw [if_pos (by omega), if_pos (by omega), if_pos (by omega), if_pos (by omega), if_pos (by omega), rd_last, set_last]
        simp only [Option.bind_some, Int.toNat_natCast]
        rw [if_pos (by omega), if_pos (by omega), if_pos (by omega)]
        refine ih (i + 1) (i + 1) k k' _ _ _ _ _ (by omega) (by omega) (by omega) ?_
        have := Cut.opened (s := s) (i := i + 1) (f := i + 1) (o ++ [⟨a, b, s.extract f (i - 1)⟩]) (s.extract (i - 1) i) (s.extract i (i + 1)) (by omega) (by omega) (by omega) (fun _ => rfl)
        rw [ext_nil s (i + 1)] at this
        exact this
    · simp only [if_neg hw]
      simp only [Bool.not_eq_true] at hw
      cases hc with
      | none hf hv' =>
        subst hf
        rw [if_pos empty_nil, if_pos (by rw [hx1, ext_size s 0 i (by omega) (by omega)]; omega), ext_snoc s 0 i (by omega) (by omega)]
        refine ih (i + 1) 0 k k' _ _ _ _ _ (by omega) (by omega) (by omega) ?_
        exact Cut.none rfl (by rw [hvn, hw, hv']; rfl)
      | opened o a b hb hf hi hv' =>
        rw [if_neg (size0 b hb), spec_IsVowelAt_f]
        simp only [Option.bind_some]
        by_cases hn : vat s ((i + 1 : Nat) : Int) = true
        · rw [if_pos hn, if_pos (by omega)]
          refine ih (i + 1) f k k' _ _ _ _ _ (by omega) (by omega) (by omega) ?_
          have := Cut.closed (s := s) (i := i + 1) (f := f) y a b hb (by omega) (by omega) hn
          exact this
        · rw [if_neg hn, if_pos (by rw [hx1, ext_size s f i hf (by omega)]; omega), ext_snoc s f i hf (by omega)]
          refine ih (i + 1) f k k' _ _ _ _ _ (by omega) (by omega) (by omega) ?_
          exact Cut.opened y a b hb (by omega) (by omega) (fun e => absurd e hn)
      | closed o a b hb hf hi hv' => rw [hv'] at hw; cases hw
/-- Both SyllablesOf answer the same. -/
theorem sylof (s : ByteArray) (hs : s.size ≤ 1048576) {k : Nat} (hk : s.size + 12 < k) : ∃ r, spec_SyllablesOf.f k s = some r ∧ impl_SyllablesOf.f k s = some r ∧ r.length ≤ 8 := by
  unfold spec_SyllablesOf.f impl_SyllablesOf.f
  obtain ⟨k, rfl⟩ : ∃ m, k = m + 1 := ⟨k - 1, by omega⟩
  rw [spec_IsForm_f s (by omega) (by omega), impl_IsForm_f s (by omega) (by omega)]; simp only [Option.bind_some]
  by_cases h : isf s = true
  · rw [if_pos h, if_pos h, spec_CountVowels_f s hs (by omega), impl_CountVowels_f s hs (by omega)]; simp only [Option.bind_some]
    by_cases hv : vows (bytesOf s) = 0
    · have e : (((vows (bytesOf s) : Nat) : Int) == 0) = true := by rw [hv]; rfl
      rw [e]; simp only [spec_SyllablesOf.j0, impl_SyllablesOf.j0]
      exact ⟨[], rfl, rfl, by simp⟩
    · have e : (((vows (bytesOf s) : Nat) : Int) == 0) = false := by simp; omega
      rw [e]; simp only [spec_SyllablesOf.j0, impl_SyllablesOf.j0]
      have hc : Cut s 0 0 [] [] ⟨#[]⟩ ⟨#[]⟩ ⟨#[]⟩ := by
        have := Cut.none (s := s) (i := 0) (f := 0) rfl (by simp [vows])
        rwa [ext_nil] at this
      obtain ⟨r, e1, e2, e3⟩ := sylof_l0 s hs hv s.size 0 0 k k _ _ _ _ _ (by omega) (by omega) (by omega) hc
      have h8 : s.size ≤ 8 := by unfold isf at h; simp only [Bool.and_eq_true, decide_eq_true_eq] at h; exact h.2
      exact ⟨r, by rw [if_neg (by simp)]; exact e1, by rw [if_neg (by simp)]; exact e2, by omega⟩
  · rw [if_neg h, if_neg h]
    simp only [spec_SyllablesOf.j0, impl_SyllablesOf.j0]
    exact ⟨[], rfl, rfl, by simp⟩

/-! marktext -/
/-- 10 to the n. -/
def c10 : Nat → Nat
  | 0 => 1
  | n + 1 => c10 n * 10
theorem c10_le (n : Nat) (h : n < 15) : c10 n * 10 ≤ 10000000000000000 := by
  have key : ∀ m : Fin 15, c10 m.val * 10 ≤ 10000000000000000 := by decide +kernel
  exact key ⟨n, h⟩
theorem markText_l0 (n : Nat) : ∀ (x k : Nat) (acc : ByteArray), x < c10 n → n < 16 → n < k → acc.size + n < 1000 → ∃ t, laws_markText.l0 k (x : Int) acc = some t := by
  induction n with
  | zero =>
    intro x k acc hx hn hk ha
    obtain ⟨k, rfl⟩ : ∃ m, k = m + 1 := ⟨k - 1, by omega⟩
    have hx : x < 1 := hx
    simp only [laws_markText.l0]
    rw [if_neg (by omega), if_pos (by omega)]; exact ⟨_, rfl⟩
  | succ n ih =>
    intro x k acc hx hn hk ha
    obtain ⟨k, rfl⟩ : ∃ m, k = m + 1 := ⟨k - 1, by omega⟩
    have hc := c10_le n (by omega)
    have hx' : x < c10 n * 10 := hx
    have hd : x / 10 < c10 n := Nat.div_lt_of_lt_mul (by rw [Nat.mul_comm]; exact hx')
    have hb : x < 10000000000000000 := Nat.lt_of_lt_of_le hx' hc
    clear hx hx' hc
    simp only [laws_markText.l0]
    by_cases h : x = 0
    · rw [if_neg (by omega), if_pos (by omega)]; exact ⟨_, rfl⟩
    · have e : wrap64 (Int.tdiv (x : Int) 10) = ((x / 10 : Nat) : Int) := by
        rw [Int.tdiv_eq_ediv_of_nonneg (by omega), w64 (by omega) (by omega)]; omega
      rw [if_pos (by omega), e]
      simp only [Option.bind_some]
      rw [if_pos (by simp only [str_size, List.length_cons, List.length_nil]; omega)]
      exact ih (x / 10) k _ hd (by omega) (by omega) (by rw [ByteArray.size_append, str_size]; simp only [List.length_cons, List.length_nil]; omega)
theorem c10_15 : c10 15 = 1000000000000000 := by decide
/-- The text of a mark. -/
def mT (x : Nat) : ByteArray := (laws_markText.f 20 (x : Int)).getD ⟨#[]⟩
theorem markText_f (x : Nat) (hx : x < 1000000000000000) {k : Nat} (hk : 20 ≤ k) : laws_markText.f k (x : Int) = some (mT x) := by
  have h : ∃ t, laws_markText.f 20 (x : Int) = some t := by
    unfold laws_markText.f
    by_cases h : (x : Int) ≤ 0
    · rw [if_pos h]; exact ⟨_, rfl⟩
    · rw [if_neg h]; exact markText_l0 15 x 20 _ (by rw [c10_15]; exact hx) (by omega) (by omega) (by decide)
  obtain ⟨t, ht⟩ := h
  have e : mT x = t := by unfold mT; rw [ht]; rfl
  rw [e]
  exact at_rounds (g := fun k => laws_markText.f k (x : Int)) (fun k => laws_markText.mono (x : Int) k) hk ht

/-! marksyl -/
/-- The marks of syllables. -/
def mY (i : Nat) : S93 := ⟨mT (1 + 3 * i), mT (1 + 3 * i + 1), mT (1 + 3 * i + 1 + 1)⟩
theorem eqSyllableS_l0 (l : List S93) (hl : l.length ≤ 1048576) (d : Nat) : ∀ (i k : Nat), i + d = l.length → d < k → laws_eqSyllableS.l0 k l l (i : Int) = some true := by
  induction d with
  | zero =>
    intro i k h hk
    obtain ⟨k, rfl⟩ : ∃ m, k = m + 1 := ⟨k - 1, by omega⟩
    simp only [laws_eqSyllableS.l0]; rw [if_neg (by omega)]
  | succ d ih =>
    intro i k h hk
    obtain ⟨k, rfl⟩ : ∃ m, k = m + 1 := ⟨k - 1, by omega⟩
    simp only [laws_eqSyllableS.l0]
    rw [if_pos (by omega), if_pos (by omega), if_pos (by omega), nx (by omega)]
    simp only [laws_eqSyllable.f, if_true, Option.bind_some]
    exact ih (i + 1) k (by omega) (by omega)
theorem eqSyllableS_refl (l : List S93) (hl : l.length ≤ 1048576) {k : Nat} (hk : l.length < k) : laws_eqSyllableS.f k l l = some true := by
  unfold laws_eqSyllableS.f; rw [if_pos rfl]; exact eqSyllableS_l0 l hl l.length 0 k (by omega) (by omega)
theorem rdS_set (l : List S93) (i : Nat) (x : S93) (h : i < l.length) : rd_T93 (l.set i x) (i : Int) = x := by
  have := getD_nat (l.set i x) z93 i (by rw [List.length_set]; exact h)
  rw [List.getElem_set_self] at this; exact this
theorem three (i : Nat) : 1 + 3 * i + 1 + 1 + 1 = 1 + 3 * (i + 1) := by omega
theorem markSyllableS_l0 (l : List S93) (hl : l.length ≤ 1048576) (d : Nat) : ∀ (i k : Nat), i + d = l.length → d + 20 < k →
    laws_markSyllableS.l0 k ((tab mY l.length).take i ++ l.drop i) ((1 + 3 * i : Nat) : Int) (i : Int) = some (((1 + 3 * l.length : Nat) : Int), tab mY l.length) := by
  induction d with
  | zero =>
    intro i k h hk
    obtain ⟨k, rfl⟩ : ∃ m, k = m + 1 := ⟨k - 1, by omega⟩
    simp only [laws_markSyllableS.l0]
    rw [mix_length _ _ _ (tab_length _ _), if_neg (by omega), List.take_of_length_le (by rw [tab_length]; omega), List.drop_of_length_le (by omega), show i = l.length from by omega]
    simp
  | succ d ih =>
    intro i k h hk
    obtain ⟨k, rfl⟩ : ∃ m, k = m + 1 := ⟨k - 1, by omega⟩
    have hlen := mix_length (tab mY l.length) l i (tab_length _ _)
    have h2 : 0 ≤ (i : Int) := by omega
    rw [laws_markSyllableS.l0, hlen, if_pos (by omega), nx (i := 1 + 3 * i) (by omega), nx (i := 1 + 3 * i + 1) (by omega), nx (i := 1 + 3 * i + 1 + 1) (by omega), nx (i := i) (by omega),
      markText_f (1 + 3 * i) (by omega) (by omega), markText_f (1 + 3 * i + 1) (by omega) (by omega), markText_f (1 + 3 * i + 1 + 1) (by omega) (by omega)]
    simp only [Option.bind_some, Int.toNat_natCast, if_pos h2]
    rw [rdS_set _ i _ (by simp only [List.length_set, hlen]; omega), List.set_set, rdS_set _ i _ (by simp only [List.length_set, hlen]; omega), List.set_set, three]
    have e3 : (⟨mT (1 + 3 * i), mT (1 + 3 * i + 1), mT (1 + 3 * i + 1 + 1)⟩ : S93) = mY i := rfl
    rw [e3, set_mix (tab mY l.length) l i (mY i) (by rw [tab_length]; omega) (tab_length _ _) (tab_get _ _ _ _)]
    exact ih (i + 1) k (by omega) (by omega)
theorem markSyllableS_f (l : List S93) (hl : l.length ≤ 1048576) {k : Nat} (hk : l.length + 20 < k) : laws_markSyllableS.f k l 1 = some (((1 + 3 * l.length : Nat) : Int), tab mY l.length) := by
  have := markSyllableS_l0 l hl l.length 0 k (by omega) (by omega)
  rw [List.take_zero, List.drop_zero, List.nil_append] at this
  exact this
theorem heldSyllableS_l0 (n : Nat) (hl : n ≤ 1048576) (d : Nat) : ∀ (i k : Nat), i + d = n → d + 20 < k → laws_heldSyllableS.l0 k (tab mY n) ((1 + 3 * i : Nat) : Int) (i : Int) = some ((1 + 3 * n : Nat) : Int) := by
  induction d with
  | zero =>
    intro i k h hk
    obtain ⟨k, rfl⟩ : ∃ m, k = m + 1 := ⟨k - 1, by omega⟩
    simp only [laws_heldSyllableS.l0]
    rw [tab_length, if_neg (by omega), show i = n from by omega]
  | succ d ih =>
    intro i k h hk
    obtain ⟨k, rfl⟩ : ∃ m, k = m + 1 := ⟨k - 1, by omega⟩
    have e3 : rd_T93 (tab mY n) (i : Int) = mY i := tab_getD mY z93 n i (by omega)
    rw [laws_heldSyllableS.l0, tab_length, if_pos (by omega), if_pos (by omega), e3, nx (i := 1 + 3 * i) (by omega), nx (i := 1 + 3 * i + 1) (by omega), nx (i := 1 + 3 * i + 1 + 1) (by omega), nx (i := i) (by omega),
      markText_f (1 + 3 * i) (by omega) (by omega), markText_f (1 + 3 * i + 1) (by omega) (by omega), markText_f (1 + 3 * i + 1 + 1) (by omega) (by omega)]
    simp only [Option.bind_some]
    rw [if_pos (show (mY i).f0.toList = (mT (1 + 3 * i)).toList from rfl), if_pos (show (mY i).f1.toList = (mT (1 + 3 * i + 1)).toList from rfl), if_pos (show (mY i).f2.toList = (mT (1 + 3 * i + 1 + 1)).toList from rfl), three]
    exact ih (i + 1) k (by omega) (by omega)
theorem heldSyllableS_f (n : Nat) (hl : n ≤ 1048576) {k : Nat} (hk : n + 20 < k) : laws_heldSyllableS.f k (tab mY n) 1 = some ((1 + 3 * n : Nat) : Int) :=
  heldSyllableS_l0 n hl n 0 k (by omega) (by omega)

theorem FnExactSyllablesOf : laws_FnExactSyllablesOf.Pure := by
  intro s hs
  refine ⟨s.size + 40, ?_⟩
  unfold laws_FnExactSyllablesOf.f
  by_cases hn : (s.size : Int) > 1048576
  · rw [if_pos hn]
  · obtain ⟨l, h1, h2, hl⟩ := sylof s (by omega) (k := s.size + 40) (by omega)
    have hp : ¬ ((1 + 3 * l.length : Nat) : Int) < 0 := by omega
    rw [if_neg hn, h1, h2]; simp only [Option.bind_some]
    rw [eqSyllableS_refl l (by omega) (by omega)]; simp only [Option.bind_some, if_true]
    rw [markSyllableS_f l (by omega) (by omega)]; simp only [Option.bind_some]
    rw [heldSyllableS_f _ (by omega) (by omega)]; simp only [Option.bind_some, if_true, if_neg hp]

end Go.Proofs.Ytomkfofflpdknaa.Pure
