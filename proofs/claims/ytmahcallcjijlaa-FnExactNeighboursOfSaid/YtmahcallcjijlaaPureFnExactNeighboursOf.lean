/- For every string, NeighboursOf of the program and of the reference hand back the same list, and the list is the caller's own. -/
import Derived.Test.YtmahcallcjijlaaPFnExactNeighboursOfx5
import Derived.Test.YtmahcallcjijlaaBase
namespace Go.Proofs.Ytmahcallcjijlaa.Pure
open Go.RowKit Go.Proofs.Ytmahcallcjijlaa.PFnExactNeighboursOf Go.Proofs.YtmahcallcjijlaaW.PrintWords Go.Proofs.YtmahcallcjijlaaW.PrintLast Go.Proofs.YtmahcallcjijlaaW.PrintMore Go.Proofs.Ytmahcallcjijlaa.Base
set_option linter.unusedVariables false
set_option linter.unusedSimpArgs false

/-! sounds -/
/-- Facts on single bytes, tried at each of the 256. -/
theorem byte_cases {P : Int → Prop} (h : ∀ n : Fin 256, P ((n.val : Nat) : Int)) {x : Int} (h0 : 0 ≤ x) (h1 : x ≤ 255) : P x := by
  obtain ⟨m, rfl⟩ := Int.eq_ofNat_of_zero_le h0
  exact h ⟨m, by omega⟩

/-! within -/
theorem within_f (a b c : Int) : impl_within.f a b c = some (decide (b ≤ a ∧ a ≤ c)) := by
  unfold impl_within.f; by_cases h : b ≤ a
  · rw [if_pos h]; simp [h]
  · rw [if_neg h]; simp; omega

/-! isform -/
/-- Is the byte a sound? -/
def snd (x : Int) : Bool := x == 112 || x == 116 || x == 98 || x == 100 || x == 110 || x == 97 || x == 105
theorem impl_IsSound_f {x : Int} (h0 : 0 ≤ x) (h1 : x ≤ 255) : impl_IsSound.f x = some (snd x) := by
  refine byte_cases (P := fun x => impl_IsSound.f x = some (snd x)) ?_ h0 h1; decide +kernel
theorem spec_IsSound_f {x : Int} (h0 : 0 ≤ x) (h1 : x ≤ 255) {k : Nat} (hk : 8 ≤ k) : spec_IsSound.f k x = some (snd x) := by
  have h : spec_IsSound.f 8 x = some (snd x) := by
    refine byte_cases (P := fun x => spec_IsSound.f 8 x = some (snd x)) ?_ h0 h1; decide +kernel
  exact at_rounds (g := fun k => spec_IsSound.f k x) (fun k => spec_IsSound.mono x k) hk h

/-- Are all bytes sounds? -/
def sndL (l : List Int) : Bool := l.all snd
theorem spec_l2Sounds_l0 (s : ByteArray) (hs : s.size ≤ 140737488351232) (d : Nat) : ∀ (i k : Nat), i + d = s.size → d + 8 < k →
    spec_l2Sounds.l0 k s (i : Int) = some (sndL ((bytesOf s).drop i) && decide (s.size ≤ 20)) := by
  induction d with
  | zero =>
    intro i k h hk
    obtain ⟨k, rfl⟩ : ∃ m, k = m + 1 := ⟨k - 1, by omega⟩
    simp only [spec_l2Sounds.l0]
    rw [if_neg (by omega), List.drop_of_length_le (by rw [bytesOf_length]; omega)]
    simp [sndL]; omega
  | succ d ih =>
    intro i k h hk
    obtain ⟨k, rfl⟩ : ∃ m, k = m + 1 := ⟨k - 1, by omega⟩
    obtain ⟨b0, b1⟩ := bt_range s (i : Int)
    have := ih (i + 1) k (by omega) (by omega)
    simp only [spec_l2Sounds.l0]
    rw [if_pos (by omega), if_pos (by omega), spec_IsSound_f b0 b1 (by omega), nx (by omega), drop_bt s i (by omega), this]
    simp only [Option.bind_some, sndL, List.all_cons]
    cases snd (bt s (i : Int)) <;> simp
theorem spec_l2Sounds_f (s : ByteArray) (hs : s.size ≤ 140737488351232) {k : Nat} (hk : s.size + 8 < k) : spec_l2Sounds.f k s = some (sndL (bytesOf s) && decide (s.size ≤ 20)) := by
  have := spec_l2Sounds_l0 s hs s.size 0 k (by omega) (by omega)
  simpa [spec_l2Sounds.f] using this
theorem impl_areSounds_l0 (s : ByteArray) (hs : s.size ≤ 140737488351232) (d : Nat) : ∀ (i k : Nat), i + d = s.size → d < k →
    impl_areSounds.l0 k s (s.size : Int) (i : Int) = some (sndL ((bytesOf s).drop i) && decide (1 ≤ s.size ∧ s.size ≤ 20)) := by
  induction d with
  | zero =>
    intro i k h hk
    obtain ⟨k, rfl⟩ : ∃ m, k = m + 1 := ⟨k - 1, by omega⟩
    simp only [impl_areSounds.l0]
    rw [if_neg (by omega), List.drop_of_length_le (by rw [bytesOf_length]; omega), within_f]
    have e : decide (1 ≤ (s.size : Int) ∧ (s.size : Int) ≤ 20) = decide (1 ≤ s.size ∧ s.size ≤ 20) := by rw [decide_eq_decide]; omega
    rw [e]; simp [sndL]
  | succ d ih =>
    intro i k h hk
    obtain ⟨k, rfl⟩ : ∃ m, k = m + 1 := ⟨k - 1, by omega⟩
    obtain ⟨b0, b1⟩ := bt_range s (i : Int)
    have := ih (i + 1) k (by omega) (by omega)
    simp only [impl_areSounds.l0]
    rw [if_pos (by omega), if_pos (by omega), if_pos (by omega), impl_IsSound_f b0 b1, nx (by omega), drop_bt s i (by omega), this]
    simp only [Option.bind_some, sndL, List.all_cons]
    cases snd (bt s (i : Int)) <;> simp
theorem impl_areSounds_f (s : ByteArray) (hs : s.size ≤ 140737488351232) {k : Nat} (hk : s.size < k) : impl_areSounds.f k s = some (sndL (bytesOf s) && decide (1 ≤ s.size ∧ s.size ≤ 20)) := by
  have := impl_areSounds_l0 s hs s.size 0 k (by omega) (by omega)
  simpa [impl_areSounds.f] using this
/-- Is the string a form? -/
def isf (s : ByteArray) : Bool := sndL (bytesOf s) && decide (s.size ≤ 8)

/-! isform2 -/
theorem spec_IsForm_f (s : ByteArray) (hs : s.size ≤ 140737488351232) {k : Nat} (hk : s.size + 8 < k) : spec_IsForm.f k s = some (isf s) := by
  unfold spec_IsForm.f isf
  rw [spec_l2Sounds_f s hs hk]; simp only [Option.bind_some]
  by_cases h : s.size ≤ 8
  · cases sndL (bytesOf s)
    · simp
    · simp [h, show s.size ≤ 20 from by omega]; omega
  · by_cases h2 : s.size ≤ 20
    · cases sndL (bytesOf s) <;> simp [h, h2] <;> omega
    · simp [h, h2]
theorem impl_IsForm_f (s : ByteArray) (hs : s.size ≤ 140737488351232) {k : Nat} (hk : s.size < k) : impl_IsForm.f k s = some (isf s) := by
  unfold impl_IsForm.f isf
  by_cases h : s.size = 0
  · rw [if_pos ((toList_nil_iff s).2 h)]
    have : bytesOf s = [] := List.eq_nil_of_length_eq_zero (by rw [bytesOf_length]; exact h)
    simp [this, sndL, h]
  · rw [if_neg (fun e => h ((toList_nil_iff s).1 e))]
    by_cases h8 : s.size ≤ 8
    · rw [if_pos (by omega), impl_areSounds_f s hs hk]
      have e : decide (1 ≤ s.size ∧ s.size ≤ 20) = true := by simp; omega
      simp [h8, e]
    · rw [if_neg (by omega)]; simp [h8]

/-! neighbours -/
theorem toList_iff (a b : ByteArray) : a.toList = b.toList ↔ a = b := by
  constructor
  · intro h; rw [toList_data, toList_data] at h; exact ba_ext h
  · intro h; rw [h]
theorem rdOf_get (l : List ByteArray) (i : Nat) (h : i < l.length) : rdOf ByteArray.empty l (i : Int) = l[i] := getD_nat l _ i h
/-- The list with the text at its end, if it isn't there. -/
noncomputable def addO (l : List ByteArray) (x : ByteArray) : List ByteArray := by classical exact if x ∈ l then l else l ++ [x]
theorem addO_length (l : List ByteArray) (x : ByteArray) : (addO l x).length ≤ l.length + 1 := by
  unfold addO; split
  · omega
  · simp
theorem has_l0 (l : List ByteArray) (x : ByteArray) (hl : l.length ≤ 1000) (d : Nat) : ∀ (i k : Nat), i + d = l.length → d < k → ∃ b, spec_l3Has.l0 k l x (i : Int) = some b ∧ (b = true ↔ x ∈ l.drop i) := by
  induction d with
  | zero =>
    intro i k h hk
    obtain ⟨k, rfl⟩ : ∃ m, k = m + 1 := ⟨k - 1, by omega⟩
    simp only [spec_l3Has.l0]; rw [if_neg (by omega), List.drop_of_length_le (by omega)]
    exact ⟨false, rfl, by simp⟩
  | succ d ih =>
    intro i k h hk
    obtain ⟨k, rfl⟩ : ∃ m, k = m + 1 := ⟨k - 1, by omega⟩
    simp only [spec_l3Has.l0]
    rw [if_pos (by omega), if_pos (by omega), rdOf_get l i (by omega), nx (by omega), List.drop_eq_getElem_cons (i := i) (by omega)]
    by_cases he : l[i]'(by omega) = x
    · rw [if_pos ((toList_iff _ _).2 he)]
      exact ⟨true, rfl, by simp [he]⟩
    · rw [if_neg (fun e => he ((toList_iff _ _).1 e))]
      obtain ⟨b, h1, h2⟩ := ih (i + 1) k (by omega) (by omega)
      exact ⟨b, h1, by rw [h2, List.mem_cons]; constructor; · exact fun e => Or.inr e
                       · rintro (e | e); · exact absurd e.symm he
                         · exact e⟩
theorem spec_has (l : List ByteArray) (x : ByteArray) (hl : l.length ≤ 1000) {k : Nat} (hk : 1001 < k) : ∃ b, spec_l3Has.f k l x = some b ∧ (b = true ↔ x ∈ l) := by
  have := has_l0 l x hl l.length 0 k (by omega) (by omega)
  simpa [spec_l3Has.f] using this
theorem index_l0 (l : List ByteArray) (x : ByteArray) (hl : l.length ≤ 1000) (d : Nat) : ∀ (i k : Nat), i + d = l.length → d < k → ∃ b, slices_Index_string_string.l0 k l x (l.length : Int) (i : Int) = some b ∧ (b ≥ 0 ↔ x ∈ l.drop i) := by
  induction d with
  | zero =>
    intro i k h hk
    obtain ⟨k, rfl⟩ : ∃ m, k = m + 1 := ⟨k - 1, by omega⟩
    simp only [slices_Index_string_string.l0]; rw [if_neg (by omega), List.drop_of_length_le (by omega)]
    exact ⟨-1, rfl, by simp⟩
  | succ d ih =>
    intro i k h hk
    obtain ⟨k, rfl⟩ : ∃ m, k = m + 1 := ⟨k - 1, by omega⟩
    simp only [slices_Index_string_string.l0]
    rw [if_pos (by omega), if_pos (by omega), if_pos (by omega), rdOf_get l i (by omega), nx (by omega), List.drop_eq_getElem_cons (i := i) (by omega)]
    by_cases he : x = l[i]'(by omega)
    · rw [if_pos ((toList_iff _ _).2 he)]
      exact ⟨i, rfl, by simp [← he]⟩
    · rw [if_neg (fun e => he ((toList_iff _ _).1 e))]
      obtain ⟨b, h1, h2⟩ := ih (i + 1) k (by omega) (by omega)
      exact ⟨b, h1, by rw [h2, List.mem_cons]; constructor; · exact fun e => Or.inr e
                       · rintro (e | e); · exact absurd e he
                         · exact e⟩
theorem impl_addO (l : List ByteArray) (x : ByteArray) (hl : l.length ≤ 1000) {k : Nat} (hk : 1001 < k) : impl_addOnce.f k l x = some (addO l x) := by
  obtain ⟨b, h1, h2⟩ := index_l0 l x hl l.length 0 k (by omega) (by omega)
  rw [List.drop_zero] at h2
  rw [show ((0 : Nat) : Int) = 0 from rfl] at h1
  unfold impl_addOnce.f slices_Contains_string_string.f slices_Index_string_string.f addO
  rw [h1]; simp only [Option.bind_some]
  by_cases hx : x ∈ l
  · rw [if_pos (by simpa using h2.2 hx), if_pos hx]
  · rw [if_neg (fun e => hx (h2.1 (by simpa using e))), if_neg hx, if_pos (by omega)]
theorem spec_addO {α : Type} (l : List ByteArray) (x : ByteArray) (hl : l.length ≤ 1000) {k : Nat} (hk : 1001 < k) (g : List ByteArray → Option α) :
    ((spec_l3Has.f k l x).bind fun t => if t = true then g l else (if l.length < 8796093022208 then g (l ++ [x]) else none)) = g (addO l x) := by
  obtain ⟨b, h1, h2⟩ := spec_has l x hl hk
  rw [h1]; simp only [Option.bind_some]
  unfold addO
  by_cases hx : x ∈ l
  · rw [if_pos (h2.2 hx), if_pos hx]
  · rw [if_neg (fun e => hx (h2.1 e)), if_neg hx, if_pos (by omega)]
theorem lit_size (j : Nat) (h : j < 7) : ((⟨#[112, 116, 98, 100, 110, 97, 105]⟩ : ByteArray).extract j (j + 1)).size = 1 := by
  rw [ByteArray.size_extract, show (⟨#[112, 116, 98, 100, 110, 97, 105]⟩ : ByteArray).size = 7 from rfl]; omega
theorem bt_lit (j : Nat) (h : j < 7) : bt ((⟨#[112, 116, 98, 100, 110, 97, 105]⟩ : ByteArray).extract j (j + 1)) 0 = bt (⟨#[112, 116, 98, 100, 110, 97, 105]⟩ : ByteArray) (j : Int) := by
  rw [extract_one (⟨#[112, 116, 98, 100, 110, 97, 105]⟩ : ByteArray) j h]
  obtain ⟨b0, b1⟩ := bt_range (⟨#[112, 116, 98, 100, 110, 97, 105]⟩ : ByteArray) (j : Int)
  have := bt_getD (strOfNums [bt (⟨#[112, 116, 98, 100, 110, 97, 105]⟩ : ByteArray) (j : Int)]) 0
  rw [bytesOf_str (Bytes.one b0 (by omega))] at this
  exact this
/-- One sound in the place of another tells the same form only if it is the same sound. -/
theorem swap_same (s : ByteArray) (i j : Nat) (hi : i < s.size) (hj : j < 7) : (s.extract 0 i ++ (⟨#[112, 116, 98, 100, 110, 97, 105]⟩ : ByteArray).extract j (j + 1)) ++ s.extract (i + 1) s.size = s ↔ bt s (i : Int) = bt (⟨#[112, 116, 98, 100, 110, 97, 105]⟩ : ByteArray) (j : Int) := by
  have e1 : bytesOf ((s.extract 0 i ++ (⟨#[112, 116, 98, 100, 110, 97, 105]⟩ : ByteArray).extract j (j + 1)) ++ s.extract (i + 1) s.size) = (bytesOf s).take i ++ [bt (⟨#[112, 116, 98, 100, 110, 97, 105]⟩ : ByteArray) (j : Int)] ++ (bytesOf s).drop (i + 1) := by
    obtain ⟨b0, b1⟩ := bt_range (⟨#[112, 116, 98, 100, 110, 97, 105]⟩ : ByteArray) (j : Int)
    rw [extract_one (⟨#[112, 116, 98, 100, 110, 97, 105]⟩ : ByteArray) j hj, bytesOf_append, bytesOf_append, bytesOf_extract, bytesOf_extract, bytesOf_str (Bytes.one b0 (by omega)), List.drop_zero, List.take_of_length_le (i := s.size) (by rw [bytesOf_length]; exact Nat.le_refl _)]
  have e2 : bytesOf s = (bytesOf s).take i ++ [bt s (i : Int)] ++ (bytesOf s).drop (i + 1) := by
    rw [← take_bt s i hi, List.take_append_drop]
  constructor
  · intro h
    rw [h] at e1
    have := List.append_cancel_right (e1.symm.trans e2)
    have := List.append_cancel_left this
    simpa using this.symm
  · intro h
    apply bytesOf_inj
    rw [e1, ← h]; exact e2.symm

theorem nb_l1 (s : ByteArray) (hs : s.size ≤ 7) (i : Nat) (hi : i ≤ s.size) (B : Nat) (hB : 1100 ≤ B) (R : Nat)
    (H : ∀ (l : List ByteArray) (k k' : Nat), l.length ≤ 15 * (i + 1) → B < k → B < k' → ∃ r, spec_NeighboursOf.l0 k s l ((i + 1 : Nat) : Int) = some r ∧ impl_NeighboursOf.l0 k' s l ((s.size + 1 : Nat) : Int) ((i + 1 : Nat) : Int) = some r ∧ r.length ≤ R) (e : Nat) :
    ∀ (j k k' : Nat) (l : List ByteArray), j + e = 7 → l.length ≤ 15 * i + 2 * j → B + 2 * e + 2 < k → B + e + 1 < k' →
    ∃ r, spec_NeighboursOf.l1 k s l (i : Int) (j : Int) = some r ∧ impl_NeighboursOf.l1 k' s l (i : Int) ((s.size + 1 : Nat) : Int) (i : Int) (j : Int) = some r ∧ r.length ≤ R := by
  have ha : (s.extract 0 i).size = i := by rw [ByteArray.size_extract]; omega
  have hb : (s.extract i s.size).size = s.size - i := by rw [ByteArray.size_extract]; omega
  have hc : (s.extract (i + 1) s.size).size = s.size - (i + 1) := by rw [ByteArray.size_extract]; omega
  have g1 : 0 ≤ (i : Int) := by omega
  have g2 : (i : Int) ≤ (s.size : Int) := by omega
  induction e with
  | zero =>
    intro j k k' l h hl hk hk'
    obtain ⟨k, rfl⟩ : ∃ m, k = m + 1 := ⟨k - 1, by omega⟩
    obtain ⟨k', rfl⟩ : ∃ m, k' = m + 1 := ⟨k' - 1, by omega⟩
    have g3 : ¬ (j : Int) < 7 := by omega
    rw [spec_NeighboursOf.l1, impl_NeighboursOf.l1, nx (i := i) (by omega)]
    simp only [if_neg g3, if_pos g1, if_pos g2, Int.toNat_natCast]
    by_cases hlt : (i : Int) < (s.size : Int)
    · have g4 : 0 ≤ ((i + 1 : Nat) : Int) := by omega
      have g5 : ((i + 1 : Nat) : Int) ≤ (s.size : Int) := by omega
      have g6 : (s.extract 0 i).size + (s.extract (i + 1) s.size).size ≤ 9223372036854775807 := by omega
      simp only [if_pos hlt, if_pos g4, if_pos g5, if_pos g6]
      rw [spec_addO l _ (by omega) (by omega) (fun z => spec_NeighboursOf.l0 k s z ((i + 1 : Nat) : Int)), impl_addO l _ (by omega) (by omega)]
      simp only [Option.bind_some]
      have := addO_length l (s.extract 0 i ++ s.extract (i + 1) s.size)
      exact H _ k k' (by omega) (by omega) (by omega)
    · simp only [if_neg hlt]
      exact H l k k' (by omega) (by omega) (by omega)
  | succ e ih =>
    intro j k k' l h hl hk hk'
    obtain ⟨k, rfl⟩ : ∃ m, k = (m + 1) + 1 := ⟨k - 2, by omega⟩
    obtain ⟨k', rfl⟩ : ∃ m, k' = m + 1 := ⟨k' - 1, by omega⟩
    have hz := lit_size j (by omega)
    have g3 : (j : Int) < 7 := by omega
    have g4 : 0 ≤ (j : Int) := by omega
    have g5 : (j : Int) ≤ ((j + 1 : Nat) : Int) := by omega
    have g6 : ((j + 1 : Nat) : Int) ≤ 7 := by omega
    have g7 : (s.extract 0 i).size + ((⟨#[112, 116, 98, 100, 110, 97, 105]⟩ : ByteArray).extract j (j + 1)).size ≤ 9223372036854775807 := by omega
    have g8 : (s.extract 0 i ++ (⟨#[112, 116, 98, 100, 110, 97, 105]⟩ : ByteArray).extract j (j + 1)).size + (s.extract i s.size).size ≤ 9223372036854775807 := by rw [ByteArray.size_append]; omega
    rw [spec_NeighboursOf.l1, impl_NeighboursOf.l1, nx (i := j) (by omega), nx (i := i) (by omega)]
    simp only [if_pos g1, if_pos g2, if_pos g3, if_pos g4, if_pos g5, if_pos g6, Int.toNat_natCast, if_pos g7, if_pos g8]
    rw [spec_addO l _ (by omega) (by omega) (fun z => spec_NeighboursOf.j3 (k + 1) s z (i : Int) (j : Int)), impl_addO l _ (by omega) (by omega)]
    simp only [Option.bind_some]
    have hx := addO_length l (s.extract 0 i ++ (⟨#[112, 116, 98, 100, 110, 97, 105]⟩ : ByteArray).extract j (j + 1) ++ s.extract i s.size)
    generalize addO l (s.extract 0 i ++ (⟨#[112, 116, 98, 100, 110, 97, 105]⟩ : ByteArray).extract j (j + 1) ++ s.extract i s.size) = l1 at hx
    rw [spec_NeighboursOf.j3, nx (i := j) (by omega), nx (i := i) (by omega)]
    simp only [if_pos g1, if_pos g2, if_pos g4, if_pos g5, if_pos g6, Int.toNat_natCast, if_pos g7]
    by_cases hlt : (i : Int) < (s.size : Int)
    · have g9 : 0 ≤ ((i + 1 : Nat) : Int) := by omega
      have g10 : ((i + 1 : Nat) : Int) ≤ (s.size : Int) := by omega
      have g11 : (s.extract 0 i ++ (⟨#[112, 116, 98, 100, 110, 97, 105]⟩ : ByteArray).extract j (j + 1)).size + (s.extract (i + 1) s.size).size ≤ 9223372036854775807 := by rw [ByteArray.size_append]; omega
      have g12 : 0 < (((⟨#[112, 116, 98, 100, 110, 97, 105]⟩ : ByteArray).extract j (j + 1)).size : Int) := by omega
      simp only [if_pos hlt, if_pos g9, if_pos g10, if_pos g11, if_pos g12]
      rw [bt_lit j (by omega)]
      by_cases hsame : bt s (i : Int) = bt (⟨#[112, 116, 98, 100, 110, 97, 105]⟩ : ByteArray) (j : Int)
      · have g13 : (s.extract 0 i ++ (⟨#[112, 116, 98, 100, 110, 97, 105]⟩ : ByteArray).extract j (j + 1) ++ s.extract (i + 1) s.size).toList = s.toList := (toList_iff _ _).2 ((swap_same s i j (by omega) (by omega)).2 hsame)
        rw [if_pos g13, if_pos hsame]
        exact ih (j + 1) k k' l1 (by omega) (by omega) (by omega) (by omega)
      · have g13 : ¬ (s.extract 0 i ++ (⟨#[112, 116, 98, 100, 110, 97, 105]⟩ : ByteArray).extract j (j + 1) ++ s.extract (i + 1) s.size).toList = s.toList := fun e => hsame ((swap_same s i j (by omega) (by omega)).1 ((toList_iff _ _).1 e))
        rw [if_neg g13, if_neg hsame, spec_addO l1 _ (by omega) (by omega) (fun z => spec_NeighboursOf.l1 k s z (i : Int) ((j + 1 : Nat) : Int)), impl_addO l1 _ (by omega) (by omega)]
        simp only [Option.bind_some]
        have hy := addO_length l1 (s.extract 0 i ++ (⟨#[112, 116, 98, 100, 110, 97, 105]⟩ : ByteArray).extract j (j + 1) ++ s.extract (i + 1) s.size)
        exact ih (j + 1) k k' _ (by omega) (by omega) (by omega) (by omega)
    · simp only [if_neg hlt]
      exact ih (j + 1) k k' l1 (by omega) (by omega) (by omega) (by omega)
theorem nb_l0 (s : ByteArray) (hs : s.size ≤ 7) (d : Nat) : ∀ (i k k' : Nat) (l : List ByteArray), i + d = s.size + 1 → l.length ≤ 15 * i → 1100 + 20 * d < k → 1100 + 20 * d < k' →
    ∃ r, spec_NeighboursOf.l0 k s l (i : Int) = some r ∧ impl_NeighboursOf.l0 k' s l ((s.size + 1 : Nat) : Int) (i : Int) = some r ∧ r.length ≤ 120 := by
  induction d with
  | zero =>
    intro i k k' l h hl hk hk'
    obtain ⟨k, rfl⟩ : ∃ m, k = m + 1 := ⟨k - 1, by omega⟩
    obtain ⟨k', rfl⟩ : ∃ m, k' = m + 1 := ⟨k' - 1, by omega⟩
    rw [spec_NeighboursOf.l0, impl_NeighboursOf.l0, if_neg (by omega), if_neg (by omega)]
    exact ⟨l, rfl, rfl, by omega⟩
  | succ d ih =>
    intro i k k' l h hl hk hk'
    obtain ⟨k, rfl⟩ : ∃ m, k = m + 1 := ⟨k - 1, by omega⟩
    obtain ⟨k', rfl⟩ : ∃ m, k' = m + 1 := ⟨k' - 1, by omega⟩
    rw [spec_NeighboursOf.l0, impl_NeighboursOf.l0, if_pos (by omega), if_pos (by omega)]
    exact nb_l1 s hs i (by omega) (1100 + 20 * d) (by omega) 120 (fun l k k' h1 h2 h3 => ih (i + 1) k k' l (by omega) h1 h2 h3) 7 0 k k' l (by omega) (by omega) (by omega) (by omega)
/-- Both NeighboursOf answer the same. -/
theorem neighbours (s : ByteArray) (hs : s.size ≤ 1048576) {k : Nat} (hk : s.size + 1500 < k) : ∃ r, spec_NeighboursOf.f k s = some r ∧ impl_NeighboursOf.f k s = some r ∧ r.length ≤ 120 := by
  obtain ⟨k, rfl⟩ : ∃ m, k = m + 1 := ⟨k - 1, by omega⟩
  unfold spec_NeighboursOf.f impl_NeighboursOf.f
  rw [spec_IsForm_f s (by omega) (by omega), impl_IsForm_f s (by omega) (by omega)]; simp only [Option.bind_some]
  by_cases h : isf s = true
  · have h8 : s.size ≤ 8 := by unfold isf at h; simp only [Bool.and_eq_true, decide_eq_true_eq] at h; exact h.2
    rw [if_pos h, if_pos h, spec_NeighboursOf.j0, impl_NeighboursOf.j0]
    by_cases h7 : s.size ≤ 7
    · have e1 : decide ((s.size : Int) ≥ 8) = false := by simp; omega
      have e2 : ((s.size : Int) == 8) = false := by simp; omega
      rw [e1, e2, if_neg (by simp), if_neg (by simp), nx (by omega)]
      exact nb_l0 s h7 (s.size + 1) 0 k k [] (by omega) (by simp) (by omega) (by omega)
    · have e0 : s.size = 8 := by omega
      have e1 : decide ((s.size : Int) ≥ 8) = true := by simp; omega
      have e2 : ((s.size : Int) == 8) = true := by rw [e0]; rfl
      rw [e1, e2, if_pos rfl, if_pos rfl]
      exact ⟨[], rfl, rfl, by simp⟩
  · rw [if_neg h, if_neg h, spec_NeighboursOf.j0, impl_NeighboursOf.j0, if_pos rfl, if_pos rfl]
    exact ⟨[], rfl, rfl, by simp⟩

/-! marktext -/
/-- 10 to the n. -/
def c10 : Nat → Nat
  | 0 => 1
  | n + 1 => c10 n * 10
theorem c10_le (n : Nat) (h : n < 15) : c10 n * 10 ≤ 10000000000000000 := by
  have key : ∀ m : Fin 15, c10 m.val * 10 ≤ 10000000000000000 := by decide +kernel
  exact key ⟨n, h⟩
theorem markText_l0 (n : Nat) : ∀ (x k : Nat) (acc : ByteArray), x < c10 n → n < 16 → n < k → acc.size + n < 1000 → ∃ t, laws_markText.l0 k (x : Int) acc = some t := by
  induction n with
  | zero =>
    intro x k acc hx hn hk ha
    obtain ⟨k, rfl⟩ : ∃ m, k = m + 1 := ⟨k - 1, by omega⟩
    have hx : x < 1 := hx
    simp only [laws_markText.l0]
    rw [if_neg (by omega), if_pos (by omega)]; exact ⟨_, rfl⟩
  | succ n ih =>
    intro x k acc hx hn hk ha
    obtain ⟨k, rfl⟩ : ∃ m, k = m + 1 := ⟨k - 1, by omega⟩
    have hc := c10_le n (by omega)
    have hx' : x < c10 n * 10 := hx
    have hd : x / 10 < c10 n := Nat.div_lt_of_lt_mul (by rw [Nat.mul_comm]; exact hx')
    have hb : x < 10000000000000000 := Nat.lt_of_lt_of_le hx' hc
    clear hx hx' hc
    simp only [laws_markText.l0]
    by_cases h : x = 0
    · rw [if_neg (by omega), if_pos (by omega)]; exact ⟨_, rfl⟩
    · have e : wrap64 (Int.tdiv (x : Int) 10) = ((x / 10 : Nat) : Int) := by
        rw [Int.tdiv_eq_ediv_of_nonneg (by omega), w64 (by omega) (by omega)]; omega
      rw [if_pos (by omega), e]
      simp only [Option.bind_some]
      rw [if_pos (by simp only [str_size, List.length_cons, List.length_nil]; omega)]
      exact ih (x / 10) k _ hd (by omega) (by omega) (by rw [ByteArray.size_append, str_size]; simp only [List.length_cons, List.length_nil]; omega)
theorem c10_15 : c10 15 = 1000000000000000 := by decide
/-- The text of a mark. -/
def mT (x : Nat) : ByteArray := (laws_markText.f 20 (x : Int)).getD ⟨#[]⟩
theorem markText_f (x : Nat) (hx : x < 1000000000000000) {k : Nat} (hk : 20 ≤ k) : laws_markText.f k (x : Int) = some (mT x) := by
  have h : ∃ t, laws_markText.f 20 (x : Int) = some t := by
    unfold laws_markText.f
    by_cases h : (x : Int) ≤ 0
    · rw [if_pos h]; exact ⟨_, rfl⟩
    · rw [if_neg h]; exact markText_l0 15 x 20 _ (by rw [c10_15]; exact hx) (by omega) (by omega) (by decide)
  obtain ⟨t, ht⟩ := h
  have e : mT x = t := by unfold mT; rw [ht]; rfl
  rw [e]
  exact at_rounds (g := fun k => laws_markText.f k (x : Int)) (fun k => laws_markText.mono (x : Int) k) hk ht

/-! markstr -/
theorem eqStringS_l0 (l : List ByteArray) (hl : l.length ≤ 1048576) (d : Nat) : ∀ (i k : Nat), i + d = l.length → d < k → laws_eqStringS.l0 k l l (i : Int) = some true := by
  induction d with
  | zero =>
    intro i k h hk
    obtain ⟨k, rfl⟩ : ∃ m, k = m + 1 := ⟨k - 1, by omega⟩
    simp only [laws_eqStringS.l0]; rw [if_neg (by omega)]
  | succ d ih =>
    intro i k h hk
    obtain ⟨k, rfl⟩ : ∃ m, k = m + 1 := ⟨k - 1, by omega⟩
    simp only [laws_eqStringS.l0]
    rw [if_pos (by omega), if_pos (by omega), if_pos (by omega), nx (by omega), if_pos trivial]
    exact ih (i + 1) k (by omega) (by omega)
theorem eqStringS_refl (l : List ByteArray) (hl : l.length ≤ 1048576) {k : Nat} (hk : l.length < k) : laws_eqStringS.f k l l = some true := by
  unfold laws_eqStringS.f; rw [if_pos rfl]; exact eqStringS_l0 l hl l.length 0 k (by omega) (by omega)
/-- The marks of texts. -/
def mS (i : Nat) : ByteArray := mT (1 + i)
theorem markStringS_l0 (l : List ByteArray) (hl : l.length ≤ 1048576) (d : Nat) : ∀ (i k : Nat), i + d = l.length → d + 20 < k →
    laws_markStringS.l0 k ((tab mS l.length).take i ++ l.drop i) ((1 + i : Nat) : Int) (i : Int) = some (((1 + l.length : Nat) : Int), tab mS l.length) := by
  induction d with
  | zero =>
    intro i k h hk
    obtain ⟨k, rfl⟩ : ∃ m, k = m + 1 := ⟨k - 1, by omega⟩
    simp only [laws_markStringS.l0]
    rw [mix_length _ _ _ (tab_length _ _), if_neg (by omega), List.take_of_length_le (by rw [tab_length]; omega), List.drop_of_length_le (by omega), show i = l.length from by omega]
    simp
  | succ d ih =>
    intro i k h hk
    obtain ⟨k, rfl⟩ : ∃ m, k = m + 1 := ⟨k - 1, by omega⟩
    simp only [laws_markStringS.l0]
    rw [mix_length _ _ _ (tab_length _ _), if_pos (by omega), markText_f (1 + i) (by omega) (by omega)]
    simp only [Option.bind_some]
    rw [if_pos (by omega), Int.toNat_natCast, nx (i := 1 + i) (by omega), nx (i := i) (by omega), Nat.add_assoc, set_mix (tab mS l.length) l i (mT (1 + i)) (by rw [tab_length]; omega) (tab_length _ _) (tab_get _ _ _ _)]
    exact ih (i + 1) k (by omega) (by omega)
theorem markStringS_f (l : List ByteArray) (hl : l.length ≤ 1048576) {k : Nat} (hk : l.length + 20 < k) : laws_markStringS.f k l 1 = some (((1 + l.length : Nat) : Int), tab mS l.length) := by
  have := markStringS_l0 l hl l.length 0 k (by omega) (by omega)
  rw [List.take_zero, List.drop_zero, List.nil_append] at this
  exact this
theorem heldStringS_l0 (n : Nat) (hl : n ≤ 1048576) (d : Nat) : ∀ (i k : Nat), i + d = n → d + 20 < k → laws_heldStringS.l0 k (tab mS n) ((1 + i : Nat) : Int) (i : Int) = some ((1 + n : Nat) : Int) := by
  induction d with
  | zero =>
    intro i k h hk
    obtain ⟨k, rfl⟩ : ∃ m, k = m + 1 := ⟨k - 1, by omega⟩
    simp only [laws_heldStringS.l0]
    rw [tab_length, if_neg (by omega), show i = n from by omega]
  | succ d ih =>
    intro i k h hk
    obtain ⟨k, rfl⟩ : ∃ m, k = m + 1 := ⟨k - 1, by omega⟩
    have e2 : rdOf ByteArray.empty (tab mS n) (i : Int) = mT (1 + i) := tab_getD mS ByteArray.empty n i (by omega)
    simp only [laws_heldStringS.l0]
    rw [tab_length, if_pos (by omega), if_pos (by omega), markText_f (1 + i) (by omega) (by omega)]
    simp only [Option.bind_some]
    rw [e2, if_pos rfl, nx (i := 1 + i) (by omega), nx (i := i) (by omega), Nat.add_assoc]
    exact ih (i + 1) k (by omega) (by omega)
theorem heldStringS_f (n : Nat) (hl : n ≤ 1048576) {k : Nat} (hk : n + 20 < k) : laws_heldStringS.f k (tab mS n) 1 = some ((1 + n : Nat) : Int) :=
  heldStringS_l0 n hl n 0 k (by omega) (by omega)

theorem FnExactNeighboursOf : laws_FnExactNeighboursOf.Pure := by
  intro s hs
  refine ⟨s.size + 1501, ?_⟩
  unfold laws_FnExactNeighboursOf.f
  by_cases hn : (s.size : Int) > 1048576
  · rw [if_pos hn]
  · obtain ⟨l, h1, h2, hl⟩ := neighbours s (by omega) (k := s.size + 1501) (by omega)
    have hp : ¬ ((1 + l.length : Nat) : Int) < 0 := by omega
    rw [if_neg hn, h1, h2]; simp only [Option.bind_some]
    rw [eqStringS_refl l (by omega) (by omega)]; simp only [Option.bind_some, if_true]
    rw [markStringS_f l (by omega) (by omega)]; simp only [Option.bind_some]
    rw [heldStringS_f _ (by omega) (by omega)]; simp only [Option.bind_some, if_true, if_neg hp]

end Go.Proofs.Ytmahcallcjijlaa.Pure
