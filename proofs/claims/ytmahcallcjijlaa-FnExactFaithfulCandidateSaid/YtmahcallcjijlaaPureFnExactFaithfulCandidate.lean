/- For every string, FaithfulCandidate of the program and of the reference hand back the same candidate and verdict, and the candidate is the caller's own. -/
import Derived.Test.YtmahcallcjijlaaPFnExactFaithfulCandidatex3
import Derived.Test.YtmahcallcjijlaaBase
namespace Go.Proofs.Ytmahcallcjijlaa.Pure
open Go.RowKit Go.Proofs.Ytmahcallcjijlaa.PFnExactFaithfulCandidate Go.Proofs.YtmahcallcjijlaaW.PrintWords Go.Proofs.YtmahcallcjijlaaW.PrintLast Go.Proofs.YtmahcallcjijlaaW.PrintMore Go.Proofs.Ytmahcallcjijlaa.Base
set_option linter.unusedVariables false
set_option linter.unusedSimpArgs false

/-! sounds -/
/-- Facts on single bytes, tried at each of the 256. -/
theorem byte_cases {P : Int → Prop} (h : ∀ n : Fin 256, P ((n.val : Nat) : Int)) {x : Int} (h0 : 0 ≤ x) (h1 : x ≤ 255) : P x := by
  obtain ⟨m, rfl⟩ := Int.eq_ofNat_of_zero_le h0
  exact h ⟨m, by omega⟩

/-! within -/
theorem within_f (a b c : Int) : impl_within.f a b c = some (decide (b ≤ a ∧ a ≤ c)) := by
  unfold impl_within.f; by_cases h : b ≤ a
  · rw [if_pos h]; simp [h]
  · rw [if_neg h]; simp; omega

/-! isform -/
/-- Is the byte a sound? -/
def snd (x : Int) : Bool := x == 112 || x == 116 || x == 98 || x == 100 || x == 110 || x == 97 || x == 105
theorem impl_IsSound_f {x : Int} (h0 : 0 ≤ x) (h1 : x ≤ 255) : impl_IsSound.f x = some (snd x) := by
  refine byte_cases (P := fun x => impl_IsSound.f x = some (snd x)) ?_ h0 h1; decide +kernel
theorem spec_IsSound_f {x : Int} (h0 : 0 ≤ x) (h1 : x ≤ 255) {k : Nat} (hk : 8 ≤ k) : spec_IsSound.f k x = some (snd x) := by
  have h : spec_IsSound.f 8 x = some (snd x) := by
    refine byte_cases (P := fun x => spec_IsSound.f 8 x = some (snd x)) ?_ h0 h1; decide +kernel
  exact at_rounds (g := fun k => spec_IsSound.f k x) (fun k => spec_IsSound.mono x k) hk h

/-- Are all bytes sounds? -/
def sndL (l : List Int) : Bool := l.all snd
theorem spec_l2Sounds_l0 (s : ByteArray) (hs : s.size ≤ 140737488351232) (d : Nat) : ∀ (i k : Nat), i + d = s.size → d + 8 < k →
    spec_l2Sounds.l0 k s (i : Int) = some (sndL ((bytesOf s).drop i) && decide (s.size ≤ 20)) := by
  induction d with
  | zero =>
    intro i k h hk
    obtain ⟨k, rfl⟩ : ∃ m, k = m + 1 := ⟨k - 1, by omega⟩
    simp only [spec_l2Sounds.l0]
    rw [if_neg (by omega), List.drop_of_length_le (by rw [bytesOf_length]; omega)]
    simp [sndL]; omega
  | succ d ih =>
    intro i k h hk
    obtain ⟨k, rfl⟩ : ∃ m, k = m + 1 := ⟨k - 1, by omega⟩
    obtain ⟨b0, b1⟩ := bt_range s (i : Int)
    have := ih (i + 1) k (by omega) (by omega)
    simp only [spec_l2Sounds.l0]
    rw [if_pos (by omega), if_pos (by omega), spec_IsSound_f b0 b1 (by omega), nx (by omega), drop_bt s i (by omega), this]
    simp only [Option.bind_some, sndL, List.all_cons]
    cases snd (bt s (i : Int)) <;> simp
theorem spec_l2Sounds_f (s : ByteArray) (hs : s.size ≤ 140737488351232) {k : Nat} (hk : s.size + 8 < k) : spec_l2Sounds.f k s = some (sndL (bytesOf s) && decide (s.size ≤ 20)) := by
  have := spec_l2Sounds_l0 s hs s.size 0 k (by omega) (by omega)
  simpa [spec_l2Sounds.f] using this
theorem impl_areSounds_l0 (s : ByteArray) (hs : s.size ≤ 140737488351232) (d : Nat) : ∀ (i k : Nat), i + d = s.size → d < k →
    impl_areSounds.l0 k s (s.size : Int) (i : Int) = some (sndL ((bytesOf s).drop i) && decide (1 ≤ s.size ∧ s.size ≤ 20)) := by
  induction d with
  | zero =>
    intro i k h hk
    obtain ⟨k, rfl⟩ : ∃ m, k = m + 1 := ⟨k - 1, by omega⟩
    simp only [impl_areSounds.l0]
    rw [if_neg (by omega), List.drop_of_length_le (by rw [bytesOf_length]; omega), within_f]
    have e : decide (1 ≤ (s.size : Int) ∧ (s.size : Int) ≤ 20) = decide (1 ≤ s.size ∧ s.size ≤ 20) := by rw [decide_eq_decide]; omega
    rw [e]; simp [sndL]
  | succ d ih =>
    intro i k h hk
    obtain ⟨k, rfl⟩ : ∃ m, k = m + 1 := ⟨k - 1, by omega⟩
    obtain ⟨b0, b1⟩ := bt_range s (i : Int)
    have := ih (i + 1) k (by omega) (by omega)
    simp only [impl_areSounds.l0]
    rw [if_pos (by omega), if_pos (by omega), if_pos (by omega), impl_IsSound_f b0 b1, nx (by omega), drop_bt s i (by omega), this]
    simp only [Option.bind_some, sndL, List.all_cons]
    cases snd (bt s (i : Int)) <;> simp
theorem impl_areSounds_f (s : ByteArray) (hs : s.size ≤ 140737488351232) {k : Nat} (hk : s.size < k) : impl_areSounds.f k s = some (sndL (bytesOf s) && decide (1 ≤ s.size ∧ s.size ≤ 20)) := by
  have := impl_areSounds_l0 s hs s.size 0 k (by omega) (by omega)
  simpa [impl_areSounds.f] using this
/-- Is the string a form? -/
def isf (s : ByteArray) : Bool := sndL (bytesOf s) && decide (s.size ≤ 8)

/-! isform2 -/
theorem spec_IsForm_f (s : ByteArray) (hs : s.size ≤ 140737488351232) {k : Nat} (hk : s.size + 8 < k) : spec_IsForm.f k s = some (isf s) := by
  unfold spec_IsForm.f isf
  rw [spec_l2Sounds_f s hs hk]; simp only [Option.bind_some]
  by_cases h : s.size ≤ 8
  · cases sndL (bytesOf s)
    · simp
    · simp [h, show s.size ≤ 20 from by omega]; omega
  · by_cases h2 : s.size ≤ 20
    · cases sndL (bytesOf s) <;> simp [h, h2] <;> omega
    · simp [h, h2]
theorem impl_IsForm_f (s : ByteArray) (hs : s.size ≤ 140737488351232) {k : Nat} (hk : s.size < k) : impl_IsForm.f k s = some (isf s) := by
  unfold impl_IsForm.f isf
  by_cases h : s.size = 0
  · rw [if_pos ((toList_nil_iff s).2 h)]
    have : bytesOf s = [] := List.eq_nil_of_length_eq_zero (by rw [bytesOf_length]; exact h)
    simp [this, sndL, h]
  · rw [if_neg (fun e => h ((toList_nil_iff s).1 e))]
    by_cases h8 : s.size ≤ 8
    · rw [if_pos (by omega), impl_areSounds_f s hs hk]
      have e : decide (1 ≤ s.size ∧ s.size ≤ 20) = true := by simp; omega
      simp [h8, e]
    · rw [if_neg (by omega)]; simp [h8]

/-! faithful -/
/-- The faithful links of bytes. -/
def fl (l : List Int) : List S68 := l.map fun b => ⟨b, b⟩
theorem fl_take (s : ByteArray) (i : Nat) (h : i < s.size) : fl ((bytesOf s).take (i + 1)) = fl ((bytesOf s).take i) ++ [⟨bt s (i : Int), bt s (i : Int)⟩] := by
  rw [take_bt s i h]; simp [fl]
theorem fl_length (l : List Int) : (fl l).length = l.length := by simp [fl]
theorem spec_faith_l0 (s : ByteArray) (hs : s.size ≤ 1048576) (hf : isf s = true) (d : Nat) : ∀ (i k : Nat), i + d = s.size → d + s.size + 9 < k →
    spec_FaithfulCandidate.l0 k s (i : Int) (fl ((bytesOf s).take i)) = some (fl (bytesOf s), true) := by
  induction d with
  | zero =>
    intro i k h hk
    obtain ⟨k, rfl⟩ : ∃ m, k = m + 1 := ⟨k - 1, by omega⟩
    simp only [spec_FaithfulCandidate.l0]
    rw [if_neg (by omega), List.take_of_length_le (by rw [bytesOf_length]; omega), spec_IsForm_f s (by omega) (by omega), hf]; rfl
  | succ d ih =>
    intro i k h hk
    obtain ⟨k, rfl⟩ : ∃ m, k = m + 1 := ⟨k - 1, by omega⟩
    have := ih (i + 1) k (by omega) (by omega)
    simp only [spec_FaithfulCandidate.l0]
    rw [if_pos (by omega), spec_IsForm_f s (by omega) (by omega), hf]; simp only [Option.bind_some, if_true]
    rw [if_pos (by omega), if_pos (by rw [fl_length, List.length_take, bytesOf_length]; omega), nx (by omega), ← fl_take s i (by omega)]
    exact this
theorem impl_faith_l0 (s : ByteArray) (hs : s.size ≤ 1048576) (d : Nat) : ∀ (i k : Nat), i + d = s.size → d < k →
    impl_FaithfulCandidate.l0 k s (s.size : Int) (i : Int) (fl ((bytesOf s).take i)) = some (fl (bytesOf s), true) := by
  induction d with
  | zero =>
    intro i k h hk
    obtain ⟨k, rfl⟩ : ∃ m, k = m + 1 := ⟨k - 1, by omega⟩
    simp only [impl_FaithfulCandidate.l0]
    rw [if_neg (by omega), List.take_of_length_le (by rw [bytesOf_length]; omega)]
  | succ d ih =>
    intro i k h hk
    obtain ⟨k, rfl⟩ : ∃ m, k = m + 1 := ⟨k - 1, by omega⟩
    have := ih (i + 1) k (by omega) (by omega)
    simp only [impl_FaithfulCandidate.l0]
    rw [if_pos (by omega), if_pos (by omega), if_pos (by omega), if_pos (by rw [fl_length, List.length_take, bytesOf_length]; omega), nx (by omega), ← fl_take s i (by omega)]
    exact this
/-- What both FaithfulCandidate answer. -/
def faith (s : ByteArray) : List S68 × Bool := if isf s = true then (fl (bytesOf s), true) else ([], false)
theorem faith_length (s : ByteArray) (hs : s.size ≤ 1048576) : (faith s).1.length ≤ 1048576 := by
  unfold faith; split
  · simp only [fl_length, bytesOf_length]; exact hs
  · simp
theorem spec_Faithful_f (s : ByteArray) (hs : s.size ≤ 1048576) {k : Nat} (hk : s.size + s.size + 10 < k) : spec_FaithfulCandidate.f k s = some (faith s) := by
  unfold spec_FaithfulCandidate.f faith
  by_cases h : isf s = true
  · rw [if_pos h]
    exact spec_faith_l0 s hs h s.size 0 k (by omega) (by omega)
  · rw [if_neg h]
    obtain ⟨k, rfl⟩ : ∃ m, k = m + 1 := ⟨k - 1, by omega⟩
    simp only [spec_FaithfulCandidate.l0]
    rw [spec_IsForm_f s (by omega) (by omega)]
    simp only [Option.bind_some, if_neg h]
    simp only [Bool.not_eq_true] at h; rw [h]; simp
theorem impl_Faithful_f (s : ByteArray) (hs : s.size ≤ 1048576) {k : Nat} (hk : s.size < k) : impl_FaithfulCandidate.f k s = some (faith s) := by
  unfold impl_FaithfulCandidate.f faith
  rw [impl_IsForm_f s (by omega) hk]; simp only [Option.bind_some]
  by_cases h : isf s = true
  · rw [if_pos h, if_pos h]
    exact impl_faith_l0 s hs s.size 0 k (by omega) (by omega)
  · rw [if_neg h, if_neg h]

/-! eqlinks -/
theorem eqLinkS_l0 (l : List S68) (hl : l.length ≤ 1048576) (d : Nat) : ∀ (i k : Nat), i + d = l.length → d < k → laws_eqLinkS.l0 k l l (i : Int) = some true := by
  induction d with
  | zero =>
    intro i k h hk
    obtain ⟨k, rfl⟩ : ∃ m, k = m + 1 := ⟨k - 1, by omega⟩
    simp only [laws_eqLinkS.l0]; rw [if_neg (by omega)]
  | succ d ih =>
    intro i k h hk
    obtain ⟨k, rfl⟩ : ∃ m, k = m + 1 := ⟨k - 1, by omega⟩
    simp only [laws_eqLinkS.l0]
    rw [if_pos (by omega), if_pos (by omega), if_pos (by omega), nx (by omega)]
    simp only [laws_eqLink.f, if_true, Option.bind_some]
    exact ih (i + 1) k (by omega) (by omega)
theorem eqLinkS_refl (l : List S68) (hl : l.length ≤ 1048576) {k : Nat} (hk : l.length < k) : laws_eqLinkS.f k l l = some true := by
  unfold laws_eqLinkS.f; rw [if_pos rfl]; exact eqLinkS_l0 l hl l.length 0 k (by omega) (by omega)
theorem eqCandidate_refl (l : List S68) (hl : l.length ≤ 1048576) {k : Nat} (hk : l.length < k) : laws_eqCandidate.f k l l = some true := by
  unfold laws_eqCandidate.f; rw [eqLinkS_refl l hl hk]; rfl

/-! marklink -/
/-- The marks of links. -/
def mL (i : Nat) : S68 := ⟨((1 + 2 * i : Nat) : Int) % 256, ((2 + 2 * i : Nat) : Int) % 256⟩
def mLn (i : Nat) : Int := ((1 + 2 * i : Nat) : Int)
theorem mLn_w (i : Nat) (h : i ≤ 1048576) : wrap64 (mLn i + 1) = ((2 + 2 * i : Nat) : Int) ∧ wrap64 (((2 + 2 * i : Nat) : Int) + 1) = mLn (i + 1) := by
  unfold mLn; constructor <;> rw [w64 (by omega) (by omega)] <;> omega
theorem rd_set (l : List S68) (i : Nat) (x : S68) (h : i < l.length) : rd_T68 (l.set i x) (i : Int) = x := by
  have := getD_nat (l.set i x) z68 i (by rw [List.length_set]; exact h)
  rw [List.getElem_set_self] at this; exact this
theorem markLinkS_l0 (l : List S68) (hl : l.length ≤ 1048576) (d : Nat) : ∀ (i k : Nat), i + d = l.length → d < k →
    laws_markLinkS.l0 k ((tab mL l.length).take i ++ l.drop i) (mLn i) (i : Int) = some (mLn l.length, tab mL l.length) := by
  induction d with
  | zero =>
    intro i k h hk
    obtain ⟨k, rfl⟩ : ∃ m, k = m + 1 := ⟨k - 1, by omega⟩
    simp only [laws_markLinkS.l0]
    rw [mix_length _ _ _ (tab_length _ _), if_neg (by omega), List.take_of_length_le (by rw [tab_length]; omega), List.drop_of_length_le (by omega), show i = l.length from by omega]
    simp
  | succ d ih =>
    intro i k h hk
    obtain ⟨k, rfl⟩ : ∃ m, k = m + 1 := ⟨k - 1, by omega⟩
    obtain ⟨e1, e2⟩ := mLn_w i (by omega)
    have hlen := mix_length (tab mL l.length) l i (tab_length _ _)
    simp only [laws_markLinkS.l0]
    rw [hlen, if_pos (by omega), if_pos (by omega), e1, e2]
    simp only [Option.bind_some, Int.toNat_natCast]
    rw [rd_set _ i _ (by rw [hlen]; omega), List.set_set, nx (by omega)]
    have e3 : (⟨mLn i % 256, ((2 + 2 * i : Nat) : Int) % 256⟩ : S68) = mL i := rfl
    rw [e3, set_mix (tab mL l.length) l i (mL i) (by rw [tab_length]; omega) (tab_length _ _) (tab_get _ _ _ _)]
    exact ih (i + 1) k (by omega) (by omega)
theorem markLinkS_f (l : List S68) (hl : l.length ≤ 1048576) {k : Nat} (hk : l.length < k) : laws_markLinkS.f k l 1 = some (mLn l.length, tab mL l.length) := by
  have := markLinkS_l0 l hl l.length 0 k (by omega) (by omega)
  rw [List.take_zero, List.drop_zero, List.nil_append] at this
  exact this
theorem heldLinkS_l0 (n : Nat) (hl : n ≤ 1048576) (d : Nat) : ∀ (i k : Nat), i + d = n → d < k → laws_heldLinkS.l0 k (tab mL n) (mLn i) (i : Int) = some (mLn n) := by
  induction d with
  | zero =>
    intro i k h hk
    obtain ⟨k, rfl⟩ : ∃ m, k = m + 1 := ⟨k - 1, by omega⟩
    simp only [laws_heldLinkS.l0]
    rw [tab_length, if_neg (by omega), show i = n from by omega]
  | succ d ih =>
    intro i k h hk
    obtain ⟨k, rfl⟩ : ∃ m, k = m + 1 := ⟨k - 1, by omega⟩
    obtain ⟨e1, e2⟩ := mLn_w i (by omega)
    have e3 : rd_T68 (tab mL n) (i : Int) = mL i := tab_getD mL z68 n i (by omega)
    simp only [laws_heldLinkS.l0]
    rw [tab_length, if_pos (by omega), if_pos (by omega), e3, e1, e2, if_pos (show (mL i).f0 = mLn i % 256 from rfl), if_pos (show (mL i).f1 = ((2 + 2 * i : Nat) : Int) % 256 from rfl), nx (by omega)]
    exact ih (i + 1) k (by omega) (by omega)
theorem heldLinkS_f (n : Nat) (hl : n ≤ 1048576) {k : Nat} (hk : n < k) : laws_heldLinkS.f k (tab mL n) 1 = some (mLn n) :=
  heldLinkS_l0 n hl n 0 k (by omega) (by omega)
theorem mLn_pos (n : Nat) : ¬ mLn n < 0 := by unfold mLn; omega
theorem markCandidate_f (l : List S68) (hl : l.length ≤ 1048576) {k : Nat} (hk : l.length < k) : laws_markCandidate.f k l 1 = some (mLn l.length, tab mL l.length) := by
  unfold laws_markCandidate.f; rw [markLinkS_f l hl hk]; rfl
theorem heldCandidate_f (n : Nat) (hl : n ≤ 1048576) {k : Nat} (hk : n < k) : laws_heldCandidate.f k (tab mL n) 1 = some (mLn n) := by
  unfold laws_heldCandidate.f; rw [heldLinkS_f n hl hk]; simp only [Option.bind_some]; rw [if_neg (mLn_pos n)]

theorem FnExactFaithfulCandidate : laws_FnExactFaithfulCandidate.Pure := by
  intro s hs
  refine ⟨(s.size + s.size + 20 + 1) + 1, ?_⟩
  unfold laws_FnExactFaithfulCandidate.f
  by_cases hn : (s.size : Int) > 1048576
  · rw [if_pos hn]
  · have hl := faith_length s (by omega)
    have hl2 : (faith s).1.length < s.size + s.size + 20 := by
      unfold faith; split
      · simp only [fl_length, bytesOf_length]; omega
      · simp
    rw [if_neg hn, spec_Faithful_f s (by omega) (by omega), impl_Faithful_f s (by omega) (by omega)]; simp only [Option.bind_some]
    rw [eqCandidate_refl _ hl (by omega)]; simp only [Option.bind_some, if_true]
    simp only [laws_FnExactFaithfulCandidate.j0]
    rw [show ((faith s).2 != (faith s).2) = false from by simp, if_neg (by simp), markCandidate_f _ hl (by omega)]; simp only [Option.bind_some]
    rw [heldCandidate_f _ hl (by omega)]; simp only [Option.bind_some, if_true]
    rw [if_neg (mLn_pos _), impl_Faithful_f s (by omega) (by omega)]; simp only [Option.bind_some]
    rw [eqCandidate_refl _ hl (by omega)]; simp only [Option.bind_some, if_true]
    simp only [laws_FnExactFaithfulCandidate.j1]
    rw [show ((faith s).2 != (faith s).2) = false from by simp, if_neg (by simp), heldCandidate_f _ hl (by omega)]; simp only [Option.bind_some, if_true]
    rw [if_neg (mLn_pos _)]

end Go.Proofs.Ytmahcallcjijlaa.Pure
