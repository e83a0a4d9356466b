/- For all pairs of candidates, EqualCandidates of the program and of the reference agree, and the arguments stay as they were. -/
import Derived.Test.YtnaehnenhnfecaaPFnExactEqualCandidatesx4
import Derived.Test.YtnaehnenhnfecaaBase
namespace Go.Proofs.Ytnaehnenhnfecaa.Pure
open Go.RowKit Go.Proofs.Ytnaehnenhnfecaa.PFnExactEqualCandidates Go.Proofs.YtnaehnenhnfecaaW.PrintWords Go.Proofs.YtnaehnenhnfecaaW.PrintLast Go.Proofs.YtnaehnenhnfecaaW.PrintMore Go.Proofs.Ytnaehnenhnfecaa.Base
set_option linter.unusedVariables false
set_option linter.unusedSimpArgs false

/-! links -/
/-- The links of the law's own type as the program's. -/
def toL (l : List S83) : List S74 := l.map fun x => ⟨x.f0, x.f1⟩
theorem toL_length (l : List S83) : (toL l).length = l.length := by simp [toL]
theorem toLinkS_l0 (l : List S83) (hl : l.length ≤ 1048576) (d : Nat) : ∀ (i k : Nat), i + d = l.length → d < k →
    laws_toLinkS.l0 k l ((toL l).take i ++ List.replicate ((toL l).length - i) z74) (i : Int) = some (toL l) := by
  induction d with
  | zero =>
    intro i k h hk
    obtain ⟨k, rfl⟩ : ∃ m, k = m + 1 := ⟨k - 1, by omega⟩
    simp only [laws_toLinkS.l0]
    rw [if_neg (by omega), List.take_of_length_le (by rw [toL_length]; omega), toL_length, show l.length - i = 0 from by omega]
    simp
  | succ d ih =>
    intro i k h hk
    obtain ⟨k, rfl⟩ : ∃ m, k = m + 1 := ⟨k - 1, by omega⟩
    simp only [laws_toLinkS.l0]
    have e : rd_T83 l (i : Int) = l[i]'(by omega) := getD_nat l _ i (by omega)
    have e2 : (⟨(l[i]'(by omega)).f0, (l[i]'(by omega)).f1⟩ : S74) = (toL l)[i]'(by rw [toL_length]; omega) := by simp [toL]
    rw [if_pos (by omega), if_pos (by omega), e]
    simp only [laws_toLink.f, Option.bind_some]
    rw [if_pos (by simp [toL_length]; omega), e2, Int.toNat_natCast, set_fill (toL l) _ i (by rw [toL_length]; omega), nx (by omega)]
    exact ih (i + 1) k (by omega) (by omega)
theorem toLinkS_f (l : List S83) (hl : l.length ≤ 1048576) {k : Nat} (hk : l.length < k) : laws_toLinkS.f k l = some (toL l) := by
  unfold laws_toLinkS.f
  rw [if_pos (by omega), if_pos (by omega)]
  have := toLinkS_l0 l hl l.length 0 k (by omega) (by omega)
  simpa [toL_length] using this
theorem toCandidate_f (l : List S83) (hl : l.length ≤ 1048576) {k : Nat} (hk : l.length < k) : laws_toCandidate.f k l = some (toL l) := by
  unfold laws_toCandidate.f; rw [toLinkS_f l hl hk]; rfl
theorem szCandidate_f (l : List S83) (n : Int) (h0 : 0 ≤ n) (h1 : n ≤ 1048576) (hl : l.length ≤ 9223372036854775807) :
    ∃ t, laws_szCandidate.f l n = some t ∧ (¬ t < 0 → l.length ≤ 1048576 ∧ 0 ≤ t ∧ t ≤ 1048576) := by
  unfold laws_szCandidate.f laws_szLinkS.f
  rw [w64 (by omega) (by omega)]
  by_cases h : n - (l.length : Int) < 0
  · rw [if_pos h]; exact ⟨-1, by simp, by omega⟩
  · rw [if_neg h]; simp only [Option.bind_some]; rw [if_neg h]; exact ⟨_, rfl, fun _ => by omega⟩
theorem eqLinkS_l0 (l : List S74) (hl : l.length ≤ 1048576) (d : Nat) : ∀ (i k : Nat), i + d = l.length → d < k → laws_eqLinkS.l0 k l l (i : Int) = some true := by
  induction d with
  | zero =>
    intro i k h hk
    obtain ⟨k, rfl⟩ : ∃ m, k = m + 1 := ⟨k - 1, by omega⟩
    simp only [laws_eqLinkS.l0]; rw [if_neg (by omega)]
  | succ d ih =>
    intro i k h hk
    obtain ⟨k, rfl⟩ : ∃ m, k = m + 1 := ⟨k - 1, by omega⟩
    simp only [laws_eqLinkS.l0]
    rw [if_pos (by omega), if_pos (by omega), if_pos (by omega), nx (by omega)]
    simp only [laws_eqLink.f, if_true, Option.bind_some]
    exact ih (i + 1) k (by omega) (by omega)
theorem eqLinkS_refl (l : List S74) (hl : l.length ≤ 1048576) {k : Nat} (hk : l.length < k) : laws_eqLinkS.f k l l = some true := by
  unfold laws_eqLinkS.f; rw [if_pos rfl]; exact eqLinkS_l0 l hl l.length 0 k (by omega) (by omega)
theorem eqCandidate_refl (l : List S74) (hl : l.length ≤ 1048576) {k : Nat} (hk : l.length < k) : laws_eqCandidate.f k l l = some true := by
  unfold laws_eqCandidate.f; rw [eqLinkS_refl l hl hk]; rfl

/-! eqcand -/
theorem eqcand_l0 (a b : List S74) (hl : a.length ≤ 1048576) (hab : a.length = b.length) (d : Nat) : ∀ (i k : Nat), i + d = a.length → d < k →
    ∃ r, spec_EqualCandidates.l0 k (i : Int) a b = some r ∧ impl_Link.l0 k a b (a.length : Int) (i : Int) = some r := by
  induction d with
  | zero =>
    intro i k h hk
    obtain ⟨k, rfl⟩ : ∃ m, k = m + 1 := ⟨k - 1, by omega⟩
    simp only [spec_EqualCandidates.l0, impl_Link.l0]
    repeat rw [if_neg (by omega)]
    exact ⟨_, rfl, rfl⟩
  | succ d ih =>
    intro i k h hk
    obtain ⟨k, rfl⟩ : ∃ m, k = m + 1 := ⟨k - 1, by omega⟩
    simp only [spec_EqualCandidates.l0, impl_Link.l0]
    have h1 : (i : Int) < (a.length : Int) := by omega
    have h2 : 0 ≤ (i : Int) := by omega
    have h3 : (i : Int) < (b.length : Int) := by omega
    simp only [if_pos h1, if_pos h2, if_pos h3]
    rw [nx (i := i) (by omega)]
    by_cases h : (!(((rd_T74 a (i : Int)).f0) == ((rd_T74 b (i : Int)).f0)) || (!(((rd_T74 a (i : Int)).f1) == ((rd_T74 b (i : Int)).f1)))) = true
    · rw [if_pos h, if_pos h]; exact ⟨_, rfl, rfl⟩
    · rw [if_neg h, if_neg h]; exact ih (i + 1) k (by omega) (by omega)
theorem eqcand (a b : List S74) (hl : a.length ≤ 1048576) {k : Nat} (hk : a.length < k) : ∃ r, spec_EqualCandidates.f k a b = some r ∧ impl_EqualCandidates.f k a b = some r := by
  unfold spec_EqualCandidates.f impl_EqualCandidates.f impl_Link.f
  by_cases h : a.length = b.length
  · repeat rw [if_pos (by omega)]
    obtain ⟨r, h1, h2⟩ := eqcand_l0 a b hl h a.length 0 k (by omega) (by omega)
    exact ⟨r, h1, by rw [show ((0 : Nat) : Int) = 0 from rfl] at h2; rw [h2]; rfl⟩
  · repeat rw [if_neg (by omega)]
    exact ⟨_, rfl, rfl⟩

theorem FnExactEqualCandidates : laws_FnExactEqualCandidates.Pure := by
  intro a b ha _ hb _
  refine ⟨a.length + b.length + 1, ?_⟩
  unfold laws_FnExactEqualCandidates.f
  obtain ⟨t, ht, hta⟩ := szCandidate_f a 1048576 (by omega) (by omega) ha
  rw [ht]; simp only [Option.bind_some]
  by_cases h : t < 0
  · rw [if_pos h]
  · obtain ⟨h1, h2, h3⟩ := hta h
    obtain ⟨t', ht', htb⟩ := szCandidate_f b t h2 h3 hb
    rw [if_neg h, ht']; simp only [Option.bind_some]
    by_cases h' : t' < 0
    · rw [if_pos h']
    · obtain ⟨h4, _, _⟩ := htb h'
      obtain ⟨r, e1, e2⟩ := eqcand (toL a) (toL b) (by rw [toL_length]; exact h1) (k := a.length + b.length + 1) (by rw [toL_length]; omega)
      rw [if_neg h', toCandidate_f a h1 (by omega), toCandidate_f b h4 (by omega)]; simp only [Option.bind_some]
      rw [e1, e2]; simp only [Option.bind_some]
      rw [eqCandidate_refl _ (by rw [toL_length]; exact h1) (by rw [toL_length]; omega), eqCandidate_refl _ (by rw [toL_length]; exact h4) (by rw [toL_length]; omega)]
      simp

end Go.Proofs.Ytnaehnenhnfecaa.Pure
