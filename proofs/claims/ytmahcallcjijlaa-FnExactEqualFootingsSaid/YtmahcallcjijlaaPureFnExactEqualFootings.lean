/- For all pairs of footings, EqualFootings of the program and of the reference agree, and the arguments stay as they were. -/
import Derived.Test.YtmahcallcjijlaaPFnExactEqualFootingsx4
import Derived.Test.YtmahcallcjijlaaBase
namespace Go.Proofs.Ytmahcallcjijlaa.Pure
open Go.RowKit Go.Proofs.Ytmahcallcjijlaa.PFnExactEqualFootings Go.Proofs.YtmahcallcjijlaaW.PrintWords Go.Proofs.YtmahcallcjijlaaW.PrintLast Go.Proofs.YtmahcallcjijlaaW.PrintMore Go.Proofs.Ytmahcallcjijlaa.Base
set_option linter.unusedVariables false
set_option linter.unusedSimpArgs false

/-! eqfoot -/
theorem eqFootS_l0 (l : List S63) (hl : l.length ≤ 1048576) (d : Nat) : ∀ (i k : Nat), i + d = l.length → d < k → laws_eqFootS.l0 k l l (i : Int) = some true := by
  induction d with
  | zero =>
    intro i k h hk
    obtain ⟨k, rfl⟩ : ∃ m, k = m + 1 := ⟨k - 1, by omega⟩
    simp only [laws_eqFootS.l0]; rw [if_neg (by omega)]
  | succ d ih =>
    intro i k h hk
    obtain ⟨k, rfl⟩ : ∃ m, k = m + 1 := ⟨k - 1, by omega⟩
    simp only [laws_eqFootS.l0]
    rw [if_pos (by omega), if_pos (by omega), if_pos (by omega), nx (by omega)]
    simp only [laws_eqFoot.f, if_true, Option.bind_some]
    exact ih (i + 1) k (by omega) (by omega)
theorem eqFootS_refl (l : List S63) (hl : l.length ≤ 1048576) {k : Nat} (hk : l.length < k) : laws_eqFootS.f k l l = some true := by
  unfold laws_eqFootS.f; rw [if_pos rfl]; exact eqFootS_l0 l hl l.length 0 k (by omega) (by omega)
theorem eqFooting_refl (a : Int) (l : List S63) (m : Int) (hl : l.length ≤ 1048576) {k : Nat} (hk : l.length < k) : laws_eqFooting.f k a l m a l m = some true := by
  unfold laws_eqFooting.f; rw [if_pos rfl, eqFootS_refl l hl hk]; simp

/-! foots -/
/-- The feet of the law's own type as the program's. -/
def toF (l : List S87) : List S63 := l.map fun x => ⟨x.f0, x.f1, x.f2⟩
theorem toF_length (l : List S87) : (toF l).length = l.length := by simp [toF]
theorem toFootS_l0 (l : List S87) (hl : l.length ≤ 1048576) (d : Nat) : ∀ (i k : Nat), i + d = l.length → d < k →
    laws_toFootS.l0 k l ((toF l).take i ++ List.replicate ((toF l).length - i) z63) (i : Int) = some (toF l) := by
  induction d with
  | zero =>
    intro i k h hk
    obtain ⟨k, rfl⟩ : ∃ m, k = m + 1 := ⟨k - 1, by omega⟩
    simp only [laws_toFootS.l0]
    rw [if_neg (by omega), List.take_of_length_le (by rw [toF_length]; omega), toF_length, show l.length - i = 0 from by omega]
    simp
  | succ d ih =>
    intro i k h hk
    obtain ⟨k, rfl⟩ : ∃ m, k = m + 1 := ⟨k - 1, by omega⟩
    simp only [laws_toFootS.l0]
    have e : rd_T87 l (i : Int) = l[i]'(by omega) := getD_nat l _ i (by omega)
    have e2 : (⟨(l[i]'(by omega)).f0, (l[i]'(by omega)).f1, (l[i]'(by omega)).f2⟩ : S63) = (toF l)[i]'(by rw [toF_length]; omega) := by simp [toF]
    rw [if_pos (by omega), if_pos (by omega), e]
    simp only [laws_toFoot.f, Option.bind_some]
    rw [if_pos (by simp [toF_length]; omega), e2, Int.toNat_natCast, set_fill (toF l) _ i (by rw [toF_length]; omega), nx (by omega)]
    exact ih (i + 1) k (by omega) (by omega)
theorem toFootS_f (l : List S87) (hl : l.length ≤ 1048576) {k : Nat} (hk : l.length < k) : laws_toFootS.f k l = some (toF l) := by
  unfold laws_toFootS.f
  rw [if_pos (by omega), if_pos (by omega)]
  have := toFootS_l0 l hl l.length 0 k (by omega) (by omega)
  simpa [toF_length] using this
theorem toFooting_f (a : Int) (l : List S87) (m : Int) (hl : l.length ≤ 1048576) {k : Nat} (hk : l.length < k) : laws_toFooting.f k a l m = some (a, toF l, m) := by
  unfold laws_toFooting.f; rw [toFootS_f l hl hk]; rfl
theorem szFooting_f (a : Int) (l : List S87) (m : Int) (n : Int) (h0 : 0 ≤ n) (h1 : n ≤ 1048576) (hl : l.length ≤ 9223372036854775807) :
    ∃ t, laws_szFooting.f a l m n = some t ∧ (¬ t < 0 → l.length ≤ 1048576 ∧ 0 ≤ t ∧ t ≤ 1048576) := by
  unfold laws_szFooting.f laws_szFootS.f
  rw [w64 (by omega) (by omega)]
  by_cases h : n - (l.length : Int) < 0
  · rw [if_pos h]; exact ⟨-1, by simp, by omega⟩
  · rw [if_neg h]; simp only [Option.bind_some]; rw [if_neg h]; exact ⟨_, rfl, fun _ => by omega⟩
/-- Feet of whole numbers that fit. -/
def WF (l : List S63) : Prop := ∀ x ∈ l, (-9223372036854775808 ≤ x.f0 ∧ x.f0 ≤ 9223372036854775807) ∧ (-9223372036854775808 ≤ x.f1 ∧ x.f1 ≤ 9223372036854775807) ∧ (-9223372036854775808 ≤ x.f2 ∧ x.f2 ≤ 9223372036854775807)
theorem toF_wf (l : List S87) (h : ∀ y ∈ l, (Lit.int .i64 y.f0).wf = true ∧ (Lit.int .i64 y.f1).wf = true ∧ (Lit.int .i64 y.f2).wf = true) : WF (toF l) := by
  intro x hx
  simp only [toF, List.mem_map] at hx
  obtain ⟨y, hy, rfl⟩ := hx
  obtain ⟨a, b, c⟩ := h y hy
  exact ⟨wf64 a, wf64 b, wf64 c⟩

/-! eqfooting -/
theorem eqfooting_l0 (a b : List S63) (sa ma sb mb : Int) (hl : a.length ≤ 1048576) (hab : a.length = b.length) (d : Nat) : ∀ (i k : Nat), i + d = a.length → d < k →
    ∃ r, spec_EqualFootings.l0 k (i : Int) sa a ma sb b mb = some r ∧ impl_Foot.l0 k a b (a.length : Int) (i : Int) = some r := by
  induction d with
  | zero =>
    intro i k h hk
    obtain ⟨k, rfl⟩ : ∃ m, k = m + 1 := ⟨k - 1, by omega⟩
    have h1 : ¬ (i : Int) < (a.length : Int) := by omega
    simp only [spec_EqualFootings.l0, impl_Foot.l0, if_neg h1]
    exact ⟨_, rfl, rfl⟩
  | succ d ih =>
    intro i k h hk
    obtain ⟨k, rfl⟩ : ∃ m, k = m + 1 := ⟨k - 1, by omega⟩
    have h1 : (i : Int) < (a.length : Int) := by omega
    have h2 : 0 ≤ (i : Int) := by omega
    have h3 : (i : Int) < (b.length : Int) := by omega
    simp only [spec_EqualFootings.l0, impl_Foot.l0, if_pos h1, if_pos h2, if_pos h3]
    rw [nx (i := i) (by omega)]
    split
    · exact ⟨_, rfl, rfl⟩
    · exact ih (i + 1) k (by omega) (by omega)
theorem eqfooting (sa : Int) (a : List S63) (ma sb : Int) (b : List S63) (mb : Int) (hl : a.length ≤ 1048576) {k : Nat} (hk : a.length + 1 < k) :
    ∃ r, spec_EqualFootings.f k sa a ma sb b mb = some r ∧ impl_EqualFootings.f k sa a ma sb b mb = some r := by
  obtain ⟨k, rfl⟩ : ∃ m, k = m + 1 := ⟨k - 1, by omega⟩
  unfold spec_EqualFootings.f impl_EqualFootings.f impl_Foot.f
  by_cases h1 : sa = sb
  · by_cases h2 : ma = mb
    · rw [if_pos h1, if_pos h2, if_pos h1, if_pos h2]
      by_cases h3 : a.length = b.length
      · have e : ((a.length : Int) != (b.length : Int)) = false := by simp [h3]
        rw [e, if_pos (by omega)]
        obtain ⟨r, e1, e2⟩ := eqfooting_l0 a b sa ma sb mb hl h3 a.length 0 k (by omega) (by omega)
        have e3 : impl_Foot.l0 (k + 1) a b (a.length : Int) 0 = some r := at_rounds (g := fun k => impl_Foot.l0 k a b (a.length : Int) 0) (fun k => by have := impl_Foot.mono_l k; exact this _ _ _ _) (Nat.le_succ k) e2
        refine ⟨r, ?_, by rw [e3]; rfl⟩
        simp only [spec_EqualFootings.j0]; rw [if_neg (by simp)]; exact e1
      · have e : ((a.length : Int) != (b.length : Int)) = true := by simp; omega
        rw [e, if_neg (by omega)]
        refine ⟨false, ?_, rfl⟩
        simp only [spec_EqualFootings.j0]; rw [if_pos trivial]
    · rw [if_pos h1, if_neg h2, if_pos h1, if_neg h2]
      refine ⟨false, ?_, rfl⟩
      simp only [spec_EqualFootings.j0]; rw [if_pos trivial]
  · rw [if_neg h1, if_neg h1]
    refine ⟨false, ?_, rfl⟩
    simp only [spec_EqualFootings.j0]; rw [if_pos trivial]

theorem FnExactEqualFootings : laws_FnExactEqualFootings.Pure := by
  intro a l m b l' m' _ hl _ _ _ hl' _ _
  refine ⟨l.length + l'.length + 2, ?_⟩
  unfold laws_FnExactEqualFootings.f
  obtain ⟨t, ht, hb⟩ := szFooting_f a l m 1048576 (by omega) (by omega) hl
  rw [ht]; simp only [Option.bind_some]
  by_cases h : t < 0
  · rw [if_pos h]
  · obtain ⟨h1, h2, h3⟩ := hb h
    obtain ⟨t', ht', hb'⟩ := szFooting_f b l' m' t h2 h3 hl'
    rw [if_neg h, ht']; simp only [Option.bind_some]
    by_cases h' : t' < 0
    · rw [if_pos h']
    · obtain ⟨h4, _, _⟩ := hb' h'
      have e := toF_length l
      have e' := toF_length l'
      obtain ⟨r, e1, e2⟩ := eqfooting a (toF l) m b (toF l') m' (by omega) (k := l.length + l'.length + 2) (by omega)
      rw [if_neg h', toFooting_f a l m h1 (by omega), toFooting_f b l' m' h4 (by omega)]; simp only [Option.bind_some]
      rw [e1, e2]; simp only [Option.bind_some]
      rw [eqFooting_refl _ _ _ (by omega) (by omega), eqFooting_refl _ _ _ (by omega) (by omega)]
      simp

end Go.Proofs.Ytmahcallcjijlaa.Pure
