/- For every footing, StressesOf of the program and of the reference hand back the same list; the argument stays as it was and shares nothing with the list, which is the caller's own. -/
import Derived.Test.YtmahcallcjijlaaPFnExactStressesOfx5
import Derived.Test.YtmahcallcjijlaaBase
namespace Go.Proofs.Ytmahcallcjijlaa.Pure
open Go.RowKit Go.Proofs.Ytmahcallcjijlaa.PFnExactStressesOf Go.Proofs.YtmahcallcjijlaaW.PrintWords Go.Proofs.YtmahcallcjijlaaW.PrintLast Go.Proofs.YtmahcallcjijlaaW.PrintMore Go.Proofs.Ytmahcallcjijlaa.Base
set_option linter.unusedVariables false
set_option linter.unusedSimpArgs false

/-! eqfoot -/
theorem eqFootS_l0 (l : List S63) (hl : l.length ≤ 1048576) (d : Nat) : ∀ (i k : Nat), i + d = l.length → d < k → laws_eqFootS.l0 k l l (i : Int) = some true := by
  induction d with
  | zero =>
    intro i k h hk
    obtain ⟨k, rfl⟩ : ∃ m, k = m + 1 := ⟨k - 1, by omega⟩
    simp only [laws_eqFootS.l0]; rw [if_neg (by omega)]
  | succ d ih =>
    intro i k h hk
    obtain ⟨k, rfl⟩ : ∃ m, k = m + 1 := ⟨k - 1, by omega⟩
    simp only [laws_eqFootS.l0]
    rw [if_pos (by omega), if_pos (by omega), if_pos (by omega), nx (by omega)]
    simp only [laws_eqFoot.f, if_true, Option.bind_some]
    exact ih (i + 1) k (by omega) (by omega)
theorem eqFootS_refl (l : List S63) (hl : l.length ≤ 1048576) {k : Nat} (hk : l.length < k) : laws_eqFootS.f k l l = some true := by
  unfold laws_eqFootS.f; rw [if_pos rfl]; exact eqFootS_l0 l hl l.length 0 k (by omega) (by omega)
theorem eqFooting_refl (a : Int) (l : List S63) (m : Int) (hl : l.length ≤ 1048576) {k : Nat} (hk : l.length < k) : laws_eqFooting.f k a l m a l m = some true := by
  unfold laws_eqFooting.f; rw [if_pos rfl, eqFootS_refl l hl hk]; simp

/-! foots -/
/-- The feet of the law's own type as the program's. -/
def toF (l : List S87) : List S63 := l.map fun x => ⟨x.f0, x.f1, x.f2⟩
theorem toF_length (l : List S87) : (toF l).length = l.length := by simp [toF]
theorem toFootS_l0 (l : List S87) (hl : l.length ≤ 1048576) (d : Nat) : ∀ (i k : Nat), i + d = l.length → d < k →
    laws_toFootS.l0 k l ((toF l).take i ++ List.replicate ((toF l).length - i) z63) (i : Int) = some (toF l) := by
  induction d with
  | zero =>
    intro i k h hk
    obtain ⟨k, rfl⟩ : ∃ m, k = m + 1 := ⟨k - 1, by omega⟩
    simp only [laws_toFootS.l0]
    rw [if_neg (by omega), List.take_of_length_le (by rw [toF_length]; omega), toF_length, show l.length - i = 0 from by omega]
    simp
  | succ d ih =>
    intro i k h hk
    obtain ⟨k, rfl⟩ : ∃ m, k = m + 1 := ⟨k - 1, by omega⟩
    simp only [laws_toFootS.l0]
    have e : rd_T87 l (i : Int) = l[i]'(by omega) := getD_nat l _ i (by omega)
    have e2 : (⟨(l[i]'(by omega)).f0, (l[i]'(by omega)).f1, (l[i]'(by omega)).f2⟩ : S63) = (toF l)[i]'(by rw [toF_length]; omega) := by simp [toF]
    rw [if_pos (by omega), if_pos (by omega), e]
    simp only [laws_toFoot.f, Option.bind_some]
    rw [if_pos (by simp [toF_length]; omega), e2, Int.toNat_natCast, set_fill (toF l) _ i (by rw [toF_length]; omega), nx (by omega)]
    exact ih (i + 1) k (by omega) (by omega)
theorem toFootS_f (l : List S87) (hl : l.length ≤ 1048576) {k : Nat} (hk : l.length < k) : laws_toFootS.f k l = some (toF l) := by
  unfold laws_toFootS.f
  rw [if_pos (by omega), if_pos (by omega)]
  have := toFootS_l0 l hl l.length 0 k (by omega) (by omega)
  simpa [toF_length] using this
theorem toFooting_f (a : Int) (l : List S87) (m : Int) (hl : l.length ≤ 1048576) {k : Nat} (hk : l.length < k) : laws_toFooting.f k a l m = some (a, toF l, m) := by
  unfold laws_toFooting.f; rw [toFootS_f l hl hk]; rfl
theorem szFooting_f (a : Int) (l : List S87) (m : Int) (n : Int) (h0 : 0 ≤ n) (h1 : n ≤ 1048576) (hl : l.length ≤ 9223372036854775807) :
    ∃ t, laws_szFooting.f a l m n = some t ∧ (¬ t < 0 → l.length ≤ 1048576 ∧ 0 ≤ t ∧ t ≤ 1048576) := by
  unfold laws_szFooting.f laws_szFootS.f
  rw [w64 (by omega) (by omega)]
  by_cases h : n - (l.length : Int) < 0
  · rw [if_pos h]; exact ⟨-1, by simp, by omega⟩
  · rw [if_neg h]; simp only [Option.bind_some]; rw [if_neg h]; exact ⟨_, rfl, fun _ => by omega⟩
/-- Feet of whole numbers that fit. -/
def WF (l : List S63) : Prop := ∀ x ∈ l, (-9223372036854775808 ≤ x.f0 ∧ x.f0 ≤ 9223372036854775807) ∧ (-9223372036854775808 ≤ x.f1 ∧ x.f1 ≤ 9223372036854775807) ∧ (-9223372036854775808 ≤ x.f2 ∧ x.f2 ≤ 9223372036854775807)
theorem toF_wf (l : List S87) (h : ∀ y ∈ l, (Lit.int .i64 y.f0).wf = true ∧ (Lit.int .i64 y.f1).wf = true ∧ (Lit.int .i64 y.f2).wf = true) : WF (toF l) := by
  intro x hx
  simp only [toF, List.mem_map] at hx
  obtain ⟨y, hy, rfl⟩ := hx
  obtain ⟨a, b, c⟩ := h y hy
  exact ⟨wf64 a, wf64 b, wf64 c⟩

/-! l1in -/
theorem l1In_f (a b c : Int) : spec_l1In.f a b c = some (decide (b ≤ a ∧ a ≤ c)) := by
  unfold spec_l1In.f; by_cases h : a ≥ b
  · rw [if_pos h]; simp [h]
  · rw [if_neg h]; simp; omega

/-! within -/
theorem within_f (a b c : Int) : impl_within.f a b c = some (decide (b ≤ a ∧ a ≤ c)) := by
  unfold impl_within.f; by_cases h : b ≤ a
  · rw [if_pos h]; simp [h]
  · rw [if_neg h]; simp; omega

/-! inrange -/

/-! isfoot -/
/-- Do feet lie one behind another, from place 'at' on, inside sy syllables? -/
def okF (sy : Int) : Int → List S63 → Bool
  | _, [] => true
  | a, x :: l => decide ((1 ≤ x.f1 ∧ x.f1 ≤ 2) ∧ (0 ≤ x.f2 ∧ x.f2 ≤ x.f1 - 1) ∧ a ≤ x.f0 ∧ x.f0 + x.f1 ≤ sy) && okF sy (x.f0 + x.f1) l
/-- Is it a footing? -/
def isFt (sy : Int) (l : List S63) (m : Int) : Bool := decide (1 ≤ sy ∧ sy ≤ 6) && (decide (0 ≤ m ∧ m ≤ (l.length : Int) - 1) && okF sy 0 l)
theorem rd_foot (l : List S63) (i : Nat) (h : i < l.length) : rd_T63 l (i : Int) = l[i] := getD_nat l _ i h
theorem impl_isft_l0 (l : List S63) (hl : l.length ≤ 1048576) (hw : ∀ x ∈ l, (-9223372036854775808 ≤ x.f0 ∧ x.f0 ≤ 9223372036854775807) ∧ (-9223372036854775808 ≤ x.f1 ∧ x.f1 ≤ 9223372036854775807) ∧ (-9223372036854775808 ≤ x.f2 ∧ x.f2 ≤ 9223372036854775807))
    (sy m : Int) (h6 : 1 ≤ sy ∧ sy ≤ 6) (d : Nat) : ∀ (i k : Nat) (a : Int), i + d = l.length → d < k → 0 ≤ a →
    impl_IsFooting.l0 k a l (l.length : Int) (i : Int) sy l m = some (okF sy a (l.drop i)) := by
  induction d with
  | zero =>
    intro i k a h hk ha
    obtain ⟨k, rfl⟩ : ∃ m, k = m + 1 := ⟨k - 1, by omega⟩
    simp only [impl_IsFooting.l0]; rw [if_neg (by omega), List.drop_of_length_le (by omega)]; rfl
  | succ d ih =>
    intro i k a h hk ha
    obtain ⟨k, rfl⟩ : ∃ m, k = m + 1 := ⟨k - 1, by omega⟩
    obtain ⟨⟨w0, w0'⟩, ⟨w1, w1'⟩, _⟩ := hw _ (List.getElem_mem (l := l) (n := i) (by omega))
    simp only [impl_IsFooting.l0]
    rw [if_pos (by omega), if_pos (by omega), if_pos (by omega), rd_foot l i (by omega), nx (by omega), List.drop_eq_getElem_cons (i := i) (by omega)]
    generalize l[i]'(by omega) = x at *
    rw [within_f]; simp only [Option.bind_some, okF]
    by_cases h1 : 1 ≤ x.f1 ∧ x.f1 ≤ 2
    · rw [if_pos (by simpa using h1), within_f, w64 (x := x.f1 - 1) (by omega) (by omega)]; simp only [Option.bind_some]
      by_cases h2 : 0 ≤ x.f2 ∧ x.f2 ≤ x.f1 - 1
      · rw [if_pos (by simpa using h2), within_f, w64 (x := sy - x.f1) (by omega) (by omega)]; simp only [Option.bind_some]
        by_cases h3 : a ≤ x.f0 ∧ x.f0 ≤ sy - x.f1
        · rw [if_pos (by simpa using h3), w64 (x := x.f0 + x.f1) (by omega) (by omega), ih (i + 1) k _ (by omega) (by omega) (by omega), decide_eq_true (show (1 ≤ x.f1 ∧ x.f1 ≤ 2) ∧ (0 ≤ x.f2 ∧ x.f2 ≤ x.f1 - 1) ∧ a ≤ x.f0 ∧ x.f0 + x.f1 ≤ sy from ⟨h1, h2, h3.1, by omega⟩), Bool.true_and]
        · rw [if_neg (by simpa using h3), decide_eq_false (p := (1 ≤ x.f1 ∧ x.f1 ≤ 2) ∧ (0 ≤ x.f2 ∧ x.f2 ≤ x.f1 - 1) ∧ a ≤ x.f0 ∧ x.f0 + x.f1 ≤ sy) (fun hh => h3 ⟨hh.2.2.1, by omega⟩), Bool.false_and]
      · rw [if_neg (by simpa using h2), decide_eq_false (p := (1 ≤ x.f1 ∧ x.f1 ≤ 2) ∧ (0 ≤ x.f2 ∧ x.f2 ≤ x.f1 - 1) ∧ a ≤ x.f0 ∧ x.f0 + x.f1 ≤ sy) (fun hh => h2 hh.2.1), Bool.false_and]
    · rw [if_neg (by simpa using h1), decide_eq_false (p := (1 ≤ x.f1 ∧ x.f1 ≤ 2) ∧ (0 ≤ x.f2 ∧ x.f2 ≤ x.f1 - 1) ∧ a ≤ x.f0 ∧ x.f0 + x.f1 ≤ sy) (fun hh => h1 hh.1), Bool.false_and]
theorem spec_isft_l0 (l : List S63) (hl : l.length ≤ 1048576) (hw : ∀ x ∈ l, (-9223372036854775808 ≤ x.f0 ∧ x.f0 ≤ 9223372036854775807) ∧ (-9223372036854775808 ≤ x.f1 ∧ x.f1 ≤ 9223372036854775807) ∧ (-9223372036854775808 ≤ x.f2 ∧ x.f2 ≤ 9223372036854775807))
    (sy m : Int) (h6 : 1 ≤ sy ∧ sy ≤ 6) (d : Nat) : ∀ (i k : Nat) (a : Int), i + d = l.length → d < k → 0 ≤ a →
    spec_IsFooting.l0 k a (i : Int) sy l m = some (okF sy a (l.drop i) && decide (0 ≤ m ∧ m ≤ (l.length : Int) - 1)) := by
  induction d with
  | zero =>
    intro i k a h hk ha
    obtain ⟨k, rfl⟩ : ∃ m, k = m + 1 := ⟨k - 1, by omega⟩
    simp only [spec_IsFooting.l0]; rw [if_neg (by omega), List.drop_of_length_le (by omega), l1In_f]
    simp only [Option.bind_some, okF, Bool.true_and]
    rw [if_pos (by simpa using h6), l1In_f, w64 (by omega) (by omega)]; rfl
  | succ d ih =>
    intro i k a h hk ha
    obtain ⟨k, rfl⟩ : ∃ m, k = m + 1 := ⟨k - 1, by omega⟩
    obtain ⟨⟨w0, w0'⟩, ⟨w1, w1'⟩, _⟩ := hw _ (List.getElem_mem (l := l) (n := i) (by omega))
    simp only [spec_IsFooting.l0]
    rw [if_pos (by omega), if_pos (by omega), rd_foot l i (by omega), nx (by omega), List.drop_eq_getElem_cons (i := i) (by omega)]
    generalize l[i]'(by omega) = x at *
    simp only [okF]
    by_cases h0 : x.f0 < a
    · rw [if_pos h0, decide_eq_false (p := (1 ≤ x.f1 ∧ x.f1 ≤ 2) ∧ (0 ≤ x.f2 ∧ x.f2 ≤ x.f1 - 1) ∧ a ≤ x.f0 ∧ x.f0 + x.f1 ≤ sy) (fun hh => by omega)]; simp
    · rw [if_neg h0, l1In_f]; simp only [Option.bind_some]
      by_cases h1 : 1 ≤ x.f1 ∧ x.f1 ≤ 2
      · rw [if_pos (by simpa using h1)]
        by_cases h3 : wrap64 (x.f0 + x.f1) > sy
        · rw [if_pos h3, decide_eq_false (p := (1 ≤ x.f1 ∧ x.f1 ≤ 2) ∧ (0 ≤ x.f2 ∧ x.f2 ≤ x.f1 - 1) ∧ a ≤ x.f0 ∧ x.f0 + x.f1 ≤ sy) (fun hh => by rw [w64 (by omega) (by omega)] at h3; omega)]; simp
        · rw [if_neg h3]
          by_cases h4 : x.f0 > sy
          · rw [if_pos h4, decide_eq_false (p := (1 ≤ x.f1 ∧ x.f1 ≤ 2) ∧ (0 ≤ x.f2 ∧ x.f2 ≤ x.f1 - 1) ∧ a ≤ x.f0 ∧ x.f0 + x.f1 ≤ sy) (fun hh => by omega)]; simp
          · rw [if_neg h4, w64 (x := x.f0 + x.f1) (by omega) (by omega), w64 (x := x.f1 - 1) (by omega) (by omega), l1In_f]; simp only [Option.bind_some]
            rw [w64 (x := x.f0 + x.f1) (by omega) (by omega)] at h3
            by_cases h2 : 0 ≤ x.f2 ∧ x.f2 ≤ x.f1 - 1
            · rw [if_pos (by simpa using h2), ih (i + 1) k _ (by omega) (by omega) (by omega), decide_eq_true (show (1 ≤ x.f1 ∧ x.f1 ≤ 2) ∧ (0 ≤ x.f2 ∧ x.f2 ≤ x.f1 - 1) ∧ a ≤ x.f0 ∧ x.f0 + x.f1 ≤ sy from ⟨h1, h2, by omega, by omega⟩), Bool.true_and]
            · rw [if_neg (by simpa using h2), decide_eq_false (p := (1 ≤ x.f1 ∧ x.f1 ≤ 2) ∧ (0 ≤ x.f2 ∧ x.f2 ≤ x.f1 - 1) ∧ a ≤ x.f0 ∧ x.f0 + x.f1 ≤ sy) (fun hh => h2 hh.2.1)]; simp
      · rw [if_neg (by simpa using h1), decide_eq_false (p := (1 ≤ x.f1 ∧ x.f1 ≤ 2) ∧ (0 ≤ x.f2 ∧ x.f2 ≤ x.f1 - 1) ∧ a ≤ x.f0 ∧ x.f0 + x.f1 ≤ sy) (fun hh => h1 hh.1)]; simp
theorem spec_isft_no (l : List S63) (hl : l.length ≤ 1048576) (sy m : Int) (h6 : ¬ (1 ≤ sy ∧ sy ≤ 6)) (d : Nat) : ∀ (i k : Nat) (a : Int), i + d = l.length → d < k →
    spec_IsFooting.l0 k a (i : Int) sy l m = some false := by
  induction d with
  | zero =>
    intro i k a h hk
    obtain ⟨k, rfl⟩ : ∃ m, k = m + 1 := ⟨k - 1, by omega⟩
    simp only [spec_IsFooting.l0]; rw [if_neg (by omega), l1In_f]
    simp only [Option.bind_some]
    rw [if_neg (by simpa using h6)]
  | succ d ih =>
    intro i k a h hk
    obtain ⟨k, rfl⟩ : ∃ m, k = m + 1 := ⟨k - 1, by omega⟩
    have := ih (i + 1) k
    simp only [spec_IsFooting.l0]
    rw [if_pos (by omega), if_pos (by omega), nx (by omega), l1In_f, l1In_f]
    simp only [Option.bind_some]
    repeat' split
    all_goals first | rfl | exact this _ (by omega) (by omega)
theorem impl_IsFooting_f (sy : Int) (l : List S63) (m : Int) (hl : l.length ≤ 1048576) (hw : ∀ x ∈ l, (-9223372036854775808 ≤ x.f0 ∧ x.f0 ≤ 9223372036854775807) ∧ (-9223372036854775808 ≤ x.f1 ∧ x.f1 ≤ 9223372036854775807) ∧ (-9223372036854775808 ≤ x.f2 ∧ x.f2 ≤ 9223372036854775807))
    {k : Nat} (hk : l.length + 1 < k) : impl_IsFooting.f k sy l m = some (isFt sy l m) := by
  obtain ⟨k, rfl⟩ : ∃ m, k = m + 1 := ⟨k - 1, by omega⟩
  unfold impl_IsFooting.f isFt
  rw [within_f]; simp only [Option.bind_some]
  by_cases h6 : 1 ≤ sy ∧ sy ≤ 6
  · rw [if_pos (by simpa using h6), within_f, w64 (by omega) (by omega), decide_eq_true h6, Bool.true_and]; simp only [Option.bind_some, impl_IsFooting.j0]
    by_cases hm : 0 ≤ m ∧ m ≤ (l.length : Int) - 1
    · rw [decide_eq_true hm, if_neg (by simp), Bool.true_and]
      exact impl_isft_l0 l hl hw sy m h6 l.length 0 k 0 (by omega) (by omega) (by omega)
    · rw [decide_eq_false hm, if_pos (by simp), Bool.false_and]
  · rw [if_neg (by simpa using h6), decide_eq_false h6, Bool.false_and]
    simp only [impl_IsFooting.j0]; rw [if_pos trivial]
theorem spec_IsFooting_f (sy : Int) (l : List S63) (m : Int) (hl : l.length ≤ 1048576) (hw : ∀ x ∈ l, (-9223372036854775808 ≤ x.f0 ∧ x.f0 ≤ 9223372036854775807) ∧ (-9223372036854775808 ≤ x.f1 ∧ x.f1 ≤ 9223372036854775807) ∧ (-9223372036854775808 ≤ x.f2 ∧ x.f2 ≤ 9223372036854775807))
    {k : Nat} (hk : l.length < k) : spec_IsFooting.f k sy l m = some (isFt sy l m) := by
  unfold spec_IsFooting.f isFt
  by_cases h6 : 1 ≤ sy ∧ sy ≤ 6
  · have := spec_isft_l0 l hl hw sy m h6 l.length 0 k 0 (by omega) (by omega) (by omega)
    rw [decide_eq_true h6, Bool.true_and, Bool.and_comm]
    exact this
  · rw [decide_eq_false h6, Bool.false_and]
    exact spec_isft_no l hl sy m h6 l.length 0 k 0 (by omega) (by omega)
/-- What holds of a foot of a footing. -/
theorem okF_at (sy : Int) (l : List S63) : ∀ (a : Int) (i : Nat) (h : i < l.length), 0 ≤ a → okF sy a l = true → (1 ≤ l[i].f1 ∧ l[i].f1 ≤ 2) ∧ (0 ≤ l[i].f2 ∧ l[i].f2 ≤ l[i].f1 - 1) ∧ 0 ≤ l[i].f0 ∧ l[i].f0 + l[i].f1 ≤ sy := by
  induction l with
  | nil => intro a i h; simp at h
  | cons x l ih =>
    intro a i h ha hk
    simp only [okF, Bool.and_eq_true, decide_eq_true_eq] at hk
    cases i with
    | zero => simp only [List.getElem_cons_zero]; omega
    | succ i => simp only [List.getElem_cons_succ]; exact ih _ i (by simpa using h) (by omega) hk.2
theorem isFt_at {sy : Int} {l : List S63} {m : Int} (h : isFt sy l m = true) (i : Nat) (hi : i < l.length) : (1 ≤ l[i].f1 ∧ l[i].f1 ≤ 2) ∧ (0 ≤ l[i].f2 ∧ l[i].f2 ≤ l[i].f1 - 1) ∧ 0 ≤ l[i].f0 ∧ l[i].f0 + l[i].f1 ≤ sy := by
  simp only [isFt, Bool.and_eq_true, decide_eq_true_eq] at h
  exact okF_at sy l 0 i hi (by omega) h.2.2

/-! stress -/
theorem stress_l0 (sy m : Int) (l : List S63) (h6 : sy ≤ 6) (hl : l.length ≤ 1048576)
    (hok : ∀ (i : Nat) (hi : i < l.length), (1 ≤ l[i].f1 ∧ l[i].f1 ≤ 2) ∧ (0 ≤ l[i].f2 ∧ l[i].f2 ≤ l[i].f1 - 1) ∧ 0 ≤ l[i].f0 ∧ l[i].f0 + l[i].f1 ≤ sy) (d : Nat) : ∀ (i k : Nat) (x : List Int), i + d = l.length → d < k → (x.length : Int) = sy →
    ∃ r, spec_StressesOf.l0 k x (i : Int) sy l m = some r ∧ impl_StressesOf.l0 k x l (l.length : Int) (i : Int) sy l m = some r ∧ (r.length : Int) = sy := by
  induction d with
  | zero =>
    intro i k x h hk hx
    obtain ⟨k, rfl⟩ : ∃ m, k = m + 1 := ⟨k - 1, by omega⟩
    have h1 : ¬ (i : Int) < (l.length : Int) := by omega
    simp only [spec_StressesOf.l0, impl_StressesOf.l0, if_neg h1]
    exact ⟨x, rfl, rfl, hx⟩
  | succ d ih =>
    intro i k x h hk hx
    obtain ⟨k, rfl⟩ : ∃ m, k = m + 1 := ⟨k - 1, by omega⟩
    have h1 : (i : Int) < (l.length : Int) := by omega
    have h2 : 0 ≤ (i : Int) := by omega
    have ho := hok i (by omega)
    simp only [spec_StressesOf.l0, impl_StressesOf.l0, if_pos h1, if_pos h2]
    rw [rd_foot l i (by omega), nx (i := i) (by omega)]
    generalize l[i]'(by omega) = y at ho
    rw [w64 (x := y.f0 + y.f2) (by omega) (by omega)]
    have h3 : 0 ≤ y.f0 + y.f2 := by omega
    have h4 : y.f0 + y.f2 < (x.length : Int) := by omega
    simp only [if_pos h3, if_pos h4, Option.bind_some]
    split
    · exact ih (i + 1) k _ (by omega) (by omega) (by rw [List.length_set, List.length_set]; exact hx)
    · exact ih (i + 1) k _ (by omega) (by omega) (by rw [List.length_set]; exact hx)
/-- Both StressesOf answer the same. -/
theorem stress (sy : Int) (l : List S63) (m : Int) (hl : l.length ≤ 1048576) (hw : ∀ x ∈ l, (-9223372036854775808 ≤ x.f0 ∧ x.f0 ≤ 9223372036854775807) ∧ (-9223372036854775808 ≤ x.f1 ∧ x.f1 ≤ 9223372036854775807) ∧ (-9223372036854775808 ≤ x.f2 ∧ x.f2 ≤ 9223372036854775807))
    {k : Nat} (hk : l.length + 1 < k) : ∃ r, spec_StressesOf.f k sy l m = some r ∧ impl_StressesOf.f k sy l m = some r ∧ r.length ≤ 6 ∧ (isFt sy l m = true → (r.length : Int) = sy) := by
  unfold spec_StressesOf.f impl_StressesOf.f
  rw [spec_IsFooting_f sy l m hl hw (by omega), impl_IsFooting_f sy l m hl hw hk]; simp only [Option.bind_some]
  by_cases h : isFt sy l m = true
  · have h' := h
    simp only [isFt, Bool.and_eq_true, decide_eq_true_eq] at h'
    rw [if_pos h, if_pos h]
    have h3 : 0 ≤ sy := by omega
    have h4 : (sy : Int).toNat ≤ 35184372088832 := by omega
    simp only [if_pos h3, if_pos h4]
    obtain ⟨r, e1, e2, e3⟩ := stress_l0 sy m l h'.1.2 hl (fun i hi => isFt_at h i hi) l.length 0 k (List.replicate sy.toNat 0) (by omega) (by omega) (by rw [List.length_replicate]; omega)
    exact ⟨r, e1, e2, by omega, fun _ => e3⟩
  · rw [if_neg h, if_neg h]
    exact ⟨[], rfl, rfl, by simp, fun hh => absurd hh h⟩

/-! markfoot -/
theorem markFootS_l0 (d : Nat) : ∀ (l : List S63) (i k : Nat) (n : Nat), l.length ≤ 1048576 → i + d = l.length → d < k → n ≤ 1 + 3 * i →
    ∃ t l', laws_markFootS.l0 k l (n : Int) (i : Int) = some (t, l') ∧ ¬ t < 0 := by
  induction d with
  | zero =>
    intro l i k n hl h hk hn
    obtain ⟨k, rfl⟩ : ∃ m, k = m + 1 := ⟨k - 1, by omega⟩
    simp only [laws_markFootS.l0]
    rw [if_neg (by omega)]; exact ⟨_, _, rfl, by omega⟩
  | succ d ih =>
    intro l i k n hl h hk hn
    obtain ⟨k, rfl⟩ : ∃ m, k = m + 1 := ⟨k - 1, by omega⟩
    simp only [laws_markFootS.l0]
    rw [if_pos (by omega), if_pos (by omega), nx (i := n) (by omega), nx (i := n + 1) (by omega), nx (i := n + 1 + 1) (by omega), nx (i := i) (by omega)]
    simp only [Option.bind_some]
    exact ih _ (i + 1) k (n + 1 + 1 + 1) (by simp only [List.length_set]; exact hl) (by simp only [List.length_set]; omega) (by omega) (by omega)
theorem markFooting_f (a : Int) (l : List S63) (m : Int) (hl : l.length ≤ 1048576) {k : Nat} (hk : l.length < k) : ∃ r, laws_markFooting.f k a l m 1 = some r ∧ ¬ r.1 < 0 := by
  obtain ⟨t, l', h1, h2⟩ := markFootS_l0 l.length l 0 k 1 hl (by omega) (by omega) (by omega)
  unfold laws_markFooting.f laws_markFootS.f
  rw [show ((1 : Nat) : Int) = 1 from rfl, show ((0 : Nat) : Int) = 0 from rfl] at h1
  rw [h1]; exact ⟨_, rfl, h2⟩

/-! markint -/
theorem eqIntS_l0 (l : List Int) (hl : l.length ≤ 1048576) (d : Nat) : ∀ (i k : Nat), i + d = l.length → d < k → laws_eqIntS.l0 k l l (i : Int) = some true := by
  induction d with
  | zero =>
    intro i k h hk
    obtain ⟨k, rfl⟩ : ∃ m, k = m + 1 := ⟨k - 1, by omega⟩
    simp only [laws_eqIntS.l0]; rw [if_neg (by omega)]
  | succ d ih =>
    intro i k h hk
    obtain ⟨k, rfl⟩ : ∃ m, k = m + 1 := ⟨k - 1, by omega⟩
    simp only [laws_eqIntS.l0]
    rw [if_pos (by omega), if_pos (by omega), if_pos (by omega), nx (by omega), if_pos trivial]
    exact ih (i + 1) k (by omega) (by omega)
theorem eqIntS_refl (l : List Int) (hl : l.length ≤ 1048576) {k : Nat} (hk : l.length < k) : laws_eqIntS.f k l l = some true := by
  unfold laws_eqIntS.f; rw [if_pos rfl]; exact eqIntS_l0 l hl l.length 0 k (by omega) (by omega)
/-- The marks of whole numbers. -/
def mI (i : Nat) : Int := ((1 + i : Nat) : Int)
theorem markIntS_l0 (l : List Int) (hl : l.length ≤ 1048576) (d : Nat) : ∀ (i k : Nat), i + d = l.length → d < k →
    laws_markIntS.l0 k ((tab mI l.length).take i ++ l.drop i) (mI i) (i : Int) = some (mI l.length, tab mI l.length) := by
  induction d with
  | zero =>
    intro i k h hk
    obtain ⟨k, rfl⟩ : ∃ m, k = m + 1 := ⟨k - 1, by omega⟩
    simp only [laws_markIntS.l0]
    rw [mix_length _ _ _ (tab_length _ _), if_neg (by omega), List.take_of_length_le (by rw [tab_length]; omega), List.drop_of_length_le (by omega), show i = l.length from by omega]
    simp
  | succ d ih =>
    intro i k h hk
    obtain ⟨k, rfl⟩ : ∃ m, k = m + 1 := ⟨k - 1, by omega⟩
    have e : wrap64 (mI i + 1) = mI (i + 1) := by unfold mI; rw [w64 (by omega) (by omega)]; omega
    simp only [laws_markIntS.l0]
    rw [mix_length _ _ _ (tab_length _ _), if_pos (by omega), if_pos (by omega), Int.toNat_natCast, nx (by omega), e, set_mix (tab mI l.length) l i (mI i) (by rw [tab_length]; omega) (tab_length _ _) (tab_get _ _ _ _)]
    exact ih (i + 1) k (by omega) (by omega)
theorem markIntS_f (l : List Int) (hl : l.length ≤ 1048576) {k : Nat} (hk : l.length < k) : laws_markIntS.f k l 1 = some (mI l.length, tab mI l.length) := by
  have := markIntS_l0 l hl l.length 0 k (by omega) (by omega)
  rw [List.take_zero, List.drop_zero, List.nil_append] at this
  exact this
theorem heldIntS_l0 (n : Nat) (hl : n ≤ 1048576) (d : Nat) : ∀ (i k : Nat), i + d = n → d < k → laws_heldIntS.l0 k (tab mI n) (mI i) (i : Int) = some (mI n) := by
  induction d with
  | zero =>
    intro i k h hk
    obtain ⟨k, rfl⟩ : ∃ m, k = m + 1 := ⟨k - 1, by omega⟩
    simp only [laws_heldIntS.l0]
    rw [tab_length, if_neg (by omega), show i = n from by omega]
  | succ d ih =>
    intro i k h hk
    obtain ⟨k, rfl⟩ : ∃ m, k = m + 1 := ⟨k - 1, by omega⟩
    have e : wrap64 (mI i + 1) = mI (i + 1) := by unfold mI; rw [w64 (by omega) (by omega)]; omega
    have e2 : rd (tab mI n) (i : Int) = mI i := tab_getD mI 0 n i (by omega)
    simp only [laws_heldIntS.l0]
    rw [tab_length, if_pos (by omega), if_pos (by omega), e2, if_pos rfl, nx (by omega), e]
    exact ih (i + 1) k (by omega) (by omega)
theorem heldIntS_f (n : Nat) (hl : n ≤ 1048576) {k : Nat} (hk : n < k) : laws_heldIntS.f k (tab mI n) 1 = some (mI n) :=
  heldIntS_l0 n hl n 0 k (by omega) (by omega)
theorem mI_pos (n : Nat) : ¬ mI n < 0 := by unfold mI; omega

theorem FnExactStressesOf : laws_FnExactStressesOf.Pure := by
  intro a l m _ hl hw _
  refine ⟨(l.length + 20) + 1, ?_⟩
  unfold laws_FnExactStressesOf.f
  obtain ⟨t, ht, hb⟩ := szFooting_f a l m 1048576 (by omega) (by omega) hl
  rw [ht]; simp only [Option.bind_some]
  by_cases h : t < 0
  · rw [if_pos h]
  · obtain ⟨h1, _, _⟩ := hb h
    have e := toF_length l
    obtain ⟨r, e1, e2, e3, _⟩ := stress a (toF l) m (by omega) (toF_wf l hw) (k := (l.length + 20) + 1) (by omega)
    obtain ⟨_, e2', _⟩ : ∃ r', impl_StressesOf.f (l.length + 20) a (toF l) m = some r ∧ r' = r := by
      obtain ⟨r', _, e2', _, _⟩ := stress a (toF l) m (by omega) (toF_wf l hw) (k := l.length + 20) (by omega)
      have := at_rounds (g := fun k => impl_StressesOf.f k a (toF l) m) (fun k => impl_StressesOf.mono a (toF l) m k) (Nat.le_succ (l.length + 20)) e2'
      rw [show impl_StressesOf.f (l.length + 20).succ a (toF l) m = some r from e2] at this
      obtain rfl := Option.some.inj this
      exact ⟨r, e2', rfl⟩
    obtain ⟨q, hq, hq2⟩ := markFooting_f a (toF l) m (by omega) (k := (l.length + 20) + 1) (by omega)
    rw [if_neg h, toFooting_f a l m h1 (by omega)]; simp only [Option.bind_some]
    rw [e1, e2]; simp only [Option.bind_some]
    rw [eqIntS_refl r (by omega) (by omega), eqFooting_refl _ _ _ (by omega) (by omega), hq]; simp only [Option.bind_some, if_true, if_neg hq2]
    simp only [laws_FnExactStressesOf.j0]
    rw [if_neg (by simp), markIntS_f r (by omega) (by omega)]; simp only [Option.bind_some]
    rw [heldIntS_f _ (by omega) (by omega), toFooting_f a l m h1 (by omega)]; simp only [Option.bind_some, if_true, if_neg (mI_pos _)]
    rw [e2']; simp only [Option.bind_some]
    rw [eqIntS_refl r (by omega) (by omega)]; simp only [Option.bind_some, if_true]

end Go.Proofs.Ytmahcallcjijlaa.Pure
