/- For every footing, FormatFooting of the program and of the reference hand back the same text; the argument stays as it was. -/
import Derived.Test.YtboifbpcbnhdmaaDoorPFnExactFormatFootingx6
import Derived.Test.YtboifbpcbnhdmaaDoorBase
import Derived.KernelRfl
namespace Go.Proofs.YtboifbpcbnhdmaaDoor.Pure
open Go.RowKit Go.Proofs.YtboifbpcbnhdmaaDoor.PFnExactFormatFooting Go.Proofs.YtboifbpcbnhdmaaDoorW.PrintWords Go.Proofs.YtboifbpcbnhdmaaDoorW.PrintLast Go.Proofs.YtboifbpcbnhdmaaDoorW.PrintMore Go.Proofs.YtboifbpcbnhdmaaDoor.Base
set_option linter.unusedVariables false
set_option linter.unusedSimpArgs false

/-! eqfoot -/
theorem eqFootS_l0 (l : List S44) (hl : l.length ≤ 1048576) (d : Nat) : ∀ (i k : Nat), i + d = l.length → d < k → laws_eqFootS.l0 k l l (i : Int) = some true := by
  induction d with
  | zero =>
    intro i k h hk
    obtain ⟨k, rfl⟩ : ∃ m, k = m + 1 := ⟨k - 1, by omega⟩
    simp only [laws_eqFootS.l0]; rw [if_neg (by omega)]
  | succ d ih =>
    intro i k h hk
    obtain ⟨k, rfl⟩ : ∃ m, k = m + 1 := ⟨k - 1, by omega⟩
    simp only [laws_eqFootS.l0]
    rw [if_pos (by omega), if_pos (by omega), if_pos (by omega), nx (by omega)]
    simp only [laws_eqFoot.f, if_true, Option.bind_some]
    exact ih (i + 1) k (by omega) (by omega)
theorem eqFootS_refl (l : List S44) (hl : l.length ≤ 1048576) {k : Nat} (hk : l.length < k) : laws_eqFootS.f k l l = some true := by
  unfold laws_eqFootS.f; rw [if_pos rfl]; exact eqFootS_l0 l hl l.length 0 k (by omega) (by omega)
theorem eqFooting_refl (a : Int) (l : List S44) (m : Int) (hl : l.length ≤ 1048576) {k : Nat} (hk : l.length < k) : laws_eqFooting.f k a l m a l m = some true := by
  unfold laws_eqFooting.f; rw [if_pos rfl, eqFootS_refl l hl hk]; simp

/-! foots -/
/-- The feet of the law's own type as the program's. -/
def toF (l : List S53) : List S44 := l.map fun x => ⟨x.f0, x.f1, x.f2⟩
theorem toF_length (l : List S53) : (toF l).length = l.length := by simp [toF]
theorem toFootS_l0 (l : List S53) (hl : l.length ≤ 1048576) (d : Nat) : ∀ (i k : Nat), i + d = l.length → d < k →
    laws_toFootS.l0 k l ((toF l).take i ++ List.replicate ((toF l).length - i) z44) (i : Int) = some (toF l) := by
  induction d with
  | zero =>
    intro i k h hk
    obtain ⟨k, rfl⟩ : ∃ m, k = m + 1 := ⟨k - 1, by omega⟩
    simp only [laws_toFootS.l0]
    rw [if_neg (by omega), List.take_of_length_le (by rw [toF_length]; omega), toF_length, show l.length - i = 0 from by omega]
    simp
  | succ d ih =>
    intro i k h hk
    obtain ⟨k, rfl⟩ : ∃ m, k = m + 1 := ⟨k - 1, by omega⟩
    simp only [laws_toFootS.l0]
    have e : rd_T53 l (i : Int) = l[i]'(by omega) := getD_nat l _ i (by omega)
    have e2 : (⟨(l[i]'(by omega)).f0, (l[i]'(by omega)).f1, (l[i]'(by omega)).f2⟩ : S44) = (toF l)[i]'(by rw [toF_length]; omega) := by simp [toF]
    rw [if_pos (by omega), if_pos (by omega), e]
    simp only [laws_toFoot.f, Option.bind_some]
    rw [if_pos (by simp [toF_length]; omega), e2, Int.toNat_natCast, set_fill (toF l) _ i (by rw [toF_length]; omega), nx (by omega)]
    exact ih (i + 1) k (by omega) (by omega)
theorem toFootS_f (l : List S53) (hl : l.length ≤ 1048576) {k : Nat} (hk : l.length < k) : laws_toFootS.f k l = some (toF l) := by
  unfold laws_toFootS.f
  rw [if_pos (by omega), if_pos (by omega)]
  have := toFootS_l0 l hl l.length 0 k (by omega) (by omega)
  simpa [toF_length] using this
theorem toFooting_f (a : Int) (l : List S53) (m : Int) (hl : l.length ≤ 1048576) {k : Nat} (hk : l.length < k) : laws_toFooting.f k a l m = some (a, toF l, m) := by
  unfold laws_toFooting.f; rw [toFootS_f l hl hk]; rfl
theorem szFooting_f (a : Int) (l : List S53) (m : Int) (n : Int) (h0 : 0 ≤ n) (h1 : n ≤ 1048576) (hl : l.length ≤ 9223372036854775807) :
    ∃ t, laws_szFooting.f a l m n = some t ∧ (¬ t < 0 → l.length ≤ 1048576 ∧ 0 ≤ t ∧ t ≤ 1048576) := by
  unfold laws_szFooting.f laws_szFootS.f
  rw [w64 (by omega) (by omega)]
  by_cases h : n - (l.length : Int) < 0
  · rw [if_pos h]; exact ⟨-1, by simp, by omega⟩
  · rw [if_neg h]; simp only [Option.bind_some]; rw [if_neg h]; exact ⟨_, rfl, fun _ => by omega⟩
/-- Feet of whole numbers that fit. -/
def WF (l : List S44) : Prop := ∀ x ∈ l, (-9223372036854775808 ≤ x.f0 ∧ x.f0 ≤ 9223372036854775807) ∧ (-9223372036854775808 ≤ x.f1 ∧ x.f1 ≤ 9223372036854775807) ∧ (-9223372036854775808 ≤ x.f2 ∧ x.f2 ≤ 9223372036854775807)
theorem toF_wf (l : List S53) (h : ∀ y ∈ l, (Lit.int .i64 y.f0).wf = true ∧ (Lit.int .i64 y.f1).wf = true ∧ (Lit.int .i64 y.f2).wf = true) : WF (toF l) := by
  intro x hx
  simp only [toF, List.mem_map] at hx
  obtain ⟨y, hy, rfl⟩ := hx
  obtain ⟨a, b, c⟩ := h y hy
  exact ⟨wf64 a, wf64 b, wf64 c⟩

/-! l1in -/
theorem l1In_f (a b c : Int) : spec_l1In.f a b c = some (decide (b ≤ a ∧ a ≤ c)) := by
  unfold spec_l1In.f; by_cases h : a ≥ b
  · rw [if_pos h]; simp [h]
  · rw [if_neg h]; simp; omega

/-! within -/
theorem within_f (a b c : Int) : impl_within.f a b c = some (decide (b ≤ a ∧ a ≤ c)) := by
  unfold impl_within.f; by_cases h : b ≤ a
  · rw [if_pos h]; simp [h]
  · rw [if_neg h]; simp; omega

/-! inrange -/

/-! isfoot -/
/-- Do feet lie one behind another, from place 'at' on, inside sy syllables? -/
def okF (sy : Int) : Int → List S44 → Bool
  | _, [] => true
  | a, x :: l => decide ((1 ≤ x.f1 ∧ x.f1 ≤ 2) ∧ (0 ≤ x.f2 ∧ x.f2 ≤ x.f1 - 1) ∧ a ≤ x.f0 ∧ x.f0 + x.f1 ≤ sy) && okF sy (x.f0 + x.f1) l
/-- Is it a footing? -/
def isFt (sy : Int) (l : List S44) (m : Int) : Bool := decide (1 ≤ sy ∧ sy ≤ 6) && (decide (0 ≤ m ∧ m ≤ (l.length : Int) - 1) && okF sy 0 l)
theorem rd_foot (l : List S44) (i : Nat) (h : i < l.length) : rd_T44 l (i : Int) = l[i] := getD_nat l _ i h
theorem impl_isft_l0 (l : List S44) (hl : l.length ≤ 1048576) (hw : ∀ x ∈ l, (-9223372036854775808 ≤ x.f0 ∧ x.f0 ≤ 9223372036854775807) ∧ (-9223372036854775808 ≤ x.f1 ∧ x.f1 ≤ 9223372036854775807) ∧ (-9223372036854775808 ≤ x.f2 ∧ x.f2 ≤ 9223372036854775807))
    (sy m : Int) (h6 : 1 ≤ sy ∧ sy ≤ 6) (d : Nat) : ∀ (i k : Nat) (a : Int), i + d = l.length → d < k → 0 ≤ a →
    impl_IsFooting.l0 k a l (l.length : Int) (i : Int) sy l m = some (okF sy a (l.drop i)) := by
  induction d with
  | zero =>
    intro i k a h hk ha
    obtain ⟨k, rfl⟩ : ∃ m, k = m + 1 := ⟨k - 1, by omega⟩
    simp only [impl_IsFooting.l0]; rw [if_neg (by omega), List.drop_of_length_le (by omega)]; rfl
  | succ d ih =>
    intro i k a h hk ha
    obtain ⟨k, rfl⟩ : ∃ m, k = m + 1 := ⟨k - 1, by omega⟩
    obtain ⟨⟨w0, w0'⟩, ⟨w1, w1'⟩, _⟩ := hw _ (List.getElem_mem (l := l) (n := i) (by omega))
    simp only [impl_IsFooting.l0]
    rw [if_pos (by omega), if_pos (by omega), if_pos (by omega), rd_foot l i (by omega), nx (by omega), List.drop_eq_getElem_cons (i := i) (by omega)]
    generalize l[i]'(by omega) = x at *
    rw [within_f]; simp only [Option.bind_some, okF]
    by_cases h1 : 1 ≤ x.f1 ∧ x.f1 ≤ 2
    · rw [if_pos (by simpa using h1), within_f, w64 (x := x.f1 - 1) (by omega) (by omega)]; simp only [Option.bind_some]
      by_cases h2 : 0 ≤ x.f2 ∧ x.f2 ≤ x.f1 - 1
      · rw [if_pos (by simpa using h2), within_f, w64 (x := sy - x.f1) (by omega) (by omega)]; simp only [Option.bind_some]
        by_cases h3 : a ≤ x.f0 ∧ x.f0 ≤ sy - x.f1
        · rw [if_pos (by simpa using h3), w64 (x := x.f0 + x.f1) (by omega) (by omega), ih (i + 1) k _ (by omega) (by omega) (by omega), decide_eq_true (show (1 ≤ x.f1 ∧ x.f1 ≤ 2) ∧ (0 ≤ x.f2 ∧ x.f2 ≤ x.f1 - 1) ∧ a ≤ x.f0 ∧ x.f0 + x.f1 ≤ sy from ⟨h1, h2, h3.1, by omega⟩), Bool.true_and]
        · rw [if_neg (by simpa using h3), decide_eq_false (p := (1 ≤ x.f1 ∧ x.f1 ≤ 2) ∧ (0 ≤ x.f2 ∧ x.f2 ≤ x.f1 - 1) ∧ a ≤ x.f0 ∧ x.f0 + x.f1 ≤ sy) (fun hh => h3 ⟨hh.2.2.1, by omega⟩), Bool.false_and]
      · rw [if_neg (by simpa using h2), decide_eq_false (p := (1 ≤ x.f1 ∧ x.f1 ≤ 2) ∧ (0 ≤ x.f2 ∧ x.f2 ≤ x.f1 - 1) ∧ a ≤ x.f0 ∧ x.f0 + x.f1 ≤ sy) (fun hh => h2 hh.2.1), Bool.false_and]
    · rw [if_neg (by simpa using h1), decide_eq_false (p := (1 ≤ x.f1 ∧ x.f1 ≤ 2) ∧ (0 ≤ x.f2 ∧ x.f2 ≤ x.f1 - 1) ∧ a ≤ x.f0 ∧ x.f0 + x.f1 ≤ sy) (fun hh => h1 hh.1), Bool.false_and]
theorem spec_isft_l0 (l : List S44) (hl : l.length ≤ 1048576) (hw : ∀ x ∈ l, (-9223372036854775808 ≤ x.f0 ∧ x.f0 ≤ 9223372036854775807) ∧ (-9223372036854775808 ≤ x.f1 ∧ x.f1 ≤ 9223372036854775807) ∧ (-9223372036854775808 ≤ x.f2 ∧ x.f2 ≤ 9223372036854775807))
    (sy m : Int) (h6 : 1 ≤ sy ∧ sy ≤ 6) (d : Nat) : ∀ (i k : Nat) (a : Int), i + d = l.length → d < k → 0 ≤ a →
    spec_IsFooting.l0 k a (i : Int) sy l m = some (okF sy a (l.drop i) && decide (0 ≤ m ∧ m ≤ (l.length : Int) - 1)) := by
  induction d with
  | zero =>
    intro i k a h hk ha
    obtain ⟨k, rfl⟩ : ∃ m, k = m + 1 := ⟨k - 1, by omega⟩
    simp only [spec_IsFooting.l0]; rw [if_neg (by omega), List.drop_of_length_le (by omega), l1In_f]
    simp only [Option.bind_some, okF, Bool.true_and]
    rw [if_pos (by simpa using h6), l1In_f, w64 (by omega) (by omega)]; rfl
  | succ d ih =>
    intro i k a h hk ha
    obtain ⟨k, rfl⟩ : ∃ m, k = m + 1 := ⟨k - 1, by omega⟩
    obtain ⟨⟨w0, w0'⟩, ⟨w1, w1'⟩, _⟩ := hw _ (List.getElem_mem (l := l) (n := i) (by omega))
    simp only [spec_IsFooting.l0]
    rw [if_pos (by omega), if_pos (by omega), rd_foot l i (by omega), nx (by omega), List.drop_eq_getElem_cons (i := i) (by omega)]
    generalize l[i]'(by omega) = x at *
    simp only [okF]
    by_cases h0 : x.f0 < a
    · rw [if_pos h0, decide_eq_false (p := (1 ≤ x.f1 ∧ x.f1 ≤ 2) ∧ (0 ≤ x.f2 ∧ x.f2 ≤ x.f1 - 1) ∧ a ≤ x.f0 ∧ x.f0 + x.f1 ≤ sy) (fun hh => by omega)]; simp
    · rw [if_neg h0, l1In_f]; simp only [Option.bind_some]
      by_cases h1 : 1 ≤ x.f1 ∧ x.f1 ≤ 2
      · rw [if_pos (by simpa using h1)]
        by_cases h3 : wrap64 (x.f0 + x.f1) > sy
        · rw [if_pos h3, decide_eq_false (p := (1 ≤ x.f1 ∧ x.f1 ≤ 2) ∧ (0 ≤ x.f2 ∧ x.f2 ≤ x.f1 - 1) ∧ a ≤ x.f0 ∧ x.f0 + x.f1 ≤ sy) (fun hh => by rw [w64 (by omega) (by omega)] at h3; omega)]; simp
        · rw [if_neg h3]
          by_cases h4 : x.f0 > sy
          · rw [if_pos h4, decide_eq_false (p := (1 ≤ x.f1 ∧ x.f1 ≤ 2) ∧ (0 ≤ x.f2 ∧ x.f2 ≤ x.f1 - 1) ∧ a ≤ x.f0 ∧ x.f0 + x.f1 ≤ sy) (fun hh => by omega)]; simp
          · rw [if_neg h4, w64 (x := x.f0 + x.f1) (by omega) (by omega), w64 (x := x.f1 - 1) (by omega) (by omega), l1In_f]; simp only [Option.bind_some]
            rw [w64 (x := x.f0 + x.f1) (by omega) (by omega)] at h3
            by_cases h2 : 0 ≤ x.f2 ∧ x.f2 ≤ x.f1 - 1
            · rw [if_pos (by simpa using h2), ih (i + 1) k _ (by omega) (by omega) (by omega), decide_eq_true (show (1 ≤ x.f1 ∧ x.f1 ≤ 2) ∧ (0 ≤ x.f2 ∧ x.f2 ≤ x.f1 - 1) ∧ a ≤ x.f0 ∧ x.f0 + x.f1 ≤ sy from ⟨h1, h2, by omega, by omega⟩), Bool.true_and]
            · rw [if_neg (by simpa using h2), decide_eq_false (p := (1 ≤ x.f1 ∧ x.f1 ≤ 2) ∧ (0 ≤ x.f2 ∧ x.f2 ≤ x.f1 - 1) ∧ a ≤ x.f0 ∧ x.f0 + x.f1 ≤ sy) (fun hh => h2 hh.2.1)]; simp
      · rw [if_neg (by simpa using h1), decide_eq_false (p := (1 ≤ x.f1 ∧ x.f1 ≤ 2) ∧ (0 ≤ x.f2 ∧ x.f2 ≤ x.f1 - 1) ∧ a ≤ x.f0 ∧ x.f0 + x.f1 ≤ sy) (fun hh => h1 hh.1)]; simp
theorem spec_isft_no (l : List S44) (hl : l.length ≤ 1048576) (sy m : Int) (h6 : ¬ (1 ≤ sy ∧ sy ≤ 6)) (d : Nat) : ∀ (i k : Nat) (a : Int), i + d = l.length → d < k →
    spec_IsFooting.l0 k a (i : Int) sy l m = some false := by
  induction d with
  | zero =>
    intro i k a h hk
    obtain ⟨k, rfl⟩ : ∃ m, k = m + 1 := ⟨k - 1, by omega⟩
    simp only [spec_IsFooting.l0]; rw [if_neg (by omega), l1In_f]
    simp only [Option.bind_some]
    rw [if_neg (by simpa using h6)]
  | succ d ih =>
    intro i k a h hk
    obtain ⟨k, rfl⟩ : ∃ m, k = m + 1 := ⟨k - 1, by omega⟩
    have := ih (i + 1) k
    simp only [spec_IsFooting.l0]
    rw [if_pos (by omega), if_pos (by omega), nx (by omega), l1In_f, l1In_f]
    simp only [Option.bind_some]
    repeat' split
    all_goals first | rfl | exact this _ (by omega) (by omega)
theorem impl_IsFooting_f (sy : Int) (l : List S44) (m : Int) (hl : l.length ≤ 1048576) (hw : ∀ x ∈ l, (-9223372036854775808 ≤ x.f0 ∧ x.f0 ≤ 9223372036854775807) ∧ (-9223372036854775808 ≤ x.f1 ∧ x.f1 ≤ 9223372036854775807) ∧ (-9223372036854775808 ≤ x.f2 ∧ x.f2 ≤ 9223372036854775807))
    {k : Nat} (hk : l.length + 1 < k) : impl_IsFooting.f k sy l m = some (isFt sy l m) := by
  obtain ⟨k, rfl⟩ : ∃ m, k = m + 1 := ⟨k - 1, by omega⟩
  unfold impl_IsFooting.f isFt
  rw [within_f]; simp only [Option.bind_some]
  by_cases h6 : 1 ≤ sy ∧ sy ≤ 6
  · rw [if_pos (by simpa using h6), within_f, w64 (by omega) (by omega), decide_eq_true h6, Bool.true_and]; simp only [Option.bind_some, impl_IsFooting.j0]
    by_cases hm : 0 ≤ m ∧ m ≤ (l.length : Int) - 1
    · rw [decide_eq_true hm, if_neg (by simp), Bool.true_and]
      exact impl_isft_l0 l hl hw sy m h6 l.length 0 k 0 (by omega) (by omega) (by omega)
    · rw [decide_eq_false hm, if_pos (by simp), Bool.false_and]
  · rw [if_neg (by simpa using h6), decide_eq_false h6, Bool.false_and]
    simp only [impl_IsFooting.j0]; rw [if_pos trivial]
theorem spec_IsFooting_f (sy : Int) (l : List S44) (m : Int) (hl : l.length ≤ 1048576) (hw : ∀ x ∈ l, (-9223372036854775808 ≤ x.f0 ∧ x.f0 ≤ 9223372036854775807) ∧ (-9223372036854775808 ≤ x.f1 ∧ x.f1 ≤ 9223372036854775807) ∧ (-9223372036854775808 ≤ x.f2 ∧ x.f2 ≤ 9223372036854775807))
    {k : Nat} (hk : l.length < k) : spec_IsFooting.f k sy l m = some (isFt sy l m) := by
  unfold spec_IsFooting.f isFt
  by_cases h6 : 1 ≤ sy ∧ sy ≤ 6
  · have := spec_isft_l0 l hl hw sy m h6 l.length 0 k 0 (by omega) (by omega) (by omega)
    rw [decide_eq_true h6, Bool.true_and, Bool.and_comm]
    exact this
  · rw [decide_eq_false h6, Bool.false_and]
    exact spec_isft_no l hl sy m h6 l.length 0 k 0 (by omega) (by omega)
/-- What holds of a foot of a footing. -/
theorem okF_at (sy : Int) (l : List S44) : ∀ (a : Int) (i : Nat) (h : i < l.length), 0 ≤ a → okF sy a l = true → (1 ≤ l[i].f1 ∧ l[i].f1 ≤ 2) ∧ (0 ≤ l[i].f2 ∧ l[i].f2 ≤ l[i].f1 - 1) ∧ 0 ≤ l[i].f0 ∧ l[i].f0 + l[i].f1 ≤ sy := by
  induction l with
  | nil => intro a i h; simp at h
  | cons x l ih =>
    intro a i h ha hk
    simp only [okF, Bool.and_eq_true, decide_eq_true_eq] at hk
    cases i with
    | zero => simp only [List.getElem_cons_zero]; omega
    | succ i => simp only [List.getElem_cons_succ]; exact ih _ i (by simpa using h) (by omega) hk.2
theorem isFt_at {sy : Int} {l : List S44} {m : Int} (h : isFt sy l m = true) (i : Nat) (hi : i < l.length) : (1 ≤ l[i].f1 ∧ l[i].f1 ≤ 2) ∧ (0 ≤ l[i].f2 ∧ l[i].f2 ≤ l[i].f1 - 1) ∧ 0 ≤ l[i].f0 ∧ l[i].f0 + l[i].f1 ≤ sy := by
  simp only [isFt, Bool.and_eq_true, decide_eq_true_eq] at h
  exact okF_at sy l 0 i hi (by omega) h.2.2

/-! stress -/
theorem stress_l0 (sy m : Int) (l : List S44) (h6 : sy ≤ 6) (hl : l.length ≤ 1048576)
    (hok : ∀ (i : Nat) (hi : i < l.length), (1 ≤ l[i].f1 ∧ l[i].f1 ≤ 2) ∧ (0 ≤ l[i].f2 ∧ l[i].f2 ≤ l[i].f1 - 1) ∧ 0 ≤ l[i].f0 ∧ l[i].f0 + l[i].f1 ≤ sy) (d : Nat) : ∀ (i k : Nat) (x : List Int), i + d = l.length → d < k → (x.length : Int) = sy →
    ∃ r, spec_StressesOf.l0 k x (i : Int) sy l m = some r ∧ impl_StressesOf.l0 k x l (l.length : Int) (i : Int) sy l m = some r ∧ (r.length : Int) = sy := by
  induction d with
  | zero =>
    intro i k x h hk hx
    obtain ⟨k, rfl⟩ : ∃ m, k = m + 1 := ⟨k - 1, by omega⟩
    have h1 : ¬ (i : Int) < (l.length : Int) := by omega
    simp only [spec_StressesOf.l0, impl_StressesOf.l0, if_neg h1]
    exact ⟨x, rfl, rfl, hx⟩
  | succ d ih =>
    intro i k x h hk hx
    obtain ⟨k, rfl⟩ : ∃ m, k = m + 1 := ⟨k - 1, by omega⟩
    have h1 : (i : Int) < (l.length : Int) := by omega
    have h2 : 0 ≤ (i : Int) := by omega
    have ho := hok i (by omega)
    simp only [spec_StressesOf.l0, impl_StressesOf.l0, if_pos h1, if_pos h2]
    rw [rd_foot l i (by omega), nx (i := i) (by omega)]
    generalize l[i]'(by omega) = y at ho
    rw [w64 (x := y.f0 + y.f2) (by omega) (by omega)]
    have h3 : 0 ≤ y.f0 + y.f2 := by omega
    have h4 : y.f0 + y.f2 < (x.length : Int) := by omega
    simp only [if_pos h3, if_pos h4, Option.bind_some]
    split
    · exact ih (i + 1) k _ (by omega) (by omega) (by rw [List.length_set, List.length_set]; exact hx)
    · exact ih (i + 1) k _ (by omega) (by omega) (by rw [List.length_set]; exact hx)
/-- Both StressesOf answer the same. -/
theorem stress (sy : Int) (l : List S44) (m : Int) (hl : l.length ≤ 1048576) (hw : ∀ x ∈ l, (-9223372036854775808 ≤ x.f0 ∧ x.f0 ≤ 9223372036854775807) ∧ (-9223372036854775808 ≤ x.f1 ∧ x.f1 ≤ 9223372036854775807) ∧ (-9223372036854775808 ≤ x.f2 ∧ x.f2 ≤ 9223372036854775807))
    {k : Nat} (hk : l.length + 1 < k) : ∃ r, spec_StressesOf.f k sy l m = some r ∧ impl_StressesOf.f k sy l m = some r ∧ r.length ≤ 6 ∧ (isFt sy l m = true → (r.length : Int) = sy) := by
  unfold spec_StressesOf.f impl_StressesOf.f
  rw [spec_IsFooting_f sy l m hl hw (by omega), impl_IsFooting_f sy l m hl hw hk]; simp only [Option.bind_some]
  by_cases h : isFt sy l m = true
  · have h' := h
    simp only [isFt, Bool.and_eq_true, decide_eq_true_eq] at h'
    rw [if_pos h, if_pos h]
    have h3 : 0 ≤ sy := by omega
    have h4 : (sy : Int).toNat ≤ 35184372088832 := by omega
    simp only [if_pos h3, if_pos h4]
    obtain ⟨r, e1, e2, e3⟩ := stress_l0 sy m l h'.1.2 hl (fun i hi => isFt_at h i hi) l.length 0 k (List.replicate sy.toNat 0) (by omega) (by omega) (by rw [List.length_replicate]; omega)
    exact ⟨r, e1, e2, by omega, fun _ => e3⟩
  · rw [if_neg h, if_neg h]
    exact ⟨[], rfl, rfl, by simp, fun hh => absurd hh h⟩

theorem fmt_1 : spec_FormatInt.f 3 1 = some ⟨#[49]⟩ := by kernel_rfl
theorem fmt_2 : spec_FormatInt.f 3 2 = some ⟨#[50]⟩ := by kernel_rfl
theorem imp_0 : impl_FormatInt.f 0 = some ⟨#[48]⟩ := by decide +kernel
theorem imp_1 : impl_FormatInt.f 1 = some ⟨#[49]⟩ := by decide +kernel
theorem imp_2 : impl_FormatInt.f 2 = some ⟨#[50]⟩ := by decide +kernel
theorem fmt_one (k : Nat) (x : Int) (h : 0 ≤ x ∧ x ≤ 2) (hk : 3 ≤ k) : ∃ g : ByteArray, spec_FormatInt.f k x = some g ∧ impl_FormatInt.f x = some g ∧ g.size = 1 := by
  have hx : x = 0 ∨ x = 1 ∨ x = 2 := by omega
  rcases hx with rfl | rfl | rfl
  · exact ⟨_, rfl, imp_0, rfl⟩
  · exact ⟨_, at_rounds (g := fun k => spec_FormatInt.f k 1) (fun k => spec_FormatInt.mono 1 k) hk fmt_1, imp_1, rfl⟩
  · exact ⟨_, at_rounds (g := fun k => spec_FormatInt.f k 2) (fun k => spec_FormatInt.mono 2 k) hk fmt_2, imp_2, rfl⟩
theorem stress_le : ∀ (k : Nat) (x : List Int) (i sy : Int) (l : List S44) (m : Int) (r : List Int), spec_StressesOf.l0 k x i sy l m = some r → (∀ y ∈ x, 0 ≤ y ∧ y ≤ 2) → ∀ y ∈ r, 0 ≤ y ∧ y ≤ 2
  | 0, _, _, _, _, _, _, h, _ => by simp [spec_StressesOf.l0] at h
  | k + 1, x, i, sy, l, m, r, h, hx => by
    have one : ∀ (z : List Int) (j : Nat) (v : Int), (0 ≤ v ∧ v ≤ 2) → (∀ y ∈ z, 0 ≤ y ∧ y ≤ 2) → ∀ y ∈ z.set j v, 0 ≤ y ∧ y ≤ 2 := fun z j v hv hz y hy => by
      rcases List.mem_or_eq_of_mem_set hy with h | h
      · exact hz y h
      · rw [h]; exact hv
    simp only [spec_StressesOf.l0, Option.bind_some] at h
    split at h
    · split at h
      · split at h
        · split at h
          · split at h
            · exact stress_le k _ _ _ _ _ _ h (one _ _ _ (by omega) (one _ _ _ (by omega) hx))
            · exact stress_le k _ _ _ _ _ _ h (one _ _ _ (by omega) hx)
          · cases h
        · cases h
      · cases h
    · obtain rfl := Option.some.inj h
      exact hx
section
variable (sy m : Int) (l : List S44) (t : List Int) (h6 : 1 ≤ sy ∧ sy ≤ 6) (hl : l.length ≤ 1048576) (ht : (t.length : Int) = sy) (h2 : ∀ y ∈ t, 0 ≤ y ∧ y ≤ 2)
  (hok : ∀ (i : Nat) (hi : i < l.length), (1 ≤ l[i].f1 ∧ l[i].f1 ≤ 2) ∧ (0 ≤ l[i].f2 ∧ l[i].f2 ≤ l[i].f1 - 1) ∧ 0 ≤ l[i].f0 ∧ l[i].f0 + l[i].f1 ≤ sy)
include h6 hl hok
theorem fmt_l2 (i : Nat) (hi : (i : Int) < sy) (C X : Nat) (hX : X ≤ 100000000) (next : ∀ (k : Nat) (s : ByteArray), C < k → s.size ≤ X → ∃ r, spec_FormatFooting.l0 k s t ((i + 1 : Nat) : Int) sy l m = some r ∧ impl_FormatFooting.l0 k s t (t.length : Int) ((i + 1 : Nat) : Int) sy l m = some r) (d : Nat) :
    ∀ (j k : Nat) (s : ByteArray), j + d = l.length → C + d + 1 < k → s.size + d ≤ X → ∃ r, spec_FormatFooting.l2 k s t (i : Int) (j : Int) sy l m = some r ∧ impl_FormatFooting.l2 k s (i : Int) t (t.length : Int) (i : Int) l (l.length : Int) (j : Int) sy l m = some r := by
  induction d with
  | zero =>
    intro j k s h hk hs
    obtain ⟨k, rfl⟩ : ∃ q, k = q + 1 := ⟨k - 1, by omega⟩
    have h1 : ¬ (j : Int) < (l.length : Int) := by omega
    simp only [spec_FormatFooting.l2, impl_FormatFooting.l2, if_neg h1]
    rw [nx (i := i) (by omega)]
    exact next k s (by omega) (by omega)
  | succ d ih =>
    intro j k s h hk hs
    obtain ⟨k, rfl⟩ : ∃ q, k = q + 1 := ⟨k - 1, by omega⟩
    have h1 : (j : Int) < (l.length : Int) := by omega
    have h0 : 0 ≤ (j : Int) := by omega
    have ho := hok j (by omega)
    have hsz : s.size + 1 ≤ 9223372036854775807 := by omega
    simp only [spec_FormatFooting.l2, impl_FormatFooting.l2, if_pos h1, if_pos h0, if_pos hsz]
    rw [rd_foot l j (by omega), nx (i := j) (by omega), nx (i := i) (by omega)]
    generalize l[j]'(by omega) = y at ho
    rw [w64 (x := y.f0 + y.f1) (by omega) (by omega), w64 (x := y.f0 + y.f1 - 1) (by omega) (by omega)]
    by_cases he : y.f0 + y.f1 = ((i + 1 : Nat) : Int)
    · rw [if_pos he, if_pos (by omega)]
      exact ih (j + 1) k _ (by omega) (by omega) (by rw [ByteArray.size_append]; have : (⟨#[41]⟩ : ByteArray).size = 1 := rfl; omega)
    · rw [if_neg he, if_neg (by omega)]
      exact ih (j + 1) k s (by omega) (by omega) (by omega)
include ht h2
theorem fmt_l1 (i : Nat) (hi : (i : Int) < sy) (C X : Nat) (hX : X ≤ 100000000) (next : ∀ (k : Nat) (s : ByteArray), C < k → s.size ≤ X → ∃ r, spec_FormatFooting.l0 k s t ((i + 1 : Nat) : Int) sy l m = some r ∧ impl_FormatFooting.l0 k s t (t.length : Int) ((i + 1 : Nat) : Int) sy l m = some r) (d : Nat) :
    ∀ (j k : Nat) (s : ByteArray), j + d = l.length → C + d + l.length + 6 < k → s.size + d + l.length + 1 ≤ X → ∃ r, spec_FormatFooting.l1 k s t (i : Int) (j : Int) sy l m = some r ∧ impl_FormatFooting.l1 k s (i : Int) (rd t (i : Int)) t (t.length : Int) (i : Int) l (l.length : Int) (j : Int) sy l m = some r := by
  induction d with
  | zero =>
    intro j k s h hk hs
    obtain ⟨k, rfl⟩ : ∃ q, k = q + 1 := ⟨k - 1, by omega⟩
    have h1 : ¬ (j : Int) < (l.length : Int) := by omega
    have h3 : 0 ≤ (i : Int) := by omega
    have h4 : (i : Int) < (t.length : Int) := by omega
    have hr : rd t (i : Int) = t[i]'(by omega) := getD_nat t 0 i (by omega)
    obtain ⟨g, g1, g2, g3⟩ := fmt_one k (rd t (i : Int)) (by rw [hr]; exact h2 _ (List.getElem_mem _)) (by omega)
    have hsz : s.size + g.size ≤ 9223372036854775807 := by omega
    simp only [spec_FormatFooting.l1, impl_FormatFooting.l1, if_neg h1, if_pos h3, if_pos h4]
    rw [g1, g2, Option.bind_some, Option.bind_some, if_pos hsz, if_pos hsz]
    exact fmt_l2 sy m l t h6 hl hok i hi C X hX next l.length 0 k _ (by omega) (by omega) (by rw [ByteArray.size_append]; omega)
  | succ d ih =>
    intro j k s h hk hs
    obtain ⟨k, rfl⟩ : ∃ q, k = q + 1 := ⟨k - 1, by omega⟩
    have h1 : (j : Int) < (l.length : Int) := by omega
    have h0 : 0 ≤ (j : Int) := by omega
    have hsz : s.size + 1 ≤ 9223372036854775807 := by omega
    simp only [spec_FormatFooting.l1, impl_FormatFooting.l1, if_pos h1, if_pos h0, if_pos hsz]
    rw [rd_foot l j (by omega), nx (i := j) (by omega)]
    generalize l[j]'(by omega) = y
    by_cases he : y.f0 = (i : Int)
    · rw [if_pos he, if_pos he]
      exact ih (j + 1) k _ (by omega) (by omega) (by rw [ByteArray.size_append]; have : (⟨#[40]⟩ : ByteArray).size = 1 := rfl; omega)
    · rw [if_neg he, if_neg he]
      exact ih (j + 1) k s (by omega) (by omega) (by omega)
theorem fmt_l0 (e : Nat) : ∀ (i k : Nat) (s : ByteArray), (i : Int) + (e : Int) = sy → e * (2 * l.length + 20) < k → s.size + e * (2 * l.length + 2) ≤ 100000000 → ∃ r, spec_FormatFooting.l0 k s t (i : Int) sy l m = some r ∧ impl_FormatFooting.l0 k s t (t.length : Int) (i : Int) sy l m = some r := by
  induction e with
  | zero =>
    intro i k s h hk hs
    obtain ⟨k, rfl⟩ : ∃ q, k = q + 1 := ⟨k - 1, by omega⟩
    have h1 : ¬ (i : Int) < sy := by omega
    have h3 : ¬ (i : Int) < (t.length : Int) := by omega
    simp only [spec_FormatFooting.l0, impl_FormatFooting.l0, if_neg h1, if_neg h3]
    exact ⟨s, rfl, rfl⟩
  | succ e ih =>
    intro i k s h hk hs
    obtain ⟨k, rfl⟩ : ∃ q, k = q + 1 := ⟨k - 1, by omega⟩
    have h1 : (i : Int) < sy := by omega
    have h3 : (i : Int) < (t.length : Int) := by omega
    have h4 : 0 ≤ (i : Int) := by omega
    rw [Nat.succ_mul] at hk hs
    simp only [spec_FormatFooting.l0, impl_FormatFooting.l0, if_pos h1, if_pos h3, if_pos h4]
    exact fmt_l1 sy m l t h6 hl ht h2 hok i h1 (e * (2 * l.length + 20)) (100000000 - e * (2 * l.length + 2)) (by omega) (fun k s hk hs => ih (i + 1) k s (by omega) hk (by omega)) l.length 0 k s (by omega) (by omega) (by omega)
end
theorem FnExactFormatFooting : laws_FnExactFormatFooting.Pure := by
  intro a l m _ hl hw _
  refine ⟨6 * (2 * l.length + 20) + 1, ?_⟩
  generalize hk : 6 * (2 * l.length + 20) + 1 = k
  unfold laws_FnExactFormatFooting.f
  obtain ⟨q, hq, hb⟩ := szFooting_f a l m 1048576 (by omega) (by omega) hl
  rw [hq]; simp only [Option.bind_some]
  by_cases h : q < 0
  · rw [if_pos h]
  · obtain ⟨h1, _, _⟩ := hb h
    have e := toF_length l
    obtain ⟨t, e1, e2, e3, e4⟩ := stress a (toF l) m (by omega) (toF_wf l hw) (k := k) (by omega)
    rw [if_neg h, toFooting_f a l m h1 (by omega)]; simp only [Option.bind_some]
    have main : ∃ r, spec_FormatFooting.f k a (toF l) m = some r ∧ impl_FormatFooting.f k a (toF l) m = some r := by
      unfold spec_FormatFooting.f impl_FormatFooting.f
      rw [spec_IsFooting_f a (toF l) m (by omega) (toF_wf l hw) (by omega), e1, e2, Option.bind_some, Option.bind_some, Option.bind_some]
      by_cases hf : isFt a (toF l) m = true
      · rw [if_pos hf]
        have hf' := hf
        simp only [isFt, Bool.and_eq_true, decide_eq_true_eq] at hf'
        have ht := e4 hf
        have h2 : ∀ y ∈ t, 0 ≤ y ∧ y ≤ 2 := by
          unfold spec_StressesOf.f at e1
          rw [spec_IsFooting_f a (toF l) m (by omega) (toF_wf l hw) (by omega), Option.bind_some, if_pos hf, if_pos (by omega), if_pos (by omega)] at e1
          exact stress_le _ _ _ _ _ _ _ e1 (fun y hy => by rw [List.eq_of_mem_replicate hy]; omega)
        obtain ⟨n, hn⟩ : ∃ n : Nat, a = (n : Int) := ⟨a.toNat, by omega⟩
        have hn6 : n ≤ 6 := by omega
        have hmul : n * (2 * (toF l).length + 20) ≤ 6 * (2 * (toF l).length + 20) := Nat.mul_le_mul_right _ hn6
        have hmul2 : n * (2 * (toF l).length + 2) ≤ 6 * (2 * (toF l).length + 2) := Nat.mul_le_mul_right _ hn6
        exact fmt_l0 a m (toF l) t hf'.1 (by omega) ht h2 (fun i hi => isFt_at hf i hi) n 0 k _ (by omega) (by rw [e] at hmul ⊢; omega) (by rw [e] at hmul2 ⊢; have : (⟨#[]⟩ : ByteArray).size = 0 := rfl; omega)
      · rw [if_neg hf]
        have ht : t = [] := by
          unfold spec_StressesOf.f at e1
          rw [spec_IsFooting_f a (toF l) m (by omega) (toF_wf l hw) (by omega), Option.bind_some, if_neg hf] at e1
          exact (Option.some.inj e1).symm
        subst ht
        obtain ⟨k', rfl⟩ : ∃ q, k = q + 1 := ⟨k - 1, by omega⟩
        exact ⟨_, rfl, by simp [impl_FormatFooting.l0]⟩
    obtain ⟨r, r1, r2⟩ := main
    rw [r1, r2]; simp only [Option.bind_some, if_true]
    rw [eqFooting_refl _ _ _ (by omega) (by omega)]; simp only [Option.bind_some, if_true]

end Go.Proofs.YtboifbpcbnhdmaaDoor.Pure
