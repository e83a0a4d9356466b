/- For every number, FormsOf of the program and of the reference hand back the same list, and the list is the caller's own. -/
import Derived.Test.YtnaehnenhnfecaaPFnExactFormsOfx2
import Derived.Test.YtnaehnenhnfecaaBase
namespace Go.Proofs.Ytnaehnenhnfecaa.Pure
open Go.RowKit Go.Proofs.Ytnaehnenhnfecaa.PFnExactFormsOf Go.Proofs.YtnaehnenhnfecaaW.PrintWords Go.Proofs.YtnaehnenhnfecaaW.PrintLast Go.Proofs.YtnaehnenhnfecaaW.PrintMore Go.Proofs.Ytnaehnenhnfecaa.Base
set_option linter.unusedVariables false
set_option linter.unusedSimpArgs false

/-! l1in -/
theorem l1In_f (a b c : Int) : spec_l1In.f a b c = some (decide (b ≤ a ∧ a ≤ c)) := by
  unfold spec_l1In.f; by_cases h : a ≥ b
  · rw [if_pos h]; simp [h]
  · rw [if_neg h]; simp; omega

/-! within -/
theorem within_f (a b c : Int) : impl_within.f a b c = some (decide (b ≤ a ∧ a ≤ c)) := by
  unfold impl_within.f; by_cases h : b ≤ a
  · rw [if_pos h]; simp [h]
  · rw [if_neg h]; simp; omega

/-! inrange -/

/-! marktext -/
/-- 10 to the n. -/
def c10 : Nat → Nat
  | 0 => 1
  | n + 1 => c10 n * 10
theorem c10_le (n : Nat) (h : n < 15) : c10 n * 10 ≤ 10000000000000000 := by
  have key : ∀ m : Fin 15, c10 m.val * 10 ≤ 10000000000000000 := by decide +kernel
  exact key ⟨n, h⟩
theorem markText_l0 (n : Nat) : ∀ (x k : Nat) (acc : ByteArray), x < c10 n → n < 16 → n < k → acc.size + n < 1000 → ∃ t, laws_markText.l0 k (x : Int) acc = some t := by
  induction n with
  | zero =>
    intro x k acc hx hn hk ha
    obtain ⟨k, rfl⟩ : ∃ m, k = m + 1 := ⟨k - 1, by omega⟩
    have hx : x < 1 := hx
    simp only [laws_markText.l0]
    rw [if_neg (by omega), if_pos (by omega)]; exact ⟨_, rfl⟩
  | succ n ih =>
    intro x k acc hx hn hk ha
    obtain ⟨k, rfl⟩ : ∃ m, k = m + 1 := ⟨k - 1, by omega⟩
    have hc := c10_le n (by omega)
    have hx' : x < c10 n * 10 := hx
    have hd : x / 10 < c10 n := Nat.div_lt_of_lt_mul (by rw [Nat.mul_comm]; exact hx')
    have hb : x < 10000000000000000 := Nat.lt_of_lt_of_le hx' hc
    clear hx hx' hc
    simp only [laws_markText.l0]
    by_cases h : x = 0
    · rw [if_neg (by omega), if_pos (by omega)]; exact ⟨_, rfl⟩
    · have e : wrap64 (Int.tdiv (x : Int) 10) = ((x / 10 : Nat) : Int) := by
        rw [Int.tdiv_eq_ediv_of_nonneg (by omega), w64 (by omega) (by omega)]; omega
      rw [if_pos (by omega), e]
      simp only [Option.bind_some]
      rw [if_pos (by simp only [str_size, List.length_cons, List.length_nil]; omega)]
      exact ih (x / 10) k _ hd (by omega) (by omega) (by rw [ByteArray.size_append, str_size]; simp only [List.length_cons, List.length_nil]; omega)
theorem c10_15 : c10 15 = 1000000000000000 := by decide
/-- The text of a mark. -/
def mT (x : Nat) : ByteArray := (laws_markText.f 20 (x : Int)).getD ⟨#[]⟩
theorem markText_f (x : Nat) (hx : x < 1000000000000000) {k : Nat} (hk : 20 ≤ k) : laws_markText.f k (x : Int) = some (mT x) := by
  have h : ∃ t, laws_markText.f 20 (x : Int) = some t := by
    unfold laws_markText.f
    by_cases h : (x : Int) ≤ 0
    · rw [if_pos h]; exact ⟨_, rfl⟩
    · rw [if_neg h]; exact markText_l0 15 x 20 _ (by rw [c10_15]; exact hx) (by omega) (by omega) (by decide)
  obtain ⟨t, ht⟩ := h
  have e : mT x = t := by unfold mT; rw [ht]; rfl
  rw [e]
  exact at_rounds (g := fun k => laws_markText.f k (x : Int)) (fun k => laws_markText.mono (x : Int) k) hk ht

/-! markstr -/
theorem eqStringS_l0 (l : List ByteArray) (hl : l.length ≤ 1048576) (d : Nat) : ∀ (i k : Nat), i + d = l.length → d < k → laws_eqStringS.l0 k l l (i : Int) = some true := by
  induction d with
  | zero =>
    intro i k h hk
    obtain ⟨k, rfl⟩ : ∃ m, k = m + 1 := ⟨k - 1, by omega⟩
    simp only [laws_eqStringS.l0]; rw [if_neg (by omega)]
  | succ d ih =>
    intro i k h hk
    obtain ⟨k, rfl⟩ : ∃ m, k = m + 1 := ⟨k - 1, by omega⟩
    simp only [laws_eqStringS.l0]
    rw [if_pos (by omega), if_pos (by omega), if_pos (by omega), nx (by omega), if_pos trivial]
    exact ih (i + 1) k (by omega) (by omega)
theorem eqStringS_refl (l : List ByteArray) (hl : l.length ≤ 1048576) {k : Nat} (hk : l.length < k) : laws_eqStringS.f k l l = some true := by
  unfold laws_eqStringS.f; rw [if_pos rfl]; exact eqStringS_l0 l hl l.length 0 k (by omega) (by omega)
/-- The marks of texts. -/
def mS (i : Nat) : ByteArray := mT (1 + i)
theorem markStringS_l0 (l : List ByteArray) (hl : l.length ≤ 1048576) (d : Nat) : ∀ (i k : Nat), i + d = l.length → d + 20 < k →
    laws_markStringS.l0 k ((tab mS l.length).take i ++ l.drop i) ((1 + i : Nat) : Int) (i : Int) = some (((1 + l.length : Nat) : Int), tab mS l.length) := by
  induction d with
  | zero =>
    intro i k h hk
    obtain ⟨k, rfl⟩ : ∃ m, k = m + 1 := ⟨k - 1, by omega⟩
    simp only [laws_markStringS.l0]
    rw [mix_length _ _ _ (tab_length _ _), if_neg (by omega), List.take_of_length_le (by rw [tab_length]; omega), List.drop_of_length_le (by omega), show i = l.length from by omega]
    simp
  | succ d ih =>
    intro i k h hk
    obtain ⟨k, rfl⟩ : ∃ m, k = m + 1 := ⟨k - 1, by omega⟩
    simp only [laws_markStringS.l0]
    rw [mix_length _ _ _ (tab_length _ _), if_pos (by omega), markText_f (1 + i) (by omega) (by omega)]
    simp only [Option.bind_some]
    rw [if_pos (by omega), Int.toNat_natCast, nx (i := 1 + i) (by omega), nx (i := i) (by omega), Nat.add_assoc, set_mix (tab mS l.length) l i (mT (1 + i)) (by rw [tab_length]; omega) (tab_length _ _) (tab_get _ _ _ _)]
    exact ih (i + 1) k (by omega) (by omega)
theorem markStringS_f (l : List ByteArray) (hl : l.length ≤ 1048576) {k : Nat} (hk : l.length + 20 < k) : laws_markStringS.f k l 1 = some (((1 + l.length : Nat) : Int), tab mS l.length) := by
  have := markStringS_l0 l hl l.length 0 k (by omega) (by omega)
  rw [List.take_zero, List.drop_zero, List.nil_append] at this
  exact this
theorem heldStringS_l0 (n : Nat) (hl : n ≤ 1048576) (d : Nat) : ∀ (i k : Nat), i + d = n → d + 20 < k → laws_heldStringS.l0 k (tab mS n) ((1 + i : Nat) : Int) (i : Int) = some ((1 + n : Nat) : Int) := by
  induction d with
  | zero =>
    intro i k h hk
    obtain ⟨k, rfl⟩ : ∃ m, k = m + 1 := ⟨k - 1, by omega⟩
    simp only [laws_heldStringS.l0]
    rw [tab_length, if_neg (by omega), show i = n from by omega]
  | succ d ih =>
    intro i k h hk
    obtain ⟨k, rfl⟩ : ∃ m, k = m + 1 := ⟨k - 1, by omega⟩
    have e2 : rdOf ByteArray.empty (tab mS n) (i : Int) = mT (1 + i) := tab_getD mS ByteArray.empty n i (by omega)
    simp only [laws_heldStringS.l0]
    rw [tab_length, if_pos (by omega), if_pos (by omega), markText_f (1 + i) (by omega) (by omega)]
    simp only [Option.bind_some]
    rw [e2, if_pos rfl, nx (i := 1 + i) (by omega), nx (i := i) (by omega), Nat.add_assoc]
    exact ih (i + 1) k (by omega) (by omega)
theorem heldStringS_f (n : Nat) (hl : n ≤ 1048576) {k : Nat} (hk : n + 20 < k) : laws_heldStringS.f k (tab mS n) 1 = some ((1 + n : Nat) : Int) :=
  heldStringS_l0 n hl n 0 k (by omega) (by omega)

theorem forms_out (n : Int) (h : ¬ (0 ≤ n ∧ n ≤ 3)) (k : Nat) : spec_FormsOf.f k n = some [] ∧ impl_FormsOf.f k n = some [] := by
  unfold spec_FormsOf.f impl_FormsOf.f
  rw [l1In_f, within_f]; simp only [Option.bind_some]
  rw [if_neg (by simpa using h), if_neg (by simpa using h)]; exact ⟨rfl, rfl⟩
theorem forms_in : ∀ n : Fin 4, ((spec_FormsOf.f 1000 ((n.val : Nat) : Int)).getD []).length ≤ 343 ∧ (spec_FormsOf.f 1000 ((n.val : Nat) : Int)).isSome = true ∧ impl_FormsOf.f 1000 ((n.val : Nat) : Int) = spec_FormsOf.f 1000 ((n.val : Nat) : Int) := by decide +kernel
theorem forms (n : Int) {k : Nat} (hk : 1000 ≤ k) : ∃ l : List ByteArray, l.length ≤ 343 ∧ spec_FormsOf.f k n = some l ∧ impl_FormsOf.f k n = some l := by
  by_cases h : 0 ≤ n ∧ n ≤ 3
  · obtain ⟨m, rfl⟩ := Int.eq_ofNat_of_zero_le h.1
    obtain ⟨h1, h2, h3⟩ := forms_in ⟨m, by omega⟩
    obtain ⟨l, hl⟩ := Option.isSome_iff_exists.1 h2
    refine ⟨l, ?_, at_rounds (g := fun k => spec_FormsOf.f k (m : Int)) (fun k => spec_FormsOf.mono (m : Int) k) hk hl, at_rounds (g := fun k => impl_FormsOf.f k (m : Int)) (fun k => impl_FormsOf.mono (m : Int) k) hk (h3.trans hl)⟩
    have h1' : ((spec_FormsOf.f 1000 (m : Int)).getD []).length ≤ 343 := h1
    have hl' : spec_FormsOf.f 1000 (m : Int) = some l := hl
    rw [hl'] at h1'; exact h1'
  · obtain ⟨h1, h2⟩ := forms_out n h k
    exact ⟨[], by simp, h1, h2⟩
theorem FnExactFormsOf : laws_FnExactFormsOf.Pure := by
  intro n _
  refine ⟨1000, ?_⟩
  obtain ⟨l, hl, h1, h2⟩ := forms n (Nat.le_refl 1000)
  unfold laws_FnExactFormsOf.f
  rw [h1, h2]; simp only [Option.bind_some]
  have hp : ¬ ((1 + l.length : Nat) : Int) < 0 := by omega
  rw [eqStringS_refl l (by omega) (by omega)]; simp only [Option.bind_some, if_true]
  rw [markStringS_f l (by omega) (by omega)]; simp only [Option.bind_some]
  rw [heldStringS_f _ (by omega) (by omega)]; simp only [Option.bind_some, if_true, if_neg hp]

end Go.Proofs.Ytnaehnenhnfecaa.Pure
