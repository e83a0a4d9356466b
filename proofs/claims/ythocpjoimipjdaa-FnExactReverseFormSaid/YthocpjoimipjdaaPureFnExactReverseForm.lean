/- For every string, ReverseForm of the program and of the reference hand back the same bytes (inputs above the law's own size bound are true by the law's guard). -/
import Derived.Test.YthocpjoimipjdaaPFnExactReverseFormx1
import Derived.Test.YthocpjoimipjdaaBase
namespace Go.Proofs.Ythocpjoimipjdaa.Pure
open Go.RowKit Go.Proofs.Ythocpjoimipjdaa.PFnExactReverseForm Go.Proofs.YthocpjoimipjdaaW.PrintWords Go.Proofs.YthocpjoimipjdaaW.PrintLast Go.Proofs.YthocpjoimipjdaaW.PrintMore Go.Proofs.Ythocpjoimipjdaa.Base
set_option linter.unusedVariables false
set_option linter.unusedSimpArgs false

/-! reverse -/
theorem spec_rev_l0 (s : ByteArray) (hn : s.size ≤ 1048576) (d : Nat) : ∀ (i k : Nat), i + d = s.size → d < k →
    spec_ReverseForm.l0 k s (strOfNums ((bytesOf s).take i).reverse) (i : Int) = some (strOfNums (bytesOf s).reverse) := by
  induction d with
  | zero =>
    intro i k h hk
    obtain ⟨k, rfl⟩ : ∃ m, k = m + 1 := ⟨k - 1, by omega⟩
    simp only [spec_ReverseForm.l0]
    rw [if_neg (by omega), List.take_of_length_le (by rw [bytesOf_length]; omega)]
  | succ d ih =>
    intro i k h hk
    obtain ⟨k, rfl⟩ : ∃ m, k = m + 1 := ⟨k - 1, by omega⟩
    have e : wrap64 ((i : Int) + 1) = ((i + 1 : Nat) : Int) := by rw [w64 (by omega) (by omega)]; omega
    simp only [spec_ReverseForm.l0]
    rw [if_pos (by omega), if_pos (by omega), e, if_pos (by omega), if_pos (by omega)]
    have e1 : ((i : Int)).toNat = i := by omega
    have e2 : (((i + 1 : Nat) : Int)).toNat = i + 1 := by omega
    rw [e1, e2, extract_one s i (by omega), str_append, str_size]
    rw [if_pos (by simp [str_size, bytesOf_length]; omega)]
    have := ih (i + 1) k (by omega) (by omega)
    rw [take_bt s i (by omega), List.reverse_append] at this
    exact this

theorem spec_rev (s : ByteArray) (hn : s.size ≤ 1048576) (k : Nat) (hk : s.size < k) : spec_ReverseForm.f k s = some (strOfNums (bytesOf s).reverse) := by
  have := spec_rev_l0 s hn s.size 0 k (by omega) hk
  simpa [spec_ReverseForm.f, strOfNums] using this

theorem impl_rev_l0 (s : ByteArray) (hn : s.size ≤ 1048576) (i : Nat) : ∀ (k : Nat), i ≤ s.size → i < k →
    impl_ReverseForm.l0 k s ((bytesOf s).drop i).reverse ((i : Int) - 1) = some (strOfNums (bytesOf s).reverse) := by
  induction i with
  | zero =>
    intro k h hk
    obtain ⟨k, rfl⟩ : ∃ m, k = m + 1 := ⟨k - 1, by omega⟩
    simp only [impl_ReverseForm.l0]
    rw [if_neg (by omega)]; simp
  | succ i ih =>
    intro k h hk
    obtain ⟨k, rfl⟩ : ∃ m, k = m + 1 := ⟨k - 1, by omega⟩
    have e0 : ((i + 1 : Nat) : Int) - 1 = (i : Int) := by omega
    have e : wrap64 ((i : Int) - 1) = (i : Int) - 1 := w64 (by omega) (by omega)
    simp only [impl_ReverseForm.l0]
    rw [e0, if_pos (by omega), if_pos (by omega), if_pos (by omega), if_pos (by simp [bytesOf_length]; omega), e]
    have := ih k (by omega) (by omega)
    rw [drop_bt s i (by omega), List.reverse_cons] at this
    exact this

theorem impl_rev (s : ByteArray) (hn : s.size ≤ 1048576) (k : Nat) (hk : s.size < k) : impl_ReverseForm.f k s = some (strOfNums (bytesOf s).reverse) := by
  have := impl_rev_l0 s hn s.size k (by omega) hk
  rw [List.drop_of_length_le (by rw [bytesOf_length]; omega)] at this
  simp only [impl_ReverseForm.f]
  rw [w64 (by omega) (by omega)]
  exact this

theorem FnExactReverseForm : laws_FnExactReverseForm.Pure := by
  intro s hs
  refine ⟨s.size + 1, ?_⟩
  unfold laws_FnExactReverseForm.f
  by_cases hn : (s.size : Int) > 1048576
  · rw [if_pos hn]
  · rw [if_neg hn, spec_rev s (by omega) _ (by omega), impl_rev s (by omega) _ (by omega)]
    simp

end Go.Proofs.Ythocpjoimipjdaa.Pure
