/- For every string, DecodeHex of the program and of the reference hand back the same bytes and the same verdict. -/
import Derived.Test.YtnaehnenhnfecaaPFnExactDecodeHexx1
import Derived.Test.YtnaehnenhnfecaaBase
namespace Go.Proofs.Ytnaehnenhnfecaa.Pure
open Go.RowKit Go.Proofs.Ytnaehnenhnfecaa.PFnExactDecodeHex Go.Proofs.YtnaehnenhnfecaaW.PrintWords Go.Proofs.YtnaehnenhnfecaaW.PrintLast Go.Proofs.YtnaehnenhnfecaaW.PrintMore Go.Proofs.Ytnaehnenhnfecaa.Base
set_option linter.unusedVariables false
set_option linter.unusedSimpArgs false

/-! sounds -/
/-- Facts on single bytes, tried at each of the 256. -/
theorem byte_cases {P : Int → Prop} (h : ∀ n : Fin 256, P ((n.val : Nat) : Int)) {x : Int} (h0 : 0 ≤ x) (h1 : x ≤ 255) : P x := by
  obtain ⟨m, rfl⟩ := Int.eq_ofNat_of_zero_le h0
  exact h ⟨m, by omega⟩

/-! hexdec -/
/-- The value of a digit, or -1. -/
def hv (x : Int) : Int := if 48 ≤ x ∧ x ≤ 57 then x - 48 else if 97 ≤ x ∧ x ≤ 102 then x - 87 else -1
theorem spec_l1FromHex_f {x : Int} (h0 : 0 ≤ x) (h1 : x ≤ 255) {k : Nat} (hk : 17 ≤ k) : spec_l1FromHex.f k x = some (hv x) := by
  have h : spec_l1FromHex.f 17 x = some (hv x) := by
    refine byte_cases (P := fun x => spec_l1FromHex.f 17 x = some (hv x)) ?_ h0 h1; decide +kernel
  exact at_rounds (g := fun k => spec_l1FromHex.f k x) (fun k => spec_l1FromHex.mono x k) hk h
theorem impl_digit {x : Int} (h0 : 0 ≤ x) (h1 : x ≤ 255) : strings_IndexByte.f (⟨#[48, 49, 50, 51, 52, 53, 54, 55, 56, 57, 97, 98, 99, 100, 101, 102]⟩ : ByteArray) x = some (hv x) := by
  refine byte_cases (P := fun x => strings_IndexByte.f (⟨#[48, 49, 50, 51, 52, 53, 54, 55, 56, 57, 97, 98, 99, 100, 101, 102]⟩ : ByteArray) x = some (hv x)) ?_ h0 h1; decide +kernel
theorem hexdec_even (s : ByteArray) (hs : s.size ≤ 1048576) (he : s.size % 2 = 0) (d : Nat) : ∀ (i k k' : Nat) (acc : List Int), i + 2 * d = s.size → acc.length ≤ i → d + 17 < k → d < k' →
    ∃ r, spec_DecodeHex.l0 k s acc (i : Int) = some r ∧ impl_DecodeHex.l0 k' s acc (i : Int) = some r := by
  induction d with
  | zero =>
    intro i k k' acc h ha hk hk'
    obtain ⟨k, rfl⟩ : ∃ m, k = m + 1 := ⟨k - 1, by omega⟩
    obtain ⟨k', rfl⟩ : ∃ m, k' = m + 1 := ⟨k' - 1, by omega⟩
    refine ⟨(strOfNums acc, true), ?_, ?_⟩
    · simp only [spec_DecodeHex.l0]; rw [if_neg (by omega)]
    · simp only [impl_DecodeHex.l0]; rw [nx (by omega)]; repeat rw [if_neg (by omega)]
  | succ d ih =>
    intro i k k' acc h ha hk hk'
    obtain ⟨k, rfl⟩ : ∃ m, k = m + 1 := ⟨k - 1, by omega⟩
    obtain ⟨k', rfl⟩ : ∃ m, k' = m + 1 := ⟨k' - 1, by omega⟩
    obtain ⟨b0, b1⟩ := bt_range s (i : Int)
    obtain ⟨c0, c1⟩ := bt_range s ((i + 1 : Nat) : Int)
    simp only [spec_DecodeHex.l0, impl_DecodeHex.l0]
    have h1 : (i : Int) < (s.size : Int) := by omega
    have h2 : 0 ≤ (i : Int) := by omega
    have h3 : ((i + 1 : Nat) : Int) < (s.size : Int) := by omega
    have h4 : 0 ≤ ((i + 1 : Nat) : Int) := by omega
    rw [nx (i := i) (by omega)]
    simp only [if_pos h1, if_pos h2, if_pos h3, if_pos h4]
    rw [spec_l1FromHex_f b0 b1 (by omega), spec_l1FromHex_f c0 c1 (by omega), impl_digit b0 b1, impl_digit c0 c1]
    simp only [Option.bind_some]
    by_cases ha0 : hv (bt s (i : Int)) < 0
    · repeat rw [if_pos ha0]
      exact ⟨_, rfl, rfl⟩
    · repeat rw [if_neg ha0]
      by_cases hb0 : hv (bt s ((i + 1 : Nat) : Int)) < 0
      · repeat rw [if_pos hb0]
        exact ⟨_, rfl, rfl⟩
      · repeat rw [if_neg hb0]
        repeat rw [if_pos (by omega)]
        rw [nx2 (by omega)]
        exact ih (i + 2) k k' _ (by omega) (by simp; omega) (by omega) (by omega)
theorem hexdec_odd (s : ByteArray) (hs : s.size ≤ 1048576) (he : s.size % 2 = 1) (d : Nat) : ∀ (i k' : Nat) (acc : List Int), i + 2 * d + 1 = s.size → acc.length ≤ i → d < k' →
    impl_DecodeHex.l0 k' s acc (i : Int) = some ((⟨#[]⟩ : ByteArray), false) := by
  induction d with
  | zero =>
    intro i k' acc h ha hk'
    obtain ⟨k', rfl⟩ : ∃ m, k' = m + 1 := ⟨k' - 1, by omega⟩
    simp only [impl_DecodeHex.l0]; rw [nx (by omega), if_neg (by omega), if_pos (by omega)]
  | succ d ih =>
    intro i k' acc h ha hk'
    obtain ⟨k', rfl⟩ : ∃ m, k' = m + 1 := ⟨k' - 1, by omega⟩
    obtain ⟨b0, b1⟩ := bt_range s (i : Int)
    obtain ⟨c0, c1⟩ := bt_range s ((i + 1 : Nat) : Int)
    simp only [impl_DecodeHex.l0]
    have h1 : (i : Int) < (s.size : Int) := by omega
    have h2 : 0 ≤ (i : Int) := by omega
    have h3 : ((i + 1 : Nat) : Int) < (s.size : Int) := by omega
    have h4 : 0 ≤ ((i + 1 : Nat) : Int) := by omega
    rw [nx (i := i) (by omega)]
    simp only [if_pos h1, if_pos h2, if_pos h3, if_pos h4]
    rw [impl_digit b0 b1, impl_digit c0 c1]
    simp only [Option.bind_some]
    by_cases ha0 : hv (bt s (i : Int)) < 0
    · rw [if_pos ha0]
    · rw [if_neg ha0]
      by_cases hb0 : hv (bt s ((i + 1 : Nat) : Int)) < 0
      · rw [if_pos hb0]
      · rw [if_neg hb0, if_pos (by omega), nx2 (by omega)]
        exact ih (i + 2) k' _ (by omega) (by simp; omega) (by omega)
theorem hexdec (s : ByteArray) (hs : s.size ≤ 1048576) {k : Nat} (hk : s.size + 18 < k) : ∃ r, spec_DecodeHex.f k s = some r ∧ impl_DecodeHex.f k s = some r := by
  unfold spec_DecodeHex.f impl_DecodeHex.f
  by_cases he : s.size % 2 = 1
  · refine ⟨((⟨#[]⟩ : ByteArray), false), ?_, hexdec_odd s hs he (s.size / 2) 0 k [] (by omega) (by simp) (by omega)⟩
    rw [if_pos (by omega)]
  · obtain ⟨r, h1, h2⟩ := hexdec_even s hs (by omega) (s.size / 2) 0 k k [] (by omega) (by simp) (by omega) (by omega)
    exact ⟨r, by rw [if_neg (by omega)]; exact h1, h2⟩

theorem FnExactDecodeHex : laws_FnExactDecodeHex.Pure := by
  intro s hs
  refine ⟨s.size + 19, ?_⟩
  unfold laws_FnExactDecodeHex.f
  by_cases hn : (s.size : Int) > 1048576
  · rw [if_pos hn]
  · obtain ⟨r, h1, h2⟩ := hexdec s (by omega) (k := s.size + 19) (by omega)
    rw [if_neg hn, h1, h2]
    simp

end Go.Proofs.Ytnaehnenhnfecaa.Pure
