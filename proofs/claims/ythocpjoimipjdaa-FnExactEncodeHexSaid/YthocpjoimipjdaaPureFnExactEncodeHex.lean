/- For every string, EncodeHex of the program and of the reference hand back the same bytes (inputs above the law's own size bound are true by the law's guard). -/
import Derived.Test.YthocpjoimipjdaaPFnExactEncodeHexx1
import Derived.Test.YthocpjoimipjdaaBase
namespace Go.Proofs.Ythocpjoimipjdaa.Pure
open Go.RowKit Go.Proofs.Ythocpjoimipjdaa.PFnExactEncodeHex Go.Proofs.YthocpjoimipjdaaW.PrintWords Go.Proofs.YthocpjoimipjdaaW.PrintLast Go.Proofs.YthocpjoimipjdaaW.PrintMore Go.Proofs.Ythocpjoimipjdaa.Base
set_option linter.unusedVariables false
set_option linter.unusedSimpArgs false

/-! hexenc -/
/-- The digits of bytes. -/
def hx (l : List Int) : List Int := l.flatMap fun x => [bt (⟨#[48, 49, 50, 51, 52, 53, 54, 55, 56, 57, 97, 98, 99, 100, 101, 102]⟩ : ByteArray) (x / 16), bt (⟨#[48, 49, 50, 51, 52, 53, 54, 55, 56, 57, 97, 98, 99, 100, 101, 102]⟩ : ByteArray) (x % 16)]
theorem hx_snoc (l : List Int) (x : Int) : hx (l ++ [x]) = hx l ++ [bt (⟨#[48, 49, 50, 51, 52, 53, 54, 55, 56, 57, 97, 98, 99, 100, 101, 102]⟩ : ByteArray) (x / 16), bt (⟨#[48, 49, 50, 51, 52, 53, 54, 55, 56, 57, 97, 98, 99, 100, 101, 102]⟩ : ByteArray) (x % 16)] := by
  simp [hx, List.flatMap_append]
theorem hx_length (l : List Int) : (hx l).length = 2 * l.length := by
  induction l with
  | nil => rfl
  | cons x l ih => simp only [hx, List.flatMap_cons, List.length_append, List.length_cons, List.length_nil] at *; omega
theorem digit_f (a : Int) (h0 : 0 ≤ a) (h1 : a < 16) : spec_l1Digit.f a = some (bt (⟨#[48, 49, 50, 51, 52, 53, 54, 55, 56, 57, 97, 98, 99, 100, 101, 102]⟩ : ByteArray) a) := by
  unfold spec_l1Digit.f; rw [if_pos h0, if_pos h1]

theorem spec_hex_l0 (s : ByteArray) (hn : s.size ≤ 1048576) (d : Nat) : ∀ (i k : Nat), i + d = s.size → d < k →
    spec_EncodeHex.l0 k s (hx ((bytesOf s).take i)) (i : Int) = some (strOfNums (hx (bytesOf s))) := by
  induction d with
  | zero =>
    intro i k h hk
    obtain ⟨k, rfl⟩ : ∃ m, k = m + 1 := ⟨k - 1, by omega⟩
    simp only [spec_EncodeHex.l0]
    rw [if_neg (by omega), List.take_of_length_le (by rw [bytesOf_length]; omega)]
  | succ d ih =>
    intro i k h hk
    obtain ⟨k, rfl⟩ : ∃ m, k = m + 1 := ⟨k - 1, by omega⟩
    have e : wrap64 ((i : Int) + 1) = ((i + 1 : Nat) : Int) := by rw [w64 (by omega) (by omega)]; omega
    obtain ⟨b0, b1⟩ := bt_range s (i : Int)
    have e1 : wrap64 (bt s (i : Int)) = bt s (i : Int) := w64 (by omega) (by omega)
    have e2 : Int.tdiv (bt s (i : Int)) 16 = bt s (i : Int) / 16 := Int.tdiv_eq_ediv_of_nonneg b0
    have e3 : Int.tmod (bt s (i : Int)) 16 = bt s (i : Int) % 16 := Int.tmod_eq_emod_of_nonneg b0
    have e4 : wrap64 (bt s (i : Int) / 16) = bt s (i : Int) / 16 := w64 (by omega) (by omega)
    simp only [spec_EncodeHex.l0]
    rw [if_pos (by omega), if_pos (by omega), e1, e2, e3, e4, digit_f _ (by omega) (by omega), digit_f _ (by omega) (by omega)]
    simp only [Option.bind_some]
    rw [if_pos (by simp [hx_length, bytesOf_length]; omega), e]
    have := ih (i + 1) k (by omega) (by omega)
    rw [take_bt s i (by omega), hx_snoc] at this
    exact this

theorem spec_hex (s : ByteArray) (hn : s.size ≤ 1048576) (k : Nat) (hk : s.size < k) : spec_EncodeHex.f k s = some (strOfNums (hx (bytesOf s))) := by
  have := spec_hex_l0 s hn s.size 0 k (by omega) hk
  simpa [spec_EncodeHex.f, hx] using this

theorem impl_hex_l0 (s : ByteArray) (hn : s.size ≤ 1048576) (d : Nat) : ∀ (i k : Nat), i + d = s.size → d < k →
    impl_EncodeHex.l0 k s (hx ((bytesOf s).take i)) (s.size : Int) (i : Int) = some (strOfNums (hx (bytesOf s))) := by
  induction d with
  | zero =>
    intro i k h hk
    obtain ⟨k, rfl⟩ : ∃ m, k = m + 1 := ⟨k - 1, by omega⟩
    simp only [impl_EncodeHex.l0]
    rw [if_neg (by omega), List.take_of_length_le (by rw [bytesOf_length]; omega)]
  | succ d ih =>
    intro i k h hk
    obtain ⟨k, rfl⟩ : ∃ m, k = m + 1 := ⟨k - 1, by omega⟩
    have e : wrap64 ((i : Int) + 1) = ((i + 1 : Nat) : Int) := by rw [w64 (by omega) (by omega)]; omega
    obtain ⟨b0, b1⟩ := bt_range s (i : Int)
    have e1 : Go.bits .and .u8 (bt s (i : Int)) 15 = bt s (i : Int) % 16 := Go.u8_and15 _ b0 (by omega)
    simp only [impl_EncodeHex.l0]
    rw [e1, if_pos (by omega), if_pos (by omega), if_pos (by omega), if_pos (by omega), if_pos (by omega), if_pos (by omega), if_pos (by omega)]
    simp only [Option.bind_some]
    rw [if_pos (by simp [hx_length, bytesOf_length]; omega), e]
    have := ih (i + 1) k (by omega) (by omega)
    rw [take_bt s i (by omega), hx_snoc] at this
    exact this

theorem impl_hex (s : ByteArray) (hn : s.size ≤ 1048576) (k : Nat) (hk : s.size < k) : impl_EncodeHex.f k s = some (strOfNums (hx (bytesOf s))) := by
  have := impl_hex_l0 s hn s.size 0 k (by omega) hk
  simpa [impl_EncodeHex.f, hx] using this

theorem FnExactEncodeHex : laws_FnExactEncodeHex.Pure := by
  intro s hs
  refine ⟨s.size + 1, ?_⟩
  unfold laws_FnExactEncodeHex.f
  by_cases hn : (s.size : Int) > 1048576
  · rw [if_pos hn]
  · rw [if_neg hn, spec_hex s (by omega) _ (by omega), impl_hex s (by omega) _ (by omega)]
    simp

end Go.Proofs.Ythocpjoimipjdaa.Pure
