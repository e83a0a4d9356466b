/- For every string and width, DecodeFixed of the program and of the reference hand back the same number and the same verdict. -/
import Derived.Test.YthocpjoimipjdaaPFnExactDecodeFixedx1
import Derived.Test.YthocpjoimipjdaaBase
namespace Go.Proofs.Ythocpjoimipjdaa.Pure
open Go.RowKit Go.Proofs.Ythocpjoimipjdaa.PFnExactDecodeFixed Go.Proofs.YthocpjoimipjdaaW.PrintWords Go.Proofs.YthocpjoimipjdaaW.PrintLast Go.Proofs.YthocpjoimipjdaaW.PrintMore Go.Proofs.Ythocpjoimipjdaa.Base
set_option linter.unusedVariables false
set_option linter.unusedSimpArgs false

/-! inrange -/
theorem l1In_f (a b c : Int) : spec_l1In.f a b c = some (decide (b ≤ a ∧ a ≤ c)) := by
  unfold spec_l1In.f; by_cases h : a ≥ b
  · rw [if_pos h]; simp [h]
  · rw [if_neg h]; simp; omega
theorem within_f (a b c : Int) : impl_within.f a b c = some (decide (b ≤ a ∧ a ≤ c)) := by
  unfold impl_within.f; by_cases h : b ≤ a
  · rw [if_pos h]; simp [h]
  · rw [if_neg h]; simp; omega

/-! fixdec -/
/-- A number out of bytes, the highest first. -/
def num256 (l : List Int) : Int := l.foldl (fun n b => n * 256 + b) 0
theorem num256_snoc (l : List Int) (b : Int) : num256 (l ++ [b]) = num256 l * 256 + b := by simp [num256, List.foldl_append]
/-- 256 to the n. -/
def c256 : Nat → Nat
  | 0 => 1
  | n + 1 => c256 n * 256
theorem c256_le (n : Nat) (h : n ≤ 6) : c256 n ≤ 281474976710656 := by
  match n, h with
  | 0, _ | 1, _ | 2, _ | 3, _ | 4, _ | 5, _ | 6, _ => decide
theorem num256_range (n : Nat) : ∀ (l : List Int), Bytes l → l.length = n → 0 ≤ num256 l ∧ num256 l < (c256 n : Int) := by
  induction n with
  | zero => intro l h hl; have : l = [] := List.eq_nil_of_length_eq_zero hl; subst this; simp [num256, c256]
  | succ n ih =>
    intro l h hl
    have hne : l ≠ [] := by intro h; simp [h] at hl
    have hd := List.dropLast_concat_getLast hne
    have h1 := ih l.dropLast (fun x hx => h x (List.dropLast_subset l hx)) (by simp [hl])
    have h2 := h (l.getLast hne) (List.getLast_mem hne)
    rw [← hd, num256_snoc, c256]
    omega
theorem num256_lt (l : List Int) (h : Bytes l) (hl : l.length ≤ 6) : 0 ≤ num256 l ∧ num256 l < 281474976710656 := by
  have h1 := num256_range _ l h rfl
  have h2 := c256_le _ hl
  omega

theorem spec_fixdec_l0 (s : ByteArray) (wd : Nat) (h7 : wd ≤ 7) (hs : wd ≤ s.size) (d : Nat) : ∀ (i k : Nat), i + d = wd → d < k →
    spec_DecodeFixed.l0 k s (wd : Int) (num256 ((bytesOf s).take i)) (i : Int) = some (num256 ((bytesOf s).take wd), true) := by
  induction d with
  | zero =>
    intro i k h hk
    obtain ⟨k, rfl⟩ : ∃ m, k = m + 1 := ⟨k - 1, by omega⟩
    simp only [spec_DecodeFixed.l0]
    rw [if_neg (by omega), show i = wd from by omega]
  | succ d ih =>
    intro i k h hk
    obtain ⟨k, rfl⟩ : ∃ m, k = m + 1 := ⟨k - 1, by omega⟩
    have e : wrap64 ((i : Int) + 1) = ((i + 1 : Nat) : Int) := by rw [w64 (by omega) (by omega)]; omega
    obtain ⟨b0, b1⟩ := bt_range s (i : Int)
    obtain ⟨n0, n1⟩ := num256_lt ((bytesOf s).take i) ((bytes_of s).take i) (by simp; omega)
    have e1 : wrap64 (bt s (i : Int)) = bt s (i : Int) := w64 (by omega) (by omega)
    have e2 : wrap64 (num256 ((bytesOf s).take i) * 256) = num256 ((bytesOf s).take i) * 256 := w64 (by omega) (by omega)
    have e3 : wrap64 (num256 ((bytesOf s).take i) * 256 + bt s (i : Int)) = num256 ((bytesOf s).take i) * 256 + bt s (i : Int) := w64 (by omega) (by omega)
    simp only [spec_DecodeFixed.l0]
    rw [if_pos (by omega), if_pos (by omega), if_pos (by omega), e1, e2, e3, e]
    have := ih (i + 1) k (by omega) (by omega)
    rw [take_bt s i (by omega), num256_snoc] at this
    exact this

theorem wraps_i64_ (n : Int) (h₀ : 0 ≤ n) (h₁ : n < 2 ^ 63) : IntKind.i64.wrap n = n := by rw [Go.IntKind.wrap_i64]; omega

theorem impl_fixdec_l0 (s : ByteArray) (wd : Nat) (h7 : wd ≤ 7) (hs : wd ≤ s.size) (d : Nat) : ∀ (i k : Nat), i + d = wd → d < k →
    impl_DecodeFixed.l0 k s (num256 ((bytesOf s).take i)) (wd : Int) (i : Int) = some (num256 ((bytesOf s).take wd), true) := by
  induction d with
  | zero =>
    intro i k h hk
    obtain ⟨k, rfl⟩ : ∃ m, k = m + 1 := ⟨k - 1, by omega⟩
    simp only [impl_DecodeFixed.l0]
    rw [if_neg (by omega), show i = wd from by omega]
  | succ d ih =>
    intro i k h hk
    obtain ⟨k, rfl⟩ : ∃ m, k = m + 1 := ⟨k - 1, by omega⟩
    have e : wrap64 ((i : Int) + 1) = ((i + 1 : Nat) : Int) := by rw [w64 (by omega) (by omega)]; omega
    obtain ⟨b0, b1⟩ := bt_range s (i : Int)
    obtain ⟨n0, n1⟩ := num256_lt ((bytesOf s).take i) ((bytes_of s).take i) (by simp; omega)
    have e1 : wrap64 (bt s (i : Int)) = bt s (i : Int) := w64 (by omega) (by omega)
    have e2 : wrap64 (num256 ((bytesOf s).take i) * 256) = num256 ((bytesOf s).take i) * 256 := w64 (by omega) (by omega)
    have e3 : Go.bits .or .i64 (num256 ((bytesOf s).take i) * 256) (bt s (i : Int)) = num256 ((bytesOf s).take i) * 256 + bt s (i : Int) :=
      Go.bits_join .i64 63 (by decide) wraps_i64_ 8 _ _ (by omega) (by omega) (by omega) b0 (by omega) (by omega)
    simp only [impl_DecodeFixed.l0]
    rw [if_pos (by omega), if_pos (by omega), if_pos (by omega), e1, e2, e3, e]
    have := ih (i + 1) k (by omega) (by omega)
    rw [take_bt s i (by omega), num256_snoc] at this
    exact this

/-- What both DecodeFixed answer. -/
def fixdec (s : ByteArray) (wd : Int) : Int × Bool := if 1 ≤ wd ∧ wd ≤ 7 ∧ wd ≤ (s.size : Int) then (num256 ((bytesOf s).take wd.toNat), true) else (0, false)

theorem spec_fixdec (s : ByteArray) (wd : Int) (k : Nat) (hk : 9 < k) : spec_DecodeFixed.f k s wd = some (fixdec s wd) := by
  obtain ⟨k, rfl⟩ : ∃ m, k = m + 1 := ⟨k - 1, by omega⟩
  unfold spec_DecodeFixed.f fixdec
  rw [l1In_f]; simp only [Option.bind_some]
  by_cases h1 : 1 ≤ wd ∧ wd ≤ 7
  · rw [if_pos (by simpa using h1)]
    by_cases h2 : wd ≤ (s.size : Int)
    · rw [if_pos ⟨h1.1, h1.2, h2⟩]
      obtain ⟨n, rfl⟩ : ∃ n : Nat, wd = n := ⟨wd.toNat, by omega⟩
      simp only [spec_DecodeFixed.j0]
      rw [if_neg (by simp; omega)]
      have := spec_fixdec_l0 s n (by omega) (by omega) n 0 k (by omega) (by omega)
      simpa [num256] using this
    · rw [if_neg (by omega)]
      simp only [spec_DecodeFixed.j0]
      rw [if_pos (by simp; omega)]
  · rw [if_neg (by simpa using h1), if_neg (by omega)]
    simp only [spec_DecodeFixed.j0]; rw [if_pos trivial]

theorem impl_fixdec (s : ByteArray) (wd : Int) (k : Nat) (hk : 9 < k) : impl_DecodeFixed.f k s wd = some (fixdec s wd) := by
  obtain ⟨k, rfl⟩ : ∃ m, k = m + 1 := ⟨k - 1, by omega⟩
  unfold impl_DecodeFixed.f fixdec
  rw [within_f]; simp only [Option.bind_some]
  by_cases h1 : 1 ≤ wd ∧ wd ≤ 7
  · rw [if_pos (by simpa using h1)]
    by_cases h2 : wd ≤ (s.size : Int)
    · rw [if_pos ⟨h1.1, h1.2, h2⟩]
      obtain ⟨n, rfl⟩ : ∃ n : Nat, wd = n := ⟨wd.toNat, by omega⟩
      simp only [impl_DecodeFixed.j0]
      rw [if_neg (by simp; omega)]
      have := impl_fixdec_l0 s n (by omega) (by omega) n 0 k (by omega) (by omega)
      simpa [num256] using this
    · rw [if_neg (by omega)]
      simp only [impl_DecodeFixed.j0]
      rw [if_pos (by simp; omega)]
  · rw [if_neg (by simpa using h1), if_neg (by omega)]
    simp only [impl_DecodeFixed.j0]; rw [if_pos trivial]

theorem FnExactDecodeFixed : laws_FnExactDecodeFixed.Pure := by
  intro s wd hs hw
  refine ⟨10, ?_⟩
  unfold laws_FnExactDecodeFixed.f
  by_cases hn : (s.size : Int) > 1048576
  · rw [if_pos hn]
  · rw [if_neg hn, spec_fixdec s wd _ (by omega), impl_fixdec s wd _ (by omega)]
    simp

end Go.Proofs.Ythocpjoimipjdaa.Pure
