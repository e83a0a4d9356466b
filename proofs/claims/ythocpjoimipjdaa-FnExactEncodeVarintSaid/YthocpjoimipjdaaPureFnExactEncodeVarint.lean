/- For every number, EncodeVarint of the program and of the reference hand back the same bytes. -/
import Derived.Test.YthocpjoimipjdaaPFnExactEncodeVarintx1
import Derived.Test.YthocpjoimipjdaaBase
namespace Go.Proofs.Ythocpjoimipjdaa.Pure
open Go.RowKit Go.Proofs.Ythocpjoimipjdaa.PFnExactEncodeVarint Go.Proofs.YthocpjoimipjdaaW.PrintWords Go.Proofs.YthocpjoimipjdaaW.PrintLast Go.Proofs.YthocpjoimipjdaaW.PrintMore Go.Proofs.Ythocpjoimipjdaa.Base
set_option linter.unusedVariables false
set_option linter.unusedSimpArgs false

/-! inrange -/
theorem l1In_f (a b c : Int) : spec_l1In.f a b c = some (decide (b ≤ a ∧ a ≤ c)) := by
  unfold spec_l1In.f; by_cases h : a ≥ b
  · rw [if_pos h]; simp [h]
  · rw [if_neg h]; simp; omega
theorem within_f (a b c : Int) : impl_within.f a b c = some (decide (b ≤ a ∧ a ≤ c)) := by
  unfold impl_within.f; by_cases h : b ≤ a
  · rw [if_pos h]; simp [h]
  · rw [if_neg h]; simp; omega

/-! varenc -/
/-- The bytes of a varint: seven bits each, the lowest first, 128 on all but the last. -/
def vl : Nat → Nat → List Int
  | 0, x => [(x : Int)]
  | n + 1, x => if x ≥ 128 then ((128 + x % 128 : Nat) : Int) :: vl n (x / 128) else [(x : Int)]

/-- 128 to the n + 1. -/
def c128 : Nat → Nat
  | 0 => 128
  | n + 1 => c128 n * 128
theorem c128_le (n : Nat) (h : n < 8) : c128 n ≤ 72057594037927936 := by
  match n, h with
  | 0, _ | 1, _ | 2, _ | 3, _ | 4, _ | 5, _ | 6, _ | 7, _ => decide
theorem c128_six : c128 6 = 562949953421312 := by decide

theorem spec_varenc_l0 (n : Nat) : ∀ (x k : Nat) (l : List Int), x < c128 n → n < 8 → n < k → l.length ≤ 8 - n →
    spec_EncodeVarint.l0 k (x : Int) l = some (strOfNums (l ++ vl n x)) := by
  induction n with
  | zero =>
    intro x k l hx hn hk hl
    obtain ⟨k, rfl⟩ : ∃ m, k = m + 1 := ⟨k - 1, by omega⟩
    have hx : x < 128 := hx
    simp only [spec_EncodeVarint.l0, vl]
    rw [if_neg (by omega), if_pos (by omega), show ((x : Int)) % 256 = (x : Int) from by omega]
  | succ n ih =>
    intro x k l hx hn hk hl
    obtain ⟨k, rfl⟩ : ∃ m, k = m + 1 := ⟨k - 1, by omega⟩
    simp only [spec_EncodeVarint.l0, vl]
    have hx9 : x < 72057594037927936 := Nat.lt_of_lt_of_le hx (c128_le _ hn)
    have hxd : x / 128 < c128 n := Nat.div_lt_of_lt_mul (by rw [c128, Nat.mul_comm] at hx; exact hx)
    clear hx
    by_cases h : x ≥ 128
    · have e1 : Int.tdiv (x : Int) 128 = ((x / 128 : Nat) : Int) := by rw [Int.tdiv_eq_ediv_of_nonneg (by omega)]; omega
      have e2 : Int.tmod (x : Int) 128 = ((x % 128 : Nat) : Int) := by rw [Int.tmod_eq_emod_of_nonneg (by omega)]; omega
      have e3 : wrap64 ((x / 128 : Nat) : Int) = ((x / 128 : Nat) : Int) := w64 (by omega) (by omega)
      have e4 : (wrap64 (128 + ((x % 128 : Nat) : Int))) % 256 = ((128 + x % 128 : Nat) : Int) := by rw [w64 (by omega) (by omega)]; omega
      rw [if_pos (show (x : Int) ≥ 128 by clear e1 e2 e3 e4 hx9 hxd; omega), if_pos (by clear e1 e2 e3 e4 hx9 hxd; omega), if_pos h, e1, e2, e3, e4, ih (x / 128) k _ hxd (by omega) (by omega) (by simp; omega)]
      simp
    · rw [if_neg (by omega), if_pos (by omega), if_neg h, show ((x : Int)) % 256 = (x : Int) from by omega]

theorem impl_varenc_l0 (n : Nat) : ∀ (x k : Nat) (l : List Int), x < c128 n → n < 8 → n < k → l.length ≤ 8 - n →
    impl_EncodeVarint.l0 k (x : Int) l = some (strOfNums (l ++ vl n x)) := by
  induction n with
  | zero =>
    intro x k l hx hn hk hl
    obtain ⟨k, rfl⟩ : ∃ m, k = m + 1 := ⟨k - 1, by omega⟩
    have hx : x < 128 := hx
    simp only [impl_EncodeVarint.l0, vl]
    rw [if_neg (by omega), if_pos (by omega), show ((x : Int)) % 256 = (x : Int) from by omega]
  | succ n ih =>
    intro x k l hx hn hk hl
    obtain ⟨k, rfl⟩ : ∃ m, k = m + 1 := ⟨k - 1, by omega⟩
    simp only [impl_EncodeVarint.l0, vl]
    have hx9 : x < 72057594037927936 := Nat.lt_of_lt_of_le hx (c128_le _ hn)
    have hxd : x / 128 < c128 n := Nat.div_lt_of_lt_mul (by rw [c128, Nat.mul_comm] at hx; exact hx)
    clear hx
    by_cases h : x ≥ 128
    · have e1 : Int.tdiv (x : Int) 128 = ((x / 128 : Nat) : Int) := by rw [Int.tdiv_eq_ediv_of_nonneg (by omega)]; omega
      have e2 : Int.tmod (x : Int) 128 = ((x % 128 : Nat) : Int) := by rw [Int.tmod_eq_emod_of_nonneg (by omega)]; omega
      have e3 : wrap64 ((x / 128 : Nat) : Int) = ((x / 128 : Nat) : Int) := w64 (by omega) (by omega)
      have e4 : (wrap64 (((x % 128 : Nat) : Int) + 128)) % 256 = ((128 + x % 128 : Nat) : Int) := by rw [w64 (by omega) (by omega)]; omega
      rw [if_pos (show (x : Int) ≥ 128 by clear e1 e2 e3 e4 hx9 hxd; omega), if_pos (by clear e1 e2 e3 e4 hx9 hxd; omega), if_pos h, e1, e2, e3, e4, ih (x / 128) k _ hxd (by omega) (by omega) (by simp; omega)]
      simp
    · rw [if_neg (by omega), if_pos (by omega), if_neg h, show ((x : Int)) % 256 = (x : Int) from by omega]

/-- What both EncodeVarint answer. -/
def varenc (x : Int) : List Int := if 0 ≤ x ∧ x ≤ 562949953421311 then vl 6 x.toNat else []

theorem spec_varenc (x : Int) (k : Nat) (hk : 6 < k) : spec_EncodeVarint.f k x = some (strOfNums (varenc x)) := by
  unfold spec_EncodeVarint.f varenc
  rw [l1In_f]; simp only [Option.bind_some]
  by_cases h : 0 ≤ x ∧ x ≤ 562949953421311
  · obtain ⟨m, rfl⟩ : ∃ m : Nat, x = m := ⟨x.toNat, by omega⟩
    rw [if_pos (by simpa using h), if_pos h, spec_varenc_l0 6 m k [] (by rw [c128_six]; omega) (by omega) hk (by simp)]
    simp
  · rw [if_neg (by simpa using h), if_neg h]; rfl

theorem impl_varenc (x : Int) (k : Nat) (hk : 6 < k) : impl_EncodeVarint.f k x = some (strOfNums (varenc x)) := by
  unfold impl_EncodeVarint.f varenc
  rw [within_f]; simp only [Option.bind_some]
  by_cases h : 0 ≤ x ∧ x ≤ 562949953421311
  · obtain ⟨m, rfl⟩ : ∃ m : Nat, x = m := ⟨x.toNat, by omega⟩
    rw [if_pos (by simpa using h), if_pos h, impl_varenc_l0 6 m k [] (by rw [c128_six]; omega) (by omega) hk (by simp)]
    simp
  · rw [if_neg (by simpa using h), if_neg h]; rfl

theorem FnExactEncodeVarint : laws_FnExactEncodeVarint.Pure := by
  intro x _
  refine ⟨7, ?_⟩
  unfold laws_FnExactEncodeVarint.f
  rw [spec_varenc x _ (by omega), impl_varenc x _ (by omega)]
  simp

end Go.Proofs.Ythocpjoimipjdaa.Pure
