/- For every number and width, EncodeFixed of the program and of the reference hand back the same bytes. -/
import Derived.Test.YthocpjoimipjdaaPFnExactEncodeFixedx1
import Derived.Test.YthocpjoimipjdaaBase
namespace Go.Proofs.Ythocpjoimipjdaa.Pure
open Go.RowKit Go.Proofs.Ythocpjoimipjdaa.PFnExactEncodeFixed Go.Proofs.YthocpjoimipjdaaW.PrintWords Go.Proofs.YthocpjoimipjdaaW.PrintLast Go.Proofs.YthocpjoimipjdaaW.PrintMore Go.Proofs.Ythocpjoimipjdaa.Base
set_option linter.unusedVariables false
set_option linter.unusedSimpArgs false

/-! inrange -/
theorem l1In_f (a b c : Int) : spec_l1In.f a b c = some (decide (b ≤ a ∧ a ≤ c)) := by
  unfold spec_l1In.f; by_cases h : a ≥ b
  · rw [if_pos h]; simp [h]
  · rw [if_neg h]; simp; omega
theorem within_f (a b c : Int) : impl_within.f a b c = some (decide (b ≤ a ∧ a ≤ c)) := by
  unfold impl_within.f; by_cases h : b ≤ a
  · rw [if_pos h]; simp [h]
  · rw [if_neg h]; simp; omega

/-! fixenc -/
/-- The lowest w bytes of a number, the highest first. -/
def lo : Nat → Nat → List Int
  | 0, _ => []
  | w + 1, n => ((n / 256 ^ w % 256 : Nat) : Int) :: lo w n
theorem lo_length (w n : Nat) : (lo w n).length = w := by induction w with
  | zero => rfl
  | succ w ih => simp [lo, ih]

theorem spec_fixenc_l0 (n wd : Nat) (hn : n < 9223372036854775808) (hw : wd ≤ 7) (d : Nat) : ∀ (i k : Nat), i + d = wd → d < k →
    spec_EncodeFixed.l0 k ((n / 256 ^ i : Nat) : Int) (wd : Int) (strOfNums (lo i n)) (i : Int) = some (if n / 256 ^ wd > 0 then strOfNums [] else strOfNums (lo wd n)) := by
  induction d with
  | zero =>
    intro i k h hk
    obtain ⟨k, rfl⟩ : ∃ m, k = m + 1 := ⟨k - 1, by omega⟩
    obtain rfl : i = wd := by omega
    simp only [spec_EncodeFixed.l0]
    rw [if_neg (by omega)]
    by_cases h : n / 256 ^ i > 0
    · rw [if_pos (by omega), if_pos h]; rfl
    · rw [if_neg (by omega), if_neg h]
  | succ d ih =>
    intro i k h hk
    obtain ⟨k, rfl⟩ : ∃ m, k = m + 1 := ⟨k - 1, by omega⟩
    have hle : n / 256 ^ i ≤ n := Nat.div_le_self _ _
    have hl : lo (i + 1) n = ((n / 256 ^ i % 256 : Nat) : Int) :: lo i n := rfl
    have hd : n / 256 ^ (i + 1) = n / 256 ^ i / 256 := by rw [Nat.pow_succ, ← Nat.div_div_eq_div_mul]
    have hr := ih (i + 1) k (by omega) (by omega)
    rw [hl, hd] at hr
    clear ih hl hd
    generalize n / 256 ^ i = q at hle hr
    have e : wrap64 ((i : Int) + 1) = ((i + 1 : Nat) : Int) := by rw [w64 (by omega) (by omega)]; omega
    have e1 : Int.tmod (q : Int) 256 % 256 = ((q % 256 : Nat) : Int) := by rw [Int.tmod_eq_emod_of_nonneg (by omega)]; omega
    have e2 : wrap64 (Int.tdiv (q : Int) 256) = ((q / 256 : Nat) : Int) := by rw [Int.tdiv_eq_ediv_of_nonneg (by omega), w64 (by omega) (by omega)]; omega
    simp only [spec_EncodeFixed.l0]
    rw [if_pos (by omega), e1, e2, e]
    simp only [Option.bind_some]
    rw [if_pos (by simp only [str_size, lo_length, List.length_cons, List.length_nil]; omega), str_append]
    exact hr

theorem pow8 (j : Nat) : (2 : Int) ^ (8 * j) = ((256 ^ j : Nat) : Int) := by
  have : (2 : Nat) ^ (8 * j) = 256 ^ j := by rw [Nat.pow_mul]
  exact_mod_cast this

theorem impl_fixenc_l0 (n : Nat) (hn : n < 9223372036854775808) (j : Nat) : ∀ (k : Nat) (l : List Int), j ≤ 7 → j < k → l.length ≤ 7 - j →
    impl_EncodeFixed.l0 k (n : Int) l ((j : Int) - 1) = some (strOfNums (l ++ lo j n)) := by
  induction j with
  | zero =>
    intro k l hj hk hl
    obtain ⟨k, rfl⟩ : ∃ m, k = m + 1 := ⟨k - 1, by omega⟩
    simp only [impl_EncodeFixed.l0]
    rw [if_neg (by omega)]; simp [lo]
  | succ j ih =>
    intro k l hj hk hl
    obtain ⟨k, rfl⟩ : ∃ m, k = m + 1 := ⟨k - 1, by omega⟩
    have e0 : ((j + 1 : Nat) : Int) - 1 = (j : Int) := by omega
    have e : wrap64 ((j : Int) - 1) = (j : Int) - 1 := w64 (by omega) (by omega)
    have e8 : wrap64 (8 * (j : Int)) = ((8 * j : Nat) : Int) := by rw [w64 (by omega) (by omega)]; omega
    have es : (shr .i64 (n : Int) ((8 * j : Nat) : Int)) % 256 = ((n / 256 ^ j % 256 : Nat) : Int) := by
      unfold shr
      rw [show (((8 * j : Nat) : Int)).toNat = 8 * j from by omega, Nat.min_eq_left (by show 8 * j ≤ 64; omega), pow8, ← Int.natCast_ediv]
      omega
    simp only [impl_EncodeFixed.l0]
    rw [e0, if_pos (by omega), e8, if_pos (by omega), if_pos (by omega), es, e, ih k _ (by omega) (by omega) (by simp; omega)]
    simp [lo]

theorem ge_false {m q : Nat} (h : m < q) : ¬ decide ((m : Int) ≥ (q : Int)) = true := by simp; omega
theorem ge_true {m q : Nat} (h : q ≤ m) : decide ((m : Int) ≥ (q : Int)) = true := by simp; omega

/-- What both EncodeFixed answer. -/
def fixenc (n wd : Int) : List Int := if 1 ≤ wd ∧ wd ≤ 7 ∧ 0 ≤ n ∧ n.toNat / 256 ^ wd.toNat = 0 then lo wd.toNat n.toNat else []

theorem spec_fixenc (n wd : Int) (h0 : -9223372036854775808 ≤ n) (h1 : n ≤ 9223372036854775807) (k : Nat) (hk : 9 < k) : spec_EncodeFixed.f k n wd = some (strOfNums (fixenc n wd)) := by
  obtain ⟨k, rfl⟩ : ∃ m, k = m + 1 := ⟨k - 1, by omega⟩
  unfold spec_EncodeFixed.f fixenc
  rw [l1In_f]; simp only [Option.bind_some]
  by_cases h : 1 ≤ wd ∧ wd ≤ 7
  · rw [if_pos (by simpa using h)]
    simp only [spec_EncodeFixed.j0]
    by_cases h2 : n < 0
    · rw [if_pos (by simpa using h2), if_neg (by omega)]; rfl
    · rw [if_neg (by simpa using h2)]
      obtain ⟨m, rfl⟩ : ∃ m : Nat, n = m := ⟨n.toNat, by omega⟩
      obtain ⟨w, rfl⟩ : ∃ w : Nat, wd = w := ⟨wd.toNat, by omega⟩
      have := spec_fixenc_l0 m w (by omega) (by omega) w 0 k (by omega) (by omega)
      simp only [Nat.pow_zero, Nat.div_one, lo] at this
      rw [show (⟨#[]⟩ : ByteArray) = strOfNums [] from rfl]
      simp only [Int.toNat_natCast]
      refine Eq.trans this ?_
      generalize m / 256 ^ w = q
      by_cases h3 : q = 0
      · rw [if_neg (by omega), if_pos ⟨h.1, h.2, by omega, h3⟩]
      · rw [if_pos (by omega), if_neg (fun hh => h3 hh.2.2.2)]
  · rw [if_neg (by simpa using h), if_neg (by omega)]
    simp only [spec_EncodeFixed.j0]; rw [if_pos trivial]; rfl

theorem impl_fixenc (n wd : Int) (h0 : -9223372036854775808 ≤ n) (h1 : n ≤ 9223372036854775807) (k : Nat) (hk : 9 < k) : impl_EncodeFixed.f k n wd = some (strOfNums (fixenc n wd)) := by
  obtain ⟨k, rfl⟩ : ∃ m, k = m + 1 := ⟨k - 1, by omega⟩
  unfold impl_EncodeFixed.f fixenc
  rw [within_f]; simp only [Option.bind_some]
  by_cases h : 1 ≤ wd ∧ wd ≤ 7
  · rw [if_pos (by simpa using h)]
    by_cases h2 : n < 0
    · rw [if_pos h2, if_neg (by omega)]
      simp only [impl_EncodeFixed.j0]; rw [if_pos trivial]; rfl
    · rw [if_neg h2]
      obtain ⟨m, rfl⟩ : ∃ m : Nat, n = m := ⟨n.toNat, by omega⟩
      obtain ⟨w, rfl⟩ : ∃ w : Nat, wd = w := ⟨wd.toNat, by omega⟩
      have e8 : wrap64 (8 * (w : Int)) = ((8 * w : Nat) : Int) := by rw [w64 (by omega) (by omega)]; omega
      have hp : (256 : Nat) ^ w ≤ 256 ^ 7 := Nat.pow_le_pow_right (by decide) (by omega)
      have es : shl .i64 1 ((8 * w : Nat) : Int) = ((256 ^ w : Nat) : Int) := by
        unfold shl
        rw [show (((8 * w : Nat) : Int)).toNat = 8 * w from by omega, Nat.min_eq_left (by show 8 * w ≤ 64; omega), pow8, Go.IntKind.wrap_i64]
        have hq : 256 ^ w ≤ 72057594037927936 := hp
        revert hq
        generalize 256 ^ w = q
        intro hq
        omega
      rw [e8, if_pos (by omega), es]
      simp only [impl_EncodeFixed.j0, Int.toNat_natCast]
      clear es
      have hpos : 0 < 256 ^ w := Nat.pow_pos (by decide)
      by_cases h3 : m / 256 ^ w = 0
      · have hlt : m < 256 ^ w := (Nat.div_eq_zero_iff_lt (Nat.pow_pos (by decide))).1 h3
        rw [if_neg (ge_false hlt), if_pos ⟨h.1, h.2, by omega, h3⟩, w64 (by omega) (by omega), impl_fixenc_l0 m (by omega) w k [] (by omega) (by omega) (by simp)]
        simp
      · have hge : 256 ^ w ≤ m := by
          by_cases hlt : m < 256 ^ w
          · exact absurd (Nat.div_eq_of_lt hlt) h3
          · omega
        rw [if_pos (ge_true hge), if_neg (fun hh => h3 hh.2.2.2)]; rfl
  · rw [if_neg (by simpa using h), if_neg (by omega)]
    simp only [impl_EncodeFixed.j0]; rw [if_pos trivial]; rfl

theorem FnExactEncodeFixed : laws_FnExactEncodeFixed.Pure := by
  intro n wd hn hw
  refine ⟨10, ?_⟩
  unfold laws_FnExactEncodeFixed.f
  obtain ⟨h0, h1⟩ := wf64 hn
  rw [spec_fixenc n wd h0 h1 _ (by omega), impl_fixenc n wd h0 h1 _ (by omega)]
  simp

end Go.Proofs.Ythocpjoimipjdaa.Pure
