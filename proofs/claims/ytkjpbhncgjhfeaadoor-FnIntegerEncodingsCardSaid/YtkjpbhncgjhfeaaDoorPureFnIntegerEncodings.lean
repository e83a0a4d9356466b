/- For every drawing list: varints, fixed widths and hex digits are read back as they were written, whatever follows; FormatInt tells what the reference tells, and ParseInt reads back just the numbers below a thousand million. -/
import Derived.Test.YtkjpbhncgjhfeaaDoorPFnIntegerEncodingsx4
import Derived.Test.YtkjpbhncgjhfeaaDoorBase
import Derived.Lib.EndianBits
import Derived.KernelRfl
import Derived.Lib.AtoiTie
namespace Go.Proofs.YtkjpbhncgjhfeaaDoor.Pure
open Go.RowKit Go.Proofs.YtkjpbhncgjhfeaaDoor.PFnIntegerEncodings Go.Proofs.YtkjpbhncgjhfeaaDoorW.PrintWords Go.Proofs.YtkjpbhncgjhfeaaDoorW.PrintLast Go.Proofs.YtkjpbhncgjhfeaaDoorW.PrintMore Go.Proofs.YtkjpbhncgjhfeaaDoor.Base
set_option linter.unusedVariables false
set_option linter.unusedSimpArgs false

/-! l1in -/
theorem l1In_f (a b c : Int) : spec_l1In.f a b c = some (decide (b ≤ a ∧ a ≤ c)) := by
  unfold spec_l1In.f; by_cases h : a ≥ b
  · rw [if_pos h]; simp [h]
  · rw [if_neg h]; simp; omega

/-! within -/
theorem within_f (a b c : Int) : impl_within.f a b c = some (decide (b ≤ a ∧ a ≤ c)) := by
  unfold impl_within.f; by_cases h : b ≤ a
  · rw [if_pos h]; simp [h]
  · rw [if_neg h]; simp; omega

/-! inrange -/

/-! varenc -/
/-- The bytes of a varint: seven bits each, the lowest first, 128 on all but the last. -/
def vl : Nat → Nat → List Int
  | 0, x => [(x : Int)]
  | n + 1, x => if x ≥ 128 then ((128 + x % 128 : Nat) : Int) :: vl n (x / 128) else [(x : Int)]

/-- 128 to the n + 1. -/
def c128 : Nat → Nat
  | 0 => 128
  | n + 1 => c128 n * 128
theorem c128_le (n : Nat) (h : n < 8) : c128 n ≤ 72057594037927936 := by
  match n, h with
  | 0, _ | 1, _ | 2, _ | 3, _ | 4, _ | 5, _ | 6, _ | 7, _ => decide
theorem c128_six : c128 6 = 562949953421312 := by decide

theorem impl_varenc_l0 (n : Nat) : ∀ (x k : Nat) (l : List Int), x < c128 n → n < 8 → n < k → l.length ≤ 8 - n →
    impl_EncodeVarint.l0 k (x : Int) l = some (strOfNums (l ++ vl n x)) := by
  induction n with
  | zero =>
    intro x k l hx hn hk hl
    obtain ⟨k, rfl⟩ : ∃ m, k = m + 1 := ⟨k - 1, by omega⟩
    have hx : x < 128 := hx
    simp only [impl_EncodeVarint.l0, vl]
    rw [if_neg (by omega), if_pos (by omega), show ((x : Int)) % 256 = (x : Int) from by omega]
  | succ n ih =>
    intro x k l hx hn hk hl
    obtain ⟨k, rfl⟩ : ∃ m, k = m + 1 := ⟨k - 1, by omega⟩
    simp only [impl_EncodeVarint.l0, vl]
    have hx9 : x < 72057594037927936 := Nat.lt_of_lt_of_le hx (c128_le _ hn)
    have hxd : x / 128 < c128 n := Nat.div_lt_of_lt_mul (by rw [c128, Nat.mul_comm] at hx; exact hx)
    clear hx
    by_cases h : x ≥ 128
    · have e1 : Int.tdiv (x : Int) 128 = ((x / 128 : Nat) : Int) := by rw [Int.tdiv_eq_ediv_of_nonneg (by omega)]; omega
      have e2 : Int.tmod (x : Int) 128 = ((x % 128 : Nat) : Int) := by rw [Int.tmod_eq_emod_of_nonneg (by omega)]; omega
      have e3 : wrap64 ((x / 128 : Nat) : Int) = ((x / 128 : Nat) : Int) := w64 (by omega) (by omega)
      have e4 : (wrap64 (((x % 128 : Nat) : Int) + 128)) % 256 = ((128 + x % 128 : Nat) : Int) := by rw [w64 (by omega) (by omega)]; omega
      rw [if_pos (show (x : Int) ≥ 128 by clear e1 e2 e3 e4 hx9 hxd; omega), if_pos (by clear e1 e2 e3 e4 hx9 hxd; omega), if_pos h, e1, e2, e3, e4, ih (x / 128) k _ hxd (by omega) (by omega) (by simp; omega)]
      simp
    · rw [if_neg (by omega), if_pos (by omega), if_neg h, show ((x : Int)) % 256 = (x : Int) from by omega]

/-- What both EncodeVarint answer. -/
def varenc (x : Int) : List Int := if 0 ≤ x ∧ x ≤ 562949953421311 then vl 6 x.toNat else []

theorem impl_varenc (x : Int) (k : Nat) (hk : 6 < k) : impl_EncodeVarint.f k x = some (strOfNums (varenc x)) := by
  unfold impl_EncodeVarint.f varenc
  rw [within_f]; simp only [Option.bind_some]
  by_cases h : 0 ≤ x ∧ x ≤ 562949953421311
  · obtain ⟨m, rfl⟩ : ∃ m : Nat, x = m := ⟨x.toNat, by omega⟩
    rw [if_pos (by simpa using h), if_pos h, impl_varenc_l0 6 m k [] (by rw [c128_six]; omega) (by omega) hk (by simp)]
    simp
  · rw [if_neg (by simpa using h), if_neg h]; rfl

/-! sounds -/
/-- Facts on single bytes, tried at each of the 256. -/
theorem byte_cases {P : Int → Prop} (h : ∀ n : Fin 256, P ((n.val : Nat) : Int)) {x : Int} (h0 : 0 ≤ x) (h1 : x ≤ 255) : P x := by
  obtain ⟨m, rfl⟩ := Int.eq_ofNat_of_zero_le h0
  exact h ⟨m, by omega⟩

/-! vardec -/
/-- A number out of bytes, seven bits of each, the lowest first. -/
def num7 : List Int → Int
  | [] => 0
  | b :: l => b % 128 + 128 * num7 l
/-- 128 to the n. -/
def c7 : Nat → Nat
  | 0 => 1
  | n + 1 => c7 n * 128
theorem c7_le (n : Nat) (h : n ≤ 7) : c7 n ≤ 562949953421312 := by
  match n, h with
  | 0, _ | 1, _ | 2, _ | 3, _ | 4, _ | 5, _ | 6, _ | 7, _ => decide
theorem c7_le6 (n : Nat) (h : n ≤ 6) : c7 n ≤ 4398046511104 := by
  match n, h with
  | 0, _ | 1, _ | 2, _ | 3, _ | 4, _ | 5, _ | 6, _ => decide
theorem num7_range (l : List Int) : 0 ≤ num7 l ∧ num7 l < (c7 l.length : Int) := by
  induction l with
  | nil => exact ⟨by decide, by decide⟩
  | cons b l ih =>
    obtain ⟨h0, h1⟩ := ih
    simp only [num7, List.length_cons, c7]
    omega
theorem num7_snoc (l : List Int) (b : Int) : num7 (l ++ [b]) = num7 l + (b % 128) * (c7 l.length : Int) := by
  induction l with
  | nil => simp [num7, c7]
  | cons a l ih =>
    simp only [List.cons_append, num7, List.length_cons, c7, ih, Int.natCast_mul]
    rw [Int.mul_add, Int.add_assoc, ← Int.mul_assoc, Int.mul_comm 128 (b % 128), Int.mul_assoc, Int.mul_comm 128 ((c7 l.length : Nat) : Int)]
    rfl
theorem c7_six : c7 7 = 562949953421312 := by decide
theorem num7_lt7 (l : List Int) (h : l.length ≤ 7) : 0 ≤ num7 l ∧ num7 l < 562949953421312 := by
  have h1 := num7_range l
  have h2 := c7_le _ h
  omega
theorem num7_lt6 (l : List Int) (h : l.length ≤ 6) : 0 ≤ num7 l ∧ num7 l < 4398046511104 := by
  have h1 := num7_range l
  have h2 := c7_le6 _ h
  omega

/-- All bytes but the last bear 128. -/
def shape : List Int → Prop
  | [] => False
  | [b] => b < 128
  | b :: c :: l => 128 ≤ b ∧ shape (c :: l)
theorem shape_cons {b : Int} {l : List Int} (hb : 128 ≤ b) (h : shape l) : shape (b :: l) := by
  cases l with
  | nil => exact h.elim
  | cons c l => exact ⟨hb, h⟩
theorem vl_shape (n : Nat) : ∀ x, x < c128 n → shape (vl n x) := by
  induction n with
  | zero => intro x h; have h : x < 128 := h; show (x : Int) < 128; omega
  | succ n ih =>
    intro x h
    simp only [vl]
    have hxd : x / 128 < c128 n := Nat.div_lt_of_lt_mul (by rw [c128, Nat.mul_comm] at h; exact h)
    by_cases h8 : x ≥ 128
    · rw [if_pos h8]; exact shape_cons (by clear h hxd; omega) (ih _ hxd)
    · rw [if_neg h8]; show (x : Int) < 128; clear h hxd; omega
theorem vl_bytes (n : Nat) : ∀ x, x < c128 n → Bytes (vl n x) := by
  induction n with
  | zero => intro x h; have h : x < 128 := h; exact Bytes.one (by omega) (by omega)
  | succ n ih =>
    intro x h
    simp only [vl]
    have hxd : x / 128 < c128 n := Nat.div_lt_of_lt_mul (by rw [c128, Nat.mul_comm] at h; exact h)
    by_cases h8 : x ≥ 128
    · rw [if_pos h8]; exact Bytes.cons (by clear h hxd; omega) (by clear h hxd; omega) (ih _ hxd)
    · rw [if_neg h8]; exact Bytes.one (by clear h hxd; omega) (by clear h hxd; omega)
theorem shape_get (l : List Int) : shape l → ∀ (i : Nat) (h : i < l.length), (i + 1 < l.length → 128 ≤ l[i]) ∧ (i + 1 = l.length → l[i] < 128) := by
  induction l with
  | nil => intro h; exact h.elim
  | cons b l ih =>
    cases l with
    | nil => intro h i hi; have h : b < 128 := h; cases i with
      | zero => exact ⟨fun h1 => by simp at h1, fun _ => h⟩
      | succ i => simp at hi
    | cons c l => intro h i hi; obtain ⟨h1, h2⟩ := h; cases i with
      | zero => exact ⟨fun _ => h1, fun h3 => by simp at h3⟩
      | succ i =>
        have := ih h2 i (by simpa using hi)
        exact ⟨fun h3 => this.1 (by simpa using h3), fun h3 => this.2 (by simpa using h3)⟩

/-- The encoding of what the first k bytes bear is these bytes. -/
def same (s : ByteArray) (k : Nat) : Prop := (strOfNums (varenc (num7 ((bytesOf s).take k)))).toList = (s.extract 0 (k : Int).toNat).toList
theorem same_shape {s : ByteArray} {k : Nat} (hk : k ≤ 7) (h : same s k) : shape ((bytesOf s).take k) := by
  unfold same at h
  have h1 : (strOfNums (varenc (num7 ((bytesOf s).take k)))) = s.extract 0 (k : Int).toNat := ba_ext (by rw [← toList_data, ← toList_data]; exact h)
  obtain ⟨n0, n1⟩ := num7_lt7 ((bytesOf s).take k) (by simp; omega)
  have h2 := congrArg bytesOf h1
  unfold varenc at h2
  rw [if_pos ⟨n0, by omega⟩, bytesOf_str (vl_bytes 6 _ (by rw [c128_six]; omega)), bytesOf_extract, Int.toNat_natCast, List.drop_zero] at h2
  rw [← h2]
  exact vl_shape 6 _ (by rw [c128_six]; omega)
theorem same_bytes {s : ByteArray} {k : Nat} (hk : k ≤ 7) (hs : k ≤ s.size) (h : same s k) (i : Nat) (hi : i < k) : (i + 1 < k → 128 ≤ bt s (i : Int)) ∧ (i + 1 = k → bt s (i : Int) < 128) := by
  have h1 := shape_get _ (same_shape hk h) i (by rw [List.length_take, bytesOf_length]; omega)
  rw [List.getElem_take, ← bt_get s i (by omega), List.length_take, bytesOf_length, Nat.min_eq_left hs] at h1
  exact h1

theorem and127 {x : Int} (h0 : 0 ≤ x) (h1 : x ≤ 255) : wrap64 (Go.bits .and .u8 x 127) = x % 128 := by
  refine byte_cases (P := fun x => wrap64 (Go.bits .and .u8 x 127) = x % 128) ?_ h0 h1; decide +kernel
theorem shl7 (i : Nat) (hi : i < 7) {x : Int} (h0 : 0 ≤ x) (h1 : x ≤ 255) : shl .i64 (x % 128) (wrap64 (7 * (i : Int))) = (x % 128) * (c7 i : Int) := by
  match i, hi with
  | 0, _ => refine byte_cases (P := fun x => shl .i64 (x % 128) (wrap64 (7 * ((0 : Nat) : Int))) = (x % 128) * (c7 0 : Int)) ?_ h0 h1; decide +kernel
  | 1, _ => refine byte_cases (P := fun x => shl .i64 (x % 128) (wrap64 (7 * ((1 : Nat) : Int))) = (x % 128) * (c7 1 : Int)) ?_ h0 h1; decide +kernel
  | 2, _ => refine byte_cases (P := fun x => shl .i64 (x % 128) (wrap64 (7 * ((2 : Nat) : Int))) = (x % 128) * (c7 2 : Int)) ?_ h0 h1; decide +kernel
  | 3, _ => refine byte_cases (P := fun x => shl .i64 (x % 128) (wrap64 (7 * ((3 : Nat) : Int))) = (x % 128) * (c7 3 : Int)) ?_ h0 h1; decide +kernel
  | 4, _ => refine byte_cases (P := fun x => shl .i64 (x % 128) (wrap64 (7 * ((4 : Nat) : Int))) = (x % 128) * (c7 4 : Int)) ?_ h0 h1; decide +kernel
  | 5, _ => refine byte_cases (P := fun x => shl .i64 (x % 128) (wrap64 (7 * ((5 : Nat) : Int))) = (x % 128) * (c7 5 : Int)) ?_ h0 h1; decide +kernel
  | 6, _ => refine byte_cases (P := fun x => shl .i64 (x % 128) (wrap64 (7 * ((6 : Nat) : Int))) = (x % 128) * (c7 6 : Int)) ?_ h0 h1; decide +kernel
theorem wraps_i64v (n : Int) (h₀ : 0 ≤ n) (h₁ : n < 2 ^ 63) : IntKind.i64.wrap n = n := by rw [Go.IntKind.wrap_i64]; omega
theorem or7 (i : Nat) (hi : i < 7) (y m : Int) (hy : 0 ≤ y) (hy1 : y < (c7 i : Int)) (hm : 0 ≤ m) (hm1 : m < 128) : Go.bits .or .i64 y (m * (c7 i : Int)) = y + m * (c7 i : Int) := by
  match i, hi with
  | 0, _ => have e : c7 0 = 1 := by decide
            rw [e] at hy1 ⊢; exact Go.bits_join_low .i64 63 (by decide) wraps_i64v 0 _ _ (by omega) (by omega) (by omega) (by omega) (by omega) (by omega)
  | 1, _ => have e : c7 1 = 128 := by decide
            rw [e] at hy1 ⊢; exact Go.bits_join_low .i64 63 (by decide) wraps_i64v 7 _ _ (by omega) (by omega) (by omega) (by omega) (by omega) (by omega)
  | 2, _ => have e : c7 2 = 16384 := by decide
            rw [e] at hy1 ⊢; exact Go.bits_join_low .i64 63 (by decide) wraps_i64v 14 _ _ (by omega) (by omega) (by omega) (by omega) (by omega) (by omega)
  | 3, _ => have e : c7 3 = 2097152 := by decide
            rw [e] at hy1 ⊢; exact Go.bits_join_low .i64 63 (by decide) wraps_i64v 21 _ _ (by omega) (by omega) (by omega) (by omega) (by omega) (by omega)
  | 4, _ => have e : c7 4 = 268435456 := by decide
            rw [e] at hy1 ⊢; exact Go.bits_join_low .i64 63 (by decide) wraps_i64v 28 _ _ (by omega) (by omega) (by omega) (by omega) (by omega) (by omega)
  | 5, _ => have e : c7 5 = 34359738368 := by decide
            rw [e] at hy1 ⊢; exact Go.bits_join_low .i64 63 (by decide) wraps_i64v 35 _ _ (by omega) (by omega) (by omega) (by omega) (by omega) (by omega)
  | 6, _ => have e : c7 6 = 4398046511104 := by decide
            rw [e] at hy1 ⊢; exact Go.bits_join_low .i64 63 (by decide) wraps_i64v 42 _ _ (by omega) (by omega) (by omega) (by omega) (by omega) (by omega)
theorem part7 (s : ByteArray) (i : Nat) (hi : i < 7) (hs : i < s.size) :
    Go.bits .or .i64 (num7 ((bytesOf s).take i)) (shl .i64 (wrap64 (Go.bits .and .u8 (bt s (i : Int)) 127)) (wrap64 (7 * (i : Int)))) = num7 ((bytesOf s).take (i + 1)) := by
  obtain ⟨b0, b1⟩ := bt_range s (i : Int)
  have hl : ((bytesOf s).take i).length = i := by rw [List.length_take, bytesOf_length]; omega
  have hr := num7_range ((bytesOf s).take i)
  rw [hl] at hr
  rw [and127 b0 (by omega), shl7 i hi b0 (by omega), or7 i hi _ _ hr.1 hr.2 (by omega) (by omega), take_bt s i hs, num7_snoc, hl]

instance (s : ByteArray) (k : Nat) : Decidable (same s k) := by unfold same; infer_instance
/-! fixenc -/
/-- The lowest w bytes of a number, the highest first. -/
def lo : Nat → Nat → List Int
  | 0, _ => []
  | w + 1, n => ((n / 256 ^ w % 256 : Nat) : Int) :: lo w n
theorem lo_length (w n : Nat) : (lo w n).length = w := by induction w with
  | zero => rfl
  | succ w ih => simp [lo, ih]

theorem spec_fixenc_l0 (n wd : Nat) (hn : n < 9223372036854775808) (hw : wd ≤ 7) (d : Nat) : ∀ (i k : Nat), i + d = wd → d < k →
    spec_EncodeFixed.l0 k ((n / 256 ^ i : Nat) : Int) (wd : Int) (strOfNums (lo i n)) (i : Int) = some (if n / 256 ^ wd > 0 then strOfNums [] else strOfNums (lo wd n)) := by
  induction d with
  | zero =>
    intro i k h hk
    obtain ⟨k, rfl⟩ : ∃ m, k = m + 1 := ⟨k - 1, by omega⟩
    obtain rfl : i = wd := by omega
    simp only [spec_EncodeFixed.l0]
    rw [if_neg (by omega)]
    by_cases h : n / 256 ^ i > 0
    · rw [if_pos (by omega), if_pos h]; rfl
    · rw [if_neg (by omega), if_neg h]
  | succ d ih =>
    intro i k h hk
    obtain ⟨k, rfl⟩ : ∃ m, k = m + 1 := ⟨k - 1, by omega⟩
    have hle : n / 256 ^ i ≤ n := Nat.div_le_self _ _
    have hl : lo (i + 1) n = ((n / 256 ^ i % 256 : Nat) : Int) :: lo i n := rfl
    have hd : n / 256 ^ (i + 1) = n / 256 ^ i / 256 := by rw [Nat.pow_succ, ← Nat.div_div_eq_div_mul]
    have hr := ih (i + 1) k (by omega) (by omega)
    rw [hl, hd] at hr
    clear ih hl hd
    generalize n / 256 ^ i = q at hle hr
    have e : wrap64 ((i : Int) + 1) = ((i + 1 : Nat) : Int) := by rw [w64 (by omega) (by omega)]; omega
    have e1 : Int.tmod (q : Int) 256 % 256 = ((q % 256 : Nat) : Int) := by rw [Int.tmod_eq_emod_of_nonneg (by omega)]; omega
    have e2 : wrap64 (Int.tdiv (q : Int) 256) = ((q / 256 : Nat) : Int) := by rw [Int.tdiv_eq_ediv_of_nonneg (by omega), w64 (by omega) (by omega)]; omega
    simp only [spec_EncodeFixed.l0]
    rw [if_pos (by omega), e1, e2, e]
    simp only [Option.bind_some]
    rw [if_pos (by simp only [str_size, lo_length, List.length_cons, List.length_nil]; omega), str_append]
    exact hr

theorem pow8 (j : Nat) : (2 : Int) ^ (8 * j) = ((256 ^ j : Nat) : Int) := by
  have : (2 : Nat) ^ (8 * j) = 256 ^ j := by rw [Nat.pow_mul]
  exact_mod_cast this

theorem impl_fixenc_l0 (n : Nat) (hn : n < 9223372036854775808) (j : Nat) : ∀ (k : Nat) (l : List Int), j ≤ 7 → j < k → l.length ≤ 7 - j →
    impl_EncodeFixed.l0 k (n : Int) l ((j : Int) - 1) = some (strOfNums (l ++ lo j n)) := by
  induction j with
  | zero =>
    intro k l hj hk hl
    obtain ⟨k, rfl⟩ : ∃ m, k = m + 1 := ⟨k - 1, by omega⟩
    simp only [impl_EncodeFixed.l0]
    rw [if_neg (by omega)]; simp [lo]
  | succ j ih =>
    intro k l hj hk hl
    obtain ⟨k, rfl⟩ : ∃ m, k = m + 1 := ⟨k - 1, by omega⟩
    have e0 : ((j + 1 : Nat) : Int) - 1 = (j : Int) := by omega
    have e : wrap64 ((j : Int) - 1) = (j : Int) - 1 := w64 (by omega) (by omega)
    have e8 : wrap64 (8 * (j : Int)) = ((8 * j : Nat) : Int) := by rw [w64 (by omega) (by omega)]; omega
    have es : (shr .i64 (n : Int) ((8 * j : Nat) : Int)) % 256 = ((n / 256 ^ j % 256 : Nat) : Int) := by
      unfold shr
      rw [show (((8 * j : Nat) : Int)).toNat = 8 * j from by omega, Nat.min_eq_left (by show 8 * j ≤ 64; omega), pow8, ← Int.natCast_ediv]
      omega
    simp only [impl_EncodeFixed.l0]
    rw [e0, if_pos (by omega), e8, if_pos (by omega), if_pos (by omega), es, e, ih k _ (by omega) (by omega) (by simp; omega)]
    simp [lo]

theorem ge_false {m q : Nat} (h : m < q) : ¬ decide ((m : Int) ≥ (q : Int)) = true := by simp; omega
theorem ge_true {m q : Nat} (h : q ≤ m) : decide ((m : Int) ≥ (q : Int)) = true := by simp; omega

/-- What both EncodeFixed answer. -/
def fixenc (n wd : Int) : List Int := if 1 ≤ wd ∧ wd ≤ 7 ∧ 0 ≤ n ∧ n.toNat / 256 ^ wd.toNat = 0 then lo wd.toNat n.toNat else []

theorem spec_fixenc (n wd : Int) (h0 : -9223372036854775808 ≤ n) (h1 : n ≤ 9223372036854775807) (k : Nat) (hk : 9 < k) : spec_EncodeFixed.f k n wd = some (strOfNums (fixenc n wd)) := by
  obtain ⟨k, rfl⟩ : ∃ m, k = m + 1 := ⟨k - 1, by omega⟩
  unfold spec_EncodeFixed.f fixenc
  rw [l1In_f]; simp only [Option.bind_some]
  by_cases h : 1 ≤ wd ∧ wd ≤ 7
  · rw [if_pos (by simpa using h)]
    simp only [spec_EncodeFixed.j0]
    by_cases h2 : n < 0
    · rw [if_pos (by simpa using h2), if_neg (by omega)]; rfl
    · rw [if_neg (by simpa using h2)]
      obtain ⟨m, rfl⟩ : ∃ m : Nat, n = m := ⟨n.toNat, by omega⟩
      obtain ⟨w, rfl⟩ : ∃ w : Nat, wd = w := ⟨wd.toNat, by omega⟩
      have := spec_fixenc_l0 m w (by omega) (by omega) w 0 k (by omega) (by omega)
      simp only [Nat.pow_zero, Nat.div_one, lo] at this
      rw [show (⟨#[]⟩ : ByteArray) = strOfNums [] from rfl]
      simp only [Int.toNat_natCast]
      refine Eq.trans this ?_
      generalize m / 256 ^ w = q
      by_cases h3 : q = 0
      · rw [if_neg (by omega), if_pos ⟨h.1, h.2, by omega, h3⟩]
      · rw [if_pos (by omega), if_neg (fun hh => h3 hh.2.2.2)]
  · rw [if_neg (by simpa using h), if_neg (by omega)]
    simp only [spec_EncodeFixed.j0]; rw [if_pos trivial]; rfl

theorem impl_fixenc (n wd : Int) (h0 : -9223372036854775808 ≤ n) (h1 : n ≤ 9223372036854775807) (k : Nat) (hk : 9 < k) : impl_EncodeFixed.f k n wd = some (strOfNums (fixenc n wd)) := by
  obtain ⟨k, rfl⟩ : ∃ m, k = m + 1 := ⟨k - 1, by omega⟩
  unfold impl_EncodeFixed.f fixenc
  rw [within_f]; simp only [Option.bind_some]
  by_cases h : 1 ≤ wd ∧ wd ≤ 7
  · rw [if_pos (by simpa using h)]
    by_cases h2 : n < 0
    · rw [if_pos h2, if_neg (by omega)]
      simp only [impl_EncodeFixed.j0]; rw [if_pos trivial]; rfl
    · rw [if_neg h2]
      obtain ⟨m, rfl⟩ : ∃ m : Nat, n = m := ⟨n.toNat, by omega⟩
      obtain ⟨w, rfl⟩ : ∃ w : Nat, wd = w := ⟨wd.toNat, by omega⟩
      have e8 : wrap64 (8 * (w : Int)) = ((8 * w : Nat) : Int) := by rw [w64 (by omega) (by omega)]; omega
      have hp : (256 : Nat) ^ w ≤ 256 ^ 7 := Nat.pow_le_pow_right (by decide) (by omega)
      have es : shl .i64 1 ((8 * w : Nat) : Int) = ((256 ^ w : Nat) : Int) := by
        unfold shl
        rw [show (((8 * w : Nat) : Int)).toNat = 8 * w from by omega, Nat.min_eq_left (by show 8 * w ≤ 64; omega), pow8, Go.IntKind.wrap_i64]
        have hq : 256 ^ w ≤ 72057594037927936 := hp
        revert hq
        generalize 256 ^ w = q
        intro hq
        omega
      rw [e8, if_pos (by omega), es]
      simp only [impl_EncodeFixed.j0, Int.toNat_natCast]
      clear es
      have hpos : 0 < 256 ^ w := Nat.pow_pos (by decide)
      by_cases h3 : m / 256 ^ w = 0
      · have hlt : m < 256 ^ w := (Nat.div_eq_zero_iff_lt (Nat.pow_pos (by decide))).1 h3
        rw [if_neg (ge_false hlt), if_pos ⟨h.1, h.2, by omega, h3⟩, w64 (by omega) (by omega), impl_fixenc_l0 m (by omega) w k [] (by omega) (by omega) (by simp)]
        simp
      · have hge : 256 ^ w ≤ m := by
          by_cases hlt : m < 256 ^ w
          · exact absurd (Nat.div_eq_of_lt hlt) h3
          · omega
        rw [if_pos (ge_true hge), if_neg (fun hh => h3 hh.2.2.2)]; rfl
  · rw [if_neg (by simpa using h), if_neg (by omega)]
    simp only [impl_EncodeFixed.j0]; rw [if_pos trivial]; rfl

/-! fixdec -/
/-- A number out of bytes, the highest first. -/
def num256 (l : List Int) : Int := l.foldl (fun n b => n * 256 + b) 0
theorem num256_snoc (l : List Int) (b : Int) : num256 (l ++ [b]) = num256 l * 256 + b := by simp [num256, List.foldl_append]
/-- 256 to the n. -/
def c256 : Nat → Nat
  | 0 => 1
  | n + 1 => c256 n * 256
theorem c256_le (n : Nat) (h : n ≤ 6) : c256 n ≤ 281474976710656 := by
  match n, h with
  | 0, _ | 1, _ | 2, _ | 3, _ | 4, _ | 5, _ | 6, _ => decide
theorem num256_range (n : Nat) : ∀ (l : List Int), Bytes l → l.length = n → 0 ≤ num256 l ∧ num256 l < (c256 n : Int) := by
  induction n with
  | zero => intro l h hl; have : l = [] := List.eq_nil_of_length_eq_zero hl; subst this; simp [num256, c256]
  | succ n ih =>
    intro l h hl
    have hne : l ≠ [] := by intro h; simp [h] at hl
    have hd := List.dropLast_concat_getLast hne
    have h1 := ih l.dropLast (fun x hx => h x (List.dropLast_subset l hx)) (by simp [hl])
    have h2 := h (l.getLast hne) (List.getLast_mem hne)
    rw [← hd, num256_snoc, c256]
    omega
theorem num256_lt (l : List Int) (h : Bytes l) (hl : l.length ≤ 6) : 0 ≤ num256 l ∧ num256 l < 281474976710656 := by
  have h1 := num256_range _ l h rfl
  have h2 := c256_le _ hl
  omega

theorem wraps_i64_ (n : Int) (h₀ : 0 ≤ n) (h₁ : n < 2 ^ 63) : IntKind.i64.wrap n = n := by rw [Go.IntKind.wrap_i64]; omega

theorem impl_fixdec_l0 (s : ByteArray) (wd : Nat) (h7 : wd ≤ 7) (hs : wd ≤ s.size) (d : Nat) : ∀ (i k : Nat), i + d = wd → d < k →
    impl_DecodeFixed.l0 k s (num256 ((bytesOf s).take i)) (wd : Int) (i : Int) = some (num256 ((bytesOf s).take wd), true) := by
  induction d with
  | zero =>
    intro i k h hk
    obtain ⟨k, rfl⟩ : ∃ m, k = m + 1 := ⟨k - 1, by omega⟩
    simp only [impl_DecodeFixed.l0]
    rw [if_neg (by omega), show i = wd from by omega]
  | succ d ih =>
    intro i k h hk
    obtain ⟨k, rfl⟩ : ∃ m, k = m + 1 := ⟨k - 1, by omega⟩
    have e : wrap64 ((i : Int) + 1) = ((i + 1 : Nat) : Int) := by rw [w64 (by omega) (by omega)]; omega
    obtain ⟨b0, b1⟩ := bt_range s (i : Int)
    obtain ⟨n0, n1⟩ := num256_lt ((bytesOf s).take i) ((bytes_of s).take i) (by simp; omega)
    have e1 : wrap64 (bt s (i : Int)) = bt s (i : Int) := w64 (by omega) (by omega)
    have e2 : wrap64 (num256 ((bytesOf s).take i) * 256) = num256 ((bytesOf s).take i) * 256 := w64 (by omega) (by omega)
    have e3 : Go.bits .or .i64 (num256 ((bytesOf s).take i) * 256) (bt s (i : Int)) = num256 ((bytesOf s).take i) * 256 + bt s (i : Int) :=
      Go.bits_join .i64 63 (by decide) wraps_i64_ 8 _ _ (by omega) (by omega) (by omega) b0 (by omega) (by omega)
    simp only [impl_DecodeFixed.l0]
    rw [if_pos (by omega), if_pos (by omega), if_pos (by omega), e1, e2, e3, e]
    have := ih (i + 1) k (by omega) (by omega)
    rw [take_bt s i (by omega), num256_snoc] at this
    exact this

/-- What both DecodeFixed answer. -/
def fixdec (s : ByteArray) (wd : Int) : Int × Bool := if 1 ≤ wd ∧ wd ≤ 7 ∧ wd ≤ (s.size : Int) then (num256 ((bytesOf s).take wd.toNat), true) else (0, false)

theorem impl_fixdec (s : ByteArray) (wd : Int) (k : Nat) (hk : 9 < k) : impl_DecodeFixed.f k s wd = some (fixdec s wd) := by
  obtain ⟨k, rfl⟩ : ∃ m, k = m + 1 := ⟨k - 1, by omega⟩
  unfold impl_DecodeFixed.f fixdec
  rw [within_f]; simp only [Option.bind_some]
  by_cases h1 : 1 ≤ wd ∧ wd ≤ 7
  · rw [if_pos (by simpa using h1)]
    by_cases h2 : wd ≤ (s.size : Int)
    · rw [if_pos ⟨h1.1, h1.2, h2⟩]
      obtain ⟨n, rfl⟩ : ∃ n : Nat, wd = n := ⟨wd.toNat, by omega⟩
      simp only [impl_DecodeFixed.j0]
      rw [if_neg (by simp; omega)]
      have := impl_fixdec_l0 s n (by omega) (by omega) n 0 k (by omega) (by omega)
      simpa [num256] using this
    · rw [if_neg (by omega)]
      simp only [impl_DecodeFixed.j0]
      rw [if_pos (by simp; omega)]
  · rw [if_neg (by simpa using h1), if_neg (by omega)]
    simp only [impl_DecodeFixed.j0]; rw [if_pos trivial]

/-! hexenc -/
/-- The digits of bytes. -/
def hx (l : List Int) : List Int := l.flatMap fun x => [bt (⟨#[48, 49, 50, 51, 52, 53, 54, 55, 56, 57, 97, 98, 99, 100, 101, 102]⟩ : ByteArray) (x / 16), bt (⟨#[48, 49, 50, 51, 52, 53, 54, 55, 56, 57, 97, 98, 99, 100, 101, 102]⟩ : ByteArray) (x % 16)]
theorem hx_snoc (l : List Int) (x : Int) : hx (l ++ [x]) = hx l ++ [bt (⟨#[48, 49, 50, 51, 52, 53, 54, 55, 56, 57, 97, 98, 99, 100, 101, 102]⟩ : ByteArray) (x / 16), bt (⟨#[48, 49, 50, 51, 52, 53, 54, 55, 56, 57, 97, 98, 99, 100, 101, 102]⟩ : ByteArray) (x % 16)] := by
  simp [hx, List.flatMap_append]
theorem hx_length (l : List Int) : (hx l).length = 2 * l.length := by
  induction l with
  | nil => rfl
  | cons x l ih => simp only [hx, List.flatMap_cons, List.length_append, List.length_cons, List.length_nil] at *; omega
theorem impl_hex_l0 (s : ByteArray) (hn : s.size ≤ 1048576) (d : Nat) : ∀ (i k : Nat), i + d = s.size → d < k →
    impl_EncodeHex.l0 k s (hx ((bytesOf s).take i)) (s.size : Int) (i : Int) = some (strOfNums (hx (bytesOf s))) := by
  induction d with
  | zero =>
    intro i k h hk
    obtain ⟨k, rfl⟩ : ∃ m, k = m + 1 := ⟨k - 1, by omega⟩
    simp only [impl_EncodeHex.l0]
    rw [if_neg (by omega), List.take_of_length_le (by rw [bytesOf_length]; omega)]
  | succ d ih =>
    intro i k h hk
    obtain ⟨k, rfl⟩ : ∃ m, k = m + 1 := ⟨k - 1, by omega⟩
    have e : wrap64 ((i : Int) + 1) = ((i + 1 : Nat) : Int) := by rw [w64 (by omega) (by omega)]; omega
    obtain ⟨b0, b1⟩ := bt_range s (i : Int)
    have e1 : Go.bits .and .u8 (bt s (i : Int)) 15 = bt s (i : Int) % 16 := Go.u8_and15 _ b0 (by omega)
    simp only [impl_EncodeHex.l0]
    rw [e1, if_pos (by omega), if_pos (by omega), if_pos (by omega), if_pos (by omega), if_pos (by omega), if_pos (by omega), if_pos (by omega)]
    simp only [Option.bind_some]
    rw [if_pos (by simp [hx_length, bytesOf_length]; omega), e]
    have := ih (i + 1) k (by omega) (by omega)
    rw [take_bt s i (by omega), hx_snoc] at this
    exact this

theorem impl_hex (s : ByteArray) (hn : s.size ≤ 1048576) (k : Nat) (hk : s.size < k) : impl_EncodeHex.f k s = some (strOfNums (hx (bytesOf s))) := by
  have := impl_hex_l0 s hn s.size 0 k (by omega) hk
  simpa [impl_EncodeHex.f, hx] using this

/-! hexdec -/
/-- The value of a digit, or -1. -/
def hv (x : Int) : Int := if 48 ≤ x ∧ x ≤ 57 then x - 48 else if 97 ≤ x ∧ x ≤ 102 then x - 87 else -1
theorem impl_digit {x : Int} (h0 : 0 ≤ x) (h1 : x ≤ 255) : strings_IndexByte.f (⟨#[48, 49, 50, 51, 52, 53, 54, 55, 56, 57, 97, 98, 99, 100, 101, 102]⟩ : ByteArray) x = some (hv x) := by
  refine byte_cases (P := fun x => strings_IndexByte.f (⟨#[48, 49, 50, 51, 52, 53, 54, 55, 56, 57, 97, 98, 99, 100, 101, 102]⟩ : ByteArray) x = some (hv x)) ?_ h0 h1; decide +kernel
/-! encround -/
theorem vl_num (n : Nat) : ∀ x, x < c128 n → num7 (vl n x) = (x : Int) := by
  induction n with
  | zero => intro x h; have h : x < 128 := h; show (x : Int) % 128 + 128 * 0 = _; omega
  | succ n ih =>
    intro x h
    simp only [vl]
    have hxd : x / 128 < c128 n := Nat.div_lt_of_lt_mul (by rw [c128, Nat.mul_comm] at h; exact h)
    by_cases h8 : x ≥ 128
    · rw [if_pos h8]; show _ % 128 + 128 * num7 (vl n (x / 128)) = _; rw [ih _ hxd]; clear h hxd; omega
    · rw [if_neg h8]; show (x : Int) % 128 + 128 * 0 = _; clear h hxd; omega
theorem vl_len (n : Nat) : ∀ x, 1 ≤ (vl n x).length ∧ (vl n x).length ≤ n + 1 := by
  induction n with
  | zero => intro x; exact ⟨by simp [vl], by simp [vl]⟩
  | succ n ih =>
    intro x
    simp only [vl]
    by_cases h8 : x ≥ 128
    · rw [if_pos h8]; have := ih (x / 128); rw [List.length_cons]; omega
    · rw [if_neg h8]; simp
theorem vardec_step (s : ByteArray) (i f' : Nat) (hi : i < 7) (hs : i < s.size) (hf : 6 < f') : impl_DecodeVarint.l0 (f' + 1 + 1) s (num7 ((bytesOf s).take i)) (i : Int) =
    if bt s (i : Int) < 128 then (if same s (i + 1) then some (num7 ((bytesOf s).take (i + 1)), ((i + 1 : Nat) : Int)) else some (0, 0)) else impl_DecodeVarint.l0 f' s (num7 ((bytesOf s).take (i + 1))) ((i + 1 : Nat) : Int) := by
  have e7 : wrap64 (7 * (i : Int)) = 7 * (i : Int) := w64 (by omega) (by omega)
  rw [impl_DecodeVarint.l0, if_pos (by omega), show decide ((i : Int) < 7) = true from decide_eq_true (by omega), impl_DecodeVarint.j1, if_pos rfl, if_pos (by omega), if_pos (by omega), if_pos (by omega)]
  rw [part7 s i (by omega) (by omega), nx (by omega), impl_varenc _ f' (by omega), Option.bind_some]
  rw [if_pos (show 0 ≤ ((i + 1 : Nat) : Int) from by omega), if_pos (show ((i + 1 : Nat) : Int) ≤ (s.size : Int) from by omega)]
  rfl
theorem vardec_go (s : ByteArray) (K : Nat) (h7 : K ≤ 7) (hs : K ≤ s.size) (hm : same s K) (d : Nat) : ∀ (i f : Nat), i + d + 1 = K → 2 * d + 9 < f →
    impl_DecodeVarint.l0 f s (num7 ((bytesOf s).take i)) (i : Int) = some (num7 ((bytesOf s).take K), (K : Int)) := by
  induction d with
  | zero =>
    intro i f h hf
    obtain ⟨f, rfl⟩ : ∃ m, f = m + 1 + 1 := ⟨f - 2, by omega⟩
    have hb := (same_bytes h7 hs hm i (by omega)).2 (by omega)
    have e : i + 1 = K := by omega
    rw [vardec_step s i f (by omega) (by omega) (by omega), if_pos hb, e, if_pos hm]
  | succ d ih =>
    intro i f h hf
    obtain ⟨f, rfl⟩ : ∃ m, f = m + 1 + 1 := ⟨f - 2, by omega⟩
    have hb := (same_bytes h7 hs hm i (by omega)).1 (by omega)
    rw [vardec_step s i f (by omega) (by omega) (by omega), if_neg (by omega)]
    exact ih (i + 1) f (by omega) (by omega)
theorem vardec_tot (s : ByteArray) (d : Nat) : ∀ (i f : Nat), i + d = 7 → 2 * d + 9 < f → ∃ r, impl_DecodeVarint.l0 f s (num7 ((bytesOf s).take i)) (i : Int) = some r := by
  have ends : ∀ (i f : Nat), i ≤ 7 → 8 < f → (i = 7 ∨ s.size ≤ i) → ∃ r, impl_DecodeVarint.l0 f s (num7 ((bytesOf s).take i)) (i : Int) = some r := by
    intro i f hi hf h
    refine ⟨(0, 0), ?_⟩
    obtain ⟨f, rfl⟩ : ∃ m, f = m + 1 + 1 := ⟨f - 2, by omega⟩
    rw [impl_DecodeVarint.l0]
    by_cases h7 : (i : Int) < (s.size : Int)
    · rw [if_pos h7, show decide ((i : Int) < 7) = false from decide_eq_false (by omega), impl_DecodeVarint.j1, if_neg (by decide)]
    · rw [if_neg h7, impl_DecodeVarint.j1, if_neg (by decide)]
  induction d with
  | zero => intro i f h hf; exact ends i f (by omega) (by omega) (by omega)
  | succ d ih =>
    intro i f h hf
    by_cases hs : s.size ≤ i
    · exact ends i f (by omega) (by omega) (by omega)
    · obtain ⟨f, rfl⟩ : ∃ m, f = m + 1 + 1 := ⟨f - 2, by omega⟩
      rw [vardec_step s i f (by omega) (by omega) (by omega)]
      by_cases h8 : bt s (i : Int) < 128
      · rw [if_pos h8]
        by_cases hh : same s (i + 1)
        · rw [if_pos hh]; exact ⟨_, rfl⟩
        · rw [if_neg hh]; exact ⟨_, rfl⟩
      · rw [if_neg h8]; exact ih (i + 1) f (by omega) (by omega)
/-- A varint is read back, whatever follows it. -/
theorem varint_round (x : Int) (h : 0 ≤ x ∧ x ≤ 562949953421311) (t : ByteArray) (k : Nat) (hk : 30 < k) :
    impl_DecodeVarint.f k (strOfNums (varenc x) ++ t) = some (x, ((varenc x).length : Int)) := by
  obtain ⟨m, rfl⟩ : ∃ m : Nat, x = m := ⟨x.toNat, by omega⟩
  have hv : varenc (m : Int) = vl 6 m := by unfold varenc; rw [if_pos h, Int.toNat_natCast]
  have hm : m < c128 6 := by rw [c128_six]; omega
  obtain ⟨l1, l2⟩ := vl_len 6 m
  have hb : bytesOf (strOfNums (vl 6 m) ++ t) = vl 6 m ++ bytesOf t := by rw [bytesOf_append, bytesOf_str (vl_bytes 6 m hm)]
  have ht : (bytesOf (strOfNums (vl 6 m) ++ t)).take (vl 6 m).length = vl 6 m := by rw [hb, List.take_left']; rfl
  have hn := vl_num 6 m hm
  have hsz : (vl 6 m).length ≤ (strOfNums (vl 6 m) ++ t).size := by rw [ByteArray.size_append, str_size]; omega
  rw [hv]
  obtain ⟨s, hs⟩ : ∃ s, s = strOfNums (vl 6 m) ++ t := ⟨_, rfl⟩
  rw [← hs] at ht hsz ⊢
  have hsame : same s (vl 6 m).length := by
    unfold same
    rw [ht, hn, hv, extract_str, Int.toNat_natCast, ht, List.drop_zero]
  have := vardec_go s (vl 6 m).length (by omega) hsz hsame ((vl 6 m).length - 1) 0 k (by omega) (by omega)
  rw [ht, hn, List.take_zero] at this
  exact this
theorem varenc_nil (x : Int) : varenc x = [] ↔ ¬ (0 ≤ x ∧ x ≤ 562949953421311) := by
  unfold varenc
  by_cases h : 0 ≤ x ∧ x ≤ 562949953421311
  · rw [if_pos h]
    have := vl_len 6 x.toNat
    constructor
    · intro e; rw [e] at this; simp at this
    · intro e; exact absurd h e
  · rw [if_neg h]; exact ⟨fun _ => h, fun _ => rfl⟩
theorem varenc_len (x : Int) : (varenc x).length ≤ 7 := by
  unfold varenc
  split
  · exact (vl_len 6 _).2
  · simp
/-! Fixed widths. -/
theorem lo_fold (w : Nat) : ∀ (a n : Nat), (lo w n).foldl (fun (n b : Int) => n * 256 + b) (a : Int) = ((a * 256 ^ w + n % 256 ^ w : Nat) : Int) := by
  induction w with
  | zero => intro a n; simp [lo, Nat.mod_one]
  | succ w ih =>
    intro a n
    have e : (a : Int) * 256 + ((n / 256 ^ w % 256 : Nat) : Int) = ((a * 256 + n / 256 ^ w % 256 : Nat) : Int) := by
      generalize n / 256 ^ w % 256 = q; omega
    rw [lo, List.foldl_cons, e, ih, Nat.mod_pow_succ, Nat.pow_succ]
    congr 1
    generalize n / 256 ^ w % 256 = q
    generalize n % 256 ^ w = r
    generalize 256 ^ w = P
    rw [Nat.add_mul, Nat.mul_assoc, Nat.mul_comm 256 P, Nat.mul_comm q P]
    omega
theorem lo_bytes (w n : Nat) : Bytes (lo w n) := by
  induction w with
  | zero => exact Bytes.nil
  | succ w ih => exact Bytes.cons (by generalize n / 256 ^ w = q; omega) (by generalize n / 256 ^ w = q; omega) ih
theorem fixenc_len (n wd : Int) : (fixenc n wd).length = if 1 ≤ wd ∧ wd ≤ 7 ∧ 0 ≤ n ∧ n.toNat / 256 ^ wd.toNat = 0 then wd.toNat else 0 := by
  unfold fixenc
  split
  · exact lo_length _ _
  · rfl
theorem fix_round (n wd : Int) (t : ByteArray) (hne : fixenc n wd ≠ []) : fixdec (strOfNums (fixenc n wd) ++ t) wd = (n, true) ∧ ((fixenc n wd).length : Int) = wd := by
  have hc : 1 ≤ wd ∧ wd ≤ 7 ∧ 0 ≤ n ∧ n.toNat / 256 ^ wd.toNat = 0 := by
    by_cases h : 1 ≤ wd ∧ wd ≤ 7 ∧ 0 ≤ n ∧ n.toNat / 256 ^ wd.toNat = 0
    · exact h
    · exact absurd (by unfold fixenc; rw [if_neg h]) hne
  have hf : fixenc n wd = lo wd.toNat n.toNat := by unfold fixenc; rw [if_pos hc]
  obtain ⟨w, rfl⟩ : ∃ w : Nat, wd = w := ⟨wd.toNat, by omega⟩
  obtain ⟨m, rfl⟩ : ∃ m : Nat, n = m := ⟨n.toNat, by omega⟩
  rw [Int.toNat_natCast, Int.toNat_natCast] at hf hc
  have hl := lo_length w m
  refine ⟨?_, by rw [hf, hl]⟩
  rw [hf]
  unfold fixdec
  rw [if_pos ⟨hc.1, hc.2.1, by rw [ByteArray.size_append, str_size, hl]; omega⟩, Int.toNat_natCast, bytesOf_append, bytesOf_str (lo_bytes w m), List.take_left' hl]
  have := lo_fold w 0 m
  have hlt : m < 256 ^ w := (Nat.div_eq_zero_iff_lt (Nat.pow_pos (by decide))).1 hc.2.2.2
  rw [Nat.zero_mul, Nat.zero_add, Nat.mod_eq_of_lt hlt] at this
  unfold num256
  rw [show (0 : Int) = ((0 : Nat) : Int) from rfl, this]
/-! Hex digits. -/
abbrev hexd : ByteArray := ⟨#[48, 49, 50, 51, 52, 53, 54, 55, 56, 57, 97, 98, 99, 100, 101, 102]⟩
theorem hx_cons (x : Int) (l : List Int) : hx (x :: l) = bt hexd (x / 16) :: bt hexd (x % 16) :: hx l := rfl
theorem hx_bytes (l : List Int) : Bytes (hx l) := by
  induction l with
  | nil => exact Bytes.nil
  | cons x l ih =>
    have h1 := bt_range hexd (x / 16); have h2 := bt_range hexd (x % 16)
    rw [hx_cons]
    exact Bytes.cons h1.1 (by omega) (Bytes.cons h2.1 (by omega) ih)
theorem hv_digit {x : Int} (h0 : 0 ≤ x) (h1 : x ≤ 255) : hv (bt hexd (x / 16)) = x / 16 ∧ hv (bt hexd (x % 16)) = x % 16 := by
  refine byte_cases (P := fun x => hv (bt hexd (x / 16)) = x / 16 ∧ hv (bt hexd (x % 16)) = x % 16) ?_ h0 h1; decide +kernel
theorem hexdec_go (s : ByteArray) (hs : s.size ≤ 1048576) (d : Nat) : ∀ (i k' : Nat) (l acc : List Int), l.length = d → Bytes l → (bytesOf s).drop i = hx l → i + 2 * d = s.size → i % 2 = 0 → acc.length ≤ i → d < k' →
    impl_DecodeHex.l0 k' s acc (i : Int) = some (strOfNums (acc ++ l), true) := by
  induction d with
  | zero =>
    intro i k' l acc hl _ _ h hev ha hk
    obtain rfl := List.eq_nil_of_length_eq_zero hl
    obtain ⟨k', rfl⟩ : ∃ m, k' = m + 1 := ⟨k' - 1, by omega⟩
    simp only [impl_DecodeHex.l0]
    rw [nx (by omega)]
    repeat rw [if_neg (by omega)]
    rw [List.append_nil]
  | succ d ih =>
    intro i k' l acc hl hB hd h hev ha hk
    obtain ⟨k', rfl⟩ : ∃ m, k' = m + 1 := ⟨k' - 1, by omega⟩
    cases l with
    | nil => simp at hl
    | cons x l =>
      have hx0 := hB x List.mem_cons_self
      obtain ⟨v1, v2⟩ := hv_digit (x := x) hx0.1 (by omega)
      rw [hx_cons, drop_bt s i (by omega)] at hd
      injection hd with d1 hd
      rw [drop_bt s (i + 1) (by omega)] at hd
      injection hd with d2 hd
      obtain ⟨b0, b1⟩ := bt_range s (i : Int)
      obtain ⟨c0, c1⟩ := bt_range s ((i + 1 : Nat) : Int)
      simp only [impl_DecodeHex.l0]
      rw [nx (i := i) (by omega), if_pos (by omega), if_pos (by omega), if_pos (by omega), impl_digit b0 b1, Option.bind_some, if_pos (by omega), impl_digit c0 c1, Option.bind_some, d1, d2, v1, v2, if_neg (by omega), if_neg (by omega), if_pos (by omega), nx2 (by omega)]
      have e : wrap64 (wrap64 (16 * (x / 16)) + x % 16) % 256 = x := by rw [w64 (x := 16 * (x / 16)) (by omega) (by omega), w64 (by omega) (by omega)]; omega
      rw [e, ih (i + 2) k' l (acc ++ [x]) (by simpa using hl) (fun y hy => hB y (List.mem_cons_of_mem _ hy)) hd (by omega) (by omega) (by simp; omega) (by omega), List.append_assoc]
      rfl
theorem hex_round (t : ByteArray) (ht : t.size ≤ 1000) (k : Nat) (hk : t.size < k) : impl_DecodeHex.f k (strOfNums (hx (bytesOf t))) = some (t, true) := by
  have hb := bytesOf_str (hx_bytes (bytesOf t))
  have hz : (strOfNums (hx (bytesOf t))).size = 2 * t.size := by rw [str_size, hx_length, bytesOf_length]
  have := hexdec_go (strOfNums (hx (bytesOf t))) (by omega) t.size 0 k (bytesOf t) [] (bytesOf_length t) (bytes_of t) (by rw [hb]; rfl) (by omega) (by decide) (by simp) hk
  rw [List.nil_append, str_bytesOf] at this
  exact this

/-! draw -/
/-- What is masked with 255 is a byte. -/
theorem and255 (x : Int) : 0 ≤ Go.bits .and .i64 x 255 ∧ Go.bits .and .i64 x 255 ≤ 255 := by
  have e : Go.bits .and .i64 x 255 = IntKind.i64.wrap (((BitVec.ofInt 64 x) &&& (BitVec.ofInt 64 255)).toNat : Int) := rfl
  have h : ((BitVec.ofInt 64 x) &&& (BitVec.ofInt 64 255)).toNat ≤ 255 := by
    rw [BitVec.toNat_and]
    exact Nat.le_trans Nat.and_le_right (by decide)
  rw [e, Go.IntKind.wrap_i64]
  omega
/-- Where the cursor may stand. -/
def Cur (l : List Int) (i : Int) : Prop := 0 ≤ i ∧ i ≤ (l.length : Int)
/-- The drawing lists that the laws are called with. -/
def Code (l : List Int) : Prop := l.length ≤ 1048576 ∧ ∀ x ∈ l, 0 ≤ x ∧ x ≤ 255
theorem new_l0 (l : List Int) (d : Nat) : ∀ (i K : Nat) (h : Int), i + d = 4000 → ∃ h', spec_l1New.l0 (K + d + 1) l h (i : Int) = some (l, 0, h') := by
  induction d with
  | zero =>
    intro i K h hi
    simp only [spec_l1New.l0]
    by_cases h1 : (i : Int) < (l.length : Int)
    · rw [if_pos h1, if_neg (by omega)]; exact ⟨_, rfl⟩
    · rw [if_neg h1]; exact ⟨_, rfl⟩
  | succ d ih =>
    intro i K h hi
    rw [show K + (d + 1) + 1 = (K + d + 1) + 1 from by omega, spec_l1New.l0]
    by_cases h1 : (i : Int) < (l.length : Int)
    · rw [if_pos h1, if_pos (by omega), if_pos (by omega), nx (i := i) (by omega)]
      exact ih (i + 1) K _ (by omega)
    · rw [if_neg h1]; exact ⟨_, rfl⟩
theorem l1New_f (l : List Int) {k : Nat} (hk : 4001 ≤ k) : ∃ h, spec_l1New.f k l = some (l, 0, h) := by
  unfold spec_l1New.f
  obtain ⟨K, rfl⟩ : ∃ K, k = K + 4000 + 1 := ⟨k - 4001, by omega⟩
  exact new_l0 l 4000 0 K _ (by omega)
theorem l1Byte_f (l : List Int) (hl : l.length ≤ 1048576) (i h : Int) (hc : Cur l i) : ∃ x i' h', spec_l1Byte.f l i h = some (x, i', h') ∧ 0 ≤ x ∧ x ≤ 255 ∧ Cur l i' := by
  obtain ⟨c0, c1⟩ := hc
  unfold spec_l1Byte.f
  by_cases h1 : i < (l.length : Int)
  · rw [if_pos h1, if_pos c0]
    refine ⟨_, _, _, rfl, (and255 _).1, (and255 _).2, ?_, ?_⟩
    · rw [w64 (by omega) (by omega)]; omega
    · rw [w64 (by omega) (by omega)]; omega
  · rw [if_neg h1]
    exact ⟨_, _, _, rfl, (and255 _).1, (and255 _).2, c0, c1⟩
theorem l1Below_f (l : List Int) (hl : l.length ≤ 1048576) (i h : Int) (hc : Cur l i) (n : Int) (h0 : 0 < n) (h1 : n ≤ 256) :
    ∃ x i' h', spec_l1Below.f l i h n = some (x, i', h') ∧ 0 ≤ x ∧ x < n ∧ Cur l i' := by
  unfold spec_l1Below.f
  obtain ⟨x, i', h', e, x0, x1, hc'⟩ := l1Byte_f l hl i h hc
  rw [if_neg (by omega), if_pos h1, e]
  simp only [Option.bind_some]
  rw [if_neg (by omega), Int.tmod_eq_emod_of_nonneg x0]
  exact ⟨_, _, _, rfl, Int.emod_nonneg _ (by omega), Int.emod_lt_of_pos _ h0, hc'⟩
/-! drawnum -/
theorem l1BelowBig_f (l : List Int) (hl : l.length ≤ 1048576) (i h : Int) (hc : Cur l i) (n : Int) (h1 : 256 < n) :
    ∃ x i' h', spec_l1Below.f l i h n = some (x, i', h') ∧ 0 ≤ x ∧ x < n ∧ Cur l i' := by
  unfold spec_l1Below.f
  obtain ⟨x1, i1, g1, e1, a0, a1, hc1⟩ := l1Byte_f l hl i h hc
  obtain ⟨x2, i2, g2, e2, b0, b1, hc2⟩ := l1Byte_f l hl i1 g1 hc1
  obtain ⟨x3, i3, g3, e3, c0, c1, hc3⟩ := l1Byte_f l hl i2 g2 hc2
  obtain ⟨x4, i4, g4, e4, d0, d1, hc4⟩ := l1Byte_f l hl i3 g3 hc3
  rw [if_neg (by omega), if_neg (by omega), e1]
  simp only [Option.bind_some]
  rw [e2]
  simp only [Option.bind_some]
  rw [e3]
  simp only [Option.bind_some]
  rw [e4]
  simp only [Option.bind_some]
  rw [if_neg (by omega), w64 (x := x1 * 16777216) (by omega) (by omega), w64 (x := x2 * 65536) (by omega) (by omega), w64 (x := x1 * 16777216 + x2 * 65536) (by omega) (by omega), w64 (x := x3 * 256) (by omega) (by omega), w64 (x := x1 * 16777216 + x2 * 65536 + x3 * 256) (by omega) (by omega), w64 (x := x1 * 16777216 + x2 * 65536 + x3 * 256 + x4) (by omega) (by omega), Int.tmod_eq_emod_of_nonneg (by omega)]
  exact ⟨_, _, _, rfl, Int.emod_nonneg _ (by omega), Int.emod_lt_of_pos _ (by omega), hc4⟩
theorem l1PickInt_f (l : List Int) (hl : l.length ≤ 1048576) (i h : Int) (hc : Cur l i) (L : List Int) (h0 : 0 < L.length) (h1 : L.length ≤ 256) :
    ∃ x i' h', spec_l1PickInt.f l i h L = some (x, i', h') ∧ x ∈ L ∧ Cur l i' := by
  unfold spec_l1PickInt.f
  obtain ⟨j, i1, g1, e1, a0, a1, hc1⟩ := l1Below_f l hl i h hc (L.length : Int) (by omega) (by omega)
  rw [e1]
  simp only [Option.bind_some]
  rw [if_pos a0, if_pos a1]
  refine ⟨_, _, _, rfl, ?_, hc1⟩
  obtain ⟨m, rfl⟩ : ∃ m : Nat, j = m := ⟨j.toNat, by omega⟩
  have hm : m < L.length := by omega
  have e : rd L (m : Int) = L[m] := by simp [rd, hm]
  rw [e]
  exact List.getElem_mem hm
theorem mul9 {a b : Int} (a0 : 0 ≤ a) (a1 : a < 1000000000) (b0 : 0 ≤ b) (b1 : b < 1000000000) : 0 ≤ a * b ∧ a * b ≤ 1000000000000000000 := by
  refine ⟨Int.mul_nonneg a0 b0, ?_⟩
  exact Int.le_trans (Int.mul_le_mul (show a ≤ 1000000000 by omega) (show b ≤ 1000000000 by omega) b0 (by decide)) (by decide)
theorem l1Num_f (l : List Int) (hl : l.length ≤ 1048576) (i h : Int) (hc : Cur l i) :
    ∃ x i' h', spec_l1Num.f l i h = some (x, i', h') ∧ -9223372036854775808 ≤ x ∧ x ≤ 9223372036854775807 ∧ Cur l i' := by
  unfold spec_l1Num.f
  obtain ⟨s, i1, g1, e1, a0, a1, hc1⟩ := l1Below_f l hl i h hc 8 (by omega) (by omega)
  rw [e1]
  simp only [Option.bind_some]
  by_cases s0 : s = 0
  · rw [if_pos s0]
    obtain ⟨x, i2, g2, e2, hx, hc2⟩ := l1PickInt_f l hl i1 g1 hc1 [(-1), 0, 127, 128, 255, 256, 16383, 16384, 65535, 65536, 562949953421311, 562949953421312, 999999999, 1000000000, (-999999999), 9223372036854775807, (-9223372036854775808)] (by decide) (by decide)
    rw [e2]
    have hr : -9223372036854775808 ≤ x ∧ x ≤ 9223372036854775807 := by
      have : ∀ y ∈ ([(-1), 0, 127, 128, 255, 256, 16383, 16384, 65535, 65536, 562949953421311, 562949953421312, 999999999, 1000000000, (-999999999), 9223372036854775807, (-9223372036854775808)] : List Int), -9223372036854775808 ≤ y ∧ y ≤ 9223372036854775807 := by decide
      exact this x hx
    exact ⟨x, i2, g2, rfl, hr.1, hr.2, hc2⟩
  · rw [if_neg s0]
    by_cases s1 : s = 1
    · rw [if_pos s1]
      obtain ⟨x, i2, g2, e2, x0, x1, hc2⟩ := l1BelowBig_f l hl i1 g1 hc1 1000000000 (by omega)
      obtain ⟨y, i3, g3, e3, y0, y1, hc3⟩ := l1BelowBig_f l hl i2 g2 hc2 1000000000 (by omega)
      rw [e2]
      simp only [Option.bind_some]
      rw [e3]
      have hm := mul9 x0 x1 y0 y1
      generalize hp : x * y = p at hm
      refine ⟨p, i3, g3, ?_, by omega, by omega, hc3⟩
      show some (wrap64 (x * y), i3, g3) = _
      rw [hp, w64 (by omega) (by omega)]
    · rw [if_neg s1]
      by_cases s2 : s = 2
      · rw [if_pos s2]
        obtain ⟨x, i2, g2, e2, x0, x1, hc2⟩ := l1BelowBig_f l hl i1 g1 hc1 100000 (by omega)
        rw [e2]
        refine ⟨-x, i2, g2, ?_, by omega, by omega, hc2⟩
        show some (wrap64 (-x), i2, g2) = _
        rw [w64 (by omega) (by omega)]
      · rw [if_neg s2]
        obtain ⟨x, i2, g2, e2, x0, x1, hc2⟩ := l1BelowBig_f l hl i1 g1 hc1 70000 (by omega)
        rw [e2]
        exact ⟨x, i2, g2, rfl, by omega, by omega, hc2⟩
theorem text_l0 (l : List Int) (hl : l.length ≤ 1048576) (st : Int) (d : Nat) : ∀ (K : Nat) (o : List Int) (i h : Int), Cur l i → o.length + d ≤ 100 →
    ∃ s i' h', spec_l1Text.l0 (K + d + 1) o st (d : Int) l i h = some (s, i', h') ∧ s.size ≤ 100 ∧ Cur l i' := by
  induction d with
  | zero =>
    intro K o i h hc ho
    rw [spec_l1Text.l0, if_neg (by omega)]
    exact ⟨_, _, _, rfl, by rw [str_size]; omega, hc⟩
  | succ d ih =>
    intro K o i h hc ho
    obtain ⟨x, i1, g1, e1, x0, x1, hc1⟩ := l1Byte_f l hl i h hc
    have ew : wrap64 (((d + 1 : Nat) : Int) - 1) = (d : Int) := by rw [w64 (by omega) (by omega)]; omega
    have key : ∀ y : Int, ∃ s i' h', spec_l1Text.l0 (K + d + 1) (o ++ [y]) st (d : Int) l i1 g1 = some (s, i', h') ∧ s.size ≤ 100 ∧ Cur l i' := fun y => ih K (o ++ [y]) i1 g1 hc1 (by simp; omega)
    rw [show K + (d + 1) + 1 = (K + d + 1) + 1 from by omega, spec_l1Text.l0, if_pos (by omega), e1, ew]
    simp only [Option.bind_some]
    have ho2 : o.length < 140737488355328 := by omega
    simp only [if_pos ho2]
    split
    · split
      · exact key _
      · exact key _
    · split
      · exact key _
      · exact key _
theorem l1Text_f (l : List Int) (hl : l.length ≤ 1048576) (i h : Int) (hc : Cur l i) (a : Int) (a0 : 0 ≤ a) (a1 : a ≤ 90) {k : Nat} (hk : 200 ≤ k) :
    ∃ s i' h', spec_l1Text.f k l i h a = some (s, i', h') ∧ s.size ≤ 100 ∧ Cur l i' := by
  unfold spec_l1Text.f
  obtain ⟨st, i1, g1, e1, _, _, hc1⟩ := l1Below_f l hl i h hc 4 (by omega) (by omega)
  obtain ⟨n, i2, g2, e2, n0, n1, hc2⟩ := l1Below_f l hl i1 g1 hc1 (a + 1) (by omega) (by omega)
  rw [e1]
  simp only [Option.bind_some]
  rw [w64 (x := a + 1) (by omega) (by omega), e2]
  simp only [Option.bind_some]
  obtain ⟨m, rfl⟩ : ∃ m : Nat, n = m := ⟨n.toNat, by omega⟩
  obtain ⟨K, rfl⟩ : ∃ K, k = K + m + 1 := ⟨k - m - 1, by omega⟩
  exact text_l0 l hl st m K [] i2 g2 hc2 (by simp; omega)

/-! fmtint -/
def D (u : Nat) : List UInt8 := if u = 0 then [] else Lib.decDigits u
def B (l : List UInt8) : ByteArray := ⟨l.toArray⟩
theorem B_app (a b : List UInt8) : B a ++ B b = B (a ++ b) := ba_ext (by simp [B])
theorem B_size (l : List UInt8) : (B l).size = l.length := by simp [B, ByteArray.size]
theorem D_step (u : Nat) (h : u ≠ 0) : D u = D (u / 10) ++ [UInt8.ofNat (48 + u % 10)] := by
  unfold D
  rw [if_neg h, Lib.decDigits]
  by_cases h1 : u < 10
  · rw [dif_pos h1, if_pos (by omega), List.nil_append, Nat.mod_eq_of_lt h1]
  · rw [dif_neg h1, if_neg (by omega)]
theorem dig10 : ∀ d : Fin 10, strOfNums [(wrap64 (48 + (d.1 : Int))) % 256] = B [UInt8.ofNat (48 + d.1)] := by decide +kernel
theorem dig (d : Nat) (h : d < 10) : strOfNums [(wrap64 (48 + (d : Int))) % 256] = B [UInt8.ofNat (48 + d)] := dig10 ⟨d, h⟩
def fin (b : Bool) (s : ByteArray) : ByteArray := if b = true then (⟨#[45]⟩ : ByteArray) ++ s else s
theorem zero_l0 (b : Bool) (k : Nat) (l : List UInt8) (hl : l.length ≤ 100) : spec_FormatInt.l0 (k + 1) 0 (B l) b = some (fin b (B l)) := by
  rw [spec_FormatInt.l0, if_pos rfl]
  unfold fin
  by_cases h : b = true
  · rw [if_pos h, if_pos h, if_pos (by rw [B_size]; omega)]
  · rw [if_neg h, if_neg h]
theorem tm (u : Nat) : Int.tmod (u : Int) 10 = ((u % 10 : Nat) : Int) := by rw [Int.tmod_eq_emod_of_nonneg (by omega)]; omega
theorem td (u : Nat) : Int.tdiv (u : Int) 10 = ((u / 10 : Nat) : Int) := by rw [Int.tdiv_eq_ediv_of_nonneg (by omega)]; omega
theorem pos_l0 (b : Bool) : ∀ (k u : Nat) (l : List UInt8), u < 10 ^ k → u ≤ 9223372036854775808 → l.length + k ≤ 100 → spec_FormatInt.l0 (k + 1) (u : Int) (B l) b = some (fin b (B (D u ++ l)))
  | 0, u, l, h, _, hl => by
    have : u = 0 := by simpa using h
    subst this
    exact zero_l0 b 0 l (by omega)
  | k + 1, u, l, h, hu, hl => by
    by_cases h0 : u = 0
    · subst h0
      exact zero_l0 b (k + 1) l (by omega)
    · have hk : u / 10 < 10 ^ k := by rw [Nat.pow_succ] at h; omega
      have ih := pos_l0 b k (u / 10) (UInt8.ofNat (48 + u % 10) :: l) hk (by omega) (by rw [List.length_cons]; omega)
      rw [spec_FormatInt.l0, if_neg (by omega), tm, td, if_neg (by omega), Option.bind_some, dig _ (by omega), if_pos (by rw [B_size, B_size]; simp only [List.length_singleton]; omega), w64 (by omega) (by omega), B_app, List.singleton_append, ih, D_step u h0, List.append_assoc, List.singleton_append]
theorem neg_l0 (b : Bool) : ∀ (k u : Nat) (l : List UInt8), u < 10 ^ k → u ≤ 9223372036854775808 → l.length + k ≤ 100 → spec_FormatInt.l0 (k + 1) (-(u : Int)) (B l) b = some (fin b (B (D u ++ l)))
  | 0, u, l, h, _, hl => by
    have : u = 0 := by simpa using h
    subst this
    exact zero_l0 b 0 l (by omega)
  | k + 1, u, l, h, hu, hl => by
    by_cases h0 : u = 0
    · subst h0
      exact zero_l0 b (k + 1) l (by omega)
    · have hk : u / 10 < 10 ^ k := by rw [Nat.pow_succ] at h; omega
      have ih := neg_l0 b k (u / 10) (UInt8.ofNat (48 + u % 10) :: l) hk (by omega) (by rw [List.length_cons]; omega)
      rw [spec_FormatInt.l0, if_neg (by omega), Int.neg_tmod, Int.neg_tdiv, tm, td]
      by_cases hd : -((u % 10 : Nat) : Int) < 0
      · rw [if_pos hd, Option.bind_some, Int.neg_neg, w64 (x := ((u % 10 : Nat) : Int)) (by omega) (by omega), dig _ (by omega), if_pos (by rw [B_size, B_size]; simp only [List.length_singleton]; omega), w64 (by omega) (by omega), B_app, List.singleton_append, ih, D_step u h0, List.append_assoc, List.singleton_append]
      · have e : -((u % 10 : Nat) : Int) = ((u % 10 : Nat) : Int) := by omega
        rw [if_neg hd, Option.bind_some, e, dig _ (by omega), if_pos (by rw [B_size, B_size]; simp only [List.length_singleton]; omega), w64 (by omega) (by omega), B_app, List.singleton_append, ih, D_step u h0, List.append_assoc, List.singleton_append]
theorem ten_k (k : Nat) (h : 20 ≤ k) {u : Nat} (hu : u ≤ 9223372036854775808) : u < 10 ^ k := by
  have h1 : (10 : Nat) ^ 20 ≤ 10 ^ k := Nat.pow_le_pow_right (by decide) h
  have h2 : (10 : Nat) ^ 20 = 100000000000000000000 := rfl
  omega
theorem fmt_int (k : Nat) (hk : 20 ≤ k) (hk2 : k ≤ 100) (a : Int) (h1 : -9223372036854775808 ≤ a) (h2 : a ≤ 9223372036854775807) : spec_FormatInt.f (k + 1) a = some ⟨(Lib.itoa a).toArray⟩ := by
  unfold spec_FormatInt.f
  have hnil : (⟨#[]⟩ : ByteArray) = B [] := rfl
  by_cases h0 : a = 0
  · subst h0; rw [if_pos rfl]; decide +kernel
  · rw [if_neg h0, hnil]
    by_cases hn : a < 0
    · obtain ⟨u, rfl⟩ : ∃ u : Nat, a = -(u : Int) := ⟨a.natAbs, by omega⟩
      rw [neg_l0 _ k u [] (ten_k k hk (by omega)) (by omega) (by rw [List.length_nil]; omega), decide_eq_true hn, List.append_nil]
      unfold fin Lib.itoa D
      rw [if_pos rfl, if_pos hn, if_neg (by omega), Int.natAbs_neg, Int.natAbs_natCast]
      exact congrArg some (B_app [45] (Lib.decDigits u))
    · obtain ⟨u, rfl⟩ : ∃ u : Nat, a = (u : Int) := ⟨a.toNat, by omega⟩
      rw [pos_l0 _ k u [] (ten_k k hk (by omega)) (by omega) (by rw [List.length_nil]; omega), decide_eq_false hn, List.append_nil]
      unfold fin Lib.itoa D
      rw [if_neg (by decide), if_neg hn, if_neg (by omega), Int.toNat_natCast]
      rfl

/-! atoi -/
def p10 : Nat → Nat
  | 0 => 1
  | k + 1 => 10 * p10 k
theorem p10_pos : ∀ k, 1 ≤ p10 k
  | 0 => Nat.le_refl _
  | k + 1 => by have := p10_pos k; show 1 ≤ 10 * p10 k; omega
theorem p10_le {a b : Nat} (h : a ≤ b) : p10 a ≤ p10 b := by
  induction h with
  | refl => exact Nat.le_refl _
  | step _ ih => exact Nat.le_trans ih (by show _ ≤ 10 * _; omega)
/-- The digits' value and their number; what is no digit is passed over. -/
def vc : List Int → Nat → Nat → Nat × Nat
  | [], n, c => (n, c)
  | b :: r, n, c => if 48 ≤ b ∧ b ≤ 57 then vc r (n * 10 + (b - 48).toNat) (c + 1) else vc r n c
theorem vc_snoc (l : List Int) (b : Int) (n c : Nat) (h : 48 ≤ b ∧ b ≤ 57) : vc (b :: l) n c = vc l (n * 10 + (b - 48).toNat) (c + 1) := by rw [vc, if_pos h]
theorem vc_skip (l : List Int) (b : Int) (n c : Nat) (h : ¬ (48 ≤ b ∧ b ≤ 57)) : vc (b :: l) n c = vc l n c := by rw [vc, if_neg h]
theorem vc_app : ∀ (a b : List Int) (n c : Nat), vc (a ++ b) n c = vc b (vc a n c).1 (vc a n c).2
  | [], _, _, _ => rfl
  | x :: a, b, n, c => by
    rw [List.cons_append]
    by_cases h : 48 ≤ x ∧ x ≤ 57
    · rw [vc_snoc _ _ _ _ h, vc_snoc _ _ _ _ h]; exact vc_app a b _ _
    · rw [vc_skip _ _ _ _ h, vc_skip _ _ _ _ h]; exact vc_app a b _ _
theorem vc_lt : ∀ (a : List Int) (n c : Nat), n < p10 c → (vc a n c).1 < p10 (vc a n c).2
  | [], _, _, h => h
  | x :: a, n, c, h => by
    unfold vc
    by_cases hx : 48 ≤ x ∧ x ≤ 57
    · rw [if_pos hx]; refine vc_lt a _ _ ?_; show _ < 10 * p10 c; omega
    · rw [if_neg hx]; exact vc_lt a n c h
theorem vc_cnt : ∀ (a : List Int) (n c : Nat), (vc a n c).2 ≤ c + a.length
  | [], _, _ => Nat.le_refl _
  | x :: a, n, c => by
    unfold vc
    by_cases hx : 48 ≤ x ∧ x ≤ 57
    · rw [if_pos hx]; have := vc_cnt a (n * 10 + (x - 48).toNat) (c + 1); rw [List.length_cons]; omega
    · rw [if_neg hx]; have := vc_cnt a n c; rw [List.length_cons]; omega
def ints (l : List UInt8) : List Int := l.map fun b => (b.toNat : Int)
theorem dg8 (d : Nat) (h : d < 10) : (UInt8.ofNat (48 + d)).toNat = 48 + d := by
  rw [UInt8.toNat_ofNat']; omega
theorem dd_small {u : Nat} (h : u < 10) : Lib.decDigits u = [UInt8.ofNat (48 + u)] := by rw [Lib.decDigits, dif_pos h]
theorem dd_big {u : Nat} (h : ¬ u < 10) : Lib.decDigits u = Lib.decDigits (u / 10) ++ [UInt8.ofNat (48 + u % 10)] := by rw [Lib.decDigits, dif_neg h]
theorem vc_one (n c d : Nat) (h : d < 10) : vc (ints [UInt8.ofNat (48 + d)]) n c = (n * 10 + d, c + 1) := by
  have e := dg8 d h
  show vc [((UInt8.ofNat (48 + d)).toNat : Int)] n c = _
  rw [e]; unfold vc
  rw [if_pos (by omega)]; unfold vc
  congr 1; omega
theorem vc_dd (u : Nat) : vc (ints (Lib.decDigits u)) 0 0 = (u, (Lib.decDigits u).length) := by
  induction u using Nat.strongRecOn with
  | _ u ih =>
    by_cases h : u < 10
    · rw [dd_small h, vc_one _ _ _ h]; simp
    · rw [dd_big h]
      have e : ints (Lib.decDigits (u / 10) ++ [UInt8.ofNat (48 + u % 10)]) = ints (Lib.decDigits (u / 10)) ++ ints [UInt8.ofNat (48 + u % 10)] := List.map_append
      rw [e, vc_app, ih (u / 10) (by omega), vc_one _ _ _ (by omega), List.length_append]
      congr 1
      show u / 10 * 10 + u % 10 = u
      omega
theorem dd_len {k : Nat} : ∀ {u : Nat}, u < p10 (k + 1) → (Lib.decDigits u).length ≤ k + 1 := by
  induction k with
  | zero => intro u h; have h : u < 10 := h; rw [dd_small h, List.length_singleton]; exact Nat.le_refl _
  | succ k ih =>
    intro u h
    by_cases hs : u < 10
    · rw [dd_small hs]; simp
    · have h : u < 10 * p10 (k + 1) := h
      rw [dd_big hs, List.length_append, List.length_singleton]
      have := ih (u := u / 10) (by omega)
      omega
theorem dd_all (u : Nat) : ∀ b ∈ Lib.decDigits u, 48 ≤ b.toNat ∧ b.toNat ≤ 57 := by
  induction u using Nat.strongRecOn with
  | _ u ih =>
    intro b hb
    by_cases h : u < 10
    · rw [dd_small h, List.mem_singleton] at hb; subst hb; rw [dg8 u h]; omega
    · rw [dd_big h, List.mem_append] at hb
      rcases hb with hb | hb
      · exact ih (u / 10) (by omega) b hb
      · rw [List.mem_singleton] at hb; subst hb; rw [dg8 _ (by omega)]; omega
theorem dd_cons (u : Nat) : ∃ c r, Lib.decDigits u = c :: r ∧ 48 ≤ c.toNat ∧ c.toNat ≤ 57 := by
  cases e : Lib.decDigits u with
  | nil =>
    exfalso
    by_cases h : u < 10
    · rw [dd_small h] at e; simp at e
    · rw [dd_big h] at e; simp at e
  | cons c r => exact ⟨c, r, rfl, dd_all u c (by rw [e]; exact List.mem_cons_self)⟩
theorem decFrom_app : ∀ (l : List UInt8) (acc n : Nat) (b : UInt8) (d : Nat), Lib.decFrom acc l = some n → Lib.digitVal b = some d → Lib.decFrom acc (l ++ [b]) = some (n * 10 + d)
  | [], acc, n, b, d, h, hb => by
    have h : acc = n := Option.some.inj h
    subst h
    show (match Lib.digitVal b with | some d => Lib.decFrom (acc * 10 + d) [] | none => none) = _
    rw [hb]; rfl
  | x :: l, acc, n, b, d, h, hb => by
    have h : (match Lib.digitVal x with | some d => Lib.decFrom (acc * 10 + d) l | none => none) = some n := h
    show (match Lib.digitVal x with | some d => Lib.decFrom (acc * 10 + d) (l ++ [b]) | none => none) = _
    cases hx : Lib.digitVal x with
    | none => rw [hx] at h; simp at h
    | some y => rw [hx] at h; exact decFrom_app l _ n b d h hb
theorem dval (d : Nat) (h : d < 10) : Lib.digitVal (UInt8.ofNat (48 + d)) = some d := by
  unfold Lib.digitVal
  rw [dg8 d h, if_pos (by omega)]
  congr 1; omega
theorem decFrom_dd (u : Nat) : Lib.decFrom 0 (Lib.decDigits u) = some u := by
  induction u using Nat.strongRecOn with
  | _ u ih =>
    by_cases h : u < 10
    · rw [dd_small h]; exact (decFrom_app [] 0 0 _ u rfl (dval u h)).trans (by simp)
    · rw [dd_big h, decFrom_app _ 0 (u / 10) _ (u % 10) (ih (u / 10) (by omega)) (dval _ (by omega))]
      congr 1; omega
theorem decNat_dd (u : Nat) : Lib.decNat (Lib.decDigits u) = some u := by
  obtain ⟨c, r, e, -, -⟩ := dd_cons u
  unfold Lib.decNat
  rw [if_neg (by rw [e]; simp)]
  exact decFrom_dd u
/-- Reading a numeral back. -/
theorem atoi_itoa (v : Int) : Lib.atoi (Lib.itoa v) = some v := by
  unfold Lib.itoa
  by_cases h : v < 0
  · rw [if_pos h]
    show (Lib.decNat (Lib.decDigits v.natAbs)).map (fun (m : Nat) => -(m : Int)) = _
    rw [decNat_dd]
    show some (-(v.natAbs : Int)) = some v
    congr 1; omega
  · rw [if_neg h]
    obtain ⟨c, r, e, h1, h2⟩ := dd_cons v.toNat
    have hd := decNat_dd v.toNat
    rw [e] at hd ⊢
    have n45 : ¬ ((c == 45) = true) := by intro q; have q := beq_iff_eq.mp q; subst q; exact absurd h1 (by decide)
    have n43 : ¬ ((c == 43) = true) := by intro q; have q := beq_iff_eq.mp q; subst q; exact absurd h1 (by decide)
    show (if (c == 45) = true then (Lib.decNat r).map (fun (m : Nat) => -(m : Int)) else if (c == 43) = true then (Lib.decNat r).map (fun (m : Nat) => (m : Int)) else (Lib.decNat (c :: r)).map (fun (m : Nat) => (m : Int))) = _
    rw [if_neg n45, if_neg n43, hd]
    show some ((v.toNat : Nat) : Int) = some v
    congr 1; omega

theorem pInt_itoa (w : Int) : Num.pInt ⟨(Lib.itoa w).toArray⟩ = if -999999999 ≤ w ∧ w ≤ 999999999 then (w, true) else (0, false) := by
  have ha : Lib.atoi (⟨(Lib.itoa w).toArray⟩ : ByteArray).data.toList = some w := atoi_itoa w
  unfold Num.pInt
  rw [ha]
  have e9 : p10 (8 + 1) = 1000000000 := rfl
  by_cases h : -999999999 ≤ w ∧ w ≤ 999999999
  · have hl : (⟨(Lib.itoa w).toArray⟩ : ByteArray).size ≤ 10 := by
      show (Lib.itoa w).toArray.size ≤ 10
      rw [List.size_toArray]
      unfold Lib.itoa
      split
      · have := dd_len (k := 8) (u := w.natAbs) (by omega)
        rw [List.length_cons]; omega
      · have := dd_len (k := 8) (u := w.toNat) (by omega)
        omega
    rw [if_neg (by omega), if_pos h]
    show (if _ then _ else _) = _
    rw [if_pos ⟨rfl, h⟩]
  · rw [if_neg h]
    by_cases hz : 10 < (⟨(Lib.itoa w).toArray⟩ : ByteArray).size
    · rw [if_pos hz]
    · rw [if_neg hz]
      show (if _ then _ else _) = _
      rw [if_neg (fun hh => h hh.2)]
theorem itoa_size (w : Int) (h0 : -9223372036854775808 ≤ w) (h1 : w ≤ 9223372036854775807) : (⟨(Lib.itoa w).toArray⟩ : ByteArray).size ≤ 140737488355328 := by
  show (Lib.itoa w).toArray.size ≤ _
  rw [List.size_toArray]
  have e : p10 (19 + 1) = 100000000000000000000 := rfl
  unfold Lib.itoa
  split
  · have := dd_len (k := 19) (u := w.natAbs) (by omega)
    rw [List.length_cons]; omega
  · have := dd_len (k := 19) (u := w.toNat) (by omega)
    omega
theorem str_ne {l : List Int} : (strOfNums l).toList = ([] : List UInt8) ↔ l = [] := by
  rw [toList_nil_iff, str_size]
  exact List.length_eq_zero_iff
theorem j1_true (x4 : ByteArray) (hx : x4.size ≤ 100) (w : Int) (h0 : -9223372036854775808 ≤ w) (h1 : w ≤ 9223372036854775807) (k : Nat) (hk : 300 ≤ k) : laws_FnIntegerEncodings.j1 (k + 1) x4 w false = some true := by
  have hf : spec_FormatInt.f k w = some ⟨(Lib.itoa w).toArray⟩ := at_rounds (g := fun k => spec_FormatInt.f k w) (fun k => spec_FormatInt.mono w k) (show 31 ≤ k by omega) (fmt_int 30 (by decide) (by decide) w h0 h1)
  rw [laws_FnIntegerEncodings.j1, if_neg (by decide), impl_hex x4 (by omega) k (by omega), Option.bind_some, hex_round x4 (by omega) k (by omega), Option.bind_some]
  unfold impl_FormatInt.f
  rw [if_pos ⟨h0, h1⟩, Option.bind_some]
  unfold impl_ParseInt.f
  rw [if_pos (itoa_size w h0 h1), Option.bind_some, pInt_itoa, if_pos rfl, if_pos rfl, if_pos (by rw [str_size, hx_length, bytesOf_length, w64 (by omega) (by omega)]; omega), hf, Option.bind_some, if_pos rfl]
  by_cases h : -999999999 ≤ w ∧ w ≤ 999999999
  · rw [if_pos h, if_pos rfl, if_pos rfl, if_pos (by omega), decide_eq_true (show w < 1000000000 by omega)]; rfl
  · rw [if_neg h, if_neg (by decide)]
    by_cases h2 : w > (-1000000000)
    · rw [if_pos h2, decide_eq_false (show ¬ w < 1000000000 by omega)]; rfl
    · rw [if_neg h2]; rfl
theorem j0_true (l : List Int) (hl : l.length ≤ 1048576) (x4 : ByteArray) (hx : x4.size ≤ 100) (k : Nat) (hk : 5000 ≤ k) : laws_FnIntegerEncodings.j0 (k + 1) l x4 false = some true := by
  obtain ⟨g, e1⟩ := l1New_f l (k := k) (by omega)
  have hc : Cur l 0 := ⟨by omega, by omega⟩
  obtain ⟨w, i2, g2, e2, w0, w1, hc2⟩ := l1Num_f l hl 0 g hc
  obtain ⟨d, i3, g3, e3, d0, d1, hc3⟩ := l1Below_f l hl i2 g2 hc2 10 (by omega) (by omega)
  have hd : spec_DrawEncodeFixed.f k l = some (w, d - 1) := by
    unfold spec_DrawEncodeFixed.f
    rw [e1]
    simp only [Option.bind_some]
    rw [e2]
    simp only [Option.bind_some]
    rw [e3]
    show some (w, wrap64 (d - 1)) = _
    rw [w64 (by omega) (by omega)]
  obtain ⟨wd, hwd⟩ : ∃ wd, wd = d - 1 := ⟨_, rfl⟩
  rw [← hwd] at hd
  have hj : laws_FnIntegerEncodings.j1 k x4 w false = some true := by
    obtain ⟨k, rfl⟩ : ∃ m, k = m + 1 := ⟨k - 1, by omega⟩
    exact j1_true x4 hx w w0 w1 k (by omega)
  have hlen : (fixenc w wd).length ≤ 7 := by rw [fixenc_len]; split <;> omega
  rw [laws_FnIntegerEncodings.j0, if_neg (by decide), hd, Option.bind_some]
  show ((impl_EncodeFixed.f k w wd).bind _) = _
  rw [impl_fixenc w wd w0 w1 k (by omega), Option.bind_some, if_pos (by rw [str_size]; omega), impl_fixdec _ _ k (by omega), Option.bind_some]
  show (if _ then ((spec_EncodeFixed.f k w wd).bind _) else (if _ then (if _ then (if _ = wd then ((spec_EncodeFixed.f k w wd).bind _) else _) else _) else _)) = _
  rw [spec_fixenc w wd w0 w1 k (by omega)]
  by_cases hn : fixenc w wd = []
  · rw [if_pos (str_ne.mpr hn), Option.bind_some]
    simp only [bne_self_eq_false]
    exact hj
  · obtain ⟨r1, r2⟩ := fix_round w wd x4 hn
    rw [if_neg (fun hh => hn (str_ne.mp hh)), r1, if_pos rfl, if_pos rfl, if_pos (by rw [str_size]; exact r2), Option.bind_some]
    simp only [bne_self_eq_false]
    exact hj
theorem FnIntegerEncodings : laws_FnIntegerEncodings.Pure := by
  intro l _ _ hw
  refine ⟨5001, ?_⟩
  unfold laws_FnIntegerEncodings.f laws_big.f
  rw [Option.bind_some]
  by_cases hb : (l.length : Int) > 1048576
  · rw [if_pos (decide_eq_true hb)]
  · rw [if_neg (by simpa using hb)]
    have hl : l.length ≤ 1048576 := by omega
    have hc : Cur l 0 := ⟨by omega, by omega⟩
    obtain ⟨g, e1⟩ := l1New_f l (k := 5001) (by omega)
    obtain ⟨n, i2, g2, e2, n0, n1, hc2⟩ := l1Num_f l hl 0 g hc
    obtain ⟨t, i3, g3, e3, ht, hc3⟩ := l1Text_f l hl 0 g hc 40 (by omega) (by omega) (k := 5001) (by omega)
    have hn : spec_DrawEncodeVarint.f 5001 l = some n := by
      unfold spec_DrawEncodeVarint.f
      rw [e1]
      simp only [Option.bind_some]
      rw [e2]
      rfl
    have hh : spec_DrawEncodeHex.f 5001 l = some t := by
      unfold spec_DrawEncodeHex.f
      rw [e1]
      simp only [Option.bind_some]
      rw [e3]
      rfl
    have hj : laws_FnIntegerEncodings.j0 5001 l t false = some true := j0_true l hl t ht 5000 (by omega)
    have hlen := varenc_len n
    rw [hn, Option.bind_some, hh, Option.bind_some, impl_varenc n 5001 (by omega), Option.bind_some, if_pos (by rw [str_size]; omega)]
    by_cases hr : 0 ≤ n ∧ n ≤ 562949953421311
    · have hne : ¬ ((strOfNums (varenc n)).toList = ([] : List UInt8)) := fun q => (varenc_nil n).mp (str_ne.mp q) hr
      rw [varint_round n hr t 5001 (by omega), Option.bind_some, if_pos hr.1, if_neg (by rw [bne_iff_ne.mpr hne, decide_eq_true hr.2]; decide), if_neg hne, if_pos rfl]
      show laws_FnIntegerEncodings.j0 5001 l t (((varenc n).length : Int) != ((strOfNums (varenc n)).size : Int)) = some true
      rw [str_size, bne_self_eq_false]
      exact hj
    · have he : varenc n = [] := (varenc_nil n).mpr hr
      have hnil : (strOfNums (varenc n)).toList = ([] : List UInt8) := str_ne.mpr he
      obtain ⟨q, hq⟩ := vardec_tot (strOfNums (varenc n) ++ t) 7 0 5001 (by omega) (by omega)
      have hq2 : impl_DecodeVarint.f 5001 (strOfNums (varenc n) ++ t) = some q := by
        rw [List.take_zero] at hq
        exact hq
      have hb0 : ((strOfNums (varenc n)).toList != ([] : List UInt8)) = false := by rw [hnil]; rfl
      rw [hq2, Option.bind_some]
      by_cases h0 : n ≥ 0
      · rw [if_pos h0, hb0, decide_eq_false (show ¬ n ≤ 562949953421311 by omega), if_neg (by decide), if_pos hnil]
        exact hj
      · rw [if_neg h0, hb0, if_neg (by decide), if_pos hnil]
        exact hj

end Go.Proofs.YtkjpbhncgjhfeaaDoor.Pure
