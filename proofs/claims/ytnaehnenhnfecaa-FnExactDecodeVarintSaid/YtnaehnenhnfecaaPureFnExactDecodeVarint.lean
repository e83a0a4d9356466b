/- For every string, DecodeVarint of the program and of the reference hand back the same number and the same length. -/
import Derived.Test.YtnaehnenhnfecaaPFnExactDecodeVarintx2
import Derived.Test.YtnaehnenhnfecaaBase
import Derived.Lib.EndianBits
namespace Go.Proofs.Ytnaehnenhnfecaa.Pure
open Go.RowKit Go.Proofs.Ytnaehnenhnfecaa.PFnExactDecodeVarint Go.Proofs.YtnaehnenhnfecaaW.PrintWords Go.Proofs.YtnaehnenhnfecaaW.PrintLast Go.Proofs.YtnaehnenhnfecaaW.PrintMore Go.Proofs.Ytnaehnenhnfecaa.Base
set_option linter.unusedVariables false
set_option linter.unusedSimpArgs false

/-! l1in -/
theorem l1In_f (a b c : Int) : spec_l1In.f a b c = some (decide (b ≤ a ∧ a ≤ c)) := by
  unfold spec_l1In.f; by_cases h : a ≥ b
  · rw [if_pos h]; simp [h]
  · rw [if_neg h]; simp; omega

/-! within -/
theorem within_f (a b c : Int) : impl_within.f a b c = some (decide (b ≤ a ∧ a ≤ c)) := by
  unfold impl_within.f; by_cases h : b ≤ a
  · rw [if_pos h]; simp [h]
  · rw [if_neg h]; simp; omega

/-! inrange -/

/-! varenc -/
/-- The bytes of a varint: seven bits each, the lowest first, 128 on all but the last. -/
def vl : Nat → Nat → List Int
  | 0, x => [(x : Int)]
  | n + 1, x => if x ≥ 128 then ((128 + x % 128 : Nat) : Int) :: vl n (x / 128) else [(x : Int)]

/-- 128 to the n + 1. -/
def c128 : Nat → Nat
  | 0 => 128
  | n + 1 => c128 n * 128
theorem c128_le (n : Nat) (h : n < 8) : c128 n ≤ 72057594037927936 := by
  match n, h with
  | 0, _ | 1, _ | 2, _ | 3, _ | 4, _ | 5, _ | 6, _ | 7, _ => decide
theorem c128_six : c128 6 = 562949953421312 := by decide

theorem spec_varenc_l0 (n : Nat) : ∀ (x k : Nat) (l : List Int), x < c128 n → n < 8 → n < k → l.length ≤ 8 - n →
    spec_EncodeVarint.l0 k (x : Int) l = some (strOfNums (l ++ vl n x)) := by
  induction n with
  | zero =>
    intro x k l hx hn hk hl
    obtain ⟨k, rfl⟩ : ∃ m, k = m + 1 := ⟨k - 1, by omega⟩
    have hx : x < 128 := hx
    simp only [spec_EncodeVarint.l0, vl]
    rw [if_neg (by omega), if_pos (by omega), show ((x : Int)) % 256 = (x : Int) from by omega]
  | succ n ih =>
    intro x k l hx hn hk hl
    obtain ⟨k, rfl⟩ : ∃ m, k = m + 1 := ⟨k - 1, by omega⟩
    simp only [spec_EncodeVarint.l0, vl]
    have hx9 : x < 72057594037927936 := Nat.lt_of_lt_of_le hx (c128_le _ hn)
    have hxd : x / 128 < c128 n := Nat.div_lt_of_lt_mul (by rw [c128, Nat.mul_comm] at hx; exact hx)
    clear hx
    by_cases h : x ≥ 128
    · have e1 : Int.tdiv (x : Int) 128 = ((x / 128 : Nat) : Int) := by rw [Int.tdiv_eq_ediv_of_nonneg (by omega)]; omega
      have e2 : Int.tmod (x : Int) 128 = ((x % 128 : Nat) : Int) := by rw [Int.tmod_eq_emod_of_nonneg (by omega)]; omega
      have e3 : wrap64 ((x / 128 : Nat) : Int) = ((x / 128 : Nat) : Int) := w64 (by omega) (by omega)
      have e4 : (wrap64 (128 + ((x % 128 : Nat) : Int))) % 256 = ((128 + x % 128 : Nat) : Int) := by rw [w64 (by omega) (by omega)]; omega
      rw [if_pos (show (x : Int) ≥ 128 by clear e1 e2 e3 e4 hx9 hxd; omega), if_pos (by clear e1 e2 e3 e4 hx9 hxd; omega), if_pos h, e1, e2, e3, e4, ih (x / 128) k _ hxd (by omega) (by omega) (by simp; omega)]
      simp
    · rw [if_neg (by omega), if_pos (by omega), if_neg h, show ((x : Int)) % 256 = (x : Int) from by omega]

theorem impl_varenc_l0 (n : Nat) : ∀ (x k : Nat) (l : List Int), x < c128 n → n < 8 → n < k → l.length ≤ 8 - n →
    impl_EncodeVarint.l0 k (x : Int) l = some (strOfNums (l ++ vl n x)) := by
  induction n with
  | zero =>
    intro x k l hx hn hk hl
    obtain ⟨k, rfl⟩ : ∃ m, k = m + 1 := ⟨k - 1, by omega⟩
    have hx : x < 128 := hx
    simp only [impl_EncodeVarint.l0, vl]
    rw [if_neg (by omega), if_pos (by omega), show ((x : Int)) % 256 = (x : Int) from by omega]
  | succ n ih =>
    intro x k l hx hn hk hl
    obtain ⟨k, rfl⟩ : ∃ m, k = m + 1 := ⟨k - 1, by omega⟩
    simp only [impl_EncodeVarint.l0, vl]
    have hx9 : x < 72057594037927936 := Nat.lt_of_lt_of_le hx (c128_le _ hn)
    have hxd : x / 128 < c128 n := Nat.div_lt_of_lt_mul (by rw [c128, Nat.mul_comm] at hx; exact hx)
    clear hx
    by_cases h : x ≥ 128
    · have e1 : Int.tdiv (x : Int) 128 = ((x / 128 : Nat) : Int) := by rw [Int.tdiv_eq_ediv_of_nonneg (by omega)]; omega
      have e2 : Int.tmod (x : Int) 128 = ((x % 128 : Nat) : Int) := by rw [Int.tmod_eq_emod_of_nonneg (by omega)]; omega
      have e3 : wrap64 ((x / 128 : Nat) : Int) = ((x / 128 : Nat) : Int) := w64 (by omega) (by omega)
      have e4 : (wrap64 (((x % 128 : Nat) : Int) + 128)) % 256 = ((128 + x % 128 : Nat) : Int) := by rw [w64 (by omega) (by omega)]; omega
      rw [if_pos (show (x : Int) ≥ 128 by clear e1 e2 e3 e4 hx9 hxd; omega), if_pos (by clear e1 e2 e3 e4 hx9 hxd; omega), if_pos h, e1, e2, e3, e4, ih (x / 128) k _ hxd (by omega) (by omega) (by simp; omega)]
      simp
    · rw [if_neg (by omega), if_pos (by omega), if_neg h, show ((x : Int)) % 256 = (x : Int) from by omega]

/-- What both EncodeVarint answer. -/
def varenc (x : Int) : List Int := if 0 ≤ x ∧ x ≤ 562949953421311 then vl 6 x.toNat else []

theorem spec_varenc (x : Int) (k : Nat) (hk : 6 < k) : spec_EncodeVarint.f k x = some (strOfNums (varenc x)) := by
  unfold spec_EncodeVarint.f varenc
  rw [l1In_f]; simp only [Option.bind_some]
  by_cases h : 0 ≤ x ∧ x ≤ 562949953421311
  · obtain ⟨m, rfl⟩ : ∃ m : Nat, x = m := ⟨x.toNat, by omega⟩
    rw [if_pos (by simpa using h), if_pos h, spec_varenc_l0 6 m k [] (by rw [c128_six]; omega) (by omega) hk (by simp)]
    simp
  · rw [if_neg (by simpa using h), if_neg h]; rfl

theorem impl_varenc (x : Int) (k : Nat) (hk : 6 < k) : impl_EncodeVarint.f k x = some (strOfNums (varenc x)) := by
  unfold impl_EncodeVarint.f varenc
  rw [within_f]; simp only [Option.bind_some]
  by_cases h : 0 ≤ x ∧ x ≤ 562949953421311
  · obtain ⟨m, rfl⟩ : ∃ m : Nat, x = m := ⟨x.toNat, by omega⟩
    rw [if_pos (by simpa using h), if_pos h, impl_varenc_l0 6 m k [] (by rw [c128_six]; omega) (by omega) hk (by simp)]
    simp
  · rw [if_neg (by simpa using h), if_neg h]; rfl

/-! sounds -/
/-- Facts on single bytes, tried at each of the 256. -/
theorem byte_cases {P : Int → Prop} (h : ∀ n : Fin 256, P ((n.val : Nat) : Int)) {x : Int} (h0 : 0 ≤ x) (h1 : x ≤ 255) : P x := by
  obtain ⟨m, rfl⟩ := Int.eq_ofNat_of_zero_le h0
  exact h ⟨m, by omega⟩

/-! vardec -/
/-- A number out of bytes, seven bits of each, the lowest first. -/
def num7 : List Int → Int
  | [] => 0
  | b :: l => b % 128 + 128 * num7 l
/-- 128 to the n. -/
def c7 : Nat → Nat
  | 0 => 1
  | n + 1 => c7 n * 128
theorem c7_le (n : Nat) (h : n ≤ 7) : c7 n ≤ 562949953421312 := by
  match n, h with
  | 0, _ | 1, _ | 2, _ | 3, _ | 4, _ | 5, _ | 6, _ | 7, _ => decide
theorem c7_le6 (n : Nat) (h : n ≤ 6) : c7 n ≤ 4398046511104 := by
  match n, h with
  | 0, _ | 1, _ | 2, _ | 3, _ | 4, _ | 5, _ | 6, _ => decide
theorem num7_range (l : List Int) : 0 ≤ num7 l ∧ num7 l < (c7 l.length : Int) := by
  induction l with
  | nil => exact ⟨by decide, by decide⟩
  | cons b l ih =>
    obtain ⟨h0, h1⟩ := ih
    simp only [num7, List.length_cons, c7]
    omega
theorem num7_snoc (l : List Int) (b : Int) : num7 (l ++ [b]) = num7 l + (b % 128) * (c7 l.length : Int) := by
  induction l with
  | nil => simp [num7, c7]
  | cons a l ih =>
    simp only [List.cons_append, num7, List.length_cons, c7, ih, Int.natCast_mul]
    rw [Int.mul_add, Int.add_assoc, ← Int.mul_assoc, Int.mul_comm 128 (b % 128), Int.mul_assoc, Int.mul_comm 128 ((c7 l.length : Nat) : Int)]
    rfl
theorem c7_six : c7 7 = 562949953421312 := by decide
theorem num7_lt7 (l : List Int) (h : l.length ≤ 7) : 0 ≤ num7 l ∧ num7 l < 562949953421312 := by
  have h1 := num7_range l
  have h2 := c7_le _ h
  omega
theorem num7_lt6 (l : List Int) (h : l.length ≤ 6) : 0 ≤ num7 l ∧ num7 l < 4398046511104 := by
  have h1 := num7_range l
  have h2 := c7_le6 _ h
  omega

/-- All bytes but the last bear 128. -/
def shape : List Int → Prop
  | [] => False
  | [b] => b < 128
  | b :: c :: l => 128 ≤ b ∧ shape (c :: l)
theorem shape_cons {b : Int} {l : List Int} (hb : 128 ≤ b) (h : shape l) : shape (b :: l) := by
  cases l with
  | nil => exact h.elim
  | cons c l => exact ⟨hb, h⟩
theorem vl_shape (n : Nat) : ∀ x, x < c128 n → shape (vl n x) := by
  induction n with
  | zero => intro x h; have h : x < 128 := h; show (x : Int) < 128; omega
  | succ n ih =>
    intro x h
    simp only [vl]
    have hxd : x / 128 < c128 n := Nat.div_lt_of_lt_mul (by rw [c128, Nat.mul_comm] at h; exact h)
    by_cases h8 : x ≥ 128
    · rw [if_pos h8]; exact shape_cons (by clear h hxd; omega) (ih _ hxd)
    · rw [if_neg h8]; show (x : Int) < 128; clear h hxd; omega
theorem vl_bytes (n : Nat) : ∀ x, x < c128 n → Bytes (vl n x) := by
  induction n with
  | zero => intro x h; have h : x < 128 := h; exact Bytes.one (by omega) (by omega)
  | succ n ih =>
    intro x h
    simp only [vl]
    have hxd : x / 128 < c128 n := Nat.div_lt_of_lt_mul (by rw [c128, Nat.mul_comm] at h; exact h)
    by_cases h8 : x ≥ 128
    · rw [if_pos h8]; exact Bytes.cons (by clear h hxd; omega) (by clear h hxd; omega) (ih _ hxd)
    · rw [if_neg h8]; exact Bytes.one (by clear h hxd; omega) (by clear h hxd; omega)
theorem shape_get (l : List Int) : shape l → ∀ (i : Nat) (h : i < l.length), (i + 1 < l.length → 128 ≤ l[i]) ∧ (i + 1 = l.length → l[i] < 128) := by
  induction l with
  | nil => intro h; exact h.elim
  | cons b l ih =>
    cases l with
    | nil => intro h i hi; have h : b < 128 := h; cases i with
      | zero => exact ⟨fun h1 => by simp at h1, fun _ => h⟩
      | succ i => simp at hi
    | cons c l => intro h i hi; obtain ⟨h1, h2⟩ := h; cases i with
      | zero => exact ⟨fun _ => h1, fun h3 => by simp at h3⟩
      | succ i =>
        have := ih h2 i (by simpa using hi)
        exact ⟨fun h3 => this.1 (by simpa using h3), fun h3 => this.2 (by simpa using h3)⟩

/-- The encoding of what the first k bytes bear is these bytes. -/
def same (s : ByteArray) (k : Nat) : Prop := (strOfNums (varenc (num7 ((bytesOf s).take k)))).toList = (s.extract 0 (k : Int).toNat).toList
theorem same_shape {s : ByteArray} {k : Nat} (hk : k ≤ 7) (h : same s k) : shape ((bytesOf s).take k) := by
  unfold same at h
  have h1 : (strOfNums (varenc (num7 ((bytesOf s).take k)))) = s.extract 0 (k : Int).toNat := ba_ext (by rw [← toList_data, ← toList_data]; exact h)
  obtain ⟨n0, n1⟩ := num7_lt7 ((bytesOf s).take k) (by simp; omega)
  have h2 := congrArg bytesOf h1
  unfold varenc at h2
  rw [if_pos ⟨n0, by omega⟩, bytesOf_str (vl_bytes 6 _ (by rw [c128_six]; omega)), bytesOf_extract, Int.toNat_natCast, List.drop_zero] at h2
  rw [← h2]
  exact vl_shape 6 _ (by rw [c128_six]; omega)
theorem same_bytes {s : ByteArray} {k : Nat} (hk : k ≤ 7) (hs : k ≤ s.size) (h : same s k) (i : Nat) (hi : i < k) : (i + 1 < k → 128 ≤ bt s (i : Int)) ∧ (i + 1 = k → bt s (i : Int) < 128) := by
  have h1 := shape_get _ (same_shape hk h) i (by rw [List.length_take, bytesOf_length]; omega)
  rw [List.getElem_take, ← bt_get s i (by omega), List.length_take, bytesOf_length, Nat.min_eq_left hs] at h1
  exact h1

theorem spec_vardec_l1 (s : ByteArray) (K : Nat) (h7 : K ≤ 7) (hs : K ≤ s.size) (j : Nat) : ∀ f, j ≤ K →
    spec_DecodeVarint.l1 (f + j) s (K : Int) (num7 (((bytesOf s).take K).drop j)) ((j : Int) - 1) = spec_DecodeVarint.l1 f s (K : Int) (num7 ((bytesOf s).take K)) (-1) := by
  induction j with
  | zero => intro f _; simp
  | succ j ih =>
    intro f hj
    have e0 : ((j + 1 : Nat) : Int) - 1 = (j : Int) := by omega
    obtain ⟨b0, b1⟩ := bt_range s (j : Int)
    obtain ⟨n0, n1⟩ := num7_lt6 (((bytesOf s).take K).drop (j + 1)) (by simp; omega)
    have hd : ((bytesOf s).take K).drop j = bt s (j : Int) :: ((bytesOf s).take K).drop (j + 1) := by
      rw [List.drop_eq_getElem_cons (by rw [List.length_take, bytesOf_length]; omega), List.getElem_take, ← bt_get s j (by omega)]
    have e1 : wrap64 (num7 (((bytesOf s).take K).drop (j + 1)) * 128) = num7 (((bytesOf s).take K).drop (j + 1)) * 128 := w64 (by omega) (by omega)
    have e2' : Int.tmod (bt s (j : Int)) 128 = bt s (j : Int) % 128 := Int.tmod_eq_emod_of_nonneg b0
    have e2 : wrap64 (bt s (j : Int)) = bt s (j : Int) := w64 (by omega) (by omega)
    have e3 : wrap64 (num7 (((bytesOf s).take K).drop (j + 1)) * 128 + bt s (j : Int) % 128) = num7 (((bytesOf s).take K).drop j) := by
      rw [hd, num7, w64 (by omega) (by omega)]; omega
    have e4 : wrap64 ((j : Int) - 1) = (j : Int) - 1 := w64 (by omega) (by omega)
    rw [show f + (j + 1) = (f + j) + 1 from rfl, e0]
    rw [spec_DecodeVarint.l1]
    rw [if_pos (by omega), if_pos (by omega), if_pos (by omega), e1, e2, e2', e3, e4]
    exact ih f (by omega)

theorem spec_vardec_step (s : ByteArray) (K f : Nat) (h1 : 1 ≤ K) (h7 : K ≤ 7) (hs : K ≤ s.size) (hf : 6 < f) (y : Option (Int × Int)) (hy : ¬ same s K → spec_DecodeVarint.l0 f s ((K + 1 : Nat) : Int) = y) :
    (same s K → spec_DecodeVarint.l0 (f + K + 3) s (K : Int) = some (num7 ((bytesOf s).take K), (K : Int))) ∧ (¬ same s K → spec_DecodeVarint.l0 (f + K + 3) s (K : Int) = y) := by
  have e4 : wrap64 ((K : Int) - 1) = (K : Int) - 1 := w64 (by omega) (by omega)
  have e5 : wrap64 ((K : Int) + 1) = ((K + 1 : Nat) : Int) := nx (by omega)
  have hd : ((bytesOf s).take K).drop K = [] := List.drop_of_length_le (by simp; omega)
  have h := spec_vardec_l1 s K h7 hs K (f + 1) (by omega)
  rw [hd, show num7 [] = 0 from rfl] at h
  have hA : spec_DecodeVarint.l0 (f + K + 3) s (K : Int) = spec_DecodeVarint.l1 (f + 1) s (K : Int) (num7 ((bytesOf s).take K)) (-1) := by
    rw [show f + K + 3 = (f + K + 1) + 1 + 1 from rfl, spec_DecodeVarint.l0, if_pos (by omega), show decide ((K : Int) ≤ (s.size : Int)) = true from decide_eq_true (by omega), spec_DecodeVarint.j1, if_pos rfl, e4]
    rw [show f + K + 1 = f + 1 + K from by omega]
    exact h
  obtain ⟨n0, n1⟩ := num7_lt7 ((bytesOf s).take K) (by simp; omega)
  rw [hA, spec_DecodeVarint.l1, if_neg (by omega), spec_varenc _ f hf, Option.bind_some, if_pos (by omega), if_pos (by omega), e5]
  unfold same at *
  constructor
  · intro hh; rw [if_pos hh]
  · intro hh; rw [if_neg hh]; exact hy hh
theorem spec_vardec_end (s : ByteArray) (K f : Nat) (h : 7 < K ∨ s.size < K) (hf : 2 ≤ f) : spec_DecodeVarint.l0 f s (K : Int) = some (0, 0) := by
  obtain ⟨f, rfl⟩ : ∃ m, f = m + 1 + 1 := ⟨f - 2, by omega⟩
  rw [spec_DecodeVarint.l0]
  by_cases h7 : (K : Int) ≤ 7
  · rw [if_pos h7, show decide ((K : Int) ≤ (s.size : Int)) = false from decide_eq_false (by omega), spec_DecodeVarint.j1, if_neg (by decide)]
  · rw [if_neg h7, spec_DecodeVarint.j1, if_neg (by decide)]
theorem spec_vardec_dead (s : ByteArray) (d : Nat) : ∀ (K f : Nat), K + d = 8 → 1 ≤ K → 8 + 11 * d < f → (∃ j : Nat, j + 1 < K ∧ bt s (j : Int) < 128) → spec_DecodeVarint.l0 f s (K : Int) = some (0, 0) := by
  induction d with
  | zero => intro K f h h1 hf _; exact spec_vardec_end s K f (by omega) (by omega)
  | succ d ih =>
    intro K f h h1 hf hj
    by_cases hK : s.size < K
    · exact spec_vardec_end s K f (Or.inr hK) (by omega)
    · obtain ⟨m, rfl⟩ : ∃ m, f = m + K + 3 := ⟨f - K - 3, by omega⟩
      refine (spec_vardec_step s K m h1 (by omega) (by omega) (by omega) (some (0, 0)) (fun _ => ih (K + 1) m (by omega) (by omega) (by omega) ?_)).2 ?_
      · obtain ⟨j, h2, h3⟩ := hj; exact ⟨j, by omega, h3⟩
      · intro hh
        obtain ⟨j, h2, h3⟩ := hj
        have := (same_bytes (by omega) (by omega) hh j (by omega)).1 h2
        omega

theorem and127 {x : Int} (h0 : 0 ≤ x) (h1 : x ≤ 255) : wrap64 (Go.bits .and .u8 x 127) = x % 128 := by
  refine byte_cases (P := fun x => wrap64 (Go.bits .and .u8 x 127) = x % 128) ?_ h0 h1; decide +kernel
theorem shl7 (i : Nat) (hi : i < 7) {x : Int} (h0 : 0 ≤ x) (h1 : x ≤ 255) : shl .i64 (x % 128) (wrap64 (7 * (i : Int))) = (x % 128) * (c7 i : Int) := by
  match i, hi with
  | 0, _ => refine byte_cases (P := fun x => shl .i64 (x % 128) (wrap64 (7 * ((0 : Nat) : Int))) = (x % 128) * (c7 0 : Int)) ?_ h0 h1; decide +kernel
  | 1, _ => refine byte_cases (P := fun x => shl .i64 (x % 128) (wrap64 (7 * ((1 : Nat) : Int))) = (x % 128) * (c7 1 : Int)) ?_ h0 h1; decide +kernel
  | 2, _ => refine byte_cases (P := fun x => shl .i64 (x % 128) (wrap64 (7 * ((2 : Nat) : Int))) = (x % 128) * (c7 2 : Int)) ?_ h0 h1; decide +kernel
  | 3, _ => refine byte_cases (P := fun x => shl .i64 (x % 128) (wrap64 (7 * ((3 : Nat) : Int))) = (x % 128) * (c7 3 : Int)) ?_ h0 h1; decide +kernel
  | 4, _ => refine byte_cases (P := fun x => shl .i64 (x % 128) (wrap64 (7 * ((4 : Nat) : Int))) = (x % 128) * (c7 4 : Int)) ?_ h0 h1; decide +kernel
  | 5, _ => refine byte_cases (P := fun x => shl .i64 (x % 128) (wrap64 (7 * ((5 : Nat) : Int))) = (x % 128) * (c7 5 : Int)) ?_ h0 h1; decide +kernel
  | 6, _ => refine byte_cases (P := fun x => shl .i64 (x % 128) (wrap64 (7 * ((6 : Nat) : Int))) = (x % 128) * (c7 6 : Int)) ?_ h0 h1; decide +kernel
theorem wraps_i64v (n : Int) (h₀ : 0 ≤ n) (h₁ : n < 2 ^ 63) : IntKind.i64.wrap n = n := by rw [Go.IntKind.wrap_i64]; omega
theorem or7 (i : Nat) (hi : i < 7) (y m : Int) (hy : 0 ≤ y) (hy1 : y < (c7 i : Int)) (hm : 0 ≤ m) (hm1 : m < 128) : Go.bits .or .i64 y (m * (c7 i : Int)) = y + m * (c7 i : Int) := by
  match i, hi with
  | 0, _ => have e : c7 0 = 1 := by decide
            rw [e] at hy1 ⊢; exact Go.bits_join_low .i64 63 (by decide) wraps_i64v 0 _ _ (by omega) (by omega) (by omega) (by omega) (by omega) (by omega)
  | 1, _ => have e : c7 1 = 128 := by decide
            rw [e] at hy1 ⊢; exact Go.bits_join_low .i64 63 (by decide) wraps_i64v 7 _ _ (by omega) (by omega) (by omega) (by omega) (by omega) (by omega)
  | 2, _ => have e : c7 2 = 16384 := by decide
            rw [e] at hy1 ⊢; exact Go.bits_join_low .i64 63 (by decide) wraps_i64v 14 _ _ (by omega) (by omega) (by omega) (by omega) (by omega) (by omega)
  | 3, _ => have e : c7 3 = 2097152 := by decide
            rw [e] at hy1 ⊢; exact Go.bits_join_low .i64 63 (by decide) wraps_i64v 21 _ _ (by omega) (by omega) (by omega) (by omega) (by omega) (by omega)
  | 4, _ => have e : c7 4 = 268435456 := by decide
            rw [e] at hy1 ⊢; exact Go.bits_join_low .i64 63 (by decide) wraps_i64v 28 _ _ (by omega) (by omega) (by omega) (by omega) (by omega) (by omega)
  | 5, _ => have e : c7 5 = 34359738368 := by decide
            rw [e] at hy1 ⊢; exact Go.bits_join_low .i64 63 (by decide) wraps_i64v 35 _ _ (by omega) (by omega) (by omega) (by omega) (by omega) (by omega)
  | 6, _ => have e : c7 6 = 4398046511104 := by decide
            rw [e] at hy1 ⊢; exact Go.bits_join_low .i64 63 (by decide) wraps_i64v 42 _ _ (by omega) (by omega) (by omega) (by omega) (by omega) (by omega)
theorem part7 (s : ByteArray) (i : Nat) (hi : i < 7) (hs : i < s.size) :
    Go.bits .or .i64 (num7 ((bytesOf s).take i)) (shl .i64 (wrap64 (Go.bits .and .u8 (bt s (i : Int)) 127)) (wrap64 (7 * (i : Int)))) = num7 ((bytesOf s).take (i + 1)) := by
  obtain ⟨b0, b1⟩ := bt_range s (i : Int)
  have hl : ((bytesOf s).take i).length = i := by rw [List.length_take, bytesOf_length]; omega
  have hr := num7_range ((bytesOf s).take i)
  rw [hl] at hr
  rw [and127 b0 (by omega), shl7 i hi b0 (by omega), or7 i hi _ _ hr.1 hr.2 (by omega) (by omega), take_bt s i hs, num7_snoc, hl]

instance (s : ByteArray) (k : Nat) : Decidable (same s k) := by unfold same; infer_instance
theorem vardec (s : ByteArray) (hsz : s.size ≤ 1048576) (d : Nat) : ∀ (i f f' : Nat), i + d = 7 → 8 + 11 * (d + 1) < f → 8 + 2 * (d + 1) < f' → (∀ j : Nat, j < i → 128 ≤ bt s (j : Int)) →
    ∃ r, spec_DecodeVarint.l0 f s ((i + 1 : Nat) : Int) = some r ∧ impl_DecodeVarint.l0 f' s (num7 ((bytesOf s).take i)) (i : Int) = some r := by
  have ends : ∀ (i f f' : Nat), i ≤ 7 → 8 < f → 8 < f' → (i = 7 ∨ s.size ≤ i) → ∃ r, spec_DecodeVarint.l0 f s ((i + 1 : Nat) : Int) = some r ∧ impl_DecodeVarint.l0 f' s (num7 ((bytesOf s).take i)) (i : Int) = some r := by
    intro i f f' hi hf hf' h
    refine ⟨(0, 0), spec_vardec_end s (i + 1) f (by omega) (by omega), ?_⟩
    obtain ⟨f', rfl⟩ : ∃ m, f' = m + 1 + 1 := ⟨f' - 2, by omega⟩
    rw [impl_DecodeVarint.l0]
    by_cases h7 : (i : Int) < (s.size : Int)
    · rw [if_pos h7, show decide ((i : Int) < 7) = false from decide_eq_false (by omega), impl_DecodeVarint.j1, if_neg (by decide)]
    · rw [if_neg h7, impl_DecodeVarint.j1, if_neg (by decide)]
  induction d with
  | zero => intro i f f' h hf hf' _; exact ends i f f' (by omega) (by omega) (by omega) (by omega)
  | succ d ih =>
    intro i f f' h hf hf' hb
    by_cases hs : s.size ≤ i
    · exact ends i f f' (by omega) (by omega) (by omega) (by omega)
    · obtain ⟨f', rfl⟩ : ∃ m, f' = m + 1 + 1 := ⟨f' - 2, by omega⟩
      obtain ⟨m, rfl⟩ : ∃ m, f = m + (i + 1) + 3 := ⟨f - (i + 1) - 3, by omega⟩
      obtain ⟨b0, b1⟩ := bt_range s (i : Int)
      have e7 : wrap64 (7 * (i : Int)) = 7 * (i : Int) := w64 (by omega) (by omega)
      have hI : impl_DecodeVarint.l0 (f' + 1 + 1) s (num7 ((bytesOf s).take i)) (i : Int) =
          if bt s (i : Int) < 128 then (if same s (i + 1) then some (num7 ((bytesOf s).take (i + 1)), ((i + 1 : Nat) : Int)) else some (0, 0)) else impl_DecodeVarint.l0 f' s (num7 ((bytesOf s).take (i + 1))) ((i + 1 : Nat) : Int) := by
        rw [impl_DecodeVarint.l0, if_pos (by omega), show decide ((i : Int) < 7) = true from decide_eq_true (by omega), impl_DecodeVarint.j1, if_pos rfl, if_pos (by omega), if_pos (by omega), if_pos (by omega)]
        rw [part7 s i (by omega) (by omega), nx (by omega), impl_varenc _ f' (by omega), Option.bind_some]
        rw [if_pos (show 0 ≤ ((i + 1 : Nat) : Int) from by omega), if_pos (show ((i + 1 : Nat) : Int) ≤ (s.size : Int) from by omega)]
        rfl
      rw [hI]
      by_cases h8 : bt s (i : Int) < 128
      · rw [if_pos h8]
        have hd := spec_vardec_step s (i + 1) m (by omega) (by omega) (by omega) (by omega) (some (0, 0)) (fun _ => spec_vardec_dead s d (i + 1 + 1) m (by omega) (by omega) (by omega) ⟨i, by omega, h8⟩)
        by_cases hh : same s (i + 1)
        · rw [if_pos hh]; exact ⟨_, hd.1 hh, rfl⟩
        · rw [if_neg hh]; exact ⟨_, hd.2 hh, rfl⟩
      · rw [if_neg h8]
        obtain ⟨r, h1, h2⟩ := ih (i + 1) m f' (by omega) (by omega) (by omega) (fun j hj => by
          by_cases hji : j < i
          · exact hb j hji
          · have : j = i := by omega
            subst this; omega)
        refine ⟨r, (spec_vardec_step s (i + 1) m (by omega) (by omega) (by omega) (by omega) (some r) (fun _ => h1)).2 ?_, h2⟩
        intro hh
        have := (same_bytes (by omega) (by omega) hh i (by omega)).2 rfl
        omega

theorem FnExactDecodeVarint : laws_FnExactDecodeVarint.Pure := by
  intro s hs
  refine ⟨200, ?_⟩
  unfold laws_FnExactDecodeVarint.f
  by_cases hn : (s.size : Int) > 1048576
  · rw [if_pos hn]
  · rw [if_neg hn]
    obtain ⟨r, h1, h2⟩ := vardec s (by omega) 7 0 200 200 (by omega) (by omega) (by omega) (fun j hj => by omega)
    unfold spec_DecodeVarint.f impl_DecodeVarint.f
    have h1 : spec_DecodeVarint.l0 200 s 1 = some r := h1
    have h2 : impl_DecodeVarint.l0 200 s 0 0 = some r := h2
    rw [h1, h2]
    simp

end Go.Proofs.Ytnaehnenhnfecaa.Pure
