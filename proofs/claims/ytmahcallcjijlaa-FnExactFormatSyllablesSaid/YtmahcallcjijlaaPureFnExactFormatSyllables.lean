/- For every list of syllables, FormatSyllables of the program and of the reference hand back the same bytes, and the argument stays as it was. -/
import Derived.Test.YtmahcallcjijlaaPFnExactFormatSyllablesx2
import Derived.Test.YtmahcallcjijlaaBase
import Derived.Lib.Join
namespace Go.Proofs.Ytmahcallcjijlaa.Pure
open Go.RowKit Go.Proofs.Ytmahcallcjijlaa.PFnExactFormatSyllables Go.Proofs.YtmahcallcjijlaaW.PrintWords Go.Proofs.YtmahcallcjijlaaW.PrintLast Go.Proofs.YtmahcallcjijlaaW.PrintMore Go.Proofs.Ytmahcallcjijlaa.Base
set_option linter.unusedVariables false
set_option linter.unusedSimpArgs false

/-! sizesyl -/
/-- How many bytes all parts have together. -/
def sizeS (l : List S79) : Nat := (l.map fun x => x.f0.size + x.f1.size + x.f2.size).sum
theorem sizeS_cons (x : S79) (l : List S79) : sizeS (x :: l) = x.f0.size + x.f1.size + x.f2.size + sizeS l := by simp [sizeS]

/-! syls -/
/-- The syllables of the law's own type as the program's. -/
def toS (l : List S81) : List S79 := l.map fun x => ⟨x.f0, x.f1, x.f2⟩
theorem toS_length (l : List S81) : (toS l).length = l.length := by simp [toS]
theorem toSyllableS_l0 (l : List S81) (hl : l.length ≤ 1048576) (d : Nat) : ∀ (i k : Nat), i + d = l.length → d < k →
    laws_toSyllableS.l0 k l ((toS l).take i ++ List.replicate ((toS l).length - i) z79) (i : Int) = some (toS l) := by
  induction d with
  | zero =>
    intro i k h hk
    obtain ⟨k, rfl⟩ : ∃ m, k = m + 1 := ⟨k - 1, by omega⟩
    simp only [laws_toSyllableS.l0]
    rw [if_neg (by omega), List.take_of_length_le (by rw [toS_length]; omega), toS_length, show l.length - i = 0 from by omega]
    simp
  | succ d ih =>
    intro i k h hk
    obtain ⟨k, rfl⟩ : ∃ m, k = m + 1 := ⟨k - 1, by omega⟩
    simp only [laws_toSyllableS.l0]
    have e : rd_T81 l (i : Int) = l[i]'(by omega) := getD_nat l _ i (by omega)
    have e2 : (⟨(l[i]'(by omega)).f0, (l[i]'(by omega)).f1, (l[i]'(by omega)).f2⟩ : S79) = (toS l)[i]'(by rw [toS_length]; omega) := by simp [toS]
    rw [if_pos (by omega), if_pos (by omega), e]
    simp only [laws_toSyllable.f, Option.bind_some]
    rw [if_pos (by simp [toS_length]; omega), e2, Int.toNat_natCast, set_fill (toS l) _ i (by rw [toS_length]; omega), nx (by omega)]
    exact ih (i + 1) k (by omega) (by omega)
theorem toSyllableS_f (l : List S81) (hl : l.length ≤ 1048576) {k : Nat} (hk : l.length < k) : laws_toSyllableS.f k l = some (toS l) := by
  unfold laws_toSyllableS.f
  rw [if_pos (by omega), if_pos (by omega)]
  have := toSyllableS_l0 l hl l.length 0 k (by omega) (by omega)
  simpa [toS_length] using this
theorem szSyllable_f (a b c : ByteArray) (ha : a.size ≤ 9223372036854775807) (hb : b.size ≤ 9223372036854775807) (hc : c.size ≤ 9223372036854775807) (n : Int) (h0 : 0 ≤ n) (h1 : n ≤ 1048576) :
    ∃ t, laws_szSyllable.f a b c n = some t ∧ (¬ t < 0 → t + a.size + b.size + c.size = n ∧ t ≤ n) := by
  unfold laws_szSyllable.f
  rw [w64 (x := n - (a.size : Int)) (by omega) (by omega)]
  by_cases h2 : n - (a.size : Int) < 0
  · rw [if_pos h2]; exact ⟨-1, rfl, by omega⟩
  · rw [if_neg h2, w64 (x := n - (a.size : Int) - (b.size : Int)) (by omega) (by omega)]
    by_cases h3 : n - (a.size : Int) - (b.size : Int) < 0
    · rw [if_pos h3]; exact ⟨-1, rfl, by omega⟩
    · rw [if_neg h3, w64 (x := n - (a.size : Int) - (b.size : Int) - (c.size : Int)) (by omega) (by omega)]
      by_cases h4 : n - (a.size : Int) - (b.size : Int) - (c.size : Int) < 0
      · rw [if_pos h4]; exact ⟨-1, rfl, by omega⟩
      · rw [if_neg h4]; exact ⟨_, rfl, by omega⟩
theorem szSyllableS_l0 (l : List S81) (hl : l.length ≤ 1048576) (hb : ∀ y ∈ l, y.f0.size ≤ 9223372036854775807 ∧ y.f1.size ≤ 9223372036854775807 ∧ y.f2.size ≤ 9223372036854775807) (d : Nat) :
    ∀ (i k : Nat) (n : Int), i + d = l.length → d < k → 0 ≤ n → n ≤ 1048576 →
    ∃ t, laws_szSyllableS.l0 k l n (i : Int) = some t ∧ (¬ t < 0 → t + sizeS (toS (l.drop i)) = n) := by
  induction d with
  | zero =>
    intro i k n h hk h0 h1
    obtain ⟨k, rfl⟩ : ∃ m, k = m + 1 := ⟨k - 1, by omega⟩
    simp only [laws_szSyllableS.l0]
    rw [if_neg (by omega), List.drop_of_length_le (by omega)]
    exact ⟨n, rfl, fun _ => by simp [toS, sizeS]⟩
  | succ d ih =>
    intro i k n h hk h0 h1
    obtain ⟨k, rfl⟩ : ∃ m, k = m + 1 := ⟨k - 1, by omega⟩
    have e : rd_T81 l (i : Int) = l[i]'(by omega) := getD_nat l _ i (by omega)
    obtain ⟨b0, b1, b2⟩ := hb (l[i]'(by omega)) (List.getElem_mem _)
    obtain ⟨t, ht, hq⟩ := szSyllable_f _ _ _ b0 b1 b2 n h0 h1
    simp only [laws_szSyllableS.l0]
    rw [if_pos (by omega), if_pos (by omega), e, ht, nx (by omega), List.drop_eq_getElem_cons (by omega)]
    simp only [Option.bind_some]
    by_cases h2 : t < 0
    · rw [if_pos h2]; exact ⟨-1, rfl, by omega⟩
    · rw [if_neg h2]
      obtain ⟨q1, q2⟩ := hq h2
      obtain ⟨t', ht', hq'⟩ := ih (i + 1) k t (by omega) (by omega) (by omega) (by omega)
      refine ⟨t', ht', fun h3 => ?_⟩
      have := hq' h3
      simp only [toS, List.map_cons, sizeS_cons] at this ⊢
      omega
theorem szSyllableS_f (l : List S81) (hl : l.length ≤ 9223372036854775807) (hb : ∀ y ∈ l, y.f0.size ≤ 9223372036854775807 ∧ y.f1.size ≤ 9223372036854775807 ∧ y.f2.size ≤ 9223372036854775807) {k : Nat} (hk : l.length < k) :
    ∃ t, laws_szSyllableS.f k l 1048576 = some t ∧ (¬ t < 0 → l.length ≤ 1048576 ∧ sizeS (toS l) ≤ 1048576) := by
  unfold laws_szSyllableS.f
  rw [w64 (by omega) (by omega)]
  by_cases h : 1048576 - (l.length : Int) < 0
  · rw [if_pos h]; exact ⟨-1, rfl, by omega⟩
  · rw [if_neg h]
    obtain ⟨t, ht, hq⟩ := szSyllableS_l0 l (by omega) hb l.length 0 k (1048576 - (l.length : Int)) (by omega) (by omega) (by omega) (by omega)
    refine ⟨t, ht, fun h2 => ?_⟩
    have := hq h2
    simp only [List.drop_zero] at this
    omega
theorem eqSyllableS_l0 (l : List S79) (hl : l.length ≤ 1048576) (d : Nat) : ∀ (i k : Nat), i + d = l.length → d < k → laws_eqSyllableS.l0 k l l (i : Int) = some true := by
  induction d with
  | zero =>
    intro i k h hk
    obtain ⟨k, rfl⟩ : ∃ m, k = m + 1 := ⟨k - 1, by omega⟩
    simp only [laws_eqSyllableS.l0]; rw [if_neg (by omega)]
  | succ d ih =>
    intro i k h hk
    obtain ⟨k, rfl⟩ : ∃ m, k = m + 1 := ⟨k - 1, by omega⟩
    simp only [laws_eqSyllableS.l0]
    rw [if_pos (by omega), if_pos (by omega), if_pos (by omega), nx (by omega)]
    simp only [laws_eqSyllable.f, if_true, Option.bind_some]
    exact ih (i + 1) k (by omega) (by omega)
theorem eqSyllableS_refl (l : List S79) (hl : l.length ≤ 1048576) {k : Nat} (hk : l.length < k) : laws_eqSyllableS.f k l l = some true := by
  unfold laws_eqSyllableS.f; rw [if_pos rfl]; exact eqSyllableS_l0 l hl l.length 0 k (by omega) (by omega)

/-! joinimpl -/
/-- The bytes of all syllables, one behind another. -/
def jb (l : List S79) : List Int := l.flatMap fun x => bytesOf x.f0 ++ bytesOf x.f1 ++ bytesOf x.f2
theorem jb_length (l : List S79) : (jb l).length = sizeS l := by
  induction l with
  | nil => rfl
  | cons x l ih => simp only [jb, List.flatMap_cons, List.length_append, bytesOf_length, sizeS_cons] at *; omega
theorem jb_snoc (l : List S79) (i : Nat) (h : i < l.length) : jb (l.take (i + 1)) = jb (l.take i) ++ (bytesOf l[i].f0 ++ bytesOf l[i].f1 ++ bytesOf l[i].f2) := by
  rw [List.take_succ_eq_append_getElem h]; unfold jb; rw [List.flatMap_append, List.flatMap_cons, List.flatMap_nil, List.append_nil]
theorem sizeS_take (l : List S79) (i : Nat) : sizeS (l.take i) ≤ sizeS l := by
  induction l generalizing i with
  | nil => simp
  | cons x l ih => cases i with
    | zero => simp [sizeS]
    | succ i => rw [List.take_succ_cons, sizeS_cons, sizeS_cons]; have := ih i; omega
theorem sizeS_snoc (l : List S79) (i : Nat) (h : i < l.length) : sizeS (l.take i) + (l[i].f0.size + l[i].f1.size + l[i].f2.size) ≤ sizeS l := by
  have h1 := sizeS_take l (i + 1)
  have h2 := jb_length (l.take (i + 1))
  rw [jb_snoc l i h] at h2
  simp only [List.length_append, bytesOf_length, jb_length] at h2
  omega
theorem impl_join_l0 (l : List S79) (hl : l.length ≤ 1048576) (hz : sizeS l ≤ 1048576) (d : Nat) : ∀ (i k : Nat), i + d = l.length → d < k →
    impl_JoinSyllables.l0 k (strOfNums (jb (l.take i))) l (l.length : Int) (i : Int) = some (strOfNums (jb l)) := by
  induction d with
  | zero =>
    intro i k h hk
    obtain ⟨k, rfl⟩ : ∃ m, k = m + 1 := ⟨k - 1, by omega⟩
    simp only [impl_JoinSyllables.l0]
    rw [if_neg (by omega), List.take_of_length_le (by omega)]
  | succ d ih =>
    intro i k h hk
    obtain ⟨k, rfl⟩ : ∃ m, k = m + 1 := ⟨k - 1, by omega⟩
    have e : rd_T79 l (i : Int) = l[i]'(by omega) := getD_nat l _ i (by omega)
    have hs := sizeS_snoc l i (by omega)
    have := ih (i + 1) k (by omega) (by omega)
    rw [jb_snoc l i (by omega)] at this
    simp only [impl_JoinSyllables.l0]
    rw [if_pos (by omega), if_pos (by omega), if_pos (by omega), e, nx (by omega)]
    generalize (l[i]'(by omega)) = x at *
    rw [show x.f0 = strOfNums (bytesOf x.f0) from (str_bytesOf _).symm, show x.f1 = strOfNums (bytesOf x.f1) from (str_bytesOf _).symm, show x.f2 = strOfNums (bytesOf x.f2) from (str_bytesOf _).symm]
    simp only [str_append, str_size, List.length_append, jb_length, bytesOf_length]
    rw [if_pos (by omega), if_pos (by omega), if_pos (by omega)]
    simpa [List.append_assoc] using this
theorem impl_JoinSyllables_f (l : List S79) (hl : l.length ≤ 1048576) (hz : sizeS l ≤ 1048576) {k : Nat} (hk : l.length < k) : impl_JoinSyllables.f k l = some (strOfNums (jb l)) :=
  impl_join_l0 l hl hz l.length 0 k (by omega) (by omega)

/-! fmtsyl -/
/-- The bytes of the syllables with dots between them; the flag: nothing stands ahead. -/
def dots : Bool → List S79 → List Int
  | _, [] => []
  | b, x :: l => (if b then [] else [46]) ++ (bytesOf x.f0 ++ bytesOf x.f1 ++ bytesOf x.f2) ++ dots false l
theorem dots_len (l : List S79) : ∀ b, (dots b l).length ≤ sizeS l + l.length := by
  induction l with
  | nil => intro b; exact Nat.zero_le _
  | cons x l ih =>
    intro b
    have := ih false
    rw [dots, sizeS_cons]
    cases b <;> simp only [List.length_append, List.length_cons, List.length_nil, bytesOf_length, if_true, if_false, Bool.false_eq_true] <;> omega
theorem spec_fmt_l0 (l : List S79) (hl : l.length ≤ 1048576) (d : Nat) : ∀ (i k : Nat) (acc : List Int), i + d = l.length → d < k → acc.length + (dots (decide (i = 0)) (l.drop i)).length ≤ 4194304 →
    spec_FormatSyllables.l0 k l (strOfNums acc) (i : Int) = some (strOfNums (acc ++ dots (decide (i = 0)) (l.drop i))) := by
  induction d with
  | zero =>
    intro i k acc h hk hA
    obtain ⟨k, rfl⟩ : ∃ m, k = m + 1 := ⟨k - 1, by omega⟩
    simp only [spec_FormatSyllables.l0]
    rw [if_neg (by omega), List.drop_of_length_le (by omega), dots, List.append_nil]
  | succ d ih =>
    intro i k acc h hk hA
    obtain ⟨k, rfl⟩ : ∃ m, k = m + 1 := ⟨k - 1, by omega⟩
    have e : rd_T79 l (i : Int) = l[i]'(by omega) := getD_nat l _ i (by omega)
    have hd : l.drop i = l[i]'(by omega) :: l.drop (i + 1) := List.drop_eq_getElem_cons (by omega)
    have hn : decide (i + 1 = 0) = false := decide_eq_false (by omega)
    rw [hd, dots] at hA ⊢
    simp only [spec_FormatSyllables.l0]
    rw [if_pos (by omega), e, nx (by omega)]
    generalize (l[i]'(by omega)) = x at *
    obtain ⟨p0, hp0, q0⟩ : ∃ p, bytesOf x.f0 = p ∧ x.f0 = strOfNums p := ⟨_, rfl, (str_bytesOf _).symm⟩
    obtain ⟨p1, hp1, q1⟩ : ∃ p, bytesOf x.f1 = p ∧ x.f1 = strOfNums p := ⟨_, rfl, (str_bytesOf _).symm⟩
    obtain ⟨p2, hp2, q2⟩ : ∃ p, bytesOf x.f2 = p ∧ x.f2 = strOfNums p := ⟨_, rfl, (str_bytesOf _).symm⟩
    rw [hp0, hp1, hp2] at hA ⊢
    by_cases hi : i = 0
    · subst hi
      have := ih 1 k (acc ++ (p0 ++ p1 ++ p2)) (by omega) (by omega)
      simp only [hn, decide_true, if_true, List.nil_append, List.length_append, Nat.zero_add, Nat.reduceAdd, show decide ((1 : Nat) = 0) = false from rfl] at this hA ⊢
      rw [if_neg (by omega), if_pos (by omega)]
      rw [q0, q1, q2]
      simp only [str_append, str_size, List.length_append]
      rw [if_pos (by omega), if_pos (by omega), if_pos (by omega)]
      have h2 := this (by omega)
      simp only [List.append_assoc] at h2 ⊢
      exact h2
    · have := ih (i + 1) k (acc ++ ([46] ++ (p0 ++ p1 ++ p2))) (by omega) (by omega)
      simp only [hn, decide_eq_false hi, if_false, Bool.false_eq_true, List.length_append, List.length_cons, List.length_nil] at this hA ⊢
      rw [if_pos (by omega), show (⟨#[46]⟩ : ByteArray) = strOfNums [46] from rfl]
      rw [q0, q1, q2]
      simp only [str_append, str_size, List.length_append, List.length_cons, List.length_nil]
      rw [if_pos (by omega), if_pos (by omega), if_pos (by omega), if_pos (by omega), if_pos (by omega)]
      have h2 := this (by omega)
      simp only [List.append_assoc] at h2 ⊢
      exact h2

/-- One syllable's bytes. -/
def one (x : S79) : ByteArray := strOfNums (jb [x])
theorem jb_one (x : S79) : jb [x] = bytesOf x.f0 ++ bytesOf x.f1 ++ bytesOf x.f2 := by simp [jb]
theorem dots_tail (l : List S79) : (dots false l).map (fun n => UInt8.ofNat n.toNat) = Lib.joinTail [46] ((l.map one).map (·.data.toList)) := by
  induction l with
  | nil => rfl
  | cons x l ih =>
    rw [dots, if_neg Bool.false_ne_true, List.map_append, ih, ← jb_one, List.map_append, ← data_of_str]
    simp only [Lib.joinTail, List.map_cons, List.flatten_cons]
    rfl
theorem dots_join (l : List S79) : Lib.join ((l.map one).map (·.data.toList)) (⟨#[46]⟩ : ByteArray).data.toList = (strOfNums (dots true l)).data.toList := by
  cases l with
  | nil => rfl
  | cons x l =>
    rw [List.map_cons, List.map_cons, Lib.join_cons, dots, if_pos rfl, List.nil_append, data_of_str, List.map_append, dots_tail, ← jb_one, ← data_of_str]
    rfl
theorem impl_fmt_l0 (l : List S79) (hl : l.length ≤ 1048576) (hz : sizeS l ≤ 1048576) (d : Nat) : ∀ (i k : Nat), i + d = l.length → d + 3 < k →
    impl_FormatSyllables.l0 k ((l.take i).map one) l (l.length : Int) (i : Int) = some (strOfNums (dots true l)) := by
  induction d with
  | zero =>
    intro i k h hk
    obtain ⟨k, rfl⟩ : ∃ m, k = m + 1 := ⟨k - 1, by omega⟩
    have hlen := dots_len l true
    simp only [impl_FormatSyllables.l0]
    rw [if_neg (by omega), List.take_of_length_le (by omega)]
    unfold strings_Join.f
    rw [dots_join, if_pos ⟨by rw [List.length_map]; omega, by rw [data_of_str, List.length_map]; omega⟩]
    simp only [Option.bind_some, Array.toArray_toList]
  | succ d ih =>
    intro i k h hk
    obtain ⟨k, rfl⟩ : ∃ m, k = m + 1 := ⟨k - 1, by omega⟩
    have e : rd_T79 l (i : Int) = l[i]'(by omega) := getD_nat l _ i (by omega)
    have hs := sizeS_snoc l i (by omega)
    have hj : impl_JoinSyllables.f k [l[i]'(by omega)] = some (one (l[i]'(by omega))) := impl_JoinSyllables_f _ (by simp) (by rw [sizeS_cons]; simp only [sizeS, List.map_nil, List.sum_nil]; omega) (by simp; omega)
    simp only [impl_FormatSyllables.l0]
    rw [if_pos (by omega), if_pos (by omega), if_pos (by omega), e, nx (by omega)]
    have hj : impl_JoinSyllables.f k [(⟨(l[i]'(by omega)).f0, (l[i]'(by omega)).f1, (l[i]'(by omega)).f2⟩ : S79)] = some (one (l[i]'(by omega))) := hj
    rw [hj]; simp only [Option.bind_some]
    rw [if_pos (by rw [List.length_map, List.length_take]; omega)]
    have := ih (i + 1) k (by omega) (by omega)
    rw [List.take_succ_eq_append_getElem (by omega), List.map_append, List.map_cons, List.map_nil] at this
    exact this
theorem spec_FormatSyllables_f (l : List S79) (hl : l.length ≤ 1048576) (hz : sizeS l ≤ 1048576) {k : Nat} (hk : l.length < k) : spec_FormatSyllables.f k l = some (strOfNums (dots true l)) := by
  have hlen := dots_len l true
  exact spec_fmt_l0 l hl l.length 0 k [] (by omega) hk (by simp only [List.length_nil, Nat.zero_add, decide_true, List.drop_zero]; omega)
theorem impl_FormatSyllables_f (l : List S79) (hl : l.length ≤ 1048576) (hz : sizeS l ≤ 1048576) {k : Nat} (hk : l.length + 3 < k) : impl_FormatSyllables.f k l = some (strOfNums (dots true l)) :=
  impl_fmt_l0 l hl hz l.length 0 k (by omega) hk

theorem FnExactFormatSyllables : laws_FnExactFormatSyllables.Pure := by
  intro l hl hb
  refine ⟨l.length + 4, ?_⟩
  unfold laws_FnExactFormatSyllables.f
  obtain ⟨t, ht, hq⟩ := szSyllableS_f l hl hb (k := l.length + 4) (by omega)
  rw [ht]; simp only [Option.bind_some]
  by_cases h : t < 0
  · rw [if_pos h]
  · obtain ⟨h1, h2⟩ := hq h
    have e1 : (toS l).length ≤ 1048576 := by rw [toS_length]; exact h1
    have e2 : (toS l).length + 3 < l.length + 4 := by rw [toS_length]; omega
    rw [if_neg h, toSyllableS_f l h1 (by omega)]; simp only [Option.bind_some]
    rw [spec_FormatSyllables_f _ e1 h2 (by omega), impl_FormatSyllables_f _ e1 h2 e2]; simp only [Option.bind_some]
    rw [eqSyllableS_refl _ e1 (by omega)]; simp

end Go.Proofs.Ytmahcallcjijlaa.Pure
