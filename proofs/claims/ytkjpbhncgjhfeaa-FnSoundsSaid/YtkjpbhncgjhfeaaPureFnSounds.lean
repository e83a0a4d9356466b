/- Other voices, features and natural classes at what is drawn. -/
import Derived.Test.YtkjpbhncgjhfeaaPFnSoundsx6
import Derived.Test.YtkjpbhncgjhfeaaBase
namespace Go.Proofs.Ytkjpbhncgjhfeaa.Pure
open Go.RowKit Go.Proofs.Ytkjpbhncgjhfeaa.PFnSounds Go.Proofs.YtkjpbhncgjhfeaaW.PrintWords Go.Proofs.YtkjpbhncgjhfeaaW.PrintLast Go.Proofs.YtkjpbhncgjhfeaaW.PrintMore Go.Proofs.Ytkjpbhncgjhfeaa.Base
set_option linter.unusedVariables false
set_option linter.unusedSimpArgs false

/-! draw -/
/-- What is masked with 255 is a byte. -/
theorem and255 (x : Int) : 0 ≤ Go.bits .and .i64 x 255 ∧ Go.bits .and .i64 x 255 ≤ 255 := by
  have e : Go.bits .and .i64 x 255 = IntKind.i64.wrap (((BitVec.ofInt 64 x) &&& (BitVec.ofInt 64 255)).toNat : Int) := rfl
  have h : ((BitVec.ofInt 64 x) &&& (BitVec.ofInt 64 255)).toNat ≤ 255 := by
    rw [BitVec.toNat_and]
    exact Nat.le_trans Nat.and_le_right (by decide)
  rw [e, Go.IntKind.wrap_i64]
  omega
/-- Where the cursor may stand. -/
def Cur (l : List Int) (i : Int) : Prop := 0 ≤ i ∧ i ≤ (l.length : Int)
/-- The drawing lists that the laws are called with. -/
def Code (l : List Int) : Prop := l.length ≤ 1048576 ∧ ∀ x ∈ l, 0 ≤ x ∧ x ≤ 255
theorem new_l0 (l : List Int) (d : Nat) : ∀ (i K : Nat) (h : Int), i + d = 4000 → ∃ h', spec_l1New.l0 (K + d + 1) l h (i : Int) = some (l, 0, h') := by
  induction d with
  | zero =>
    intro i K h hi
    simp only [spec_l1New.l0]
    by_cases h1 : (i : Int) < (l.length : Int)
    · rw [if_pos h1, if_neg (by omega)]; exact ⟨_, rfl⟩
    · rw [if_neg h1]; exact ⟨_, rfl⟩
  | succ d ih =>
    intro i K h hi
    rw [show K + (d + 1) + 1 = (K + d + 1) + 1 from by omega, spec_l1New.l0]
    by_cases h1 : (i : Int) < (l.length : Int)
    · rw [if_pos h1, if_pos (by omega), if_pos (by omega), nx (i := i) (by omega)]
      exact ih (i + 1) K _ (by omega)
    · rw [if_neg h1]; exact ⟨_, rfl⟩
theorem l1New_f (l : List Int) {k : Nat} (hk : 4001 ≤ k) : ∃ h, spec_l1New.f k l = some (l, 0, h) := by
  unfold spec_l1New.f
  obtain ⟨K, rfl⟩ : ∃ K, k = K + 4000 + 1 := ⟨k - 4001, by omega⟩
  exact new_l0 l 4000 0 K _ (by omega)
theorem l1Byte_f (l : List Int) (hl : l.length ≤ 1048576) (i h : Int) (hc : Cur l i) : ∃ x i' h', spec_l1Byte.f l i h = some (x, i', h') ∧ 0 ≤ x ∧ x ≤ 255 ∧ Cur l i' := by
  obtain ⟨c0, c1⟩ := hc
  unfold spec_l1Byte.f
  by_cases h1 : i < (l.length : Int)
  · rw [if_pos h1, if_pos c0]
    refine ⟨_, _, _, rfl, (and255 _).1, (and255 _).2, ?_, ?_⟩
    · rw [w64 (by omega) (by omega)]; omega
    · rw [w64 (by omega) (by omega)]; omega
  · rw [if_neg h1]
    exact ⟨_, _, _, rfl, (and255 _).1, (and255 _).2, c0, c1⟩
theorem l1Below_f (l : List Int) (hl : l.length ≤ 1048576) (i h : Int) (hc : Cur l i) (n : Int) (h0 : 0 < n) (h1 : n ≤ 256) :
    ∃ x i' h', spec_l1Below.f l i h n = some (x, i', h') ∧ 0 ≤ x ∧ x < n ∧ Cur l i' := by
  unfold spec_l1Below.f
  obtain ⟨x, i', h', e, x0, x1, hc'⟩ := l1Byte_f l hl i h hc
  rw [if_neg (by omega), if_pos h1, e]
  simp only [Option.bind_some]
  rw [if_neg (by omega), Int.tmod_eq_emod_of_nonneg x0]
  exact ⟨_, _, _, rfl, Int.emod_nonneg _ (by omega), Int.emod_lt_of_pos _ h0, hc'⟩
theorem l1Once_f (l : List Int) (hl : l.length ≤ 1048576) (i h : Int) (hc : Cur l i) (n : Int) (h0 : 0 < n) (h1 : n ≤ 256) :
    ∃ b i' h', spec_l1Once.f l i h n = some (b, i', h') ∧ Cur l i' := by
  unfold spec_l1Once.f
  obtain ⟨x, i', h', e, _, _, hc'⟩ := l1Below_f l hl i h hc n h0 h1
  rw [e]
  exact ⟨_, _, _, rfl, hc'⟩

/-! sounds -/
/-- Facts on single bytes, tried at each of the 256. -/
theorem byte_cases {P : Int → Prop} (h : ∀ n : Fin 256, P ((n.val : Nat) : Int)) {x : Int} (h0 : 0 ≤ x) (h1 : x ≤ 255) : P x := by
  obtain ⟨m, rfl⟩ := Int.eq_ofNat_of_zero_le h0
  exact h ⟨m, by omega⟩

/-! drawsound -/
theorem l1In1_f (l : List Int) (hl : l.length ≤ 1048576) (i h : Int) (hc : Cur l i) : ∃ x i' h', spec_l1In1.f l i h = some (x, i', h') ∧ 0 ≤ x ∧ x ≤ 255 ∧ Cur l i' := by
  unfold spec_l1In1.f
  obtain ⟨b, i1, h1, e1, hc1⟩ := l1Once_f l hl i h hc 5 (by decide) (by decide)
  rw [e1]; simp only [Option.bind_some]
  cases b
  · obtain ⟨x, i2, h2, e2, x0, x1, hc2⟩ := l1Below_f l hl i1 h1 hc1 7 (by decide) (by decide)
    rw [if_neg Bool.false_ne_true, e2]; simp only [Option.bind_some, if_pos x0, if_pos x1]
    have := bt_range (⟨#[112, 116, 98, 100, 110, 97, 105]⟩ : ByteArray) x
    exact ⟨_, _, _, rfl, this.1, by omega, hc2⟩
  · obtain ⟨x, i2, h2, e2, x0, x1, hc2⟩ := l1Below_f l hl i1 h1 hc1 256 (by decide) (by decide)
    rw [if_pos rfl, e2]; simp only [Option.bind_some]
    exact ⟨_, _, _, rfl, by omega, by omega, hc2⟩
theorem pick4 (l : List Int) (hl : l.length ≤ 1048576) (i h : Int) (hc : Cur l i) :
    ∃ x i' h', spec_l1Pick.f l i h ([(⟨#[120]⟩ : ByteArray), (⟨#[65]⟩ : ByteArray), (⟨#[32]⟩ : ByteArray), (⟨#[45]⟩ : ByteArray)] : List ByteArray) = some (x, i', h') ∧ x.size = 1 ∧ Cur l i' := by
  unfold spec_l1Pick.f
  obtain ⟨x, i2, h2, e2, x0, x1, hc2⟩ := l1Below_f l hl i h hc 4 (by decide) (by decide)
  have e2 : spec_l1Below.f l i h (([(⟨#[120]⟩ : ByteArray), (⟨#[65]⟩ : ByteArray), (⟨#[32]⟩ : ByteArray), (⟨#[45]⟩ : ByteArray)] : List ByteArray).length : Int) = some (x, i2, h2) := e2
  rw [e2]; simp only [Option.bind_some]
  rw [if_pos x0, if_pos (show x < (([(⟨#[120]⟩ : ByteArray), (⟨#[65]⟩ : ByteArray), (⟨#[32]⟩ : ByteArray), (⟨#[45]⟩ : ByteArray)] : List ByteArray).length : Int) from x1)]
  refine ⟨_, _, _, rfl, ?_, hc2⟩
  obtain rfl | rfl | rfl | rfl : x = 0 ∨ x = 1 ∨ x = 2 ∨ x = 3 := by omega
  all_goals rfl
theorem text_l0 (l : List Int) (hl : l.length ≤ 1048576) (d : Nat) : ∀ (K : Nat) (s : ByteArray) (i h : Int), Cur l i → s.size + d ≤ 4 →
    ∃ r i' h', spec_l2Text.l0 (K + d + 1) s (d : Int) l i h = some (r, i', h') ∧ r.size ≤ 5 ∧ Cur l i' := by
  induction d with
  | zero =>
    intro K s i h hc hs
    obtain ⟨b, i1, h1, e1, hc1⟩ := l1Once_f l hl i h hc 12 (by decide) (by decide)
    rw [show K + 0 + 1 = K + 1 from rfl, spec_l2Text.l0, if_neg (by omega), e1]; simp only [Option.bind_some]
    cases b
    · rw [if_neg Bool.false_ne_true]; exact ⟨_, _, _, rfl, by omega, hc1⟩
    · rw [if_pos rfl]
      obtain ⟨x, i2, h2, e2, hx, hc2⟩ := pick4 l hl i1 h1 hc1
      rw [e2]; simp only [Option.bind_some]
      rw [if_pos (by omega)]
      exact ⟨_, _, _, rfl, by rw [ByteArray.size_append]; omega, hc2⟩
  | succ d ih =>
    intro K s i h hc hs
    obtain ⟨x, i1, h1, e1, x0, x1, hc1⟩ := l1Below_f l hl i h hc 7 (by decide) (by decide)
    obtain ⟨n, rfl⟩ : ∃ n : Nat, x = (n : Int) := ⟨x.toNat, by omega⟩
    have hz : ((⟨#[112, 116, 98, 100, 110, 97, 105]⟩ : ByteArray).extract n (n + 1)).size = 1 := by
      rw [ByteArray.size_extract]
      have : (⟨#[112, 116, 98, 100, 110, 97, 105]⟩ : ByteArray).size = 7 := rfl
      omega
    generalize ht : ((n : Int), i1, h1) = t at e1
    have t1 : t.1 = (n : Int) := by rw [← ht]
    have t2 : t.2.1 = i1 := by rw [← ht]
    have t3 : t.2.2 = h1 := by rw [← ht]
    rw [show K + (d + 1) + 1 = (K + d + 1) + 1 from by omega, spec_l2Text.l0, if_pos (by omega), e1, Option.bind_some, t1, t2, t3]
    rw [nx (i := n) (by omega), if_pos x0, if_pos (by omega), if_pos (by omega), Int.toNat_natCast, Int.toNat_natCast, hz, if_pos (by omega)]
    rw [show wrap64 (((d + 1 : Nat) : Int) - 1) = (d : Int) from by rw [w64 (by omega) (by omega)]; omega]
    exact ih K _ i1 h1 hc1 (by rw [ByteArray.size_append, hz]; omega)
theorem l2Text_f (l : List Int) (hl : l.length ≤ 1048576) (i h : Int) (hc : Cur l i) {k : Nat} (hk : 5 ≤ k) : ∃ r i' h', spec_l2Text.f k l i h = some (r, i', h') ∧ r.size ≤ 5 ∧ Cur l i' := by
  unfold spec_l2Text.f
  obtain ⟨x, i1, h1, e1, x0, x1, hc1⟩ := l1Below_f l hl i h hc 5 (by decide) (by decide)
  obtain ⟨n, rfl⟩ : ∃ n : Nat, x = (n : Int) := ⟨x.toNat, by omega⟩
  rw [e1]; simp only [Option.bind_some]
  obtain ⟨K, rfl⟩ : ∃ K, k = K + n + 1 := ⟨k - n - 1, by omega⟩
  exact text_l0 l hl n K _ i1 h1 hc1 (by show 0 + n ≤ 4; omega)

/-! swapv -/
/-- The other voice, and is there one. -/
def svr (x : Int) : Int × Bool := if x = 112 then (98, true) else if x = 98 then (112, true) else if x = 116 then (100, true) else if x = 100 then (116, true) else (x, false)
theorem spec_SwapVoice_f (x : Int) : spec_SwapVoice.f x = some (svr x) := by
  unfold spec_SwapVoice.f svr
  repeat' split
  all_goals rfl
theorem impl_SwapVoice_f {x : Int} (h0 : 0 ≤ x) (h1 : x ≤ 255) : impl_SwapVoice.f x = some (svr x) := by
  refine byte_cases (P := fun x => impl_SwapVoice.f x = some (svr x)) ?_ h0 h1; decide +kernel

/-! within -/
theorem within_f (a b c : Int) : impl_within.f a b c = some (decide (b ≤ a ∧ a ≤ c)) := by
  unfold impl_within.f; by_cases h : b ≤ a
  · rw [if_pos h]; simp [h]
  · rw [if_neg h]; simp; omega

/-! isform -/
/-- Is the byte a sound? -/
def snd (x : Int) : Bool := x == 112 || x == 116 || x == 98 || x == 100 || x == 110 || x == 97 || x == 105
theorem impl_IsSound_f {x : Int} (h0 : 0 ≤ x) (h1 : x ≤ 255) : impl_IsSound.f x = some (snd x) := by
  refine byte_cases (P := fun x => impl_IsSound.f x = some (snd x)) ?_ h0 h1; decide +kernel
theorem spec_IsSound_f {x : Int} (h0 : 0 ≤ x) (h1 : x ≤ 255) {k : Nat} (hk : 8 ≤ k) : spec_IsSound.f k x = some (snd x) := by
  have h : spec_IsSound.f 8 x = some (snd x) := by
    refine byte_cases (P := fun x => spec_IsSound.f 8 x = some (snd x)) ?_ h0 h1; decide +kernel
  exact at_rounds (g := fun k => spec_IsSound.f k x) (fun k => spec_IsSound.mono x k) hk h

/-- Are all bytes sounds? -/
def sndL (l : List Int) : Bool := l.all snd
theorem spec_l2Sounds_l0 (s : ByteArray) (hs : s.size ≤ 140737488351232) (d : Nat) : ∀ (i k : Nat), i + d = s.size → d + 8 < k →
    spec_l2Sounds.l0 k s (i : Int) = some (sndL ((bytesOf s).drop i) && decide (s.size ≤ 20)) := by
  induction d with
  | zero =>
    intro i k h hk
    obtain ⟨k, rfl⟩ : ∃ m, k = m + 1 := ⟨k - 1, by omega⟩
    simp only [spec_l2Sounds.l0]
    rw [if_neg (by omega), List.drop_of_length_le (by rw [bytesOf_length]; omega)]
    simp [sndL]; omega
  | succ d ih =>
    intro i k h hk
    obtain ⟨k, rfl⟩ : ∃ m, k = m + 1 := ⟨k - 1, by omega⟩
    obtain ⟨b0, b1⟩ := bt_range s (i : Int)
    have := ih (i + 1) k (by omega) (by omega)
    simp only [spec_l2Sounds.l0]
    rw [if_pos (by omega), if_pos (by omega), spec_IsSound_f b0 b1 (by omega), nx (by omega), drop_bt s i (by omega), this]
    simp only [Option.bind_some, sndL, List.all_cons]
    cases snd (bt s (i : Int)) <;> simp
theorem spec_l2Sounds_f (s : ByteArray) (hs : s.size ≤ 140737488351232) {k : Nat} (hk : s.size + 8 < k) : spec_l2Sounds.f k s = some (sndL (bytesOf s) && decide (s.size ≤ 20)) := by
  have := spec_l2Sounds_l0 s hs s.size 0 k (by omega) (by omega)
  simpa [spec_l2Sounds.f] using this
theorem impl_areSounds_l0 (s : ByteArray) (hs : s.size ≤ 140737488351232) (d : Nat) : ∀ (i k : Nat), i + d = s.size → d < k →
    impl_areSounds.l0 k s (s.size : Int) (i : Int) = some (sndL ((bytesOf s).drop i) && decide (1 ≤ s.size ∧ s.size ≤ 20)) := by
  induction d with
  | zero =>
    intro i k h hk
    obtain ⟨k, rfl⟩ : ∃ m, k = m + 1 := ⟨k - 1, by omega⟩
    simp only [impl_areSounds.l0]
    rw [if_neg (by omega), List.drop_of_length_le (by rw [bytesOf_length]; omega), within_f]
    have e : decide (1 ≤ (s.size : Int) ∧ (s.size : Int) ≤ 20) = decide (1 ≤ s.size ∧ s.size ≤ 20) := by rw [decide_eq_decide]; omega
    rw [e]; simp [sndL]
  | succ d ih =>
    intro i k h hk
    obtain ⟨k, rfl⟩ : ∃ m, k = m + 1 := ⟨k - 1, by omega⟩
    obtain ⟨b0, b1⟩ := bt_range s (i : Int)
    have := ih (i + 1) k (by omega) (by omega)
    simp only [impl_areSounds.l0]
    rw [if_pos (by omega), if_pos (by omega), if_pos (by omega), impl_IsSound_f b0 b1, nx (by omega), drop_bt s i (by omega), this]
    simp only [Option.bind_some, sndL, List.all_cons]
    cases snd (bt s (i : Int)) <;> simp
theorem impl_areSounds_f (s : ByteArray) (hs : s.size ≤ 140737488351232) {k : Nat} (hk : s.size < k) : impl_areSounds.f k s = some (sndL (bytesOf s) && decide (1 ≤ s.size ∧ s.size ≤ 20)) := by
  have := impl_areSounds_l0 s hs s.size 0 k (by omega) (by omega)
  simpa [impl_areSounds.f] using this
/-- Is the string a form? -/
def isf (s : ByteArray) : Bool := sndL (bytesOf s) && decide (s.size ≤ 8)

/-! feat -/
/-- Has the byte the feature? -/
def ft (x f : Int) : Bool :=
  if f = 0 then (x == 97 || x == 105) else if f = 1 then (x == 98 || x == 100 || x == 110 || x == 97 || x == 105) else if f = 2 then x == 110 else if f = 3 then (x == 112 || x == 98) else if f = 4 then x == 105 else false

theorem spec_HasFeature_f (x f : Int) : spec_HasFeature.f x f = some (ft x f) := by
  unfold spec_HasFeature.f ft
  repeat' split
  all_goals simp_all

theorem impl_HasFeature_f {x : Int} (h0 : 0 ≤ x) (h1 : x ≤ 255) (f : Int) : impl_HasFeature.f x f = some (ft x f) := by
  by_cases h : 0 ≤ f ∧ f ≤ 4
  · obtain rfl | rfl | rfl | rfl | rfl : f = 0 ∨ f = 1 ∨ f = 2 ∨ f = 3 ∨ f = 4 := by omega
    · refine byte_cases (P := fun x => impl_HasFeature.f x 0 = some (ft x 0)) ?_ h0 h1; decide +kernel
    · refine byte_cases (P := fun x => impl_HasFeature.f x 1 = some (ft x 1)) ?_ h0 h1; decide +kernel
    · refine byte_cases (P := fun x => impl_HasFeature.f x 2 = some (ft x 2)) ?_ h0 h1; decide +kernel
    · refine byte_cases (P := fun x => impl_HasFeature.f x 3 = some (ft x 3)) ?_ h0 h1; decide +kernel
    · refine byte_cases (P := fun x => impl_HasFeature.f x 4 = some (ft x 4)) ?_ h0 h1; decide +kernel
  · unfold impl_HasFeature.f
    rw [within_f]; simp only [Option.bind_some]
    rw [if_neg (by simpa using h)]
    unfold ft
    rw [if_neg (by omega), if_neg (by omega), if_neg (by omega), if_neg (by omega), if_neg (by omega)]

/-! shared -/
/-- How many of the bytes have the feature. -/
def cnf (l : List Int) (f : Int) : Nat := l.countP fun x => ft x f
/-- What one feature adds. -/
def gf (n : Nat) (f : Int) (c : Nat) : List Int := if c = n then [f + 1] else if c = 0 then [-f - 1] else []
/-- What the features from m on add. -/
def shrF (l : List Int) : Nat → Nat → List Int
  | 0, _ => []
  | d + 1, m => gf l.length (m : Int) (cnf l (m : Int)) ++ shrF l d (m + 1)
theorem gf_le (n : Nat) (f : Int) (c : Nat) : (gf n f c).length ≤ 1 := by
  unfold gf
  repeat' split
  all_goals simp
theorem impl_sf_l1 (s : ByteArray) (hs : s.size ≤ 1048576) (f : Int) (hf : 0 ≤ f ∧ f ≤ 4) (acc : List Int) (ha : acc.length ≤ 10) (d : Nat) : ∀ (i n k : Nat), i + d = s.size → n ≤ i →
    impl_SharedFeatures.l1 (k + d + 1) s acc f (n : Int) f (s.size : Int) (i : Int) = impl_SharedFeatures.l0 k s (acc ++ gf s.size f (n + cnf ((bytesOf s).drop i) f)) (f + 1) := by
  induction d with
  | zero =>
    intro i n k h hn
    simp only [impl_SharedFeatures.l1]
    have e : (bytesOf s).drop i = [] := List.drop_of_length_le (by rw [bytesOf_length]; omega)
    have e1 : wrap64 (f + 1) = f + 1 := w64 (by omega) (by omega)
    have e2 : wrap64 (-f) = -f := w64 (by omega) (by omega)
    have e3 : wrap64 (-f - 1) = -f - 1 := w64 (by omega) (by omega)
    rw [if_neg (by omega), e, e1, e2, e3, show n + cnf [] f = n from by simp [cnf]]
    unfold gf
    by_cases h1 : n = s.size
    · rw [if_pos (by omega), if_pos (by omega), if_pos h1]
    · rw [if_neg (by omega), if_neg h1]
      by_cases h2 : n = 0
      · rw [if_pos (by omega), if_pos (by omega), if_pos h2]
      · rw [if_neg (by omega), if_neg h2, List.append_nil]
  | succ d ih =>
    intro i n k h hn
    obtain ⟨b0, b1⟩ := bt_range s (i : Int)
    rw [show k + (d + 1) + 1 = (k + d + 1) + 1 from by omega, impl_SharedFeatures.l1]
    rw [if_pos (by omega), if_pos (by omega), if_pos (by omega), impl_HasFeature_f b0 b1, nx (i := i) (by omega), nx (i := n) (by omega), drop_bt s i (by omega)]
    simp only [Option.bind_some, cnf, List.countP_cons]
    by_cases hb : ft (bt s (i : Int)) f = true
    · rw [if_pos hb, ih (i + 1) (n + 1) k (by omega) (by omega)]
      simp only [hb, if_true, cnf]; congr 3; omega
    · rw [if_neg hb, ih (i + 1) n k (by omega) (by omega)]
      simp [hb, cnf]
theorem spec_sf_l1 (s : ByteArray) (hs : s.size ≤ 1048576) (h1 : 1 ≤ s.size) (f : Int) (hf : 0 ≤ f ∧ f ≤ 4) (acc : List Int) (ha : acc.length ≤ 10) (d : Nat) : ∀ (i n k : Nat), i + d = s.size → n ≤ i →
    spec_SharedFeatures.l1 (k + d + 1) s acc f (n : Int) (i : Int) = spec_SharedFeatures.l0 k s (acc ++ gf s.size f (n + cnf ((bytesOf s).drop i) f)) (f + 1) := by
  induction d with
  | zero =>
    intro i n k h hn
    simp only [spec_SharedFeatures.l1]
    have e : (bytesOf s).drop i = [] := List.drop_of_length_le (by rw [bytesOf_length]; omega)
    have e1 : wrap64 (f + 1) = f + 1 := w64 (by omega) (by omega)
    have e2 : wrap64 (-f) = -f := w64 (by omega) (by omega)
    have e3 : wrap64 (-f - 1) = -f - 1 := w64 (by omega) (by omega)
    rw [if_neg (by omega), e, e1, e2, e3, show n + cnf [] f = n from by simp [cnf]]
    simp only [Option.bind_some]
    unfold gf
    by_cases h1 : n = s.size
    · rw [if_pos (by omega), if_pos (by omega), if_neg (by omega), if_pos h1]
    · rw [if_neg (by omega), if_neg h1]
      by_cases h2 : n = 0
      · rw [if_pos (by omega), if_pos (by omega), if_pos h2]
      · rw [if_neg (by omega), if_neg h2, List.append_nil]
  | succ d ih =>
    intro i n k h hn
    rw [show k + (d + 1) + 1 = (k + d + 1) + 1 from by omega, spec_SharedFeatures.l1]
    rw [if_pos (by omega), if_pos (by omega), spec_HasFeature_f, nx (i := i) (by omega), nx (i := n) (by omega), drop_bt s i (by omega)]
    simp only [Option.bind_some, cnf, List.countP_cons]
    by_cases hb : ft (bt s (i : Int)) f = true
    · rw [if_pos hb, ih (i + 1) (n + 1) k (by omega) (by omega)]
      simp only [hb, if_true, cnf]; congr 3; omega
    · rw [if_neg hb, ih (i + 1) n k (by omega) (by omega)]
      simp [hb, cnf]
theorem impl_sf_l0 (s : ByteArray) (hs : s.size ≤ 1048576) (d : Nat) : ∀ (m K : Nat) (acc : List Int), m + d = 5 → acc.length ≤ m →
    impl_SharedFeatures.l0 (K + (s.size + 2) * d + 1) s acc (m : Int) = some (acc ++ shrF (bytesOf s) d m) := by
  induction d with
  | zero =>
    intro m K acc h ha
    simp only [Nat.mul_zero, Nat.add_zero, impl_SharedFeatures.l0, shrF]
    rw [if_neg (by omega), List.append_nil]
  | succ d ih =>
    intro m K acc h ha
    have e : K + (s.size + 2) * (d + 1) + 1 = ((K + (s.size + 2) * d + 1) + s.size + 1) + 1 := by rw [Nat.mul_add]; omega
    rw [e, impl_SharedFeatures.l0, if_pos (by omega)]
    have := impl_sf_l1 s hs (m : Int) (by omega) acc (by omega) s.size 0 0 (K + (s.size + 2) * d + 1) (by omega) (by omega)
    rw [show ((0 : Nat) : Int) = 0 from rfl] at this
    rw [this, show (m : Int) + 1 = ((m + 1 : Nat) : Int) from by omega, ih (m + 1) K _ (by omega) (by
      have := gf_le s.size (m : Int) (0 + cnf ((bytesOf s).drop 0) (m : Int)); rw [List.length_append]; omega)]
    simp only [shrF, List.drop_zero, Nat.zero_add, bytesOf_length, List.append_assoc]
theorem spec_sf_l0 (s : ByteArray) (hs : s.size ≤ 1048576) (h1 : 1 ≤ s.size) (d : Nat) : ∀ (m K : Nat) (acc : List Int), m + d = 5 → acc.length ≤ m →
    spec_SharedFeatures.l0 (K + (s.size + 2) * d + 1) s acc (m : Int) = some (acc ++ shrF (bytesOf s) d m) := by
  induction d with
  | zero =>
    intro m K acc h ha
    simp only [Nat.mul_zero, Nat.add_zero, spec_SharedFeatures.l0, shrF]
    rw [if_neg (by omega), List.append_nil]
  | succ d ih =>
    intro m K acc h ha
    have e : K + (s.size + 2) * (d + 1) + 1 = ((K + (s.size + 2) * d + 1) + s.size + 1) + 1 := by rw [Nat.mul_add]; omega
    rw [e, spec_SharedFeatures.l0, if_pos (by omega)]
    have := spec_sf_l1 s hs h1 (m : Int) (by omega) acc (by omega) s.size 0 0 (K + (s.size + 2) * d + 1) (by omega) (by omega)
    rw [show ((0 : Nat) : Int) = 0 from rfl] at this
    rw [this, show (m : Int) + 1 = ((m + 1 : Nat) : Int) from by omega, ih (m + 1) K _ (by omega) (by
      have := gf_le s.size (m : Int) (0 + cnf ((bytesOf s).drop 0) (m : Int)); rw [List.length_append]; omega)]
    simp only [shrF, List.drop_zero, Nat.zero_add, bytesOf_length, List.append_assoc]
/-- Is it 1 to 20 sounds? -/
def ars (s : ByteArray) : Bool := sndL (bytesOf s) && decide (1 ≤ s.size ∧ s.size ≤ 20)
/-- What both SharedFeatures answer. -/
def shr_ (s : ByteArray) : List Int := if ars s = true then shrF (bytesOf s) 5 0 else []
theorem shrF_le (l : List Int) (d : Nat) : ∀ m, (shrF l d m).length ≤ d := by
  induction d with
  | zero => intro m; simp [shrF]
  | succ d ih => intro m; have := ih (m + 1); have := gf_le l.length (m : Int) (cnf l (m : Int)); simp only [shrF, List.length_append]; omega
theorem shr_le (s : ByteArray) : (shr_ s).length ≤ 5 := by
  unfold shr_
  split
  · exact shrF_le _ _ _
  · simp
theorem impl_SharedFeatures_f (s : ByteArray) (hs : s.size ≤ 1048576) {k : Nat} (hk : (s.size + 2) * 5 + 20 ≤ k) : impl_SharedFeatures.f k s = some (shr_ s) := by
  unfold impl_SharedFeatures.f shr_
  rw [impl_areSounds_f s (by omega) (by omega)]; simp only [Option.bind_some]
  rw [show (sndL (bytesOf s) && decide (1 ≤ s.size ∧ s.size ≤ 20)) = ars s from rfl]
  by_cases h : ars s = true
  · rw [if_pos h, if_pos h]
    obtain ⟨K, rfl⟩ : ∃ K, k = K + (s.size + 2) * 5 + 1 := ⟨k - (s.size + 2) * 5 - 1, by omega⟩
    have := impl_sf_l0 s hs 5 0 K [] (by omega) (by simp)
    simpa using this
  · rw [if_neg h, if_neg h]
theorem spec_SharedFeatures_f (s : ByteArray) (hs : s.size ≤ 1048576) {k : Nat} (hk : (s.size + 2) * 5 + 20 ≤ k) : spec_SharedFeatures.f k s = some (shr_ s) := by
  unfold spec_SharedFeatures.f shr_
  simp only [Option.bind_some]
  obtain ⟨K, rfl⟩ : ∃ K, k = (K + (s.size + 2) * 5 + 1) + 1 := ⟨k - (s.size + 2) * 5 - 2, by omega⟩
  by_cases h0 : s.size = 0
  · rw [if_pos ((toList_nil_iff s).2 h0), if_neg (by unfold ars; simp [h0])]
    simp only [spec_SharedFeatures.j0]; rw [if_pos trivial]
  · rw [if_neg (fun e => h0 ((toList_nil_iff s).1 e)), spec_l2Sounds_f s (by omega) (by omega)]
    simp only [Option.bind_some, spec_SharedFeatures.j0]
    have e : ars s = (sndL (bytesOf s) && decide (s.size ≤ 20)) := by
      unfold ars; congr 1; rw [decide_eq_decide]; omega
    rw [← e]
    by_cases h : ars s = true
    · rw [h, if_neg (by simp), if_pos rfl]
      have := spec_sf_l0 s hs (by omega) 5 0 K [] (by omega) (by simp)
      simpa using this
    · rw [if_neg h]; simp only [Bool.not_eq_true] at h; rw [h, if_pos (by simp)]

/-! natclass -/
/-- Does the byte fit what is shared? -/
def fits (l : List Int) (x : Int) : Bool := l.all fun f => ft x ((if f < 0 then -f else f) - 1) == decide (f > 0)
/-- The numbers that SharedFeatures tells. -/
def Feats (l : List Int) : Prop := ∀ f ∈ l, -5 ≤ f ∧ f ≤ 5 ∧ f ≠ 0
theorem gf_feats (n m c : Nat) (h : m ≤ 4) : Feats (gf n (m : Int) c) := by
  intro f hf
  unfold gf at hf
  split at hf
  · simp at hf; omega
  · split at hf
    · simp at hf; omega
    · simp at hf
theorem shrF_feats (l : List Int) (d : Nat) : ∀ m, m + d ≤ 5 → Feats (shrF l d m) := by
  induction d with
  | zero => intro m _ f hf; simp [shrF] at hf
  | succ d ih =>
    intro m h f hf
    simp only [shrF, List.mem_append] at hf
    rcases hf with hf | hf
    · exact gf_feats _ m _ (by omega) f hf
    · exact ih (m + 1) (by omega) f hf
theorem shr_feats (s : ByteArray) : Feats (shr_ s) := by
  unfold shr_; split
  · exact shrF_feats _ _ _ (by omega)
  · intro f hf; simp at hf
/-- The sounds from number i on that fit, behind what is there. -/
def ncF (l : List Int) : Nat → Nat → ByteArray → ByteArray
  | 0, _, acc => acc
  | d + 1, i, acc => if fits l (bt (⟨#[112, 116, 98, 100, 110, 97, 105]⟩ : ByteArray) (i : Int)) = true then ncF l d (i + 1) (acc ++ (⟨#[112, 116, 98, 100, 110, 97, 105]⟩ : ByteArray).extract i (i + 1)) else ncF l d (i + 1) acc
theorem rd_get (l : List Int) (t : Nat) (h : t < l.length) : rd l (t : Int) = l[t] := getD_nat l 0 t h
theorem impl_nc_l1 (l : List Int) (hf : Feats l) (hl : l.length ≤ 5) (acc : ByteArray) (i : Nat) (hi : i < 7) (ha : acc.size ≤ i) (d : Nat) : ∀ (t k : Nat) (b : Bool), t + d = l.length →
    impl_NaturalClass.l1 (k + d + 1) l acc (i : Int) b (i : Int) l (l.length : Int) (t : Int) =
      if (b && fits (l.drop t) (bt (⟨#[112, 116, 98, 100, 110, 97, 105]⟩ : ByteArray) (i : Int))) = true then impl_NaturalClass.l0 k l (acc ++ (⟨#[112, 116, 98, 100, 110, 97, 105]⟩ : ByteArray).extract i (i + 1)) ((i + 1 : Nat) : Int) else impl_NaturalClass.l0 k l acc ((i + 1 : Nat) : Int) := by
  induction d with
  | zero =>
    intro t k b h
    rw [impl_NaturalClass.l1, if_neg (by omega), List.drop_of_length_le (by omega), nx (by omega)]
    have he : ((⟨#[112, 116, 98, 100, 110, 97, 105]⟩ : ByteArray).extract ((i : Int)).toNat (((i + 1 : Nat) : Int)).toNat) = (⟨#[112, 116, 98, 100, 110, 97, 105]⟩ : ByteArray).extract i (i + 1) := by rw [Int.toNat_natCast, Int.toNat_natCast]
    rw [he]
    have hs : ((⟨#[112, 116, 98, 100, 110, 97, 105]⟩ : ByteArray).extract i (i + 1)).size ≤ 7 := by simp only [ByteArray.size_extract]; exact Nat.le_trans (Nat.sub_le _ _) (Nat.min_le_right _ _)
    cases b with
    | false => simp [fits]
    | true => rw [if_pos rfl, if_pos (by omega), if_pos (by omega), if_pos (by omega), if_pos (by omega)]; simp [fits]
  | succ d ih =>
    intro t k b h
    obtain ⟨b0, b1⟩ := bt_range (⟨#[112, 116, 98, 100, 110, 97, 105]⟩ : ByteArray) (i : Int)
    have hm := hf _ (List.getElem_mem (l := l) (n := t) (by omega))
    rw [show k + (d + 1) + 1 = (k + d + 1) + 1 from by omega, impl_NaturalClass.l1, if_pos (by omega), if_pos (by omega), if_pos (by omega), nx (i := t) (by omega), rd_get l t (by omega), List.drop_eq_getElem_cons (i := t) (by omega)]
    generalize l[t]'(by omega) = f at hm
    have e1 : wrap64 (-f) = -f := w64 (by omega) (by omega)
    have e2 : mx f (-f) = if f < 0 then -f else f := by unfold mx; split <;> split <;> omega
    have e3 : wrap64 ((if f < 0 then -f else f) - 1) = (if f < 0 then -f else f) - 1 := by split <;> exact w64 (by omega) (by omega)
    cases b with
    | false => rw [if_neg (by simp), ih (t + 1) k false (by omega)]; simp
    | true =>
      rw [if_pos rfl, if_pos (by omega), if_pos (by omega), e1, e2, e3, impl_HasFeature_f b0 b1]
      simp only [Option.bind_some]
      rw [ih (t + 1) k _ (by omega)]
      simp only [fits, List.all_cons, Bool.true_and]
      rfl
theorem impl_nc_l0 (l : List Int) (hf : Feats l) (hl : l.length ≤ 5) (d : Nat) : ∀ (i K : Nat) (acc : ByteArray), i + d = 7 → acc.size ≤ i →
    impl_NaturalClass.l0 (K + (l.length + 2) * d + 1) l acc (i : Int) = some (ncF l d i acc) := by
  induction d with
  | zero =>
    intro i K acc h ha
    rw [Nat.mul_zero, Nat.add_zero, impl_NaturalClass.l0, if_neg (by omega)]; rfl
  | succ d ih =>
    intro i K acc h ha
    have e : K + (l.length + 2) * (d + 1) + 1 = ((K + (l.length + 2) * d + 1) + l.length + 1) + 1 := by rw [Nat.mul_add]; omega
    rw [e, impl_NaturalClass.l0, if_pos (by omega)]
    have := impl_nc_l1 l hf hl acc i (by omega) ha l.length 0 (K + (l.length + 2) * d + 1) true (by omega)
    rw [show ((0 : Nat) : Int) = 0 from rfl, List.drop_zero, Bool.true_and] at this
    rw [this]
    have hs : (acc ++ (⟨#[112, 116, 98, 100, 110, 97, 105]⟩ : ByteArray).extract i (i + 1)).size ≤ i + 1 := by
      rw [ByteArray.size_append, ByteArray.size_extract]; omega
    simp only [ncF]
    by_cases hb : fits l (bt (⟨#[112, 116, 98, 100, 110, 97, 105]⟩ : ByteArray) (i : Int)) = true
    · rw [if_pos hb, if_pos hb]; exact ih (i + 1) K _ (by omega) hs
    · rw [if_neg hb, if_neg hb]; exact ih (i + 1) K _ (by omega) (by omega)
theorem spec_nc_l1 (s : ByteArray) (l : List Int) (hf : Feats l) (hl : l.length ≤ 5) (acc : ByteArray) (i : Nat) (hi : i < 7) (ha : acc.size ≤ i) (d : Nat) : ∀ (t k : Nat) (b : Bool), t + d = l.length →
    spec_NaturalClass.l1 (k + d + 1) s l acc (i : Int) b (t : Int) =
      if (b && fits (l.drop t) (bt (⟨#[112, 116, 98, 100, 110, 97, 105]⟩ : ByteArray) (i : Int))) = true then spec_NaturalClass.l0 k s l (acc ++ (⟨#[112, 116, 98, 100, 110, 97, 105]⟩ : ByteArray).extract i (i + 1)) ((i + 1 : Nat) : Int) else spec_NaturalClass.l0 k s l acc ((i + 1 : Nat) : Int) := by
  induction d with
  | zero =>
    intro t k b h
    rw [spec_NaturalClass.l1, if_neg (by omega), List.drop_of_length_le (by omega), nx (by omega)]
    have he : ((⟨#[112, 116, 98, 100, 110, 97, 105]⟩ : ByteArray).extract ((i : Int)).toNat (((i + 1 : Nat) : Int)).toNat) = (⟨#[112, 116, 98, 100, 110, 97, 105]⟩ : ByteArray).extract i (i + 1) := by rw [Int.toNat_natCast, Int.toNat_natCast]
    rw [he]
    have hs : ((⟨#[112, 116, 98, 100, 110, 97, 105]⟩ : ByteArray).extract i (i + 1)).size ≤ 7 := by simp only [ByteArray.size_extract]; exact Nat.le_trans (Nat.sub_le _ _) (Nat.min_le_right _ _)
    cases b with
    | false => simp [fits]
    | true => rw [if_pos rfl, if_pos (by omega), if_pos (by omega), if_pos (by omega), if_pos (by omega)]; simp [fits]
  | succ d ih =>
    intro t k b h
    have hm := hf _ (List.getElem_mem (l := l) (n := t) (by omega))
    rw [show k + (d + 1) + 1 = (k + d + 1) + 1 from by omega, spec_NaturalClass.l1, if_pos (by omega), if_pos (by omega), nx (i := t) (by omega), rd_get l t (by omega), List.drop_eq_getElem_cons (i := t) (by omega)]
    generalize l[t]'(by omega) = f at hm
    have e1 : wrap64 (-f) = -f := w64 (by omega) (by omega)
    have e2 : wrap64 (f - 1) = f - 1 := w64 (by omega) (by omega)
    have e3 : wrap64 (-f - 1) = -f - 1 := w64 (by omega) (by omega)
    by_cases hp : f > 0
    · rw [if_pos hp]
      cases b with
      | false => rw [if_neg (by simp), ih (t + 1) k false (by omega)]; simp
      | true =>
        rw [if_pos rfl, if_pos (by omega), if_pos (by omega), e2, spec_HasFeature_f]
        simp only [Option.bind_some]
        rw [ih (t + 1) k _ (by omega)]
        simp only [fits, List.all_cons, Bool.true_and, if_neg (show ¬ f < 0 by omega), decide_eq_true hp]
        simp
    · rw [if_neg hp]
      cases b with
      | false => rw [if_neg (by simp), ih (t + 1) k false (by omega)]; simp
      | true =>
        rw [if_pos rfl, if_pos (by omega), if_pos (by omega), e1, e3, spec_HasFeature_f]
        simp only [Option.bind_some]
        rw [ih (t + 1) k _ (by omega)]
        simp only [fits, List.all_cons, Bool.true_and, if_pos (show f < 0 by omega), decide_eq_false hp]
        simp
theorem spec_nc_l0 (s : ByteArray) (hs : s.size ≤ 1048576) (h1 : s.size ≠ 0) (h2 : ars s = true) (l : List Int) (hf : Feats l) (hl : l.length ≤ 5) (d : Nat) : ∀ (i K : Nat) (acc : ByteArray), i + d = 7 → acc.size ≤ i → s.size + 10 < K →
    spec_NaturalClass.l0 (K + (l.length + 3) * d + 2) s l acc (i : Int) = some (ncF l d i acc) := by
  have h3 : (sndL (bytesOf s) && decide (s.size ≤ 20)) = true := by
    unfold ars at h2; simp only [Bool.and_eq_true, decide_eq_true_eq] at h2 ⊢; exact ⟨h2.1, h2.2.2⟩
  have hnil : ¬ s.toList = ([] : List UInt8) := fun e => h1 ((toList_nil_iff s).1 e)
  induction d with
  | zero =>
    intro i K acc h ha hK
    rw [Nat.mul_zero, Nat.add_zero, spec_NaturalClass.l0, if_neg (by omega), spec_NaturalClass.j1, if_neg (by simp)]; rfl
  | succ d ih =>
    intro i K acc h ha hK
    have e : K + (l.length + 3) * (d + 1) + 2 = (((K + (l.length + 3) * d + 2) + l.length + 1) + 1) + 1 := by rw [Nat.mul_add]; omega
    rw [e, spec_NaturalClass.l0, if_pos (by omega), if_neg hnil, spec_l2Sounds_f s (by omega) (by omega), h3]
    simp only [Option.bind_some]
    rw [spec_NaturalClass.j1, if_pos rfl]
    have := spec_nc_l1 s l hf hl acc i (by omega) ha l.length 0 (K + (l.length + 3) * d + 2) true (by omega)
    rw [show ((0 : Nat) : Int) = 0 from rfl, List.drop_zero, Bool.true_and] at this
    rw [this]
    have hz : (acc ++ (⟨#[112, 116, 98, 100, 110, 97, 105]⟩ : ByteArray).extract i (i + 1)).size ≤ i + 1 := by
      rw [ByteArray.size_append, ByteArray.size_extract]; omega
    simp only [ncF]
    by_cases hb : fits l (bt (⟨#[112, 116, 98, 100, 110, 97, 105]⟩ : ByteArray) (i : Int)) = true
    · rw [if_pos hb, if_pos hb]; exact ih (i + 1) K _ (by omega) hz hK
    · rw [if_neg hb, if_neg hb]; exact ih (i + 1) K _ (by omega) (by omega) hK
/-- What both NaturalClass answer. -/
def nc (s : ByteArray) : ByteArray := if ars s = true then ncF (shr_ s) 7 0 ⟨#[]⟩ else ⟨#[]⟩
theorem impl_NaturalClass_f (s : ByteArray) (hs : s.size ≤ 1048576) {k : Nat} (hk : (s.size + 2) * 5 + 100 ≤ k) : impl_NaturalClass.f k s = some (nc s) := by
  unfold impl_NaturalClass.f nc
  rw [impl_SharedFeatures_f s hs (by omega), impl_areSounds_f s (by omega) (by omega)]; simp only [Option.bind_some]
  rw [show (sndL (bytesOf s) && decide (1 ≤ s.size ∧ s.size ≤ 20)) = ars s from rfl]
  by_cases h : ars s = true
  · rw [if_pos h, if_pos h]
    have hl := shr_le s
    obtain ⟨K, rfl⟩ : ∃ K, k = K + ((shr_ s).length + 2) * 7 + 1 := ⟨k - ((shr_ s).length + 2) * 7 - 1, by omega⟩
    exact impl_nc_l0 (shr_ s) (shr_feats s) hl 7 0 K ⟨#[]⟩ (by omega) (Nat.le_refl 0)
  · rw [if_neg h, if_neg h]
theorem spec_NaturalClass_f (s : ByteArray) (hs : s.size ≤ 1048576) {k : Nat} (hk : (s.size + 2) * 5 + 100 ≤ k) : spec_NaturalClass.f k s = some (nc s) := by
  unfold spec_NaturalClass.f nc
  rw [spec_SharedFeatures_f s hs (by omega)]; simp only [Option.bind_some]
  have hl := shr_le s
  by_cases h : ars s = true
  · rw [if_pos h]
    have h1 : s.size ≠ 0 := by
      intro h0; unfold ars at h; simp [h0] at h
    obtain ⟨K, rfl⟩ : ∃ K, k = K + ((shr_ s).length + 3) * 7 + 2 := ⟨k - ((shr_ s).length + 3) * 7 - 2, by omega⟩
    exact spec_nc_l0 s hs h1 h (shr_ s) (shr_feats s) hl 7 0 K ⟨#[]⟩ (by omega) (Nat.le_refl 0) (by omega)
  · rw [if_neg h]
    obtain ⟨k, rfl⟩ : ∃ m, k = (m + 1) + 1 := ⟨k - 2, by omega⟩
    rw [spec_NaturalClass.l0, if_pos (by omega)]
    by_cases h0 : s.size = 0
    · rw [if_pos ((toList_nil_iff s).2 h0), spec_NaturalClass.j1, if_neg (by simp)]
    · have e : ars s = (sndL (bytesOf s) && decide (s.size ≤ 20)) := by
        unfold ars; congr 1; rw [decide_eq_decide]; omega
      rw [if_neg (fun e => h0 ((toList_nil_iff s).1 e)), spec_l2Sounds_f s (by omega) (by omega), ← e]
      simp only [Option.bind_some]
      rw [spec_NaturalClass.j1, if_neg h]

/-! l1in -/
theorem l1In_f (a b c : Int) : spec_l1In.f a b c = some (decide (b ≤ a ∧ a ≤ c)) := by
  unfold spec_l1In.f; by_cases h : a ≥ b
  · rw [if_pos h]; simp [h]
  · rw [if_neg h]; simp; omega

/-! soundswith -/
theorem impl_sw_out (f : Int) (yes : Bool) (h : ¬ (0 ≤ f ∧ f ≤ 4)) (d : Nat) : ∀ (i k : Nat), i + d = 7 → d < k → impl_SoundsWith.l0 k f yes (⟨#[]⟩ : ByteArray) (i : Int) = some (⟨#[]⟩ : ByteArray) := by
  induction d with
  | zero =>
    intro i k hi hk
    obtain ⟨k, rfl⟩ : ∃ m, k = m + 1 := ⟨k - 1, by omega⟩
    simp only [impl_SoundsWith.l0]; rw [if_neg (by omega)]
  | succ d ih =>
    intro i k hi hk
    obtain ⟨k, rfl⟩ : ∃ m, k = m + 1 := ⟨k - 1, by omega⟩
    simp only [impl_SoundsWith.l0]
    rw [if_pos (by omega), within_f]; simp only [Option.bind_some]
    rw [if_neg (by simpa using h), nx (by omega)]
    exact ih (i + 1) k (by omega) (by omega)
/-- Both SoundsWith answer the same. -/
theorem soundswith (f : Int) (yes : Bool) {k : Nat} (hk : 20 ≤ k) : ∃ r, spec_SoundsWith.f k f yes = some r ∧ impl_SoundsWith.f k f yes = some r := by
  have up : ∀ r, spec_SoundsWith.f 20 f yes = some r → impl_SoundsWith.f 20 f yes = some r → ∃ r, spec_SoundsWith.f k f yes = some r ∧ impl_SoundsWith.f k f yes = some r := fun r h1 h2 =>
    ⟨r, at_rounds (g := fun k => spec_SoundsWith.f k f yes) (fun k => spec_SoundsWith.mono f yes k) hk h1, at_rounds (g := fun k => impl_SoundsWith.f k f yes) (fun k => impl_SoundsWith.mono f yes k) hk h2⟩
  by_cases h : 0 ≤ f ∧ f ≤ 4
  · have key : ∀ (f : Fin 5) (yes : Bool), (spec_SoundsWith.f 20 ((f.val : Nat) : Int) yes).isSome = true ∧ impl_SoundsWith.f 20 ((f.val : Nat) : Int) yes = spec_SoundsWith.f 20 ((f.val : Nat) : Int) yes := by decide +kernel
    obtain ⟨m, rfl⟩ := Int.eq_ofNat_of_zero_le h.1
    obtain ⟨k1, k2⟩ := key ⟨m, by omega⟩ yes
    obtain ⟨r, hr⟩ := Option.isSome_iff_exists.1 k1
    exact up r hr (k2.trans hr)
  · refine up (⟨#[]⟩ : ByteArray) ?_ (by have := impl_sw_out f yes h 7 0 20 (by omega) (by omega); exact this)
    simp only [spec_SoundsWith.f, spec_SoundsWith.l0]
    rw [if_pos (by omega), l1In_f]; simp only [Option.bind_some]
    have e : decide (0 ≤ f ∧ f ≤ 4) = false := by simpa using h
    rw [e]
    simp only [spec_SoundsWith.j1]
    rfl

theorem draw_b (l : List Int) (hl : l.length ≤ 1048576) {k : Nat} (hk : 4001 ≤ k) : ∃ x, spec_DrawSwapVoice.f k l = some x ∧ 0 ≤ x ∧ x ≤ 255 := by
  unfold spec_DrawSwapVoice.f
  obtain ⟨h, e⟩ := l1New_f l hk
  obtain ⟨x, i', h', e1, x0, x1, _⟩ := l1In1_f l hl 0 h ⟨by omega, by omega⟩
  rw [e]; simp only [Option.bind_some]
  rw [e1]; exact ⟨_, rfl, x0, x1⟩
theorem draw_nc (l : List Int) (hl : l.length ≤ 1048576) {k : Nat} (hk : 4001 ≤ k) : ∃ s, spec_DrawNaturalClass.f k l = some s ∧ s.size ≤ 5 := by
  unfold spec_DrawNaturalClass.f
  obtain ⟨h, e⟩ := l1New_f l hk
  obtain ⟨x, i', h', e1, x0, _⟩ := l2Text_f l hl 0 h ⟨by omega, by omega⟩ (k := k) (by omega)
  rw [e]; simp only [Option.bind_some]
  rw [e1]; exact ⟨_, rfl, x0⟩
theorem draw_hf (l : List Int) (hl : l.length ≤ 1048576) {k : Nat} (hk : 4001 ≤ k) : ∃ x f, spec_DrawHasFeature.f k l = some (x, f) ∧ 0 ≤ x ∧ x ≤ 255 := by
  unfold spec_DrawHasFeature.f
  obtain ⟨h, e⟩ := l1New_f l hk
  obtain ⟨x, i', h', e1, x0, x1, hc⟩ := l1In1_f l hl 0 h ⟨by omega, by omega⟩
  obtain ⟨y, i2, h2, e2, _⟩ := l1Below_f l hl i' h' hc 7 (by decide) (by decide)
  rw [e]; simp only [Option.bind_some]
  rw [e1]; simp only [Option.bind_some]
  rw [e2]; exact ⟨_, _, rfl, x0, x1⟩
theorem draw_sw (l : List Int) (hl : l.length ≤ 1048576) {k : Nat} (hk : 4001 ≤ k) : ∃ f b, spec_DrawSoundsWith.f k l = some (f, b) := by
  unfold spec_DrawSoundsWith.f
  obtain ⟨h, e⟩ := l1New_f l hk
  obtain ⟨y, i2, h2, e2, _, _, hc⟩ := l1Below_f l hl 0 h ⟨by omega, by omega⟩ 7 (by decide) (by decide)
  obtain ⟨b, i3, h3, e3, _⟩ := l1Once_f l hl i2 h2 hc 2 (by decide) (by decide)
  rw [e]; simp only [Option.bind_some]
  rw [e2]; simp only [Option.bind_some]
  rw [e3]; exact ⟨_, _, rfl⟩
theorem ncF_size (l : List Int) (d : Nat) : ∀ (i : Nat) (acc : ByteArray), (ncF l d i acc).size ≤ acc.size + d := by
  induction d with
  | zero => intro i acc; exact Nat.le_refl _
  | succ d ih =>
    intro i acc
    simp only [ncF]
    split
    · have := ih (i + 1) (acc ++ (⟨#[112, 116, 98, 100, 110, 97, 105]⟩ : ByteArray).extract i (i + 1))
      have h : ((⟨#[112, 116, 98, 100, 110, 97, 105]⟩ : ByteArray).extract i (i + 1)).size ≤ 1 := by rw [ByteArray.size_extract]; omega
      rw [ByteArray.size_append] at this
      omega
    · have := ih (i + 1) acc; omega
theorem nc_size (s : ByteArray) : (nc s).size ≤ 7 := by
  unfold nc
  split
  · have := ncF_size (shr_ s) 7 0 ⟨#[]⟩
    have h : (⟨#[]⟩ : ByteArray).size = 0 := rfl
    omega
  · exact Nat.zero_le _
theorem draw_inc (l : List Int) (hl : l.length ≤ 1048576) {k : Nat} (hk : 4001 ≤ k) : ∃ s, spec_DrawIsNaturalClass.f k l = some s ∧ s.size ≤ 7 := by
  unfold spec_DrawIsNaturalClass.f
  obtain ⟨h, e⟩ := l1New_f l hk
  obtain ⟨x, i', h', e1, x0, hc⟩ := l2Text_f l hl 0 h ⟨by omega, by omega⟩ (k := k) (by omega)
  obtain ⟨b, i3, h3, e3, _⟩ := l1Once_f l hl i' h' hc 2 (by decide) (by decide)
  rw [e]; simp only [Option.bind_some]
  rw [e1]; simp only [Option.bind_some]
  rw [e3]; simp only [Option.bind_some]
  cases b
  · rw [if_neg Bool.false_ne_true]; exact ⟨_, rfl, by omega⟩
  · rw [if_pos rfl, spec_NaturalClass_f x (by omega) (by omega)]; exact ⟨_, rfl, nc_size x⟩

/-- What one feature may add. -/
def pk (f : Int) (j : Fin 3) : List Int := if j = 0 then [f + 1] else if j = 1 then [-f - 1] else []
theorem gf_pk (n : Nat) (f : Int) (c : Nat) : ∃ j, gf n f c = pk f j := by
  unfold gf
  split
  · exact ⟨0, rfl⟩
  · split
    · exact ⟨1, rfl⟩
    · exact ⟨2, rfl⟩
theorem shrF_pk (l : List Int) : ∃ a b c d e, shrF l 5 0 = pk 0 a ++ (pk 1 b ++ (pk 2 c ++ (pk 3 d ++ (pk 4 e ++ [])))) := by
  obtain ⟨a, ha⟩ := gf_pk l.length 0 (cnf l 0)
  obtain ⟨b, hb⟩ := gf_pk l.length 1 (cnf l 1)
  obtain ⟨c, hc⟩ := gf_pk l.length 2 (cnf l 2)
  obtain ⟨d, hd⟩ := gf_pk l.length 3 (cnf l 3)
  obtain ⟨e, he⟩ := gf_pk l.length 4 (cnf l 4)
  refine ⟨a, b, c, d, e, ?_⟩
  rw [← ha, ← hb, ← hc, ← hd, ← he]
  rfl
/-- A class out of a list of features is its own class, unless it is empty. -/
def ncOk (L : List Int) : Bool :=
  decide ((ncF L 7 0 ⟨#[]⟩).size = 0) || (ars (ncF L 7 0 ⟨#[]⟩) && ((ncF (shrF (bytesOf (ncF L 7 0 ⟨#[]⟩)) 5 0) 7 0 ⟨#[]⟩).data.toList == (ncF L 7 0 ⟨#[]⟩).data.toList))
theorem ncOk_all : ∀ a b c d e : Fin 3, ncOk (pk 0 a ++ (pk 1 b ++ (pk 2 c ++ (pk 3 d ++ (pk 4 e ++ []))))) = true := by decide +kernel
theorem nc_pos {s : ByteArray} (h : ars s = true) : nc s = ncF (shrF (bytesOf s) 5 0) 7 0 ⟨#[]⟩ := by unfold nc shr_; rw [if_pos h, if_pos h]
theorem nc_nc (s : ByteArray) (h : ¬ (nc s).toList = ([] : List UInt8)) : nc (nc s) = nc s := by
  have h0 : (nc s).size ≠ 0 := fun e => h ((toList_nil_iff _).2 e)
  by_cases hs : ars s = true
  · have e := nc_pos hs
    obtain ⟨a, b, c, d, f, ep⟩ := shrF_pk (bytesOf s)
    have hk := ncOk_all a b c d f
    rw [← ep] at hk
    unfold ncOk at hk
    rw [← e] at hk
    simp only [Bool.or_eq_true, Bool.and_eq_true, decide_eq_true_eq, beq_iff_eq] at hk
    rcases hk with hk | ⟨hk1, hk2⟩
    · exact absurd hk h0
    · apply ba_ext
      rw [nc_pos hk1]
      exact hk2
  · exact absurd (show (nc s).size = 0 by unfold nc; rw [if_neg hs]; rfl) h0

theorem svr_svr {x : Int} (h0 : 0 ≤ x) (h1 : x ≤ 255) : (svr (svr x).1).1 = x ∧ 0 ≤ (svr x).1 ∧ (svr x).1 ≤ 255 := by
  refine byte_cases (P := fun x => (svr (svr x).1).1 = x ∧ 0 ≤ (svr x).1 ∧ (svr x).1 ≤ 255) ?_ h0 h1; decide +kernel
theorem obst {x : Int} (h0 : 0 ≤ x) (h1 : x ≤ 255) : impl_IsObstruent.f x = some (svr x).2 := by
  refine byte_cases (P := fun x => impl_IsObstruent.f x = some (svr x).2) ?_ h0 h1; decide +kernel

theorem sameInts_l0 (l : List Int) (hl : l.length ≤ 1048576) (d : Nat) : ∀ (i k : Nat), i + d = l.length → d < k → laws_sameInts.l0 k l l (i : Int) = some true := by
  induction d with
  | zero =>
    intro i k h hk
    obtain ⟨k, rfl⟩ : ∃ m, k = m + 1 := ⟨k - 1, by omega⟩
    rw [laws_sameInts.l0, if_neg (by omega)]
  | succ d ih =>
    intro i k h hk
    obtain ⟨k, rfl⟩ : ∃ m, k = m + 1 := ⟨k - 1, by omega⟩
    rw [laws_sameInts.l0, if_pos (by omega), if_pos (by omega), if_pos (by omega), if_pos rfl, nx (i := i) (by omega)]
    exact ih (i + 1) k (by omega) (by omega)
theorem sameInts_refl (l : List Int) (hl : l.length ≤ 1048576) {k : Nat} (hk : l.length < k) : laws_sameInts.f k l l = some true := by
  unfold laws_sameInts.f
  rw [if_pos rfl]
  exact sameInts_l0 l hl l.length 0 k (by omega) hk
theorem bne_self_ (b : Bool) : (b != b) = false := by cases b <;> rfl

theorem sounds_j1 (l : List Int) (hl : l.length ≤ 1048576) {k : Nat} (hk : 5000 ≤ k) : laws_FnSounds.j1 k l false = some true := by
  obtain ⟨k, rfl⟩ : ∃ m, k = m + 1 := ⟨k - 1, by omega⟩
  obtain ⟨x, f, e1, x0, x1⟩ := draw_hf l hl (k := k) (by omega)
  obtain ⟨g, b, e2⟩ := draw_sw l hl (k := k) (by omega)
  obtain ⟨t, e3, ht⟩ := draw_inc l hl (k := k) (by omega)
  obtain ⟨r, h1, h2⟩ := soundswith g b (k := k) (by omega)
  rw [laws_FnSounds.j1, if_neg Bool.false_ne_true, e1]; simp only [Option.bind_some]
  rw [e2]; simp only [Option.bind_some]
  rw [e3]; simp only [Option.bind_some]
  rw [impl_HasFeature_f x0 x1, spec_HasFeature_f]; simp only [Option.bind_some]
  rw [if_pos (by simp), h1, h2]; simp only [Option.bind_some]
  rw [if_pos trivial]
  unfold spec_IsNaturalClass.f impl_IsNaturalClass.f
  rw [spec_NaturalClass_f t (by omega) (by omega), impl_NaturalClass_f t (by omega) (by omega)]
  by_cases h : t.toList = ([] : List UInt8)
  · simp [h]
  · simp [h]
theorem FnSounds : laws_FnSounds.Pure := by
  intro l _ hl hx
  refine ⟨8000 + 1, ?_⟩
  unfold laws_FnSounds.f laws_big.f
  simp only [Option.bind_some]
  by_cases hn : (l.length : Int) > 1048576
  · rw [if_pos (decide_eq_true hn)]
  · rw [if_neg (fun h => hn (of_decide_eq_true h))]
    have hl : l.length ≤ 1048576 := by omega
    obtain ⟨x, e1, x0, x1⟩ := draw_b l hl (k := 8000 + 1) (by decide)
    obtain ⟨s, e2, hs⟩ := draw_nc l hl (k := 8000) (by decide)
    obtain ⟨v1, v2, v3⟩ := svr_svr x0 x1
    have hnc := nc_size s
    have hj := sounds_j1 l hl (k := 8000) (by decide)
    rw [e1]; simp only [Option.bind_some]
    rw [impl_SwapVoice_f x0 x1, spec_SwapVoice_f]; simp only [Option.bind_some]
    rw [if_pos trivial, bne_self_, if_neg Bool.false_ne_true, obst x0 x1]; simp only [Option.bind_some]
    rw [bne_self_, if_neg Bool.false_ne_true, impl_IsSound_f x0 x1, spec_IsSound_f x0 x1 (by decide)]; simp only [Option.bind_some]
    rw [bne_self_, laws_FnSounds.j0, if_neg Bool.false_ne_true, impl_SwapVoice_f v2 v3]; simp only [Option.bind_some]
    rw [if_pos v1, e2]; simp only [Option.bind_some]
    rw [impl_NaturalClass_f s (by omega) (by omega), spec_NaturalClass_f s (by omega) (by omega)]; simp only [Option.bind_some]
    rw [if_pos trivial, impl_SharedFeatures_f s (by omega) (by omega), spec_SharedFeatures_f s (by omega) (by omega)]; simp only [Option.bind_some]
    have hse : laws_sameInts.f 8000 (shr_ s) (shr_ s) = some true := sameInts_refl _ (by have := shr_le s; omega) (by have := shr_le s; omega)
    rw [hse]; simp only [Option.bind_some, Bool.not_true]
    by_cases h : (nc s).toList = ([] : List UInt8)
    · rw [if_pos h]; exact hj
    · rw [if_neg h, impl_NaturalClass_f (nc s) (by omega) (by omega)]; simp only [Option.bind_some]
      rw [nc_nc s h, if_pos rfl]
      unfold impl_IsNaturalClass.f
      rw [if_neg h, impl_NaturalClass_f (nc s) (by omega) (by omega), nc_nc s h]; simp only [Option.bind_some]
      rw [if_pos (by simp)]; exact hj

end Go.Proofs.Ytkjpbhncgjhfeaa.Pure
