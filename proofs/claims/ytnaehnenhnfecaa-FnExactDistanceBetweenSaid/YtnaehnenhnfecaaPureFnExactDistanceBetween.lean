/- For any two strings, DistanceBetween of the program and of the reference hand back the same number. -/
import Derived.Test.YtnaehnenhnfecaaPFnExactDistanceBetweenx2
import Derived.Test.YtnaehnenhnfecaaBase
namespace Go.Proofs.Ytnaehnenhnfecaa.Pure
open Go.RowKit Go.Proofs.Ytnaehnenhnfecaa.PFnExactDistanceBetween Go.Proofs.YtnaehnenhnfecaaW.PrintWords Go.Proofs.YtnaehnenhnfecaaW.PrintLast Go.Proofs.YtnaehnenhnfecaaW.PrintMore Go.Proofs.Ytnaehnenhnfecaa.Base
set_option linter.unusedVariables false
set_option linter.unusedSimpArgs false

/-! sounds -/
/-- Facts on single bytes, tried at each of the 256. -/
theorem byte_cases {P : Int → Prop} (h : ∀ n : Fin 256, P ((n.val : Nat) : Int)) {x : Int} (h0 : 0 ≤ x) (h1 : x ≤ 255) : P x := by
  obtain ⟨m, rfl⟩ := Int.eq_ofNat_of_zero_le h0
  exact h ⟨m, by omega⟩

/-! within -/
theorem within_f (a b c : Int) : impl_within.f a b c = some (decide (b ≤ a ∧ a ≤ c)) := by
  unfold impl_within.f; by_cases h : b ≤ a
  · rw [if_pos h]; simp [h]
  · rw [if_neg h]; simp; omega

/-! isform -/
/-- Is the byte a sound? -/
def snd (x : Int) : Bool := x == 112 || x == 116 || x == 98 || x == 100 || x == 110 || x == 97 || x == 105
theorem impl_IsSound_f {x : Int} (h0 : 0 ≤ x) (h1 : x ≤ 255) : impl_IsSound.f x = some (snd x) := by
  refine byte_cases (P := fun x => impl_IsSound.f x = some (snd x)) ?_ h0 h1; decide +kernel
theorem spec_IsSound_f {x : Int} (h0 : 0 ≤ x) (h1 : x ≤ 255) {k : Nat} (hk : 8 ≤ k) : spec_IsSound.f k x = some (snd x) := by
  have h : spec_IsSound.f 8 x = some (snd x) := by
    refine byte_cases (P := fun x => spec_IsSound.f 8 x = some (snd x)) ?_ h0 h1; decide +kernel
  exact at_rounds (g := fun k => spec_IsSound.f k x) (fun k => spec_IsSound.mono x k) hk h

/-- Are all bytes sounds? -/
def sndL (l : List Int) : Bool := l.all snd
theorem spec_l2Sounds_l0 (s : ByteArray) (hs : s.size ≤ 140737488351232) (d : Nat) : ∀ (i k : Nat), i + d = s.size → d + 8 < k →
    spec_l2Sounds.l0 k s (i : Int) = some (sndL ((bytesOf s).drop i) && decide (s.size ≤ 20)) := by
  induction d with
  | zero =>
    intro i k h hk
    obtain ⟨k, rfl⟩ : ∃ m, k = m + 1 := ⟨k - 1, by omega⟩
    simp only [spec_l2Sounds.l0]
    rw [if_neg (by omega), List.drop_of_length_le (by rw [bytesOf_length]; omega)]
    simp [sndL]; omega
  | succ d ih =>
    intro i k h hk
    obtain ⟨k, rfl⟩ : ∃ m, k = m + 1 := ⟨k - 1, by omega⟩
    obtain ⟨b0, b1⟩ := bt_range s (i : Int)
    have := ih (i + 1) k (by omega) (by omega)
    simp only [spec_l2Sounds.l0]
    rw [if_pos (by omega), if_pos (by omega), spec_IsSound_f b0 b1 (by omega), nx (by omega), drop_bt s i (by omega), this]
    simp only [Option.bind_some, sndL, List.all_cons]
    cases snd (bt s (i : Int)) <;> simp
theorem spec_l2Sounds_f (s : ByteArray) (hs : s.size ≤ 140737488351232) {k : Nat} (hk : s.size + 8 < k) : spec_l2Sounds.f k s = some (sndL (bytesOf s) && decide (s.size ≤ 20)) := by
  have := spec_l2Sounds_l0 s hs s.size 0 k (by omega) (by omega)
  simpa [spec_l2Sounds.f] using this
theorem impl_areSounds_l0 (s : ByteArray) (hs : s.size ≤ 140737488351232) (d : Nat) : ∀ (i k : Nat), i + d = s.size → d < k →
    impl_areSounds.l0 k s (s.size : Int) (i : Int) = some (sndL ((bytesOf s).drop i) && decide (1 ≤ s.size ∧ s.size ≤ 20)) := by
  induction d with
  | zero =>
    intro i k h hk
    obtain ⟨k, rfl⟩ : ∃ m, k = m + 1 := ⟨k - 1, by omega⟩
    simp only [impl_areSounds.l0]
    rw [if_neg (by omega), List.drop_of_length_le (by rw [bytesOf_length]; omega), within_f]
    have e : decide (1 ≤ (s.size : Int) ∧ (s.size : Int) ≤ 20) = decide (1 ≤ s.size ∧ s.size ≤ 20) := by rw [decide_eq_decide]; omega
    rw [e]; simp [sndL]
  | succ d ih =>
    intro i k h hk
    obtain ⟨k, rfl⟩ : ∃ m, k = m + 1 := ⟨k - 1, by omega⟩
    obtain ⟨b0, b1⟩ := bt_range s (i : Int)
    have := ih (i + 1) k (by omega) (by omega)
    simp only [impl_areSounds.l0]
    rw [if_pos (by omega), if_pos (by omega), if_pos (by omega), impl_IsSound_f b0 b1, nx (by omega), drop_bt s i (by omega), this]
    simp only [Option.bind_some, sndL, List.all_cons]
    cases snd (bt s (i : Int)) <;> simp
theorem impl_areSounds_f (s : ByteArray) (hs : s.size ≤ 140737488351232) {k : Nat} (hk : s.size < k) : impl_areSounds.f k s = some (sndL (bytesOf s) && decide (1 ≤ s.size ∧ s.size ≤ 20)) := by
  have := impl_areSounds_l0 s hs s.size 0 k (by omega) (by omega)
  simpa [impl_areSounds.f] using this
/-- Is the string a form? -/
def isf (s : ByteArray) : Bool := sndL (bytesOf s) && decide (s.size ≤ 8)

/-! isform2 -/
theorem spec_IsForm_f (s : ByteArray) (hs : s.size ≤ 140737488351232) {k : Nat} (hk : s.size + 8 < k) : spec_IsForm.f k s = some (isf s) := by
  unfold spec_IsForm.f isf
  rw [spec_l2Sounds_f s hs hk]; simp only [Option.bind_some]
  by_cases h : s.size ≤ 8
  · cases sndL (bytesOf s)
    · simp
    · simp [h, show s.size ≤ 20 from by omega]; omega
  · by_cases h2 : s.size ≤ 20
    · cases sndL (bytesOf s) <;> simp [h, h2] <;> omega
    · simp [h, h2]
theorem impl_IsForm_f (s : ByteArray) (hs : s.size ≤ 140737488351232) {k : Nat} (hk : s.size < k) : impl_IsForm.f k s = some (isf s) := by
  unfold impl_IsForm.f isf
  by_cases h : s.size = 0
  · rw [if_pos ((toList_nil_iff s).2 h)]
    have : bytesOf s = [] := List.eq_nil_of_length_eq_zero (by rw [bytesOf_length]; exact h)
    simp [this, sndL, h]
  · rw [if_neg (fun e => h ((toList_nil_iff s).1 e))]
    by_cases h8 : s.size ≤ 8
    · rw [if_pos (by omega), impl_areSounds_f s hs hk]
      have e : decide (1 ≤ s.size ∧ s.size ≤ 20) = true := by simp; omega
      simp [h8, e]
    · rw [if_neg (by omega)]; simp [h8]

/-! lev -/
theorem lev_zero (a b : ByteArray) (k : Nat) : impl_DistanceBetween.lev a b 0 k = k := by rw [impl_DistanceBetween.lev]
theorem lev_left (a b : ByteArray) (i : Nat) : impl_DistanceBetween.lev a b i 0 = i := by
  cases i with
  | zero => rw [impl_DistanceBetween.lev]
  | succ i => rw [impl_DistanceBetween.lev]
theorem lev_step (a b : ByteArray) (i k : Nat) : impl_DistanceBetween.lev a b (i + 1) (k + 1) = if bt a (i : Int) = bt b (k : Int) then impl_DistanceBetween.lev a b i k else 1 + min (min (impl_DistanceBetween.lev a b i (k + 1)) (impl_DistanceBetween.lev a b (i + 1) k)) (impl_DistanceBetween.lev a b i k) := by
  rw [impl_DistanceBetween.lev]
/-- What stands beside and above differs by one at most. -/
theorem lev_near (a b : ByteArray) (n : Nat) : ∀ i k, i + k = n →
    (impl_DistanceBetween.lev a b i (k + 1) ≤ impl_DistanceBetween.lev a b i k + 1 ∧ impl_DistanceBetween.lev a b i k ≤ impl_DistanceBetween.lev a b i (k + 1) + 1) ∧
    (impl_DistanceBetween.lev a b (i + 1) k ≤ impl_DistanceBetween.lev a b i k + 1 ∧ impl_DistanceBetween.lev a b i k ≤ impl_DistanceBetween.lev a b (i + 1) k + 1) := by
  induction n using Nat.strongRecOn with
  | _ n ih =>
    intro i k h
    constructor
    · cases i with
      | zero => rw [lev_zero, lev_zero]; omega
      | succ i =>
        obtain ⟨⟨h1, h2⟩, h3, h4⟩ := ih (i + k) (by omega) i k rfl
        rw [lev_step]
        split <;> omega
    · cases k with
      | zero => rw [lev_left, lev_left]; omega
      | succ k =>
        obtain ⟨⟨h1, h2⟩, h3, h4⟩ := ih (i + k) (by omega) i k rfl
        rw [lev_step]
        split <;> omega
theorem lev_le (a b : ByteArray) (k : Nat) : ∀ i, impl_DistanceBetween.lev a b i k ≤ i + k := by
  induction k with
  | zero => intro i; rw [lev_left]; omega
  | succ k ih => intro i; have := ih i; have := (lev_near a b (i + k) i k rfl).1.1; omega
theorem tab_snoc {α : Type} (G : Nat → α) (n : Nat) : tab G (n + 1) = tab G n ++ [G n] := by simp [tab, List.range_succ]
theorem rd_tab (G : Nat → Int) (n i : Nat) (h : i < n) : rd (tab G n) (i : Int) = G i := tab_getD G _ n i h
theorem px {i : Nat} (h : i < 4611686018427387904) : wrap64 (((i + 1 : Nat) : Int) - 1) = (i : Int) := by rw [w64 (by omega) (by omega)]; omega
theorem mn_nat (x y : Nat) : mn (x : Int) (y : Int) = ((min x y : Nat) : Int) := by unfold mn; split <;> omega
theorem min_eqA {A B C L : Nat} (hs : L = C) (h1 : C ≤ A + 1) (h2 : C ≤ B + 1) : min (min A B + 1) C = L := by omega
theorem min_eqB {A B C L : Nat} (hs : L = 1 + min (min A B) C) : min (min A B + 1) (C + 1) = L := by omega
set_option maxHeartbeats 2000000 in
theorem spec_dist_l2 (a b : ByteArray) (i : Nat) (hi : i < a.size) (ha : a.size ≤ 8) (hb : b.size ≤ 8) (d : Nat) : ∀ (k K : Nat), k + d = b.size →
    spec_DistanceBetween.l2 (K + d + 1) a b (tab (fun j => (impl_DistanceBetween.lev a b i j : Int)) (b.size + 1)) ((i + 1 : Nat) : Int) (tab (fun j => (impl_DistanceBetween.lev a b (i + 1) j : Int)) (k + 1)) ((k + 1 : Nat) : Int) =
      spec_DistanceBetween.l1 K a b (tab (fun j => (impl_DistanceBetween.lev a b (i + 1) j : Int)) (b.size + 1)) ((i + 1 + 1 : Nat) : Int) := by
  induction d with
  | zero =>
    intro k K h
    rw [show K + 0 + 1 = K + 1 from rfl, spec_DistanceBetween.l2, if_neg (by omega), nx (i := i + 1) (by omega), show k = b.size from by omega]
  | succ d ih =>
    intro k K h
    have hl1 := lev_le a b k i
    have hl2 := lev_le a b (k + 1) i
    have hl3 := lev_le a b k (i + 1)
    obtain ⟨⟨h1, h2⟩, h3, h4⟩ := lev_near a b (i + k) i k rfl
    have hs := lev_step a b i k
    have g1 : ((k + 1 : Nat) : Int) ≤ (b.size : Int) := by omega
    have g2 : 0 ≤ ((k + 1 : Nat) : Int) := by omega
    have g3 : ((k + 1 : Nat) : Int) < ((tab (fun j => (impl_DistanceBetween.lev a b i j : Int)) (b.size + 1)).length : Int) := by rw [tab_length]; omega
    have g4 : 0 ≤ (k : Int) := by omega
    have g5 : (k : Int) < ((tab (fun j => (impl_DistanceBetween.lev a b (i + 1) j : Int)) (k + 1)).length : Int) := by rw [tab_length]; omega
    have g6 : 0 ≤ (i : Int) := by omega
    have g7 : (i : Int) < (a.size : Int) := by omega
    have g8 : (k : Int) < (b.size : Int) := by omega
    have g9 : (k : Int) < ((tab (fun j => (impl_DistanceBetween.lev a b i j : Int)) (b.size + 1)).length : Int) := by rw [tab_length]; omega
    have g10 : (tab (fun j => (impl_DistanceBetween.lev a b (i + 1) j : Int)) (k + 1)).length < 17592186044416 := by rw [tab_length]; omega
    have r1 : rd (tab (fun j => (impl_DistanceBetween.lev a b i j : Int)) (b.size + 1)) ((k + 1 : Nat) : Int) = (impl_DistanceBetween.lev a b i (k + 1) : Int) := rd_tab _ _ _ (by omega)
    have r2 : rd (tab (fun j => (impl_DistanceBetween.lev a b (i + 1) j : Int)) (k + 1)) (k : Int) = (impl_DistanceBetween.lev a b (i + 1) k : Int) := rd_tab _ _ _ (by omega)
    have r3 : rd (tab (fun j => (impl_DistanceBetween.lev a b i j : Int)) (b.size + 1)) (k : Int) = (impl_DistanceBetween.lev a b i k : Int) := rd_tab _ _ _ (by omega)
    have e1 : wrap64 (((min (impl_DistanceBetween.lev a b i (k + 1)) (impl_DistanceBetween.lev a b (i + 1) k) : Nat) : Int) + 1) = ((min (impl_DistanceBetween.lev a b i (k + 1)) (impl_DistanceBetween.lev a b (i + 1) k) + 1 : Nat) : Int) := nx (by omega)
    have e2 : wrap64 ((impl_DistanceBetween.lev a b i k : Int) + 1) = ((impl_DistanceBetween.lev a b i k + 1 : Nat) : Int) := nx (by omega)
    rw [show K + (d + 1) + 1 = (K + d + 1) + 1 from by omega, spec_DistanceBetween.l2, px (i := k) (by omega), px (i := i) (by omega), nx (i := k + 1) (by omega)]
    simp only [if_pos g1, if_pos g2, if_pos g3, if_pos g4, if_pos g5, if_pos g6, if_pos g7, if_pos g8, if_pos g9, if_pos g10]
    rw [r1, r2, r3, mn_nat, e1, e2, mn_nat, mn_nat]
    have := ih (k + 1) K (by omega)
    rw [tab_snoc _ (k + 1)] at this
    by_cases hq : bt a (i : Int) = bt b (k : Int)
    · rw [if_pos hq] at hs ⊢
      rw [min_eqA hs h2 h4]
      exact this
    · rw [if_neg hq] at hs ⊢
      rw [min_eqB hs]
      exact this
set_option maxHeartbeats 2000000 in
theorem spec_dist_l1 (a b : ByteArray) (ha : a.size ≤ 8) (hb : b.size ≤ 8) (d : Nat) : ∀ (i K : Nat), i + d = a.size →
    spec_DistanceBetween.l1 (K + (b.size + 3) * d + 1) a b (tab (fun j => (impl_DistanceBetween.lev a b i j : Int)) (b.size + 1)) ((i + 1 : Nat) : Int) = some (impl_DistanceBetween.lev a b a.size b.size : Int) := by
  induction d with
  | zero =>
    intro i K h
    rw [show K + (b.size + 3) * 0 + 1 = K + 1 from rfl, spec_DistanceBetween.l1, if_neg (by omega), if_pos (by omega), if_pos (by rw [tab_length]; omega), rd_tab _ _ _ (by omega), show i = a.size from by omega]
  | succ d ih =>
    intro i K h
    have h0 := spec_dist_l2 a b i (by omega) ha hb b.size 0 (K + 1 + (b.size + 3) * d + 1) (by omega)
    have ht : tab (fun j => (impl_DistanceBetween.lev a b (i + 1) j : Int)) (0 + 1) = [((i + 1 : Nat) : Int)] := by simp [tab, lev_left]
    rw [ht] at h0
    rw [show K + (b.size + 3) * (d + 1) + 1 = ((K + 1 + (b.size + 3) * d + 1) + b.size + 1) + 1 from by rw [Nat.mul_add]; omega, spec_DistanceBetween.l1, if_pos (by omega)]
    exact h0.trans (ih (i + 1) (K + 1) (by omega))
theorem spec_dist_l0 (a b : ByteArray) (ha : a.size ≤ 8) (hb : b.size ≤ 8) (d : Nat) : ∀ (k K : Nat), k + d = b.size + 1 →
    spec_DistanceBetween.l0 (K + d + 1) a b (tab (fun j => (j : Int)) k) (k : Int) = spec_DistanceBetween.l1 K a b (tab (fun j => (j : Int)) (b.size + 1)) 1 := by
  induction d with
  | zero =>
    intro k K h
    rw [show K + 0 + 1 = K + 1 from rfl, spec_DistanceBetween.l0, if_neg (by omega), show k = b.size + 1 from by omega]
  | succ d ih =>
    intro k K h
    have := ih (k + 1) K (by omega)
    rw [tab_snoc] at this
    rw [show K + (d + 1) + 1 = (K + d + 1) + 1 from by omega, spec_DistanceBetween.l0, if_pos (by omega), if_pos (by rw [tab_length]; omega), nx (i := k) (by omega)]
    exact this
/-- What both DistanceBetween answer. -/
def dist (a b : ByteArray) : Int := if isf a = true ∧ isf b = true then (impl_DistanceBetween.lev a b a.size b.size : Int) else -1
theorem isf_size {s : ByteArray} (h : isf s = true) : s.size ≤ 8 := by
  unfold isf at h
  simp only [Bool.and_eq_true, decide_eq_true_eq] at h
  exact h.2
theorem spec_dist (a b : ByteArray) (ha : a.size ≤ 1048576) (hb : b.size ≤ 1048576) {k : Nat} (hk : a.size + b.size + 200 < k) : spec_DistanceBetween.f k a b = some (dist a b) := by
  unfold spec_DistanceBetween.f dist
  rw [spec_IsForm_f a (by omega) (by omega)]; simp only [Option.bind_some]
  obtain ⟨k', rfl⟩ : ∃ m, k = m + 1 := ⟨k - 1, by omega⟩
  by_cases h1 : isf a = true
  · rw [if_pos h1, spec_IsForm_f b (by omega) (by omega)]; simp only [Option.bind_some]
    by_cases h2 : isf b = true
    · rw [if_pos ⟨h1, h2⟩, h2, spec_DistanceBetween.j0, if_neg (by decide)]
      have a8 := isf_size h1
      have b8 := isf_size h2
      have hm : (b.size + 3) * a.size ≤ 11 * 8 := Nat.mul_le_mul (by omega) a8
      obtain ⟨K, hK⟩ : ∃ K, k' = (K + (b.size + 3) * a.size + 1) + (b.size + 1) + 1 := ⟨k' - ((b.size + 3) * a.size + 1 + (b.size + 1) + 1), by omega⟩
      rw [hK]
      have e0 := spec_dist_l0 a b a8 b8 (b.size + 1) 0 (K + (b.size + 3) * a.size + 1) (by omega)
      have e1 := spec_dist_l1 a b a8 b8 a.size 0 K (by omega)
      have et : tab (fun j => (impl_DistanceBetween.lev a b 0 j : Int)) (b.size + 1) = tab (fun j => (j : Int)) (b.size + 1) := by
        unfold tab; congr 1; funext j; rw [lev_zero]
      rw [et] at e1
      exact e0.trans e1
    · rw [if_neg (fun h => h2 h.2), Bool.eq_false_iff.mpr h2, spec_DistanceBetween.j0, if_pos (by decide)]
  · rw [if_neg h1, if_neg (fun h => h1 h.1), spec_DistanceBetween.j0, if_pos rfl]
theorem impl_dist (a b : ByteArray) (ha : a.size ≤ 1048576) (hb : b.size ≤ 1048576) {k : Nat} (hk : a.size + b.size + 200 < k) : impl_DistanceBetween.f k a b = some (dist a b) := by
  unfold impl_DistanceBetween.f dist
  rw [impl_IsForm_f a (by omega) (by omega)]; simp only [Option.bind_some]
  by_cases h1 : isf a = true
  · rw [if_pos h1, impl_IsForm_f b (by omega) (by omega)]; simp only [Option.bind_some]
    by_cases h2 : isf b = true
    · rw [if_pos h2, if_pos ⟨h1, h2⟩]
    · rw [if_neg h2, if_neg (fun h => h2 h.2)]
  · rw [if_neg h1, if_neg (fun h => h1 h.1)]

theorem FnExactDistanceBetween : laws_FnExactDistanceBetween.Pure := by
  intro a b ha hb
  refine ⟨a.size + b.size + 201, ?_⟩
  unfold laws_FnExactDistanceBetween.f
  by_cases hn : (a.size : Int) > 1048576
  · rw [if_pos hn]
  · rw [if_neg hn]
    by_cases hm : (b.size : Int) > 1048576
    · rw [if_pos hm]
    · rw [if_neg hm, spec_dist a b (by omega) (by omega) (by omega), impl_dist a b (by omega) (by omega) (by omega)]
      simp

end Go.Proofs.Ytnaehnenhnfecaa.Pure
