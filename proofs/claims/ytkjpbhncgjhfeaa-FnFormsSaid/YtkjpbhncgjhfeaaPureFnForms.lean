/- For every drawing list: neighbours are one edit away, distances are the same both ways and none just of a text from itself, syllables join to their form, and all that the two programs tell of forms is the same. -/
import Derived.Test.YtkjpbhncgjhfeaaPFnFormsx14
import Derived.Test.YtkjpbhncgjhfeaaBase
namespace Go.Proofs.Ytkjpbhncgjhfeaa.Pure
open Go.RowKit Go.Proofs.Ytkjpbhncgjhfeaa.PFnForms Go.Proofs.YtkjpbhncgjhfeaaW.PrintWords Go.Proofs.YtkjpbhncgjhfeaaW.PrintLast Go.Proofs.YtkjpbhncgjhfeaaW.PrintMore Go.Proofs.Ytkjpbhncgjhfeaa.Base
set_option linter.unusedVariables false
set_option linter.unusedSimpArgs false
theorem l1In_f (a b c : Int) : spec_l1In.f a b c = some (decide (b ≤ a ∧ a ≤ c)) := by
  unfold spec_l1In.f; by_cases h : a ≥ b
  · rw [if_pos h]; simp [h]
  · rw [if_neg h]; simp; omega
theorem within_f (a b c : Int) : impl_within.f a b c = some (decide (b ≤ a ∧ a ≤ c)) := by
  unfold impl_within.f; by_cases h : b ≤ a
  · rw [if_pos h]; simp [h]
  · rw [if_neg h]; simp; omega
theorem byte_cases {P : Int → Prop} (h : ∀ n : Fin 256, P ((n.val : Nat) : Int)) {x : Int} (h0 : 0 ≤ x) (h1 : x ≤ 255) : P x := by
  obtain ⟨m, rfl⟩ := Int.eq_ofNat_of_zero_le h0
  exact h ⟨m, by omega⟩
def snd (x : Int) : Bool := x == 112 || x == 116 || x == 98 || x == 100 || x == 110 || x == 97 || x == 105
theorem impl_IsSound_f {x : Int} (h0 : 0 ≤ x) (h1 : x ≤ 255) : impl_IsSound.f x = some (snd x) := by
  refine byte_cases (P := fun x => impl_IsSound.f x = some (snd x)) ?_ h0 h1; decide +kernel
theorem spec_IsSound_f {x : Int} (h0 : 0 ≤ x) (h1 : x ≤ 255) {k : Nat} (hk : 8 ≤ k) : spec_IsSound.f k x = some (snd x) := by
  have h : spec_IsSound.f 8 x = some (snd x) := by
    refine byte_cases (P := fun x => spec_IsSound.f 8 x = some (snd x)) ?_ h0 h1; decide +kernel
  exact at_rounds (g := fun k => spec_IsSound.f k x) (fun k => spec_IsSound.mono x k) hk h
def sndL (l : List Int) : Bool := l.all snd
theorem spec_l2Sounds_l0 (s : ByteArray) (hs : s.size ≤ 140737488351232) (d : Nat) : ∀ (i k : Nat), i + d = s.size → d + 8 < k →
    spec_l2Sounds.l0 k s (i : Int) = some (sndL ((bytesOf s).drop i) && decide (s.size ≤ 20)) := by
  induction d with
  | zero =>
    intro i k h hk
    obtain ⟨k, rfl⟩ : ∃ m, k = m + 1 := ⟨k - 1, by omega⟩
    simp only [spec_l2Sounds.l0]
    rw [if_neg (by omega), List.drop_of_length_le (by rw [bytesOf_length]; omega)]
    simp [sndL]; omega
  | succ d ih =>
    intro i k h hk
    obtain ⟨k, rfl⟩ : ∃ m, k = m + 1 := ⟨k - 1, by omega⟩
    obtain ⟨b0, b1⟩ := bt_range s (i : Int)
    have := ih (i + 1) k (by omega) (by omega)
    simp only [spec_l2Sounds.l0]
    rw [if_pos (by omega), if_pos (by omega), spec_IsSound_f b0 b1 (by omega), nx (by omega), drop_bt s i (by omega), this]
    simp only [Option.bind_some, sndL, List.all_cons]
    cases snd (bt s (i : Int)) <;> simp
theorem spec_l2Sounds_f (s : ByteArray) (hs : s.size ≤ 140737488351232) {k : Nat} (hk : s.size + 8 < k) : spec_l2Sounds.f k s = some (sndL (bytesOf s) && decide (s.size ≤ 20)) := by
  have := spec_l2Sounds_l0 s hs s.size 0 k (by omega) (by omega)
  simpa [spec_l2Sounds.f] using this
theorem impl_areSounds_l0 (s : ByteArray) (hs : s.size ≤ 140737488351232) (d : Nat) : ∀ (i k : Nat), i + d = s.size → d < k →
    impl_areSounds.l0 k s (s.size : Int) (i : Int) = some (sndL ((bytesOf s).drop i) && decide (1 ≤ s.size ∧ s.size ≤ 20)) := by
  induction d with
  | zero =>
    intro i k h hk
    obtain ⟨k, rfl⟩ : ∃ m, k = m + 1 := ⟨k - 1, by omega⟩
    simp only [impl_areSounds.l0]
    rw [if_neg (by omega), List.drop_of_length_le (by rw [bytesOf_length]; omega), within_f]
    have e : decide (1 ≤ (s.size : Int) ∧ (s.size : Int) ≤ 20) = decide (1 ≤ s.size ∧ s.size ≤ 20) := by rw [decide_eq_decide]; omega
    rw [e]; simp [sndL]
  | succ d ih =>
    intro i k h hk
    obtain ⟨k, rfl⟩ : ∃ m, k = m + 1 := ⟨k - 1, by omega⟩
    obtain ⟨b0, b1⟩ := bt_range s (i : Int)
    have := ih (i + 1) k (by omega) (by omega)
    simp only [impl_areSounds.l0]
    rw [if_pos (by omega), if_pos (by omega), if_pos (by omega), impl_IsSound_f b0 b1, nx (by omega), drop_bt s i (by omega), this]
    simp only [Option.bind_some, sndL, List.all_cons]
    cases snd (bt s (i : Int)) <;> simp
theorem impl_areSounds_f (s : ByteArray) (hs : s.size ≤ 140737488351232) {k : Nat} (hk : s.size < k) : impl_areSounds.f k s = some (sndL (bytesOf s) && decide (1 ≤ s.size ∧ s.size ≤ 20)) := by
  have := impl_areSounds_l0 s hs s.size 0 k (by omega) (by omega)
  simpa [impl_areSounds.f] using this
def isf (s : ByteArray) : Bool := sndL (bytesOf s) && decide (s.size ≤ 8)
theorem spec_IsForm_f (s : ByteArray) (hs : s.size ≤ 140737488351232) {k : Nat} (hk : s.size + 8 < k) : spec_IsForm.f k s = some (isf s) := by
  unfold spec_IsForm.f isf
  rw [spec_l2Sounds_f s hs hk]; simp only [Option.bind_some]
  by_cases h : s.size ≤ 8
  · cases sndL (bytesOf s)
    · simp
    · simp [h, show s.size ≤ 20 from by omega]; omega
  · by_cases h2 : s.size ≤ 20
    · cases sndL (bytesOf s) <;> simp [h, h2] <;> omega
    · simp [h, h2]
theorem impl_IsForm_f (s : ByteArray) (hs : s.size ≤ 140737488351232) {k : Nat} (hk : s.size < k) : impl_IsForm.f k s = some (isf s) := by
  unfold impl_IsForm.f isf
  by_cases h : s.size = 0
  · rw [if_pos ((toList_nil_iff s).2 h)]
    have : bytesOf s = [] := List.eq_nil_of_length_eq_zero (by rw [bytesOf_length]; exact h)
    simp [this, sndL, h]
  · rw [if_neg (fun e => h ((toList_nil_iff s).1 e))]
    by_cases h8 : s.size ≤ 8
    · rw [if_pos (by omega), impl_areSounds_f s hs hk]
      have e : decide (1 ≤ s.size ∧ s.size ≤ 20) = true := by simp; omega
      simp [h8, e]
    · rw [if_neg (by omega)]; simp [h8]
theorem lev_zero (a b : ByteArray) (k : Nat) : impl_DistanceBetween.lev a b 0 k = k := by rw [impl_DistanceBetween.lev]
theorem lev_left (a b : ByteArray) (i : Nat) : impl_DistanceBetween.lev a b i 0 = i := by
  cases i with
  | zero => rw [impl_DistanceBetween.lev]
  | succ i => rw [impl_DistanceBetween.lev]
theorem lev_step (a b : ByteArray) (i k : Nat) : impl_DistanceBetween.lev a b (i + 1) (k + 1) = if bt a (i : Int) = bt b (k : Int) then impl_DistanceBetween.lev a b i k else 1 + min (min (impl_DistanceBetween.lev a b i (k + 1)) (impl_DistanceBetween.lev a b (i + 1) k)) (impl_DistanceBetween.lev a b i k) := by
  rw [impl_DistanceBetween.lev]
theorem lev_near (a b : ByteArray) (n : Nat) : ∀ i k, i + k = n →
    (impl_DistanceBetween.lev a b i (k + 1) ≤ impl_DistanceBetween.lev a b i k + 1 ∧ impl_DistanceBetween.lev a b i k ≤ impl_DistanceBetween.lev a b i (k + 1) + 1) ∧
    (impl_DistanceBetween.lev a b (i + 1) k ≤ impl_DistanceBetween.lev a b i k + 1 ∧ impl_DistanceBetween.lev a b i k ≤ impl_DistanceBetween.lev a b (i + 1) k + 1) := by
  induction n using Nat.strongRecOn with
  | _ n ih =>
    intro i k h
    constructor
    · cases i with
      | zero => rw [lev_zero, lev_zero]; omega
      | succ i =>
        obtain ⟨⟨h1, h2⟩, h3, h4⟩ := ih (i + k) (by omega) i k rfl
        rw [lev_step]
        split <;> omega
    · cases k with
      | zero => rw [lev_left, lev_left]; omega
      | succ k =>
        obtain ⟨⟨h1, h2⟩, h3, h4⟩ := ih (i + k) (by omega) i k rfl
        rw [lev_step]
        split <;> omega
theorem lev_le (a b : ByteArray) (k : Nat) : ∀ i, impl_DistanceBetween.lev a b i k ≤ i + k := by
  induction k with
  | zero => intro i; rw [lev_left]; omega
  | succ k ih => intro i; have := ih i; have := (lev_near a b (i + k) i k rfl).1.1; omega
theorem tab_snoc {α : Type} (G : Nat → α) (n : Nat) : tab G (n + 1) = tab G n ++ [G n] := by simp [tab, List.range_succ]
theorem rd_tab (G : Nat → Int) (n i : Nat) (h : i < n) : rd (tab G n) (i : Int) = G i := tab_getD G _ n i h
theorem px {i : Nat} (h : i < 4611686018427387904) : wrap64 (((i + 1 : Nat) : Int) - 1) = (i : Int) := by rw [w64 (by omega) (by omega)]; omega
theorem mn_nat (x y : Nat) : mn (x : Int) (y : Int) = ((min x y : Nat) : Int) := by unfold mn; split <;> omega
theorem min_eqA {A B C L : Nat} (hs : L = C) (h1 : C ≤ A + 1) (h2 : C ≤ B + 1) : min (min A B + 1) C = L := by omega
theorem min_eqB {A B C L : Nat} (hs : L = 1 + min (min A B) C) : min (min A B + 1) (C + 1) = L := by omega
set_option maxHeartbeats 2000000 in
theorem spec_dist_l2 (a b : ByteArray) (i : Nat) (hi : i < a.size) (ha : a.size ≤ 8) (hb : b.size ≤ 8) (d : Nat) : ∀ (k K : Nat), k + d = b.size →
    spec_DistanceBetween.l2 (K + d + 1) a b (tab (fun j => (impl_DistanceBetween.lev a b i j : Int)) (b.size + 1)) ((i + 1 : Nat) : Int) (tab (fun j => (impl_DistanceBetween.lev a b (i + 1) j : Int)) (k + 1)) ((k + 1 : Nat) : Int) =
      spec_DistanceBetween.l1 K a b (tab (fun j => (impl_DistanceBetween.lev a b (i + 1) j : Int)) (b.size + 1)) ((i + 1 + 1 : Nat) : Int) := by
  induction d with
  | zero =>
    intro k K h
    rw [show K + 0 + 1 = K + 1 from rfl, spec_DistanceBetween.l2, if_neg (by omega), nx (i := i + 1) (by omega), show k = b.size from by omega]
  | succ d ih =>
    intro k K h
    have hl1 := lev_le a b k i
    have hl2 := lev_le a b (k + 1) i
    have hl3 := lev_le a b k (i + 1)
    obtain ⟨⟨h1, h2⟩, h3, h4⟩ := lev_near a b (i + k) i k rfl
    have hs := lev_step a b i k
    have g1 : ((k + 1 : Nat) : Int) ≤ (b.size : Int) := by omega
    have g2 : 0 ≤ ((k + 1 : Nat) : Int) := by omega
    have g3 : ((k + 1 : Nat) : Int) < ((tab (fun j => (impl_DistanceBetween.lev a b i j : Int)) (b.size + 1)).length : Int) := by rw [tab_length]; omega
    have g4 : 0 ≤ (k : Int) := by omega
    have g5 : (k : Int) < ((tab (fun j => (impl_DistanceBetween.lev a b (i + 1) j : Int)) (k + 1)).length : Int) := by rw [tab_length]; omega
    have g6 : 0 ≤ (i : Int) := by omega
    have g7 : (i : Int) < (a.size : Int) := by omega
    have g8 : (k : Int) < (b.size : Int) := by omega
    have g9 : (k : Int) < ((tab (fun j => (impl_DistanceBetween.lev a b i j : Int)) (b.size + 1)).length : Int) := by rw [tab_length]; omega
    have g10 : (tab (fun j => (impl_DistanceBetween.lev a b (i + 1) j : Int)) (k + 1)).length < 17592186044416 := by rw [tab_length]; omega
    have r1 : rd (tab (fun j => (impl_DistanceBetween.lev a b i j : Int)) (b.size + 1)) ((k + 1 : Nat) : Int) = (impl_DistanceBetween.lev a b i (k + 1) : Int) := rd_tab _ _ _ (by omega)
    have r2 : rd (tab (fun j => (impl_DistanceBetween.lev a b (i + 1) j : Int)) (k + 1)) (k : Int) = (impl_DistanceBetween.lev a b (i + 1) k : Int) := rd_tab _ _ _ (by omega)
    have r3 : rd (tab (fun j => (impl_DistanceBetween.lev a b i j : Int)) (b.size + 1)) (k : Int) = (impl_DistanceBetween.lev a b i k : Int) := rd_tab _ _ _ (by omega)
    have e1 : wrap64 (((min (impl_DistanceBetween.lev a b i (k + 1)) (impl_DistanceBetween.lev a b (i + 1) k) : Nat) : Int) + 1) = ((min (impl_DistanceBetween.lev a b i (k + 1)) (impl_DistanceBetween.lev a b (i + 1) k) + 1 : Nat) : Int) := nx (by omega)
    have e2 : wrap64 ((impl_DistanceBetween.lev a b i k : Int) + 1) = ((impl_DistanceBetween.lev a b i k + 1 : Nat) : Int) := nx (by omega)
    rw [show K + (d + 1) + 1 = (K + d + 1) + 1 from by omega, spec_DistanceBetween.l2, px (i := k) (by omega), px (i := i) (by omega), nx (i := k + 1) (by omega)]
    simp only [if_pos g1, if_pos g2, if_pos g3, if_pos g4, if_pos g5, if_pos g6, if_pos g7, if_pos g8, if_pos g9, if_pos g10]
    rw [r1, r2, r3, mn_nat, e1, e2, mn_nat, mn_nat]
    have := ih (k + 1) K (by omega)
    rw [tab_snoc _ (k + 1)] at this
    by_cases hq : bt a (i : Int) = bt b (k : Int)
    · rw [if_pos hq] at hs ⊢
      rw [min_eqA hs h2 h4]
      exact this
    · rw [if_neg hq] at hs ⊢
      rw [min_eqB hs]
      exact this
set_option maxHeartbeats 2000000 in
theorem spec_dist_l1 (a b : ByteArray) (ha : a.size ≤ 8) (hb : b.size ≤ 8) (d : Nat) : ∀ (i K : Nat), i + d = a.size →
    spec_DistanceBetween.l1 (K + (b.size + 3) * d + 1) a b (tab (fun j => (impl_DistanceBetween.lev a b i j : Int)) (b.size + 1)) ((i + 1 : Nat) : Int) = some (impl_DistanceBetween.lev a b a.size b.size : Int) := by
  induction d with
  | zero =>
    intro i K h
    rw [show K + (b.size + 3) * 0 + 1 = K + 1 from rfl, spec_DistanceBetween.l1, if_neg (by omega), if_pos (by omega), if_pos (by rw [tab_length]; omega), rd_tab _ _ _ (by omega), show i = a.size from by omega]
  | succ d ih =>
    intro i K h
    have h0 := spec_dist_l2 a b i (by omega) ha hb b.size 0 (K + 1 + (b.size + 3) * d + 1) (by omega)
    have ht : tab (fun j => (impl_DistanceBetween.lev a b (i + 1) j : Int)) (0 + 1) = [((i + 1 : Nat) : Int)] := by simp [tab, lev_left]
    rw [ht] at h0
    rw [show K + (b.size + 3) * (d + 1) + 1 = ((K + 1 + (b.size + 3) * d + 1) + b.size + 1) + 1 from by rw [Nat.mul_add]; omega, spec_DistanceBetween.l1, if_pos (by omega)]
    exact h0.trans (ih (i + 1) (K + 1) (by omega))
theorem spec_dist_l0 (a b : ByteArray) (ha : a.size ≤ 8) (hb : b.size ≤ 8) (d : Nat) : ∀ (k K : Nat), k + d = b.size + 1 →
    spec_DistanceBetween.l0 (K + d + 1) a b (tab (fun j => (j : Int)) k) (k : Int) = spec_DistanceBetween.l1 K a b (tab (fun j => (j : Int)) (b.size + 1)) 1 := by
  induction d with
  | zero =>
    intro k K h
    rw [show K + 0 + 1 = K + 1 from rfl, spec_DistanceBetween.l0, if_neg (by omega), show k = b.size + 1 from by omega]
  | succ d ih =>
    intro k K h
    have := ih (k + 1) K (by omega)
    rw [tab_snoc] at this
    rw [show K + (d + 1) + 1 = (K + d + 1) + 1 from by omega, spec_DistanceBetween.l0, if_pos (by omega), if_pos (by rw [tab_length]; omega), nx (i := k) (by omega)]
    exact this
def dist (a b : ByteArray) : Int := if isf a = true ∧ isf b = true then (impl_DistanceBetween.lev a b a.size b.size : Int) else -1
theorem isf_size {s : ByteArray} (h : isf s = true) : s.size ≤ 8 := by
  unfold isf at h
  simp only [Bool.and_eq_true, decide_eq_true_eq] at h
  exact h.2
theorem spec_dist (a b : ByteArray) (ha : a.size ≤ 1048576) (hb : b.size ≤ 1048576) {k : Nat} (hk : a.size + b.size + 200 < k) : spec_DistanceBetween.f k a b = some (dist a b) := by
  unfold spec_DistanceBetween.f dist
  rw [spec_IsForm_f a (by omega) (by omega)]; simp only [Option.bind_some]
  obtain ⟨k', rfl⟩ : ∃ m, k = m + 1 := ⟨k - 1, by omega⟩
  by_cases h1 : isf a = true
  · rw [if_pos h1, spec_IsForm_f b (by omega) (by omega)]; simp only [Option.bind_some]
    by_cases h2 : isf b = true
    · rw [if_pos ⟨h1, h2⟩, h2, spec_DistanceBetween.j0, if_neg (by decide)]
      have a8 := isf_size h1
      have b8 := isf_size h2
      have hm : (b.size + 3) * a.size ≤ 11 * 8 := Nat.mul_le_mul (by omega) a8
      obtain ⟨K, hK⟩ : ∃ K, k' = (K + (b.size + 3) * a.size + 1) + (b.size + 1) + 1 := ⟨k' - ((b.size + 3) * a.size + 1 + (b.size + 1) + 1), by omega⟩
      rw [hK]
      have e0 := spec_dist_l0 a b a8 b8 (b.size + 1) 0 (K + (b.size + 3) * a.size + 1) (by omega)
      have e1 := spec_dist_l1 a b a8 b8 a.size 0 K (by omega)
      have et : tab (fun j => (impl_DistanceBetween.lev a b 0 j : Int)) (b.size + 1) = tab (fun j => (j : Int)) (b.size + 1) := by
        unfold tab; congr 1; funext j; rw [lev_zero]
      rw [et] at e1
      exact e0.trans e1
    · rw [if_neg (fun h => h2 h.2), Bool.eq_false_iff.mpr h2, spec_DistanceBetween.j0, if_pos (by decide)]
  · rw [if_neg h1, if_neg (fun h => h1 h.1), spec_DistanceBetween.j0, if_pos rfl]
theorem impl_dist (a b : ByteArray) (ha : a.size ≤ 1048576) (hb : b.size ≤ 1048576) {k : Nat} (hk : a.size + b.size + 200 < k) : impl_DistanceBetween.f k a b = some (dist a b) := by
  unfold impl_DistanceBetween.f dist
  rw [impl_IsForm_f a (by omega) (by omega)]; simp only [Option.bind_some]
  by_cases h1 : isf a = true
  · rw [if_pos h1, impl_IsForm_f b (by omega) (by omega)]; simp only [Option.bind_some]
    by_cases h2 : isf b = true
    · rw [if_pos h2, if_pos ⟨h1, h2⟩]
    · rw [if_neg h2, if_neg (fun h => h2 h.2)]
  · rw [if_neg h1, if_neg (fun h => h1 h.1)]
theorem toList_iff (a b : ByteArray) : a.toList = b.toList ↔ a = b := by
  constructor
  · intro h; rw [toList_data, toList_data] at h; exact ba_ext h
  · intro h; rw [h]
theorem rdOf_get (l : List ByteArray) (i : Nat) (h : i < l.length) : rdOf ByteArray.empty l (i : Int) = l[i] := getD_nat l _ i h
noncomputable def addO (l : List ByteArray) (x : ByteArray) : List ByteArray := by classical exact if x ∈ l then l else l ++ [x]
theorem addO_length (l : List ByteArray) (x : ByteArray) : (addO l x).length ≤ l.length + 1 := by
  unfold addO; split
  · omega
  · simp
theorem has_l0 (l : List ByteArray) (x : ByteArray) (hl : l.length ≤ 1000) (d : Nat) : ∀ (i k : Nat), i + d = l.length → d < k → ∃ b, spec_l3Has.l0 k l x (i : Int) = some b ∧ (b = true ↔ x ∈ l.drop i) := by
  induction d with
  | zero =>
    intro i k h hk
    obtain ⟨k, rfl⟩ : ∃ m, k = m + 1 := ⟨k - 1, by omega⟩
    simp only [spec_l3Has.l0]; rw [if_neg (by omega), List.drop_of_length_le (by omega)]
    exact ⟨false, rfl, by simp⟩
  | succ d ih =>
    intro i k h hk
    obtain ⟨k, rfl⟩ : ∃ m, k = m + 1 := ⟨k - 1, by omega⟩
    simp only [spec_l3Has.l0]
    rw [if_pos (by omega), if_pos (by omega), rdOf_get l i (by omega), nx (by omega), List.drop_eq_getElem_cons (i := i) (by omega)]
    by_cases he : l[i]'(by omega) = x
    · rw [if_pos ((toList_iff _ _).2 he)]
      exact ⟨true, rfl, by simp [he]⟩
    · rw [if_neg (fun e => he ((toList_iff _ _).1 e))]
      obtain ⟨b, h1, h2⟩ := ih (i + 1) k (by omega) (by omega)
      exact ⟨b, h1, by rw [h2, List.mem_cons]; constructor; · exact fun e => Or.inr e
                       · rintro (e | e); · exact absurd e.symm he
                         · exact e⟩
theorem spec_has (l : List ByteArray) (x : ByteArray) (hl : l.length ≤ 1000) {k : Nat} (hk : 1001 < k) : ∃ b, spec_l3Has.f k l x = some b ∧ (b = true ↔ x ∈ l) := by
  have := has_l0 l x hl l.length 0 k (by omega) (by omega)
  simpa [spec_l3Has.f] using this
theorem index_l0 (l : List ByteArray) (x : ByteArray) (hl : l.length ≤ 1000) (d : Nat) : ∀ (i k : Nat), i + d = l.length → d < k → ∃ b, slices_Index_string_string.l0 k l x (l.length : Int) (i : Int) = some b ∧ (b ≥ 0 ↔ x ∈ l.drop i) := by
  induction d with
  | zero =>
    intro i k h hk
    obtain ⟨k, rfl⟩ : ∃ m, k = m + 1 := ⟨k - 1, by omega⟩
    simp only [slices_Index_string_string.l0]; rw [if_neg (by omega), List.drop_of_length_le (by omega)]
    exact ⟨-1, rfl, by simp⟩
  | succ d ih =>
    intro i k h hk
    obtain ⟨k, rfl⟩ : ∃ m, k = m + 1 := ⟨k - 1, by omega⟩
    simp only [slices_Index_string_string.l0]
    rw [if_pos (by omega), if_pos (by omega), if_pos (by omega), rdOf_get l i (by omega), nx (by omega), List.drop_eq_getElem_cons (i := i) (by omega)]
    by_cases he : x = l[i]'(by omega)
    · rw [if_pos ((toList_iff _ _).2 he)]
      exact ⟨i, rfl, by simp [← he]⟩
    · rw [if_neg (fun e => he ((toList_iff _ _).1 e))]
      obtain ⟨b, h1, h2⟩ := ih (i + 1) k (by omega) (by omega)
      exact ⟨b, h1, by rw [h2, List.mem_cons]; constructor; · exact fun e => Or.inr e
                       · rintro (e | e); · exact absurd e he
                         · exact e⟩
theorem impl_addO (l : List ByteArray) (x : ByteArray) (hl : l.length ≤ 1000) {k : Nat} (hk : 1001 < k) : impl_addOnce.f k l x = some (addO l x) := by
  obtain ⟨b, h1, h2⟩ := index_l0 l x hl l.length 0 k (by omega) (by omega)
  rw [List.drop_zero] at h2
  rw [show ((0 : Nat) : Int) = 0 from rfl] at h1
  unfold impl_addOnce.f slices_Contains_string_string.f slices_Index_string_string.f addO
  rw [h1]; simp only [Option.bind_some]
  by_cases hx : x ∈ l
  · rw [if_pos (by simpa using h2.2 hx), if_pos hx]
  · rw [if_neg (fun e => hx (h2.1 (by simpa using e))), if_neg hx, if_pos (by omega)]
theorem spec_addO {α : Type} (l : List ByteArray) (x : ByteArray) (hl : l.length ≤ 1000) {k : Nat} (hk : 1001 < k) (g : List ByteArray → Option α) :
    ((spec_l3Has.f k l x).bind fun t => if t = true then g l else (if l.length < 8796093022208 then g (l ++ [x]) else none)) = g (addO l x) := by
  obtain ⟨b, h1, h2⟩ := spec_has l x hl hk
  rw [h1]; simp only [Option.bind_some]
  unfold addO
  by_cases hx : x ∈ l
  · rw [if_pos (h2.2 hx), if_pos hx]
  · rw [if_neg (fun e => hx (h2.1 e)), if_neg hx, if_pos (by omega)]
theorem lit_size (j : Nat) (h : j < 7) : ((⟨#[112, 116, 98, 100, 110, 97, 105]⟩ : ByteArray).extract j (j + 1)).size = 1 := by
  rw [ByteArray.size_extract, show (⟨#[112, 116, 98, 100, 110, 97, 105]⟩ : ByteArray).size = 7 from rfl]; omega
theorem bt_lit (j : Nat) (h : j < 7) : bt ((⟨#[112, 116, 98, 100, 110, 97, 105]⟩ : ByteArray).extract j (j + 1)) 0 = bt (⟨#[112, 116, 98, 100, 110, 97, 105]⟩ : ByteArray) (j : Int) := by
  rw [extract_one (⟨#[112, 116, 98, 100, 110, 97, 105]⟩ : ByteArray) j h]
  obtain ⟨b0, b1⟩ := bt_range (⟨#[112, 116, 98, 100, 110, 97, 105]⟩ : ByteArray) (j : Int)
  have := bt_getD (strOfNums [bt (⟨#[112, 116, 98, 100, 110, 97, 105]⟩ : ByteArray) (j : Int)]) 0
  rw [bytesOf_str (Bytes.one b0 (by omega))] at this
  exact this
theorem swap_same (s : ByteArray) (i j : Nat) (hi : i < s.size) (hj : j < 7) : (s.extract 0 i ++ (⟨#[112, 116, 98, 100, 110, 97, 105]⟩ : ByteArray).extract j (j + 1)) ++ s.extract (i + 1) s.size = s ↔ bt s (i : Int) = bt (⟨#[112, 116, 98, 100, 110, 97, 105]⟩ : ByteArray) (j : Int) := by
  have e1 : bytesOf ((s.extract 0 i ++ (⟨#[112, 116, 98, 100, 110, 97, 105]⟩ : ByteArray).extract j (j + 1)) ++ s.extract (i + 1) s.size) = (bytesOf s).take i ++ [bt (⟨#[112, 116, 98, 100, 110, 97, 105]⟩ : ByteArray) (j : Int)] ++ (bytesOf s).drop (i + 1) := by
    obtain ⟨b0, b1⟩ := bt_range (⟨#[112, 116, 98, 100, 110, 97, 105]⟩ : ByteArray) (j : Int)
    rw [extract_one (⟨#[112, 116, 98, 100, 110, 97, 105]⟩ : ByteArray) j hj, bytesOf_append, bytesOf_append, bytesOf_extract, bytesOf_extract, bytesOf_str (Bytes.one b0 (by omega)), List.drop_zero, List.take_of_length_le (i := s.size) (by rw [bytesOf_length]; exact Nat.le_refl _)]
  have e2 : bytesOf s = (bytesOf s).take i ++ [bt s (i : Int)] ++ (bytesOf s).drop (i + 1) := by
    rw [← take_bt s i hi, List.take_append_drop]
  constructor
  · intro h
    rw [h] at e1
    have := List.append_cancel_right (e1.symm.trans e2)
    have := List.append_cancel_left this
    simpa using this.symm
  · intro h
    apply bytesOf_inj
    rw [e1, ← h]; exact e2.symm
theorem nb_l1 (s : ByteArray) (hs : s.size ≤ 7) (i : Nat) (hi : i ≤ s.size) (B : Nat) (hB : 1100 ≤ B) (R : Nat)
    (H : ∀ (l : List ByteArray) (k k' : Nat), l.length ≤ 15 * (i + 1) → B < k → B < k' → ∃ r, spec_NeighboursOf.l0 k s l ((i + 1 : Nat) : Int) = some r ∧ impl_NeighboursOf.l0 k' s l ((s.size + 1 : Nat) : Int) ((i + 1 : Nat) : Int) = some r ∧ r.length ≤ R) (e : Nat) :
    ∀ (j k k' : Nat) (l : List ByteArray), j + e = 7 → l.length ≤ 15 * i + 2 * j → B + 2 * e + 2 < k → B + e + 1 < k' →
    ∃ r, spec_NeighboursOf.l1 k s l (i : Int) (j : Int) = some r ∧ impl_NeighboursOf.l1 k' s l (i : Int) ((s.size + 1 : Nat) : Int) (i : Int) (j : Int) = some r ∧ r.length ≤ R := by
  have ha : (s.extract 0 i).size = i := by rw [ByteArray.size_extract]; omega
  have hb : (s.extract i s.size).size = s.size - i := by rw [ByteArray.size_extract]; omega
  have hc : (s.extract (i + 1) s.size).size = s.size - (i + 1) := by rw [ByteArray.size_extract]; omega
  have g1 : 0 ≤ (i : Int) := by omega
  have g2 : (i : Int) ≤ (s.size : Int) := by omega
  induction e with
  | zero =>
    intro j k k' l h hl hk hk'
    obtain ⟨k, rfl⟩ : ∃ m, k = m + 1 := ⟨k - 1, by omega⟩
    obtain ⟨k', rfl⟩ : ∃ m, k' = m + 1 := ⟨k' - 1, by omega⟩
    have g3 : ¬ (j : Int) < 7 := by omega
    rw [spec_NeighboursOf.l1, impl_NeighboursOf.l1, nx (i := i) (by omega)]
    simp only [if_neg g3, if_pos g1, if_pos g2, Int.toNat_natCast]
    by_cases hlt : (i : Int) < (s.size : Int)
    · have g4 : 0 ≤ ((i + 1 : Nat) : Int) := by omega
      have g5 : ((i + 1 : Nat) : Int) ≤ (s.size : Int) := by omega
      have g6 : (s.extract 0 i).size + (s.extract (i + 1) s.size).size ≤ 9223372036854775807 := by omega
      simp only [if_pos hlt, if_pos g4, if_pos g5, if_pos g6]
      rw [spec_addO l _ (by omega) (by omega) (fun z => spec_NeighboursOf.l0 k s z ((i + 1 : Nat) : Int)), impl_addO l _ (by omega) (by omega)]
      simp only [Option.bind_some]
      have := addO_length l (s.extract 0 i ++ s.extract (i + 1) s.size)
      exact H _ k k' (by omega) (by omega) (by omega)
    · simp only [if_neg hlt]
      exact H l k k' (by omega) (by omega) (by omega)
  | succ e ih =>
    intro j k k' l h hl hk hk'
    obtain ⟨k, rfl⟩ : ∃ m, k = (m + 1) + 1 := ⟨k - 2, by omega⟩
    obtain ⟨k', rfl⟩ : ∃ m, k' = m + 1 := ⟨k' - 1, by omega⟩
    have hz := lit_size j (by omega)
    have g3 : (j : Int) < 7 := by omega
    have g4 : 0 ≤ (j : Int) := by omega
    have g5 : (j : Int) ≤ ((j + 1 : Nat) : Int) := by omega
    have g6 : ((j + 1 : Nat) : Int) ≤ 7 := by omega
    have g7 : (s.extract 0 i).size + ((⟨#[112, 116, 98, 100, 110, 97, 105]⟩ : ByteArray).extract j (j + 1)).size ≤ 9223372036854775807 := by omega
    have g8 : (s.extract 0 i ++ (⟨#[112, 116, 98, 100, 110, 97, 105]⟩ : ByteArray).extract j (j + 1)).size + (s.extract i s.size).size ≤ 9223372036854775807 := by rw [ByteArray.size_append]; omega
    rw [spec_NeighboursOf.l1, impl_NeighboursOf.l1, nx (i := j) (by omega), nx (i := i) (by omega)]
    simp only [if_pos g1, if_pos g2, if_pos g3, if_pos g4, if_pos g5, if_pos g6, Int.toNat_natCast, if_pos g7, if_pos g8]
    rw [spec_addO l _ (by omega) (by omega) (fun z => spec_NeighboursOf.j3 (k + 1) s z (i : Int) (j : Int)), impl_addO l _ (by omega) (by omega)]
    simp only [Option.bind_some]
    have hx := addO_length l (s.extract 0 i ++ (⟨#[112, 116, 98, 100, 110, 97, 105]⟩ : ByteArray).extract j (j + 1) ++ s.extract i s.size)
    generalize addO l (s.extract 0 i ++ (⟨#[112, 116, 98, 100, 110, 97, 105]⟩ : ByteArray).extract j (j + 1) ++ s.extract i s.size) = l1 at hx
    rw [spec_NeighboursOf.j3, nx (i := j) (by omega), nx (i := i) (by omega)]
    simp only [if_pos g1, if_pos g2, if_pos g4, if_pos g5, if_pos g6, Int.toNat_natCast, if_pos g7]
    by_cases hlt : (i : Int) < (s.size : Int)
    · have g9 : 0 ≤ ((i + 1 : Nat) : Int) := by omega
      have g10 : ((i + 1 : Nat) : Int) ≤ (s.size : Int) := by omega
      have g11 : (s.extract 0 i ++ (⟨#[112, 116, 98, 100, 110, 97, 105]⟩ : ByteArray).extract j (j + 1)).size + (s.extract (i + 1) s.size).size ≤ 9223372036854775807 := by rw [ByteArray.size_append]; omega
      have g12 : 0 < (((⟨#[112, 116, 98, 100, 110, 97, 105]⟩ : ByteArray).extract j (j + 1)).size : Int) := by omega
      simp only [if_pos hlt, if_pos g9, if_pos g10, if_pos g11, if_pos g12]
      rw [bt_lit j (by omega)]
      by_cases hsame : bt s (i : Int) = bt (⟨#[112, 116, 98, 100, 110, 97, 105]⟩ : ByteArray) (j : Int)
      · have g13 : (s.extract 0 i ++ (⟨#[112, 116, 98, 100, 110, 97, 105]⟩ : ByteArray).extract j (j + 1) ++ s.extract (i + 1) s.size).toList = s.toList := (toList_iff _ _).2 ((swap_same s i j (by omega) (by omega)).2 hsame)
        rw [if_pos g13, if_pos hsame]
        exact ih (j + 1) k k' l1 (by omega) (by omega) (by omega) (by omega)
      · have g13 : ¬ (s.extract 0 i ++ (⟨#[112, 116, 98, 100, 110, 97, 105]⟩ : ByteArray).extract j (j + 1) ++ s.extract (i + 1) s.size).toList = s.toList := fun e => hsame ((swap_same s i j (by omega) (by omega)).1 ((toList_iff _ _).1 e))
        rw [if_neg g13, if_neg hsame, spec_addO l1 _ (by omega) (by omega) (fun z => spec_NeighboursOf.l1 k s z (i : Int) ((j + 1 : Nat) : Int)), impl_addO l1 _ (by omega) (by omega)]
        simp only [Option.bind_some]
        have hy := addO_length l1 (s.extract 0 i ++ (⟨#[112, 116, 98, 100, 110, 97, 105]⟩ : ByteArray).extract j (j + 1) ++ s.extract (i + 1) s.size)
        exact ih (j + 1) k k' _ (by omega) (by omega) (by omega) (by omega)
    · simp only [if_neg hlt]
      exact ih (j + 1) k k' l1 (by omega) (by omega) (by omega) (by omega)
theorem nb_l0 (s : ByteArray) (hs : s.size ≤ 7) (d : Nat) : ∀ (i k k' : Nat) (l : List ByteArray), i + d = s.size + 1 → l.length ≤ 15 * i → 1100 + 20 * d < k → 1100 + 20 * d < k' →
    ∃ r, spec_NeighboursOf.l0 k s l (i : Int) = some r ∧ impl_NeighboursOf.l0 k' s l ((s.size + 1 : Nat) : Int) (i : Int) = some r ∧ r.length ≤ 120 := by
  induction d with
  | zero =>
    intro i k k' l h hl hk hk'
    obtain ⟨k, rfl⟩ : ∃ m, k = m + 1 := ⟨k - 1, by omega⟩
    obtain ⟨k', rfl⟩ : ∃ m, k' = m + 1 := ⟨k' - 1, by omega⟩
    rw [spec_NeighboursOf.l0, impl_NeighboursOf.l0, if_neg (by omega), if_neg (by omega)]
    exact ⟨l, rfl, rfl, by omega⟩
  | succ d ih =>
    intro i k k' l h hl hk hk'
    obtain ⟨k, rfl⟩ : ∃ m, k = m + 1 := ⟨k - 1, by omega⟩
    obtain ⟨k', rfl⟩ : ∃ m, k' = m + 1 := ⟨k' - 1, by omega⟩
    rw [spec_NeighboursOf.l0, impl_NeighboursOf.l0, if_pos (by omega), if_pos (by omega)]
    exact nb_l1 s hs i (by omega) (1100 + 20 * d) (by omega) 120 (fun l k k' h1 h2 h3 => ih (i + 1) k k' l (by omega) h1 h2 h3) 7 0 k k' l (by omega) (by omega) (by omega) (by omega)
theorem neighbours (s : ByteArray) (hs : s.size ≤ 1048576) {k : Nat} (hk : s.size + 1500 < k) : ∃ r, spec_NeighboursOf.f k s = some r ∧ impl_NeighboursOf.f k s = some r ∧ r.length ≤ 120 := by
  obtain ⟨k, rfl⟩ : ∃ m, k = m + 1 := ⟨k - 1, by omega⟩
  unfold spec_NeighboursOf.f impl_NeighboursOf.f
  rw [spec_IsForm_f s (by omega) (by omega), impl_IsForm_f s (by omega) (by omega)]; simp only [Option.bind_some]
  by_cases h : isf s = true
  · have h8 : s.size ≤ 8 := by unfold isf at h; simp only [Bool.and_eq_true, decide_eq_true_eq] at h; exact h.2
    rw [if_pos h, if_pos h, spec_NeighboursOf.j0, impl_NeighboursOf.j0]
    by_cases h7 : s.size ≤ 7
    · have e1 : decide ((s.size : Int) ≥ 8) = false := by simp; omega
      have e2 : ((s.size : Int) == 8) = false := by simp; omega
      rw [e1, e2, if_neg (by simp), if_neg (by simp), nx (by omega)]
      exact nb_l0 s h7 (s.size + 1) 0 k k [] (by omega) (by simp) (by omega) (by omega)
    · have e0 : s.size = 8 := by omega
      have e1 : decide ((s.size : Int) ≥ 8) = true := by simp; omega
      have e2 : ((s.size : Int) == 8) = true := by rw [e0]; rfl
      rw [e1, e2, if_pos rfl, if_pos rfl]
      exact ⟨[], rfl, rfl, by simp⟩
  · rw [if_neg h, if_neg h, spec_NeighboursOf.j0, impl_NeighboursOf.j0, if_pos rfl, if_pos rfl]
    exact ⟨[], rfl, rfl, by simp⟩
abbrev lv := impl_DistanceBetween.lev
theorem lev_comm (a b : ByteArray) (n : Nat) : ∀ i k, i + k = n → lv a b i k = lv b a k i := by
  induction n using Nat.strongRecOn with
  | _ n ih =>
    intro i k h
    cases i with
    | zero => rw [lv, lev_zero, lev_left]
    | succ i =>
      cases k with
      | zero => rw [lv, lev_zero, lev_left]
      | succ k =>
        have h1 := ih (i + k) (by omega) i k rfl
        have h2 := ih (i + (k + 1)) (by omega) i (k + 1) rfl
        have h3 := ih (i + 1 + k) (by omega) (i + 1) k rfl
        show lv a b (i + 1) (k + 1) = lv b a (k + 1) (i + 1)
        rw [lv, lev_step, lev_step]
        by_cases he : bt a (i : Int) = bt b (k : Int)
        · rw [if_pos he, if_pos he.symm]; exact h1
        · rw [if_neg he, if_neg (fun e => he e.symm)]
          show 1 + min (min (lv a b i (k + 1)) (lv a b (i + 1) k)) (lv a b i k) = 1 + min (min (lv b a k (i + 1)) (lv b a (k + 1) i)) (lv b a k i)
          omega
theorem lev_eq0 (a b : ByteArray) (n : Nat) : ∀ i k, i + k = n → lv a b i k = 0 → i = k ∧ ∀ j : Nat, j < i → bt a (j : Int) = bt b (j : Int) := by
  induction n using Nat.strongRecOn with
  | _ n ih =>
    intro i k h h0
    cases i with
    | zero => rw [lv, lev_zero] at h0; exact ⟨h0.symm, fun j hj => by omega⟩
    | succ i =>
      cases k with
      | zero => rw [lv, lev_left] at h0; omega
      | succ k =>
        rw [lv, lev_step] at h0
        by_cases he : bt a (i : Int) = bt b (k : Int)
        · rw [if_pos he] at h0
          obtain ⟨e1, e2⟩ := ih (i + k) (by omega) i k rfl h0
          subst e1
          refine ⟨rfl, fun j hj => ?_⟩
          by_cases hji : j < i
          · exact e2 j hji
          · have : j = i := by omega
            subst this; exact he
        · rw [if_neg he] at h0; omega
theorem lev_suffix (a b : ByteArray) (i k : Nat) (n : Nat) (h : ∀ t : Nat, t < n → bt a ((i + t : Nat) : Int) = bt b ((k + t : Nat) : Int)) : lv a b (i + n) (k + n) = lv a b i k := by
  induction n with
  | zero => rfl
  | succ n ih =>
    show lv a b (i + n + 1) (k + n + 1) = _
    rw [lv, lev_step, if_pos (h n (by omega))]
    exact ih (fun t ht => h t (by omega))
theorem lev_same (a b : ByteArray) (i : Nat) (h : ∀ t : Nat, t < i → bt a (t : Int) = bt b (t : Int)) : lv a b i i = 0 := by
  have := lev_suffix a b 0 0 i (fun t ht => by rw [Nat.zero_add]; exact h t ht)
  rw [Nat.zero_add] at this
  rw [this, lv, lev_zero]
theorem ba_bt {a b : ByteArray} (hs : a.size = b.size) (h : ∀ j : Nat, j < a.size → bt a (j : Int) = bt b (j : Int)) : a = b := by
  apply bytesOf_inj
  apply List.ext_getElem
  · rw [bytesOf_length, bytesOf_length, hs]
  · intro j h1 h2
    rw [bytesOf_length] at h1 h2
    rw [← bt_get a j h1, ← bt_get b j h2]
    exact h j h1
theorem dist_zero (a b : ByteArray) : 0 ≤ dist a b → (dist a b == 0) = (a.toList == b.toList) := by
  intro h0
  unfold dist at h0 ⊢
  by_cases hf : isf a = true ∧ isf b = true
  · rw [if_pos hf]
    by_cases e : a = b
    · subst e
      have : impl_DistanceBetween.lev a a a.size a.size = 0 := lev_same a a a.size (fun _ _ => rfl)
      rw [this]; simp
    · have hne : ¬ impl_DistanceBetween.lev a b a.size b.size = 0 := fun h => by
        obtain ⟨e1, e2⟩ := lev_eq0 a b (a.size + b.size) a.size b.size rfl h
        exact e (ba_bt e1 e2)
      have h2 : (a.toList == b.toList) = false := beq_eq_false_iff_ne.mpr (fun q => e ((toList_iff a b).1 q))
      rw [h2]
      exact beq_eq_false_iff_ne.mpr (by omega)
  · rw [if_neg hf] at h0; omega
theorem dist_comm (a b : ByteArray) : dist a b = dist b a := by
  unfold dist
  by_cases hf : isf a = true ∧ isf b = true
  · rw [if_pos hf, if_pos ⟨hf.2, hf.1⟩]
    have := lev_comm a b (a.size + b.size) a.size b.size rfl
    exact congrArg (fun n : Nat => (n : Int)) this
  · rw [if_neg hf, if_neg (fun h => hf ⟨h.2, h.1⟩)]
theorem bt_left (a b : ByteArray) (j : Nat) (h : j < a.size) : bt (a ++ b) (j : Int) = bt a (j : Int) := by
  rw [bt_getD, bt_getD, bytesOf_append]
  rw [List.getD_eq_getElem?_getD, List.getD_eq_getElem?_getD, List.getElem?_append_left (by rw [bytesOf_length]; exact h)]
theorem bt_right (a b : ByteArray) (j : Nat) : bt (a ++ b) ((a.size + j : Nat) : Int) = bt b (j : Int) := by
  rw [bt_getD, bt_getD, bytesOf_append]
  rw [List.getD_eq_getElem?_getD, List.getD_eq_getElem?_getD, List.getElem?_append_right (by rw [bytesOf_length]; omega), bytesOf_length, Nat.add_sub_cancel_left]
theorem bt_ext (s : ByteArray) (i j t : Nat) (h : i + t < j) (hj : j ≤ s.size) : bt (s.extract i j) (t : Int) = bt s ((i + t : Nat) : Int) := by
  rw [bt_getD, bt_getD, bytesOf_extract, List.getD_eq_getElem?_getD, List.getD_eq_getElem?_getD, List.getElem?_drop, List.getElem?_take, if_pos h]
theorem one_ins (s c : ByteArray) (i : Nat) (hi : i ≤ s.size) (hc : c.size = 1) : lv s ((s.extract 0 i ++ c) ++ s.extract i s.size) s.size ((s.extract 0 i ++ c) ++ s.extract i s.size).size = 1 := by
  have h1 : (s.extract 0 i).size = i := by rw [ByteArray.size_extract]; omega
  have h2 : (s.extract i s.size).size = s.size - i := by rw [ByteArray.size_extract]; omega
  have h3 : (s.extract 0 i ++ c).size = i + 1 := by rw [ByteArray.size_append, h1, hc]
  generalize hx : (s.extract 0 i ++ c) ++ s.extract i s.size = x
  have hz : x.size = i + 1 + (s.size - i) := by rw [← hx, ByteArray.size_append, h3, h2]
  have hpre : ∀ t : Nat, t < i → bt s (t : Int) = bt x (t : Int) := by
    intro t ht
    rw [← hx, bt_left _ _ t (by omega), bt_left _ _ t (by omega), bt_ext s 0 i t (by omega) hi, Nat.zero_add]
  have hsuf : ∀ t : Nat, t < s.size - i → bt s ((i + t : Nat) : Int) = bt x ((i + 1 + t : Nat) : Int) := by
    intro t ht
    have := bt_right (s.extract 0 i ++ c) (s.extract i s.size) t
    rw [h3, hx] at this
    rw [this, bt_ext s i s.size t (by omega) (Nat.le_refl _)]
  have e := lev_suffix s x i (i + 1) (s.size - i) hsuf
  rw [show i + (s.size - i) = s.size from by omega, ← hz] at e
  rw [e]
  have h0 := lev_same s x i hpre
  have hn := (lev_near s x (i + i) i i rfl).1.1
  have hne : ¬ lv s x i (i + 1) = 0 := fun q => by have := (lev_eq0 s x (i + (i + 1)) i (i + 1) rfl q).1; omega
  have h0' : impl_DistanceBetween.lev s x i i = 0 := h0
  show impl_DistanceBetween.lev s x i (i + 1) = 1
  have hne' : ¬ impl_DistanceBetween.lev s x i (i + 1) = 0 := hne
  omega
theorem one_del (s : ByteArray) (i : Nat) (hi : i < s.size) : lv s (s.extract 0 i ++ s.extract (i + 1) s.size) s.size (s.extract 0 i ++ s.extract (i + 1) s.size).size = 1 := by
  have h1 : (s.extract 0 i).size = i := by rw [ByteArray.size_extract]; omega
  have h2 : (s.extract (i + 1) s.size).size = s.size - (i + 1) := by rw [ByteArray.size_extract]; omega
  generalize hx : s.extract 0 i ++ s.extract (i + 1) s.size = x
  have hz : x.size = i + (s.size - (i + 1)) := by rw [← hx, ByteArray.size_append, h1, h2]
  have hpre : ∀ t : Nat, t < i → bt s (t : Int) = bt x (t : Int) := by
    intro t ht
    rw [← hx, bt_left _ _ t (by omega), bt_ext s 0 i t (by omega) (by omega), Nat.zero_add]
  have hsuf : ∀ t : Nat, t < s.size - (i + 1) → bt s ((i + 1 + t : Nat) : Int) = bt x ((i + t : Nat) : Int) := by
    intro t ht
    have := bt_right (s.extract 0 i) (s.extract (i + 1) s.size) t
    rw [h1, hx] at this
    rw [this, bt_ext s (i + 1) s.size t (by omega) (Nat.le_refl _)]
  have e := lev_suffix s x (i + 1) i (s.size - (i + 1)) hsuf
  rw [show i + 1 + (s.size - (i + 1)) = s.size from by omega, ← hz] at e
  rw [e]
  have h0 := lev_same s x i hpre
  have hn := (lev_near s x (i + i) i i rfl).2.1
  have hne : ¬ lv s x (i + 1) i = 0 := fun q => by have := (lev_eq0 s x (i + 1 + i) (i + 1) i rfl q).1; omega
  have h0' : impl_DistanceBetween.lev s x i i = 0 := h0
  show impl_DistanceBetween.lev s x (i + 1) i = 1
  have hne' : ¬ impl_DistanceBetween.lev s x (i + 1) i = 0 := hne
  omega
theorem one_sub (s c : ByteArray) (i : Nat) (hi : i < s.size) (hc : c.size = 1) (hd : ¬ bt s (i : Int) = bt c 0) : lv s ((s.extract 0 i ++ c) ++ s.extract (i + 1) s.size) s.size ((s.extract 0 i ++ c) ++ s.extract (i + 1) s.size).size = 1 := by
  have h1 : (s.extract 0 i).size = i := by rw [ByteArray.size_extract]; omega
  have h2 : (s.extract (i + 1) s.size).size = s.size - (i + 1) := by rw [ByteArray.size_extract]; omega
  have h3 : (s.extract 0 i ++ c).size = i + 1 := by rw [ByteArray.size_append, h1, hc]
  generalize hx : (s.extract 0 i ++ c) ++ s.extract (i + 1) s.size = x
  have hz : x.size = i + 1 + (s.size - (i + 1)) := by rw [← hx, ByteArray.size_append, h3, h2]
  have hpre : ∀ t : Nat, t < i → bt s (t : Int) = bt x (t : Int) := by
    intro t ht
    rw [← hx, bt_left _ _ t (by omega), bt_left _ _ t (by omega), bt_ext s 0 i t (by omega) (by omega), Nat.zero_add]
  have hmid : bt x (i : Int) = bt c 0 := by
    rw [← hx, bt_left _ _ i (by omega)]
    have := bt_right (s.extract 0 i) c 0
    rw [h1, Nat.add_zero] at this
    exact this
  have hsuf : ∀ t : Nat, t < s.size - (i + 1) → bt s ((i + 1 + t : Nat) : Int) = bt x ((i + 1 + t : Nat) : Int) := by
    intro t ht
    have := bt_right (s.extract 0 i ++ c) (s.extract (i + 1) s.size) t
    rw [h3, hx] at this
    rw [this, bt_ext s (i + 1) s.size t (by omega) (Nat.le_refl _)]
  have e := lev_suffix s x (i + 1) (i + 1) (s.size - (i + 1)) hsuf
  rw [show i + 1 + (s.size - (i + 1)) = s.size from by omega] at e
  rw [show x.size = s.size from by omega, e]
  have h0' : impl_DistanceBetween.lev s x i i = 0 := lev_same s x i hpre
  show impl_DistanceBetween.lev s x (i + 1) (i + 1) = 1
  rw [lev_step, if_neg (by rw [hmid]; exact hd), h0']
  omega
def Nb (s x : ByteArray) : Prop := isf x = true ∧ lv s x s.size x.size = 1
theorem addO_mem {k : Nat} {l t : List ByteArray} {x : ByteArray} (h : impl_addOnce.f k l x = some t) : ∀ y ∈ t, y ∈ l ∨ y = x := by
  unfold impl_addOnce.f at h
  obtain ⟨b, _, h⟩ := Option.bind_eq_some_iff.mp h
  by_cases hb : b = true
  · rw [if_pos hb] at h
    obtain rfl := Option.some.inj h
    exact fun y hy => .inl hy
  · rw [if_neg hb] at h
    by_cases hl : l.length < 8796093022208
    · rw [if_pos hl] at h
      obtain rfl := Option.some.inj h
      intro y hy
      rcases List.mem_append.1 hy with hy | hy
      · exact .inl hy
      · exact .inr (List.mem_singleton.1 hy)
    · rw [if_neg hl] at h; cases h
theorem snd_ext {s : ByteArray} (h : sndL (bytesOf s) = true) (i j : Nat) : sndL (bytesOf (s.extract i j)) = true := by
  unfold sndL at h ⊢
  rw [List.all_eq_true] at h ⊢
  intro x hx
  rw [bytesOf_extract] at hx
  exact h x (List.mem_of_mem_take (List.mem_of_mem_drop hx))
theorem snd_app {a b : ByteArray} (ha : sndL (bytesOf a) = true) (hb : sndL (bytesOf b) = true) : sndL (bytesOf (a ++ b)) = true := by
  unfold sndL at ha hb ⊢
  rw [bytesOf_append, List.all_append, ha, hb]; rfl
theorem lit_snd : sndL (bytesOf (⟨#[112, 116, 98, 100, 110, 97, 105]⟩ : ByteArray)) = true := by decide +kernel
theorem isf_mk {x : ByteArray} (h : sndL (bytesOf x) = true) (hz : x.size ≤ 8) : isf x = true := by
  unfold isf; rw [h, decide_eq_true hz]; rfl
theorem isf_snd {x : ByteArray} (h : isf x = true) : sndL (bytesOf x) = true := by
  unfold isf at h
  simp only [Bool.and_eq_true] at h
  exact h.1
theorem nb_P (s : ByteArray) (hf : isf s = true) (hs : s.size ≤ 7) (k : Nat) :
    (∀ (l r : List ByteArray) (i : Nat), (∀ x ∈ l, Nb s x) → impl_NeighboursOf.l0 k s l ((s.size + 1 : Nat) : Int) (i : Int) = some r → ∀ x ∈ r, Nb s x) ∧
    (∀ (l r : List ByteArray) (i j : Nat), i ≤ s.size → (∀ x ∈ l, Nb s x) → impl_NeighboursOf.l1 k s l (i : Int) ((s.size + 1 : Nat) : Int) (i : Int) (j : Int) = some r → ∀ x ∈ r, Nb s x) := by
  have hS := isf_snd hf
  induction k with
  | zero => exact ⟨fun l r i _ h => by simp [impl_NeighboursOf.l0] at h, fun l r i j _ _ h => by simp [impl_NeighboursOf.l1] at h⟩
  | succ k ih =>
    obtain ⟨ih0, ih1⟩ := ih
    constructor
    · intro l r i hl h
      rw [impl_NeighboursOf.l0] at h
      by_cases hi : (i : Int) < ((s.size + 1 : Nat) : Int)
      · rw [if_pos hi] at h
        exact ih1 l r i 0 (by omega) hl h
      · rw [if_neg hi] at h
        obtain rfl := Option.some.inj h
        exact hl
    · intro l r i j hi hl h
      have ha : (s.extract 0 i).size = i := by rw [ByteArray.size_extract]; omega
      have hb : (s.extract i s.size).size = s.size - i := by rw [ByteArray.size_extract]; omega
      have hc : (s.extract (i + 1) s.size).size = s.size - (i + 1) := by rw [ByteArray.size_extract]; omega
      rw [impl_NeighboursOf.l1] at h
      by_cases hj : (j : Int) < 7
      · have hz : ((⟨#[112, 116, 98, 100, 110, 97, 105]⟩ : ByteArray).extract j (j + 1)).size = 1 := lit_size j (by omega)
        have hLS := snd_ext lit_snd j (j + 1)
        have eI : ((i : Int)).toNat = i := Int.toNat_natCast i
        have eJ : ((j : Int)).toNat = j := Int.toNat_natCast j
        have eJ1 : (((j + 1 : Nat) : Int)).toNat = j + 1 := Int.toNat_natCast (j + 1)
        have eI1 : (((i + 1 : Nat) : Int)).toNat = i + 1 := Int.toNat_natCast (i + 1)
        rw [if_pos hj, nx (i := j) (by omega), nx (i := i) (by omega), if_pos (show (0 : Int) ≤ (j : Int) by omega), if_pos (show (j : Int) ≤ ((j + 1 : Nat) : Int) by omega), if_pos (show ((j + 1 : Nat) : Int) ≤ 7 by omega), if_pos (show (0 : Int) ≤ (i : Int) by omega), if_pos (show (i : Int) ≤ (s.size : Int) by omega), eI, eJ, eJ1, eI1] at h
        rw [if_pos (by rw [ha, hz]; omega), if_pos (by rw [ByteArray.size_append, ha, hz, hb]; omega)] at h
        obtain ⟨t, ht, h⟩ := Option.bind_eq_some_iff.mp h
        have hT : ∀ x ∈ t, Nb s x := by
          intro x hx
          rcases addO_mem ht x hx with hx | rfl
          · exact hl x hx
          · exact ⟨isf_mk (snd_app (snd_app (snd_ext hS 0 i) hLS) (snd_ext hS i s.size)) (by rw [ByteArray.size_append, ByteArray.size_append, ha, hz, hb]; omega), one_ins s _ i hi hz⟩
        by_cases hlt : (i : Int) < (s.size : Int)
        · rw [if_pos hlt, if_pos (by rw [hz]; decide)] at h
          by_cases he : bt s (i : Int) = bt ((⟨#[112, 116, 98, 100, 110, 97, 105]⟩ : ByteArray).extract j (j + 1)) 0
          · rw [if_pos he] at h
            exact ih1 t r i (j + 1) hi hT h
          · rw [if_neg he, if_pos (show (0 : Int) ≤ ((i + 1 : Nat) : Int) by omega), if_pos (show ((i + 1 : Nat) : Int) ≤ (s.size : Int) by omega), if_pos (by rw [ByteArray.size_append, ha, hz, hc]; omega)] at h
            obtain ⟨t2, ht2, h⟩ := Option.bind_eq_some_iff.mp h
            refine ih1 t2 r i (j + 1) hi (fun x hx => ?_) h
            rcases addO_mem ht2 x hx with hx | rfl
            · exact hT x hx
            · exact ⟨isf_mk (snd_app (snd_app (snd_ext hS 0 i) hLS) (snd_ext hS (i + 1) s.size)) (by rw [ByteArray.size_append, ByteArray.size_append, ha, hz, hc]; omega), one_sub s _ i (by omega) hz he⟩
        · rw [if_neg hlt] at h
          exact ih1 t r i (j + 1) hi hT h
      · rw [if_neg hj, nx (i := i) (by omega)] at h
        by_cases hlt : (i : Int) < (s.size : Int)
        · have eI : ((i : Int)).toNat = i := Int.toNat_natCast i
          have eI1 : (((i + 1 : Nat) : Int)).toNat = i + 1 := Int.toNat_natCast (i + 1)
          rw [if_pos hlt, if_pos (show (0 : Int) ≤ (i : Int) by omega), if_pos (show (i : Int) ≤ (s.size : Int) by omega), if_pos (show (0 : Int) ≤ ((i + 1 : Nat) : Int) by omega), if_pos (show ((i + 1 : Nat) : Int) ≤ (s.size : Int) by omega), eI, eI1, if_pos (by rw [ha, hc]; omega)] at h
          obtain ⟨t, ht, h⟩ := Option.bind_eq_some_iff.mp h
          refine ih0 t r (i + 1) (fun x hx => ?_) h
          rcases addO_mem ht x hx with hx | rfl
          · exact hl x hx
          · exact ⟨isf_mk (snd_app (snd_ext hS 0 i) (snd_ext hS (i + 1) s.size)) (by rw [ByteArray.size_append, ha, hc]; omega), one_del s i (by omega)⟩
        · rw [if_neg hlt] at h
          exact ih0 l r (i + 1) hl h
theorem nb_all (s : ByteArray) (hs : s.size ≤ 1048576) {k : Nat} {r : List ByteArray} (h : impl_NeighboursOf.f k s = some r) (hk : s.size + 1500 < k) : ∀ x ∈ r, dist s x = 1 := by
  obtain ⟨k, rfl⟩ : ∃ m, k = m + 1 := ⟨k - 1, by omega⟩
  unfold impl_NeighboursOf.f at h
  rw [impl_IsForm_f s (by omega) (by omega), Option.bind_some] at h
  by_cases hf : isf s = true
  · have h8 : s.size ≤ 8 := isf_size hf
    rw [if_pos hf, impl_NeighboursOf.j0] at h
    by_cases h7 : s.size ≤ 7
    · have e2 : ((s.size : Int) == 8) = false := by simp; omega
      rw [e2, if_neg (by simp), nx (by omega)] at h
      intro x hx
      obtain ⟨x1, x2⟩ := (nb_P s hf h7 k).1 [] r 0 (fun x hx => by simp at hx) h x hx
      unfold dist
      rw [if_pos ⟨hf, x1⟩]
      have x3 : impl_DistanceBetween.lev s x s.size x.size = 1 := x2
      rw [x3]; rfl
    · have e2 : ((s.size : Int) == 8) = true := by rw [show s.size = 8 from by omega]; rfl
      rw [e2, if_pos rfl] at h
      obtain rfl := Option.some.inj h
      exact fun x hx => by simp at hx
  · rw [if_neg hf, impl_NeighboursOf.j0, if_pos rfl] at h
    obtain rfl := Option.some.inj h
    exact fun x hx => by simp at hx
def ft (x f : Int) : Bool :=
  if f = 0 then (x == 97 || x == 105) else if f = 1 then (x == 98 || x == 100 || x == 110 || x == 97 || x == 105) else if f = 2 then x == 110 else if f = 3 then (x == 112 || x == 98) else if f = 4 then x == 105 else false
theorem spec_HasFeature_f (x f : Int) : spec_HasFeature.f x f = some (ft x f) := by
  unfold spec_HasFeature.f ft
  repeat' split
  all_goals simp_all
theorem impl_HasFeature_f {x : Int} (h0 : 0 ≤ x) (h1 : x ≤ 255) (f : Int) : impl_HasFeature.f x f = some (ft x f) := by
  by_cases h : 0 ≤ f ∧ f ≤ 4
  · obtain rfl | rfl | rfl | rfl | rfl : f = 0 ∨ f = 1 ∨ f = 2 ∨ f = 3 ∨ f = 4 := by omega
    · refine byte_cases (P := fun x => impl_HasFeature.f x 0 = some (ft x 0)) ?_ h0 h1; decide +kernel
    · refine byte_cases (P := fun x => impl_HasFeature.f x 1 = some (ft x 1)) ?_ h0 h1; decide +kernel
    · refine byte_cases (P := fun x => impl_HasFeature.f x 2 = some (ft x 2)) ?_ h0 h1; decide +kernel
    · refine byte_cases (P := fun x => impl_HasFeature.f x 3 = some (ft x 3)) ?_ h0 h1; decide +kernel
    · refine byte_cases (P := fun x => impl_HasFeature.f x 4 = some (ft x 4)) ?_ h0 h1; decide +kernel
  · unfold impl_HasFeature.f
    rw [within_f]; simp only [Option.bind_some]
    rw [if_neg (by simpa using h)]
    unfold ft
    rw [if_neg (by omega), if_neg (by omega), if_neg (by omega), if_neg (by omega), if_neg (by omega)]
theorem impl_isVowel_f {x : Int} (h0 : 0 ≤ x) (h1 : x ≤ 255) : impl_isVowel.f x = some (ft x 0) := by
  unfold impl_isVowel.f; rw [impl_HasFeature_f h0 h1]; rfl
theorem impl_isVowel_bt (s : ByteArray) (i : Int) : impl_isVowel.f (bt s i) = some (ft (bt s i) 0) := impl_isVowel_f (bt_range s i).1 (bt_range s i).2
def vat (s : ByteArray) (i : Int) : Bool := decide (0 ≤ i ∧ i < (s.size : Int)) && ft (bt s i) 0
theorem spec_IsVowelAt_f (s : ByteArray) (i : Int) : spec_IsVowelAt.f s i = some (vat s i) := by
  unfold spec_IsVowelAt.f vat
  by_cases h : 0 ≤ i
  · by_cases h2 : i < (s.size : Int)
    · rw [if_pos h, if_pos h2, if_pos h, spec_HasFeature_f]; simp [h, h2]
    · rw [if_pos h, if_neg h2]; simp [h2]
  · rw [if_neg h]; simp [h]
def vows (l : List Int) : Nat := l.countP fun x => ft x 0
theorem spec_cntvow_l0 (s : ByteArray) (hs : s.size ≤ 1048576) (d : Nat) : ∀ (i k n : Nat), i + d = s.size → d < k → n ≤ i →
    spec_CountVowels.l0 k s (n : Int) (i : Int) = some ((n + vows ((bytesOf s).drop i) : Nat) : Int) := by
  induction d with
  | zero =>
    intro i k n h hk hn
    obtain ⟨k, rfl⟩ : ∃ m, k = m + 1 := ⟨k - 1, by omega⟩
    simp only [spec_CountVowels.l0]
    rw [if_neg (by omega), List.drop_of_length_le (by rw [bytesOf_length]; omega)]
    simp [vows]
  | succ d ih =>
    intro i k n h hk hn
    obtain ⟨k, rfl⟩ : ∃ m, k = m + 1 := ⟨k - 1, by omega⟩
    simp only [spec_CountVowels.l0]
    rw [if_pos (by omega), spec_IsVowelAt_f, nx (i := i) (by omega), nx (i := n) (by omega)]
    have hv : vat s (i : Int) = ft (bt s (i : Int)) 0 := by unfold vat; simp; omega
    rw [hv, drop_bt s i (by omega)]
    simp only [Option.bind_some, vows, List.countP_cons]
    by_cases hb : ft (bt s (i : Int)) 0 = true
    · rw [if_pos hb, ih (i + 1) k (n + 1) (by omega) (by omega) (by omega)]
      simp only [hb, if_true, vows]; congr 2; omega
    · rw [if_neg hb, ih (i + 1) k n (by omega) (by omega) (by omega)]
      simp [hb, vows]
theorem impl_cntvow_l0 (s : ByteArray) (hs : s.size ≤ 1048576) (d : Nat) : ∀ (i k n : Nat), i + d = s.size → d < k → n ≤ i →
    impl_CountVowels.l0 k s (n : Int) (s.size : Int) (i : Int) = some ((n + vows ((bytesOf s).drop i) : Nat) : Int) := by
  induction d with
  | zero =>
    intro i k n h hk hn
    obtain ⟨k, rfl⟩ : ∃ m, k = m + 1 := ⟨k - 1, by omega⟩
    simp only [impl_CountVowels.l0]
    rw [if_neg (by omega), List.drop_of_length_le (by rw [bytesOf_length]; omega)]
    simp [vows]
  | succ d ih =>
    intro i k n h hk hn
    obtain ⟨k, rfl⟩ : ∃ m, k = m + 1 := ⟨k - 1, by omega⟩
    simp only [impl_CountVowels.l0]
    rw [if_pos (by omega), if_pos (by omega), if_pos (by omega), impl_isVowel_bt, nx (i := i) (by omega), nx (i := n) (by omega), drop_bt s i (by omega)]
    simp only [Option.bind_some, vows, List.countP_cons]
    by_cases hb : ft (bt s (i : Int)) 0 = true
    · rw [if_pos hb, ih (i + 1) k (n + 1) (by omega) (by omega) (by omega)]
      simp only [hb, if_true, vows]; congr 2; omega
    · rw [if_neg hb, ih (i + 1) k n (by omega) (by omega) (by omega)]
      simp [hb, vows]
theorem spec_CountVowels_f (s : ByteArray) (hs : s.size ≤ 1048576) {k : Nat} (hk : s.size < k) : spec_CountVowels.f k s = some (vows (bytesOf s) : Int) := by
  have := spec_cntvow_l0 s hs s.size 0 k 0 (by omega) (by omega) (by omega)
  simpa [spec_CountVowels.f] using this
theorem impl_CountVowels_f (s : ByteArray) (hs : s.size ≤ 1048576) {k : Nat} (hk : s.size < k) : impl_CountVowels.f k s = some (vows (bytesOf s) : Int) := by
  have := impl_cntvow_l0 s hs s.size 0 k 0 (by omega) (by omega) (by omega)
  simpa [impl_CountVowels.f] using this
theorem ext_snoc (s : ByteArray) (a i : Nat) (h : a ≤ i) (hi : i < s.size) : s.extract a i ++ s.extract i (i + 1) = s.extract a (i + 1) := by
  apply bytesOf_inj
  have hl : i < (bytesOf s).length := by rw [bytesOf_length]; exact hi
  rw [bytesOf_append, bytesOf_extract, bytesOf_extract, bytesOf_extract, List.take_succ_eq_append_getElem hl]
  rw [List.drop_append_of_le_length (by rw [List.length_take]; omega), List.drop_append_of_le_length (by rw [List.length_take]; omega)]
  rw [List.drop_of_length_le (i := i) (by rw [List.length_take]; omega), List.nil_append]
theorem ext_nil (s : ByteArray) (a : Nat) : s.extract a a = ⟨#[]⟩ := by
  apply bytesOf_inj
  rw [bytesOf_extract, List.drop_of_length_le (by rw [List.length_take]; omega)]; rfl
theorem ext_size (s : ByteArray) (a b : Nat) (h : a ≤ b) (hb : b ≤ s.size) : (s.extract a b).size = b - a := by
  rw [ByteArray.size_extract]; omega
theorem vat_true (s : ByteArray) (i : Nat) (h : i < s.size) : vat s (i : Int) = ft (bt s (i : Int)) 0 := by unfold vat; simp; omega
theorem vat_end (s : ByteArray) (i : Nat) (h : s.size ≤ i) : vat s (i : Int) = false := by
  unfold vat; rw [decide_eq_false (by omega), Bool.false_and]
theorem size0 (x : ByteArray) (h : x.size ≠ 0) : ¬ x.toList = ([] : List UInt8) := fun e => h ((toList_nil_iff x).1 e)
theorem empty_nil : (⟨#[]⟩ : ByteArray).toList = ([] : List UInt8) := (toList_nil_iff _).2 rfl
inductive Cut (s : ByteArray) (i f : Nat) : List S38 → List S38 → ByteArray → ByteArray → ByteArray → Prop
  | none (hf : f = 0) (hv : vows ((bytesOf s).take i) = 0) : Cut s i f [] [] (s.extract 0 i) ⟨#[]⟩ ⟨#[]⟩
  | opened (o : List S38) (a b : ByteArray) (hb : b.size ≠ 0) (hf : f ≤ i) (hi : o.length < i) (hv : vat s (i : Int) = true → f = i) : Cut s i f (o ++ [⟨a, b, ⟨#[]⟩⟩]) o a b (s.extract f i)
  | closed (o : List S38) (a b : ByteArray) (hb : b.size ≠ 0) (hf : f < i) (hi : o.length < i) (hv : vat s (i : Int) = true) : Cut s i f (o ++ [⟨a, b, ⟨#[]⟩⟩]) (o ++ [⟨a, b, s.extract f (i - 1)⟩]) (s.extract (i - 1) i) ⟨#[]⟩ ⟨#[]⟩
theorem rd_last (o : List S38) (x : S38) : rd_T38 (o ++ [x]) (((o ++ [x]).length : Int) - 1) = x := by
  have e : ((o ++ [x]).length : Int) - 1 = ((o.length : Nat) : Int) := by simp
  rw [e]
  have := getD_nat (o ++ [x]) z38 o.length (by simp)
  rw [List.getElem_append_right (Nat.le_refl _)] at this
  simp only [Nat.sub_self, List.getElem_cons_zero] at this
  exact this
theorem set_last (o : List S38) (x y : S38) : (o ++ [x]).set (((o ++ [x]).length : Int) - 1).toNat y = o ++ [y] := by
  have e : (((o ++ [x]).length : Int) - 1).toNat = o.length := by simp
  rw [e, List.set_append_right _ _ (Nat.le_refl _), Nat.sub_self, List.set_cons_zero]
theorem sylof_l0 (s : ByteArray) (hs : s.size ≤ 1048576) (hv : vows (bytesOf s) ≠ 0) (d : Nat) : ∀ (i f k k' : Nat) (x y : List S38) (a b c : ByteArray), i + d = s.size → d < k → d < k' → Cut s i f x y a b c →
    ∃ r, spec_SyllablesOf.l0 k s y (i : Int) a b c = some r ∧ impl_SyllablesOf.l0 k' s x (f : Int) (s.size : Int) (i : Int) = some r ∧ r.length ≤ s.size := by
  induction d with
  | zero =>
    intro i f k k' x y a b c h hk hk' hc
    obtain ⟨k, rfl⟩ : ∃ m, k = m + 1 := ⟨k - 1, by omega⟩
    obtain ⟨k', rfl⟩ : ∃ m, k' = m + 1 := ⟨k' - 1, by omega⟩
    obtain rfl : i = s.size := by omega
    have hlt : ¬ ((s.size : Nat) : Int) < (s.size : Int) := by omega
    simp only [spec_SyllablesOf.l0, impl_SyllablesOf.l0, if_neg hlt]
    cases hc with
    | none hf hv' => rw [List.take_of_length_le (by rw [bytesOf_length]; exact Nat.le_refl _)] at hv'; exact absurd hv' hv
    | closed o a b hb hf hi hv' => rw [vat_end s _ (Nat.le_refl _)] at hv'; cases hv'
    | opened o a b hb hf hi hv' =>
      have hL : (y ++ [(⟨a, b, ⟨#[]⟩⟩ : S38)]).length = y.length + 1 := by simp
      rw [w64 (x := ((y ++ [(⟨a, b, ⟨#[]⟩⟩ : S38)]).length : Int) - 1) (by omega) (by omega), if_pos (by omega), if_pos (by omega), if_pos (by omega), if_pos (by omega), if_pos (by omega), rd_last, set_last, Int.toNat_natCast]
      exact ⟨_, rfl, rfl, by rw [List.length_append]; simp only [List.length_cons, List.length_nil]; omega⟩
  | succ d ih =>
    intro i f k k' x y a b c h hk hk' hc
    obtain ⟨k, rfl⟩ : ∃ m, k = m + 1 := ⟨k - 1, by omega⟩
    obtain ⟨k', rfl⟩ : ∃ m, k' = m + 1 := ⟨k' - 1, by omega⟩
    have h1 : (i : Int) < (s.size : Int) := by omega
    have h2 : 0 ≤ (i : Int) := by omega
    have h3 : (i : Int) ≤ ((i + 1 : Nat) : Int) := by omega
    have h4 : ((i + 1 : Nat) : Int) ≤ (s.size : Int) := by omega
    have h5 : (i : Int) ≤ (s.size : Int) := by omega
    have hx1 : (s.extract i (i + 1)).size = 1 := by rw [ext_size s i (i + 1) (by omega) (by omega)]; omega
    simp only [spec_SyllablesOf.l0, impl_SyllablesOf.l0, if_pos h1, if_pos h2]
    rw [nx (i := i) (by omega)]
    simp only [if_pos h2, if_pos h3, if_pos h4, if_pos h5, Int.toNat_natCast]
    rw [spec_IsVowelAt_f, impl_isVowel_bt, ← vat_true s i (by omega)]
    simp only [Option.bind_some]
    have hvn : vows ((bytesOf s).take (i + 1)) = vows ((bytesOf s).take i) + if vat s (i : Int) = true then 1 else 0 := by
      rw [take_bt s i (by omega), vat_true s i (by omega)]
      unfold vows
      rw [List.countP_append, List.countP_cons, List.countP_nil]; omega
    by_cases hw : vat s (i : Int) = true
    · simp only [if_pos hw]
      cases hc with
      | none hf hv' =>
        subst hf
        rw [if_pos empty_nil, if_neg (by simp), if_pos (by omega), if_pos (by omega), if_pos (by simp)]
        refine ih (i + 1) (i + 1) k k' _ _ _ _ _ (by omega) (by omega) (by omega) ?_
        have := Cut.opened (s := s) (i := i + 1) (f := i + 1) [] (s.extract 0 i) (s.extract i (i + 1)) (by omega) (by omega) (by simp) (fun _ => rfl)
        rw [ext_nil] at this
        exact this
      | opened o a b hb hf hi hv' =>
        obtain rfl := hv' hw
        have hL : (y ++ [(⟨a, b, ⟨#[]⟩⟩ : S38)]).length = y.length + 1 := by simp
        have hL2 : (y ++ [(⟨a, b, s.extract f f⟩ : S38)]).length = y.length + 1 := by simp
        rw [if_neg (size0 b hb), if_pos (show y.length < 2932031007402 by omega), if_pos (show ((y ++ [(⟨a, b, ⟨#[]⟩⟩ : S38)]).length : Int) > 0 by omega), if_neg (show ¬ (f : Int) < (f : Int) by omega), if_pos (show (f : Int) ≤ (f : Int) by omega), if_pos (show (y ++ [(⟨a, b, ⟨#[]⟩⟩ : S38)]).length < 2932031007402 by omega)]
        refine ih (f + 1) (f + 1) k k' _ _ _ _ _ (by omega) (by omega) (by omega) ?_
        have := Cut.opened (s := s) (i := f + 1) (f := f + 1) (y ++ [⟨a, b, s.extract f f⟩]) (s.extract f f) (s.extract f (f + 1)) (by omega) (by omega) (by omega) (fun _ => rfl)
        rw [ext_nil s (f + 1)] at this
        rw [ext_nil s f] at this ⊢
        exact this
      | closed o a b hb hf hi hv' =>
        have e1 : wrap64 ((i : Int) - 1) = ((i - 1 : Nat) : Int) := by rw [w64 (by omega) (by omega)]; omega
        have hL : (o ++ [(⟨a, b, ⟨#[]⟩⟩ : S38)]).length = o.length + 1 := by simp
        have hL2 : (o ++ [(⟨a, b, s.extract f (i - 1)⟩ : S38)]).length = o.length + 1 := by simp
        have e2 : wrap64 (((o ++ [(⟨a, b, ⟨#[]⟩⟩ : S38)]).length : Int) - 1) = ((o ++ [(⟨a, b, ⟨#[]⟩⟩ : S38)]).length : Int) - 1 := w64 (by omega) (by omega)
        rw [if_pos empty_nil, if_pos (show ((o ++ [(⟨a, b, ⟨#[]⟩⟩ : S38)]).length : Int) > 0 by omega), if_pos (show (f : Int) < (i : Int) by omega), e1, e2]
        rw [if_pos (by omega), if_pos (by omega), if_pos (by omega), if_pos (by omega), if_pos (by omega), rd_last, set_last]
        simp only [Option.bind_some, Int.toNat_natCast]
        rw [if_pos (by omega), if_pos (by omega), if_pos (by omega)]
        refine ih (i + 1) (i + 1) k k' _ _ _ _ _ (by omega) (by omega) (by omega) ?_
        have := Cut.opened (s := s) (i := i + 1) (f := i + 1) (o ++ [⟨a, b, s.extract f (i - 1)⟩]) (s.extract (i - 1) i) (s.extract i (i + 1)) (by omega) (by omega) (by omega) (fun _ => rfl)
        rw [ext_nil s (i + 1)] at this
        exact this
    · simp only [if_neg hw]
      simp only [Bool.not_eq_true] at hw
      cases hc with
      | none hf hv' =>
        subst hf
        rw [if_pos empty_nil, if_pos (by rw [hx1, ext_size s 0 i (by omega) (by omega)]; omega), ext_snoc s 0 i (by omega) (by omega)]
        refine ih (i + 1) 0 k k' _ _ _ _ _ (by omega) (by omega) (by omega) ?_
        exact Cut.none rfl (by rw [hvn, hw, hv']; rfl)
      | opened o a b hb hf hi hv' =>
        rw [if_neg (size0 b hb), spec_IsVowelAt_f]
        simp only [Option.bind_some]
        by_cases hn : vat s ((i + 1 : Nat) : Int) = true
        · rw [if_pos hn, if_pos (by omega)]
          refine ih (i + 1) f k k' _ _ _ _ _ (by omega) (by omega) (by omega) ?_
          have := Cut.closed (s := s) (i := i + 1) (f := f) y a b hb (by omega) (by omega) hn
          exact this
        · rw [if_neg hn, if_pos (by rw [hx1, ext_size s f i hf (by omega)]; omega), ext_snoc s f i hf (by omega)]
          refine ih (i + 1) f k k' _ _ _ _ _ (by omega) (by omega) (by omega) ?_
          exact Cut.opened y a b hb (by omega) (by omega) (fun e => absurd e hn)
      | closed o a b hb hf hi hv' => rw [hv'] at hw; cases hw
theorem sylof (s : ByteArray) (hs : s.size ≤ 1048576) {k : Nat} (hk : s.size + 12 < k) : ∃ r, spec_SyllablesOf.f k s = some r ∧ impl_SyllablesOf.f k s = some r ∧ r.length ≤ 8 := by
  unfold spec_SyllablesOf.f impl_SyllablesOf.f
  obtain ⟨k, rfl⟩ : ∃ m, k = m + 1 := ⟨k - 1, by omega⟩
  rw [spec_IsForm_f s (by omega) (by omega), impl_IsForm_f s (by omega) (by omega)]; simp only [Option.bind_some]
  by_cases h : isf s = true
  · rw [if_pos h, if_pos h, spec_CountVowels_f s hs (by omega), impl_CountVowels_f s hs (by omega)]; simp only [Option.bind_some]
    by_cases hv : vows (bytesOf s) = 0
    · have e : (((vows (bytesOf s) : Nat) : Int) == 0) = true := by rw [hv]; rfl
      rw [e]; simp only [spec_SyllablesOf.j0, impl_SyllablesOf.j0]
      exact ⟨[], rfl, rfl, by simp⟩
    · have e : (((vows (bytesOf s) : Nat) : Int) == 0) = false := by simp; omega
      rw [e]; simp only [spec_SyllablesOf.j0, impl_SyllablesOf.j0]
      have hc : Cut s 0 0 [] [] ⟨#[]⟩ ⟨#[]⟩ ⟨#[]⟩ := by
        have := Cut.none (s := s) (i := 0) (f := 0) rfl (by simp [vows])
        rwa [ext_nil] at this
      obtain ⟨r, e1, e2, e3⟩ := sylof_l0 s hs hv s.size 0 0 k k _ _ _ _ _ (by omega) (by omega) (by omega) hc
      have h8 : s.size ≤ 8 := by unfold isf at h; simp only [Bool.and_eq_true, decide_eq_true_eq] at h; exact h.2
      exact ⟨r, by rw [if_neg (by simp)]; exact e1, by rw [if_neg (by simp)]; exact e2, by omega⟩
  · rw [if_neg h, if_neg h]
    simp only [spec_SyllablesOf.j0, impl_SyllablesOf.j0]
    exact ⟨[], rfl, rfl, by simp⟩
def sizeS (l : List S38) : Nat := (l.map fun x => x.f0.size + x.f1.size + x.f2.size).sum
theorem sizeS_cons (x : S38) (l : List S38) : sizeS (x :: l) = x.f0.size + x.f1.size + x.f2.size + sizeS l := by simp [sizeS]
def jb (l : List S38) : List Int := l.flatMap fun x => bytesOf x.f0 ++ bytesOf x.f1 ++ bytesOf x.f2
theorem jb_length (l : List S38) : (jb l).length = sizeS l := by
  induction l with
  | nil => rfl
  | cons x l ih => simp only [jb, List.flatMap_cons, List.length_append, bytesOf_length, sizeS_cons] at *; omega
theorem jb_snoc (l : List S38) (i : Nat) (h : i < l.length) : jb (l.take (i + 1)) = jb (l.take i) ++ (bytesOf l[i].f0 ++ bytesOf l[i].f1 ++ bytesOf l[i].f2) := by
  rw [List.take_succ_eq_append_getElem h]; unfold jb; rw [List.flatMap_append, List.flatMap_cons, List.flatMap_nil, List.append_nil]
theorem sizeS_take (l : List S38) (i : Nat) : sizeS (l.take i) ≤ sizeS l := by
  induction l generalizing i with
  | nil => simp
  | cons x l ih => cases i with
    | zero => simp [sizeS]
    | succ i => rw [List.take_succ_cons, sizeS_cons, sizeS_cons]; have := ih i; omega
theorem sizeS_snoc (l : List S38) (i : Nat) (h : i < l.length) : sizeS (l.take i) + (l[i].f0.size + l[i].f1.size + l[i].f2.size) ≤ sizeS l := by
  have h1 := sizeS_take l (i + 1)
  have h2 := jb_length (l.take (i + 1))
  rw [jb_snoc l i h] at h2
  simp only [List.length_append, bytesOf_length, jb_length] at h2
  omega
theorem impl_join_l0 (l : List S38) (hl : l.length ≤ 1048576) (hz : sizeS l ≤ 1048576) (d : Nat) : ∀ (i k : Nat), i + d = l.length → d < k →
    impl_JoinSyllables.l0 k (strOfNums (jb (l.take i))) l (l.length : Int) (i : Int) = some (strOfNums (jb l)) := by
  induction d with
  | zero =>
    intro i k h hk
    obtain ⟨k, rfl⟩ : ∃ m, k = m + 1 := ⟨k - 1, by omega⟩
    simp only [impl_JoinSyllables.l0]
    rw [if_neg (by omega), List.take_of_length_le (by omega)]
  | succ d ih =>
    intro i k h hk
    obtain ⟨k, rfl⟩ : ∃ m, k = m + 1 := ⟨k - 1, by omega⟩
    have e : rd_T38 l (i : Int) = l[i]'(by omega) := getD_nat l _ i (by omega)
    have hs := sizeS_snoc l i (by omega)
    have := ih (i + 1) k (by omega) (by omega)
    rw [jb_snoc l i (by omega)] at this
    simp only [impl_JoinSyllables.l0]
    rw [if_pos (by omega), if_pos (by omega), if_pos (by omega), e, nx (by omega)]
    generalize (l[i]'(by omega)) = x at *
    rw [show x.f0 = strOfNums (bytesOf x.f0) from (str_bytesOf _).symm, show x.f1 = strOfNums (bytesOf x.f1) from (str_bytesOf _).symm, show x.f2 = strOfNums (bytesOf x.f2) from (str_bytesOf _).symm]
    simp only [str_append, str_size, List.length_append, jb_length, bytesOf_length]
    rw [if_pos (by omega), if_pos (by omega), if_pos (by omega)]
    simpa [List.append_assoc] using this
theorem impl_JoinSyllables_f (l : List S38) (hl : l.length ≤ 1048576) (hz : sizeS l ≤ 1048576) {k : Nat} (hk : l.length < k) : impl_JoinSyllables.f k l = some (strOfNums (jb l)) :=
  impl_join_l0 l hl hz l.length 0 k (by omega) (by omega)
theorem jb_push (l : List S38) (x : S38) : jb (l ++ [x]) = jb l ++ (bytesOf x.f0 ++ bytesOf x.f1 ++ bytesOf x.f2) := by simp [jb]
theorem one_byte (s : ByteArray) (i : Nat) (h : i < s.size) : bytesOf (s.extract i (i + 1)) = [bt s (i : Int)] := by
  have hr := bt_range s (i : Int)
  rw [extract_one s i h, bytesOf_str (Bytes.one hr.1 (by omega))]
theorem nil_bytes {b : ByteArray} (h : b.toList = ([] : List UInt8)) : bytesOf b = [] := by
  have := (toList_nil_iff b).1 h
  exact List.eq_nil_of_length_eq_zero (by rw [bytesOf_length]; exact this)
theorem one_ne (s : ByteArray) (i : Nat) (h : i < s.size) : ¬ (s.extract i (i + 1)).toList = ([] : List UInt8) := by
  intro e
  have := nil_bytes e
  rw [one_byte s i h] at this
  cases this
theorem vows_snoc (s : ByteArray) (i : Nat) (h : i < s.size) : vows ((bytesOf s).take (i + 1)) = vows ((bytesOf s).take i) + (if ft (bt s (i : Int)) 0 = true then 1 else 0) := by
  rw [take_bt s i h]; unfold vows; rw [List.countP_append, List.countP_singleton]
theorem syl_P (s : ByteArray) (hs : s.size ≤ 1048576) (hv : vows (bytesOf s) ≠ 0) (k : Nat) : ∀ (y : List S38) (i : Nat) (a b c : ByteArray) (r : List S38), i ≤ s.size →
    jb y ++ (bytesOf a ++ bytesOf b ++ bytesOf c) = (bytesOf s).take i → (b.toList = ([] : List UInt8) → bytesOf c = [] ∧ (y = [] ∨ vat s (i : Int) = true)) →
    y.length + (if b.toList = ([] : List UInt8) then 0 else 1) = vows ((bytesOf s).take i) → spec_SyllablesOf.l0 k s y (i : Int) a b c = some r → jb r = bytesOf s ∧ r.length = vows (bytesOf s) := by
  induction k with
  | zero => intro y i a b c r _ _ _ _ h; simp [spec_SyllablesOf.l0] at h
  | succ k ih =>
    intro y i a b c r hi hJ hB hN h
    rw [spec_SyllablesOf.l0] at h
    by_cases hlt : (i : Int) < (s.size : Int)
    · have hl : i < s.size := by omega
      have eI : ((i : Int)).toNat = i := Int.toNat_natCast i
      have eI1 : (((i + 1 : Nat) : Int)).toNat = i + 1 := Int.toNat_natCast (i + 1)
      have hO := one_byte s i hl
      have hV := vows_snoc s i hl
      have hT := take_bt s i hl
      rw [if_pos hlt, nx (i := i) (by omega), if_pos (show (0 : Int) ≤ (i : Int) by omega), if_pos (show (i : Int) ≤ ((i + 1 : Nat) : Int) by omega), if_pos (show ((i + 1 : Nat) : Int) ≤ (s.size : Int) by omega), spec_IsVowelAt_f, Option.bind_some, eI, eI1] at h
      by_cases hvow : vat s (i : Int) = true
      · rw [if_pos hvow] at h
        have hft : ft (bt s (i : Int)) 0 = true := by rw [← vat_true s i hl]; exact hvow
        rw [if_pos hft] at hV
        by_cases hb : b.toList = ([] : List UInt8)
        · rw [if_pos hb] at h hN
          obtain ⟨hc, _⟩ := hB hb
          refine ih y (i + 1) a (s.extract i (i + 1)) c r (by omega) ?_ (fun e => absurd e (one_ne s i hl)) (by rw [if_neg (one_ne s i hl)]; omega) h
          rw [hT, ← hJ, hO, hc, nil_bytes hb]; simp
        · rw [if_neg hb] at h hN
          by_cases hy : y.length < 2932031007402
          · rw [if_pos hy] at h
            refine ih (y ++ [⟨a, b, c⟩]) (i + 1) ⟨#[]⟩ (s.extract i (i + 1)) ⟨#[]⟩ r (by omega) ?_ (fun e => absurd e (one_ne s i hl)) (by rw [if_neg (one_ne s i hl), List.length_append, List.length_singleton]; omega) h
            rw [hT, ← hJ, hO, jb_push, show bytesOf (⟨#[]⟩ : ByteArray) = [] from rfl]; simp
          · rw [if_neg hy] at h; cases h
      · rw [if_neg hvow] at h
        have hft : ¬ ft (bt s (i : Int)) 0 = true := by rw [← vat_true s i hl]; exact hvow
        rw [if_neg hft] at hV
        by_cases hb : b.toList = ([] : List UInt8)
        · rw [if_pos hb] at h hN
          obtain ⟨hc, hy⟩ := hB hb
          have hy0 : y = [] := by
            rcases hy with hy | hy
            · exact hy
            · exact absurd hy hvow
          by_cases hz : a.size + (s.extract i (i + 1)).size ≤ 9223372036854775807
          · rw [if_pos hz] at h
            refine ih y (i + 1) (a ++ s.extract i (i + 1)) b c r (by omega) ?_ (fun _ => ⟨hc, .inl hy0⟩) (by rw [if_pos hb]; omega) h
            rw [hT, ← hJ, bytesOf_append, hO, hc, nil_bytes hb]; simp
          · rw [if_neg hz] at h; cases h
        · rw [if_neg hb, spec_IsVowelAt_f, Option.bind_some] at h
          rw [if_neg hb] at hN
          by_cases hn : vat s ((i + 1 : Nat) : Int) = true
          · rw [if_pos hn] at h
            by_cases hy : y.length < 2932031007402
            · rw [if_pos hy] at h
              refine ih (y ++ [⟨a, b, c⟩]) (i + 1) (s.extract i (i + 1)) ⟨#[]⟩ ⟨#[]⟩ r (by omega) ?_ (fun _ => ⟨rfl, .inr hn⟩) (by rw [if_pos empty_nil, List.length_append, List.length_singleton]; omega) h
              rw [hT, ← hJ, hO, jb_push, show bytesOf (⟨#[]⟩ : ByteArray) = [] from rfl]; simp
            · rw [if_neg hy] at h; cases h
          · rw [if_neg hn] at h
            by_cases hz : c.size + (s.extract i (i + 1)).size ≤ 9223372036854775807
            · rw [if_pos hz] at h
              refine ih y (i + 1) a b (c ++ s.extract i (i + 1)) r (by omega) ?_ (fun e => absurd e hb) (by rw [if_neg hb]; omega) h
              rw [hT, ← hJ, bytesOf_append, hO]; simp
            · rw [if_neg hz] at h; cases h
    · have he : i = s.size := by omega
      rw [if_neg hlt] at h
      have hA : (bytesOf s).take i = bytesOf s := List.take_of_length_le (by rw [bytesOf_length]; omega)
      rw [hA] at hJ hN
      by_cases hy : y.length < 2932031007402
      · rw [if_pos hy] at h
        obtain rfl := Option.some.inj h
        refine ⟨by rw [jb_push]; exact hJ, ?_⟩
        rw [List.length_append, List.length_singleton]
        by_cases hb : b.toList = ([] : List UInt8)
        · exfalso
          rw [if_pos hb] at hN
          rcases (hB hb).2 with h1 | h1
          · rw [h1] at hN; simp at hN; exact hv hN.symm
          · rw [vat_end s i (by omega)] at h1; cases h1
        · rw [if_neg hb] at hN; exact hN
      · rw [if_neg hy] at h; cases h
theorem syl_facts (s : ByteArray) (hs : s.size ≤ 1048576) {k : Nat} (hk : s.size + 12 < k) {r : List S38} (h : spec_SyllablesOf.f k s = some r) (hr : 0 < r.length) : jb r = bytesOf s ∧ r.length = vows (bytesOf s) := by
  obtain ⟨k, rfl⟩ : ∃ m, k = m + 1 := ⟨k - 1, by omega⟩
  unfold spec_SyllablesOf.f at h
  rw [Option.bind_some, spec_IsForm_f s (by omega) (by omega), Option.bind_some] at h
  by_cases hf : isf s = true
  · rw [if_pos hf, spec_CountVowels_f s hs (by omega), Option.bind_some] at h
    by_cases hv : vows (bytesOf s) = 0
    · have e : (((vows (bytesOf s) : Nat) : Int) == 0) = true := by rw [hv]; rfl
      rw [e, spec_SyllablesOf.j0, if_pos rfl] at h
      obtain rfl := Option.some.inj h
      simp at hr
    · have e : (((vows (bytesOf s) : Nat) : Int) == 0) = false := by simp; omega
      rw [e, spec_SyllablesOf.j0, if_neg (by simp)] at h
      exact syl_P s hs hv k [] 0 ⟨#[]⟩ ⟨#[]⟩ ⟨#[]⟩ r (by omega) rfl (fun _ => ⟨rfl, .inl rfl⟩) (by rw [if_pos empty_nil]; rfl) h
  · rw [if_neg hf, spec_SyllablesOf.j0, if_pos rfl] at h
    obtain rfl := Option.some.inj h
    simp at hr
def dots : Bool → List S38 → List Int
  | _, [] => []
  | b, x :: l => (if b then [] else [46]) ++ (bytesOf x.f0 ++ bytesOf x.f1 ++ bytesOf x.f2) ++ dots false l
theorem dots_len (l : List S38) : ∀ b, (dots b l).length ≤ sizeS l + l.length := by
  induction l with
  | nil => intro b; exact Nat.zero_le _
  | cons x l ih =>
    intro b
    have := ih false
    rw [dots, sizeS_cons]
    cases b <;> simp only [List.length_append, List.length_cons, List.length_nil, bytesOf_length, if_true, if_false, Bool.false_eq_true] <;> omega
theorem spec_fmt_l0 (l : List S38) (hl : l.length ≤ 1048576) (d : Nat) : ∀ (i k : Nat) (acc : List Int), i + d = l.length → d < k → acc.length + (dots (decide (i = 0)) (l.drop i)).length ≤ 4194304 →
    spec_FormatSyllables.l0 k l (strOfNums acc) (i : Int) = some (strOfNums (acc ++ dots (decide (i = 0)) (l.drop i))) := by
  induction d with
  | zero =>
    intro i k acc h hk hA
    obtain ⟨k, rfl⟩ : ∃ m, k = m + 1 := ⟨k - 1, by omega⟩
    simp only [spec_FormatSyllables.l0]
    rw [if_neg (by omega), List.drop_of_length_le (by omega), dots, List.append_nil]
  | succ d ih =>
    intro i k acc h hk hA
    obtain ⟨k, rfl⟩ : ∃ m, k = m + 1 := ⟨k - 1, by omega⟩
    have e : rd_T38 l (i : Int) = l[i]'(by omega) := getD_nat l _ i (by omega)
    have hd : l.drop i = l[i]'(by omega) :: l.drop (i + 1) := List.drop_eq_getElem_cons (by omega)
    have hn : decide (i + 1 = 0) = false := decide_eq_false (by omega)
    rw [hd, dots] at hA ⊢
    simp only [spec_FormatSyllables.l0]
    rw [if_pos (by omega), e, nx (by omega)]
    generalize (l[i]'(by omega)) = x at *
    obtain ⟨p0, hp0, q0⟩ : ∃ p, bytesOf x.f0 = p ∧ x.f0 = strOfNums p := ⟨_, rfl, (str_bytesOf _).symm⟩
    obtain ⟨p1, hp1, q1⟩ : ∃ p, bytesOf x.f1 = p ∧ x.f1 = strOfNums p := ⟨_, rfl, (str_bytesOf _).symm⟩
    obtain ⟨p2, hp2, q2⟩ : ∃ p, bytesOf x.f2 = p ∧ x.f2 = strOfNums p := ⟨_, rfl, (str_bytesOf _).symm⟩
    rw [hp0, hp1, hp2] at hA ⊢
    by_cases hi : i = 0
    · subst hi
      have := ih 1 k (acc ++ (p0 ++ p1 ++ p2)) (by omega) (by omega)
      simp only [hn, decide_true, if_true, List.nil_append, List.length_append, Nat.zero_add, Nat.reduceAdd, show decide ((1 : Nat) = 0) = false from rfl] at this hA ⊢
      rw [if_neg (by omega), if_pos (by omega)]
      rw [q0, q1, q2]
      simp only [str_append, str_size, List.length_append]
      rw [if_pos (by omega), if_pos (by omega), if_pos (by omega)]
      have h2 := this (by omega)
      simp only [List.append_assoc] at h2 ⊢
      exact h2
    · have := ih (i + 1) k (acc ++ ([46] ++ (p0 ++ p1 ++ p2))) (by omega) (by omega)
      simp only [hn, decide_eq_false hi, if_false, Bool.false_eq_true, List.length_append, List.length_cons, List.length_nil] at this hA ⊢
      rw [if_pos (by omega), show (⟨#[46]⟩ : ByteArray) = strOfNums [46] from rfl]
      rw [q0, q1, q2]
      simp only [str_append, str_size, List.length_append, List.length_cons, List.length_nil]
      rw [if_pos (by omega), if_pos (by omega), if_pos (by omega), if_pos (by omega), if_pos (by omega)]
      have h2 := this (by omega)
      simp only [List.append_assoc] at h2 ⊢
      exact h2
def one (x : S38) : ByteArray := strOfNums (jb [x])
theorem jb_one (x : S38) : jb [x] = bytesOf x.f0 ++ bytesOf x.f1 ++ bytesOf x.f2 := by simp [jb]
theorem dots_tail (l : List S38) : (dots false l).map (fun n => UInt8.ofNat n.toNat) = Lib.joinTail [46] ((l.map one).map (·.data.toList)) := by
  induction l with
  | nil => rfl
  | cons x l ih =>
    rw [dots, if_neg Bool.false_ne_true, List.map_append, ih, ← jb_one, List.map_append, ← data_of_str]
    simp only [Lib.joinTail, List.map_cons, List.flatten_cons]
    rfl
theorem dots_join (l : List S38) : Lib.join ((l.map one).map (·.data.toList)) (⟨#[46]⟩ : ByteArray).data.toList = (strOfNums (dots true l)).data.toList := by
  cases l with
  | nil => rfl
  | cons x l =>
    rw [List.map_cons, List.map_cons, Lib.join_cons, dots, if_pos rfl, List.nil_append, data_of_str, List.map_append, dots_tail, ← jb_one, ← data_of_str]
    rfl
theorem impl_fmt_l0 (l : List S38) (hl : l.length ≤ 1048576) (hz : sizeS l ≤ 1048576) (d : Nat) : ∀ (i k : Nat), i + d = l.length → d + 3 < k →
    impl_FormatSyllables.l0 k ((l.take i).map one) l (l.length : Int) (i : Int) = some (strOfNums (dots true l)) := by
  induction d with
  | zero =>
    intro i k h hk
    obtain ⟨k, rfl⟩ : ∃ m, k = m + 1 := ⟨k - 1, by omega⟩
    have hlen := dots_len l true
    simp only [impl_FormatSyllables.l0]
    rw [if_neg (by omega), List.take_of_length_le (by omega)]
    unfold strings_Join.f
    rw [dots_join, if_pos ⟨by rw [List.length_map]; omega, by rw [data_of_str, List.length_map]; omega⟩]
    simp only [Option.bind_some, Array.toArray_toList]
  | succ d ih =>
    intro i k h hk
    obtain ⟨k, rfl⟩ : ∃ m, k = m + 1 := ⟨k - 1, by omega⟩
    have e : rd_T38 l (i : Int) = l[i]'(by omega) := getD_nat l _ i (by omega)
    have hs := sizeS_snoc l i (by omega)
    have hj : impl_JoinSyllables.f k [l[i]'(by omega)] = some (one (l[i]'(by omega))) := impl_JoinSyllables_f _ (by simp) (by rw [sizeS_cons]; simp only [sizeS, List.map_nil, List.sum_nil]; omega) (by simp; omega)
    simp only [impl_FormatSyllables.l0]
    rw [if_pos (by omega), if_pos (by omega), if_pos (by omega), e, nx (by omega)]
    have hj : impl_JoinSyllables.f k [(⟨(l[i]'(by omega)).f0, (l[i]'(by omega)).f1, (l[i]'(by omega)).f2⟩ : S38)] = some (one (l[i]'(by omega))) := hj
    rw [hj]; simp only [Option.bind_some]
    rw [if_pos (by rw [List.length_map, List.length_take]; omega)]
    have := ih (i + 1) k (by omega) (by omega)
    rw [List.take_succ_eq_append_getElem (by omega), List.map_append, List.map_cons, List.map_nil] at this
    exact this
theorem spec_FormatSyllables_f (l : List S38) (hl : l.length ≤ 1048576) (hz : sizeS l ≤ 1048576) {k : Nat} (hk : l.length < k) : spec_FormatSyllables.f k l = some (strOfNums (dots true l)) := by
  have hlen := dots_len l true
  exact spec_fmt_l0 l hl l.length 0 k [] (by omega) hk (by simp only [List.length_nil, Nat.zero_add, decide_true, List.drop_zero]; omega)
theorem impl_FormatSyllables_f (l : List S38) (hl : l.length ≤ 1048576) (hz : sizeS l ≤ 1048576) {k : Nat} (hk : l.length + 3 < k) : impl_FormatSyllables.f k l = some (strOfNums (dots true l)) :=
  impl_fmt_l0 l hl hz l.length 0 k (by omega) hk
def skl (l : List Int) : List Int := l.map fun x => if ft x 0 = true then 86 else 67
theorem skl_take (s : ByteArray) (i : Nat) (h : i < s.size) : skl ((bytesOf s).take (i + 1)) = skl ((bytesOf s).take i) ++ [if ft (bt s (i : Int)) 0 = true then 86 else 67] := by
  rw [take_bt s i h]; simp [skl]
theorem spec_skel_l0 (s : ByteArray) (hs : s.size ≤ 1048576) (d : Nat) : ∀ (i k : Nat), i + d = s.size → d < k →
    spec_SkeletonOf.l0 k s (strOfNums (skl ((bytesOf s).take i))) (i : Int) = some (strOfNums (skl (bytesOf s))) := by
  induction d with
  | zero =>
    intro i k h hk
    obtain ⟨k, rfl⟩ : ∃ m, k = m + 1 := ⟨k - 1, by omega⟩
    simp only [spec_SkeletonOf.l0]
    rw [if_neg (by omega), List.take_of_length_le (by rw [bytesOf_length]; omega)]
  | succ d ih =>
    intro i k h hk
    obtain ⟨k, rfl⟩ : ∃ m, k = m + 1 := ⟨k - 1, by omega⟩
    have := ih (i + 1) k (by omega) (by omega)
    rw [skl_take s i (by omega), ← str_append] at this
    have hl : (strOfNums (skl ((bytesOf s).take i))).size + 1 ≤ 9223372036854775807 := by simp [str_size, skl, bytesOf_length]; omega
    have hv : vat s (i : Int) = ft (bt s (i : Int)) 0 := by unfold vat; simp; omega
    simp only [spec_SkeletonOf.l0]
    rw [if_pos (by omega), spec_IsVowelAt_f, nx (by omega), hv]
    simp only [Option.bind_some]
    by_cases hb : ft (bt s (i : Int)) 0 = true
    · rw [if_pos hb] at this ⊢
      rw [if_pos hl]; exact this
    · rw [if_neg hb] at this ⊢
      rw [if_pos hl]; exact this
theorem impl_skel_l0 (s : ByteArray) (hs : s.size ≤ 1048576) (hf : isf s = true) (d : Nat) : ∀ (i k : Nat), i + d = s.size → d + s.size < k →
    impl_SkeletonOf.l0 k s (strOfNums (skl ((bytesOf s).take i))) (s.size : Int) (i : Int) = some (strOfNums (skl (bytesOf s))) := by
  induction d with
  | zero =>
    intro i k h hk
    obtain ⟨k, rfl⟩ : ∃ m, k = m + 1 := ⟨k - 1, by omega⟩
    simp only [impl_SkeletonOf.l0]
    rw [if_neg (by omega), List.take_of_length_le (by rw [bytesOf_length]; omega)]
  | succ d ih =>
    intro i k h hk
    obtain ⟨k, rfl⟩ : ∃ m, k = m + 1 := ⟨k - 1, by omega⟩
    have := ih (i + 1) k (by omega) (by omega)
    rw [skl_take s i (by omega), ← str_append] at this
    have hl : (strOfNums (skl ((bytesOf s).take i))).size + 1 ≤ 9223372036854775807 := by simp [str_size, skl, bytesOf_length]; omega
    simp only [impl_SkeletonOf.l0]
    rw [if_pos (by omega), impl_IsForm_f s (by omega) (by omega), hf]
    simp only [Option.bind_some, if_true]
    rw [if_pos (by omega), if_pos (by omega), impl_isVowel_bt, nx (by omega)]
    simp only [Option.bind_some]
    by_cases hb : ft (bt s (i : Int)) 0 = true
    · rw [if_pos hb] at this ⊢
      rw [if_pos hl]; exact this
    · rw [if_neg hb] at this ⊢
      rw [if_pos hl]; exact this
theorem impl_skel_no (s : ByteArray) (hs : s.size ≤ 1048576) (hf : isf s = false) (x : ByteArray) (d : Nat) : ∀ (i k : Nat), i + d = s.size → d + s.size < k →
    impl_SkeletonOf.l0 k s x (s.size : Int) (i : Int) = some x := by
  induction d with
  | zero =>
    intro i k h hk
    obtain ⟨k, rfl⟩ : ∃ m, k = m + 1 := ⟨k - 1, by omega⟩
    simp only [impl_SkeletonOf.l0]; rw [if_neg (by omega)]
  | succ d ih =>
    intro i k h hk
    obtain ⟨k, rfl⟩ : ∃ m, k = m + 1 := ⟨k - 1, by omega⟩
    simp only [impl_SkeletonOf.l0]
    rw [if_pos (by omega), impl_IsForm_f s (by omega) (by omega), hf]
    simp only [Option.bind_some]
    rw [if_neg (by simp), nx (by omega)]
    exact ih (i + 1) k (by omega) (by omega)
def skel (s : ByteArray) : ByteArray := if isf s = true then strOfNums (skl (bytesOf s)) else ⟨#[]⟩
theorem spec_SkeletonOf_f (s : ByteArray) (hs : s.size ≤ 1048576) {k : Nat} (hk : s.size + 8 < k) : spec_SkeletonOf.f k s = some (skel s) := by
  unfold spec_SkeletonOf.f skel
  rw [spec_IsForm_f s (by omega) hk]; simp only [Option.bind_some]
  by_cases h : isf s = true
  · rw [if_pos h, if_pos h]
    have := spec_skel_l0 s hs s.size 0 k (by omega) (by omega)
    exact this
  · rw [if_neg h, if_neg h]
theorem impl_SkeletonOf_f (s : ByteArray) (hs : s.size ≤ 1048576) {k : Nat} (hk : s.size + s.size < k) : impl_SkeletonOf.f k s = some (skel s) := by
  unfold impl_SkeletonOf.f skel
  by_cases h : isf s = true
  · rw [if_pos h]
    have := impl_skel_l0 s hs h s.size 0 k (by omega) (by omega)
    exact this
  · rw [if_neg h]
    have := impl_skel_no s hs (by simpa using h) ⟨#[]⟩ s.size 0 k (by omega) (by omega)
    exact this
theorem spec_rev_l0 (s : ByteArray) (hn : s.size ≤ 1048576) (d : Nat) : ∀ (i k : Nat), i + d = s.size → d < k →
    spec_ReverseForm.l0 k s (strOfNums ((bytesOf s).take i).reverse) (i : Int) = some (strOfNums (bytesOf s).reverse) := by
  induction d with
  | zero =>
    intro i k h hk
    obtain ⟨k, rfl⟩ : ∃ m, k = m + 1 := ⟨k - 1, by omega⟩
    simp only [spec_ReverseForm.l0]
    rw [if_neg (by omega), List.take_of_length_le (by rw [bytesOf_length]; omega)]
  | succ d ih =>
    intro i k h hk
    obtain ⟨k, rfl⟩ : ∃ m, k = m + 1 := ⟨k - 1, by omega⟩
    have e : wrap64 ((i : Int) + 1) = ((i + 1 : Nat) : Int) := by rw [w64 (by omega) (by omega)]; omega
    simp only [spec_ReverseForm.l0]
    rw [if_pos (by omega), if_pos (by omega), e, if_pos (by omega), if_pos (by omega)]
    have e1 : ((i : Int)).toNat = i := by omega
    have e2 : (((i + 1 : Nat) : Int)).toNat = i + 1 := by omega
    rw [e1, e2, extract_one s i (by omega), str_append, str_size]
    rw [if_pos (by simp [str_size, bytesOf_length]; omega)]
    have := ih (i + 1) k (by omega) (by omega)
    rw [take_bt s i (by omega), List.reverse_append] at this
    exact this
theorem spec_rev (s : ByteArray) (hn : s.size ≤ 1048576) (k : Nat) (hk : s.size < k) : spec_ReverseForm.f k s = some (strOfNums (bytesOf s).reverse) := by
  have := spec_rev_l0 s hn s.size 0 k (by omega) hk
  simpa [spec_ReverseForm.f, strOfNums] using this
theorem impl_rev_l0 (s : ByteArray) (hn : s.size ≤ 1048576) (i : Nat) : ∀ (k : Nat), i ≤ s.size → i < k →
    impl_ReverseForm.l0 k s ((bytesOf s).drop i).reverse ((i : Int) - 1) = some (strOfNums (bytesOf s).reverse) := by
  induction i with
  | zero =>
    intro k h hk
    obtain ⟨k, rfl⟩ : ∃ m, k = m + 1 := ⟨k - 1, by omega⟩
    simp only [impl_ReverseForm.l0]
    rw [if_neg (by omega)]; simp
  | succ i ih =>
    intro k h hk
    obtain ⟨k, rfl⟩ : ∃ m, k = m + 1 := ⟨k - 1, by omega⟩
    have e0 : ((i + 1 : Nat) : Int) - 1 = (i : Int) := by omega
    have e : wrap64 ((i : Int) - 1) = (i : Int) - 1 := w64 (by omega) (by omega)
    simp only [impl_ReverseForm.l0]
    rw [e0, if_pos (by omega), if_pos (by omega), if_pos (by omega), if_pos (by simp [bytesOf_length]; omega), e]
    have := ih k (by omega) (by omega)
    rw [drop_bt s i (by omega), List.reverse_cons] at this
    exact this
theorem impl_rev (s : ByteArray) (hn : s.size ≤ 1048576) (k : Nat) (hk : s.size < k) : impl_ReverseForm.f k s = some (strOfNums (bytesOf s).reverse) := by
  have := impl_rev_l0 s hn s.size k (by omega) hk
  rw [List.drop_of_length_le (by rw [bytesOf_length]; omega)] at this
  simp only [impl_ReverseForm.f]
  rw [w64 (by omega) (by omega)]
  exact this
theorem impl_IsVowelAt_f (s : ByteArray) (hs : s.size ≤ 140737488351232) (i : Int) : impl_IsVowelAt.f s i = some (vat s i) := by
  unfold impl_IsVowelAt.f vat
  rw [within_f, w64 (by omega) (by omega)]; simp only [Option.bind_some]
  by_cases h : 0 ≤ i ∧ i ≤ (s.size : Int) - 1
  · rw [if_pos (by simpa using h), if_pos h.1, if_pos (by omega), impl_isVowel_bt]
    have : i < (s.size : Int) := by omega
    simp [h.1, this]
  · rw [if_neg (by simpa using h)]
    have : ¬ (0 ≤ i ∧ i < (s.size : Int)) := by omega
    simp [this]
theorem and255 (x : Int) : 0 ≤ Go.bits .and .i64 x 255 ∧ Go.bits .and .i64 x 255 ≤ 255 := by
  have e : Go.bits .and .i64 x 255 = IntKind.i64.wrap (((BitVec.ofInt 64 x) &&& (BitVec.ofInt 64 255)).toNat : Int) := rfl
  have h : ((BitVec.ofInt 64 x) &&& (BitVec.ofInt 64 255)).toNat ≤ 255 := by
    rw [BitVec.toNat_and]
    exact Nat.le_trans Nat.and_le_right (by decide)
  rw [e, Go.IntKind.wrap_i64]
  omega
def Cur (l : List Int) (i : Int) : Prop := 0 ≤ i ∧ i ≤ (l.length : Int)
def Code (l : List Int) : Prop := l.length ≤ 1048576 ∧ ∀ x ∈ l, 0 ≤ x ∧ x ≤ 255
theorem new_l0 (l : List Int) (d : Nat) : ∀ (i K : Nat) (h : Int), i + d = 4000 → ∃ h', spec_l1New.l0 (K + d + 1) l h (i : Int) = some (l, 0, h') := by
  induction d with
  | zero =>
    intro i K h hi
    simp only [spec_l1New.l0]
    by_cases h1 : (i : Int) < (l.length : Int)
    · rw [if_pos h1, if_neg (by omega)]; exact ⟨_, rfl⟩
    · rw [if_neg h1]; exact ⟨_, rfl⟩
  | succ d ih =>
    intro i K h hi
    rw [show K + (d + 1) + 1 = (K + d + 1) + 1 from by omega, spec_l1New.l0]
    by_cases h1 : (i : Int) < (l.length : Int)
    · rw [if_pos h1, if_pos (by omega), if_pos (by omega), nx (i := i) (by omega)]
      exact ih (i + 1) K _ (by omega)
    · rw [if_neg h1]; exact ⟨_, rfl⟩
theorem l1New_f (l : List Int) {k : Nat} (hk : 4001 ≤ k) : ∃ h, spec_l1New.f k l = some (l, 0, h) := by
  unfold spec_l1New.f
  obtain ⟨K, rfl⟩ : ∃ K, k = K + 4000 + 1 := ⟨k - 4001, by omega⟩
  exact new_l0 l 4000 0 K _ (by omega)
theorem l1Byte_f (l : List Int) (hl : l.length ≤ 1048576) (i h : Int) (hc : Cur l i) : ∃ x i' h', spec_l1Byte.f l i h = some (x, i', h') ∧ 0 ≤ x ∧ x ≤ 255 ∧ Cur l i' := by
  obtain ⟨c0, c1⟩ := hc
  unfold spec_l1Byte.f
  by_cases h1 : i < (l.length : Int)
  · rw [if_pos h1, if_pos c0]
    refine ⟨_, _, _, rfl, (and255 _).1, (and255 _).2, ?_, ?_⟩
    · rw [w64 (by omega) (by omega)]; omega
    · rw [w64 (by omega) (by omega)]; omega
  · rw [if_neg h1]
    exact ⟨_, _, _, rfl, (and255 _).1, (and255 _).2, c0, c1⟩
theorem l1Below_f (l : List Int) (hl : l.length ≤ 1048576) (i h : Int) (hc : Cur l i) (n : Int) (h0 : 0 < n) (h1 : n ≤ 256) :
    ∃ x i' h', spec_l1Below.f l i h n = some (x, i', h') ∧ 0 ≤ x ∧ x < n ∧ Cur l i' := by
  unfold spec_l1Below.f
  obtain ⟨x, i', h', e, x0, x1, hc'⟩ := l1Byte_f l hl i h hc
  rw [if_neg (by omega), if_pos h1, e]
  simp only [Option.bind_some]
  rw [if_neg (by omega), Int.tmod_eq_emod_of_nonneg x0]
  exact ⟨_, _, _, rfl, Int.emod_nonneg _ (by omega), Int.emod_lt_of_pos _ h0, hc'⟩
theorem l1Once_f (l : List Int) (hl : l.length ≤ 1048576) (i h : Int) (hc : Cur l i) (n : Int) (h0 : 0 < n) (h1 : n ≤ 256) :
    ∃ b i' h', spec_l1Once.f l i h n = some (b, i', h') ∧ Cur l i' := by
  unfold spec_l1Once.f
  obtain ⟨x, i', h', e, _, _, hc'⟩ := l1Below_f l hl i h hc n h0 h1
  rw [e]
  exact ⟨_, _, _, rfl, hc'⟩
theorem regular_l0 (l : List S38) (hl : l.length ≤ 1048576) (d : Nat) : ∀ (i k : Nat), i + d = l.length → d < k →
    ∃ r, spec_IsRegular.l0 k l (i : Int) = some r ∧ impl_IsRegular.l0 k l l (l.length : Int) (i : Int) = some r := by
  induction d with
  | zero =>
    intro i k h hk
    obtain ⟨k, rfl⟩ : ∃ m, k = m + 1 := ⟨k - 1, by omega⟩
    have h1 : ¬ (i : Int) < (l.length : Int) := by omega
    simp only [spec_IsRegular.l0, impl_IsRegular.l0, if_neg h1]
    exact ⟨_, rfl, rfl⟩
  | succ d ih =>
    intro i k h hk
    obtain ⟨k, rfl⟩ : ∃ m, k = m + 1 := ⟨k - 1, by omega⟩
    have h1 : (i : Int) < (l.length : Int) := by omega
    have h2 : 0 ≤ (i : Int) := by omega
    simp only [spec_IsRegular.l0, impl_IsRegular.l0, if_pos h1, if_pos h2]
    rw [nx (i := i) (by omega)]
    split
    · split
      · exact ⟨_, rfl, rfl⟩
      · exact ih (i + 1) k (by omega) (by omega)
    · exact ⟨_, rfl, rfl⟩
theorem forms_out (n : Int) (h : ¬ (0 ≤ n ∧ n ≤ 3)) (k : Nat) : spec_FormsOf.f k n = some [] ∧ impl_FormsOf.f k n = some [] := by
  unfold spec_FormsOf.f impl_FormsOf.f
  rw [l1In_f, within_f]; simp only [Option.bind_some]
  rw [if_neg (by simpa using h), if_neg (by simpa using h)]; exact ⟨rfl, rfl⟩
theorem forms_in : ∀ n : Fin 4, ((spec_FormsOf.f 1000 ((n.val : Nat) : Int)).getD []).length ≤ 343 ∧ (spec_FormsOf.f 1000 ((n.val : Nat) : Int)).isSome = true ∧ impl_FormsOf.f 1000 ((n.val : Nat) : Int) = spec_FormsOf.f 1000 ((n.val : Nat) : Int) := by decide +kernel
theorem forms (n : Int) {k : Nat} (hk : 1000 ≤ k) : ∃ l : List ByteArray, l.length ≤ 343 ∧ spec_FormsOf.f k n = some l ∧ impl_FormsOf.f k n = some l := by
  by_cases h : 0 ≤ n ∧ n ≤ 3
  · obtain ⟨m, rfl⟩ := Int.eq_ofNat_of_zero_le h.1
    obtain ⟨h1, h2, h3⟩ := forms_in ⟨m, by omega⟩
    obtain ⟨l, hl⟩ := Option.isSome_iff_exists.1 h2
    refine ⟨l, ?_, at_rounds (g := fun k => spec_FormsOf.f k (m : Int)) (fun k => spec_FormsOf.mono (m : Int) k) hk hl, at_rounds (g := fun k => impl_FormsOf.f k (m : Int)) (fun k => impl_FormsOf.mono (m : Int) k) hk (h3.trans hl)⟩
    have h1' : ((spec_FormsOf.f 1000 (m : Int)).getD []).length ≤ 343 := h1
    have hl' : spec_FormsOf.f 1000 (m : Int) = some l := hl
    rw [hl'] at h1'; exact h1'
  · obtain ⟨h1, h2⟩ := forms_out n h k
    exact ⟨[], by simp, h1, h2⟩
theorem pick_f (l : List Int) (hl : l.length ≤ 1048576) (i h : Int) (hc : Cur l i) (L : List ByteArray) (h0 : 0 < L.length) (h1 : L.length ≤ 256) :
    ∃ x i' h', spec_l1Pick.f l i h L = some (x, i', h') ∧ x ∈ L ∧ Cur l i' := by
  unfold spec_l1Pick.f
  obtain ⟨j, i1, g1, e1, a0, a1, hc1⟩ := l1Below_f l hl i h hc (L.length : Int) (by omega) (by omega)
  rw [e1]
  simp only [Option.bind_some]
  rw [if_pos a0, if_pos a1]
  obtain ⟨m, rfl⟩ : ∃ m : Nat, j = m := ⟨j.toNat, by omega⟩
  have hm : m < L.length := by omega
  refine ⟨_, _, _, rfl, ?_, hc1⟩
  rw [rdOf_get L m hm]
  exact List.getElem_mem hm
theorem form_l0 (l : List Int) (hl : l.length ≤ 1048576) (d : Nat) : ∀ (K : Nat) (o : ByteArray) (i h : Int), Cur l i → o.size + d ≤ 20 →
    ∃ s i' h', spec_l3Form.l0 (K + d + 1) o (d : Int) l i h = some (s, i', h') ∧ s.size ≤ 20 ∧ Cur l i' := by
  induction d with
  | zero =>
    intro K o i h hc ho
    rw [spec_l3Form.l0, if_neg (by omega)]
    exact ⟨_, _, _, rfl, by omega, hc⟩
  | succ d ih =>
    intro K o i h hc ho
    obtain ⟨x, i1, g1, e1, x0, x1, hc1⟩ := l1Below_f l hl i h hc 7 (by omega) (by omega)
    have ew : wrap64 (((d + 1 : Nat) : Int) - 1) = (d : Int) := by rw [w64 (by omega) (by omega)]; omega
    obtain ⟨j, rfl⟩ : ∃ j : Nat, x = j := ⟨x.toNat, by omega⟩
    have hz : ((⟨#[112, 116, 98, 100, 110, 97, 105]⟩ : ByteArray).extract j (j + 1)).size = 1 := lit_size j (by omega)
    generalize ht : ((j : Int), i1, g1) = t at e1
    have t1 : t.1 = (j : Int) := by rw [← ht]
    have t2 : t.2.1 = i1 := by rw [← ht]
    have t3 : t.2.2 = g1 := by rw [← ht]
    rw [show K + (d + 1) + 1 = (K + d + 1) + 1 from by omega, spec_l3Form.l0, if_pos (by omega), e1, Option.bind_some, t1, t2, t3, ew]
    rw [nx (i := j) (by omega), if_pos x0, if_pos (by omega), if_pos (by omega), Int.toNat_natCast, Int.toNat_natCast, if_pos (by rw [hz]; omega)]
    exact ih K _ i1 g1 hc1 (by rw [ByteArray.size_append, hz]; omega)
theorem any_f (l : List Int) (hl : l.length ≤ 1048576) (i h : Int) (hc : Cur l i) {k : Nat} (hk : 100 ≤ k) : ∃ s i' h', spec_l3Any.f k l i h = some (s, i', h') ∧ s.size ≤ 30 ∧ Cur l i' := by
  have hF : ∃ s i' h', spec_l3Form.f k l i h = some (s, i', h') ∧ s.size ≤ 20 ∧ Cur l i' := by
    unfold spec_l3Form.f
    obtain ⟨n, i1, g1, e1, n0, n1, hc1⟩ := l1Below_f l hl i h hc 5 (by omega) (by omega)
    rw [e1]
    simp only [Option.bind_some]
    obtain ⟨q, rfl⟩ : ∃ q : Nat, n = q := ⟨n.toNat, by omega⟩
    obtain ⟨K, rfl⟩ : ∃ K, k = K + q + 1 := ⟨k - q - 1, by omega⟩
    exact form_l0 l hl q K ⟨#[]⟩ i1 g1 hc1 (by show 0 + q ≤ 20; omega)
  obtain ⟨s, i1, g1, e1, hs, hc1⟩ := hF
  unfold spec_l3Any.f
  obtain ⟨t, i2, g2, e2, t0, t1, hc2⟩ := l1Below_f l hl i1 g1 hc1 16 (by omega) (by omega)
  rw [e1]
  simp only [Option.bind_some]
  rw [e2]
  simp only [Option.bind_some]
  by_cases s0 : t = 0
  · rw [if_pos s0]
    obtain ⟨x, i3, g3, e3, hx, hc3⟩ := pick_f l hl i2 g2 hc2 [(⟨#[120]⟩ : ByteArray), (⟨#[65]⟩ : ByteArray), (⟨#[32]⟩ : ByteArray)] (by decide) (by decide)
    have hz : x.size = 1 := by
      simp only [List.mem_cons, List.not_mem_nil, or_false] at hx
      rcases hx with rfl | rfl | rfl <;> rfl
    rw [e3]
    simp only [Option.bind_some]
    rw [if_pos (by omega)]
    exact ⟨_, _, _, rfl, by rw [ByteArray.size_append]; omega, hc3⟩
  · rw [if_neg s0]
    by_cases s1 : t = 1
    · rw [if_pos s1, if_pos (by omega)]
      refine ⟨_, _, _, rfl, ?_, hc2⟩
      rw [ByteArray.size_append]
      have : (⟨#[116, 97, 105, 116, 97, 105, 116, 97]⟩ : ByteArray).size = 8 := rfl
      omega
    · rw [if_neg s1]
      exact ⟨_, _, _, rfl, by omega, hc2⟩
theorem sameT_l0 (l : List ByteArray) (hl : l.length ≤ 1048576) (d : Nat) : ∀ (i k : Nat), i + d = l.length → d < k → laws_sameTexts.l0 k l l (i : Int) = some true := by
  induction d with
  | zero =>
    intro i k h hk
    obtain ⟨k, rfl⟩ : ∃ m, k = m + 1 := ⟨k - 1, by omega⟩
    rw [laws_sameTexts.l0, if_neg (by omega)]
  | succ d ih =>
    intro i k h hk
    obtain ⟨k, rfl⟩ : ∃ m, k = m + 1 := ⟨k - 1, by omega⟩
    have hlt : (i : Int) < (l.length : Int) := by omega
    rw [laws_sameTexts.l0, if_pos hlt, if_pos (by omega), if_pos hlt, if_pos rfl, nx (i := i) (by omega)]
    exact ih (i + 1) k (by omega) (by omega)
theorem sameT_f (l : List ByteArray) (hl : l.length ≤ 1048576) {k : Nat} (hk : l.length < k) : laws_sameTexts.f k l l = some true := by
  unfold laws_sameTexts.f
  rw [if_pos rfl]
  exact sameT_l0 l hl l.length 0 k (by omega) hk
theorem dist_size {s x : ByteArray} (h : dist s x = 1) : x.size ≤ 8 := by
  unfold dist at h
  by_cases hf : isf s = true ∧ isf x = true
  · exact isf_size hf.2
  · rw [if_neg hf] at h; omega
theorem draw_nb (l : List Int) (hl : l.length ≤ 1048576) {k : Nat} (hk : 4100 ≤ k) : ∃ s, spec_DrawNeighboursOf.f k l = some s ∧ s.size ≤ 30 := by
  unfold spec_DrawNeighboursOf.f
  obtain ⟨g, e0⟩ := l1New_f l (k := k) (by omega)
  have hc : Cur l 0 := ⟨by omega, by omega⟩
  obtain ⟨s, i1, g1, e1, hs, hc1⟩ := any_f l hl 0 g hc (k := k) (by omega)
  rw [e0]
  simp only [Option.bind_some]
  rw [e1]
  exact ⟨s, rfl, hs⟩
theorem draw_dist (l : List Int) (hl : l.length ≤ 1048576) {k : Nat} (hk : 4100 ≤ k) : ∃ a b, spec_DrawDistanceBetween.f k l = some (a, b) ∧ a.size ≤ 30 ∧ b.size ≤ 30 := by
  unfold spec_DrawDistanceBetween.f
  obtain ⟨g, e0⟩ := l1New_f l (k := k) (by omega)
  have hc : Cur l 0 := ⟨by omega, by omega⟩
  obtain ⟨s, i1, g1, e1, hs, hc1⟩ := any_f l hl 0 g hc (k := k) (by omega)
  obtain ⟨r, n1, n2, n3⟩ := neighbours s (by omega) (k := k) (by omega)
  have hnb := nb_all s (by omega) n2 (by omega)
  have hj : ∀ (y : Bool) (i h : Int), (y = true → 0 < r.length) → Cur l i → ∃ a b, spec_DrawDistanceBetween.j0 k s r y l i h = some (a, b) ∧ a.size ≤ 30 ∧ b.size ≤ 30 := by
    intro y i h hy hci
    obtain ⟨k, rfl⟩ : ∃ q, k = q + 1 := ⟨k - 1, by omega⟩
    rw [spec_DrawDistanceBetween.j0]
    by_cases hb : y = true
    · rw [if_pos hb]
      have hr := hy hb
      obtain ⟨j, i2, g2, e2, j0, j1, _⟩ := l1Below_f l hl i h hci (r.length : Int) (by omega) (by omega)
      rw [e2]
      simp only [Option.bind_some]
      rw [if_pos j0, if_pos j1]
      obtain ⟨m, rfl⟩ : ∃ m : Nat, j = m := ⟨j.toNat, by omega⟩
      have hm : m < r.length := by omega
      refine ⟨_, _, rfl, hs, ?_⟩
      rw [rdOf_get r m hm]
      have := dist_size (hnb _ (List.getElem_mem hm))
      omega
    · rw [if_neg hb]
      obtain ⟨x, i2, g2, e2, hx, _⟩ := any_f l hl i h hci (k := k) (by omega)
      rw [e2]
      exact ⟨_, _, rfl, hs, hx⟩
  rw [e0]
  simp only [Option.bind_some]
  rw [e1]
  simp only [Option.bind_some]
  rw [n1]
  simp only [Option.bind_some]
  by_cases hr : (r.length : Int) > 0
  · rw [if_pos hr]
    obtain ⟨b2, i2, g2, e2, hc2⟩ := l1Once_f l hl i1 g1 hc1 2 (by omega) (by omega)
    rw [e2]
    simp only [Option.bind_some]
    exact hj b2 i2 g2 (fun _ => by omega) hc2
  · rw [if_neg hr]
    exact hj false i1 g1 (fun e => by cases e) hc1
theorem l1_end (l : List Int) (hl : l.length ≤ 1048576) (r : List S38) (k : Nat) (hk : 4200 ≤ k) : laws_FnForms.l1 (k + 1) l r r (r.length : Int) = some true := by
  obtain ⟨g, e0⟩ := l1New_f l (k := k) (by omega)
  have hc : Cur l 0 := ⟨by omega, by omega⟩
  obtain ⟨u, i1, g1, e1, hu, hc1⟩ := any_f l hl 0 g hc (k := k) (by omega)
  obtain ⟨n, i2, g2, e2, n0, n1, _⟩ := l1Below_f l hl i1 g1 hc1 7 (by omega) (by omega)
  obtain ⟨m, i3, g3, e3, m0, m1, _⟩ := l1Below_f l hl 0 g hc 6 (by omega) (by omega)
  have h1 : spec_DrawIsVowelAt.f k l = some (u, wrap64 (n - 1)) := by
    unfold spec_DrawIsVowelAt.f
    rw [e0]
    simp only [Option.bind_some]
    rw [e1]
    simp only [Option.bind_some]
    rw [e2]
    rfl
  have h2 : spec_DrawFormsOf.f k l = some (wrap64 (m - 1)) := by
    unfold spec_DrawFormsOf.f
    rw [e0]
    simp only [Option.bind_some]
    rw [e3]
    rfl
  obtain ⟨L, hL, f1, f2⟩ := forms (wrap64 (m - 1)) (k := k) (by omega)
  rw [laws_FnForms.l1, if_neg (by omega), h1, Option.bind_some, h2, Option.bind_some]
  dsimp only
  rw [impl_IsVowelAt_f u (by omega), Option.bind_some, spec_IsVowelAt_f, Option.bind_some, if_pos (by simp), f2, Option.bind_some, f1, Option.bind_some, sameT_f L (by omega) (by omega)]
  rfl
theorem l1_true (l : List Int) (hl : l.length ≤ 1048576) (r : List S38) (hr : r.length ≤ 8) (d : Nat) : ∀ (i k : Nat), i + d = r.length → 4200 ≤ k → laws_FnForms.l1 (k + d + 1) l r r (i : Int) = some true := by
  induction d with
  | zero => intro i k h hk; obtain rfl : i = r.length := by omega
            exact l1_end l hl r k hk
  | succ d ih =>
    intro i k h hk
    have hlt : (i : Int) < (r.length : Int) := by omega
    rw [show k + (d + 1) + 1 = (k + d + 1) + 1 from by omega, laws_FnForms.l1, if_pos hlt, if_pos (by omega), if_pos hlt, if_neg (by simp)]
    generalize rd_T38 r (i : Int) = x
    unfold impl_IsOpen.f spec_IsOpen.f
    rw [Option.bind_some, Option.bind_some, if_neg (by simp), show impl_WeightOf.f x.f0 x.f1 x.f2 = spec_WeightOf.f x.f0 x.f1 x.f2 from rfl]
    have hw : ∃ q, spec_WeightOf.f x.f0 x.f1 x.f2 = some q := by
      unfold spec_WeightOf.f
      repeat' split
      all_goals exact ⟨_, rfl⟩
    obtain ⟨q, hq⟩ := hw
    rw [hq, Option.bind_some, Option.bind_some, if_pos rfl, nx (i := i) (by omega)]
    exact ih (i + 1) k (by omega) hk
theorem j2_true (l : List Int) (hl : l.length ≤ 1048576) (s : ByteArray) (hs : s.size ≤ 30) (k : Nat) (hk : 4400 ≤ k) : laws_FnForms.j2 (k + 1) l s false = some true := by
  obtain ⟨r, r1, r2, r3⟩ := sylof s (by omega) (k := k) (by omega)
  have hj : laws_FnForms.j3 k l r r false = some true := by
    obtain ⟨q, rfl⟩ : ∃ q, k = q + r.length + 1 + 1 := ⟨k - r.length - 2, by omega⟩
    rw [laws_FnForms.j3, if_neg (by decide)]
    exact l1_true l hl r r3 r.length 0 q (by omega) (by omega)
  obtain ⟨q, q1, q2⟩ := regular_l0 r (by omega) r.length 0 k (by omega) (by omega)
  rw [show ((0 : Nat) : Int) = 0 from rfl] at q1 q2
  have hR1 : spec_IsRegular.f k s = some q := by unfold spec_IsRegular.f; rw [r1, Option.bind_some, q1]
  have hR2 : impl_IsRegular.f k s = some q := by unfold impl_IsRegular.f; rw [r2, Option.bind_some, q2]
  have hC : impl_CountSyllables.f k s = some (r.length : Int) := by unfold impl_CountSyllables.f; rw [r2, Option.bind_some]
  rw [laws_FnForms.j2, if_neg (by decide), r2, Option.bind_some, r1, Option.bind_some, if_pos rfl, hC, Option.bind_some, if_pos rfl]
  by_cases h0 : 0 < r.length
  · obtain ⟨f1, f2⟩ := syl_facts s (by omega) (by omega) r1 h0
    have hz : sizeS r ≤ 1048576 := by rw [← jb_length, f1, bytesOf_length]; omega
    have hJ : strOfNums (jb r) = s := by rw [f1, str_bytesOf]
    rw [if_pos (by omega), impl_JoinSyllables_f r (by omega) hz (by omega), Option.bind_some, hJ, if_pos rfl, impl_CountVowels_f s (by omega) (by omega), Option.bind_some, if_pos (by rw [f2]), impl_FormatSyllables_f r (by omega) hz (by omega), Option.bind_some, spec_FormatSyllables_f r (by omega) hz (by omega), Option.bind_some, if_pos rfl, hR2, Option.bind_some, hR1, Option.bind_some, bne_self_eq_false]
    exact hj
  · have hr0 : r = [] := List.eq_nil_of_length_eq_zero (by omega)
    have hz : sizeS r ≤ 1048576 := by rw [hr0]; decide
    rw [if_neg (by omega), impl_FormatSyllables_f r (by omega) hz (by omega), Option.bind_some, spec_FormatSyllables_f r (by omega) hz (by omega), Option.bind_some, if_pos rfl, hR2, Option.bind_some, hR1, Option.bind_some, bne_self_eq_false]
    exact hj
theorem l0_end (l : List Int) (hl : l.length ≤ 1048576) (s : ByteArray) (hs : s.size ≤ 30) (r : List ByteArray) (k : Nat) (hk : 4500 ≤ k) : laws_FnForms.l0 (k + 1) l s r (r.length : Int) = some true := by
  obtain ⟨a, b, e1, ha, hb⟩ := draw_dist l hl (k := k) (by omega)
  have hj : laws_FnForms.j2 k l s false = some true := by
    obtain ⟨k, rfl⟩ : ∃ q, k = q + 1 := ⟨k - 1, by omega⟩
    exact j2_true l hl s hs k (by omega)
  rw [laws_FnForms.l0, if_neg (by omega), e1, Option.bind_some]
  dsimp only
  rw [impl_dist a b (by omega) (by omega) (by omega), Option.bind_some, spec_dist a b (by omega) (by omega) (by omega), Option.bind_some, if_pos rfl, impl_dist b a (by omega) (by omega) (by omega), Option.bind_some, if_pos (dist_comm a b)]
  by_cases h0 : dist a b ≥ 0
  · rw [if_pos h0, dist_zero a b h0, bne_self_eq_false]
    exact hj
  · rw [if_neg h0]
    exact hj
theorem l0_true (l : List Int) (hl : l.length ≤ 1048576) (s : ByteArray) (hs : s.size ≤ 30) (r : List ByteArray) (hr : r.length ≤ 120) (hd : ∀ x ∈ r, dist s x = 1) (d : Nat) : ∀ (i k : Nat), i + d = r.length → 4500 ≤ k → laws_FnForms.l0 (k + d + 1) l s r (i : Int) = some true := by
  induction d with
  | zero => intro i k h hk; obtain rfl : i = r.length := by omega
            exact l0_end l hl s hs r k hk
  | succ d ih =>
    intro i k h hk
    have hlt : (i : Int) < (r.length : Int) := by omega
    have hx := hd _ (List.getElem_mem (l := r) (n := i) (by omega))
    have hz := dist_size hx
    rw [show k + (d + 1) + 1 = (k + d + 1) + 1 from by omega, laws_FnForms.l0, if_pos hlt, if_pos (by omega), rdOf_get r i (by omega), impl_dist s _ (by omega) (by omega) (by omega), Option.bind_some, if_pos hx, nx (i := i) (by omega)]
    exact ih (i + 1) k (by omega) hk
theorem FnForms : laws_FnForms.Pure := by
  intro l _ _ hw
  refine ⟨5000, ?_⟩
  unfold laws_FnForms.f laws_big.f
  rw [Option.bind_some]
  by_cases hb : (l.length : Int) > 1048576
  · rw [if_pos (decide_eq_true hb)]
  · rw [if_neg (by simpa using hb)]
    have hl : l.length ≤ 1048576 := by omega
    obtain ⟨s, e1, hs⟩ := draw_nb l hl (k := 5000) (by omega)
    obtain ⟨r, n1, n2, n3⟩ := neighbours s (by omega) (k := 5000) (by omega)
    have hnb := nb_all s (by omega) n2 (by omega)
    have hz : (strOfNums (bytesOf s).reverse).size = s.size := by rw [str_size, List.length_reverse, bytesOf_length]
    have hB : Bytes (bytesOf s).reverse := fun x hx => bytes_of s x (List.mem_reverse.1 hx)
    have hj : laws_FnForms.j0 5000 l s r false = some true := by
      rw [show (5000 : Nat) = 4999 + 1 from rfl, laws_FnForms.j0, if_neg (by decide)]
      have := l0_true l hl s hs r n3 hnb r.length 0 (4998 - r.length) (by omega) (by omega)
      rw [show 4998 - r.length + r.length + 1 = 4999 from by omega] at this
      exact this
    rw [e1, Option.bind_some, n2, Option.bind_some, n1, Option.bind_some, sameT_f r (by omega) (by omega), Option.bind_some, if_pos rfl, impl_SkeletonOf_f s (by omega) (by omega), Option.bind_some, spec_SkeletonOf_f s (by omega) (by omega), Option.bind_some, if_pos rfl, impl_CountVowels_f s (by omega) (by omega), Option.bind_some, spec_CountVowels_f s (by omega) (by omega), Option.bind_some, if_pos rfl, impl_IsForm_f s (by omega) (by omega), Option.bind_some, spec_IsForm_f s (by omega) (by omega), Option.bind_some, bne_self_eq_false, if_neg (by decide), impl_rev s (by omega) 5000 (by omega), Option.bind_some, impl_rev _ (by rw [hz]; omega) 5000 (by rw [hz]; omega), Option.bind_some, bytesOf_str hB, List.reverse_reverse, str_bytesOf, if_pos rfl, Option.bind_some, spec_rev s (by omega) 5000 (by omega), Option.bind_some, bne_self_eq_false]
    exact hj
end Go.Proofs.Ytkjpbhncgjhfeaa.Pure
