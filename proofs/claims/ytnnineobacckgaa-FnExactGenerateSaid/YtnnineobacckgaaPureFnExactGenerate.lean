/- For every string, Generate of the program and of the reference hand back the same candidates, and what it hands back is its own. -/
import Derived.Test.YtnnineobacckgaaHandFnExactGenerate
import Derived.Test.YtnnineobacckgaaBase
namespace Go.Proofs.Ytnnineobacckgaa.Pure
open Go.RowKit Go.Proofs.Ytnnineobacckgaa.PFnExactGenerate Go.Proofs.YtnnineobacckgaaW.PrintWords Go.Proofs.YtnnineobacckgaaW.PrintLast Go.Proofs.YtnnineobacckgaaW.PrintMore Go.Proofs.Ytnnineobacckgaa.Base
set_option linter.unusedVariables false
set_option linter.unusedSimpArgs false

/-! eqlinks -/
theorem eqLinkS_l0 (l : List S63) (hl : l.length ≤ 1048576) (d : Nat) : ∀ (i k : Nat), i + d = l.length → d < k → laws_eqLinkS.l0 k l l (i : Int) = some true := by
  induction d with
  | zero =>
    intro i k h hk
    obtain ⟨k, rfl⟩ : ∃ m, k = m + 1 := ⟨k - 1, by omega⟩
    simp only [laws_eqLinkS.l0]; rw [if_neg (by omega)]
  | succ d ih =>
    intro i k h hk
    obtain ⟨k, rfl⟩ : ∃ m, k = m + 1 := ⟨k - 1, by omega⟩
    simp only [laws_eqLinkS.l0]
    rw [if_pos (by omega), if_pos (by omega), if_pos (by omega), nx (by omega)]
    simp only [laws_eqLink.f, if_true, Option.bind_some]
    exact ih (i + 1) k (by omega) (by omega)
theorem eqLinkS_refl (l : List S63) (hl : l.length ≤ 1048576) {k : Nat} (hk : l.length < k) : laws_eqLinkS.f k l l = some true := by
  unfold laws_eqLinkS.f; rw [if_pos rfl]; exact eqLinkS_l0 l hl l.length 0 k (by omega) (by omega)
theorem eqCandidate_refl (l : List S63) (hl : l.length ≤ 1048576) {k : Nat} (hk : l.length < k) : laws_eqCandidate.f k l l = some true := by
  unfold laws_eqCandidate.f; rw [eqLinkS_refl l hl hk]; rfl

/-! sounds -/
/-- Facts on single bytes, tried at each of the 256. -/
theorem byte_cases {P : Int → Prop} (h : ∀ n : Fin 256, P ((n.val : Nat) : Int)) {x : Int} (h0 : 0 ≤ x) (h1 : x ≤ 255) : P x := by
  obtain ⟨m, rfl⟩ := Int.eq_ofNat_of_zero_le h0
  exact h ⟨m, by omega⟩

/-! within -/
theorem within_f (a b c : Int) : impl_within.f a b c = some (decide (b ≤ a ∧ a ≤ c)) := by
  unfold impl_within.f; by_cases h : b ≤ a
  · rw [if_pos h]; simp [h]
  · rw [if_neg h]; simp; omega

/-! isform -/
/-- Is the byte a sound? -/
def snd (x : Int) : Bool := x == 112 || x == 116 || x == 98 || x == 100 || x == 110 || x == 97 || x == 105
theorem impl_IsSound_f {x : Int} (h0 : 0 ≤ x) (h1 : x ≤ 255) : impl_IsSound.f x = some (snd x) := by
  refine byte_cases (P := fun x => impl_IsSound.f x = some (snd x)) ?_ h0 h1; decide +kernel
theorem spec_IsSound_f {x : Int} (h0 : 0 ≤ x) (h1 : x ≤ 255) {k : Nat} (hk : 8 ≤ k) : spec_IsSound.f k x = some (snd x) := by
  have h : spec_IsSound.f 8 x = some (snd x) := by
    refine byte_cases (P := fun x => spec_IsSound.f 8 x = some (snd x)) ?_ h0 h1; decide +kernel
  exact at_rounds (g := fun k => spec_IsSound.f k x) (fun k => spec_IsSound.mono x k) hk h

/-- Are all bytes sounds? -/
def sndL (l : List Int) : Bool := l.all snd
theorem spec_l2Sounds_l0 (s : ByteArray) (hs : s.size ≤ 140737488351232) (d : Nat) : ∀ (i k : Nat), i + d = s.size → d + 8 < k →
    spec_l2Sounds.l0 k s (i : Int) = some (sndL ((bytesOf s).drop i) && decide (s.size ≤ 20)) := by
  induction d with
  | zero =>
    intro i k h hk
    obtain ⟨k, rfl⟩ : ∃ m, k = m + 1 := ⟨k - 1, by omega⟩
    simp only [spec_l2Sounds.l0]
    rw [if_neg (by omega), List.drop_of_length_le (by rw [bytesOf_length]; omega)]
    simp [sndL]; omega
  | succ d ih =>
    intro i k h hk
    obtain ⟨k, rfl⟩ : ∃ m, k = m + 1 := ⟨k - 1, by omega⟩
    obtain ⟨b0, b1⟩ := bt_range s (i : Int)
    have := ih (i + 1) k (by omega) (by omega)
    simp only [spec_l2Sounds.l0]
    rw [if_pos (by omega), if_pos (by omega), spec_IsSound_f b0 b1 (by omega), nx (by omega), drop_bt s i (by omega), this]
    simp only [Option.bind_some, sndL, List.all_cons]
    cases snd (bt s (i : Int)) <;> simp
theorem spec_l2Sounds_f (s : ByteArray) (hs : s.size ≤ 140737488351232) {k : Nat} (hk : s.size + 8 < k) : spec_l2Sounds.f k s = some (sndL (bytesOf s) && decide (s.size ≤ 20)) := by
  have := spec_l2Sounds_l0 s hs s.size 0 k (by omega) (by omega)
  simpa [spec_l2Sounds.f] using this
theorem impl_areSounds_l0 (s : ByteArray) (hs : s.size ≤ 140737488351232) (d : Nat) : ∀ (i k : Nat), i + d = s.size → d < k →
    impl_areSounds.l0 k s (s.size : Int) (i : Int) = some (sndL ((bytesOf s).drop i) && decide (1 ≤ s.size ∧ s.size ≤ 20)) := by
  induction d with
  | zero =>
    intro i k h hk
    obtain ⟨k, rfl⟩ : ∃ m, k = m + 1 := ⟨k - 1, by omega⟩
    simp only [impl_areSounds.l0]
    rw [if_neg (by omega), List.drop_of_length_le (by rw [bytesOf_length]; omega), within_f]
    have e : decide (1 ≤ (s.size : Int) ∧ (s.size : Int) ≤ 20) = decide (1 ≤ s.size ∧ s.size ≤ 20) := by rw [decide_eq_decide]; omega
    rw [e]; simp [sndL]
  | succ d ih =>
    intro i k h hk
    obtain ⟨k, rfl⟩ : ∃ m, k = m + 1 := ⟨k - 1, by omega⟩
    obtain ⟨b0, b1⟩ := bt_range s (i : Int)
    have := ih (i + 1) k (by omega) (by omega)
    simp only [impl_areSounds.l0]
    rw [if_pos (by omega), if_pos (by omega), if_pos (by omega), impl_IsSound_f b0 b1, nx (by omega), drop_bt s i (by omega), this]
    simp only [Option.bind_some, sndL, List.all_cons]
    cases snd (bt s (i : Int)) <;> simp
theorem impl_areSounds_f (s : ByteArray) (hs : s.size ≤ 140737488351232) {k : Nat} (hk : s.size < k) : impl_areSounds.f k s = some (sndL (bytesOf s) && decide (1 ≤ s.size ∧ s.size ≤ 20)) := by
  have := impl_areSounds_l0 s hs s.size 0 k (by omega) (by omega)
  simpa [impl_areSounds.f] using this
/-- Is the string a form? -/
def isf (s : ByteArray) : Bool := sndL (bytesOf s) && decide (s.size ≤ 8)

/-! isform2 -/
theorem spec_IsForm_f (s : ByteArray) (hs : s.size ≤ 140737488351232) {k : Nat} (hk : s.size + 8 < k) : spec_IsForm.f k s = some (isf s) := by
  unfold spec_IsForm.f isf
  rw [spec_l2Sounds_f s hs hk]; simp only [Option.bind_some]
  by_cases h : s.size ≤ 8
  · cases sndL (bytesOf s)
    · simp
    · simp [h, show s.size ≤ 20 from by omega]; omega
  · by_cases h2 : s.size ≤ 20
    · cases sndL (bytesOf s) <;> simp [h, h2] <;> omega
    · simp [h, h2]
theorem impl_IsForm_f (s : ByteArray) (hs : s.size ≤ 140737488351232) {k : Nat} (hk : s.size < k) : impl_IsForm.f k s = some (isf s) := by
  unfold impl_IsForm.f isf
  by_cases h : s.size = 0
  · rw [if_pos ((toList_nil_iff s).2 h)]
    have : bytesOf s = [] := List.eq_nil_of_length_eq_zero (by rw [bytesOf_length]; exact h)
    simp [this, sndL, h]
  · rw [if_neg (fun e => h ((toList_nil_iff s).1 e))]
    by_cases h8 : s.size ≤ 8
    · rw [if_pos (by omega), impl_areSounds_f s hs hk]
      have e : decide (1 ≤ s.size ∧ s.size ≤ 20) = true := by simp; omega
      simp [h8, e]
    · rw [if_neg (by omega)]; simp [h8]

/-! generate -/
/-- All ways to go on from place i of s, with at most 'left' edits. -/
def fromF (s : ByteArray) : Nat → Int → Int → List (List S63)
  | 0, _, _ => []
  | k + 1, i, left =>
    (if i < (s.size : Int) then
      (fromF s k (i + 1) left).map (fun x => ⟨bt s i, bt s i⟩ :: x) ++ (if 0 < left then (fromF s k (i + 1) (left - 1)).map (fun x => ⟨bt s i, 0⟩ :: x) ++ (if (impl_generate.sv (bt s i)).2 = true then (fromF s k (i + 1) (left - 1)).map (fun x => ⟨bt s i, (impl_generate.sv (bt s i)).1⟩ :: x) else []) else [])
    else [[]]) ++ (if 0 < left then (fromF s k i (left - 1)).map (fun x => ⟨0, 116⟩ :: x) ++ (fromF s k i (left - 1)).map (fun x => ⟨0, 105⟩ :: x) else [])
theorem map_go (ls : List S63) (x : S63) (l : List (List S63)) : l.map (fun y => (⟨(ls ++ [x]) ++ y⟩ : S57)) = (l.map (fun y => x :: y)).map (fun y => (⟨ls ++ y⟩ : S57)) := by
  rw [List.map_map]
  apply List.map_congr_left
  intro y _
  simp
theorem genF_from (s : ByteArray) : ∀ (k : Nat) (i left : Int) (ls : List S63), impl_generate.genF s k i left ls = (fromF s k i left).map (fun x => (⟨ls ++ x⟩ : S57)) := by
  intro k
  induction k with
  | zero => intro i left ls; rfl
  | succ k ih =>
    intro i left ls
    rw [impl_generate.genF, fromF]
    simp only [ih, map_go, List.map_append]
    congr 1
    · split
      · simp only [List.map_append]
        congr 1
        split
        · simp only [List.map_append]
          congr 1
          split <;> rfl
        · rfl
      · simp
    · split
      · simp only [List.map_append]
      · rfl
theorem fromF_len (s : ByteArray) : ∀ (k : Nat) (i left : Int), (fromF s k i left).length ≤ 5 ^ k := by
  intro k i left
  have h := impl_generate.genF_len s k i left []
  rw [genF_from, List.length_map] at h
  exact h
theorem fromF_el (s : ByteArray) : ∀ (k : Nat) (i left : Int), ∀ x ∈ fromF s k i left, x.length ≤ k := by
  intro k
  induction k with
  | zero => intro i left x hx; simp [fromF] at hx
  | succ k ih =>
    have h : ∀ (i left : Int) (y : S63) (x : List S63), x ∈ (fromF s k i left).map (fun z => y :: z) → x.length ≤ k + 1 := by
      intro i left y x hx
      obtain ⟨z, hz, rfl⟩ := List.mem_map.1 hx
      have := ih i left z hz
      simp only [List.length_cons]; omega
    intro i left x hx
    rw [fromF] at hx
    rcases List.mem_append.1 hx with hx | hx
    · split at hx
      · rcases List.mem_append.1 hx with hx | hx
        · exact h _ _ _ _ hx
        · split at hx
          · rcases List.mem_append.1 hx with hx | hx
            · exact h _ _ _ _ hx
            · split at hx
              · exact h _ _ _ _ hx
              · cases hx
          · cases hx
      · rw [List.mem_singleton.1 hx]; simp
    · split at hx
      · rcases List.mem_append.1 hx with hx | hx
        · exact h _ _ _ _ hx
        · exact h _ _ _ _ hx
      · cases hx
def mkC (l : List (List S63)) : List S57 := l.map (fun x => (⟨x⟩ : S57))
theorem mkC_length (l : List (List S63)) : (mkC l).length = l.length := List.length_map ..
theorem mkC_append (a b : List (List S63)) : mkC (a ++ b) = mkC a ++ mkC b := List.map_append ..
theorem l7Before_l0 (a b : Int) (l : List (List S63)) (hl : l.length ≤ 100000) (he : ∀ x ∈ l, x.length ≤ 1000) (d : Nat) : ∀ (i k : Nat), i + d = l.length → d < k →
    spec_l7Before.l0 k (mkC l) (mkC ((l.take i).map (fun x => ⟨a, b⟩ :: x))) (i : Int) a b = some (mkC (l.map (fun x => ⟨a, b⟩ :: x))) := by
  induction d with
  | zero =>
    intro i k h hk
    obtain ⟨k, rfl⟩ : ∃ m, k = m + 1 := ⟨k - 1, by omega⟩
    rw [spec_l7Before.l0, if_neg (by rw [mkC_length]; omega), List.take_of_length_le (by omega)]
  | succ d ih =>
    intro i k h hk
    obtain ⟨k, rfl⟩ : ∃ m, k = m + 1 := ⟨k - 1, by omega⟩
    have hi : i < l.length := by omega
    have e : rd_T57 (mkC l) (i : Int) = ⟨l[i]⟩ := by
      unfold rd_T57 mkC
      rw [Int.toNat_natCast, List.getD_eq_getElem?_getD, List.getElem?_map, List.getElem?_eq_getElem hi]; rfl
    have hx := he l[i] (List.getElem_mem hi)
    have c1 : ((i : Nat) : Int) < ((mkC l).length : Int) := by rw [mkC_length]; omega
    have c2 : 0 ≤ ((i : Nat) : Int) := by omega
    have c3 : ([(⟨a, b⟩ : S63)]).length + (l[i]).length < 70368744177664 := by simp only [List.length_singleton]; omega
    have c4 : (mkC ((l.take i).map (fun x => (⟨a, b⟩ : S63) :: x))).length < 5864062014805 := by rw [mkC_length, List.length_map, List.length_take]; omega
    rw [spec_l7Before.l0, if_pos c1]
    simp only [Option.bind_some]
    rw [if_pos c2, e]
    simp only [if_pos c3, if_pos c4]
    rw [nx (by omega)]
    have := ih (i + 1) k (by omega) (by omega)
    rw [List.take_succ_eq_append_getElem hi, List.map_append, mkC_append] at this
    exact this
theorem l7Before_f (a b : Int) (l : List (List S63)) (hl : l.length ≤ 100000) (he : ∀ x ∈ l, x.length ≤ 1000) {k : Nat} (hk : l.length < k) : spec_l7Before.f k a b (mkC l) = some (mkC (l.map (fun x => ⟨a, b⟩ :: x))) := by
  have := l7Before_l0 a b l hl he l.length 0 k (by omega) hk
  simpa [spec_l7Before.f, mkC] using this
theorem sv_spec (x : Int) : spec_SwapVoice.f x = some (impl_generate.sv x) := by
  unfold spec_SwapVoice.f impl_generate.sv
  repeat' split
  all_goals rfl
theorem pow7 {k : Nat} (h : k ≤ 7) : 5 ^ k ≤ 78125 := Nat.le_trans (Nat.pow_le_pow_right (by decide) h) (by decide)
theorem bt_ti0 : bt (⟨#[116, 105]⟩ : ByteArray) 0 = 116 := by decide +kernel
theorem bt_ti1 : bt (⟨#[116, 105]⟩ : ByteArray) 1 = 105 := by decide +kernel
theorem l7From_l0 (x7 : List S57) (l : List (List S63)) (hx : x7.length ≤ 1000000) (hl : l.length ≤ 100000) (he : ∀ x ∈ l, x.length ≤ 1000) {K : Nat} (hK : l.length + 4 ≤ K) :
    spec_l7From.l0 K x7 (mkC l) 0 = some (x7 ++ (mkC (l.map (fun x => ⟨0, 116⟩ :: x)) ++ mkC (l.map (fun x => ⟨0, 105⟩ :: x)))) := by
  obtain ⟨K, rfl⟩ : ∃ m, K = m + 3 := ⟨K - 3, by omega⟩
  rw [spec_l7From.l0, if_pos (by decide), if_pos (by decide), bt_ti0, l7Before_f 0 116 l hl he (by omega)]
  simp only [Option.bind_some]
  rw [if_pos (by rw [mkC_length, List.length_map]; omega), show wrap64 (0 + 1) = 1 from by decide +kernel]
  rw [spec_l7From.l0, if_pos (by decide), if_pos (by decide), bt_ti1, l7Before_f 0 105 l hl he (by omega)]
  simp only [Option.bind_some]
  rw [if_pos (by rw [List.length_append, mkC_length, mkC_length, List.length_map, List.length_map]; omega), show wrap64 (1 + 1) = 2 from by decide +kernel]
  rw [spec_l7From.l0, if_neg (by decide), List.append_assoc]
theorem l7From_j1 (s : ByteArray) (i left : Int) (x7 : List S57) (l : List (List S63)) (hx : x7.length ≤ 1000000) (hl : l.length ≤ 100000) (he : ∀ x ∈ l, x.length ≤ 1000) (h0 : 0 < left) (h2 : left ≤ 2) {K : Nat} (hK : l.length + 4 ≤ K) (hf : spec_l7From.f K s i (left - 1) = some (mkC l)) :
    spec_l7From.j1 (K + 1) s i left x7 = some (x7 ++ (mkC (l.map (fun x => ⟨0, 116⟩ :: x)) ++ mkC (l.map (fun x => ⟨0, 105⟩ :: x)))) := by
  rw [spec_l7From.j1, w64 (by omega) (by omega), hf]
  simp only [Option.bind_some]
  exact l7From_l0 x7 l hx hl he hK
theorem l7From_f (s : ByteArray) (hs : s.size ≤ 4) : ∀ (k : Nat) (i left : Int) (K : Nat), 6 * k + 78135 ≤ K → k ≤ 7 → (s.size : Int) - i + left < k → 0 ≤ i → i ≤ s.size → 0 ≤ left → left ≤ 2 → spec_l7From.f K s i left = some (mkC (fromF s k i left)) := by
  intro k
  induction k with
  | zero => intro i left K hK hk hm h0 h1 h2 h3; omega
  | succ k ih =>
    intro i left K hK hk hm h0 h1 h2 h3
    have hp : 5 ^ k ≤ 78125 := pow7 (by omega)
    have L : ∀ i left, (fromF s k i left).length ≤ 78125 := fun i left => Nat.le_trans (fromF_len s k i left) hp
    have E : ∀ i left, ∀ x ∈ fromF s k i left, x.length ≤ 1000 := fun i left x hx => Nat.le_trans (fromF_el s k i left x hx) (by omega)
    obtain ⟨K, rfl⟩ : ∃ m, K = m + 5 := ⟨K - 5, by omega⟩
    have J1 : ∀ (x7 : List S57), x7.length ≤ 1000000 → 0 < left → spec_l7From.j1 (K + 3) s i left x7 = some (x7 ++ (mkC ((fromF s k i (left - 1)).map (fun x => ⟨0, 116⟩ :: x)) ++ mkC ((fromF s k i (left - 1)).map (fun x => ⟨0, 105⟩ :: x)))) := by
      intro x7 hx hl
      exact l7From_j1 s i left x7 _ hx (by have := L i (left - 1); omega) (E _ _) hl h3 (by have := L i (left - 1); omega) (ih i (left - 1) (K + 2) (by omega) (by omega) (by omega) h0 h1 (by omega) (by omega))
    by_cases hi : i < (s.size : Int)
    · have wi : wrap64 (i + 1) = i + 1 := w64 (by omega) (by omega)
      have f1 := ih (i + 1) left (K + 4) (by omega) (by omega) (by omega) (by omega) (by omega) h2 h3
      have b1 := l7Before_f (bt s i) (bt s i) (fromF s k (i + 1) left) (by have := L (i + 1) left; omega) (E _ _) (k := K + 4) (by have := L (i + 1) left; omega)
      rw [spec_l7From.f]
      simp only [Option.bind_some]
      rw [if_neg (by omega), if_pos h0, if_pos hi, wi, f1]
      simp only [Option.bind_some]
      rw [b1]
      simp only [Option.bind_some]
      rw [if_pos (by rw [mkC_length, List.length_map]; have := L (i + 1) left; simp only [List.length_nil]; omega), List.nil_append, spec_l7From.j0]
      by_cases hl : 0 < left
      · have wl : wrap64 (left - 1) = left - 1 := w64 (by omega) (by omega)
        have f2 := ih (i + 1) (left - 1) (K + 3) (by omega) (by omega) (by omega) (by omega) (by omega) (by omega) (by omega)
        have b2 := l7Before_f (bt s i) 0 (fromF s k (i + 1) (left - 1)) (by have := L (i + 1) (left - 1); omega) (E _ _) (k := K + 3) (by have := L (i + 1) (left - 1); omega)
        have l1 := L (i + 1) left
        have l2 := L (i + 1) (left - 1)
        rw [if_neg (by omega), if_pos hi, wi, wl, f2]
        simp only [Option.bind_some]
        rw [if_pos h0, b2]
        simp only [Option.bind_some]
        rw [if_pos (by rw [mkC_length, mkC_length, List.length_map, List.length_map]; omega), sv_spec]
        simp only [Option.bind_some]
        rw [fromF, if_pos hi, if_pos hl, if_pos hl]
        by_cases hv : (impl_generate.sv (bt s i)).2 = true
        · have b3 := l7Before_f (bt s i) (impl_generate.sv (bt s i)).1 (fromF s k (i + 1) (left - 1)) (by omega) (E _ _) (k := K + 3) (by omega)
          rw [if_pos hv, b3]
          simp only [Option.bind_some]
          rw [if_pos (by simp only [List.length_append, mkC_length, List.length_map]; omega), J1 _ (by simp only [List.length_append, mkC_length, List.length_map]; omega) hl, if_pos hv]
          simp only [mkC_append, List.append_assoc]
        · rw [if_neg hv, J1 _ (by simp only [List.length_append, mkC_length, List.length_map]; omega) hl, if_neg hv]
          simp only [mkC_append, List.append_assoc, List.append_nil]
      · rw [if_pos (by omega), fromF, if_pos hi, if_neg hl, if_neg hl, List.append_nil, List.append_nil]
    · have e0 : i = (s.size : Int) := by omega
      rw [spec_l7From.f]
      simp only [Option.bind_some]
      rw [if_pos e0, if_pos (by simp only [List.length_nil]; omega), List.nil_append, spec_l7From.j0, fromF, if_neg hi]
      by_cases hl : 0 < left
      · rw [if_neg (by omega), if_neg hi, J1 _ (by simp) hl, if_pos hl]
        simp only [mkC_append]
        rfl
      · rw [if_pos (show left = 0 by omega), if_neg hi, if_neg hl, List.append_nil]
        rfl
/-- What both Generate answer. -/
def gens (s : ByteArray) : List S57 := if isf s = true ∧ s.size ≤ 4 then mkC (fromF s (s.size + 3) 0 2) else []
theorem spec_Generate_f (s : ByteArray) (hs : s.size ≤ 1048576) {k : Nat} (hk : s.size + 80000 < k) : spec_Generate.f k s = some (gens s) := by
  unfold spec_Generate.f gens
  rw [spec_IsForm_f s (by omega) (by omega)]
  simp only [Option.bind_some]
  by_cases h1 : isf s = true
  · rw [if_pos h1]
    by_cases h4 : s.size ≤ 4
    · rw [if_neg (by omega), l7From_f s h4 (s.size + 3) 0 2 k (by omega) (by omega) (by omega) (by omega) (by omega) (by omega) (by omega), if_pos ⟨h1, h4⟩]
      rfl
    · rw [if_pos (by omega), if_neg (fun h => h4 h.2)]
  · rw [if_neg h1, if_neg (fun h => h1 h.1)]
theorem impl_Generate_f (s : ByteArray) (hs : s.size ≤ 1048576) {k : Nat} (hk : s.size + 80000 < k) : impl_Generate.f k s = some (gens s) := by
  unfold impl_Generate.f gens
  rw [impl_IsForm_f s (by omega) (by omega)]
  simp only [Option.bind_some]
  by_cases h1 : isf s = true
  · rw [if_pos h1]
    by_cases h4 : s.size ≤ 4
    · rw [if_neg (by omega), if_pos ⟨h1, h4⟩]
      unfold impl_generate.f
      rw [if_pos ⟨h4, by decide, by decide⟩, genF_from]
      simp only [Option.bind_some]
      rfl
    · rw [if_pos (by omega), if_neg (fun h => h4 h.2)]
  · rw [if_neg h1, if_neg (fun h => h1 h.1)]

/-! markgen -/
/-- The marks of links, from number a on. -/
def mLa (a : Nat) (i : Nat) : S63 := ⟨((a + 2 * i : Nat) : Int) % 256, ((a + 2 * i + 1 : Nat) : Int) % 256⟩
theorem mLa_w (a i : Nat) (h : a + 2 * i ≤ 1000000000) : wrap64 (((a + 2 * i : Nat) : Int) + 1) = ((a + 2 * i + 1 : Nat) : Int) ∧ wrap64 (((a + 2 * i + 1 : Nat) : Int) + 1) = ((a + 2 * (i + 1) : Nat) : Int) := by
  constructor <;> rw [w64 (by omega) (by omega)] <;> omega
theorem rd_set' (l : List S63) (i : Nat) (x : S63) (h : i < l.length) : rd_T63 (l.set i x) (i : Int) = x := by
  have := getD_nat (l.set i x) z63 i (by rw [List.length_set]; exact h)
  rw [List.getElem_set_self] at this; exact this
theorem markLinkS_gl0 (a : Nat) (l : List S63) (hl : l.length ≤ 1048576) (ha : a + 2 * l.length ≤ 1000000000) (d : Nat) : ∀ (i k : Nat), i + d = l.length → d < k →
    laws_markLinkS.l0 k ((tab (mLa a) l.length).take i ++ l.drop i) ((a + 2 * i : Nat) : Int) (i : Int) = some (((a + 2 * l.length : Nat) : Int), tab (mLa a) l.length) := by
  induction d with
  | zero =>
    intro i k h hk
    obtain ⟨k, rfl⟩ : ∃ m, k = m + 1 := ⟨k - 1, by omega⟩
    simp only [laws_markLinkS.l0]
    rw [mix_length _ _ _ (tab_length _ _), if_neg (by omega), List.take_of_length_le (by rw [tab_length]; omega), List.drop_of_length_le (by omega), show i = l.length from by omega]
    simp
  | succ d ih =>
    intro i k h hk
    obtain ⟨k, rfl⟩ : ∃ m, k = m + 1 := ⟨k - 1, by omega⟩
    obtain ⟨e1, e2⟩ := mLa_w a i (by omega)
    have hlen := mix_length (tab (mLa a) l.length) l i (tab_length _ _)
    simp only [laws_markLinkS.l0]
    rw [hlen, if_pos (by omega), if_pos (by omega), e1, e2]
    simp only [Option.bind_some, Int.toNat_natCast]
    rw [rd_set' _ i _ (by rw [hlen]; omega), List.set_set, nx (by omega)]
    have e3 : (⟨((a + 2 * i : Nat) : Int) % 256, ((a + 2 * i + 1 : Nat) : Int) % 256⟩ : S63) = mLa a i := rfl
    rw [e3, set_mix (tab (mLa a) l.length) l i (mLa a i) (by rw [tab_length]; omega) (tab_length _ _) (tab_get _ _ _ _)]
    exact ih (i + 1) k (by omega) (by omega)
theorem markLinkS_g (a : Nat) (l : List S63) (hl : l.length ≤ 1048576) (ha : a + 2 * l.length ≤ 1000000000) {k : Nat} (hk : l.length < k) : laws_markLinkS.f k l (a : Int) = some (((a + 2 * l.length : Nat) : Int), tab (mLa a) l.length) := by
  have := markLinkS_gl0 a l hl ha l.length 0 k (by omega) (by omega)
  rw [List.take_zero, List.drop_zero, List.nil_append] at this
  exact this
theorem heldLinkS_gl0 (a n : Nat) (hl : n ≤ 1048576) (ha : a + 2 * n ≤ 1000000000) (d : Nat) : ∀ (i k : Nat), i + d = n → d < k → laws_heldLinkS.l0 k (tab (mLa a) n) ((a + 2 * i : Nat) : Int) (i : Int) = some ((a + 2 * n : Nat) : Int) := by
  induction d with
  | zero =>
    intro i k h hk
    obtain ⟨k, rfl⟩ : ∃ m, k = m + 1 := ⟨k - 1, by omega⟩
    simp only [laws_heldLinkS.l0]
    rw [tab_length, if_neg (by omega), show i = n from by omega]
  | succ d ih =>
    intro i k h hk
    obtain ⟨k, rfl⟩ : ∃ m, k = m + 1 := ⟨k - 1, by omega⟩
    obtain ⟨e1, e2⟩ := mLa_w a i (by omega)
    have e3 : rd_T63 (tab (mLa a) n) (i : Int) = mLa a i := tab_getD (mLa a) z63 n i (by omega)
    simp only [laws_heldLinkS.l0]
    rw [tab_length, if_pos (by omega), if_pos (by omega), e3, e1, e2, if_pos (show (mLa a i).f0 = ((a + 2 * i : Nat) : Int) % 256 from rfl), if_pos (show (mLa a i).f1 = ((a + 2 * i + 1 : Nat) : Int) % 256 from rfl), nx (by omega)]
    exact ih (i + 1) k (by omega) (by omega)
theorem heldLinkS_g (a n : Nat) (hl : n ≤ 1048576) (ha : a + 2 * n ≤ 1000000000) {k : Nat} (hk : n < k) : laws_heldLinkS.f k (tab (mLa a) n) (a : Int) = some ((a + 2 * n : Nat) : Int) :=
  heldLinkS_gl0 a n hl ha n 0 k (by omega) (by omega)
/-- The marks of candidates, from number a on; the number behind them. -/
def endC : Nat → List S57 → Nat
  | a, [] => a
  | a, c :: cs => endC (a + 2 * c.f0.length) cs
def marC : Nat → List S57 → List S57
  | _, [] => []
  | a, c :: cs => ⟨tab (mLa a) c.f0.length⟩ :: marC (a + 2 * c.f0.length) cs
theorem marC_length : ∀ (G : List S57) (a : Nat), (marC a G).length = G.length
  | [], _ => rfl
  | c :: cs, a => by rw [marC, List.length_cons, List.length_cons, marC_length cs]
theorem endC_le : ∀ (G : List S57) (a : Nat), (∀ c ∈ G, c.f0.length ≤ 1000) → a ≤ endC a G ∧ endC a G ≤ a + 2000 * G.length
  | [], a, _ => by simp [endC]
  | c :: cs, a, h => by
    have h1 := h c (by simp)
    have h2 := endC_le cs (a + 2 * c.f0.length) (fun x hx => h x (by simp [hx]))
    rw [endC, List.length_cons]; omega
theorem markAll_f (k : Nat) (hk : 1000 < k) : ∀ (G : List S57) (a : Nat), (∀ c ∈ G, c.f0.length ≤ 1000) → a + 2000 * G.length ≤ 900000000 → markAll k G (a : Int) = some ((endC a G : Int), marC a G)
  | [], a, _, _ => rfl
  | c :: cs, a, h, ha => by
    have h1 := h c (by simp)
    rw [List.length_cons] at ha
    rw [markAll, markLinkS_g a c.f0 (by omega) (by omega) (by omega)]
    simp only [Option.bind_some]
    rw [markAll_f k hk cs (a + 2 * c.f0.length) (fun x hx => h x (by simp [hx])) (by omega)]
    rfl
theorem heldCandidateS_gl0 (K : Nat) (hK : 1000 < K) : ∀ (G : List S57) (a : Nat) (done : List S57) (k : Nat), (∀ c ∈ G, c.f0.length ≤ 1000) → a + 2000 * G.length ≤ 900000000 → done.length + G.length ≤ 1000000 → K + G.length < k →
    laws_heldCandidateS.l0 k (done ++ marC a G) (a : Int) (done.length : Int) = some (endC a G : Int)
  | [], a, done, k, _, _, hl, hk => by
    obtain ⟨k, rfl⟩ : ∃ m, k = m + 1 := ⟨k - 1, by omega⟩
    rw [laws_heldCandidateS.l0, marC, List.append_nil, if_neg (by omega)]; rfl
  | c :: cs, a, done, k, h, ha, hl, hk => by
    have h1 := h c (by simp)
    rw [List.length_cons] at ha hl hk
    obtain ⟨k, rfl⟩ : ∃ m, k = m + 1 := ⟨k - 1, by omega⟩
    have e : rd_T57 (done ++ marC a (c :: cs)) (done.length : Int) = ⟨tab (mLa a) c.f0.length⟩ := by
      unfold rd_T57
      rw [Int.toNat_natCast, List.getD_eq_getElem?_getD, List.getElem?_append_right (Nat.le_refl _), Nat.sub_self, marC]; rfl
    have hln : (done ++ marC a (c :: cs)).length = done.length + (cs.length + 1) := by rw [List.length_append, marC_length, List.length_cons]
    rw [laws_heldCandidateS.l0, hln, if_pos (by omega), if_pos (by omega), e, heldLinkS_g a c.f0.length (by omega) (by omega) (by omega)]
    simp only [Option.bind_some]
    rw [if_neg (by omega), nx (by omega)]
    have := heldCandidateS_gl0 K hK cs (a + 2 * c.f0.length) (done ++ [⟨tab (mLa a) c.f0.length⟩]) k (fun x hx => h x (by simp [hx])) (by omega) (by rw [List.length_append, List.length_singleton]; omega) (by omega)
    rw [List.append_assoc, List.length_append, List.length_singleton] at this
    rw [marC, endC]
    exact this
theorem eqCandidateS_l0 (G : List S57) (hG : G.length ≤ 1000000) (he : ∀ c ∈ G, c.f0.length ≤ 1000) (d : Nat) : ∀ (i k : Nat), i + d = G.length → d + 1002 < k → laws_eqCandidateS.l0 k G G (i : Int) = some true := by
  induction d with
  | zero =>
    intro i k h hk
    obtain ⟨k, rfl⟩ : ∃ m, k = m + 1 := ⟨k - 1, by omega⟩
    rw [laws_eqCandidateS.l0, if_neg (by omega)]
  | succ d ih =>
    intro i k h hk
    obtain ⟨k, rfl⟩ : ∃ m, k = m + 1 := ⟨k - 1, by omega⟩
    have hi : i < G.length := by omega
    have e : rd_T57 G (i : Int) = G[i] := getD_nat G _ i hi
    have h1 := he G[i] (List.getElem_mem hi)
    rw [laws_eqCandidateS.l0, if_pos (by omega), if_pos (by omega), if_pos (by omega), e, eqCandidate_refl G[i].f0 (by omega) (by omega)]
    simp only [Option.bind_some]
    rw [if_pos trivial, nx (by omega)]
    exact ih (i + 1) k (by omega) (by omega)
theorem gens_el (s : ByteArray) : (∀ c ∈ gens s, c.f0.length ≤ 1000) ∧ (gens s).length ≤ 78125 := by
  unfold gens
  split
  · rename_i h
    refine ⟨fun c hc => ?_, ?_⟩
    · obtain ⟨x, hx, rfl⟩ := List.mem_map.1 hc
      exact Nat.le_trans (fromF_el s _ _ _ x hx) (by omega)
    · rw [mkC_length]; exact Nat.le_trans (fromF_len s _ _ _) (pow7 (by omega))
  · exact ⟨fun c hc => (by cases hc), by simp⟩

theorem FnExactGenerate : laws_FnExactGenerate.Pure := by
  intro s hs hn
  obtain ⟨he, hl⟩ := gens_el s
  have hK : 1000 < s.size + 80000 := by omega
  refine ⟨s.size + 80001 + 78125 + 2000, gens s, marC 1 (gens s), endC 1 (gens s), spec_Generate_f s (by omega) (by omega), impl_Generate_f s (by omega) (by omega), ?_, markAll_f _ (by omega) (gens s) 1 he (by omega), ?_, by omega, by omega⟩
  · unfold laws_eqCandidateS.f
    rw [if_pos rfl]
    exact eqCandidateS_l0 (gens s) (by omega) he (gens s).length 0 _ (by omega) (by omega)
  · exact heldCandidateS_gl0 1001 (by omega) (gens s) 1 [] _ he (by omega) (by simp only [List.length_nil]; omega) (by omega)

end Go.Proofs.Ytnnineobacckgaa.Pure
