/- For every candidate, FormatCandidate of the program and of the reference hand back the same text, and the argument stays as it was. -/
import Derived.Test.YtomkfofflpdknaaPFnExactFormatCandidatex5
import Derived.Test.YtomkfofflpdknaaBase
namespace Go.Proofs.Ytomkfofflpdknaa.Pure
open Go.RowKit Go.Proofs.Ytomkfofflpdknaa.PFnExactFormatCandidate Go.Proofs.YtomkfofflpdknaaW.PrintWords Go.Proofs.YtomkfofflpdknaaW.PrintLast Go.Proofs.YtomkfofflpdknaaW.PrintMore Go.Proofs.Ytomkfofflpdknaa.Base
set_option linter.unusedVariables false
set_option linter.unusedSimpArgs false

/-! sounds -/
/-- Facts on single bytes, tried at each of the 256. -/
theorem byte_cases {P : Int → Prop} (h : ∀ n : Fin 256, P ((n.val : Nat) : Int)) {x : Int} (h0 : 0 ≤ x) (h1 : x ≤ 255) : P x := by
  obtain ⟨m, rfl⟩ := Int.eq_ofNat_of_zero_le h0
  exact h ⟨m, by omega⟩

/-! within -/
theorem within_f (a b c : Int) : impl_within.f a b c = some (decide (b ≤ a ∧ a ≤ c)) := by
  unfold impl_within.f; by_cases h : b ≤ a
  · rw [if_pos h]; simp [h]
  · rw [if_neg h]; simp; omega

/-! isform -/
/-- Is the byte a sound? -/
def snd (x : Int) : Bool := x == 112 || x == 116 || x == 98 || x == 100 || x == 110 || x == 97 || x == 105
theorem impl_IsSound_f {x : Int} (h0 : 0 ≤ x) (h1 : x ≤ 255) : impl_IsSound.f x = some (snd x) := by
  refine byte_cases (P := fun x => impl_IsSound.f x = some (snd x)) ?_ h0 h1; decide +kernel
theorem spec_IsSound_f {x : Int} (h0 : 0 ≤ x) (h1 : x ≤ 255) {k : Nat} (hk : 8 ≤ k) : spec_IsSound.f k x = some (snd x) := by
  have h : spec_IsSound.f 8 x = some (snd x) := by
    refine byte_cases (P := fun x => spec_IsSound.f 8 x = some (snd x)) ?_ h0 h1; decide +kernel
  exact at_rounds (g := fun k => spec_IsSound.f k x) (fun k => spec_IsSound.mono x k) hk h

/-- Are all bytes sounds? -/
def sndL (l : List Int) : Bool := l.all snd
theorem spec_l2Sounds_l0 (s : ByteArray) (hs : s.size ≤ 140737488351232) (d : Nat) : ∀ (i k : Nat), i + d = s.size → d + 8 < k →
    spec_l2Sounds.l0 k s (i : Int) = some (sndL ((bytesOf s).drop i) && decide (s.size ≤ 20)) := by
  induction d with
  | zero =>
    intro i k h hk
    obtain ⟨k, rfl⟩ : ∃ m, k = m + 1 := ⟨k - 1, by omega⟩
    simp only [spec_l2Sounds.l0]
    rw [if_neg (by omega), List.drop_of_length_le (by rw [bytesOf_length]; omega)]
    simp [sndL]; omega
  | succ d ih =>
    intro i k h hk
    obtain ⟨k, rfl⟩ : ∃ m, k = m + 1 := ⟨k - 1, by omega⟩
    obtain ⟨b0, b1⟩ := bt_range s (i : Int)
    have := ih (i + 1) k (by omega) (by omega)
    simp only [spec_l2Sounds.l0]
    rw [if_pos (by omega), if_pos (by omega), spec_IsSound_f b0 b1 (by omega), nx (by omega), drop_bt s i (by omega), this]
    simp only [Option.bind_some, sndL, List.all_cons]
    cases snd (bt s (i : Int)) <;> simp
theorem spec_l2Sounds_f (s : ByteArray) (hs : s.size ≤ 140737488351232) {k : Nat} (hk : s.size + 8 < k) : spec_l2Sounds.f k s = some (sndL (bytesOf s) && decide (s.size ≤ 20)) := by
  have := spec_l2Sounds_l0 s hs s.size 0 k (by omega) (by omega)
  simpa [spec_l2Sounds.f] using this
theorem impl_areSounds_l0 (s : ByteArray) (hs : s.size ≤ 140737488351232) (d : Nat) : ∀ (i k : Nat), i + d = s.size → d < k →
    impl_areSounds.l0 k s (s.size : Int) (i : Int) = some (sndL ((bytesOf s).drop i) && decide (1 ≤ s.size ∧ s.size ≤ 20)) := by
  induction d with
  | zero =>
    intro i k h hk
    obtain ⟨k, rfl⟩ : ∃ m, k = m + 1 := ⟨k - 1, by omega⟩
    simp only [impl_areSounds.l0]
    rw [if_neg (by omega), List.drop_of_length_le (by rw [bytesOf_length]; omega), within_f]
    have e : decide (1 ≤ (s.size : Int) ∧ (s.size : Int) ≤ 20) = decide (1 ≤ s.size ∧ s.size ≤ 20) := by rw [decide_eq_decide]; omega
    rw [e]; simp [sndL]
  | succ d ih =>
    intro i k h hk
    obtain ⟨k, rfl⟩ : ∃ m, k = m + 1 := ⟨k - 1, by omega⟩
    obtain ⟨b0, b1⟩ := bt_range s (i : Int)
    have := ih (i + 1) k (by omega) (by omega)
    simp only [impl_areSounds.l0]
    rw [if_pos (by omega), if_pos (by omega), if_pos (by omega), impl_IsSound_f b0 b1, nx (by omega), drop_bt s i (by omega), this]
    simp only [Option.bind_some, sndL, List.all_cons]
    cases snd (bt s (i : Int)) <;> simp
theorem impl_areSounds_f (s : ByteArray) (hs : s.size ≤ 140737488351232) {k : Nat} (hk : s.size < k) : impl_areSounds.f k s = some (sndL (bytesOf s) && decide (1 ≤ s.size ∧ s.size ≤ 20)) := by
  have := impl_areSounds_l0 s hs s.size 0 k (by omega) (by omega)
  simpa [impl_areSounds.f] using this
/-- Is the string a form? -/
def isf (s : ByteArray) : Bool := sndL (bytesOf s) && decide (s.size ≤ 8)

/-! isform2 -/
theorem spec_IsForm_f (s : ByteArray) (hs : s.size ≤ 140737488351232) {k : Nat} (hk : s.size + 8 < k) : spec_IsForm.f k s = some (isf s) := by
  unfold spec_IsForm.f isf
  rw [spec_l2Sounds_f s hs hk]; simp only [Option.bind_some]
  by_cases h : s.size ≤ 8
  · cases sndL (bytesOf s)
    · simp
    · simp [h, show s.size ≤ 20 from by omega]; omega
  · by_cases h2 : s.size ≤ 20
    · cases sndL (bytesOf s) <;> simp [h, h2] <;> omega
    · simp [h, h2]
theorem impl_IsForm_f (s : ByteArray) (hs : s.size ≤ 140737488351232) {k : Nat} (hk : s.size < k) : impl_IsForm.f k s = some (isf s) := by
  unfold impl_IsForm.f isf
  by_cases h : s.size = 0
  · rw [if_pos ((toList_nil_iff s).2 h)]
    have : bytesOf s = [] := List.eq_nil_of_length_eq_zero (by rw [bytesOf_length]; exact h)
    simp [this, sndL, h]
  · rw [if_neg (fun e => h ((toList_nil_iff s).1 e))]
    by_cases h8 : s.size ≤ 8
    · rw [if_pos (by omega), impl_areSounds_f s hs hk]
      have e : decide (1 ≤ s.size ∧ s.size ≤ 20) = true := by simp; omega
      simp [h8, e]
    · rw [if_neg (by omega)]; simp [h8]

/-! swapv -/
/-- The other voice, and is there one. -/
def svr (x : Int) : Int × Bool := if x = 112 then (98, true) else if x = 98 then (112, true) else if x = 116 then (100, true) else if x = 100 then (116, true) else (x, false)
theorem spec_SwapVoice_f (x : Int) : spec_SwapVoice.f x = some (svr x) := by
  unfold spec_SwapVoice.f svr
  repeat' split
  all_goals rfl
theorem impl_SwapVoice_f {x : Int} (h0 : 0 ≤ x) (h1 : x ≤ 255) : impl_SwapVoice.f x = some (svr x) := by
  refine byte_cases (P := fun x => impl_SwapVoice.f x = some (svr x)) ?_ h0 h1; decide +kernel

/-! iscand -/
/-- Is it a link? -/
def lk (a b : Int) : Bool := if a = 0 then snd b else snd a && (b == 0 || (b == a || ((svr a).2 && (svr a).1 == b)))
def Byt (l : List S83) : Prop := ∀ x ∈ l, (0 ≤ x.f0 ∧ x.f0 ≤ 255) ∧ (0 ≤ x.f1 ∧ x.f1 ≤ 255)
theorem snd0 : snd 0 = false := by decide
theorem svr_snd (a : Int) (h : (svr a).2 = true) : snd (svr a).1 = true := by
  unfold svr at h ⊢
  repeat' split
  all_goals first | decide | (simp_all)
theorem impl_isLink_f {a b : Int} (a0 : 0 ≤ a) (a1 : a ≤ 255) (b0 : 0 ≤ b) (b1 : b ≤ 255) : impl_isLink.f a b = some (lk a b) := by
  unfold impl_isLink.f lk
  rw [impl_IsSound_f a0 a1, impl_IsSound_f b0 b1, impl_SwapVoice_f a0 a1]
  simp only [Option.bind_some]
  by_cases h : a = 0
  · rw [if_pos h, if_pos h]
  · rw [if_neg h, if_neg h]
    by_cases h1 : snd a = true
    · rw [if_pos h1, h1, Bool.true_and]
      by_cases h2 : b = 0
      · rw [if_pos h2]; simp [h2]
      · rw [if_neg h2]
        by_cases h3 : b = a
        · rw [if_pos h3]; simp [h3]
        · rw [if_neg h3]
          have e2 : (b == 0) = false := by simpa using h2
          have e3 : (b == a) = false := by simpa using h3
          rw [e2, e3]
          cases (svr a).2 <;> simp
    · rw [if_neg h1]; simp only [Bool.not_eq_true] at h1; rw [h1]; rfl
theorem rd_link (l : List S83) (i : Nat) (h : i < l.length) : rd_T83 l (i : Int) = l[i] := getD_nat l _ i h
/-- The sounds of the input, and of the output. -/
def ins (l : List S83) : List Int := (l.map fun x => x.f0).filter fun x => !(x == 0)
def outs (l : List S83) : List Int := (l.map fun x => x.f1).filter fun x => !(x == 0)
theorem ins_le (l : List S83) : (ins l).length ≤ l.length := by
  unfold ins; exact Nat.le_trans (List.length_filter_le _ _) (by simp)
theorem outs_le (l : List S83) : (outs l).length ≤ l.length := by
  unfold outs; exact Nat.le_trans (List.length_filter_le _ _) (by simp)
theorem ins_snoc (l : List S83) (i : Nat) (h : i < l.length) : ins (l.take (i + 1)) = ins (l.take i) ++ if l[i].f0 = 0 then [] else [l[i].f0] := by
  rw [List.take_succ_eq_append_getElem h]; unfold ins
  rw [List.map_append, List.filter_append, List.map_cons, List.map_nil]
  by_cases h0 : l[i].f0 = 0
  · rw [if_pos h0, List.filter_cons_of_neg (by simp [h0]), List.filter_nil]
  · rw [if_neg h0, List.filter_cons_of_pos (by simp [h0]), List.filter_nil]
theorem outs_snoc (l : List S83) (i : Nat) (h : i < l.length) : outs (l.take (i + 1)) = outs (l.take i) ++ if l[i].f1 = 0 then [] else [l[i].f1] := by
  rw [List.take_succ_eq_append_getElem h]; unfold outs
  rw [List.map_append, List.filter_append, List.map_cons, List.map_nil]
  by_cases h0 : l[i].f1 = 0
  · rw [if_pos h0, List.filter_cons_of_neg (by simp [h0]), List.filter_nil]
  · rw [if_neg h0, List.filter_cons_of_pos (by simp [h0]), List.filter_nil]
theorem ins_l0 (l : List S83) (hl : l.length ≤ 1048576) (d : Nat) : ∀ (i k : Nat), i + d = l.length → d < k →
    spec_l6In.l0 k (ins (l.take i)) (i : Int) l = some (strOfNums (ins l)) ∧ impl_sounds.l0 k false (ins (l.take i)) l (l.length : Int) (i : Int) = some (strOfNums (ins l)) := by
  induction d with
  | zero =>
    intro i k h hk
    obtain ⟨k, rfl⟩ : ∃ m, k = m + 1 := ⟨k - 1, by omega⟩
    rw [spec_l6In.l0, impl_sounds.l0, if_neg (by omega), if_neg (by omega), List.take_of_length_le (by omega)]
    exact ⟨rfl, rfl⟩
  | succ d ih =>
    intro i k h hk
    obtain ⟨k, rfl⟩ : ∃ m, k = m + 1 := ⟨k - 1, by omega⟩
    have hr := ih (i + 1) k (by omega) (by omega)
    have h1 : (i : Int) < (l.length : Int) := by omega
    have h2 : 0 ≤ (i : Int) := by omega
    have h3 : (ins (l.take i)).length < 140737488355328 := by have := ins_le (l.take i); rw [List.length_take] at this; omega
    rw [ins_snoc l i (by omega)] at hr
    rw [spec_l6In.l0, impl_sounds.l0, nx (i := i) (by omega), rd_link l i (by omega)]
    simp only [if_pos h1, if_pos h2, if_pos h3, if_neg (show ¬ (false = true) by simp)]
    by_cases h0 : (l[i]'(by omega)).f0 = 0
    · simp only [if_pos h0, List.append_nil] at hr ⊢; exact hr
    · simp only [if_neg h0] at hr ⊢; exact hr
theorem outs_l0 (l : List S83) (hl : l.length ≤ 1048576) (d : Nat) : ∀ (i k : Nat), i + d = l.length → d < k →
    spec_l6Out.l0 k (outs (l.take i)) (i : Int) l = some (strOfNums (outs l)) ∧ impl_sounds.l0 k true (outs (l.take i)) l (l.length : Int) (i : Int) = some (strOfNums (outs l)) := by
  induction d with
  | zero =>
    intro i k h hk
    obtain ⟨k, rfl⟩ : ∃ m, k = m + 1 := ⟨k - 1, by omega⟩
    rw [spec_l6Out.l0, impl_sounds.l0, if_neg (by omega), if_neg (by omega), List.take_of_length_le (by omega)]
    exact ⟨rfl, rfl⟩
  | succ d ih =>
    intro i k h hk
    obtain ⟨k, rfl⟩ : ∃ m, k = m + 1 := ⟨k - 1, by omega⟩
    have hr := ih (i + 1) k (by omega) (by omega)
    have h1 : (i : Int) < (l.length : Int) := by omega
    have h2 : 0 ≤ (i : Int) := by omega
    have h3 : (outs (l.take i)).length < 140737488355328 := by have := outs_le (l.take i); rw [List.length_take] at this; omega
    rw [outs_snoc l i (by omega)] at hr
    rw [spec_l6Out.l0, impl_sounds.l0, nx (i := i) (by omega), rd_link l i (by omega)]
    simp only [if_pos h1, if_pos h2, if_pos h3, if_true]
    by_cases h0 : (l[i]'(by omega)).f1 = 0
    · simp only [if_pos h0, List.append_nil] at hr ⊢; exact hr
    · simp only [if_neg h0] at hr ⊢; exact hr
theorem ins_f (l : List S83) (hl : l.length ≤ 1048576) {k : Nat} (hk : l.length < k) : spec_l6In.f k l = some (strOfNums (ins l)) ∧ impl_sounds.f k l false = some (strOfNums (ins l)) :=
  ins_l0 l hl l.length 0 k (by omega) (by omega)
theorem outs_f (l : List S83) (hl : l.length ≤ 1048576) {k : Nat} (hk : l.length < k) : spec_l6Out.f k l = some (strOfNums (outs l)) ∧ impl_sounds.f k l true = some (strOfNums (outs l)) :=
  outs_l0 l hl l.length 0 k (by omega) (by omega)
/-- What the end of both looks at: how long, and are both sides forms. -/
def isc2 (l : List S83) : Bool := decide (l.length ≤ 16) && (isf (strOfNums (ins l)) && isf (strOfNums (outs l)))
/-- Is it a candidate? -/
def isc (l : List S83) : Bool := (l.all fun x => lk x.f0 x.f1) && isc2 l
theorem spec_isc_l0 (l : List S83) (hl : l.length ≤ 1048576) (hb : Byt l) (d : Nat) : ∀ (i K : Nat), i + d = l.length → l.length + 10 < K →
    spec_IsCandidate.l0 (K + 2 * d) (i : Int) l = some (((l.drop i).all fun x => lk x.f0 x.f1) && isc2 l) := by
  induction d with
  | zero =>
    intro i K h hK
    obtain ⟨k, rfl⟩ : ∃ m, K = m + 1 := ⟨K - 1, by omega⟩
    rw [Nat.mul_zero, Nat.add_zero, spec_IsCandidate.l0, if_neg (by omega), List.drop_of_length_le (by omega), List.all_nil, Bool.true_and]
    unfold isc2
    by_cases h16 : l.length ≤ 16
    · have z1 := ins_le l
      have z2 := outs_le l
      rw [if_pos (by omega), (ins_f l hl (by omega)).1, (outs_f l hl (by omega)).1, decide_eq_true h16, Bool.true_and]
      simp only [Option.bind_some]
      rw [spec_IsForm_f _ (by rw [str_size]; omega) (by rw [str_size]; omega), spec_IsForm_f _ (by rw [str_size]; omega) (by rw [str_size]; omega)]
      simp only [Option.bind_some]
      cases isf (strOfNums (ins l)) <;> simp
    · rw [if_neg (by omega), decide_eq_false h16, Bool.false_and]
  | succ d ih =>
    intro i K h hK
    have hr := ih (i + 1) K (by omega) hK
    obtain ⟨⟨a0, a1⟩, ⟨b0, b1⟩⟩ := hb _ (List.getElem_mem (l := l) (n := i) (by omega))
    rw [show K + 2 * (d + 1) = ((K + 2 * d) + 1) + 1 from by omega, spec_IsCandidate.l0, if_pos (by omega), if_pos (by omega), rd_link l i (by omega), List.drop_eq_getElem_cons (i := i) (by omega), List.all_cons]
    generalize (l[i]'(by omega)).f0 = a at *
    generalize (l[i]'(by omega)).f1 = b at *
    rw [spec_SwapVoice_f, spec_IsSound_f a0 a1 (by omega), spec_IsSound_f b0 b1 (by omega)]
    simp only [Option.bind_some, spec_IsCandidate.j1]
    rw [nx (i := i) (by omega), hr]
    unfold lk
    by_cases ha : a = 0
    · simp only [if_pos ha]
      by_cases hb0 : b = 0
      · subst hb0; rw [if_pos rfl, snd0]; simp
      · rw [if_neg hb0]
        have e : (b == 0) = false := by simpa using hb0
        cases snd b <;> simp [e]
    · simp only [if_neg ha]
      cases hsa : snd a
      · simp
      · simp only [if_true, Bool.true_and]
        by_cases hb0 : b = 0
        · subst hb0; simp
        · have e : (b == 0) = false := by simpa using hb0
          simp only [if_neg hb0, e, Bool.false_or]
          cases hsb : snd b
          · simp only [Bool.false_eq_true, if_false, if_true]
            have h1 : (b == a) = false := by
              rw [beq_eq_false_iff_ne]; intro hba; rw [hba, hsa] at hsb; cases hsb
            have h2 : ((svr a).2 && (svr a).1 == b) = false := by
              rw [Bool.eq_false_iff]; intro hh
              simp only [Bool.and_eq_true, beq_iff_eq] at hh
              have := svr_snd a hh.1
              rw [hh.2, hsb] at this; cases this
            rw [h1, h2]; simp
          · simp only [if_true, Bool.false_eq_true, if_false]
            by_cases hab : a = b
            · subst hab; simp
            · rw [if_neg hab]
              have h1 : (b == a) = false := by rw [beq_eq_false_iff_ne]; exact fun e => hab e.symm
              rw [h1, Bool.false_or]
              cases (svr a).2
              · simp
              · by_cases hv : (svr a).1 = b
                · simp [hv]
                · simp [hv]
theorem impl_isc_l0 (l : List S83) (hl : l.length ≤ 1048576) (hb : Byt l) (d : Nat) : ∀ (i k : Nat), i + d = l.length → d + l.length + 10 < k →
    impl_IsCandidate.l0 k l (l.length : Int) (i : Int) l = some (((l.drop i).all fun x => lk x.f0 x.f1) && isc2 l) := by
  induction d with
  | zero =>
    intro i K h hK
    obtain ⟨k, rfl⟩ : ∃ m, K = m + 1 := ⟨K - 1, by omega⟩
    rw [impl_IsCandidate.l0, if_neg (by omega), List.drop_of_length_le (by omega), List.all_nil, Bool.true_and]
    unfold isc2
    by_cases h16 : l.length ≤ 16
    · have z1 := ins_le l
      have z2 := outs_le l
      rw [if_pos (by omega), (ins_f l hl (by omega)).2, (outs_f l hl (by omega)).2, decide_eq_true h16, Bool.true_and]
      simp only [Option.bind_some]
      rw [impl_IsForm_f _ (by rw [str_size]; omega) (by rw [str_size]; omega), impl_IsForm_f _ (by rw [str_size]; omega) (by rw [str_size]; omega)]
      simp only [Option.bind_some]
      cases isf (strOfNums (ins l)) <;> simp
    · rw [if_neg (by omega), decide_eq_false h16, Bool.false_and]
  | succ d ih =>
    intro i K h hK
    obtain ⟨k, rfl⟩ : ∃ m, K = m + 1 := ⟨K - 1, by omega⟩
    have hr := ih (i + 1) k (by omega) (by omega)
    obtain ⟨⟨a0, a1⟩, ⟨b0, b1⟩⟩ := hb _ (List.getElem_mem (l := l) (n := i) (by omega))
    rw [impl_IsCandidate.l0, if_pos (by omega), if_pos (by omega), if_pos (by omega), rd_link l i (by omega), List.drop_eq_getElem_cons (i := i) (by omega), List.all_cons, impl_isLink_f a0 a1 b0 b1, nx (i := i) (by omega), hr]
    simp only [Option.bind_some]
    cases lk (l[i]'(by omega)).f0 (l[i]'(by omega)).f1 <;> simp
theorem impl_IsCandidate_f (l : List S83) (hl : l.length ≤ 1048576) (hb : Byt l) {k : Nat} (hk : 2 * l.length + 10 < k) : impl_IsCandidate.f k l = some (isc l) :=
  impl_isc_l0 l hl hb l.length 0 k (by omega) (by omega)
theorem spec_IsCandidate_f (l : List S83) (hl : l.length ≤ 1048576) (hb : Byt l) {k : Nat} (hk : 3 * l.length + 10 < k) : spec_IsCandidate.f k l = some (isc l) := by
  obtain ⟨K, rfl⟩ : ∃ K, k = K + 2 * l.length := ⟨k - 2 * l.length, by omega⟩
  exact spec_isc_l0 l hl hb l.length 0 K (by omega) (by omega)

/-! eqlinks -/
theorem eqLinkS_l0 (l : List S83) (hl : l.length ≤ 1048576) (d : Nat) : ∀ (i k : Nat), i + d = l.length → d < k → laws_eqLinkS.l0 k l l (i : Int) = some true := by
  induction d with
  | zero =>
    intro i k h hk
    obtain ⟨k, rfl⟩ : ∃ m, k = m + 1 := ⟨k - 1, by omega⟩
    simp only [laws_eqLinkS.l0]; rw [if_neg (by omega)]
  | succ d ih =>
    intro i k h hk
    obtain ⟨k, rfl⟩ : ∃ m, k = m + 1 := ⟨k - 1, by omega⟩
    simp only [laws_eqLinkS.l0]
    rw [if_pos (by omega), if_pos (by omega), if_pos (by omega), nx (by omega)]
    simp only [laws_eqLink.f, if_true, Option.bind_some]
    exact ih (i + 1) k (by omega) (by omega)
theorem eqLinkS_refl (l : List S83) (hl : l.length ≤ 1048576) {k : Nat} (hk : l.length < k) : laws_eqLinkS.f k l l = some true := by
  unfold laws_eqLinkS.f; rw [if_pos rfl]; exact eqLinkS_l0 l hl l.length 0 k (by omega) (by omega)
theorem eqCandidate_refl (l : List S83) (hl : l.length ≤ 1048576) {k : Nat} (hk : l.length < k) : laws_eqCandidate.f k l l = some true := by
  unfold laws_eqCandidate.f; rw [eqLinkS_refl l hl hk]; rfl

/-! links -/
/-- The links of the law's own type as the program's. -/
def toL (l : List S105) : List S83 := l.map fun x => ⟨x.f0, x.f1⟩
theorem toL_length (l : List S105) : (toL l).length = l.length := by simp [toL]
theorem toLinkS_l0 (l : List S105) (hl : l.length ≤ 1048576) (d : Nat) : ∀ (i k : Nat), i + d = l.length → d < k →
    laws_toLinkS.l0 k l ((toL l).take i ++ List.replicate ((toL l).length - i) z83) (i : Int) = some (toL l) := by
  induction d with
  | zero =>
    intro i k h hk
    obtain ⟨k, rfl⟩ : ∃ m, k = m + 1 := ⟨k - 1, by omega⟩
    simp only [laws_toLinkS.l0]
    rw [if_neg (by omega), List.take_of_length_le (by rw [toL_length]; omega), toL_length, show l.length - i = 0 from by omega]
    simp
  | succ d ih =>
    intro i k h hk
    obtain ⟨k, rfl⟩ : ∃ m, k = m + 1 := ⟨k - 1, by omega⟩
    simp only [laws_toLinkS.l0]
    have e : rd_T105 l (i : Int) = l[i]'(by omega) := getD_nat l _ i (by omega)
    have e2 : (⟨(l[i]'(by omega)).f0, (l[i]'(by omega)).f1⟩ : S83) = (toL l)[i]'(by rw [toL_length]; omega) := by simp [toL]
    rw [if_pos (by omega), if_pos (by omega), e]
    simp only [laws_toLink.f, Option.bind_some]
    rw [if_pos (by simp [toL_length]; omega), e2, Int.toNat_natCast, set_fill (toL l) _ i (by rw [toL_length]; omega), nx (by omega)]
    exact ih (i + 1) k (by omega) (by omega)
theorem toLinkS_f (l : List S105) (hl : l.length ≤ 1048576) {k : Nat} (hk : l.length < k) : laws_toLinkS.f k l = some (toL l) := by
  unfold laws_toLinkS.f
  rw [if_pos (by omega), if_pos (by omega)]
  have := toLinkS_l0 l hl l.length 0 k (by omega) (by omega)
  simpa [toL_length] using this
theorem toCandidate_f (l : List S105) (hl : l.length ≤ 1048576) {k : Nat} (hk : l.length < k) : laws_toCandidate.f k l = some (toL l) := by
  unfold laws_toCandidate.f; rw [toLinkS_f l hl hk]; rfl
theorem szCandidate_f (l : List S105) (n : Int) (h0 : 0 ≤ n) (h1 : n ≤ 1048576) (hl : l.length ≤ 9223372036854775807) :
    ∃ t, laws_szCandidate.f l n = some t ∧ (¬ t < 0 → l.length ≤ 1048576 ∧ 0 ≤ t ∧ t ≤ 1048576) := by
  unfold laws_szCandidate.f laws_szLinkS.f
  rw [w64 (by omega) (by omega)]
  by_cases h : n - (l.length : Int) < 0
  · rw [if_pos h]; exact ⟨-1, by simp, by omega⟩
  · rw [if_neg h]; simp only [Option.bind_some]; rw [if_neg h]; exact ⟨_, rfl, fun _ => by omega⟩

/-! linkbyt -/
theorem toL_byt (l : List S105) (h : ∀ y ∈ l, (Lit.int .u8 y.f0).wf = true ∧ (Lit.int .u8 y.f1).wf = true) : Byt (toL l) := by
  intro x hx
  simp only [toL, List.mem_map] at hx
  obtain ⟨y, hy, rfl⟩ := hx
  obtain ⟨a, b⟩ := h y hy
  exact ⟨wfu8 a, wfu8 b⟩

/-! fmtcand -/
/-- The text of a link. -/
def pc (a b : Int) : List Int := if a = b then [a] else if a = 0 then [43, b] else if b = 0 then [45, a] else [42, a]
def fmtL (l : List S83) : List Int := l.flatMap fun x => pc x.f0 x.f1
theorem pc_len (a b : Int) : (pc a b).length ≤ 2 := by
  unfold pc
  repeat' split
  all_goals simp
theorem fmtL_le (l : List S83) : (fmtL l).length ≤ 2 * l.length := by
  induction l with
  | nil => simp [fmtL]
  | cons x l ih => have := pc_len x.f0 x.f1; simp only [fmtL, List.flatMap_cons, List.length_append, List.length_cons] at *; omega
theorem fmtL_snoc (l : List S83) (i : Nat) (h : i < l.length) : fmtL (l.take (i + 1)) = fmtL (l.take i) ++ pc l[i].f0 l[i].f1 := by
  rw [List.take_succ_eq_append_getElem h]; unfold fmtL; rw [List.flatMap_append, List.flatMap_cons, List.flatMap_nil, List.append_nil]
theorem enc_small : ∀ n : Fin 128, Utf8.encode (wrap32 ((n.val : Nat) : Int)) = strOfNums [((n.val : Nat) : Int)] := by decide +kernel
theorem enc_str {x : Int} (h0 : 0 ≤ x) (h1 : x < 128) : Utf8.encode (wrap32 x) = strOfNums [x] := by
  obtain ⟨m, rfl⟩ := Int.eq_ofNat_of_zero_le h0
  exact enc_small ⟨m, by omega⟩
theorem snd_lt {x : Int} (h : snd x = true) : 97 ≤ x ∧ x < 128 := by
  unfold snd at h
  simp only [Bool.or_eq_true, beq_iff_eq] at h
  omega
theorem lk_small {a b : Int} (h : lk a b = true) : (a = 0 ∧ 97 ≤ b ∧ b < 128) ∨ (97 ≤ a ∧ a < 128 ∧ (b = 0 ∨ (97 ≤ b ∧ b < 128))) := by
  unfold lk at h
  by_cases ha : a = 0
  · rw [if_pos ha] at h; exact Or.inl ⟨ha, snd_lt h⟩
  · rw [if_neg ha] at h
    simp only [Bool.and_eq_true, Bool.or_eq_true, beq_iff_eq] at h
    obtain ⟨h1, h2⟩ := h
    have := snd_lt h1
    refine Or.inr ⟨this.1, this.2, ?_⟩
    rcases h2 with h2 | h2 | ⟨h2, h3⟩
    · exact Or.inl h2
    · exact Or.inr (by omega)
    · have := snd_lt (svr_snd a h2); exact Or.inr (by omega)
theorem fmt_l0 (l : List S83) (hl : l.length ≤ 1048576) (hk_ : ∀ x ∈ l, lk x.f0 x.f1 = true) (d : Nat) : ∀ (i k : Nat), i + d = l.length → d < k →
    spec_FormatCandidate.l0 k (strOfNums (fmtL (l.take i))) (i : Int) l = some (if (strOfNums (fmtL l)).toList = ([] : List UInt8) then (⟨#[110, 111, 110, 101]⟩ : ByteArray) else strOfNums (fmtL l)) ∧
    impl_FormatCandidate.l0 k (strOfNums (fmtL (l.take i))) l (l.length : Int) (i : Int) = some (if (strOfNums (fmtL l)).toList = ([] : List UInt8) then (⟨#[110, 111, 110, 101]⟩ : ByteArray) else strOfNums (fmtL l)) := by
  induction d with
  | zero =>
    intro i k h hk
    obtain ⟨k, rfl⟩ : ∃ m, k = m + 1 := ⟨k - 1, by omega⟩
    have h1 : ¬ (i : Int) < (l.length : Int) := by omega
    rw [spec_FormatCandidate.l0, impl_FormatCandidate.l0, if_neg h1, List.take_of_length_le (by omega)]
    simp only [if_neg h1]
    by_cases hn : (strOfNums (fmtL l)).toList = ([] : List UInt8)
    · simp only [if_pos hn]; exact ⟨trivial, trivial⟩
    · simp only [if_neg hn]; exact ⟨trivial, trivial⟩
  | succ d ih =>
    intro i k h hk
    obtain ⟨k, rfl⟩ : ∃ m, k = m + 1 := ⟨k - 1, by omega⟩
    have hr := ih (i + 1) k (by omega) (by omega)
    have h1 : (i : Int) < (l.length : Int) := by omega
    have h2 : 0 ≤ (i : Int) := by omega
    have hx := lk_small (hk_ _ (List.getElem_mem (l := l) (n := i) (by omega)))
    have hz : (fmtL (l.take i)).length ≤ 2097152 := by have := fmtL_le (l.take i); rw [List.length_take] at this; omega
    rw [fmtL_snoc l i (by omega)] at hr
    rw [spec_FormatCandidate.l0, impl_FormatCandidate.l0, nx (i := i) (by omega), rd_link l i (by omega)]
    simp only [if_pos h1, if_pos h2]
    generalize (l[i]'(by omega)).f0 = a at *
    generalize (l[i]'(by omega)).f1 = b at *
    have s1 : ∀ x : Int, (strOfNums [x]).size = 1 := fun x => by rw [str_size]; rfl
    unfold pc at hr
    rcases hx with ⟨ha, hb⟩ | ⟨ha, ha', hb⟩
    · have e1 : ¬ a = b := by omega
      rw [if_neg e1, if_pos ha] at hr
      rw [enc_str (x := b) (by omega) (by omega)]
      simp only [if_neg e1, if_pos ha, Option.bind_some]
      have e2 : (strOfNums (fmtL (l.take i))).size + 1 ≤ 9223372036854775807 := by rw [str_size]; omega
      have e3 : (strOfNums (fmtL (l.take i)) ++ (⟨#[43]⟩ : ByteArray)).size + (strOfNums [b]).size ≤ 9223372036854775807 := by rw [ByteArray.size_append, s1, str_size]; show _ + 1 + 1 ≤ _; omega
      have e4 : 1 + (strOfNums [b]).size ≤ 9223372036854775807 := by rw [s1]; omega
      have e5 : (strOfNums (fmtL (l.take i))).size + ((⟨#[43]⟩ : ByteArray) ++ strOfNums [b]).size ≤ 9223372036854775807 := by rw [ByteArray.size_append, s1, str_size]; show _ + (1 + 1) ≤ _; omega
      simp only [if_pos e2, if_pos e3, if_pos e4, if_pos e5]
      rw [show (⟨#[43]⟩ : ByteArray) = strOfNums [43] from rfl, str_append, str_append, str_append, str_append, List.append_assoc]
      exact hr
    · have e0 : ¬ a = 0 := by omega
      rw [enc_str (x := a) (by omega) (by omega)]
      have e2 : (strOfNums (fmtL (l.take i))).size + 1 ≤ 9223372036854775807 := by rw [str_size]; omega
      have e3 : ∀ c : Int, (strOfNums (fmtL (l.take i)) ++ strOfNums [c]).size + (strOfNums [a]).size ≤ 9223372036854775807 := fun c => by rw [ByteArray.size_append, s1, s1, str_size]; omega
      have e4 : (strOfNums (fmtL (l.take i))).size + (strOfNums [a]).size ≤ 9223372036854775807 := by rw [s1, str_size]; omega
      rw [show (⟨#[43]⟩ : ByteArray) = strOfNums [43] from rfl, show (⟨#[45]⟩ : ByteArray) = strOfNums [45] from rfl, show (⟨#[42]⟩ : ByteArray) = strOfNums [42] from rfl]
      simp only [if_neg e0, Option.bind_some, if_pos e2, if_pos (e3 45), if_pos (e3 42), if_pos e4]
      by_cases hb0 : b = 0
      · have e1 : ¬ a = b := by omega
        rw [if_neg e1, if_neg e0, if_pos hb0] at hr
        simp only [if_neg e1, if_pos hb0, str_append, List.append_assoc]
        exact hr
      · by_cases hab : a = b
        · rw [if_pos hab] at hr
          simp only [if_pos hab, if_neg hb0, str_append]
          exact hr
        · rw [if_neg hab, if_neg e0, if_neg hb0] at hr
          simp only [if_neg hab, if_neg hb0, str_append, List.append_assoc]
          exact hr
/-- What both FormatCandidate answer. -/
def fmtc (l : List S83) : ByteArray := if isc l = true then (if (strOfNums (fmtL l)).toList = ([] : List UInt8) then (⟨#[110, 111, 110, 101]⟩ : ByteArray) else strOfNums (fmtL l)) else ⟨#[]⟩
theorem isc_lk {l : List S83} (h : isc l = true) : ∀ x ∈ l, lk x.f0 x.f1 = true := by
  unfold isc at h
  simp only [Bool.and_eq_true, List.all_eq_true] at h
  exact h.1
theorem spec_FormatCandidate_f (l : List S83) (hl : l.length ≤ 1048576) (hb : Byt l) {k : Nat} (hk : 3 * l.length + 10 < k) : spec_FormatCandidate.f k l = some (fmtc l) := by
  unfold spec_FormatCandidate.f fmtc
  rw [spec_IsCandidate_f l hl hb hk]; simp only [Option.bind_some]
  by_cases h : isc l = true
  · rw [if_pos h, if_pos h]
    exact (fmt_l0 l hl (isc_lk h) l.length 0 k (by omega) (by omega)).1
  · rw [if_neg h, if_neg h]
theorem impl_FormatCandidate_f (l : List S83) (hl : l.length ≤ 1048576) (hb : Byt l) {k : Nat} (hk : 3 * l.length + 10 < k) : impl_FormatCandidate.f k l = some (fmtc l) := by
  unfold impl_FormatCandidate.f fmtc
  rw [impl_IsCandidate_f l hl hb (by omega)]; simp only [Option.bind_some]
  by_cases h : isc l = true
  · rw [if_pos h, if_pos h]
    exact (fmt_l0 l hl (isc_lk h) l.length 0 k (by omega) (by omega)).2
  · rw [if_neg h, if_neg h]

theorem FnExactFormatCandidate : laws_FnExactFormatCandidate.Pure := by
  intro l hl hw
  refine ⟨3 * l.length + 11, ?_⟩
  unfold laws_FnExactFormatCandidate.f
  obtain ⟨t, ht, hb⟩ := szCandidate_f l 1048576 (by omega) (by omega) hl
  rw [ht]; simp only [Option.bind_some]
  by_cases h : t < 0
  · rw [if_pos h]
  · obtain ⟨h1, _, _⟩ := hb h
    have e := toL_length l
    rw [if_neg h, toCandidate_f l h1 (by omega)]; simp only [Option.bind_some]
    rw [spec_FormatCandidate_f _ (by omega) (toL_byt l hw) (by omega), impl_FormatCandidate_f _ (by omega) (toL_byt l hw) (by omega)]; simp only [Option.bind_some]
    rw [eqCandidate_refl _ (by omega) (by omega)]
    simp

end Go.Proofs.Ytomkfofflpdknaa.Pure
