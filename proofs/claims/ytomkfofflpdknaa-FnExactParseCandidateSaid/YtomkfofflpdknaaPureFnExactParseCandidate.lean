/- For every string, ParseCandidate of the program and of the reference hand back the same candidate and verdict, and the candidate is the caller's own. -/
import Derived.Test.YtomkfofflpdknaaPFnExactParseCandidatex8
import Derived.Test.YtomkfofflpdknaaBase
namespace Go.Proofs.Ytomkfofflpdknaa.Pure
open Go.RowKit Go.Proofs.Ytomkfofflpdknaa.PFnExactParseCandidate Go.Proofs.YtomkfofflpdknaaW.PrintWords Go.Proofs.YtomkfofflpdknaaW.PrintLast Go.Proofs.YtomkfofflpdknaaW.PrintMore Go.Proofs.Ytomkfofflpdknaa.Base
set_option linter.unusedVariables false
set_option linter.unusedSimpArgs false

/-! sounds -/
/-- Facts on single bytes, tried at each of the 256. -/
theorem byte_cases {P : Int → Prop} (h : ∀ n : Fin 256, P ((n.val : Nat) : Int)) {x : Int} (h0 : 0 ≤ x) (h1 : x ≤ 255) : P x := by
  obtain ⟨m, rfl⟩ := Int.eq_ofNat_of_zero_le h0
  exact h ⟨m, by omega⟩

/-! within -/
theorem within_f (a b c : Int) : impl_within.f a b c = some (decide (b ≤ a ∧ a ≤ c)) := by
  unfold impl_within.f; by_cases h : b ≤ a
  · rw [if_pos h]; simp [h]
  · rw [if_neg h]; simp; omega

/-! isform -/
/-- Is the byte a sound? -/
def snd (x : Int) : Bool := x == 112 || x == 116 || x == 98 || x == 100 || x == 110 || x == 97 || x == 105
theorem impl_IsSound_f {x : Int} (h0 : 0 ≤ x) (h1 : x ≤ 255) : impl_IsSound.f x = some (snd x) := by
  refine byte_cases (P := fun x => impl_IsSound.f x = some (snd x)) ?_ h0 h1; decide +kernel
theorem spec_IsSound_f {x : Int} (h0 : 0 ≤ x) (h1 : x ≤ 255) {k : Nat} (hk : 8 ≤ k) : spec_IsSound.f k x = some (snd x) := by
  have h : spec_IsSound.f 8 x = some (snd x) := by
    refine byte_cases (P := fun x => spec_IsSound.f 8 x = some (snd x)) ?_ h0 h1; decide +kernel
  exact at_rounds (g := fun k => spec_IsSound.f k x) (fun k => spec_IsSound.mono x k) hk h

/-- Are all bytes sounds? -/
def sndL (l : List Int) : Bool := l.all snd
theorem spec_l2Sounds_l0 (s : ByteArray) (hs : s.size ≤ 140737488351232) (d : Nat) : ∀ (i k : Nat), i + d = s.size → d + 8 < k →
    spec_l2Sounds.l0 k s (i : Int) = some (sndL ((bytesOf s).drop i) && decide (s.size ≤ 20)) := by
  induction d with
  | zero =>
    intro i k h hk
    obtain ⟨k, rfl⟩ : ∃ m, k = m + 1 := ⟨k - 1, by omega⟩
    simp only [spec_l2Sounds.l0]
    rw [if_neg (by omega), List.drop_of_length_le (by rw [bytesOf_length]; omega)]
    simp [sndL]; omega
  | succ d ih =>
    intro i k h hk
    obtain ⟨k, rfl⟩ : ∃ m, k = m + 1 := ⟨k - 1, by omega⟩
    obtain ⟨b0, b1⟩ := bt_range s (i : Int)
    have := ih (i + 1) k (by omega) (by omega)
    simp only [spec_l2Sounds.l0]
    rw [if_pos (by omega), if_pos (by omega), spec_IsSound_f b0 b1 (by omega), nx (by omega), drop_bt s i (by omega), this]
    simp only [Option.bind_some, sndL, List.all_cons]
    cases snd (bt s (i : Int)) <;> simp
theorem spec_l2Sounds_f (s : ByteArray) (hs : s.size ≤ 140737488351232) {k : Nat} (hk : s.size + 8 < k) : spec_l2Sounds.f k s = some (sndL (bytesOf s) && decide (s.size ≤ 20)) := by
  have := spec_l2Sounds_l0 s hs s.size 0 k (by omega) (by omega)
  simpa [spec_l2Sounds.f] using this
theorem impl_areSounds_l0 (s : ByteArray) (hs : s.size ≤ 140737488351232) (d : Nat) : ∀ (i k : Nat), i + d = s.size → d < k →
    impl_areSounds.l0 k s (s.size : Int) (i : Int) = some (sndL ((bytesOf s).drop i) && decide (1 ≤ s.size ∧ s.size ≤ 20)) := by
  induction d with
  | zero =>
    intro i k h hk
    obtain ⟨k, rfl⟩ : ∃ m, k = m + 1 := ⟨k - 1, by omega⟩
    simp only [impl_areSounds.l0]
    rw [if_neg (by omega), List.drop_of_length_le (by rw [bytesOf_length]; omega), within_f]
    have e : decide (1 ≤ (s.size : Int) ∧ (s.size : Int) ≤ 20) = decide (1 ≤ s.size ∧ s.size ≤ 20) := by rw [decide_eq_decide]; omega
    rw [e]; simp [sndL]
  | succ d ih =>
    intro i k h hk
    obtain ⟨k, rfl⟩ : ∃ m, k = m + 1 := ⟨k - 1, by omega⟩
    obtain ⟨b0, b1⟩ := bt_range s (i : Int)
    have := ih (i + 1) k (by omega) (by omega)
    simp only [impl_areSounds.l0]
    rw [if_pos (by omega), if_pos (by omega), if_pos (by omega), impl_IsSound_f b0 b1, nx (by omega), drop_bt s i (by omega), this]
    simp only [Option.bind_some, sndL, List.all_cons]
    cases snd (bt s (i : Int)) <;> simp
theorem impl_areSounds_f (s : ByteArray) (hs : s.size ≤ 140737488351232) {k : Nat} (hk : s.size < k) : impl_areSounds.f k s = some (sndL (bytesOf s) && decide (1 ≤ s.size ∧ s.size ≤ 20)) := by
  have := impl_areSounds_l0 s hs s.size 0 k (by omega) (by omega)
  simpa [impl_areSounds.f] using this
/-- Is the string a form? -/
def isf (s : ByteArray) : Bool := sndL (bytesOf s) && decide (s.size ≤ 8)

/-! isform2 -/
theorem spec_IsForm_f (s : ByteArray) (hs : s.size ≤ 140737488351232) {k : Nat} (hk : s.size + 8 < k) : spec_IsForm.f k s = some (isf s) := by
  unfold spec_IsForm.f isf
  rw [spec_l2Sounds_f s hs hk]; simp only [Option.bind_some]
  by_cases h : s.size ≤ 8
  · cases sndL (bytesOf s)
    · simp
    · simp [h, show s.size ≤ 20 from by omega]; omega
  · by_cases h2 : s.size ≤ 20
    · cases sndL (bytesOf s) <;> simp [h, h2] <;> omega
    · simp [h, h2]
theorem impl_IsForm_f (s : ByteArray) (hs : s.size ≤ 140737488351232) {k : Nat} (hk : s.size < k) : impl_IsForm.f k s = some (isf s) := by
  unfold impl_IsForm.f isf
  by_cases h : s.size = 0
  · rw [if_pos ((toList_nil_iff s).2 h)]
    have : bytesOf s = [] := List.eq_nil_of_length_eq_zero (by rw [bytesOf_length]; exact h)
    simp [this, sndL, h]
  · rw [if_neg (fun e => h ((toList_nil_iff s).1 e))]
    by_cases h8 : s.size ≤ 8
    · rw [if_pos (by omega), impl_areSounds_f s hs hk]
      have e : decide (1 ≤ s.size ∧ s.size ≤ 20) = true := by simp; omega
      simp [h8, e]
    · rw [if_neg (by omega)]; simp [h8]

/-! swapv -/
/-- The other voice, and is there one. -/
def svr (x : Int) : Int × Bool := if x = 112 then (98, true) else if x = 98 then (112, true) else if x = 116 then (100, true) else if x = 100 then (116, true) else (x, false)
theorem spec_SwapVoice_f (x : Int) : spec_SwapVoice.f x = some (svr x) := by
  unfold spec_SwapVoice.f svr
  repeat' split
  all_goals rfl
theorem impl_SwapVoice_f {x : Int} (h0 : 0 ≤ x) (h1 : x ≤ 255) : impl_SwapVoice.f x = some (svr x) := by
  refine byte_cases (P := fun x => impl_SwapVoice.f x = some (svr x)) ?_ h0 h1; decide +kernel

/-! iscand -/
/-- Is it a link? -/
def lk (a b : Int) : Bool := if a = 0 then snd b else snd a && (b == 0 || (b == a || ((svr a).2 && (svr a).1 == b)))
def Byt (l : List S83) : Prop := ∀ x ∈ l, (0 ≤ x.f0 ∧ x.f0 ≤ 255) ∧ (0 ≤ x.f1 ∧ x.f1 ≤ 255)
theorem snd0 : snd 0 = false := by decide
theorem svr_snd (a : Int) (h : (svr a).2 = true) : snd (svr a).1 = true := by
  unfold svr at h ⊢
  repeat' split
  all_goals first | decide | (simp_all)
theorem impl_isLink_f {a b : Int} (a0 : 0 ≤ a) (a1 : a ≤ 255) (b0 : 0 ≤ b) (b1 : b ≤ 255) : impl_isLink.f a b = some (lk a b) := by
  unfold impl_isLink.f lk
  rw [impl_IsSound_f a0 a1, impl_IsSound_f b0 b1, impl_SwapVoice_f a0 a1]
  simp only [Option.bind_some]
  by_cases h : a = 0
  · rw [if_pos h, if_pos h]
  · rw [if_neg h, if_neg h]
    by_cases h1 : snd a = true
    · rw [if_pos h1, h1, Bool.true_and]
      by_cases h2 : b = 0
      · rw [if_pos h2]; simp [h2]
      · rw [if_neg h2]
        by_cases h3 : b = a
        · rw [if_pos h3]; simp [h3]
        · rw [if_neg h3]
          have e2 : (b == 0) = false := by simpa using h2
          have e3 : (b == a) = false := by simpa using h3
          rw [e2, e3]
          cases (svr a).2 <;> simp
    · rw [if_neg h1]; simp only [Bool.not_eq_true] at h1; rw [h1]; rfl
theorem rd_link (l : List S83) (i : Nat) (h : i < l.length) : rd_T83 l (i : Int) = l[i] := getD_nat l _ i h
/-- The sounds of the input, and of the output. -/
def ins (l : List S83) : List Int := (l.map fun x => x.f0).filter fun x => !(x == 0)
def outs (l : List S83) : List Int := (l.map fun x => x.f1).filter fun x => !(x == 0)
theorem ins_le (l : List S83) : (ins l).length ≤ l.length := by
  unfold ins; exact Nat.le_trans (List.length_filter_le _ _) (by simp)
theorem outs_le (l : List S83) : (outs l).length ≤ l.length := by
  unfold outs; exact Nat.le_trans (List.length_filter_le _ _) (by simp)
theorem ins_snoc (l : List S83) (i : Nat) (h : i < l.length) : ins (l.take (i + 1)) = ins (l.take i) ++ if l[i].f0 = 0 then [] else [l[i].f0] := by
  rw [List.take_succ_eq_append_getElem h]; unfold ins
  rw [List.map_append, List.filter_append, List.map_cons, List.map_nil]
  by_cases h0 : l[i].f0 = 0
  · rw [if_pos h0, List.filter_cons_of_neg (by simp [h0]), List.filter_nil]
  · rw [if_neg h0, List.filter_cons_of_pos (by simp [h0]), List.filter_nil]
theorem outs_snoc (l : List S83) (i : Nat) (h : i < l.length) : outs (l.take (i + 1)) = outs (l.take i) ++ if l[i].f1 = 0 then [] else [l[i].f1] := by
  rw [List.take_succ_eq_append_getElem h]; unfold outs
  rw [List.map_append, List.filter_append, List.map_cons, List.map_nil]
  by_cases h0 : l[i].f1 = 0
  · rw [if_pos h0, List.filter_cons_of_neg (by simp [h0]), List.filter_nil]
  · rw [if_neg h0, List.filter_cons_of_pos (by simp [h0]), List.filter_nil]
theorem ins_l0 (l : List S83) (hl : l.length ≤ 1048576) (d : Nat) : ∀ (i k : Nat), i + d = l.length → d < k →
    spec_l6In.l0 k (ins (l.take i)) (i : Int) l = some (strOfNums (ins l)) ∧ impl_sounds.l0 k false (ins (l.take i)) l (l.length : Int) (i : Int) = some (strOfNums (ins l)) := by
  induction d with
  | zero =>
    intro i k h hk
    obtain ⟨k, rfl⟩ : ∃ m, k = m + 1 := ⟨k - 1, by omega⟩
    rw [spec_l6In.l0, impl_sounds.l0, if_neg (by omega), if_neg (by omega), List.take_of_length_le (by omega)]
    exact ⟨rfl, rfl⟩
  | succ d ih =>
    intro i k h hk
    obtain ⟨k, rfl⟩ : ∃ m, k = m + 1 := ⟨k - 1, by omega⟩
    have hr := ih (i + 1) k (by omega) (by omega)
    have h1 : (i : Int) < (l.length : Int) := by omega
    have h2 : 0 ≤ (i : Int) := by omega
    have h3 : (ins (l.take i)).length < 140737488355328 := by have := ins_le (l.take i); rw [List.length_take] at this; omega
    rw [ins_snoc l i (by omega)] at hr
    rw [spec_l6In.l0, impl_sounds.l0, nx (i := i) (by omega), rd_link l i (by omega)]
    simp only [if_pos h1, if_pos h2, if_pos h3, if_neg (show ¬ (false = true) by simp)]
    by_cases h0 : (l[i]'(by omega)).f0 = 0
    · simp only [if_pos h0, List.append_nil] at hr ⊢; exact hr
    · simp only [if_neg h0] at hr ⊢; exact hr
theorem outs_l0 (l : List S83) (hl : l.length ≤ 1048576) (d : Nat) : ∀ (i k : Nat), i + d = l.length → d < k →
    spec_l6Out.l0 k (outs (l.take i)) (i : Int) l = some (strOfNums (outs l)) ∧ impl_sounds.l0 k true (outs (l.take i)) l (l.length : Int) (i : Int) = some (strOfNums (outs l)) := by
  induction d with
  | zero =>
    intro i k h hk
    obtain ⟨k, rfl⟩ : ∃ m, k = m + 1 := ⟨k - 1, by omega⟩
    rw [spec_l6Out.l0, impl_sounds.l0, if_neg (by omega), if_neg (by omega), List.take_of_length_le (by omega)]
    exact ⟨rfl, rfl⟩
  | succ d ih =>
    intro i k h hk
    obtain ⟨k, rfl⟩ : ∃ m, k = m + 1 := ⟨k - 1, by omega⟩
    have hr := ih (i + 1) k (by omega) (by omega)
    have h1 : (i : Int) < (l.length : Int) := by omega
    have h2 : 0 ≤ (i : Int) := by omega
    have h3 : (outs (l.take i)).length < 140737488355328 := by have := outs_le (l.take i); rw [List.length_take] at this; omega
    rw [outs_snoc l i (by omega)] at hr
    rw [spec_l6Out.l0, impl_sounds.l0, nx (i := i) (by omega), rd_link l i (by omega)]
    simp only [if_pos h1, if_pos h2, if_pos h3, if_true]
    by_cases h0 : (l[i]'(by omega)).f1 = 0
    · simp only [if_pos h0, List.append_nil] at hr ⊢; exact hr
    · simp only [if_neg h0] at hr ⊢; exact hr
theorem ins_f (l : List S83) (hl : l.length ≤ 1048576) {k : Nat} (hk : l.length < k) : spec_l6In.f k l = some (strOfNums (ins l)) ∧ impl_sounds.f k l false = some (strOfNums (ins l)) :=
  ins_l0 l hl l.length 0 k (by omega) (by omega)
theorem outs_f (l : List S83) (hl : l.length ≤ 1048576) {k : Nat} (hk : l.length < k) : spec_l6Out.f k l = some (strOfNums (outs l)) ∧ impl_sounds.f k l true = some (strOfNums (outs l)) :=
  outs_l0 l hl l.length 0 k (by omega) (by omega)
/-- What the end of both looks at: how long, and are both sides forms. -/
def isc2 (l : List S83) : Bool := decide (l.length ≤ 16) && (isf (strOfNums (ins l)) && isf (strOfNums (outs l)))
/-- Is it a candidate? -/
def isc (l : List S83) : Bool := (l.all fun x => lk x.f0 x.f1) && isc2 l
theorem spec_isc_l0 (l : List S83) (hl : l.length ≤ 1048576) (hb : Byt l) (d : Nat) : ∀ (i K : Nat), i + d = l.length → l.length + 10 < K →
    spec_IsCandidate.l0 (K + 2 * d) (i : Int) l = some (((l.drop i).all fun x => lk x.f0 x.f1) && isc2 l) := by
  induction d with
  | zero =>
    intro i K h hK
    obtain ⟨k, rfl⟩ : ∃ m, K = m + 1 := ⟨K - 1, by omega⟩
    rw [Nat.mul_zero, Nat.add_zero, spec_IsCandidate.l0, if_neg (by omega), List.drop_of_length_le (by omega), List.all_nil, Bool.true_and]
    unfold isc2
    by_cases h16 : l.length ≤ 16
    · have z1 := ins_le l
      have z2 := outs_le l
      rw [if_pos (by omega), (ins_f l hl (by omega)).1, (outs_f l hl (by omega)).1, decide_eq_true h16, Bool.true_and]
      simp only [Option.bind_some]
      rw [spec_IsForm_f _ (by rw [str_size]; omega) (by rw [str_size]; omega), spec_IsForm_f _ (by rw [str_size]; omega) (by rw [str_size]; omega)]
      simp only [Option.bind_some]
      cases isf (strOfNums (ins l)) <;> simp
    · rw [if_neg (by omega), decide_eq_false h16, Bool.false_and]
  | succ d ih =>
    intro i K h hK
    have hr := ih (i + 1) K (by omega) hK
    obtain ⟨⟨a0, a1⟩, ⟨b0, b1⟩⟩ := hb _ (List.getElem_mem (l := l) (n := i) (by omega))
    rw [show K + 2 * (d + 1) = ((K + 2 * d) + 1) + 1 from by omega, spec_IsCandidate.l0, if_pos (by omega), if_pos (by omega), rd_link l i (by omega), List.drop_eq_getElem_cons (i := i) (by omega), List.all_cons]
    generalize (l[i]'(by omega)).f0 = a at *
    generalize (l[i]'(by omega)).f1 = b at *
    rw [spec_SwapVoice_f, spec_IsSound_f a0 a1 (by omega), spec_IsSound_f b0 b1 (by omega)]
    simp only [Option.bind_some, spec_IsCandidate.j1]
    rw [nx (i := i) (by omega), hr]
    unfold lk
    by_cases ha : a = 0
    · simp only [if_pos ha]
      by_cases hb0 : b = 0
      · subst hb0; rw [if_pos rfl, snd0]; simp
      · rw [if_neg hb0]
        have e : (b == 0) = false := by simpa using hb0
        cases snd b <;> simp [e]
    · simp only [if_neg ha]
      cases hsa : snd a
      · simp
      · simp only [if_true, Bool.true_and]
        by_cases hb0 : b = 0
        · subst hb0; simp
        · have e : (b == 0) = false := by simpa using hb0
          simp only [if_neg hb0, e, Bool.false_or]
          cases hsb : snd b
          · simp only [Bool.false_eq_true, if_false, if_true]
            have h1 : (b == a) = false := by
              rw [beq_eq_false_iff_ne]; intro hba; rw [hba, hsa] at hsb; cases hsb
            have h2 : ((svr a).2 && (svr a).1 == b) = false := by
              rw [Bool.eq_false_iff]; intro hh
              simp only [Bool.and_eq_true, beq_iff_eq] at hh
              have := svr_snd a hh.1
              rw [hh.2, hsb] at this; cases this
            rw [h1, h2]; simp
          · simp only [if_true, Bool.false_eq_true, if_false]
            by_cases hab : a = b
            · subst hab; simp
            · rw [if_neg hab]
              have h1 : (b == a) = false := by rw [beq_eq_false_iff_ne]; exact fun e => hab e.symm
              rw [h1, Bool.false_or]
              cases (svr a).2
              · simp
              · by_cases hv : (svr a).1 = b
                · simp [hv]
                · simp [hv]
theorem impl_isc_l0 (l : List S83) (hl : l.length ≤ 1048576) (hb : Byt l) (d : Nat) : ∀ (i k : Nat), i + d = l.length → d + l.length + 10 < k →
    impl_IsCandidate.l0 k l (l.length : Int) (i : Int) l = some (((l.drop i).all fun x => lk x.f0 x.f1) && isc2 l) := by
  induction d with
  | zero =>
    intro i K h hK
    obtain ⟨k, rfl⟩ : ∃ m, K = m + 1 := ⟨K - 1, by omega⟩
    rw [impl_IsCandidate.l0, if_neg (by omega), List.drop_of_length_le (by omega), List.all_nil, Bool.true_and]
    unfold isc2
    by_cases h16 : l.length ≤ 16
    · have z1 := ins_le l
      have z2 := outs_le l
      rw [if_pos (by omega), (ins_f l hl (by omega)).2, (outs_f l hl (by omega)).2, decide_eq_true h16, Bool.true_and]
      simp only [Option.bind_some]
      rw [impl_IsForm_f _ (by rw [str_size]; omega) (by rw [str_size]; omega), impl_IsForm_f _ (by rw [str_size]; omega) (by rw [str_size]; omega)]
      simp only [Option.bind_some]
      cases isf (strOfNums (ins l)) <;> simp
    · rw [if_neg (by omega), decide_eq_false h16, Bool.false_and]
  | succ d ih =>
    intro i K h hK
    obtain ⟨k, rfl⟩ : ∃ m, K = m + 1 := ⟨K - 1, by omega⟩
    have hr := ih (i + 1) k (by omega) (by omega)
    obtain ⟨⟨a0, a1⟩, ⟨b0, b1⟩⟩ := hb _ (List.getElem_mem (l := l) (n := i) (by omega))
    rw [impl_IsCandidate.l0, if_pos (by omega), if_pos (by omega), if_pos (by omega), rd_link l i (by omega), List.drop_eq_getElem_cons (i := i) (by omega), List.all_cons, impl_isLink_f a0 a1 b0 b1, nx (i := i) (by omega), hr]
    simp only [Option.bind_some]
    cases lk (l[i]'(by omega)).f0 (l[i]'(by omega)).f1 <;> simp
theorem impl_IsCandidate_f (l : List S83) (hl : l.length ≤ 1048576) (hb : Byt l) {k : Nat} (hk : 2 * l.length + 10 < k) : impl_IsCandidate.f k l = some (isc l) :=
  impl_isc_l0 l hl hb l.length 0 k (by omega) (by omega)
theorem spec_IsCandidate_f (l : List S83) (hl : l.length ≤ 1048576) (hb : Byt l) {k : Nat} (hk : 3 * l.length + 10 < k) : spec_IsCandidate.f k l = some (isc l) := by
  obtain ⟨K, rfl⟩ : ∃ K, k = K + 2 * l.length := ⟨k - 2 * l.length, by omega⟩
  exact spec_isc_l0 l hl hb l.length 0 K (by omega) (by omega)

/-! fmtcand -/
/-- The text of a link. -/
def pc (a b : Int) : List Int := if a = b then [a] else if a = 0 then [43, b] else if b = 0 then [45, a] else [42, a]
def fmtL (l : List S83) : List Int := l.flatMap fun x => pc x.f0 x.f1
theorem pc_len (a b : Int) : (pc a b).length ≤ 2 := by
  unfold pc
  repeat' split
  all_goals simp
theorem fmtL_le (l : List S83) : (fmtL l).length ≤ 2 * l.length := by
  induction l with
  | nil => simp [fmtL]
  | cons x l ih => have := pc_len x.f0 x.f1; simp only [fmtL, List.flatMap_cons, List.length_append, List.length_cons] at *; omega
theorem fmtL_snoc (l : List S83) (i : Nat) (h : i < l.length) : fmtL (l.take (i + 1)) = fmtL (l.take i) ++ pc l[i].f0 l[i].f1 := by
  rw [List.take_succ_eq_append_getElem h]; unfold fmtL; rw [List.flatMap_append, List.flatMap_cons, List.flatMap_nil, List.append_nil]
theorem enc_small : ∀ n : Fin 128, Utf8.encode (wrap32 ((n.val : Nat) : Int)) = strOfNums [((n.val : Nat) : Int)] := by decide +kernel
theorem enc_str {x : Int} (h0 : 0 ≤ x) (h1 : x < 128) : Utf8.encode (wrap32 x) = strOfNums [x] := by
  obtain ⟨m, rfl⟩ := Int.eq_ofNat_of_zero_le h0
  exact enc_small ⟨m, by omega⟩
theorem snd_lt {x : Int} (h : snd x = true) : 97 ≤ x ∧ x < 128 := by
  unfold snd at h
  simp only [Bool.or_eq_true, beq_iff_eq] at h
  omega
theorem lk_small {a b : Int} (h : lk a b = true) : (a = 0 ∧ 97 ≤ b ∧ b < 128) ∨ (97 ≤ a ∧ a < 128 ∧ (b = 0 ∨ (97 ≤ b ∧ b < 128))) := by
  unfold lk at h
  by_cases ha : a = 0
  · rw [if_pos ha] at h; exact Or.inl ⟨ha, snd_lt h⟩
  · rw [if_neg ha] at h
    simp only [Bool.and_eq_true, Bool.or_eq_true, beq_iff_eq] at h
    obtain ⟨h1, h2⟩ := h
    have := snd_lt h1
    refine Or.inr ⟨this.1, this.2, ?_⟩
    rcases h2 with h2 | h2 | ⟨h2, h3⟩
    · exact Or.inl h2
    · exact Or.inr (by omega)
    · have := snd_lt (svr_snd a h2); exact Or.inr (by omega)
theorem fmt_l0 (l : List S83) (hl : l.length ≤ 1048576) (hk_ : ∀ x ∈ l, lk x.f0 x.f1 = true) (d : Nat) : ∀ (i k : Nat), i + d = l.length → d < k →
    spec_FormatCandidate.l0 k (strOfNums (fmtL (l.take i))) (i : Int) l = some (if (strOfNums (fmtL l)).toList = ([] : List UInt8) then (⟨#[110, 111, 110, 101]⟩ : ByteArray) else strOfNums (fmtL l)) ∧
    impl_FormatCandidate.l0 k (strOfNums (fmtL (l.take i))) l (l.length : Int) (i : Int) = some (if (strOfNums (fmtL l)).toList = ([] : List UInt8) then (⟨#[110, 111, 110, 101]⟩ : ByteArray) else strOfNums (fmtL l)) := by
  induction d with
  | zero =>
    intro i k h hk
    obtain ⟨k, rfl⟩ : ∃ m, k = m + 1 := ⟨k - 1, by omega⟩
    have h1 : ¬ (i : Int) < (l.length : Int) := by omega
    rw [spec_FormatCandidate.l0, impl_FormatCandidate.l0, if_neg h1, List.take_of_length_le (by omega)]
    simp only [if_neg h1]
    by_cases hn : (strOfNums (fmtL l)).toList = ([] : List UInt8)
    · simp only [if_pos hn]; exact ⟨trivial, trivial⟩
    · simp only [if_neg hn]; exact ⟨trivial, trivial⟩
  | succ d ih =>
    intro i k h hk
    obtain ⟨k, rfl⟩ : ∃ m, k = m + 1 := ⟨k - 1, by omega⟩
    have hr := ih (i + 1) k (by omega) (by omega)
    have h1 : (i : Int) < (l.length : Int) := by omega
    have h2 : 0 ≤ (i : Int) := by omega
    have hx := lk_small (hk_ _ (List.getElem_mem (l := l) (n := i) (by omega)))
    have hz : (fmtL (l.take i)).length ≤ 2097152 := by have := fmtL_le (l.take i); rw [List.length_take] at this; omega
    rw [fmtL_snoc l i (by omega)] at hr
    rw [spec_FormatCandidate.l0, impl_FormatCandidate.l0, nx (i := i) (by omega), rd_link l i (by omega)]
    simp only [if_pos h1, if_pos h2]
    generalize (l[i]'(by omega)).f0 = a at *
    generalize (l[i]'(by omega)).f1 = b at *
    have s1 : ∀ x : Int, (strOfNums [x]).size = 1 := fun x => by rw [str_size]; rfl
    unfold pc at hr
    rcases hx with ⟨ha, hb⟩ | ⟨ha, ha', hb⟩
    · have e1 : ¬ a = b := by omega
      rw [if_neg e1, if_pos ha] at hr
      rw [enc_str (x := b) (by omega) (by omega)]
      simp only [if_neg e1, if_pos ha, Option.bind_some]
      have e2 : (strOfNums (fmtL (l.take i))).size + 1 ≤ 9223372036854775807 := by rw [str_size]; omega
      have e3 : (strOfNums (fmtL (l.take i)) ++ (⟨#[43]⟩ : ByteArray)).size + (strOfNums [b]).size ≤ 9223372036854775807 := by rw [ByteArray.size_append, s1, str_size]; show _ + 1 + 1 ≤ _; omega
      have e4 : 1 + (strOfNums [b]).size ≤ 9223372036854775807 := by rw [s1]; omega
      have e5 : (strOfNums (fmtL (l.take i))).size + ((⟨#[43]⟩ : ByteArray) ++ strOfNums [b]).size ≤ 9223372036854775807 := by rw [ByteArray.size_append, s1, str_size]; show _ + (1 + 1) ≤ _; omega
      simp only [if_pos e2, if_pos e3, if_pos e4, if_pos e5]
      rw [show (⟨#[43]⟩ : ByteArray) = strOfNums [43] from rfl, str_append, str_append, str_append, str_append, List.append_assoc]
      exact hr
    · have e0 : ¬ a = 0 := by omega
      rw [enc_str (x := a) (by omega) (by omega)]
      have e2 : (strOfNums (fmtL (l.take i))).size + 1 ≤ 9223372036854775807 := by rw [str_size]; omega
      have e3 : ∀ c : Int, (strOfNums (fmtL (l.take i)) ++ strOfNums [c]).size + (strOfNums [a]).size ≤ 9223372036854775807 := fun c => by rw [ByteArray.size_append, s1, s1, str_size]; omega
      have e4 : (strOfNums (fmtL (l.take i))).size + (strOfNums [a]).size ≤ 9223372036854775807 := by rw [s1, str_size]; omega
      rw [show (⟨#[43]⟩ : ByteArray) = strOfNums [43] from rfl, show (⟨#[45]⟩ : ByteArray) = strOfNums [45] from rfl, show (⟨#[42]⟩ : ByteArray) = strOfNums [42] from rfl]
      simp only [if_neg e0, Option.bind_some, if_pos e2, if_pos (e3 45), if_pos (e3 42), if_pos e4]
      by_cases hb0 : b = 0
      · have e1 : ¬ a = b := by omega
        rw [if_neg e1, if_neg e0, if_pos hb0] at hr
        simp only [if_neg e1, if_pos hb0, str_append, List.append_assoc]
        exact hr
      · by_cases hab : a = b
        · rw [if_pos hab] at hr
          simp only [if_pos hab, if_neg hb0, str_append]
          exact hr
        · rw [if_neg hab, if_neg e0, if_neg hb0] at hr
          simp only [if_neg hab, if_neg hb0, str_append, List.append_assoc]
          exact hr
/-- What both FormatCandidate answer. -/
def fmtc (l : List S83) : ByteArray := if isc l = true then (if (strOfNums (fmtL l)).toList = ([] : List UInt8) then (⟨#[110, 111, 110, 101]⟩ : ByteArray) else strOfNums (fmtL l)) else ⟨#[]⟩
theorem isc_lk {l : List S83} (h : isc l = true) : ∀ x ∈ l, lk x.f0 x.f1 = true := by
  unfold isc at h
  simp only [Bool.and_eq_true, List.all_eq_true] at h
  exact h.1
theorem spec_FormatCandidate_f (l : List S83) (hl : l.length ≤ 1048576) (hb : Byt l) {k : Nat} (hk : 3 * l.length + 10 < k) : spec_FormatCandidate.f k l = some (fmtc l) := by
  unfold spec_FormatCandidate.f fmtc
  rw [spec_IsCandidate_f l hl hb hk]; simp only [Option.bind_some]
  by_cases h : isc l = true
  · rw [if_pos h, if_pos h]
    exact (fmt_l0 l hl (isc_lk h) l.length 0 k (by omega) (by omega)).1
  · rw [if_neg h, if_neg h]
theorem impl_FormatCandidate_f (l : List S83) (hl : l.length ≤ 1048576) (hb : Byt l) {k : Nat} (hk : 3 * l.length + 10 < k) : impl_FormatCandidate.f k l = some (fmtc l) := by
  unfold impl_FormatCandidate.f fmtc
  rw [impl_IsCandidate_f l hl hb (by omega)]; simp only [Option.bind_some]
  by_cases h : isc l = true
  · rw [if_pos h, if_pos h]
    exact (fmt_l0 l hl (isc_lk h) l.length 0 k (by omega) (by omega)).2
  · rw [if_neg h, if_neg h]

/-! parsecand -/
theorem toList_eq2 (a b : ByteArray) : a.toList = b.toList ↔ a = b := by
  constructor
  · intro h; rw [toList_data, toList_data] at h; exact ba_ext h
  · intro h; rw [h]
theorem svr_byt {x : Int} (h0 : 0 ≤ x) (h1 : x ≤ 255) : 0 ≤ (svr x).1 ∧ (svr x).1 ≤ 255 := by
  unfold svr
  repeat' split
  all_goals simp
  all_goals omega
theorem Byt.snoc {l : List S83} (h : Byt l) {a b : Int} (a0 : 0 ≤ a ∧ a ≤ 255) (b0 : 0 ≤ b ∧ b ≤ 255) : Byt (l ++ [⟨a, b⟩]) := by
  intro x hx
  rcases List.mem_append.1 hx with hx | hx
  · exact h x hx
  · rw [List.mem_singleton.1 hx]; exact ⟨a0, b0⟩
theorem isc_nil : isc ([] : List S83) = true := by decide +kernel
theorem fmtc_nil : fmtc ([] : List S83) = ⟨#[110, 111, 110, 101]⟩ := by
  unfold fmtc; rw [if_pos isc_nil, if_pos ((toList_nil_iff _).2 rfl)]
theorem none_list : (⟨#[110, 111, 110, 101]⟩ : ByteArray).toList = ([110, 111, 110, 101] : List UInt8) := by rw [toList_data]
theorem parse_l0 (s : ByteArray) (hs : s.size ≤ 1048576) (hn : ¬ s.toList = ([110, 111, 110, 101] : List UInt8)) (d : Nat) : ∀ (i K K' : Nat) (acc : List S83), i ≤ s.size → s.size ≤ i + d → acc.length ≤ i → Byt acc → 3 * s.size + 20 < K → 3 * s.size + 20 < K' →
    ∃ r, spec_ParseCandidate.l0 (K + 3 * d) s (i : Int) acc = some r ∧ impl_ParseCandidate.l0 (K' + 3 * d) s (i : Int) acc = some r ∧ r.1.length ≤ s.size := by
  have fin : ∀ (i K K' : Nat) (acc : List S83), s.size ≤ i → i ≤ s.size → acc.length ≤ i → Byt acc → 3 * s.size + 20 < K → 3 * s.size + 20 < K' →
      ∃ r, spec_ParseCandidate.l0 K s (i : Int) acc = some r ∧ impl_ParseCandidate.l0 K' s (i : Int) acc = some r ∧ r.1.length ≤ s.size := by
    intro i K K' acc h1 h2 ha hb hK hK'
    obtain ⟨K, rfl⟩ : ∃ m, K = (m + 1) + 1 := ⟨K - 2, by omega⟩
    obtain ⟨K', rfl⟩ : ∃ m, K' = m + 1 := ⟨K' - 1, by omega⟩
    rw [spec_ParseCandidate.l0, impl_ParseCandidate.l0, if_neg (by omega), if_neg (by omega), spec_ParseCandidate.j1, if_neg (by simp), spec_FormatCandidate_f acc (by omega) hb (by omega), impl_FormatCandidate_f acc (by omega) hb (by omega)]
    simp only [Option.bind_some]
    by_cases hz : acc = []
    · subst hz
      rw [fmtc_nil, none_list, if_neg (fun e => hn e.symm), if_pos (show ((([] : List S83).length : Nat) : Int) = 0 from rfl)]
      exact ⟨_, rfl, rfl, by simp⟩
    · have hz' : ¬ (acc.length : Int) = 0 := fun e => hz (List.eq_nil_of_length_eq_zero (by omega))
      have hs0 : ¬ s.toList = ([] : List UInt8) := fun e => by have := (toList_nil_iff s).1 e; omega
      rw [if_neg hz']
      by_cases hf : (fmtc acc).toList = s.toList
      · rw [if_pos hf, if_neg hs0]; simp only [if_pos hf]; exact ⟨_, rfl, rfl, by simp; omega⟩
      · rw [if_neg hf]; simp only [if_neg hf]; exact ⟨_, rfl, rfl, by simp⟩
  induction d with
  | zero => intro i K K' acc h1 h2 ha hb hK hK'; exact fin i _ _ acc (by omega) h1 ha hb (by omega) (by omega)
  | succ d ih =>
    intro i K K' acc h1 h2 ha hb hK hK'
    by_cases hlt : i < s.size
    · obtain ⟨b0, b1⟩ := bt_range s (i : Int)
      obtain ⟨c0, c1⟩ := bt_range s ((i + 1 : Nat) : Int)
      have hne : (s.toList != ([110, 111, 110, 101] : List UInt8)) = true := bne_iff_ne.2 hn
      have g1 : (i : Int) < (s.size : Int) := by omega
      have g2 : 0 ≤ (i : Int) := by omega
      have ga : acc.length < 70368744177664 := by omega
      rw [show K + 3 * (d + 1) = (((K + 3 * d) + 1) + 1) + 1 from by omega, show K' + 3 * (d + 1) = (((K' + 3 * d) + 1) + 1) + 1 from by omega]
      rw [spec_ParseCandidate.l0, impl_ParseCandidate.l0, if_pos g1, if_pos g1, if_pos g2, hne, spec_ParseCandidate.j1, if_pos rfl, if_pos g2, if_pos g1]
      by_cases hk3 : bt s (i : Int) = 43 ∨ bt s (i : Int) = 45 ∨ bt s (i : Int) = 42
      · have key1 : (if bt s (i : Int) = 43 then spec_ParseCandidate.j2 (K + 3 * d + 1) s (i : Int) true acc (bt s (i : Int)) (bt s (i : Int)) else (if bt s (i : Int) = 45 then spec_ParseCandidate.j2 (K + 3 * d + 1) s (i : Int) true acc (bt s (i : Int)) (bt s (i : Int)) else spec_ParseCandidate.j2 (K + 3 * d + 1) s (i : Int) (bt s (i : Int) == 42) acc (bt s (i : Int)) (bt s (i : Int)))) = spec_ParseCandidate.j2 (K + 3 * d + 1) s (i : Int) true acc (bt s (i : Int)) (bt s (i : Int)) := by
          rcases hk3 with e | e | e <;> rw [e] <;> simp
        have key2 : (if bt s (i : Int) = 43 then impl_ParseCandidate.j1 (K' + 3 * d + 1 + 1) s (i : Int) (bt s (i : Int)) true acc else (if bt s (i : Int) = 45 then impl_ParseCandidate.j1 (K' + 3 * d + 1 + 1) s (i : Int) (bt s (i : Int)) true acc else impl_ParseCandidate.j1 (K' + 3 * d + 1 + 1) s (i : Int) (bt s (i : Int)) (bt s (i : Int) == 42) acc)) = impl_ParseCandidate.j1 (K' + 3 * d + 1 + 1) s (i : Int) (bt s (i : Int)) true acc := by
          rcases hk3 with e | e | e <;> rw [e] <;> simp
        rw [key1, key2, spec_ParseCandidate.j2, if_pos rfl, if_pos g2, if_pos g1, impl_ParseCandidate.j1, if_pos rfl, impl_ParseCandidate.j2, nx (i := i) (by omega)]
        by_cases hend : ((i + 1 : Nat) : Int) = (s.size : Int)
        · rw [if_pos hend, if_pos hend]; exact ⟨_, rfl, rfl, by simp⟩
        · have g3 : 0 ≤ ((i + 1 : Nat) : Int) := by omega
          have g4 : ((i + 1 : Nat) : Int) < (s.size : Int) := by omega
          rw [if_neg hend, if_neg hend]
          simp only [if_pos g3, if_pos g4, if_pos ga]
          rw [nx (i := i + 1) (by omega), spec_SwapVoice_f, impl_SwapVoice_f c0 c1]
          simp only [Option.bind_some, if_pos ga]
          have hsv := svr_byt c0 c1
          rcases hk3 with e | e | e
          · simp only [e, if_true]
            exact ih (i + 1 + 1) K K' _ (by omega) (by omega) (by simp; omega) (hb.snoc ⟨by omega, by omega⟩ ⟨c0, c1⟩) hK hK'
          · simp only [e, if_true, if_neg (show ¬ (45 : Int) = 43 by decide)]
            exact ih (i + 1 + 1) K K' _ (by omega) (by omega) (by simp; omega) (hb.snoc ⟨c0, c1⟩ ⟨by omega, by omega⟩) hK hK'
          · simp only [e, if_true, if_neg (show ¬ (42 : Int) = 43 by decide), if_neg (show ¬ (42 : Int) = 45 by decide)]
            exact ih (i + 1 + 1) K K' _ (by omega) (by omega) (by simp; omega) (hb.snoc ⟨c0, c1⟩ hsv) hK hK'
      · have n1 : ¬ bt s (i : Int) = 43 := fun e => hk3 (Or.inl e)
        have n2 : ¬ bt s (i : Int) = 45 := fun e => hk3 (Or.inr (Or.inl e))
        have n3 : ¬ bt s (i : Int) = 42 := fun e => hk3 (Or.inr (Or.inr e))
        have n4 : (bt s (i : Int) == 42) = false := beq_eq_false_iff_ne.2 n3
        have n5 : ¬ (i : Int) = (s.size : Int) := by omega
        rw [if_neg n1, if_neg n2, if_neg n1, if_neg n2, n4, spec_ParseCandidate.j2, if_neg Bool.false_ne_true, impl_ParseCandidate.j1, if_neg Bool.false_ne_true, impl_ParseCandidate.j2]
        simp only [if_neg n5, if_pos g1, if_pos g2, if_pos ga, if_neg n1, if_neg n2, if_neg n3]
        rw [nx (i := i) (by omega)]
        exact ih (i + 1) K K' _ (by omega) (by omega) (by simp; omega) (hb.snoc ⟨b0, b1⟩ ⟨b0, b1⟩) hK hK'
    · exact fin i _ _ acc (by omega) h1 ha hb (by omega) (by omega)
/-- Both ParseCandidate answer the same. -/
theorem parsecand (s : ByteArray) (hs : s.size ≤ 1048576) {k : Nat} (hk : 6 * s.size + 30 < k) : ∃ r, spec_ParseCandidate.f k s = some r ∧ impl_ParseCandidate.f k s = some r ∧ r.1.length ≤ s.size := by
  unfold spec_ParseCandidate.f impl_ParseCandidate.f
  by_cases hn : s.toList = ([110, 111, 110, 101] : List UInt8)
  · have hsz : s = ⟨#[110, 111, 110, 101]⟩ := (toList_eq2 _ _).1 (hn.trans none_list.symm)
    have h4 : s.size = 4 := by rw [hsz]; rfl
    obtain ⟨k, rfl⟩ : ∃ m, k = (m + 1) + 1 := ⟨k - 2, by omega⟩
    have hne : (s.toList != ([110, 111, 110, 101] : List UInt8)) = false := by simp [hn]
    rw [if_pos hn, spec_ParseCandidate.l0, if_pos (by omega), hne, spec_ParseCandidate.j1, if_neg (by simp), spec_FormatCandidate_f [] (by simp) (fun x hx => by simp at hx) (by simp; omega)]
    simp only [Option.bind_some]
    rw [fmtc_nil, none_list, if_pos hn.symm, if_neg (fun e => by have := (toList_nil_iff s).1 e; omega)]
    exact ⟨_, rfl, rfl, by simp⟩
  · rw [if_neg hn]
    obtain ⟨K, rfl⟩ : ∃ K, k = K + 3 * s.size := ⟨k - 3 * s.size, by omega⟩
    exact parse_l0 s hs hn s.size 0 K K [] (by omega) (by omega) (by simp) (fun x hx => by simp at hx) (by omega) (by omega)

/-! eqlinks -/
theorem eqLinkS_l0 (l : List S83) (hl : l.length ≤ 1048576) (d : Nat) : ∀ (i k : Nat), i + d = l.length → d < k → laws_eqLinkS.l0 k l l (i : Int) = some true := by
  induction d with
  | zero =>
    intro i k h hk
    obtain ⟨k, rfl⟩ : ∃ m, k = m + 1 := ⟨k - 1, by omega⟩
    simp only [laws_eqLinkS.l0]; rw [if_neg (by omega)]
  | succ d ih =>
    intro i k h hk
    obtain ⟨k, rfl⟩ : ∃ m, k = m + 1 := ⟨k - 1, by omega⟩
    simp only [laws_eqLinkS.l0]
    rw [if_pos (by omega), if_pos (by omega), if_pos (by omega), nx (by omega)]
    simp only [laws_eqLink.f, if_true, Option.bind_some]
    exact ih (i + 1) k (by omega) (by omega)
theorem eqLinkS_refl (l : List S83) (hl : l.length ≤ 1048576) {k : Nat} (hk : l.length < k) : laws_eqLinkS.f k l l = some true := by
  unfold laws_eqLinkS.f; rw [if_pos rfl]; exact eqLinkS_l0 l hl l.length 0 k (by omega) (by omega)
theorem eqCandidate_refl (l : List S83) (hl : l.length ≤ 1048576) {k : Nat} (hk : l.length < k) : laws_eqCandidate.f k l l = some true := by
  unfold laws_eqCandidate.f; rw [eqLinkS_refl l hl hk]; rfl

/-! marklink -/
/-- The marks of links. -/
def mL (i : Nat) : S83 := ⟨((1 + 2 * i : Nat) : Int) % 256, ((2 + 2 * i : Nat) : Int) % 256⟩
def mLn (i : Nat) : Int := ((1 + 2 * i : Nat) : Int)
theorem mLn_w (i : Nat) (h : i ≤ 1048576) : wrap64 (mLn i + 1) = ((2 + 2 * i : Nat) : Int) ∧ wrap64 (((2 + 2 * i : Nat) : Int) + 1) = mLn (i + 1) := by
  unfold mLn; constructor <;> rw [w64 (by omega) (by omega)] <;> omega
theorem rd_set (l : List S83) (i : Nat) (x : S83) (h : i < l.length) : rd_T83 (l.set i x) (i : Int) = x := by
  have := getD_nat (l.set i x) z83 i (by rw [List.length_set]; exact h)
  rw [List.getElem_set_self] at this; exact this
theorem markLinkS_l0 (l : List S83) (hl : l.length ≤ 1048576) (d : Nat) : ∀ (i k : Nat), i + d = l.length → d < k →
    laws_markLinkS.l0 k ((tab mL l.length).take i ++ l.drop i) (mLn i) (i : Int) = some (mLn l.length, tab mL l.length) := by
  induction d with
  | zero =>
    intro i k h hk
    obtain ⟨k, rfl⟩ : ∃ m, k = m + 1 := ⟨k - 1, by omega⟩
    simp only [laws_markLinkS.l0]
    rw [mix_length _ _ _ (tab_length _ _), if_neg (by omega), List.take_of_length_le (by rw [tab_length]; omega), List.drop_of_length_le (by omega), show i = l.length from by omega]
    simp
  | succ d ih =>
    intro i k h hk
    obtain ⟨k, rfl⟩ : ∃ m, k = m + 1 := ⟨k - 1, by omega⟩
    obtain ⟨e1, e2⟩ := mLn_w i (by omega)
    have hlen := mix_length (tab mL l.length) l i (tab_length _ _)
    simp only [laws_markLinkS.l0]
    rw [hlen, if_pos (by omega), if_pos (by omega), e1, e2]
    simp only [Option.bind_some, Int.toNat_natCast]
    rw [rd_set _ i _ (by rw [hlen]; omega), List.set_set, nx (by omega)]
    have e3 : (⟨mLn i % 256, ((2 + 2 * i : Nat) : Int) % 256⟩ : S83) = mL i := rfl
    rw [e3, set_mix (tab mL l.length) l i (mL i) (by rw [tab_length]; omega) (tab_length _ _) (tab_get _ _ _ _)]
    exact ih (i + 1) k (by omega) (by omega)
theorem markLinkS_f (l : List S83) (hl : l.length ≤ 1048576) {k : Nat} (hk : l.length < k) : laws_markLinkS.f k l 1 = some (mLn l.length, tab mL l.length) := by
  have := markLinkS_l0 l hl l.length 0 k (by omega) (by omega)
  rw [List.take_zero, List.drop_zero, List.nil_append] at this
  exact this
theorem heldLinkS_l0 (n : Nat) (hl : n ≤ 1048576) (d : Nat) : ∀ (i k : Nat), i + d = n → d < k → laws_heldLinkS.l0 k (tab mL n) (mLn i) (i : Int) = some (mLn n) := by
  induction d with
  | zero =>
    intro i k h hk
    obtain ⟨k, rfl⟩ : ∃ m, k = m + 1 := ⟨k - 1, by omega⟩
    simp only [laws_heldLinkS.l0]
    rw [tab_length, if_neg (by omega), show i = n from by omega]
  | succ d ih =>
    intro i k h hk
    obtain ⟨k, rfl⟩ : ∃ m, k = m + 1 := ⟨k - 1, by omega⟩
    obtain ⟨e1, e2⟩ := mLn_w i (by omega)
    have e3 : rd_T83 (tab mL n) (i : Int) = mL i := tab_getD mL z83 n i (by omega)
    simp only [laws_heldLinkS.l0]
    rw [tab_length, if_pos (by omega), if_pos (by omega), e3, e1, e2, if_pos (show (mL i).f0 = mLn i % 256 from rfl), if_pos (show (mL i).f1 = ((2 + 2 * i : Nat) : Int) % 256 from rfl), nx (by omega)]
    exact ih (i + 1) k (by omega) (by omega)
theorem heldLinkS_f (n : Nat) (hl : n ≤ 1048576) {k : Nat} (hk : n < k) : laws_heldLinkS.f k (tab mL n) 1 = some (mLn n) :=
  heldLinkS_l0 n hl n 0 k (by omega) (by omega)
theorem mLn_pos (n : Nat) : ¬ mLn n < 0 := by unfold mLn; omega
theorem markCandidate_f (l : List S83) (hl : l.length ≤ 1048576) {k : Nat} (hk : l.length < k) : laws_markCandidate.f k l 1 = some (mLn l.length, tab mL l.length) := by
  unfold laws_markCandidate.f; rw [markLinkS_f l hl hk]; rfl
theorem heldCandidate_f (n : Nat) (hl : n ≤ 1048576) {k : Nat} (hk : n < k) : laws_heldCandidate.f k (tab mL n) 1 = some (mLn n) := by
  unfold laws_heldCandidate.f; rw [heldLinkS_f n hl hk]; simp only [Option.bind_some]; rw [if_neg (mLn_pos n)]

theorem FnExactParseCandidate : laws_FnExactParseCandidate.Pure := by
  intro s hs
  refine ⟨(6 * s.size + 40 + 1) + 1, ?_⟩
  unfold laws_FnExactParseCandidate.f
  by_cases hn : (s.size : Int) > 1048576
  · rw [if_pos hn]
  · obtain ⟨r, e1, e2, hl⟩ := parsecand s (by omega) (k := (6 * s.size + 40 + 1) + 1) (by omega)
    have e3 : impl_ParseCandidate.f (6 * s.size + 40 + 1) s = some r := by
      obtain ⟨r', _, e3, _⟩ := parsecand s (by omega) (k := 6 * s.size + 40 + 1) (by omega)
      have := at_rounds (g := fun k => impl_ParseCandidate.f k s) (fun k => impl_ParseCandidate.mono s k) (Nat.le_succ (6 * s.size + 40 + 1)) e3
      rw [show impl_ParseCandidate.f (6 * s.size + 40 + 1).succ s = some r from e2] at this
      rw [e3]; exact this.symm
    have hne : (r.2 != r.2) = false := by simp
    rw [if_neg hn, e1, e2]; simp only [Option.bind_some]
    rw [eqCandidate_refl _ (by omega) (by omega)]; simp only [Option.bind_some, if_true]
    rw [laws_FnExactParseCandidate.j0, hne, if_neg (by simp), markCandidate_f _ (by omega) (by omega)]; simp only [Option.bind_some]
    rw [heldCandidate_f _ (by omega) (by omega)]; simp only [Option.bind_some, if_true]
    rw [if_neg (mLn_pos _), e3]; simp only [Option.bind_some]
    rw [eqCandidate_refl _ (by omega) (by omega)]; simp only [Option.bind_some, if_true]
    rw [laws_FnExactParseCandidate.j1, hne, if_neg (by simp), heldCandidate_f _ (by omega) (by omega)]; simp only [Option.bind_some, if_true]
    rw [if_neg (mLn_pos _)]

end Go.Proofs.Ytomkfofflpdknaa.Pure
