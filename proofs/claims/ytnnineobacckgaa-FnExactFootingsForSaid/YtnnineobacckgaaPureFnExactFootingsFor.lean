/- For every list of whole numbers, FootingsFor of the program and of the reference hand back the same footings; the argument stays as it was, and what is handed back is the caller's own. -/
import Derived.Test.YtnnineobacckgaaHandFnExactFootingsFor
import Derived.Test.YtnnineobacckgaaBase
import Derived.KernelRfl
namespace Go.Proofs.Ytnnineobacckgaa.Pure
open Go.RowKit Go.Proofs.Ytnnineobacckgaa.PFnExactFootingsFor Go.Proofs.YtnnineobacckgaaW.PrintWords Go.Proofs.YtnnineobacckgaaW.PrintLast Go.Proofs.YtnnineobacckgaaW.PrintMore Go.Proofs.Ytnnineobacckgaa.Base
set_option linter.unusedVariables false
set_option linter.unusedSimpArgs false

/-! markonly -/
theorem eqIntS_l0 (l : List Int) (hl : l.length ≤ 1048576) (d : Nat) : ∀ (i k : Nat), i + d = l.length → d < k → laws_eqIntS.l0 k l l (i : Int) = some true := by
  induction d with
  | zero =>
    intro i k h hk
    obtain ⟨k, rfl⟩ : ∃ m, k = m + 1 := ⟨k - 1, by omega⟩
    simp only [laws_eqIntS.l0]; rw [if_neg (by omega)]
  | succ d ih =>
    intro i k h hk
    obtain ⟨k, rfl⟩ : ∃ m, k = m + 1 := ⟨k - 1, by omega⟩
    simp only [laws_eqIntS.l0]
    rw [if_pos (by omega), if_pos (by omega), if_pos (by omega), nx (by omega), if_pos trivial]
    exact ih (i + 1) k (by omega) (by omega)
theorem eqIntS_refl (l : List Int) (hl : l.length ≤ 1048576) {k : Nat} (hk : l.length < k) : laws_eqIntS.f k l l = some true := by
  unfold laws_eqIntS.f; rw [if_pos rfl]; exact eqIntS_l0 l hl l.length 0 k (by omega) (by omega)
/-- The marks of whole numbers. -/
def mI (i : Nat) : Int := ((1 + i : Nat) : Int)
theorem markIntS_l0 (l : List Int) (hl : l.length ≤ 1048576) (d : Nat) : ∀ (i k : Nat), i + d = l.length → d < k →
    laws_markIntS.l0 k ((tab mI l.length).take i ++ l.drop i) (mI i) (i : Int) = some (mI l.length, tab mI l.length) := by
  induction d with
  | zero =>
    intro i k h hk
    obtain ⟨k, rfl⟩ : ∃ m, k = m + 1 := ⟨k - 1, by omega⟩
    simp only [laws_markIntS.l0]
    rw [mix_length _ _ _ (tab_length _ _), if_neg (by omega), List.take_of_length_le (by rw [tab_length]; omega), List.drop_of_length_le (by omega), show i = l.length from by omega]
    simp
  | succ d ih =>
    intro i k h hk
    obtain ⟨k, rfl⟩ : ∃ m, k = m + 1 := ⟨k - 1, by omega⟩
    have e : wrap64 (mI i + 1) = mI (i + 1) := by unfold mI; rw [w64 (by omega) (by omega)]; omega
    simp only [laws_markIntS.l0]
    rw [mix_length _ _ _ (tab_length _ _), if_pos (by omega), if_pos (by omega), Int.toNat_natCast, nx (by omega), e, set_mix (tab mI l.length) l i (mI i) (by rw [tab_length]; omega) (tab_length _ _) (tab_get _ _ _ _)]
    exact ih (i + 1) k (by omega) (by omega)
theorem markIntS_f (l : List Int) (hl : l.length ≤ 1048576) {k : Nat} (hk : l.length < k) : laws_markIntS.f k l 1 = some (mI l.length, tab mI l.length) := by
  have := markIntS_l0 l hl l.length 0 k (by omega) (by omega)
  rw [List.take_zero, List.drop_zero, List.nil_append] at this
  exact this

def GF (n : Int) : List S44 := impl_FootingsOf.restF n 10 0 []
def st (c : S44) : List Int := (impl_StressesOf.f 30 c.f0 c.f1 c.f2).getD []
def okS (c : S44) : Bool := decide (spec_StressesOf.f 30 c.f0 c.f1 c.f2 = some (st c)) && decide (impl_StressesOf.f 30 c.f0 c.f1 c.f2 = some (st c)) && decide ((st c).length ≤ 10)
def RF (G : List S44) (l : List Int) : List S44 := G.filter fun c => decide (st c = l)
def goodB (R : List S44) : Bool := match markAllF 400 R 1 with
  | some (m, R') => decide (0 ≤ m) && decide (laws_heldFootingS.f 400 R' 1 = some m) && decide (laws_eqFootingS.f 400 R R = some true)
  | none => false
def fits (n : Int) : Bool := decide ((GF n).length ≤ 100) && (GF n).all okS && (GF n).all fun c => goodB (RF (GF n) (st c))
theorem F1s : spec_FootingsOf.f 400 1 = some (GF 1) := by kernel_rfl
theorem F2s : spec_FootingsOf.f 400 2 = some (GF 2) := by kernel_rfl
theorem F3s : spec_FootingsOf.f 400 3 = some (GF 3) := by kernel_rfl
theorem F4s : spec_FootingsOf.f 400 4 = some (GF 4) := by kernel_rfl
set_option maxRecDepth 1000000 in
theorem fits1 : fits 1 = true := by kernel_rfl
set_option maxRecDepth 1000000 in
theorem fits2 : fits 2 = true := by kernel_rfl
set_option maxRecDepth 1000000 in
theorem fits3 : fits 3 = true := by kernel_rfl
set_option maxRecDepth 1000000 in
theorem fits4 : fits 4 = true := by kernel_rfl
theorem good_of {R : List S44} (h : goodB R = true) : ∃ m R', markAllF 400 R 1 = some (m, R') ∧ 0 ≤ m ∧ laws_heldFootingS.f 400 R' 1 = some m ∧ laws_eqFootingS.f 400 R R = some true := by
  unfold goodB at h
  cases e : markAllF 400 R 1 with
  | none => rw [e] at h; cases h
  | some p =>
    obtain ⟨m, R'⟩ := p
    rw [e] at h
    simp only [Bool.and_eq_true, decide_eq_true_eq] at h
    exact ⟨m, R', rfl, h.1.1, h.1.2, h.2⟩
theorem good_nil : goodB [] = true := by decide +kernel
theorem up {α : Type} {g : Nat → Option α} (hm : ∀ k, LeO (g k) (g (k + 1))) {a b : Nat} (h : a ≤ b) {r : α} (e : g a = some r) : g b = some r := by
  induction h with
  | refl => exact e
  | step _ ih => exact hm _ _ ih
theorem same_l0 (t l : List Int) (hl : t.length = l.length) (hb : t.length ≤ 1048576) (d : Nat) : ∀ (i k : Nat), i + d = t.length → d < k →
    spec_l5Same.l0 k t l (i : Int) = some (decide (t.drop i = l.drop i)) ∧ slices_Equal_int_int.l0 k t l (t.length : Int) (i : Int) = some (decide (t.drop i = l.drop i)) := by
  induction d with
  | zero =>
    intro i k h hk
    obtain ⟨k, rfl⟩ : ∃ m, k = m + 1 := ⟨k - 1, by omega⟩
    have h1 : ¬ (i : Int) < (t.length : Int) := by omega
    simp only [spec_l5Same.l0, slices_Equal_int_int.l0, if_neg h1]
    rw [List.drop_of_length_le (by omega), List.drop_of_length_le (by omega)]
    simp
  | succ d ih =>
    intro i k h hk
    obtain ⟨k, rfl⟩ : ∃ m, k = m + 1 := ⟨k - 1, by omega⟩
    have h1 : (i : Int) < (t.length : Int) := by omega
    have h2 : (i : Int) < (l.length : Int) := by omega
    have h3 : 0 ≤ (i : Int) := by omega
    have ht : rd t (i : Int) = t[i]'(by omega) := getD_nat t 0 i (by omega)
    have hl2 : rd l (i : Int) = l[i]'(by omega) := getD_nat l 0 i (by omega)
    obtain ⟨e1, e2⟩ := ih (i + 1) k (by omega) (by omega)
    have d1 : t.drop i = t[i]'(by omega) :: t.drop (i + 1) := List.drop_eq_getElem_cons (by omega)
    have d2 : l.drop i = l[i]'(by omega) :: l.drop (i + 1) := List.drop_eq_getElem_cons (by omega)
    simp only [spec_l5Same.l0, slices_Equal_int_int.l0, if_pos h1, if_pos h2, if_pos h3, ht, hl2]
    rw [d1, d2]
    by_cases he : t[i]'(by omega) = l[i]'(by omega)
    · rw [if_pos he, if_pos he, nx (i := i) (by omega), e1, e2]; exact ⟨by congr 1; simp only [List.cons.injEq, he, true_and], by congr 1; simp only [List.cons.injEq, he, true_and]⟩
    · rw [if_neg he, if_neg he]; have hn : decide (t[i]'(by omega) :: t.drop (i + 1) = l[i]'(by omega) :: l.drop (i + 1)) = false := decide_eq_false (fun e => he (List.cons.inj e).1); rw [hn]; exact ⟨rfl, rfl⟩
theorem same_f (t l : List Int) (hb : t.length ≤ 1048576) {k : Nat} (hk : t.length < k) : spec_l5Same.f k t l = some (decide (t = l)) ∧ slices_Equal_int_int.f k t l = some (decide (t = l)) := by
  unfold spec_l5Same.f slices_Equal_int_int.f
  by_cases h : t.length = l.length
  · rw [if_pos (by omega), if_pos (by omega)]
    have := same_l0 t l h hb t.length 0 k (by omega) hk
    simpa using this
  · rw [if_neg (by omega), if_neg (by omega)]
    have : t ≠ l := fun e => h (by rw [e])
    simp [this]
theorem ffL_RF (l : List Int) {k : Nat} (hk : 30 ≤ k) : ∀ G : List S44, G.all okS = true → ffL k l G = some (RF G l)
  | [], _ => rfl
  | c :: cs, h => by
    rw [List.all_cons, Bool.and_eq_true] at h
    have h0 := h.1
    simp only [okS, Bool.and_eq_true, decide_eq_true_eq] at h0
    rw [ffL, up (g := fun k => impl_StressesOf.f k c.f0 c.f1 c.f2) (fun k => impl_StressesOf.mono c.f0 c.f1 c.f2 k) hk h0.1.2, Option.bind_some, (same_f (st c) l (by omega) (by omega)).2, Option.bind_some, ffL_RF l hk cs h.2, Option.bind_some]
    unfold RF
    rw [List.filter_cons]
theorem spec_RF (l : List Int) : ∀ (cs done outs : List S44) (k : Nat), cs.all okS = true → cs.length + 30 < k → done.length + cs.length ≤ 1000 → outs.length + cs.length ≤ 1000 →
    spec_FootingsFor.l0 k l outs (done ++ cs) (done.length : Int) = some (outs ++ RF cs l)
  | [], done, outs, k, _, hk, _, _ => by
    obtain ⟨k, rfl⟩ : ∃ m, k = m + 1 := ⟨k - 1, by omega⟩
    simp only [spec_FootingsFor.l0]
    rw [if_neg (by rw [List.append_nil]; omega)]
    simp [RF]
  | c :: cs, done, outs, k, h, hk, hd, ho => by
    rw [List.length_cons] at hk hd ho
    obtain ⟨k, rfl⟩ : ∃ m, k = m + 1 := ⟨k - 1, by omega⟩
    rw [List.all_cons, Bool.and_eq_true] at h
    have h0 := h.1
    simp only [okS, Bool.and_eq_true, decide_eq_true_eq] at h0
    have e : rd_T44 (done ++ c :: cs) (done.length : Int) = c := get_mid _
    have e2 : done ++ c :: cs = (done ++ [c]) ++ cs := by simp
    have e3 : ((done.length + 1 : Nat) : Int) = ((done ++ [c]).length : Int) := by simp
    simp only [spec_FootingsFor.l0]
    rw [if_pos (by rw [List.length_append, List.length_cons]; omega), if_pos (by omega), e, up (g := fun k => spec_StressesOf.f k c.f0 c.f1 c.f2) (fun k => spec_StressesOf.mono c.f0 c.f1 c.f2 k) (show 30 ≤ k by omega) h0.1.1, Option.bind_some, (same_f (st c) l (by omega) (show (st c).length < k by omega)).1, Option.bind_some, nx (i := done.length) (by omega), e3, e2]
    unfold RF
    rw [List.filter_cons]
    by_cases hc : st c = l
    · rw [if_pos (by simpa using hc), if_pos (by omega), if_pos (by simpa using hc), spec_RF l cs (done ++ [c]) (outs ++ [c]) k h.2 (by omega) (by rw [List.length_append, List.length_singleton]; omega) (by rw [List.length_append, List.length_singleton]; omega)]
      simp [RF]
    · rw [if_neg (by simpa using hc), if_neg (by simpa using hc), spec_RF l cs (done ++ [c]) outs k h.2 (by omega) (by rw [List.length_append, List.length_singleton]; omega) (by omega)]
      rfl
theorem toIntS_l0 (l : List Int) (hl : l.length ≤ 1048576) (d : Nat) : ∀ (i k : Nat), i + d = l.length → d < k →
    laws_toIntS.l0 k l (l.take i ++ List.replicate (l.length - i) 0) (i : Int) = some l := by
  induction d with
  | zero =>
    intro i k h hk
    obtain ⟨k, rfl⟩ : ∃ m, k = m + 1 := ⟨k - 1, by omega⟩
    simp only [laws_toIntS.l0]
    rw [if_neg (by omega), List.take_of_length_le (by omega), show l.length - i = 0 by omega]
    simp
  | succ d ih =>
    intro i k h hk
    obtain ⟨k, rfl⟩ : ∃ m, k = m + 1 := ⟨k - 1, by omega⟩
    have e : (l.take i ++ List.replicate (l.length - i) (0 : Int)).length = l.length := by rw [List.length_append, List.length_take, List.length_replicate]; omega
    simp only [laws_toIntS.l0]
    rw [if_pos (by omega), if_pos (by omega), e, if_pos (by omega), nx (i := i) (by omega), rd, getD_nat l 0 i (by omega), Int.toNat_natCast, set_fill l 0 i (by omega)]
    exact ih (i + 1) k (by omega) (by omega)
theorem toIntS_f (l : List Int) (hl : l.length ≤ 1048576) {k : Nat} (hk : l.length < k) : laws_toIntS.f k l = some l := by
  unfold laws_toIntS.f
  rw [if_pos (by omega), if_pos (by omega)]
  have := toIntS_l0 l hl l.length 0 k (by omega) hk
  rw [List.take_zero, List.nil_append, Nat.sub_zero] at this
  rw [Int.toNat_natCast]
  exact this
theorem mI_ok (n : Nat) : 0 ≤ mI n := by unfold mI; omega
theorem fit_of (l : List Int) (n : Int) (hn : (l.length : Int) = n) (h4 : 1 ≤ n ∧ n ≤ 4) (hs : spec_FootingsOf.f 400 n = some (GF n)) (h : fits n = true) : ∃ (G R R' : List S44) (m m0 : Int) (x' : List Int), laws_toIntS.f 400 l = some l ∧ spec_FootingsFor.f 400 l = some R ∧ impl_FootingsOf.f (l.length : Int) = some G ∧ ffL 400 l G = some R ∧ laws_eqFootingS.f 400 R R = some true ∧ laws_eqIntS.f 400 l l = some true ∧ laws_markIntS.f 400 l 1 = some (m0, x') ∧ markAllF 400 R 1 = some (m, R') ∧ laws_heldFootingS.f 400 R' 1 = some m ∧ 0 ≤ m ∧ 0 ≤ m0 ∧ G.length ≤ 1000000 ∧ R.length ≤ 1000000 := by
  simp only [fits, Bool.and_eq_true, decide_eq_true_eq] at h
  obtain ⟨⟨hl, hok⟩, hg⟩ := h
  have hR : goodB (RF (GF n) l) = true := by
    by_cases hx : ∃ c ∈ GF n, st c = l
    · obtain ⟨c, hc, rfl⟩ := hx
      exact List.all_eq_true.1 hg c hc
    · rw [show RF (GF n) l = [] from List.filter_eq_nil_iff.2 (fun c hc hd => hx ⟨c, hc, of_decide_eq_true hd⟩)]
      exact good_nil
  obtain ⟨m, R', g1, g2, g3, g4⟩ := good_of hR
  have hi : impl_FootingsOf.f (l.length : Int) = some (GF n) := by rw [hn]; unfold impl_FootingsOf.f impl_FootingsOf.implF; rw [if_pos h4]; rfl
  have hsp : spec_FootingsFor.f 400 l = some (RF (GF n) l) := by
    unfold spec_FootingsFor.f
    rw [hn, hs, Option.bind_some]
    have := spec_RF l (GF n) [] [] 400 hok (by omega) (by simp; omega) (by simp; omega)
    simpa using this
  have hle : (RF (GF n) l).length ≤ 1000000 := Nat.le_trans (List.length_filter_le _ _) (by omega)
  exact ⟨GF n, RF (GF n) l, R', m, _, _, toIntS_f l (by omega) (by omega), hsp, hi, ffL_RF l (by omega) (GF n) hok, g4, eqIntS_refl l (by omega) (by omega), markIntS_f l (by omega) (by omega), g1, g3, g2, mI_ok _, by omega, hle⟩
theorem FnExactFootingsFor : laws_FnExactFootingsFor.Pure := by
  intro l _ hl
  by_cases h : 1 ≤ (l.length : Int) ∧ (l.length : Int) ≤ 4
  · have hn : (l.length : Int) = 1 ∨ (l.length : Int) = 2 ∨ (l.length : Int) = 3 ∨ (l.length : Int) = 4 := by omega
    rcases hn with e | e | e | e
    · exact ⟨400, fit_of l 1 e (by omega) F1s fits1⟩
    · exact ⟨400, fit_of l 2 e (by omega) F2s fits2⟩
    · exact ⟨400, fit_of l 3 e (by omega) F3s fits3⟩
    · exact ⟨400, fit_of l 4 e (by omega) F4s fits4⟩
  · have e : impl_FootingsOf.f (l.length : Int) = some [] := by unfold impl_FootingsOf.f impl_FootingsOf.implF; rw [if_neg h]
    have s : ∀ k, spec_FootingsOf.f (k + 1) (l.length : Int) = some [] := by
      intro k
      unfold spec_FootingsOf.f spec_l1In.f
      simp only [Option.bind_some]
      by_cases h1 : (l.length : Int) ≥ 1
      · rw [if_pos h1]
        simp only [Option.bind_some]
        rw [if_neg (by simp; omega)]
      · rw [if_neg h1]
        simp only [Option.bind_some]
        rw [if_neg (by decide)]
    have s2 : spec_FootingsFor.f (l.length + 1) l = some [] := by
      unfold spec_FootingsFor.f
      rw [s, Option.bind_some]
      simp [spec_FootingsFor.l0]
    refine ⟨l.length + 1, [], [], [], 1, _, _, toIntS_f l hl (by omega), s2, e, rfl, ?_, eqIntS_refl l hl (by omega), markIntS_f l hl (by omega), rfl, ?_, by decide, mI_ok _, by decide, by decide⟩
    · simp [laws_eqFootingS.f, laws_eqFootingS.l0]
    · simp [laws_heldFootingS.f, laws_heldFootingS.l0]

end Go.Proofs.Ytnnineobacckgaa.Pure
