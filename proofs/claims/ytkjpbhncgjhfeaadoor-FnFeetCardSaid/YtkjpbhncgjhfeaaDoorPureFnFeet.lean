/- For every drawing list: the footings of stresses are those of all that have them, the two programs' footings, marks, texts and stresses are the same, and the marks count all syllables. -/
import Derived.Test.YtkjpbhncgjhfeaaDoorPFnFeetx15
import Derived.Test.YtkjpbhncgjhfeaaDoorBase
import Derived.KernelRfl
namespace Go.Proofs.YtkjpbhncgjhfeaaDoor.Pure
open Go.RowKit Go.Proofs.YtkjpbhncgjhfeaaDoor.PFnFeet Go.Proofs.YtkjpbhncgjhfeaaDoorW.PrintWords Go.Proofs.YtkjpbhncgjhfeaaDoorW.PrintLast Go.Proofs.YtkjpbhncgjhfeaaDoorW.PrintMore Go.Proofs.YtkjpbhncgjhfeaaDoor.Base
set_option linter.unusedVariables false
set_option linter.unusedSimpArgs false
theorem and255 (x : Int) : 0 ≤ Go.bits .and .i64 x 255 ∧ Go.bits .and .i64 x 255 ≤ 255 := by
  have e : Go.bits .and .i64 x 255 = IntKind.i64.wrap (((BitVec.ofInt 64 x) &&& (BitVec.ofInt 64 255)).toNat : Int) := rfl
  have h : ((BitVec.ofInt 64 x) &&& (BitVec.ofInt 64 255)).toNat ≤ 255 := by
    rw [BitVec.toNat_and]
    exact Nat.le_trans Nat.and_le_right (by decide)
  rw [e, Go.IntKind.wrap_i64]
  omega
def Cur (l : List Int) (i : Int) : Prop := 0 ≤ i ∧ i ≤ (l.length : Int)
def Code (l : List Int) : Prop := l.length ≤ 1048576 ∧ ∀ x ∈ l, 0 ≤ x ∧ x ≤ 255
theorem new_l0 (l : List Int) (d : Nat) : ∀ (i K : Nat) (h : Int), i + d = 4000 → ∃ h', spec_l1New.l0 (K + d + 1) l h (i : Int) = some (l, 0, h') := by
  induction d with
  | zero =>
    intro i K h hi
    simp only [spec_l1New.l0]
    by_cases h1 : (i : Int) < (l.length : Int)
    · rw [if_pos h1, if_neg (by omega)]; exact ⟨_, rfl⟩
    · rw [if_neg h1]; exact ⟨_, rfl⟩
  | succ d ih =>
    intro i K h hi
    rw [show K + (d + 1) + 1 = (K + d + 1) + 1 from by omega, spec_l1New.l0]
    by_cases h1 : (i : Int) < (l.length : Int)
    · rw [if_pos h1, if_pos (by omega), if_pos (by omega), nx (i := i) (by omega)]
      exact ih (i + 1) K _ (by omega)
    · rw [if_neg h1]; exact ⟨_, rfl⟩
theorem l1New_f (l : List Int) {k : Nat} (hk : 4001 ≤ k) : ∃ h, spec_l1New.f k l = some (l, 0, h) := by
  unfold spec_l1New.f
  obtain ⟨K, rfl⟩ : ∃ K, k = K + 4000 + 1 := ⟨k - 4001, by omega⟩
  exact new_l0 l 4000 0 K _ (by omega)
theorem l1Byte_f (l : List Int) (hl : l.length ≤ 1048576) (i h : Int) (hc : Cur l i) : ∃ x i' h', spec_l1Byte.f l i h = some (x, i', h') ∧ 0 ≤ x ∧ x ≤ 255 ∧ Cur l i' := by
  obtain ⟨c0, c1⟩ := hc
  unfold spec_l1Byte.f
  by_cases h1 : i < (l.length : Int)
  · rw [if_pos h1, if_pos c0]
    refine ⟨_, _, _, rfl, (and255 _).1, (and255 _).2, ?_, ?_⟩
    · rw [w64 (by omega) (by omega)]; omega
    · rw [w64 (by omega) (by omega)]; omega
  · rw [if_neg h1]
    exact ⟨_, _, _, rfl, (and255 _).1, (and255 _).2, c0, c1⟩
theorem l1Below_f (l : List Int) (hl : l.length ≤ 1048576) (i h : Int) (hc : Cur l i) (n : Int) (h0 : 0 < n) (h1 : n ≤ 256) :
    ∃ x i' h', spec_l1Below.f l i h n = some (x, i', h') ∧ 0 ≤ x ∧ x < n ∧ Cur l i' := by
  unfold spec_l1Below.f
  obtain ⟨x, i', h', e, x0, x1, hc'⟩ := l1Byte_f l hl i h hc
  rw [if_neg (by omega), if_pos h1, e]
  simp only [Option.bind_some]
  rw [if_neg (by omega), Int.tmod_eq_emod_of_nonneg x0]
  exact ⟨_, _, _, rfl, Int.emod_nonneg _ (by omega), Int.emod_lt_of_pos _ h0, hc'⟩
theorem l1Once_f (l : List Int) (hl : l.length ≤ 1048576) (i h : Int) (hc : Cur l i) (n : Int) (h0 : 0 < n) (h1 : n ≤ 256) :
    ∃ b i' h', spec_l1Once.f l i h n = some (b, i', h') ∧ Cur l i' := by
  unfold spec_l1Once.f
  obtain ⟨x, i', h', e, _, _, hc'⟩ := l1Below_f l hl i h hc n h0 h1
  rw [e]
  exact ⟨_, _, _, rfl, hc'⟩
theorem l1PickInt_f (l : List Int) (hl : l.length ≤ 1048576) (i h : Int) (hc : Cur l i) (L : List Int) (h0 : 0 < L.length) (h1 : L.length ≤ 256) :
    ∃ x i' h', spec_l1PickInt.f l i h L = some (x, i', h') ∧ x ∈ L ∧ Cur l i' := by
  unfold spec_l1PickInt.f
  obtain ⟨j, i1, g1, e1, a0, a1, hc1⟩ := l1Below_f l hl i h hc (L.length : Int) (by omega) (by omega)
  rw [e1]
  simp only [Option.bind_some]
  rw [if_pos a0, if_pos a1]
  refine ⟨_, _, _, rfl, ?_, hc1⟩
  obtain ⟨m, rfl⟩ : ∃ m : Nat, j = m := ⟨j.toNat, by omega⟩
  have hm : m < L.length := by omega
  have e : rd L (m : Int) = L[m] := by simp [rd, hm]
  rw [e]
  exact List.getElem_mem hm
theorem eqfooting_l0 (a b : List S59) (sa ma sb mb : Int) (hl : a.length ≤ 1048576) (hab : a.length = b.length) (d : Nat) : ∀ (i k : Nat), i + d = a.length → d < k →
    ∃ r, spec_EqualFootings.l0 k (i : Int) sa a ma sb b mb = some r ∧ impl_Foot.l0 k a b (a.length : Int) (i : Int) = some r := by
  induction d with
  | zero =>
    intro i k h hk
    obtain ⟨k, rfl⟩ : ∃ m, k = m + 1 := ⟨k - 1, by omega⟩
    have h1 : ¬ (i : Int) < (a.length : Int) := by omega
    simp only [spec_EqualFootings.l0, impl_Foot.l0, if_neg h1]
    exact ⟨_, rfl, rfl⟩
  | succ d ih =>
    intro i k h hk
    obtain ⟨k, rfl⟩ : ∃ m, k = m + 1 := ⟨k - 1, by omega⟩
    have h1 : (i : Int) < (a.length : Int) := by omega
    have h2 : 0 ≤ (i : Int) := by omega
    have h3 : (i : Int) < (b.length : Int) := by omega
    simp only [spec_EqualFootings.l0, impl_Foot.l0, if_pos h1, if_pos h2, if_pos h3]
    rw [nx (i := i) (by omega)]
    split
    · exact ⟨_, rfl, rfl⟩
    · exact ih (i + 1) k (by omega) (by omega)
theorem eqfooting (sa : Int) (a : List S59) (ma sb : Int) (b : List S59) (mb : Int) (hl : a.length ≤ 1048576) {k : Nat} (hk : a.length + 1 < k) :
    ∃ r, spec_EqualFootings.f k sa a ma sb b mb = some r ∧ impl_EqualFootings.f k sa a ma sb b mb = some r := by
  obtain ⟨k, rfl⟩ : ∃ m, k = m + 1 := ⟨k - 1, by omega⟩
  unfold spec_EqualFootings.f impl_EqualFootings.f impl_Foot.f
  by_cases h1 : sa = sb
  · by_cases h2 : ma = mb
    · rw [if_pos h1, if_pos h2, if_pos h1, if_pos h2]
      by_cases h3 : a.length = b.length
      · have e : ((a.length : Int) != (b.length : Int)) = false := by simp [h3]
        rw [e, if_pos (by omega)]
        obtain ⟨r, e1, e2⟩ := eqfooting_l0 a b sa ma sb mb hl h3 a.length 0 k (by omega) (by omega)
        have e3 : impl_Foot.l0 (k + 1) a b (a.length : Int) 0 = some r := at_rounds (g := fun k => impl_Foot.l0 k a b (a.length : Int) 0) (fun k => by have := impl_Foot.mono_l k; exact this _ _ _ _) (Nat.le_succ k) e2
        refine ⟨r, ?_, by rw [e3]; rfl⟩
        simp only [spec_EqualFootings.j0]; rw [if_neg (by simp)]; exact e1
      · have e : ((a.length : Int) != (b.length : Int)) = true := by simp; omega
        rw [e, if_neg (by omega)]
        refine ⟨false, ?_, rfl⟩
        simp only [spec_EqualFootings.j0]; rw [if_pos trivial]
    · rw [if_pos h1, if_neg h2, if_pos h1, if_neg h2]
      refine ⟨false, ?_, rfl⟩
      simp only [spec_EqualFootings.j0]; rw [if_pos trivial]
  · rw [if_neg h1, if_neg h1]
    refine ⟨false, ?_, rfl⟩
    simp only [spec_EqualFootings.j0]; rw [if_pos trivial]
def GF (n : Int) : List S31 := impl_FootingsOf.restF n 10 0 []
def st (c : S31) : List Int := (impl_StressesOf.f 30 c.f0 c.f1 c.f2).getD []
def okS (c : S31) : Bool := decide (spec_StressesOf.f 30 c.f0 c.f1 c.f2 = some (st c)) && decide (impl_StressesOf.f 30 c.f0 c.f1 c.f2 = some (st c)) && decide ((st c).length ≤ 10)
def mods (c : S31) : List (Int × List S59 × Int) :=
  [(c.f0, c.f1, c.f2), (c.f0, c.f1, -1), (c.f0, c.f1, 4), (0, c.f1, c.f2), (6, c.f1, c.f2), (7, c.f1, c.f2), (c.f0, c.f1.set 0 ⟨(rd_T59 c.f1 0).f0, 0, (rd_T59 c.f1 0).f2⟩, c.f2), (c.f0, c.f1.set 0 ⟨(rd_T59 c.f1 0).f0, 3, (rd_T59 c.f1 0).f2⟩, c.f2), (c.f0, c.f1.set 0 ⟨(rd_T59 c.f1 0).f0, 9223372036854775807, (rd_T59 c.f1 0).f2⟩, c.f2)]
def mk (f : Int × List S59 × Int) : List Int := (impl_FootMarks.f 60 f.1 f.2.1 f.2.2).getD []
def tx (f : Int × List S59 × Int) : ByteArray := (impl_FormatFooting.f 100 f.1 f.2.1 f.2.2).getD ⟨#[]⟩
def is (f : Int × List S59 × Int) : Bool := (impl_IsFooting.f 60 f.1 f.2.1 f.2.2).getD false
def ss (f : Int × List S59 × Int) : List Int := (impl_StressesOf.f 60 f.1 f.2.1 f.2.2).getD []
def sum (t : List Int) : Int := wrap64 (wrap64 (wrap64 (rd t 0 + rd t 1) + wrap64 (2 * rd t 2)) + wrap64 (2 * rd t 3))
def chk (f : Int × List S59 × Int) : Bool :=
  decide (f.2.1.length ≤ 10) && (decide (impl_FootMarks.f 60 f.1 f.2.1 f.2.2 = some (mk f)) && (decide (spec_FootMarks.f 60 f.1 f.2.1 f.2.2 = some (mk f)) && (decide ((mk f).length ≤ 10) && (decide ((mk f).length = 0 ∨ (4 ≤ (mk f).length ∧ sum (mk f) = f.1)) &&
  (decide (impl_FormatFooting.f 100 f.1 f.2.1 f.2.2 = some (tx f)) && (decide (spec_FormatFooting.f 100 f.1 f.2.1 f.2.2 = some (tx f)) && (decide (impl_IsFooting.f 60 f.1 f.2.1 f.2.2 = some (is f)) && (decide (spec_IsFooting.f 60 f.1 f.2.1 f.2.2 = some (is f)) &&
  (decide (impl_StressesOf.f 60 f.1 f.2.1 f.2.2 = some (ss f)) && (decide (spec_StressesOf.f 60 f.1 f.2.1 f.2.2 = some (ss f)) && decide ((ss f).length ≤ 10)))))))))))
def good (c : S31) : Bool := decide (0 < c.f1.length) && (decide (impl_IsFooting.f 60 c.f0 c.f1 c.f2 = some true) && decide (spec_EqualFootings.f 60 c.f0 c.f1 c.f2 c.f0 c.f1 c.f2 = some true))
def fits (n : Int) : Bool := decide (0 < (GF n).length ∧ (GF n).length ≤ 100) && ((GF n).all okS && ((GF n).all good && (GF n).all fun c => (mods c).all chk))
set_option maxRecDepth 1000000 in
theorem F1s : spec_FootingsOf.f 400 1 = some (GF 1) := by kernel_rfl
set_option maxRecDepth 1000000 in
theorem F2s : spec_FootingsOf.f 400 2 = some (GF 2) := by kernel_rfl
set_option maxRecDepth 1000000 in
theorem F3s : spec_FootingsOf.f 400 3 = some (GF 3) := by kernel_rfl
set_option maxRecDepth 1000000 in
theorem F4s : spec_FootingsOf.f 400 4 = some (GF 4) := by kernel_rfl
set_option maxRecDepth 1000000 in
theorem fits1 : fits 1 = true := by kernel_rfl
set_option maxRecDepth 1000000 in
theorem fits2 : fits 2 = true := by kernel_rfl
set_option maxRecDepth 1000000 in
theorem fits3 : fits 3 = true := by kernel_rfl
set_option maxRecDepth 1000000 in
theorem fits4 : fits 4 = true := by kernel_rfl
theorem up {α : Type} {g : Nat → Option α} (hm : ∀ k, LeO (g k) (g (k + 1))) {a b : Nat} (h : a ≤ b) {r : α} (e : g a = some r) : g b = some r := by
  induction h with
  | refl => exact e
  | step _ ih => exact hm _ _ ih
theorem four {n : Int} (h : 1 ≤ n ∧ n ≤ 4) : spec_FootingsOf.f 400 n = some (GF n) ∧ fits n = true := by
  have hn : n = 1 ∨ n = 2 ∨ n = 3 ∨ n = 4 := by omega
  rcases hn with rfl | rfl | rfl | rfl
  · exact ⟨F1s, fits1⟩
  · exact ⟨F2s, fits2⟩
  · exact ⟨F3s, fits3⟩
  · exact ⟨F4s, fits4⟩
theorem none_of {n : Int} (h : ¬ (1 ≤ n ∧ n ≤ 4)) (k : Nat) : spec_FootingsOf.f (k + 1) n = some [] := by
  unfold spec_FootingsOf.f spec_l1In.f
  simp only [Option.bind_some]
  by_cases h1 : n ≥ 1
  · rw [if_pos h1]
    simp only [Option.bind_some]
    rw [if_neg (by simp; omega)]
  · rw [if_neg h1]
    simp only [Option.bind_some]
    rw [if_neg (by decide)]
theorem impl_of {n : Int} (h : 1 ≤ n ∧ n ≤ 4) : impl_FootingsOf.f n = some (GF n) := by unfold impl_FootingsOf.f impl_FootingsOf.implF; rw [if_pos h]; rfl
theorem impl_none {n : Int} (h : ¬ (1 ≤ n ∧ n ≤ 4)) : impl_FootingsOf.f n = some [] := by unfold impl_FootingsOf.f impl_FootingsOf.implF; rw [if_neg h]
theorem fits_len {n : Int} (h : fits n = true) : 0 < (GF n).length ∧ (GF n).length ≤ 100 := by
  simp only [fits, Bool.and_eq_true, decide_eq_true_eq] at h
  exact h.1
theorem fits_okS {n : Int} (h : fits n = true) : (GF n).all okS = true := by
  simp only [fits, Bool.and_eq_true, decide_eq_true_eq] at h
  exact h.2.1
theorem fits_good {n : Int} (h : fits n = true) : ∀ c ∈ GF n, good c = true := by
  simp only [fits, Bool.and_eq_true, decide_eq_true_eq] at h
  exact List.all_eq_true.1 h.2.2.1
theorem fits_mods {n : Int} (h : fits n = true) : ∀ c ∈ GF n, ∀ f ∈ mods c, chk f = true := by
  simp only [fits, Bool.and_eq_true, decide_eq_true_eq] at h
  intro c hc
  exact List.all_eq_true.1 (List.all_eq_true.1 h.2.2.2 c hc)
theorem same_l0 (t l : List Int) (hl : t.length = l.length) (hb : t.length ≤ 1048576) (d : Nat) : ∀ (i k : Nat), i + d = t.length → d < k →
    spec_l5Same.l0 k t l (i : Int) = some (decide (t.drop i = l.drop i)) ∧ slices_Equal_int_int.l0 k t l (t.length : Int) (i : Int) = some (decide (t.drop i = l.drop i)) ∧ laws_sameInts.l0 k t l (i : Int) = some (decide (t.drop i = l.drop i)) := by
  induction d with
  | zero =>
    intro i k h hk
    obtain ⟨k, rfl⟩ : ∃ m, k = m + 1 := ⟨k - 1, by omega⟩
    have h1 : ¬ (i : Int) < (t.length : Int) := by omega
    simp only [spec_l5Same.l0, slices_Equal_int_int.l0, laws_sameInts.l0, if_neg h1]
    rw [List.drop_of_length_le (by omega), List.drop_of_length_le (by omega)]
    simp
  | succ d ih =>
    intro i k h hk
    obtain ⟨k, rfl⟩ : ∃ m, k = m + 1 := ⟨k - 1, by omega⟩
    have h1 : (i : Int) < (t.length : Int) := by omega
    have h2 : (i : Int) < (l.length : Int) := by omega
    have h3 : 0 ≤ (i : Int) := by omega
    have ht : rd t (i : Int) = t[i]'(by omega) := getD_nat t 0 i (by omega)
    have hl2 : rd l (i : Int) = l[i]'(by omega) := getD_nat l 0 i (by omega)
    obtain ⟨e1, e2, e4⟩ := ih (i + 1) k (by omega) (by omega)
    have d1 : t.drop i = t[i]'(by omega) :: t.drop (i + 1) := List.drop_eq_getElem_cons (by omega)
    have d2 : l.drop i = l[i]'(by omega) :: l.drop (i + 1) := List.drop_eq_getElem_cons (by omega)
    simp only [spec_l5Same.l0, slices_Equal_int_int.l0, laws_sameInts.l0, if_pos h1, if_pos h2, if_pos h3, ht, hl2]
    rw [d1, d2]
    by_cases he : t[i]'(by omega) = l[i]'(by omega)
    · rw [if_pos he, if_pos he, if_pos he, nx (i := i) (by omega), e1, e2, e4]; exact ⟨by congr 1; simp only [List.cons.injEq, he, true_and], by congr 1; simp only [List.cons.injEq, he, true_and], by congr 1; simp only [List.cons.injEq, he, true_and]⟩
    · rw [if_neg he, if_neg he, if_neg he]; have hn : decide (t[i]'(by omega) :: t.drop (i + 1) = l[i]'(by omega) :: l.drop (i + 1)) = false := decide_eq_false (fun e => he (List.cons.inj e).1); rw [hn]; exact ⟨rfl, rfl, rfl⟩
theorem same_f (t l : List Int) (hb : t.length ≤ 1048576) {k : Nat} (hk : t.length < k) : spec_l5Same.f k t l = some (decide (t = l)) ∧ slices_Equal_int_int.f k t l = some (decide (t = l)) ∧ laws_sameInts.f k t l = some (decide (t = l)) := by
  unfold spec_l5Same.f slices_Equal_int_int.f laws_sameInts.f
  by_cases h : t.length = l.length
  · rw [if_pos (by omega), if_pos (by omega), if_pos (by omega)]
    have := same_l0 t l h hb t.length 0 k (by omega) hk
    simpa using this
  · rw [if_neg (by omega), if_neg (by omega), if_neg (by omega)]
    have : t ≠ l := fun e => h (by rw [e])
    simp [this]
theorem sameInts_refl (t : List Int) (hb : t.length ≤ 1048576) {k : Nat} (hk : t.length < k) : laws_sameInts.f k t t = some true := by
  rw [(same_f t t hb hk).2.2, decide_eq_true rfl]
theorem get_mid (done cs : List S31) (c z : S31) : (done ++ c :: cs).getD ((done.length : Int)).toNat z = c := by
  rw [Int.toNat_natCast, List.getD_eq_getElem?_getD, List.getElem?_append_right (Nat.le_refl _), Nat.sub_self]
  rfl
def RF (G : List S31) (l : List Int) : List S31 := G.filter fun c => decide (st c = l)
theorem spec_RF (l : List Int) : ∀ (cs done outs : List S31) (k : Nat), cs.all okS = true → cs.length + 30 < k → done.length + cs.length ≤ 1000 → outs.length + cs.length ≤ 1000 →
    spec_FootingsFor.l0 k l outs (done ++ cs) (done.length : Int) = some (outs ++ RF cs l) ∧ impl_FootingsFor.l0 k l outs (done ++ cs) ((done ++ cs).length : Int) (done.length : Int) = some (outs ++ RF cs l)
  | [], done, outs, k, _, hk, _, _ => by
    obtain ⟨k, rfl⟩ : ∃ m, k = m + 1 := ⟨k - 1, by omega⟩
    simp only [spec_FootingsFor.l0, impl_FootingsFor.l0]
    rw [if_neg (by rw [List.append_nil]; omega), if_neg (by rw [List.append_nil]; omega)]
    simp [RF]
  | c :: cs, done, outs, k, h, hk, hd, ho => by
    rw [List.length_cons] at hk hd ho
    obtain ⟨k, rfl⟩ : ∃ m, k = m + 1 := ⟨k - 1, by omega⟩
    rw [List.all_cons, Bool.and_eq_true] at h
    have h0 := h.1
    simp only [okS, Bool.and_eq_true, decide_eq_true_eq] at h0
    have e : rd_T31 (done ++ c :: cs) (done.length : Int) = c := get_mid _ _ _ _
    have e2 : done ++ c :: cs = (done ++ [c]) ++ cs := by simp
    have e3 : ((done.length + 1 : Nat) : Int) = ((done ++ [c]).length : Int) := by simp
    have hA := up (g := fun k => spec_StressesOf.f k c.f0 c.f1 c.f2) (fun k => spec_StressesOf.mono c.f0 c.f1 c.f2 k) (show 30 ≤ k by omega) h0.1.1
    have hB := up (g := fun k => impl_StressesOf.f k c.f0 c.f1 c.f2) (fun k => impl_StressesOf.mono c.f0 c.f1 c.f2 k) (show 30 ≤ k by omega) h0.1.2
    have hS := same_f (st c) l (by omega) (show (st c).length < k by omega)
    have hlt : (done.length : Int) < ((done ++ c :: cs).length : Int) := by rw [List.length_append, List.length_cons]; omega
    rw [spec_FootingsFor.l0, impl_FootingsFor.l0, if_pos hlt, if_pos (show (0 : Int) ≤ (done.length : Int) by omega), if_pos hlt, if_pos (show (0 : Int) ≤ (done.length : Int) by omega), if_pos hlt, e, hA, hB, Option.bind_some, Option.bind_some, hS.1, hS.2.1, Option.bind_some, Option.bind_some, nx (i := done.length) (by omega), e3, e2]
    have ih := fun o ho => spec_RF l cs (done ++ [c]) o k h.2 (by omega) (by rw [List.length_append, List.length_singleton]; omega) ho
    unfold RF at ih ⊢
    rw [List.filter_cons]
    by_cases hc : st c = l
    · have d1 : decide (st c = l) = true := decide_eq_true hc
      have d2 : outs.length < 3518437208883 := by omega
      simp only [if_pos d1, if_pos d2]
      obtain ⟨i1, i2⟩ := ih (outs ++ [c]) (by rw [List.length_append, List.length_singleton]; omega)
      have e5 : outs ++ [c] ++ List.filter (fun c => decide (st c = l)) cs = outs ++ c :: List.filter (fun c => decide (st c = l)) cs := by simp
      rw [e5] at i1 i2
      exact ⟨i1, i2⟩
    · have d1 : ¬ (decide (st c = l) = true) := fun e => hc (of_decide_eq_true e)
      simp only [if_neg d1]
      exact ih outs (by omega)
theorem FFs (s : List Int) : ∃ R : List S31, (∀ k, 500 ≤ k → spec_FootingsFor.f k s = some R ∧ impl_FootingsFor.f k s = some R) ∧ R.length ≤ 100 ∧ ∀ c ∈ R, good c = true ∧ okS c = true ∧ st c = s := by
  by_cases h : 1 ≤ (s.length : Int) ∧ (s.length : Int) ≤ 4
  · obtain ⟨h1, h2⟩ := four h
    have hl := fits_len h2
    refine ⟨RF (GF (s.length : Int)) s, fun k hk => ?_, Nat.le_trans (List.length_filter_le _ _) hl.2, fun c hc => ?_⟩
    · have hR := spec_RF s (GF (s.length : Int)) [] [] k (fits_okS h2) (by omega) (by simp; omega) (by simp; omega)
      rw [List.nil_append, List.nil_append] at hR
      unfold spec_FootingsFor.f impl_FootingsFor.f
      rw [up (g := fun k => spec_FootingsOf.f k (s.length : Int)) (fun k => spec_FootingsOf.mono _ k) (show 400 ≤ k by omega) h1, impl_of h, Option.bind_some, Option.bind_some]
      exact hR
    · obtain ⟨hm, hd⟩ := List.mem_filter.1 hc
      exact ⟨fits_good h2 c hm, List.all_eq_true.1 (fits_okS h2) c hm, of_decide_eq_true hd⟩
  · refine ⟨[], fun k hk => ?_, by decide, fun c hc => by simp at hc⟩
    obtain ⟨k, rfl⟩ : ∃ m, k = m + 1 := ⟨k - 1, by omega⟩
    unfold spec_FootingsFor.f impl_FootingsFor.f
    rw [none_of h, impl_none h, Option.bind_some, Option.bind_some]
    simp [spec_FootingsFor.l0, impl_FootingsFor.l0]
theorem l5_f (l : List Int) (hl : l.length ≤ 1048576) (i h : Int) (hc : Cur l i) {k : Nat} (hk : 400 ≤ k) :
    ∃ a x m i' h', spec_l5Footing.f k l i h = some (a, x, m, i', h') ∧ chk (a, x, m) = true ∧ Cur l i' := by
  unfold spec_l5Footing.f
  obtain ⟨n, i1, g1, e1, n0, n1, hc1⟩ := l1Below_f l hl i h hc 4 (by omega) (by omega)
  obtain ⟨f1, f2⟩ := four (n := 1 + n) (by omega)
  have hlen := fits_len f2
  obtain ⟨j, i2, g2, e2, j0, j1, hc2⟩ := l1Below_f l hl i1 g1 hc1 ((GF (1 + n)).length : Int) (by omega) (by omega)
  obtain ⟨t, i3, g3, e3, t0, t1, hc3⟩ := l1Below_f l hl i2 g2 hc2 12 (by omega) (by omega)
  rw [e1]
  simp only [Option.bind_some]
  rw [w64 (x := 1 + n) (by omega) (by omega), up (g := fun k => spec_FootingsOf.f k (1 + n)) (fun k => spec_FootingsOf.mono _ k) hk f1]
  simp only [Option.bind_some]
  rw [e2]
  simp only [Option.bind_some]
  rw [if_pos j0, if_pos j1, e3]
  simp only [Option.bind_some]
  obtain ⟨q, rfl⟩ : ∃ q : Nat, j = q := ⟨j.toNat, by omega⟩
  have hq : q < (GF (1 + n)).length := by omega
  have hcm : rd_T31 (GF (1 + n)) (q : Int) ∈ GF (1 + n) := by
    have e : rd_T31 (GF (1 + n)) (q : Int) = (GF (1 + n))[q] := getD_nat _ _ q hq
    rw [e]; exact List.getElem_mem hq
  generalize rd_T31 (GF (1 + n)) (q : Int) = c at hcm ⊢
  have hM := fits_mods f2 c hcm
  have hG := fits_good f2 c hcm
  simp only [good, Bool.and_eq_true, decide_eq_true_eq] at hG
  by_cases s0 : t = 0
  · rw [if_pos s0]
    obtain ⟨x, i4, g4, e4, hx, hc4⟩ := l1PickInt_f l hl i3 g3 hc3 [(-1), 4] (by decide) (by decide)
    rw [e4]
    refine ⟨c.f0, c.f1, x, i4, g4, rfl, ?_, hc4⟩
    simp only [List.mem_cons, List.not_mem_nil, or_false] at hx
    rcases hx with rfl | rfl
    · exact hM _ (by simp [mods])
    · exact hM _ (by simp [mods])
  · rw [if_neg s0]
    by_cases s1 : t = 1
    · rw [if_pos s1]
      obtain ⟨x, i4, g4, e4, hx, hc4⟩ := l1PickInt_f l hl i3 g3 hc3 [0, 6, 7] (by decide) (by decide)
      rw [e4]
      refine ⟨x, c.f1, c.f2, i4, g4, rfl, ?_, hc4⟩
      simp only [List.mem_cons, List.not_mem_nil, or_false] at hx
      rcases hx with rfl | rfl | rfl
      · exact hM _ (by simp [mods])
      · exact hM _ (by simp [mods])
      · exact hM _ (by simp [mods])
    · rw [if_neg s1]
      by_cases s2 : t = 2
      · rw [if_pos s2]
        obtain ⟨x, i4, g4, e4, hx, hc4⟩ := l1PickInt_f l hl i3 g3 hc3 [0, 3, 9223372036854775807] (by decide) (by decide)
        rw [e4]
        simp only [Option.bind_some]
        rw [if_pos (by omega)]
        refine ⟨_, _, _, i4, g4, rfl, ?_, hc4⟩
        simp only [List.mem_cons, List.not_mem_nil, or_false] at hx
        rcases hx with rfl | rfl | rfl
        · exact hM _ (by simp [mods])
        · exact hM _ (by simp [mods])
        · exact hM _ (by simp [mods])
      · rw [if_neg s2]
        exact ⟨c.f0, c.f1, c.f2, i3, g3, rfl, hM _ (by simp [mods]), hc3⟩
structure Chk (a : Int) (x : List S59) (m : Int) (t : List Int) (s : ByteArray) (b : Bool) (u : List Int) : Prop where
  lx : x.length ≤ 10
  m1 : ∀ k, 100 ≤ k → impl_FootMarks.f k a x m = some t
  m2 : ∀ k, 100 ≤ k → spec_FootMarks.f k a x m = some t
  lt : t.length ≤ 10
  sm : t.length = 0 ∨ (4 ≤ t.length ∧ sum t = a)
  t1 : ∀ k, 100 ≤ k → impl_FormatFooting.f k a x m = some s
  t2 : ∀ k, 100 ≤ k → spec_FormatFooting.f k a x m = some s
  b1 : ∀ k, 100 ≤ k → impl_IsFooting.f k a x m = some b
  b2 : ∀ k, 100 ≤ k → spec_IsFooting.f k a x m = some b
  u1 : ∀ k, 100 ≤ k → impl_StressesOf.f k a x m = some u
  u2 : ∀ k, 100 ≤ k → spec_StressesOf.f k a x m = some u
  lu : u.length ≤ 10
theorem chk_of {a : Int} {x : List S59} {m : Int} (h : chk (a, x, m) = true) : ∃ t s b u, Chk a x m t s b u := by
  simp only [chk, Bool.and_eq_true, decide_eq_true_eq] at h
  obtain ⟨h1, h2, h3, h4, h5, h6, h7, h8, h9, h10, h11, h12⟩ := h
  refine ⟨mk (a, x, m), tx (a, x, m), is (a, x, m), ss (a, x, m), ⟨h1, fun k hk => ?_, fun k hk => ?_, h4, h5, fun k hk => ?_, fun k hk => ?_, fun k hk => ?_, fun k hk => ?_, fun k hk => ?_, fun k hk => ?_, h12⟩⟩
  · exact up (g := fun k => impl_FootMarks.f k a x m) (fun k => impl_FootMarks.mono _ _ _ k) (show 60 ≤ k by omega) h2
  · exact up (g := fun k => spec_FootMarks.f k a x m) (fun k => spec_FootMarks.mono _ _ _ k) (show 60 ≤ k by omega) h3
  · exact up (g := fun k => impl_FormatFooting.f k a x m) (fun k => impl_FormatFooting.mono _ _ _ k) hk h6
  · exact up (g := fun k => spec_FormatFooting.f k a x m) (fun k => spec_FormatFooting.mono _ _ _ k) hk h7
  · exact up (g := fun k => impl_IsFooting.f k a x m) (fun k => impl_IsFooting.mono _ _ _ k) (show 60 ≤ k by omega) h8
  · exact up (g := fun k => spec_IsFooting.f k a x m) (fun k => spec_IsFooting.mono _ _ _ k) (show 60 ≤ k by omega) h9
  · exact up (g := fun k => impl_StressesOf.f k a x m) (fun k => impl_StressesOf.mono _ _ _ k) (show 60 ≤ k by omega) h10
  · exact up (g := fun k => spec_StressesOf.f k a x m) (fun k => spec_StressesOf.mono _ _ _ k) (show 60 ≤ k by omega) h11
theorem ints_l0 (l : List Int) (hl : l.length ≤ 1048576) (d : Nat) : ∀ (K : Nat) (o : List Int) (i h : Int), Cur l i → o.length + d ≤ 100 →
    ∃ s, spec_DrawFootingsFor.l0 (K + d + 1) o (d : Int) l i h = some s ∧ s.length ≤ 100 := by
  induction d with
  | zero =>
    intro K o i h hc ho
    rw [spec_DrawFootingsFor.l0, if_neg (by omega)]
    exact ⟨_, rfl, by omega⟩
  | succ d ih =>
    intro K o i h hc ho
    obtain ⟨x, i1, g1, e1, _, _, hc1⟩ := l1Below_f l hl i h hc 3 (by omega) (by omega)
    have ew : wrap64 (((d + 1 : Nat) : Int) - 1) = (d : Int) := by rw [w64 (by omega) (by omega)]; omega
    rw [show K + (d + 1) + 1 = (K + d + 1) + 1 from by omega, spec_DrawFootingsFor.l0, if_pos (by omega), e1, ew]
    simp only [Option.bind_some]
    rw [if_pos (by omega)]
    exact ih K (o ++ [x]) i1 g1 hc1 (by simp; omega)
theorem draw_for (l : List Int) (hl : l.length ≤ 1048576) {k : Nat} (hk : 4100 ≤ k) : ∃ s, spec_DrawFootingsFor.f k l = some s ∧ s.length ≤ 100 := by
  unfold spec_DrawFootingsFor.f
  obtain ⟨g, e0⟩ := l1New_f l (k := k) (by omega)
  have hc : Cur l 0 := ⟨by omega, by omega⟩
  obtain ⟨a, x, m, i1, g1, e1, hchk, hc1⟩ := l5_f l hl 0 g hc (k := k) (by omega)
  obtain ⟨t, s, b, u, C⟩ := chk_of hchk
  have hj : ∀ (v : List Int) (y : Bool) (i h : Int), v.length ≤ 100 → Cur l i → ∃ s, spec_DrawFootingsFor.j0 k v y l i h = some s ∧ s.length ≤ 100 := by
    intro v y i h hv hci
    obtain ⟨k, rfl⟩ : ∃ q, k = q + 1 := ⟨k - 1, by omega⟩
    rw [spec_DrawFootingsFor.j0]
    by_cases hy : y = true
    · rw [if_pos hy]; exact ⟨_, rfl, hv⟩
    · rw [if_neg hy]
      obtain ⟨n, i2, g2, e2, n0, n1, hc2⟩ := l1Below_f l hl i h hci 6 (by omega) (by omega)
      rw [e2]
      simp only [Option.bind_some]
      obtain ⟨q, rfl⟩ : ∃ q : Nat, n = q := ⟨n.toNat, by omega⟩
      obtain ⟨K, rfl⟩ : ∃ K, k = K + q + 1 := ⟨k - q - 1, by omega⟩
      exact ints_l0 l hl q K [] i2 g2 hc2 (by simp; omega)
  rw [e0]
  simp only [Option.bind_some]
  rw [e1]
  simp only [Option.bind_some]
  rw [C.u2 k (by omega)]
  simp only [Option.bind_some]
  by_cases hu : (u.length : Int) > 0
  · rw [if_pos hu]
    obtain ⟨b2, i2, g2, e2, hc2⟩ := l1Once_f l hl i1 g1 hc1 4 (by omega) (by omega)
    rw [e2]
    simp only [Option.bind_some]
    exact hj u _ i2 g2 (by have := C.lu; omega) hc2
  · rw [if_neg hu]
    exact hj u _ i1 g1 (by have := C.lu; omega) hc1
theorem draw_eq (l : List Int) (hl : l.length ≤ 1048576) {k : Nat} (hk : 4100 ≤ k) : ∃ a x m a2 x2 m2, spec_DrawEqualFootings.f k l = some (a, x, m, a2, x2, m2) ∧ x.length ≤ 10 := by
  unfold spec_DrawEqualFootings.f
  obtain ⟨g, e0⟩ := l1New_f l (k := k) (by omega)
  have hc : Cur l 0 := ⟨by omega, by omega⟩
  obtain ⟨a, x, m, i1, g1, e1, hchk, hc1⟩ := l5_f l hl 0 g hc (k := k) (by omega)
  obtain ⟨t, s, b, u, C⟩ := chk_of hchk
  obtain ⟨b2, i2, g2, e2, hc2⟩ := l1Once_f l hl i1 g1 hc1 2 (by omega) (by omega)
  obtain ⟨a3, x3, m3, i3, g3, e3, _, _⟩ := l5_f l hl i2 g2 hc2 (k := k) (by omega)
  have hx := C.lx
  rw [e0]
  simp only [Option.bind_some]
  rw [e1]
  simp only [Option.bind_some]
  rw [e2]
  simp only [Option.bind_some]
  by_cases hb : b2 = true
  · rw [if_pos hb, if_pos (by rw [List.length_nil]; omega)]
    exact ⟨_, _, _, _, _, _, rfl, hx⟩
  · rw [if_neg hb, e3]
    exact ⟨_, _, _, _, _, _, rfl, hx⟩
theorem draw_mark (l : List Int) (hl : l.length ≤ 1048576) {k : Nat} (hk : 4100 ≤ k) : ∃ a x m, spec_DrawFootMarks.f k l = some (a, x, m) ∧ chk (a, x, m) = true := by
  unfold spec_DrawFootMarks.f
  obtain ⟨g, e0⟩ := l1New_f l (k := k) (by omega)
  have hc : Cur l 0 := ⟨by omega, by omega⟩
  obtain ⟨a, x, m, i1, g1, e1, hchk, hc1⟩ := l5_f l hl 0 g hc (k := k) (by omega)
  rw [e0]
  simp only [Option.bind_some]
  rw [e1]
  exact ⟨_, _, _, rfl, hchk⟩
theorem l1_end (l : List Int) (hl : l.length ≤ 1048576) (G : List S31) (k : Nat) (hk : 4200 ≤ k) : laws_FnFeet.l1 (k + 1) l G G (G.length : Int) = some true := by
  obtain ⟨a, x, m, h1, hchk⟩ := draw_mark l hl (k := k) (by omega)
  obtain ⟨t, s, b, u, C⟩ := chk_of hchk
  obtain ⟨a1, x1, m1, a2, x2, m2, h2, hx⟩ := draw_eq l hl (k := k) (by omega)
  obtain ⟨r, e1, e2⟩ := eqfooting a1 x1 m1 a2 x2 m2 (by omega) (k := k) (by omega)
  have hlt := C.lt; have hlu := C.lu
  rw [laws_FnFeet.l1, if_neg (by omega), h1, Option.bind_some]
  dsimp only
  rw [C.m1 k (by omega), Option.bind_some, h2, Option.bind_some]
  dsimp only
  rw [C.m2 k (by omega), Option.bind_some, sameInts_refl t (by omega) (by omega), Option.bind_some, if_pos rfl, C.t1 k (by omega), Option.bind_some, C.t2 k (by omega), Option.bind_some, if_pos rfl, C.b1 k (by omega), Option.bind_some, C.b2 k (by omega), Option.bind_some, if_pos (by simp), C.u1 k (by omega), Option.bind_some, C.u2 k (by omega), Option.bind_some, sameInts_refl u (by omega) (by omega), Option.bind_some, if_pos rfl, e1, e2]
  by_cases h0 : (t.length : Int) = 0
  · rw [if_pos h0, Option.bind_some, Option.bind_some]; simp
  · rw [if_neg h0]
    have hs := C.sm
    have h4 : 4 ≤ t.length ∧ sum t = a := by
      rcases hs with hs | hs
      · omega
      · exact hs
    have hsum : (wrap64 ((wrap64 ((wrap64 ((rd t 0) + (rd t 1))) + (wrap64 (2 * (rd t 2))))) + (wrap64 (2 * (rd t 3))))) = a := h4.2
    rw [if_pos (by omega), if_pos (by omega), if_pos (by omega), if_pos (by omega), if_pos hsum, Option.bind_some, Option.bind_some]; simp
theorem good_eq {c : S31} (h : good c = true) {k : Nat} (hk : 60 ≤ k) : spec_EqualFootings.f k c.f0 c.f1 c.f2 c.f0 c.f1 c.f2 = some true ∧ impl_IsFooting.f k c.f0 c.f1 c.f2 = some true := by
  simp only [good, Bool.and_eq_true, decide_eq_true_eq] at h
  exact ⟨up (g := fun k => spec_EqualFootings.f k c.f0 c.f1 c.f2 c.f0 c.f1 c.f2) (fun k => spec_EqualFootings.mono _ _ _ _ _ _ k) hk h.2.2, up (g := fun k => impl_IsFooting.f k c.f0 c.f1 c.f2) (fun k => impl_IsFooting.mono _ _ _ k) hk h.2.1⟩
theorem rd_mem (G : List S31) (i : Nat) (h : i < G.length) : rd_T31 G (i : Int) ∈ G := by
  have e : rd_T31 G (i : Int) = G[i] := getD_nat _ _ i h
  rw [e]; exact List.getElem_mem h
theorem l1_true (l : List Int) (hl : l.length ≤ 1048576) (G : List S31) (hG : G.length ≤ 100) (hg : ∀ c ∈ G, good c = true) (d : Nat) : ∀ (i k : Nat), i + d = G.length → 4200 ≤ k → laws_FnFeet.l1 (k + d + 1) l G G (i : Int) = some true := by
  induction d with
  | zero => intro i k h hk; obtain rfl : i = G.length := by omega
            exact l1_end l hl G k hk
  | succ d ih =>
    intro i k h hk
    have hlt : (i : Int) < (G.length : Int) := by omega
    obtain ⟨e1, _⟩ := good_eq (hg _ (rd_mem G i (by omega))) (k := k + d + 1) (by omega)
    rw [show k + (d + 1) + 1 = (k + d + 1) + 1 from by omega, laws_FnFeet.l1, if_pos hlt, if_pos (by omega), if_pos hlt, e1, Option.bind_some, if_pos rfl, nx (i := i) (by omega)]
    exact ih (i + 1) k (by omega) hk
theorem l0_end (l : List Int) (hl : l.length ≤ 1048576) (s : List Int) (R : List S31) (k : Nat) (hk : 4400 ≤ k) : laws_FnFeet.l0 (k + 1) l s R R (R.length : Int) = some true := by
  obtain ⟨g, e0⟩ := l1New_f l (k := k) (by omega)
  have hc : Cur l 0 := ⟨by omega, by omega⟩
  obtain ⟨n, i1, g1, e1, n0, n1, hc1⟩ := l1Below_f l hl 0 g hc 7 (by omega) (by omega)
  have hn : spec_DrawFootingsOf.f k l = some (n - 1) := by
    unfold spec_DrawFootingsOf.f
    rw [e0]
    simp only [Option.bind_some]
    rw [e1]
    show some (wrap64 (n - 1)) = _
    rw [w64 (by omega) (by omega)]
  rw [laws_FnFeet.l0, if_neg (by omega), hn, Option.bind_some]
  by_cases h : 1 ≤ n - 1 ∧ n - 1 ≤ 4
  · obtain ⟨f1, f2⟩ := four h
    have hlen := fits_len f2
    rw [impl_of h, Option.bind_some, up (g := fun k => spec_FootingsOf.f k (n - 1)) (fun k => spec_FootingsOf.mono _ k) (show 400 ≤ k by omega) f1, Option.bind_some, if_pos rfl]
    obtain ⟨K, rfl⟩ : ∃ K, k = K + (GF (n - 1)).length + 1 := ⟨k - (GF (n - 1)).length - 1, by omega⟩
    exact l1_true l hl (GF (n - 1)) hlen.2 (fits_good f2) (GF (n - 1)).length 0 K (by omega) (by omega)
  · obtain ⟨k, rfl⟩ : ∃ q, k = q + 1 := ⟨k - 1, by omega⟩
    rw [impl_none h, Option.bind_some, none_of h, Option.bind_some, if_pos rfl]
    exact l1_end l hl [] k (by omega)
theorem l0_true (l : List Int) (hl : l.length ≤ 1048576) (s : List Int) (hs : s.length ≤ 100) (R : List S31) (hR : R.length ≤ 100) (hg : ∀ c ∈ R, good c = true ∧ okS c = true ∧ st c = s) (d : Nat) : ∀ (i k : Nat), i + d = R.length → 4400 ≤ k → laws_FnFeet.l0 (k + d + 1) l s R R (i : Int) = some true := by
  induction d with
  | zero => intro i k h hk; obtain rfl : i = R.length := by omega
            exact l0_end l hl s R k hk
  | succ d ih =>
    intro i k h hk
    have hlt : (i : Int) < (R.length : Int) := by omega
    obtain ⟨g1, g2, g3⟩ := hg _ (rd_mem R i (by omega))
    obtain ⟨e1, e2⟩ := good_eq g1 (k := k + d + 1) (by omega)
    simp only [okS, Bool.and_eq_true, decide_eq_true_eq] at g2
    have e3 := up (g := fun k => impl_StressesOf.f k (rd_T31 R (i : Int)).f0 (rd_T31 R (i : Int)).f1 (rd_T31 R (i : Int)).f2) (fun k => impl_StressesOf.mono _ _ _ k) (show 30 ≤ k + d + 1 by omega) g2.1.2
    rw [g3] at e3
    rw [show k + (d + 1) + 1 = (k + d + 1) + 1 from by omega, laws_FnFeet.l0, if_pos hlt, if_pos (by omega), if_pos hlt, e1, Option.bind_some, if_pos rfl, e2, Option.bind_some, if_pos rfl, e3, Option.bind_some, sameInts_refl s (by omega) (by omega), Option.bind_some, if_pos rfl, nx (i := i) (by omega)]
    exact ih (i + 1) k (by omega) hk
theorem FnFeet : laws_FnFeet.Pure := by
  intro l _ _ hw
  refine ⟨5000, ?_⟩
  unfold laws_FnFeet.f laws_big.f
  rw [Option.bind_some]
  by_cases hb : (l.length : Int) > 1048576
  · rw [if_pos (decide_eq_true hb)]
  · rw [if_neg (by simpa using hb)]
    have hl : l.length ≤ 1048576 := by omega
    obtain ⟨s, e1, hs⟩ := draw_for l hl (k := 5000) (by omega)
    obtain ⟨R, e2, hR, hg⟩ := FFs s
    rw [e1, Option.bind_some, (e2 5000 (by omega)).2, Option.bind_some, (e2 5000 (by omega)).1, Option.bind_some, if_pos rfl]
    have := l0_true l hl s hs R hR hg R.length 0 (4999 - R.length) (by omega) (by omega)
    rw [show 4999 - R.length + R.length + 1 = 5000 from by omega] at this
    exact this
end Go.Proofs.YtkjpbhncgjhfeaaDoor.Pure
