/- strconv's numbers, walked once: impl.FormatInt, impl.within, impl.ParseInt. -/
import Derived.Test.YtkjpbhncgjhfeaaDoorShelfB
import Derived.Test.YtkjpbhncgjhfeaaDoorShelfC
import Derived.Test.YtkjpbhncgjhfeaaDoorWMore
import Derived.Test.YtkjpbhncgjhfeaaDoorWGuard
import Derived.Lib.AppendIntMem
import Derived.Lib.AtoiTie
import Derived.Lib.SlBuf
import Derived.BigCall
import Derived.BigGuard
import Derived.WalkKit
import Derived.KernelRfl
import Derived.Below
namespace Go.Proofs.YtkjpbhncgjhfeaaDoor.Num
open Go.RowKit Go.Proofs.YtkjpbhncgjhfeaaDoorW.PrintWords Go.Proofs.YtkjpbhncgjhfeaaDoorW.PrintLast Go.Proofs.YtkjpbhncgjhfeaaDoorW.PrintMore
set_option linter.unusedVariables false
set_option linter.unusedSimpArgs false
/-- What the texts of numbers lean on in a world: the table of powers, and what strconv.ErrSyntax holds. -/
def WQ (w : World) : Prop := Lib.TabIs Tryd.prog w "internal/strconv.uint64pow10" .u64 Lib.pow10Tab ∧ ∃ ev, (ev = .nilIface ∨ ∃ te pe, ev = .iface te pe) ∧ w.cell? ⟨1, 0, none⟩ = some ev
theorem WQ.on {w w' : World} (h : WQ w) (hb : Below w.heap.size w w') : WQ w' := by
  obtain ⟨h1, ev, he, hc⟩ := h
  exact ⟨Lib.tabBelow_of_tabIs h1 _ hb, ev, he, Go.Lib.Below.cellOf hb hc (Nat.le_refl _)⟩
set_option maxHeartbeats 8000000 in
set_option maxRecDepth 100000 in
theorem formatInt_all (a0 : Int) (w : World) (hb : -9223372036854775808 ≤ a0 ∧ a0 ≤ 9223372036854775807) (hq : WQ w) :
    Calls Tryd.prog 35 #[.int .i64 a0] w fun e w' => e = .returned (.string ⟨(Lib.itoa a0).toArray⟩) ∧ Below w.heap.size w w' := by
  have HT := Aside0.mk hq.1
  have HW := Aside0.mk hb
  clear hq hb
  go_enter Tryd.func35, Tryd.ntmps35
  go_wp2_with (first | (go_at_call 53; refine (Go.Proofs.Tryd.strconv_Itoa a0 HW.out.1 HW.out.2 _ HT.out).mono ?_; rintro e w1 ⟨rfl, kk, os, rfl⟩))
  go_ret
  exact ⟨rfl, Lib.below_grow _ _ (Nat.le_refl _) _ _⟩
set_option maxHeartbeats 8000000 in
set_option maxRecDepth 100000 in
theorem within_all (a0 a1 a2 : Int) (w : World) : Calls Tryd.prog 44 #[.int .i64 a0, .int .i64 a1, .int .i64 a2] w fun e w' => e = .returned (.bool (decide (a1 ≤ a0) && decide (a0 ≤ a2))) ∧ w' = w := by
  by_cases c : a1 ≤ a0
  · have cb : decide (a1 ≤ a0) = true := decide_eq_true c
    rw [cb, Bool.true_and]
    clear c
    go_enter Tryd.func44, Tryd.ntmps44
    go_wp2
    go_ret
    exact ⟨rfl, rfl⟩
  · have cb : decide (a1 ≤ a0) = false := decide_eq_false c
    rw [cb, Bool.false_and]
    clear c
    go_enter Tryd.func44, Tryd.ntmps44
    go_wp2
    go_ret
    exact ⟨rfl, rfl⟩
/-- What impl.ParseInt answers. -/
def pInt (s : ByteArray) : Int × Bool :=
  if 10 < s.size then (0, false) else
    match Lib.atoi s.data.toList with
    | none => (0, false)
    | some v => if (⟨(Lib.itoa v).toArray⟩ : ByteArray) = s ∧ -999999999 ≤ v ∧ v ≤ 999999999 then (v, true) else (0, false)
set_option maxHeartbeats 8000000 in
set_option maxRecDepth 100000 in
theorem parseInt_all (s : ByteArray) (w : World) (hl : s.size ≤ 140737488355328) (hq : WQ w) :
    Calls Tryd.prog 36 #[.string s] w fun e w' => e = .returned (.tuple #[.int .i64 (pInt s).1, .bool (pInt s).2]) ∧ Below w.heap.size w w' := by
  by_cases c1 : 10 < s.size
  · have hp : pInt s = (0, false) := by unfold pInt; rw [if_pos c1]
    have c1b : decide (10 < s.size) = true := decide_eq_true c1
    have c1i : decide (10 < (s.size : Int)) = true := decide_eq_true (by omega)
    rw [hp]
    clear hp c1
    go_enter Tryd.func36, Tryd.ntmps36
    go_wp2
    go_ret2
    exact ⟨rfl, Below.refl _ _⟩
  · have c1b : decide (10 < s.size) = false := decide_eq_false c1
    have c1i : decide (10 < (s.size : Int)) = false := decide_eq_false (by omega)
    have ht := Lib.atoiAll_short s.data.toList (by rw [Array.length_toList]; have : s.data.size = s.size := rfl; omega)
    have HQ := Aside0.mk hq
    cases ha : Lib.atoi s.data.toList with
    | none =>
      have hp : pInt s = (0, false) := by unfold pInt; rw [if_neg c1, ha]
      rw [ha] at ht
      have ht : Lib.atoiAll s.data.toList = .«syntax» := ht
      obtain ⟨h1, ev, he, hc⟩ := hq
      have HT := Aside0.mk ht
      have HC := Aside0.mk hc
      have HE := Aside0.mk he
      rw [hp]
      clear hp c1 ht hc he h1 ha
      go_enter Tryd.func36, Tryd.ntmps36
      go_wp2_with (first | (go_at_call 54; refine (Go.Proofs.Tryd.strconv_Atoi_syntax s (by omega) HT.out ev _ HC.out HE.out).mono ?_; rintro e W1 ⟨N, rfl, -, -, hb⟩; have HB := Aside0.mk hb; clear hb))
      go_ret2
      exact ⟨rfl, HB.out⟩
    | some v =>
      rw [ha] at ht
      have ht : Lib.atoiAll s.data.toList = .ok v := ht
      have hv := Lib.atoiAll_bounds ht
      have HT := Aside0.mk ht
      have HV := Aside0.mk hv
      clear hq ht
      have keyb : ∀ W1, (W1 = w ∨ ∃ t, W1 = Lib.bytesWorld w 5 t) → Below w.heap.size w W1 := by
        rintro W1 (rfl | ⟨t, rfl⟩)
        · exact Below.refl _ _
        · exact Lib.bytesWorld_below _ _ _
      have KB := Aside0.mk keyb
      clear keyb
      obtain ⟨z, hz⟩ : ∃ z, (⟨(Lib.itoa v).toArray⟩ : ByteArray) = z := ⟨_, rfl⟩
      have HZ := Aside0.mk hz
      by_cases c2 : z = s
      · have c2b : (z.toList == s.toList) = true := by rw [c2]; exact beq_self_eq_true s.toList
        have c2l : (z.toList != s.toList) = false := by rw [c2]; exact bne_self_eq_false s.toList
        by_cases c3 : -999999999 ≤ v ∧ v ≤ 999999999
        · have hp : pInt s = (v, true) := by unfold pInt; rw [if_neg c1, ha]; exact if_pos ⟨hz.trans c2, c3⟩
          have c3b : (decide (-999999999 ≤ v) && decide (v ≤ 999999999)) = true := by rw [decide_eq_true c3.1, decide_eq_true c3.2]; rfl
          rw [hp]
          clear hp c1 c2 c3 hv ha hz ht
          go_enter Tryd.func36, Tryd.ntmps36
          go_wp2_with (first
            | (go_at_call 54; refine (Go.Proofs.Tryd.strconv_Atoi_ok s (by omega) v HT.out _).mono ?_; rintro e W1 ⟨rfl, hw1⟩; have HB := Aside0.mk (KB.out _ hw1); clear hw1)
            | (go_at_call 35; refine (formatInt_all v _ HV.out (HQ.out.on HB.out)).mono ?_; rintro e W2 ⟨he, hb⟩; rw [HZ.out] at he; subst he; have HB2 := Aside0.mk (HB.out.trans (hb.mono HB.out.size)); clear hb)
            | (go_at_call 44; refine (within_all v _ _ _).mono ?_; rintro e W3 ⟨rfl, rfl⟩))
          go_ret2
          exact ⟨rfl, HB2.out⟩
        · have hp : pInt s = (0, false) := by unfold pInt; rw [if_neg c1, ha]; exact if_neg (fun h => c3 h.2)
          have c3b : (decide (-999999999 ≤ v) && decide (v ≤ 999999999)) = false := by
            by_cases q : -999999999 ≤ v
            · rw [decide_eq_true q, decide_eq_false (fun h => c3 ⟨q, h⟩)]; rfl
            · rw [decide_eq_false q]; rfl
          rw [hp]
          clear hp c1 c2 c3 hv ha hz ht
          go_enter Tryd.func36, Tryd.ntmps36
          go_wp2_with (first
            | (go_at_call 54; refine (Go.Proofs.Tryd.strconv_Atoi_ok s (by omega) v HT.out _).mono ?_; rintro e W1 ⟨rfl, hw1⟩; have HB := Aside0.mk (KB.out _ hw1); clear hw1)
            | (go_at_call 35; refine (formatInt_all v _ HV.out (HQ.out.on HB.out)).mono ?_; rintro e W2 ⟨he, hb⟩; rw [HZ.out] at he; subst he; have HB2 := Aside0.mk (HB.out.trans (hb.mono HB.out.size)); clear hb)
            | (go_at_call 44; refine (within_all v _ _ _).mono ?_; rintro e W3 ⟨rfl, rfl⟩))
          go_ret2
          exact ⟨rfl, HB2.out⟩
      · have c2n : z.toList ≠ s.toList := fun h => c2 (by rw [Go.ByteArray.toList_eq, Go.ByteArray.toList_eq] at h; cases s; cases z; simp only [ByteArray.mk.injEq]; exact Array.toList_inj.1 h)
        have c2b : (z.toList == s.toList) = false := beq_eq_false_iff_ne.mpr c2n
        have c2l : (z.toList != s.toList) = true := bne_iff_ne.mpr c2n
        clear c2n
        have hp : pInt s = (0, false) := by unfold pInt; rw [if_neg c1, ha]; exact if_neg (fun h => c2 (hz.symm.trans h.1))
        rw [hp]
        clear hp c1 c2 hv ha hz ht
        go_enter Tryd.func36, Tryd.ntmps36
        go_wp2_with (first
          | (go_at_call 54; refine (Go.Proofs.Tryd.strconv_Atoi_ok s (by omega) v HT.out _).mono ?_; rintro e W1 ⟨rfl, hw1⟩; have HB := Aside0.mk (KB.out _ hw1); clear hw1)
          | (go_at_call 35; refine (formatInt_all v _ HV.out (HQ.out.on HB.out)).mono ?_; rintro e W2 ⟨he, hb⟩; rw [HZ.out] at he; subst he; have HB2 := Aside0.mk (HB.out.trans (hb.mono HB.out.size)); clear hb))
        go_ret2
        exact ⟨rfl, HB2.out⟩
end Go.Proofs.YtkjpbhncgjhfeaaDoor.Num
