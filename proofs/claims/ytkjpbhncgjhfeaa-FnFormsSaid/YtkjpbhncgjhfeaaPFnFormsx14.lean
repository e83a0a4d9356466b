import Derived.Test.YtkjpbhncgjhfeaaPFnFormsx0
import Derived.Test.YtkjpbhncgjhfeaaPFnFormsx1
import Derived.Test.YtkjpbhncgjhfeaaPFnFormsx2
import Derived.Test.YtkjpbhncgjhfeaaPFnFormsx4
import Derived.Test.YtkjpbhncgjhfeaaPFnFormsx5
import Derived.Test.YtkjpbhncgjhfeaaPFnFormsx6
import Derived.Test.YtkjpbhncgjhfeaaPFnFormsx7
import Derived.Test.YtkjpbhncgjhfeaaPFnFormsx8
import Derived.Test.YtkjpbhncgjhfeaaPFnFormsx9
import Derived.Test.YtkjpbhncgjhfeaaPFnFormsx10
import Derived.Test.YtkjpbhncgjhfeaaPFnFormsx11
import Derived.Test.YtkjpbhncgjhfeaaPFnFormsx12
import Derived.Test.YtkjpbhncgjhfeaaPFnFormsx13
namespace Go.Proofs.Ytkjpbhncgjhfeaa.PFnForms
open Go.RowKit Go.Proofs.YtkjpbhncgjhfeaaW.PrintWords Go.Proofs.YtkjpbhncgjhfeaaW.PrintLast Go.Proofs.YtkjpbhncgjhfeaaW.PrintMore
attribute [local go_sem] max2_int min2_int max_two min_two max_three min_three max_four min_four
set_option linter.unusedVariables false
set_option linter.unusedSimpArgs false
set_option maxHeartbeats 8000000
set_option maxRecDepth 100000
attribute [local go_sem high] eqA38
mutual
def laws_FnForms.j0 : Nat → List Int → ByteArray → List ByteArray → Bool → Option (Bool)
 | 0, _, _, _, _ => none
 | k + 1, x0, x3, x4, x60 => if x60 = true then (some false) else (laws_FnForms.l0 k x0 x3 x4 0)
def laws_FnForms.l0 : Nat → List Int → ByteArray → List ByteArray → Int → Option (Bool)
 | 0, _, _, _, _ => none
 | k + 1, x0, x3, x4, x5 => if x5 < (x4.length : Int) then (if 0 ≤ x5 then ((impl_DistanceBetween.f k x3 (rdOf ByteArray.empty x4 x5)).bind fun t395 => (if t395 = 1 then (laws_FnForms.l0 k x0 x3 x4 (wrap64 (x5 + 1))) else (some false))) else (none)) else ((spec_DrawDistanceBetween.f k x0).bind fun bt396 => ((impl_DistanceBetween.f k bt396.1 bt396.2).bind fun t398 => ((spec_DistanceBetween.f k bt396.1 bt396.2).bind fun t399 => (if t398 = t399 then ((impl_DistanceBetween.f k bt396.2 bt396.1).bind fun t400 => (if t398 = t400 then (if t398 ≥ 0 then (laws_FnForms.j2 k x0 x3 ((t398 == 0) != (bt396.1.toList == bt396.2.toList))) else (laws_FnForms.j2 k x0 x3 false)) else (laws_FnForms.j2 k x0 x3 true))) else (laws_FnForms.j2 k x0 x3 true)))))
def laws_FnForms.j2 : Nat → List Int → ByteArray → Bool → Option (Bool)
 | 0, _, _, _ => none
 | k + 1, x0, x3, x105 => if x105 = true then (some false) else ((impl_SyllablesOf.f k x3).bind fun t401 => ((spec_SyllablesOf.f k x3).bind fun t404 => (if (t401.length : Int) = (t404.length : Int) then ((impl_CountSyllables.f k x3).bind fun t407 => (if t407 = (t404.length : Int) then (if (t404.length : Int) > 0 then ((impl_JoinSyllables.f k t404).bind fun t408 => (if t408.toList = x3.toList then ((impl_CountVowels.f k x3).bind fun t409 => (if (t404.length : Int) = t409 then ((impl_FormatSyllables.f k t404).bind fun t410 => ((spec_FormatSyllables.f k t404).bind fun t411 => (if t410.toList = t411.toList then ((impl_IsRegular.f k x3).bind fun t412 => ((spec_IsRegular.f k x3).bind fun t413 => (laws_FnForms.j3 k x0 t401 t404 (t412 != t413)))) else (laws_FnForms.j3 k x0 t401 t404 true)))) else (laws_FnForms.j3 k x0 t401 t404 true))) else (laws_FnForms.j3 k x0 t401 t404 true))) else ((impl_FormatSyllables.f k t404).bind fun t414 => ((spec_FormatSyllables.f k t404).bind fun t415 => (if t414.toList = t415.toList then ((impl_IsRegular.f k x3).bind fun t416 => ((spec_IsRegular.f k x3).bind fun t417 => (laws_FnForms.j3 k x0 t401 t404 (t416 != t417)))) else (laws_FnForms.j3 k x0 t401 t404 true))))) else (laws_FnForms.j3 k x0 t401 t404 true))) else (laws_FnForms.j3 k x0 t401 t404 true))))
def laws_FnForms.j3 : Nat → List Int → List (S38) → List (S38) → Bool → Option (Bool)
 | 0, _, _, _, _ => none
 | k + 1, x0, x9, x10, x153 => if x153 = true then (some false) else (laws_FnForms.l1 k x0 x9 x10 0)
def laws_FnForms.l1 : Nat → List Int → List (S38) → List (S38) → Int → Option (Bool)
 | 0, _, _, _, _ => none
 | k + 1, x0, x9, x10, x11 => if x11 < (x9.length : Int) then (if 0 ≤ x11 then (if x11 < (x10.length : Int) then (if (!((((rd_T38 x9 x11).f0).toList) == (((rd_T38 x10 x11).f0).toList)) || (!((((rd_T38 x9 x11).f1).toList) == (((rd_T38 x10 x11).f1).toList)) || (!((((rd_T38 x9 x11).f2).toList) == (((rd_T38 x10 x11).f2).toList))))) = true then (some false) else ((impl_IsOpen.f ((rd_T38 x10 x11).f0) ((rd_T38 x10 x11).f1) ((rd_T38 x10 x11).f2)).bind fun t421 => ((spec_IsOpen.f ((rd_T38 x10 x11).f0) ((rd_T38 x10 x11).f1) ((rd_T38 x10 x11).f2)).bind fun t423 => (if (t421 != t423) = true then (some false) else ((impl_WeightOf.f ((rd_T38 x10 x11).f0) ((rd_T38 x10 x11).f1) ((rd_T38 x10 x11).f2)).bind fun t425 => ((spec_WeightOf.f ((rd_T38 x10 x11).f0) ((rd_T38 x10 x11).f1) ((rd_T38 x10 x11).f2)).bind fun t427 => (if t425 = t427 then (laws_FnForms.l1 k x0 x9 x10 (wrap64 (x11 + 1))) else (some false)))))))) else (none)) else (none)) else ((spec_DrawIsVowelAt.f k x0).bind fun bt428 => ((spec_DrawFormsOf.f k x0).bind fun t430 => ((impl_IsVowelAt.f bt428.1 bt428.2).bind fun t431 => ((spec_IsVowelAt.f bt428.1 bt428.2).bind fun t432 => (if (t431 == t432) = true then ((impl_FormsOf.f k t430).bind fun t433 => ((spec_FormsOf.f k t430).bind fun t436 => ((laws_sameTexts.f k t433 t436).bind fun t439 => (some t439)))) else (some false))))))
end
def laws_FnForms.f (k : Nat) (l0 : List Int) : Option (Bool) := (laws_big.f l0).bind fun t375 => (if t375 = true then (some true) else ((spec_DrawNeighboursOf.f k l0).bind fun t376 => ((impl_NeighboursOf.f k t376).bind fun t377 => ((spec_NeighboursOf.f k t376).bind fun t380 => ((laws_sameTexts.f k t377 t380).bind fun t383 => (if t383 = true then ((impl_SkeletonOf.f k t376).bind fun t384 => ((spec_SkeletonOf.f k t376).bind fun t385 => (if t384.toList = t385.toList then ((impl_CountVowels.f k t376).bind fun t386 => ((spec_CountVowels.f k t376).bind fun t387 => (if t386 = t387 then ((impl_IsForm.f k t376).bind fun t388 => ((spec_IsForm.f k t376).bind fun t389 => (if (t388 != t389) = true then (laws_FnForms.j0 k l0 t376 t377 true) else ((impl_ReverseForm.f k t376).bind fun t390 => ((impl_ReverseForm.f k t390).bind fun t391 => (if t391.toList = t376.toList then ((impl_ReverseForm.f k t376).bind fun t392 => ((spec_ReverseForm.f k t376).bind fun t393 => (laws_FnForms.j0 k l0 t376 t377 (t392.toList != t393.toList)))) else (laws_FnForms.j0 k l0 t376 t377 true))))))) else (laws_FnForms.j0 k l0 t376 t377 true)))) else (laws_FnForms.j0 k l0 t376 t377 true)))) else (laws_FnForms.j0 k l0 t376 t377 true)))))))
def bz (m n : Nat) : Array Bool := ((List.range n).map fun i => m.testBit i).toArray
def laws_FnForms.T23 : Bool × List (List Nat × List Nat) := (true, [([], []), ([], []), ([0, 1], [0, 1]), ([2], [2]), ([], []), ([], []), ([4, 5], [4, 5]), ([6], [6]), ([3, 7], [3, 7]), ([8], [8]), ([9], [9]), ([9], [9]), ([10, 11, 9], [9, 10, 11]), ([12, 9], [9, 12]), ([13, 9, 9], [9, 13]), ([9], [9]), ([9], [9]), ([15, 16, 9], [9, 15, 16]), ([17, 9], [9, 17]), ([18, 14, 9], [9, 18]), ([14, 19, 9], [9, 14, 19]), ([9, 20], [9, 20]), ([21, 19], [21]), ([22], [22]), ([22], [22]), ([23, 24, 22], [22, 23, 24]), ([25, 22], [22, 25]), ([26, 22, 22], [22, 26]), ([22], [22]), ([22], [22]), ([28, 29, 22], [22, 28, 29]), ([30, 22], [22, 30]), ([31, 27, 22], [22, 31]), ([27, 32, 22], [22, 27, 32]), ([22, 33], [22, 33])])
def laws_FnForms.B23 : List Nat := [0, 0, 3, 7, 0, 0, 48, 112, 255, 511, 1023, 1023, 4095, 8191, 16383, 1023, 1023, 99327, 230399, 524287, 1048575, 2097151, 4194303, 8388607, 8388607, 33554431, 67108863, 134217727, 8388607, 8388607, 813694975, 1887436799, 4294967295, 8589934591, 17179869183]
theorem laws_FnForms.tab23 : rtab .any (opsOf Try.f3 23) = laws_FnForms.T23 := by kernel_rfl
theorem laws_FnForms.bits23 : waitsOk laws_FnForms.T23.2 laws_FnForms.B23 = true := by kernel_rfl
theorem laws_FnForms.j0f {k a0 a1 a2 r} (h : laws_FnForms.j0 k a0 a1 a2 true = some r) : r = false := by
 cases k with
 | zero => simp [laws_FnForms.j0] at h
 | succ k => rw [laws_FnForms.j0, if_pos rfl] at h; exact (qca h).symm
theorem laws_FnForms.j2f {k a0 a1 r} (h : laws_FnForms.j2 k a0 a1 true = some r) : r = false := by
 cases k with
 | zero => simp [laws_FnForms.j2] at h
 | succ k => rw [laws_FnForms.j2, if_pos rfl] at h; exact (qca h).symm
theorem laws_FnForms.j3f {k a0 a1 a2 r} (h : laws_FnForms.j3 k a0 a1 a2 true = some r) : r = false := by
 cases k with
 | zero => simp [laws_FnForms.j3] at h
 | succ k => rw [laws_FnForms.j3, if_pos rfl] at h; exact (qca h).symm
theorem laws_FnForms.calls (k : Nat) (A0 : Option Addr) (c0 : Nat) (l0 : List Int) (r : Bool) (hr : r = true) (w : World) (hr0 : Kd.C (Kd.int .u8) w A0 l0.length l0) (hc0 : l0.length ≤ c0) (h : laws_FnForms.f k l0 = some r) :
  Calls Try.prog 3 #[.slice A0 l0.length c0] w fun e w' => e = .returned (.bool r) ∧ Below w.heap.size w w' := by
 have HRT := qa hr; clear hr; have hu38 := Try.underlying38; have HR0 := qa hr0; have HC0 := qa hc0; clear hr0 hc0; have HB := qa (qwa w.heap.size w); have H := h; unfold laws_FnForms.f at H; clear h; obtain ⟨t375, A20, H⟩ := zb H; (try dsimp only at H); have A2 := qa A20; clear A20
 by_cases c3 : t375 = true
 ·subst c3
  rw [if_pos rfl] at H; have H1 := H; clear H; have H := H1; clear H1; obtain rfl := qca H; go_enter Try.func3, Try.ntmps3
  go_wp2_with (first | ((with_reducible refine qqa (f := 5) rfl ?_); refine goesL_ (some 16) rfl rfl Try.func5 (by kernel_rfl) rfl #[.slice A0 l0.length c0] rfl (by (try simp only [qs, qv, qw]); first | done | rfl | (simp only [qu, qt]; rfl)) ?_; (with_reducible refine (laws_big.calls _ _ l0 true _ ?side1 ?side2 A2.out).mono ?_); (case side1 => repeat (first | exact HR0.out | (with_reducible first | apply qda | apply qea | apply qfa))); (case side2 => exact HC0.out); rintro e w' ⟨rfl, ⟨nd, rfl⟩⟩; refine ⟨_, rfl, ?_⟩))
  go_ret; exact ⟨by first | rfl | (simp [*] <;> rfl), by repeat (first | (with_reducible first | exact HB.out | apply qh | apply qe | apply qg) | exact HB.out)⟩
 ·replace c3 := Bool.eq_false_iff.mpr c3
  subst c3; rw [if_neg (show ¬ (false = true) by decide)] at H; have H1 := H; clear H; have H := H1; clear H1; obtain ⟨t376, A40, H⟩ := zb H; (try dsimp only at H); have A4 := qa A40; clear A40; obtain ⟨t377, A50, H⟩ := zb H; (try dsimp only at H); have A5 := qa A50; clear A50; have HC6 := qa H; clear H; go_enter Try.func3, Try.ntmps3
  go_upto_region 5 with (first | ((with_reducible refine qqa (f := 5) rfl ?_); refine goesL_ (some 16) rfl rfl Try.func5 (by kernel_rfl) rfl #[.slice A0 l0.length c0] rfl (by (try simp only [qs, qv, qw]); first | done | rfl | (simp only [qu, qt]; rfl)) ?_; (with_reducible refine (laws_big.calls _ _ l0 false _ ?side1 ?side2 A2.out).mono ?_); (case side1 => repeat (first | exact HR0.out | (with_reducible first | apply qda | apply qea | apply qfa))); (case side2 => exact HC0.out); rintro e w' ⟨rfl, ⟨nd, rfl⟩⟩; refine ⟨_, rfl, ?_⟩) | ((with_reducible refine qqa (f := 6) rfl ?_); refine goesL_ (some 18) rfl rfl Try.func6 (by kernel_rfl) rfl #[.slice A0 l0.length c0] rfl (by (try simp only [qs, qv, qw]); first | done | rfl | (simp only [qu, qt]; rfl)) ?_; (with_reducible refine (spec_DrawNeighboursOf.calls k _ _ l0 t376 _ ?side1 ?side2 A4.out).mono ?_); (case side1 => repeat (first | exact HR0.out | (with_reducible first | apply qda | apply qea | apply qfa))); (case side2 => exact HC0.out); rintro e w7 ⟨rfl, hb⟩; refine ⟨_, rfl, ?_⟩; have n0_ := qa (qba (by repeat (first | (with_reducible first | exact HB.out | apply qh | apply qe | apply qg) | exact HB.out)) hb); clear HB; have HB := n0_; clear n0_; (try clear hb); (try clear hb2); (try clear hk); (try clear hi)) | ((with_reducible refine qqa (f := 7) rfl ?_); refine goesL_ (some 20) rfl rfl Try.func7 (by kernel_rfl) rfl #[.string t376] rfl (by (try simp only [qs, qv, qw]); first | done | rfl | (simp only [qu, qt]; rfl)) ?_; (with_reducible refine (impl_NeighboursOf.calls k t376 t377 _ A5.out).mono ?_); rintro e w8 ⟨v378, rfl, ho0, hb⟩; refine ⟨_, rfl, ?_⟩; have n0_ := qa (qxa ho0 (qp (by repeat (first | (with_reducible first | exact HB.out | apply qh | apply qe | apply qg) | exact HB.out)))); have n1_ := qa (qba (by repeat (first | (with_reducible first | exact HB.out | apply qh | apply qe | apply qg) | exact HB.out)) hb); clear HB; have HO379 := n0_; have HB := n1_; clear n0_ n1_; (try clear hb); (try clear hb2); (try clear hk); (try clear hi); (try clear ho0)))
  (try simp only [Act.put, qb, qc, qd])
  go_cut [60] (fun v60 wc => ∃ (kq : Nat) (x60_5 : Bool), v60 = .bool x60_5 ∧ Aside0 (laws_FnForms.j0 kq l0 t376 t377 x60_5 = some r) ∧ Aside0 (kq ≤ k) ∧ Aside0 (Kd.R Kd.string 9 wc w.heap.size (fun _ => True) v378 t377) ∧ Aside0 (Below w.heap.size w wc))
  case first =>
   have H := HC6.out; clear HC6; obtain ⟨t380, A90, H⟩ := zb H; (try dsimp only at H); have A9 := qa A90; clear A90; obtain ⟨t383, A100, H⟩ := zb H; (try dsimp only at H); have A10 := qa A100; clear A100
   by_cases c11 : t383 = true
   ·subst c11
    rw [if_pos rfl] at H; have H1 := H; clear H; have H := H1; clear H1; obtain ⟨t384, A120, H⟩ := zb H; (try dsimp only at H); have A12 := qa A120; clear A120; obtain ⟨t385, A130, H⟩ := zb H; (try dsimp only at H); have A13 := qa A130; clear A130
    by_cases c14 : t384.toList = t385.toList
    ·rw [if_pos c14] at H
     have c14b0 : (t384.toList == t385.toList) = true := ze c14; have c14b1 : (t384.toList != t385.toList) = false := zc c14; clear c14
     (first | rw [c14b0] | (simp only [i64_w, i32_w]; rw [c14b0]) | skip)
     obtain ⟨t386, A150, H⟩ := zb H; (try dsimp only at H); have A15 := qa A150; clear A150; obtain ⟨t387, A160, H⟩ := zb H; (try dsimp only at H); have A16 := qa A160; clear A160
     by_cases c17 : t386 = t387
     ·rw [if_pos c17] at H
      have c17b0 : (t386 == t387) = true := ze c17; have c17b1 : (t386 != t387) = false := zc c17; clear c17; obtain ⟨t388, A180, H⟩ := zb H; (try dsimp only at H); have A18 := qa A180; clear A180; obtain ⟨t389, A190, H⟩ := zb H; (try dsimp only at H); have A19 := qa A190; clear A190
      by_cases c20 : (t388 != t389) = true
      ·rw [if_pos c20] at H
       first | exact absurd (laws_FnForms.j0f H) (by rw [HRT.out]; decide) | exact absurd (laws_FnForms.j2f H) (by rw [HRT.out]; decide) | exact absurd (laws_FnForms.j3f H) (by rw [HRT.out]; decide)
      ·rw [if_neg c20] at H
       have c20b0 : (t388 != t389) = false := by simpa using c20
       (try (have c20b1 : decide (t388 = t389) = true := by simpa using c20)); (try (have c20b2 : (t388 == t389) = true := by simpa using c20)); clear c20; obtain ⟨t390, A260, H⟩ := zb H; (try dsimp only at H); have A26 := qa A260; clear A260; obtain ⟨t391, A270, H⟩ := zb H; (try dsimp only at H); have A27 := qa A270; clear A270
       by_cases c28 : t391.toList = t376.toList
       ·rw [if_pos c28] at H
        have c28b0 : (t391.toList == t376.toList) = true := ze c28; have c28b1 : (t391.toList != t376.toList) = false := zc c28; clear c28; obtain ⟨t392, A290, H⟩ := zb H; (try dsimp only at H); have A29 := qa A290; obtain rfl : t390 = t392 := qca (A26.out.symm.trans A29.out); clear A290; obtain ⟨t393, A300, H⟩ := zb H; (try dsimp only at H); have A30 := qa A300; clear A300; have H' := qa H; clear H
        go_wp2_with (first | ((with_reducible refine qqa (f := 9) rfl ?_); refine goesL_ (some 23) rfl rfl Try.func9 (by kernel_rfl) rfl #[.string t376] rfl (by (try simp only [qs, qv, qw]); first | done | rfl | (simp only [qu, qt]; rfl)) ?_; (with_reducible refine (spec_NeighboursOf.calls k t376 t380 _ A9.out).mono ?_); rintro e w31 ⟨v381, rfl, ho0, hb⟩; refine ⟨_, rfl, ?_⟩; have n0_ := qa (qsa (by (with_reducible repeat first | apply qx | apply qy | apply qz); exact HO379.out) (qya ho0) hb); have n1_ := qa (qxa (Kd.R_new' ho0 (Kd.R_lt (by (with_reducible repeat first | apply qx | apply qy | apply qz); exact HO379.out))) (qp (by repeat (first | (with_reducible first | exact HB.out | apply qh | apply qe | apply qg) | exact HB.out)))); have n2_ := qa (qba (by repeat (first | (with_reducible first | exact HB.out | apply qh | apply qe | apply qg) | exact HB.out)) hb); clear HO379; clear HB; have HO379 := n0_; have HO382 := n1_; have HB := n2_; clear n0_ n1_ n2_; (try clear hb); (try clear hb2); (try clear hk); (try clear hi); (try clear ho0); obtain ⟨Ao32, co32, eo32⟩ := Kd.R_slice HO379.out; subst eo32; obtain ⟨Ao33, co33, eo33⟩ := Kd.R_slice HO382.out; subst eo33) | ((with_reducible refine qqa (f := 8) rfl ?_); refine goesL_ (some 24) rfl rfl Try.func8 (by kernel_rfl) rfl #[.slice Ao32 t377.length co32, .slice Ao33 t380.length co33] rfl (by (try simp only [qs, qv, qw]); first | done | rfl | (simp only [qu, qt]; rfl)) ?_; (with_reducible refine (laws_sameTexts.calls k _ _ t377 _ _ t380 true _ ?side1 ?side2 ?side3 ?side4 A10.out).mono ?_); (case side1 => repeat (first | exact (qra HO379.out).2.2 | (with_reducible first | apply qda | apply qea | apply qfa))); (case side2 => exact (qra HO379.out).2.1); (case side3 => repeat (first | exact (qra HO382.out).2.2 | (with_reducible first | apply qda | apply qea | apply qfa))); (case side4 => exact (qra HO382.out).2.1); rintro e w' ⟨rfl, ⟨nd, rfl⟩⟩; refine ⟨_, rfl, ?_⟩) | (go_at_call 10; (with_reducible refine (impl_SkeletonOf.calls k t376 t384 _ A12.out).mono ?_); rintro e w34 ⟨rfl, hb⟩; have n0_ := qa (qoa (by (with_reducible repeat first | apply qx | apply qy | apply qz); exact HO379.out) hb); have n1_ := qa (qoa (by (with_reducible repeat first | apply qx | apply qy | apply qz); exact HO382.out) hb); have n2_ := qa (qba (by repeat (first | (with_reducible first | exact HB.out | apply qh | apply qe | apply qg) | exact HB.out)) hb); clear HO379; clear HO382; clear HB; have HO379 := n0_; have HO382 := n1_; have HB := n2_; clear n0_ n1_ n2_; (try clear hb); (try clear hb2); (try clear hk); (try clear hi)) | (go_at_call 11; (with_reducible refine (spec_SkeletonOf.calls k t376 t385 _ A13.out).mono ?_); rintro e w' ⟨rfl, ⟨nd, rfl⟩⟩) | (go_at_call 12; (with_reducible refine (impl_CountVowels.calls k t376 t386 _ A15.out).mono ?_); rintro e w35 ⟨rfl, hb⟩; have n0_ := qa (qoa (by (with_reducible repeat first | apply qx | apply qy | apply qz); exact HO379.out) hb); have n1_ := qa (qoa (by (with_reducible repeat first | apply qx | apply qy | apply qz); exact HO382.out) hb); have n2_ := qa (qba (by repeat (first | (with_reducible first | exact HB.out | apply qh | apply qe | apply qg) | exact HB.out)) hb); clear HO379; clear HO382; clear HB; have HO379 := n0_; have HO382 := n1_; have HB := n2_; clear n0_ n1_ n2_; (try clear hb); (try clear hb2); (try clear hk); (try clear hi)) | (go_at_call 13; (with_reducible refine (spec_CountVowels.calls k t376 t387 _ A16.out).mono ?_); rintro e w' ⟨rfl, ⟨nd, rfl⟩⟩) | (go_at_call 14; (with_reducible refine (impl_IsForm.calls k t376 t388 _ A18.out).mono ?_); rintro e w' ⟨rfl, ⟨nd, rfl⟩⟩) | (go_at_call 15; (with_reducible refine (spec_IsForm.calls k t376 t389 _ A19.out).mono ?_); rintro e w' ⟨rfl, ⟨nd, rfl⟩⟩) | (go_at_call 16; (with_reducible refine (impl_ReverseForm.calls k t376 t390 _ A26.out).mono ?_); rintro e w36 ⟨rfl, hb⟩; have n0_ := qa (qoa (by (with_reducible repeat first | apply qx | apply qy | apply qz); exact HO379.out) hb); have n1_ := qa (qoa (by (with_reducible repeat first | apply qx | apply qy | apply qz); exact HO382.out) hb); have n2_ := qa (qba (by repeat (first | (with_reducible first | exact HB.out | apply qh | apply qe | apply qg) | exact HB.out)) hb); clear HO379; clear HO382; clear HB; have HO379 := n0_; have HO382 := n1_; have HB := n2_; clear n0_ n1_ n2_; (try clear hb); (try clear hb2); (try clear hk); (try clear hi)) | (go_at_call 16; (with_reducible refine (impl_ReverseForm.calls k t390 t391 _ A27.out).mono ?_); rintro e w37 ⟨rfl, hb⟩; have n0_ := qa (qoa (by (with_reducible repeat first | apply qx | apply qy | apply qz); exact HO379.out) hb); have n1_ := qa (qoa (by (with_reducible repeat first | apply qx | apply qy | apply qz); exact HO382.out) hb); have n2_ := qa (qba (by repeat (first | (with_reducible first | exact HB.out | apply qh | apply qe | apply qg) | exact HB.out)) hb); clear HO379; clear HO382; clear HB; have HO379 := n0_; have HO382 := n1_; have HB := n2_; clear n0_ n1_ n2_; (try clear hb); (try clear hb2); (try clear hk); (try clear hi)) | (go_at_call 16; (with_reducible refine (impl_ReverseForm.calls k t376 t390 _ A29.out).mono ?_); rintro e w38 ⟨rfl, hb⟩; have n0_ := qa (qoa (by (with_reducible repeat first | apply qx | apply qy | apply qz); exact HO379.out) hb); have n1_ := qa (qoa (by (with_reducible repeat first | apply qx | apply qy | apply qz); exact HO382.out) hb); have n2_ := qa (qba (by repeat (first | (with_reducible first | exact HB.out | apply qh | apply qe | apply qg) | exact HB.out)) hb); clear HO379; clear HO382; clear HB; have HO379 := n0_; have HO382 := n1_; have HB := n2_; clear n0_ n1_ n2_; (try clear hb); (try clear hb2); (try clear hk); (try clear hi)) | (go_at_call 17; (with_reducible refine (spec_ReverseForm.calls k t376 t393 _ A30.out).mono ?_); rintro e w' ⟨rfl, ⟨nd, rfl⟩⟩))
        go_meet
        case rel => exact ⟨_, ((t390.toList != t393.toList)), (by first | rfl | (simp; done) | (simp [*]; done)), H', ⟨by first | omega | exact qva _⟩, ⟨by (with_reducible repeat first | apply qx | apply qy | apply qz); exact qga HO379.out (fun _ hk => trivial)⟩, ⟨by repeat (first | (with_reducible first | exact HB.out | apply qh | apply qe | apply qg) | exact HB.out)⟩⟩
       ·rw [if_neg c28] at H
        first | exact absurd (laws_FnForms.j0f H) (by rw [HRT.out]; decide) | exact absurd (laws_FnForms.j2f H) (by rw [HRT.out]; decide) | exact absurd (laws_FnForms.j3f H) (by rw [HRT.out]; decide)
     ·rw [if_neg c17] at H
      first | exact absurd (laws_FnForms.j0f H) (by rw [HRT.out]; decide) | exact absurd (laws_FnForms.j2f H) (by rw [HRT.out]; decide) | exact absurd (laws_FnForms.j3f H) (by rw [HRT.out]; decide)
    ·rw [if_neg c14] at H
     first | exact absurd (laws_FnForms.j0f H) (by rw [HRT.out]; decide) | exact absurd (laws_FnForms.j2f H) (by rw [HRT.out]; decide) | exact absurd (laws_FnForms.j3f H) (by rw [HRT.out]; decide)
   ·replace c11 := Bool.eq_false_iff.mpr c11
    subst c11; rw [if_neg (show ¬ (false = true) by decide)] at H; have H1 := H; clear H; have H := H1; clear H1; have H' := qa H; clear H
    go_wp2_with (first | ((with_reducible refine qqa (f := 9) rfl ?_); refine goesL_ (some 23) rfl rfl Try.func9 (by kernel_rfl) rfl #[.string t376] rfl (by (try simp only [qs, qv, qw]); first | done | rfl | (simp only [qu, qt]; rfl)) ?_; (with_reducible refine (spec_NeighboursOf.calls k t376 t380 _ A9.out).mono ?_); rintro e w55 ⟨v381, rfl, ho0, hb⟩; refine ⟨_, rfl, ?_⟩; have n0_ := qa (qsa (by (with_reducible repeat first | apply qx | apply qy | apply qz); exact HO379.out) (qya ho0) hb); have n1_ := qa (qxa (Kd.R_new' ho0 (Kd.R_lt (by (with_reducible repeat first | apply qx | apply qy | apply qz); exact HO379.out))) (qp (by repeat (first | (with_reducible first | exact HB.out | apply qh | apply qe | apply qg) | exact HB.out)))); have n2_ := qa (qba (by repeat (first | (with_reducible first | exact HB.out | apply qh | apply qe | apply qg) | exact HB.out)) hb); clear HO379; clear HB; have HO379 := n0_; have HO382 := n1_; have HB := n2_; clear n0_ n1_ n2_; (try clear hb); (try clear hb2); (try clear hk); (try clear hi); (try clear ho0); obtain ⟨Ao56, co56, eo56⟩ := Kd.R_slice HO379.out; subst eo56; obtain ⟨Ao57, co57, eo57⟩ := Kd.R_slice HO382.out; subst eo57) | ((with_reducible refine qqa (f := 8) rfl ?_); refine goesL_ (some 24) rfl rfl Try.func8 (by kernel_rfl) rfl #[.slice Ao56 t377.length co56, .slice Ao57 t380.length co57] rfl (by (try simp only [qs, qv, qw]); first | done | rfl | (simp only [qu, qt]; rfl)) ?_; (with_reducible refine (laws_sameTexts.calls k _ _ t377 _ _ t380 false _ ?side1 ?side2 ?side3 ?side4 A10.out).mono ?_); (case side1 => repeat (first | exact (qra HO379.out).2.2 | (with_reducible first | apply qda | apply qea | apply qfa))); (case side2 => exact (qra HO379.out).2.1); (case side3 => repeat (first | exact (qra HO382.out).2.2 | (with_reducible first | apply qda | apply qea | apply qfa))); (case side4 => exact (qra HO382.out).2.1); rintro e w' ⟨rfl, ⟨nd, rfl⟩⟩; refine ⟨_, rfl, ?_⟩))
    go_meet
    case rel => exact ⟨_, (true), (by first | rfl | (simp; done) | (simp [*]; done)), H', ⟨by first | omega | exact qva _⟩, ⟨by (with_reducible repeat first | apply qx | apply qy | apply qz); exact qga HO379.out (fun _ hk => trivial)⟩, ⟨by repeat (first | (with_reducible first | exact HB.out | apply qh | apply qe | apply qg) | exact HB.out)⟩⟩
  case rest =>
   clear HC6; (try clear c1); (try clear c2); (try clear p2); (try clear c3); (try clear c5); (try clear c6); (try clear c7); (try clear c8); (try clear c9); (try clear c11); (try clear c14); (try clear c14b0); (try clear c14b1); (try clear c17); (try clear c17b0); (try clear c17b1); (try clear c20); (try clear c20b0); (try clear c20b1); (try clear c20b2); (try clear c28); (try clear c28b0); (try clear c28b1); obtain ⟨kq, x60_5, rfl, HA, HJ5, HO_4, HB⟩ := hcut
   cases kq with
   | zero => exact absurd HA.out (by simp [laws_FnForms.j0])
   | succ kj5 =>
    have H := HA.out; clear HA; simp only [laws_FnForms.j0] at H
    by_cases c58 : x60_5 = true
    ·subst c58
     rw [if_pos rfl] at H; have H1 := H; exact absurd (qca H1) (by rw [HRT.out]; decide)
    ·replace c58 := Bool.eq_false_iff.mpr c58
     subst c58; rw [if_neg (show ¬ (false = true) by decide)] at H; have H1 := H; clear H; have H := H1; clear H1; have H' := qa H; clear H; go_wp2
     go_loopg [5] kj5 (fun kq v5 w' => ∃ (x5_2 : Int), v5 = .int .i64 x5_2 ∧ Aside0 (laws_FnForms.l0 kq l0 t376 t377 x5_2 = some r) ∧ Aside0 (kq ≤ kj5) ∧ Aside0 (Kd.R Kd.string 9 w' w.heap.size (fun _ => True) v378 t377) ∧ Aside0 (Below w.heap.size w w'))
     case atStart => exact ⟨(0), (by first | rfl | (simp; done) | (simp [*]; done)), H', ⟨qva _⟩, ⟨by (with_reducible repeat first | apply qx | apply qy | apply qz); exact HO_4.out⟩, ⟨by repeat (first | (with_reducible first | exact HB.out | apply qh | apply qe | apply qg) | exact HB.out)⟩⟩
     case round =>
      clear H'; (try clear c1); (try clear c2); (try clear p2); (try clear c3); (try clear c5); (try clear c6); (try clear c7); (try clear c8); (try clear c9); (try clear c11); (try clear c14); (try clear c14b0); (try clear c14b1); (try clear c17); (try clear c17b0); (try clear c17b1); (try clear c20); (try clear c20b0); (try clear c20b1); (try clear c20b2); (try clear c28); (try clear c28b0); (try clear c28b1); (try clear c58); (try clear p2); obtain ⟨x5_2, rfl, HA, HK2, HO_4, HB⟩ := hrel
      cases gk with
      | zero => exact absurd HA.out (by simp [laws_FnForms.l0])
      | succ k2 =>
       have H := HA.out; clear HA; simp only [laws_FnForms.l0] at H
       by_cases c59 : x5_2 < (t377.length : Int)
       ·rw [if_pos c59] at H
        have c59b0 : decide (x5_2 < (t377.length : Int)) = true := qq c59; clear c59
        by_cases c60 : 0 ≤ x5_2
        ·rw [if_pos c60] at H
         have c60b0 : decide (0 ≤ x5_2) = true := qq c60; clear c60; obtain ⟨t395, A610, H⟩ := zb H; (try dsimp only at H); have A61 := qa A610; clear A610
         by_cases c62 : t395 = 1
         ·rw [if_pos c62] at H
          have c62b0 : (t395 == 1) = true := ze c62; have c62b1 : (t395 != 1) = false := zc c62; clear c62; have H' := qa H; clear H; obtain ⟨Ao63, co63, eo63⟩ := Kd.R_slice HO_4.out; subst eo63; have p394 : 0 ≤ (x5_2 : Int) := qm (by assumption); have q394 : x5_2 < (t377.length : Int) := qm (by assumption); obtain ⟨ad394, e394, hx394_0⟩ := Kd.at_string (qra HO_4.out).2.2 x5_2 p394 q394; cases e394; replace p394 := qaa p394; replace q394 := qaa q394
          go_wp2_with (first | ((with_reducible refine qqa (f := 18) rfl ?_); refine goesL_ (some 72) rfl rfl Try.func18 (by kernel_rfl) rfl #[.string t376, .string (rdOf ByteArray.empty t377 x5_2)] rfl (by (try simp only [qs, qv, qw]); first | done | rfl | (simp only [qu, qt]; rfl)) ?_; (with_reducible refine (impl_DistanceBetween.calls k2 t376 (rdOf ByteArray.empty t377 x5_2) t395 _ A61.out).mono ?_); rintro e w64 ⟨rfl, hb⟩; refine ⟨_, rfl, ?_⟩; have n0_ := qa (qoa (by (with_reducible repeat first | apply qx | apply qy | apply qz); exact HO_4.out) hb); have n1_ := qa (qba (by repeat (first | (with_reducible first | exact HB.out | apply qh | apply qe | apply qg) | exact HB.out)) hb); clear HO_4; clear HB; have HO_4 := n0_; have HB := n1_; clear n0_ n1_; (try clear hb); (try clear hb2); (try clear hk); (try clear hi)))
          go_roundg k2
          case measure => have := HJ5.out; have := HK2.out; omega
          case rel => exact ⟨(wrap64 (x5_2 + 1)), (by first | rfl | (simp; done) | (simp [*]; done)), H', ⟨by have := HJ5.out; have := HK2.out; omega⟩, ⟨by (with_reducible repeat first | apply qx | apply qy | apply qz); exact HO_4.out⟩, ⟨by repeat (first | (with_reducible first | exact HB.out | apply qh | apply qe | apply qg) | exact HB.out)⟩⟩
         ·rw [if_neg c62] at H
          exact absurd (qca H) (by rw [HRT.out]; decide)
        ·rw [if_neg c60] at H
         exact absurd H (by simp)
       ·rw [if_neg c59] at H
        have c59b0 : decide (x5_2 < (t377.length : Int)) = false := qr c59; clear c59; obtain ⟨⟨t396, t397⟩, A670, H⟩ := zb H; (try dsimp only at H); have A67 := qa A670; clear A670; obtain ⟨t398, A680, H⟩ := zb H; (try dsimp only at H); have A68 := qa A680; clear A680; have HC69 := qa H; clear H; obtain ⟨Ao70, co70, eo70⟩ := Kd.R_slice HO_4.out; subst eo70
        go_upto_region 14 with (first | ((with_reducible refine qqa (f := 19) rfl ?_); refine goesL_ (some 76) rfl rfl Try.func19 (by kernel_rfl) rfl #[.slice A0 l0.length c0] rfl (by (try simp only [qs, qv, qw]); first | done | rfl | (simp only [qu, qt]; rfl)) ?_; (with_reducible refine (spec_DrawDistanceBetween.calls k2 _ _ l0 t396 t397 _ ?side1 ?side2 A67.out).mono ?_); (case side1 => repeat (first | exact (Kd.C_below HR0.out HB.out) | (with_reducible first | apply qda | apply qea | apply qfa))); (case side2 => exact HC0.out); rintro e w71 ⟨rfl, hb⟩; refine ⟨_, rfl, ?_⟩; have n0_ := qa (qoa (by (with_reducible repeat first | apply qx | apply qy | apply qz); exact HO_4.out) hb); have n1_ := qa (qba (by repeat (first | (with_reducible first | exact HB.out | apply qh | apply qe | apply qg) | exact HB.out)) hb); clear HO_4; clear HB; have HO_4 := n0_; have HB := n1_; clear n0_ n1_; (try clear hb); (try clear hb2); (try clear hk); (try clear hi)) | ((with_reducible refine qqa (f := 18) rfl ?_); refine goesL_ (some 81) rfl rfl Try.func18 (by kernel_rfl) rfl #[.string t396, .string t397] rfl (by (try simp only [qs, qv, qw]); first | done | rfl | (simp only [qu, qt]; rfl)) ?_; (with_reducible refine (impl_DistanceBetween.calls k2 t396 t397 t398 _ A68.out).mono ?_); rintro e w72 ⟨rfl, hb⟩; refine ⟨_, rfl, ?_⟩; have n0_ := qa (qoa (by (with_reducible repeat first | apply qx | apply qy | apply qz); exact HO_4.out) hb); have n1_ := qa (qba (by repeat (first | (with_reducible first | exact HB.out | apply qh | apply qe | apply qg) | exact HB.out)) hb); clear HO_4; clear HB; have HO_4 := n0_; have HB := n1_; clear n0_ n1_; (try clear hb); (try clear hb2); (try clear hk); (try clear hi)))
        (try simp only [Act.put, qb, qc, qd])
        go_cut [105] (fun v105 wc => ∃ (kq : Nat) (x105_68 : Bool), v105 = .bool x105_68 ∧ Aside0 (laws_FnForms.j2 kq l0 t376 x105_68 = some r) ∧ Aside0 (kq ≤ k2) ∧ Aside0 (Below w.heap.size w wc))
        case first =>
         have H := HC69.out; clear HC69; obtain ⟨t399, A730, H⟩ := zb H; (try dsimp only at H); have A73 := qa A730; clear A730
         by_cases c74 : t398 = t399
         ·rw [if_pos c74] at H
          have c74b0 : (t398 == t399) = true := ze c74; have c74b1 : (t398 != t399) = false := zc c74; clear c74
          (first | rw [c74b0] | (simp only [i64_w, i32_w]; rw [c74b0]) | skip)
          obtain ⟨t400, A750, H⟩ := zb H; (try dsimp only at H); have A75 := qa A750; clear A750
          by_cases c76 : t398 = t400
          ·rw [if_pos c76] at H
           have c76b0 : (t398 == t400) = true := ze c76; have c76b1 : (t398 != t400) = false := zc c76; clear c76
           by_cases c77 : t398 ≥ 0
           ·rw [if_pos c77] at H
            have c77b0 : decide (0 ≤ t398) = true := qq c77; clear c77; have H' := qa H; clear H
            go_wp2_with (first | ((with_reducible refine qqa (f := 20) rfl ?_); refine goesL_ (some 85) rfl rfl Try.func20 (by kernel_rfl) rfl #[.string t396, .string t397] rfl (by (try simp only [qs, qv, qw]); first | done | rfl | (simp only [qu, qt]; rfl)) ?_; (with_reducible refine (spec_DistanceBetween.calls k2 t396 t397 t399 _ A73.out).mono ?_); rintro e w78 ⟨rfl, hb⟩; refine ⟨_, rfl, ?_⟩; have n0_ := qa (qoa (by (with_reducible repeat first | apply qx | apply qy | apply qz); exact HO_4.out) hb); have n1_ := qa (qba (by repeat (first | (with_reducible first | exact HB.out | apply qh | apply qe | apply qg) | exact HB.out)) hb); clear HO_4; clear HB; have HO_4 := n0_; have HB := n1_; clear n0_ n1_; (try clear hb); (try clear hb2); (try clear hk); (try clear hi)) | (go_at_call 18; (with_reducible refine (impl_DistanceBetween.calls k2 t397 t396 t400 _ A75.out).mono ?_); rintro e w79 ⟨rfl, hb⟩; have n0_ := qa (qoa (by (with_reducible repeat first | apply qx | apply qy | apply qz); exact HO_4.out) hb); have n1_ := qa (qba (by repeat (first | (with_reducible first | exact HB.out | apply qh | apply qe | apply qg) | exact HB.out)) hb); clear HO_4; clear HB; have HO_4 := n0_; have HB := n1_; clear n0_ n1_; (try clear hb); (try clear hb2); (try clear hk); (try clear hi)))
            go_meet
            case rel => exact ⟨_, (((t398 == 0) != (t396.toList == t397.toList))), (by first | rfl | (simp; done) | (simp [*]; done)), H', ⟨by have := HJ5.out; have := HK2.out; first | omega | exact qva _⟩, ⟨by repeat (first | (with_reducible first | exact HB.out | apply qh | apply qe | apply qg) | exact HB.out)⟩⟩
           ·rw [if_neg c77] at H
            have c77b0 : decide (0 ≤ t398) = false := qr c77; clear c77; have H' := qa H; clear H
            go_wp2_with (first | ((with_reducible refine qqa (f := 20) rfl ?_); refine goesL_ (some 85) rfl rfl Try.func20 (by kernel_rfl) rfl #[.string t396, .string t397] rfl (by (try simp only [qs, qv, qw]); first | done | rfl | (simp only [qu, qt]; rfl)) ?_; (with_reducible refine (spec_DistanceBetween.calls k2 t396 t397 t399 _ A73.out).mono ?_); rintro e w80 ⟨rfl, hb⟩; refine ⟨_, rfl, ?_⟩; have n0_ := qa (qoa (by (with_reducible repeat first | apply qx | apply qy | apply qz); exact HO_4.out) hb); have n1_ := qa (qba (by repeat (first | (with_reducible first | exact HB.out | apply qh | apply qe | apply qg) | exact HB.out)) hb); clear HO_4; clear HB; have HO_4 := n0_; have HB := n1_; clear n0_ n1_; (try clear hb); (try clear hb2); (try clear hk); (try clear hi)) | (go_at_call 18; (with_reducible refine (impl_DistanceBetween.calls k2 t397 t396 t400 _ A75.out).mono ?_); rintro e w81 ⟨rfl, hb⟩; have n0_ := qa (qoa (by (with_reducible repeat first | apply qx | apply qy | apply qz); exact HO_4.out) hb); have n1_ := qa (qba (by repeat (first | (with_reducible first | exact HB.out | apply qh | apply qe | apply qg) | exact HB.out)) hb); clear HO_4; clear HB; have HO_4 := n0_; have HB := n1_; clear n0_ n1_; (try clear hb); (try clear hb2); (try clear hk); (try clear hi)))
            go_meet
            case rel => exact ⟨_, (false), (by first | rfl | (simp; done) | (simp [*]; done)), H', ⟨by have := HJ5.out; have := HK2.out; first | omega | exact qva _⟩, ⟨by repeat (first | (with_reducible first | exact HB.out | apply qh | apply qe | apply qg) | exact HB.out)⟩⟩
          ·rw [if_neg c76] at H
           first | exact absurd (laws_FnForms.j0f H) (by rw [HRT.out]; decide) | exact absurd (laws_FnForms.j2f H) (by rw [HRT.out]; decide) | exact absurd (laws_FnForms.j3f H) (by rw [HRT.out]; decide)
         ·rw [if_neg c74] at H
          first | exact absurd (laws_FnForms.j0f H) (by rw [HRT.out]; decide) | exact absurd (laws_FnForms.j2f H) (by rw [HRT.out]; decide) | exact absurd (laws_FnForms.j3f H) (by rw [HRT.out]; decide)
        case rest =>
         clear HC69; (try clear c1); (try clear c2); (try clear p2); (try clear c3); (try clear p3); (try clear q3); (try clear hx3); (try clear c5); (try clear c6); (try clear p6); (try clear c7); (try clear c8); (try clear c9); (try clear c11); (try clear c14); (try clear c14b0); (try clear c14b1); (try clear c17); (try clear c17b0); (try clear c17b1); (try clear c18); (try clear c19); (try clear c20); (try clear c20b0); (try clear c20b1); (try clear c20b2); (try clear c28); (try clear c28b0); (try clear c28b1); (try clear p39); (try clear q39); (try clear hx39); (try clear c58); (try clear c59); (try clear c59b0); (try clear c60); (try clear c60b0); (try clear c62); (try clear c62b0); (try clear c62b1); (try clear p64); (try clear c74); (try clear c74b0); (try clear c74b1); (try clear c76); (try clear c76b0); (try clear c76b1); (try clear c77); (try clear c77b0); (try clear hx394_0); (try clear p2); (try clear p394); (try clear q394); obtain ⟨kq, x105_68, rfl, HA, HJ68, HB⟩ := hcut
         cases kq with
         | zero => exact absurd HA.out (by simp [laws_FnForms.j2])
         | succ kj68 =>
          have H := HA.out; clear HA; simp only [laws_FnForms.j2] at H
          by_cases c85 : x105_68 = true
          ·subst c85
           rw [if_pos rfl] at H; have H1 := H; exact absurd (qca H1) (by rw [HRT.out]; decide)
          ·replace c85 := Bool.eq_false_iff.mpr c85
           subst c85; rw [if_neg (show ¬ (false = true) by decide)] at H; have H1 := H; clear H; have H := H1; clear H1; obtain ⟨t401, A860, H⟩ := zb H; (try dsimp only at H); have A86 := qa A860; clear A860; obtain ⟨t404, A870, H⟩ := zb H; (try dsimp only at H); have A87 := qa A870; clear A870; have HC88 := qa H; clear H
           go_upto_region 18 with (first | ((with_reducible refine qqa (f := 21) rfl ?_); refine goesL_ (some 107) rfl rfl Try.func21 (by kernel_rfl) rfl #[.string t376] rfl (by (try simp only [qs, qv, qw]); first | done | rfl | (simp only [qu, qt]; rfl)) ?_; (with_reducible refine (impl_SyllablesOf.calls kj68 t376 t401 _ A86.out).mono ?_); rintro e w89 ⟨v402, rfl, ho0, hb⟩; refine ⟨_, rfl, ?_⟩; have n0_ := qa (qxa ho0 (qp (by repeat (first | (with_reducible first | exact HB.out | apply qh | apply qe | apply qg) | exact HB.out)))); have n1_ := qa (qba (by repeat (first | (with_reducible first | exact HB.out | apply qh | apply qe | apply qg) | exact HB.out)) hb); clear HB; have HO403 := n0_; have HB := n1_; clear n0_ n1_; (try clear hb); (try clear hb2); (try clear hk); (try clear hi); (try clear ho0)) | ((with_reducible refine qqa (f := 22) rfl ?_); refine goesL_ (some 109) rfl rfl Try.func22 (by kernel_rfl) rfl #[.string t376] rfl (by (try simp only [qs, qv, qw]); first | done | rfl | (simp only [qu, qt]; rfl)) ?_; (with_reducible refine (spec_SyllablesOf.calls kj68 t376 t404 _ A87.out).mono ?_); rintro e w90 ⟨v405, rfl, ho0, hb⟩; refine ⟨_, rfl, ?_⟩; have n0_ := qa (qsa (by (with_reducible repeat first | apply qx | apply qy | apply qz); exact HO403.out) (qya ho0) hb); have n1_ := qa (qxa (Kd.R_new' ho0 (Kd.R_lt (by (with_reducible repeat first | apply qx | apply qy | apply qz); exact HO403.out))) (qp (by repeat (first | (with_reducible first | exact HB.out | apply qh | apply qe | apply qg) | exact HB.out)))); have n2_ := qa (qba (by repeat (first | (with_reducible first | exact HB.out | apply qh | apply qe | apply qg) | exact HB.out)) hb); clear HO403; clear HB; have HO403 := n0_; have HO406 := n1_; have HB := n2_; clear n0_ n1_ n2_; (try clear hb); (try clear hb2); (try clear hk); (try clear hi); (try clear ho0)))
           (try simp only [Act.put, qb, qc, qd])
           go_cut [153] (fun v153 wc => ∃ (kq : Nat) (x153_87 : Bool), v153 = .bool x153_87 ∧ Aside0 (laws_FnForms.j3 kq l0 t401 t404 x153_87 = some r) ∧ Aside0 (kq ≤ kj68) ∧ Aside0 (Kd.R k38 38 wc w.heap.size (fun k_ => some k_ ≠ (v405 : Value).ownBlock) v402 t401) ∧ Aside0 (Kd.R k38 38 wc w.heap.size (fun k_ => some k_ ≠ (v402 : Value).ownBlock) v405 t404) ∧ Aside0 (Below w.heap.size w wc))
           case first =>
            have H := HC88.out; clear HC88
            by_cases c91 : (t401.length : Int) = (t404.length : Int)
            ·rw [if_pos c91] at H
             have c91b0 : ((t401.length : Int) == (t404.length : Int)) = true := ze c91; have c91b1 : ((t401.length : Int) != (t404.length : Int)) = false := zc c91
             have c91b2 : (t401.length == t404.length) = true := by first | simpa using c91 | (simp at c91 ⊢; omega)
             clear c91
             (first | rw [c91b0] | (simp only [i64_w, i32_w]; rw [c91b0]) | skip)
             obtain ⟨t407, A920, H⟩ := zb H; (try dsimp only at H); have A92 := qa A920; clear A920
             by_cases c93 : t407 = (t404.length : Int)
             ·rw [if_pos c93] at H
              have c93b0 : (t407 == (t404.length : Int)) = true := ze c93; have c93b1 : (t407 != (t404.length : Int)) = false := zc c93; clear c93
              by_cases c94 : (t404.length : Int) > 0
              ·rw [if_pos c94] at H
               have c94b0 : decide (0 < (t404.length : Int)) = true := qq c94; have c94b1 : decide (0 < t404.length) = true := qq (by omega); clear c94; obtain ⟨t408, A950, H⟩ := zb H; (try dsimp only at H); have A95 := qa A950; clear A950
               by_cases c96 : t408.toList = t376.toList
               ·rw [if_pos c96] at H
                have c96b0 : (t408.toList == t376.toList) = true := ze c96; have c96b1 : (t408.toList != t376.toList) = false := zc c96; clear c96; obtain ⟨t409, A970, H⟩ := zb H; (try dsimp only at H); have A97 := qa A970; clear A970
                by_cases c98 : (t404.length : Int) = t409
                ·rw [if_pos c98] at H
                 have c98b0 : ((t404.length : Int) == t409) = true := ze c98; have c98b1 : ((t404.length : Int) != t409) = false := zc c98; clear c98; obtain ⟨t410, A990, H⟩ := zb H; (try dsimp only at H); have A99 := qa A990; clear A990; obtain ⟨t411, A1000, H⟩ := zb H; (try dsimp only at H); have A100 := qa A1000; clear A1000
                 by_cases c101 : t410.toList = t411.toList
                 ·rw [if_pos c101] at H
                  have c101b0 : (t410.toList == t411.toList) = true := ze c101; have c101b1 : (t410.toList != t411.toList) = false := zc c101; clear c101; obtain ⟨t412, A1020, H⟩ := zb H; (try dsimp only at H); have A102 := qa A1020; clear A1020; obtain ⟨t413, A1030, H⟩ := zb H; (try dsimp only at H); have A103 := qa A1030; clear A1030; have H' := qa H; clear H; obtain ⟨Ao104, co104, eo104⟩ := Kd.R_slice HO403.out; subst eo104; obtain ⟨Ao105, co105, eo105⟩ := Kd.R_slice HO406.out; subst eo105
                  go_wp2_with (first | (go_at_call 23; (with_reducible refine (impl_CountSyllables.calls kj68 t376 t407 _ A92.out).mono ?_); rintro e w106 ⟨rfl, hb⟩; have n0_ := qa (qoa (by (with_reducible repeat first | apply qx | apply qy | apply qz); exact HO403.out) hb); have n1_ := qa (qoa (by (with_reducible repeat first | apply qx | apply qy | apply qz); exact HO406.out) hb); have n2_ := qa (qba (by repeat (first | (with_reducible first | exact HB.out | apply qh | apply qe | apply qg) | exact HB.out)) hb); clear HO403; clear HO406; clear HB; have HO403 := n0_; have HO406 := n1_; have HB := n2_; clear n0_ n1_ n2_; (try clear hb); (try clear hb2); (try clear hk); (try clear hi)) | (go_at_call 24; (with_reducible refine (impl_JoinSyllables.calls kj68 _ _ t404 t408 _ ?side1 ?side2 A95.out).mono ?_); (case side1 => repeat (first | exact (qra HO406.out).2.2 | (with_reducible first | apply qda | apply qea | apply qfa))); (case side2 => exact (qra HO406.out).2.1); rintro e w107 ⟨rfl, hb⟩; have n0_ := qa (qoa (by (with_reducible repeat first | apply qx | apply qy | apply qz); exact HO403.out) hb); have n1_ := qa (qoa (by (with_reducible repeat first | apply qx | apply qy | apply qz); exact HO406.out) hb); have n2_ := qa (qba (by repeat (first | (with_reducible first | exact HB.out | apply qh | apply qe | apply qg) | exact HB.out)) hb); clear HO403; clear HO406; clear HB; have HO403 := n0_; have HO406 := n1_; have HB := n2_; clear n0_ n1_ n2_; (try clear hb); (try clear hb2); (try clear hk); (try clear hi)) | (go_at_call 12; (with_reducible refine (impl_CountVowels.calls kj68 t376 t409 _ A97.out).mono ?_); rintro e w108 ⟨rfl, hb⟩; have n0_ := qa (qoa (by (with_reducible repeat first | apply qx | apply qy | apply qz); exact HO403.out) hb); have n1_ := qa (qoa (by (with_reducible repeat first | apply qx | apply qy | apply qz); exact HO406.out) hb); have n2_ := qa (qba (by repeat (first | (with_reducible first | exact HB.out | apply qh | apply qe | apply qg) | exact HB.out)) hb); clear HO403; clear HO406; clear HB; have HO403 := n0_; have HO406 := n1_; have HB := n2_; clear n0_ n1_ n2_; (try clear hb); (try clear hb2); (try clear hk); (try clear hi)) | (go_at_call 25; (with_reducible refine (impl_FormatSyllables.calls kj68 _ _ t404 t410 _ ?side1 ?side2 A99.out).mono ?_); (case side1 => repeat (first | exact (qra HO406.out).2.2 | (with_reducible first | apply qda | apply qea | apply qfa))); (case side2 => exact (qra HO406.out).2.1); rintro e w109 ⟨rfl, hb⟩; have n0_ := qa (qoa (by (with_reducible repeat first | apply qx | apply qy | apply qz); exact HO403.out) hb); have n1_ := qa (qoa (by (with_reducible repeat first | apply qx | apply qy | apply qz); exact HO406.out) hb); have n2_ := qa (qba (by repeat (first | (with_reducible first | exact HB.out | apply qh | apply qe | apply qg) | exact HB.out)) hb); clear HO403; clear HO406; clear HB; have HO403 := n0_; have HO406 := n1_; have HB := n2_; clear n0_ n1_ n2_; (try clear hb); (try clear hb2); (try clear hk); (try clear hi)) | (go_at_call 26; (with_reducible refine (spec_FormatSyllables.calls kj68 _ _ t404 t411 _ ?side1 ?side2 A100.out).mono ?_); (case side1 => repeat (first | exact (qra HO406.out).2.2 | (with_reducible first | apply qda | apply qea | apply qfa))); (case side2 => exact (qra HO406.out).2.1); rintro e w' ⟨rfl, ⟨nd, rfl⟩⟩) | (go_at_call 27; (with_reducible refine (impl_IsRegular.calls kj68 t376 t412 _ A102.out).mono ?_); rintro e w110 ⟨rfl, hb⟩; have n0_ := qa (qoa (by (with_reducible repeat first | apply qx | apply qy | apply qz); exact HO403.out) hb); have n1_ := qa (qoa (by (with_reducible repeat first | apply qx | apply qy | apply qz); exact HO406.out) hb); have n2_ := qa (qba (by repeat (first | (with_reducible first | exact HB.out | apply qh | apply qe | apply qg) | exact HB.out)) hb); clear HO403; clear HO406; clear HB; have HO403 := n0_; have HO406 := n1_; have HB := n2_; clear n0_ n1_ n2_; (try clear hb); (try clear hb2); (try clear hk); (try clear hi)) | (go_at_call 28; (with_reducible refine (spec_IsRegular.calls kj68 t376 t413 _ A103.out).mono ?_); rintro e w111 ⟨rfl, hb⟩; have n0_ := qa (qoa (by (with_reducible repeat first | apply qx | apply qy | apply qz); exact HO403.out) hb); have n1_ := qa (qoa (by (with_reducible repeat first | apply qx | apply qy | apply qz); exact HO406.out) hb); have n2_ := qa (qba (by repeat (first | (with_reducible first | exact HB.out | apply qh | apply qe | apply qg) | exact HB.out)) hb); clear HO403; clear HO406; clear HB; have HO403 := n0_; have HO406 := n1_; have HB := n2_; clear n0_ n1_ n2_; (try clear hb); (try clear hb2); (try clear hk); (try clear hi)))
                  go_meet
                  case rel => exact ⟨_, ((t412 != t413)), (by first | rfl | (simp; done) | (simp [*]; done)), H', ⟨by have := HJ5.out; have := HK2.out; have := HJ68.out; first | omega | exact qva _⟩, ⟨by (with_reducible repeat first | apply qx | apply qy | apply qz); exact qga HO403.out (fun _ hk => hk.2)⟩, ⟨by (with_reducible repeat first | apply qx | apply qy | apply qz); exact qga HO406.out (fun _ hk => hk.2)⟩, ⟨by repeat (first | (with_reducible first | exact HB.out | apply qh | apply qe | apply qg) | exact HB.out)⟩⟩
                 ·rw [if_neg c101] at H
                  first | exact absurd (laws_FnForms.j0f H) (by rw [HRT.out]; decide) | exact absurd (laws_FnForms.j2f H) (by rw [HRT.out]; decide) | exact absurd (laws_FnForms.j3f H) (by rw [HRT.out]; decide)
                ·rw [if_neg c98] at H
                 first | exact absurd (laws_FnForms.j0f H) (by rw [HRT.out]; decide) | exact absurd (laws_FnForms.j2f H) (by rw [HRT.out]; decide) | exact absurd (laws_FnForms.j3f H) (by rw [HRT.out]; decide)
               ·rw [if_neg c96] at H
                first | exact absurd (laws_FnForms.j0f H) (by rw [HRT.out]; decide) | exact absurd (laws_FnForms.j2f H) (by rw [HRT.out]; decide) | exact absurd (laws_FnForms.j3f H) (by rw [HRT.out]; decide)
              ·rw [if_neg c94] at H
               have c94b0 : decide (0 < (t404.length : Int)) = false := qr c94; have c94b1 : decide (0 < t404.length) = false := qr (by omega); clear c94; obtain ⟨t414, A1270, H⟩ := zb H; (try dsimp only at H); have A127 := qa A1270; clear A1270; obtain ⟨t415, A1280, H⟩ := zb H; (try dsimp only at H); have A128 := qa A1280; clear A1280
               by_cases c129 : t414.toList = t415.toList
               ·rw [if_pos c129] at H
                have c129b0 : (t414.toList == t415.toList) = true := ze c129; have c129b1 : (t414.toList != t415.toList) = false := zc c129; clear c129; obtain ⟨t416, A1300, H⟩ := zb H; (try dsimp only at H); have A130 := qa A1300; clear A1300; obtain ⟨t417, A1310, H⟩ := zb H; (try dsimp only at H); have A131 := qa A1310; clear A1310; have H' := qa H; clear H; obtain ⟨Ao132, co132, eo132⟩ := Kd.R_slice HO403.out; subst eo132; obtain ⟨Ao133, co133, eo133⟩ := Kd.R_slice HO406.out; subst eo133
                go_wp2_with (first | (go_at_call 23; (with_reducible refine (impl_CountSyllables.calls kj68 t376 t407 _ A92.out).mono ?_); rintro e w134 ⟨rfl, hb⟩; have n0_ := qa (qoa (by (with_reducible repeat first | apply qx | apply qy | apply qz); exact HO403.out) hb); have n1_ := qa (qoa (by (with_reducible repeat first | apply qx | apply qy | apply qz); exact HO406.out) hb); have n2_ := qa (qba (by repeat (first | (with_reducible first | exact HB.out | apply qh | apply qe | apply qg) | exact HB.out)) hb); clear HO403; clear HO406; clear HB; have HO403 := n0_; have HO406 := n1_; have HB := n2_; clear n0_ n1_ n2_; (try clear hb); (try clear hb2); (try clear hk); (try clear hi)) | (go_at_call 25; (with_reducible refine (impl_FormatSyllables.calls kj68 _ _ t404 t414 _ ?side1 ?side2 A127.out).mono ?_); (case side1 => repeat (first | exact (qra HO406.out).2.2 | (with_reducible first | apply qda | apply qea | apply qfa))); (case side2 => exact (qra HO406.out).2.1); rintro e w135 ⟨rfl, hb⟩; have n0_ := qa (qoa (by (with_reducible repeat first | apply qx | apply qy | apply qz); exact HO403.out) hb); have n1_ := qa (qoa (by (with_reducible repeat first | apply qx | apply qy | apply qz); exact HO406.out) hb); have n2_ := qa (qba (by repeat (first | (with_reducible first | exact HB.out | apply qh | apply qe | apply qg) | exact HB.out)) hb); clear HO403; clear HO406; clear HB; have HO403 := n0_; have HO406 := n1_; have HB := n2_; clear n0_ n1_ n2_; (try clear hb); (try clear hb2); (try clear hk); (try clear hi)) | (go_at_call 26; (with_reducible refine (spec_FormatSyllables.calls kj68 _ _ t404 t415 _ ?side1 ?side2 A128.out).mono ?_); (case side1 => repeat (first | exact (qra HO406.out).2.2 | (with_reducible first | apply qda | apply qea | apply qfa))); (case side2 => exact (qra HO406.out).2.1); rintro e w' ⟨rfl, ⟨nd, rfl⟩⟩) | (go_at_call 27; (with_reducible refine (impl_IsRegular.calls kj68 t376 t416 _ A130.out).mono ?_); rintro e w136 ⟨rfl, hb⟩; have n0_ := qa (qoa (by (with_reducible repeat first | apply qx | apply qy | apply qz); exact HO403.out) hb); have n1_ := qa (qoa (by (with_reducible repeat first | apply qx | apply qy | apply qz); exact HO406.out) hb); have n2_ := qa (qba (by repeat (first | (with_reducible first | exact HB.out | apply qh | apply qe | apply qg) | exact HB.out)) hb); clear HO403; clear HO406; clear HB; have HO403 := n0_; have HO406 := n1_; have HB := n2_; clear n0_ n1_ n2_; (try clear hb); (try clear hb2); (try clear hk); (try clear hi)) | (go_at_call 28; (with_reducible refine (spec_IsRegular.calls kj68 t376 t417 _ A131.out).mono ?_); rintro e w137 ⟨rfl, hb⟩; have n0_ := qa (qoa (by (with_reducible repeat first | apply qx | apply qy | apply qz); exact HO403.out) hb); have n1_ := qa (qoa (by (with_reducible repeat first | apply qx | apply qy | apply qz); exact HO406.out) hb); have n2_ := qa (qba (by repeat (first | (with_reducible first | exact HB.out | apply qh | apply qe | apply qg) | exact HB.out)) hb); clear HO403; clear HO406; clear HB; have HO403 := n0_; have HO406 := n1_; have HB := n2_; clear n0_ n1_ n2_; (try clear hb); (try clear hb2); (try clear hk); (try clear hi)))
                go_meet
                case rel => exact ⟨_, ((t416 != t417)), (by first | rfl | (simp; done) | (simp [*]; done)), H', ⟨by have := HJ5.out; have := HK2.out; have := HJ68.out; first | omega | exact qva _⟩, ⟨by (with_reducible repeat first | apply qx | apply qy | apply qz); exact qga HO403.out (fun _ hk => hk.2)⟩, ⟨by (with_reducible repeat first | apply qx | apply qy | apply qz); exact qga HO406.out (fun _ hk => hk.2)⟩, ⟨by repeat (first | (with_reducible first | exact HB.out | apply qh | apply qe | apply qg) | exact HB.out)⟩⟩
               ·rw [if_neg c129] at H
                first | exact absurd (laws_FnForms.j0f H) (by rw [HRT.out]; decide) | exact absurd (laws_FnForms.j2f H) (by rw [HRT.out]; decide) | exact absurd (laws_FnForms.j3f H) (by rw [HRT.out]; decide)
             ·rw [if_neg c93] at H
              first | exact absurd (laws_FnForms.j0f H) (by rw [HRT.out]; decide) | exact absurd (laws_FnForms.j2f H) (by rw [HRT.out]; decide) | exact absurd (laws_FnForms.j3f H) (by rw [HRT.out]; decide)
            ·rw [if_neg c91] at H
             first | exact absurd (laws_FnForms.j0f H) (by rw [HRT.out]; decide) | exact absurd (laws_FnForms.j2f H) (by rw [HRT.out]; decide) | exact absurd (laws_FnForms.j3f H) (by rw [HRT.out]; decide)
           case rest =>
            clear HC88; (try clear c1); (try clear c2); (try clear p2); (try clear c3); (try clear p3); (try clear q3); (try clear hx3); (try clear c5); (try clear c6); (try clear p6); (try clear c7); (try clear c8); (try clear c9); (try clear c10); (try clear c11); (try clear c12); (try clear c14); (try clear c14b0); (try clear c14b1); (try clear c17); (try clear c17b0); (try clear c17b1); (try clear c18); (try clear c19); (try clear c20); (try clear c20b0); (try clear c20b1); (try clear c20b2); (try clear c21); (try clear c22); (try clear c28); (try clear c28b0); (try clear c28b1); (try clear p39); (try clear q39); (try clear hx39); (try clear c58); (try clear c59); (try clear c59b0); (try clear c60); (try clear c60b0); (try clear c62); (try clear c62b0); (try clear c62b1); (try clear p64); (try clear c74); (try clear c74b0); (try clear c74b1); (try clear c76); (try clear c76b0); (try clear c76b1); (try clear c77); (try clear c77b0); (try clear c85); (try clear c91); (try clear c91b0); (try clear c91b1); (try clear c91b2); (try clear c93); (try clear c93b0); (try clear c93b1); (try clear c94); (try clear c94b0); (try clear c94b1); (try clear c96); (try clear c96b0); (try clear c96b1); (try clear c98); (try clear c98b0); (try clear c98b1); (try clear c101); (try clear c101b0); (try clear c101b1); (try clear c129); (try clear c129b0); (try clear c129b1); (try clear hx394_0); (try clear p2); (try clear p3); (try clear p39); (try clear p394); (try clear p6); (try clear p64); (try clear q3); (try clear q39); (try clear q394); obtain ⟨kq, x153_87, rfl, HA, HJ87, HO_9, HO_10, HB⟩ := hcut
            cases kq with
            | zero => exact absurd HA.out (by simp [laws_FnForms.j3])
            | succ kj87 =>
             have H := HA.out; clear HA; simp only [laws_FnForms.j3] at H
             by_cases c147 : x153_87 = true
             ·subst c147
              rw [if_pos rfl] at H; have H1 := H; exact absurd (qca H1) (by rw [HRT.out]; decide)
             ·replace c147 := Bool.eq_false_iff.mpr c147
              subst c147; rw [if_neg (show ¬ (false = true) by decide)] at H; have H1 := H; clear H; have H := H1; clear H1; have H' := qa H; clear H; go_wp2
              go_loopg [11] kj87 (fun kq v11 w' => ∃ (x11_5 : Int), v11 = .int .i64 x11_5 ∧ Aside0 (laws_FnForms.l1 kq l0 t401 t404 x11_5 = some r) ∧ Aside0 (kq ≤ kj87) ∧ Aside0 (Kd.R k38 38 w' w.heap.size (fun k_ => some k_ ≠ (v405 : Value).ownBlock) v402 t401) ∧ Aside0 (Kd.R k38 38 w' w.heap.size (fun k_ => some k_ ≠ (v402 : Value).ownBlock) v405 t404) ∧ Aside0 (Below w.heap.size w w'))
              case atStart => exact ⟨(0), (by first | rfl | (simp; done) | (simp [*]; done)), H', ⟨qva _⟩, ⟨by (with_reducible repeat first | apply qx | apply qy | apply qz); exact HO_9.out⟩, ⟨by (with_reducible repeat first | apply qx | apply qy | apply qz); exact HO_10.out⟩, ⟨by repeat (first | (with_reducible first | exact HB.out | apply qh | apply qe | apply qg) | exact HB.out)⟩⟩
              case round =>
               clear H'; (try clear c1); (try clear c2); (try clear p2); (try clear c3); (try clear p3); (try clear q3); (try clear hx3); (try clear c5); (try clear c6); (try clear p6); (try clear c7); (try clear c8); (try clear c9); (try clear c10); (try clear c11); (try clear c12); (try clear c14); (try clear c14b0); (try clear c14b1); (try clear c17); (try clear c17b0); (try clear c17b1); (try clear c18); (try clear c19); (try clear c20); (try clear c20b0); (try clear c20b1); (try clear c20b2); (try clear c21); (try clear c22); (try clear c28); (try clear c28b0); (try clear c28b1); (try clear p39); (try clear q39); (try clear hx39); (try clear c58); (try clear c59); (try clear c59b0); (try clear c60); (try clear c60b0); (try clear c62); (try clear c62b0); (try clear c62b1); (try clear p64); (try clear c74); (try clear c74b0); (try clear c74b1); (try clear c76); (try clear c76b0); (try clear c76b1); (try clear c77); (try clear c77b0); (try clear c85); (try clear c91); (try clear c91b0); (try clear c91b1); (try clear c91b2); (try clear c93); (try clear c93b0); (try clear c93b1); (try clear c94); (try clear c94b0); (try clear c94b1); (try clear c96); (try clear c96b0); (try clear c96b1); (try clear c98); (try clear c98b0); (try clear c98b1); (try clear c101); (try clear c101b0); (try clear c101b1); (try clear c129); (try clear c129b0); (try clear c129b1); (try clear c147); (try clear hx394_0); (try clear p2); (try clear p3); (try clear p39); (try clear p394); (try clear p6); (try clear p64); (try clear q3); (try clear q39); (try clear q394); obtain ⟨x11_5, rfl, HA, HK5, HO_9, HO_10, HB⟩ := hrel
               cases gk with
               | zero => exact absurd HA.out (by simp [laws_FnForms.l1])
               | succ k5 =>
                have H := HA.out; clear HA; simp only [laws_FnForms.l1] at H
                by_cases c148 : x11_5 < (t401.length : Int)
                ·rw [if_pos c148] at H
                 have c148b0 : decide (x11_5 < (t401.length : Int)) = true := qq c148; clear c148
                 by_cases c149 : 0 ≤ x11_5
                 ·rw [if_pos c149] at H
                  have c149b0 : decide (0 ≤ x11_5) = true := qq c149; clear c149
                  by_cases c150 : x11_5 < (t404.length : Int)
                  ·rw [if_pos c150] at H
                   have c150b0 : decide (x11_5 < (t404.length : Int)) = true := qq c150; clear c150
                   by_cases c151 : (!((((rd_T38 t401 x11_5).f0).toList) == (((rd_T38 t404 x11_5).f0).toList)) || (!((((rd_T38 t401 x11_5).f1).toList) == (((rd_T38 t404 x11_5).f1).toList)) || (!((((rd_T38 t401 x11_5).f2).toList) == (((rd_T38 t404 x11_5).f2).toList))))) = true
                   ·rw [if_pos c151] at H
                    exact absurd (qca H) (by rw [HRT.out]; decide)
                   ·rw [if_neg c151] at H
                    have c151b0 : (!((((rd_T38 t401 x11_5).f0).toList) == (((rd_T38 t404 x11_5).f0).toList)) || (!((((rd_T38 t401 x11_5).f1).toList) == (((rd_T38 t404 x11_5).f1).toList)) || (!((((rd_T38 t401 x11_5).f2).toList) == (((rd_T38 t404 x11_5).f2).toList))))) = false := by simpa using c151
                    clear c151; obtain ⟨t421, A1550, H⟩ := zb H; (try dsimp only at H); have A155 := qa A1550; clear A1550; obtain ⟨t423, A1560, H⟩ := zb H; (try dsimp only at H); have A156 := qa A1560; clear A1560
                    by_cases c157 : (t421 != t423) = true
                    ·rw [if_pos c157] at H
                     exact absurd (qca H) (by rw [HRT.out]; decide)
                    ·rw [if_neg c157] at H
                     have c157b0 : (t421 != t423) = false := by simpa using c157
                     (try (have c157b1 : decide (t421 = t423) = true := by simpa using c157)); (try (have c157b2 : (t421 == t423) = true := by simpa using c157)); clear c157; obtain ⟨t425, A1630, H⟩ := zb H; (try dsimp only at H); have A163 := qa A1630; clear A1630; obtain ⟨t427, A1640, H⟩ := zb H; (try dsimp only at H); have A164 := qa A1640; clear A1640
                     by_cases c165 : t425 = t427
                     ·rw [if_pos c165] at H
                      have c165b0 : (t425 == t427) = true := ze c165; have c165b1 : (t425 != t427) = false := zc c165; clear c165; have H' := qa H; clear H; obtain ⟨Ao166, co166, eo166⟩ := Kd.R_slice HO_9.out; subst eo166
                      try go_wp2
                      have n0_ := qa (qz HO_9.out); have n1_ := qa (qz HO_10.out); have n2_ := qa (qg HB.out); clear HO_9 HO_10 HB; have HO_9 := n0_; have HO_10 := n1_; have HB := n2_; clear n0_ n1_ n2_; have p418 : 0 ≤ (x11_5 : Int) := qm (by assumption); have q418 : x11_5 < (t401.length : Int) := qm (by assumption); obtain ⟨ad418, e418, hx418_0, hx418_1, hx418_2⟩ := at_T38 (qra HO_9.out).2.2 x11_5 p418 q418; cases e418; replace p418 := qaa p418; replace q418 := qaa q418; obtain ⟨Ao168, co168, eo168⟩ := Kd.R_slice HO_10.out
                      (first | subst eo168 | (injection eo168 with f1_ f2_ f3_; have f4_ := f1_.symm; have f5_ := f3_.symm; clear f1_ f2_ f3_; subst f4_; subst f5_))
                      have p419 : 0 ≤ (x11_5 : Int) := qm (by assumption); have q419 : x11_5 < (t404.length : Int) := qm (by assumption); obtain ⟨ad419, e419, hx419_0, hx419_1, hx419_2⟩ := at_T38 (qra HO_10.out).2.2 x11_5 p419 q419; cases e419; replace p419 := qaa p419; replace q419 := qaa q419; have p420 : 0 ≤ (x11_5 : Int) := qm (by assumption); have q420 : x11_5 < (t404.length : Int) := qm (by assumption); obtain ⟨ad420, e420, hx420_0, hx420_1, hx420_2⟩ := at_T38 (qra HO_10.out).2.2 x11_5 p420 q420
                      obtain rfl : ad419 = ad420 := (by injection e420)
                      replace p420 := qaa p420; replace q420 := qaa q420; have p422 : 0 ≤ (x11_5 : Int) := qm (by assumption); have q422 : x11_5 < (t404.length : Int) := qm (by assumption); obtain ⟨ad422, e422, hx422_0, hx422_1, hx422_2⟩ := at_T38 (qra HO_10.out).2.2 x11_5 p422 q422
                      obtain rfl : ad419 = ad422 := (by injection e422)
                      replace p422 := qaa p422; replace q422 := qaa q422; have p424 : 0 ≤ (x11_5 : Int) := qm (by assumption); have q424 : x11_5 < (t404.length : Int) := qm (by assumption); obtain ⟨ad424, e424, hx424_0, hx424_1, hx424_2⟩ := at_T38 (qra HO_10.out).2.2 x11_5 p424 q424
                      obtain rfl : ad419 = ad424 := (by injection e424)
                      replace p424 := qaa p424; replace q424 := qaa q424; have p426 : 0 ≤ (x11_5 : Int) := qm (by assumption); have q426 : x11_5 < (t404.length : Int) := qm (by assumption); obtain ⟨ad426, e426, hx426_0, hx426_1, hx426_2⟩ := at_T38 (qra HO_10.out).2.2 x11_5 p426 q426
                      obtain rfl : ad419 = ad426 := (by injection e426)
                      replace p426 := qaa p426; replace q426 := qaa q426; refine start_ (n := 35) (S := fun w' => w'.cell? (ad418.add ((x11_5).toNat * 3)) = some (.string ((rd_T38 t401 x11_5).f0)) ∧ w'.cell? ⟨(ad418.add ((x11_5).toNat * 3)).block, (ad418.add ((x11_5).toNat * 3)).off + 1, none⟩ = some (.string ((rd_T38 t401 x11_5).f1)) ∧ w'.cell? ⟨(ad418.add ((x11_5).toNat * 3)).block, (ad418.add ((x11_5).toNat * 3)).off + 2, none⟩ = some (.string ((rd_T38 t401 x11_5).f2)) ∧ w'.cell? (ad419.add ((x11_5).toNat * 3)) = some (.string ((rd_T38 t404 x11_5).f0)) ∧ w'.cell? ⟨(ad419.add ((x11_5).toNat * 3)).block, (ad419.add ((x11_5).toNat * 3)).off + 1, none⟩ = some (.string ((rd_T38 t404 x11_5).f1)) ∧ w'.cell? ⟨(ad419.add ((x11_5).toNat * 3)).block, (ad419.add ((x11_5).toNat * 3)).off + 2, none⟩ = some (.string ((rd_T38 t404 x11_5).f2)) ∧ w'.cell? (ad419.add ((x11_5).toNat * 3)) = some (.string ((rd_T38 t404 x11_5).f0)) ∧ w'.cell? ⟨(ad419.add ((x11_5).toNat * 3)).block, (ad419.add ((x11_5).toNat * 3)).off + 1, none⟩ = some (.string ((rd_T38 t404 x11_5).f1)) ∧ w'.cell? ⟨(ad419.add ((x11_5).toNat * 3)).block, (ad419.add ((x11_5).toNat * 3)).off + 2, none⟩ = some (.string ((rd_T38 t404 x11_5).f2)) ∧ w'.cell? (ad419.add ((x11_5).toNat * 3)) = some (.string ((rd_T38 t404 x11_5).f0)) ∧ w'.cell? ⟨(ad419.add ((x11_5).toNat * 3)).block, (ad419.add ((x11_5).toNat * 3)).off + 1, none⟩ = some (.string ((rd_T38 t404 x11_5).f1)) ∧ w'.cell? ⟨(ad419.add ((x11_5).toNat * 3)).block, (ad419.add ((x11_5).toNat * 3)).off + 2, none⟩ = some (.string ((rd_T38 t404 x11_5).f2)) ∧ w'.cell? (ad419.add ((x11_5).toNat * 3)) = some (.string ((rd_T38 t404 x11_5).f0)) ∧ w'.cell? ⟨(ad419.add ((x11_5).toNat * 3)).block, (ad419.add ((x11_5).toNat * 3)).off + 1, none⟩ = some (.string ((rd_T38 t404 x11_5).f1)) ∧ w'.cell? ⟨(ad419.add ((x11_5).toNat * 3)).block, (ad419.add ((x11_5).toNat * 3)).off + 2, none⟩ = some (.string ((rd_T38 t404 x11_5).f2)) ∧ w'.cell? (ad419.add ((x11_5).toNat * 3)) = some (.string ((rd_T38 t404 x11_5).f0)) ∧ w'.cell? ⟨(ad419.add ((x11_5).toNat * 3)).block, (ad419.add ((x11_5).toNat * 3)).off + 1, none⟩ = some (.string ((rd_T38 t404 x11_5).f1)) ∧ w'.cell? ⟨(ad419.add ((x11_5).toNat * 3)).block, (ad419.add ((x11_5).toNat * 3)).off + 2, none⟩ = some (.string ((rd_T38 t404 x11_5).f2))) (ds := []) #[false, false, false, false, false, false, false, false, false, false, false, false, false, false, false, false, false, false, false, false, false, false, false, false, false, false, false, false, false, false, false, false, false, false, false] (by kernel_rfl) rfl rfl ⟨hx418_0, hx418_1, hx418_2, hx419_0, hx419_1, hx419_2, hx420_0, hx420_1, hx420_2, hx422_0, hx422_1, hx422_2, hx424_0, hx424_1, hx424_2, hx426_0, hx426_1, hx426_2⟩ (fun hHeld => ?_); refine with_tabW laws_FnForms.tab23 laws_FnForms.bits23 (fun HT_ HW_ => ?_); generalize wr.drew = w167 at HO_9 HO_10 HB hx418_0 hx418_1 hx418_2 hx419_0 hx419_1 hx419_2 hx420_0 hx420_1 hx420_2 hx422_0 hx422_1 hx422_2 hx424_0 hx424_1 hx424_2 hx426_0 hx426_1 hx426_2 hHeld ⊢; refine pure_ (i := 0) (N := some 160) (v := ?_) (a' := ?_) (bz 1 35) rfl rfl (qla HT_.out (by kernel_rfl)) (fun _ _ _ h => h) (Or.inl ⟨by rfl, ?_⟩) ?_ ?_; rotate_left
                      ·intro w'
                       go_simp; with_reducible rfl
                      rotate_left
                      ·simp only [Act.put, qb, qc, qd, i64_w, i32_w]
                       rfl
                      refine pure_ (i := 1) (N := some 161) (v := ?_) (a' := ?_) (bz 3 35) rfl rfl (qla HT_.out (by kernel_rfl)) (fun _ _ _ h => h) (Or.inl ⟨by rfl, ?_⟩) ?_ ?_; rotate_left
                      ·intro w'
                       go_simp; with_reducible rfl
                      rotate_left
                      ·simp only [Act.put, qb, qc, qd, i64_w, i32_w]
                       rfl
                      refine pure_ (i := 2) (N := some 162) (v := ?_) (a' := ?_) (bz 7 35) rfl rfl (qla HT_.out (by kernel_rfl)) (fun _ _ _ h => h) (Or.inl ⟨by rfl, ?_⟩) ?_ ?_; rotate_left
                      ·intro w'
                       go_simp; with_reducible rfl
                      rotate_left
                      ·simp only [Act.put, qb, qc, qd, i64_w, i32_w]
                       rfl
                      refine pure_ (i := 4) (N := some 164) (v := ?_) (a' := ?_) (bz 23 35) rfl rfl (qla HT_.out (by kernel_rfl)) (fun _ _ _ h => h) (Or.inl ⟨by rfl, ?_⟩) ?_ ?_; rotate_left
                      ·intro w'
                       go_simp; with_reducible rfl
                      rotate_left
                      ·simp only [Act.put, qb, qc, qd, i64_w, i32_w]
                       rfl
                      refine pure_ (i := 5) (N := some 165) (v := ?_) (a' := ?_) (bz 55 35) rfl rfl (qla HT_.out (by kernel_rfl)) (fun _ _ _ h => h) (Or.inl ⟨by rfl, ?_⟩) ?_ ?_; rotate_left
                      ·intro w'
                       go_simp; with_reducible rfl
                      rotate_left
                      ·simp only [Act.put, qb, qc, qd, i64_w, i32_w]
                       rfl
                      refine pure_ (i := 6) (N := some 166) (v := ?_) (a' := ?_) (bz 119 35) rfl rfl (qla HT_.out (by kernel_rfl)) (fun _ _ _ h => h) (Or.inl ⟨by rfl, ?_⟩) ?_ ?_; rotate_left
                      ·intro w'
                       go_simp; with_reducible rfl
                      rotate_left
                      ·simp only [Act.put, qb, qc, qd, i64_w, i32_w]
                       rfl
                      refine take_ (i := 3) (N := some 163) (v := ?_) (a' := ?_) (bz 127 35) rfl rfl (qma HT_.out HW_.out (by kernel_rfl)) (fun _ _ _ h => h) (Or.inl ⟨by rfl, ?_⟩) hHeld ?_ ?_; rotate_left
                      ·rintro w' ⟨s0, s1, s2, s3, s4, s5, s6, s7, s8, s9, s10, s11, s12, s13, s14, s15, s16, s17⟩
                       go_simp; with_reducible rfl
                      rotate_left
                      ·simp only [Act.put, qb, qc, qd, i64_w, i32_w]
                       rfl
                      refine take_ (i := 7) (N := some 167) (v := ?_) (a' := ?_) (bz 255 35) rfl rfl (qma HT_.out HW_.out (by kernel_rfl)) (fun _ _ _ h => h) (Or.inl ⟨by rfl, ?_⟩) hHeld ?_ ?_; rotate_left
                      ·rintro w' ⟨s0, s1, s2, s3, s4, s5, s6, s7, s8, s9, s10, s11, s12, s13, s14, s15, s16, s17⟩
                       go_simp; with_reducible rfl
                      rotate_left
                      ·simp only [Act.put, qb, qc, qd, i64_w, i32_w]
                       rfl
                      refine pure_ (i := 8) (N := some 168) (v := ?_) (a' := ?_) (bz 511 35) rfl rfl (qla HT_.out (by kernel_rfl)) (fun _ _ _ h => h) (Or.inl ⟨by rfl, ?_⟩) ?_ ?_; rotate_left
                      ·intro w'
                       go_simp; with_reducible rfl
                      rotate_left
                      ·simp only [Act.put, qb, qc, qd, i64_w, i32_w]
                       rfl
                      refine pure_ (i := 9) (N := some 169) (v := ?_) (a' := ?_) (bz 1023 35) rfl rfl (qla HT_.out (by kernel_rfl)) (fun _ _ _ h => h) (Or.inl ⟨by rfl, ?_⟩) ?_ ?_; rotate_left
                      ·intro w'
                       go_simp; with_reducible rfl
                      rotate_left
                      ·simp only [Act.put, qb, qc, qd, i64_w, i32_w]
                       rfl
                      refine pure_ (i := 10) (N := some 170) (v := ?_) (a' := ?_) (bz 2047 35) rfl rfl (qla HT_.out (by kernel_rfl)) (fun _ _ _ h => h) (Or.inl ⟨by rfl, ?_⟩) ?_ ?_; rotate_left
                      ·intro w'
                       go_simp; with_reducible rfl
                      rotate_left
                      ·simp only [Act.put, qb, qc, qd, i64_w, i32_w]
                       rfl
                      refine pure_ (i := 11) (N := some 171) (v := ?_) (a' := ?_) (bz 4095 35) rfl rfl (qla HT_.out (by kernel_rfl)) (fun _ _ _ h => h) (Or.inl ⟨by rfl, ?_⟩) ?_ ?_; rotate_left
                      ·intro w'
                       go_simp; with_reducible rfl
                      rotate_left
                      ·simp only [Act.put, qb, qc, qd, i64_w, i32_w]
                       rfl
                      refine pure_ (i := 12) (N := some 172) (v := ?_) (a' := ?_) (bz 8191 35) rfl rfl (qla HT_.out (by kernel_rfl)) (fun _ _ _ h => h) (Or.inl ⟨by rfl, ?_⟩) ?_ ?_; rotate_left
                      ·intro w'
                       go_simp; with_reducible rfl
                      rotate_left
                      ·simp only [Act.put, qb, qc, qd, i64_w, i32_w]
                       rfl
                      refine pure_ (i := 15) (N := some 175) (v := ?_) (a' := ?_) (bz 40959 35) rfl rfl (qla HT_.out (by kernel_rfl)) (fun _ _ _ h => h) (Or.inl ⟨by rfl, ?_⟩) ?_ ?_; rotate_left
                      ·intro w'
                       go_simp; with_reducible rfl
                      rotate_left
                      ·simp only [Act.put, qb, qc, qd, i64_w, i32_w]
                       rfl
                      refine pure_ (i := 16) (N := some 176) (v := ?_) (a' := ?_) (bz 106495 35) rfl rfl (qla HT_.out (by kernel_rfl)) (fun _ _ _ h => h) (Or.inl ⟨by rfl, ?_⟩) ?_ ?_; rotate_left
                      ·intro w'
                       go_simp; with_reducible rfl
                      rotate_left
                      ·simp only [Act.put, qb, qc, qd, i64_w, i32_w]
                       rfl
                      refine pure_ (i := 17) (N := some 177) (v := ?_) (a' := ?_) (bz 237567 35) rfl rfl (qla HT_.out (by kernel_rfl)) (fun _ _ _ h => h) (Or.inl ⟨by rfl, ?_⟩) ?_ ?_; rotate_left
                      ·intro w'
                       go_simp; with_reducible rfl
                      rotate_left
                      ·simp only [Act.put, qb, qc, qd, i64_w, i32_w]
                       rfl
                      refine take_ (i := 13) (N := some 173) (v := ?_) (a' := ?_) (bz 245759 35) rfl rfl (qma HT_.out HW_.out (by kernel_rfl)) (fun _ _ _ h => h) (Or.inl ⟨by rfl, ?_⟩) hHeld ?_ ?_; rotate_left
                      ·rintro w' ⟨s0, s1, s2, s3, s4, s5, s6, s7, s8, s9, s10, s11, s12, s13, s14, s15, s16, s17⟩
                       go_simp; with_reducible rfl
                      rotate_left
                      ·simp only [Act.put, qb, qc, qd, i64_w, i32_w]
                       rfl
                      refine take_ (i := 18) (N := some 178) (v := ?_) (a' := ?_) (bz 507903 35) rfl rfl (qma HT_.out HW_.out (by kernel_rfl)) (fun _ _ _ h => h) (Or.inl ⟨by rfl, ?_⟩) hHeld ?_ ?_; rotate_left
                      ·rintro w' ⟨s0, s1, s2, s3, s4, s5, s6, s7, s8, s9, s10, s11, s12, s13, s14, s15, s16, s17⟩
                       go_simp; with_reducible rfl
                      rotate_left
                      ·simp only [Act.put, qb, qc, qd, i64_w, i32_w]
                       rfl
                      refine one_ (i := 14) (N := some 174) (bz 524287 35) rfl rfl (qna HT_.out (by kernel_rfl)) (by decide) (fun K hK => ?_); refine goes_ Try.func29 (by kernel_rfl) rfl #[.agg #[.string ((rd_T38 t404 x11_5).f0), .string ((rd_T38 t404 x11_5).f1), .string ((rd_T38 t404 x11_5).f2)]] (by rfl) rfl rfl (by (try simp only [qs, qv, qw]); first | done | rfl | (simp only [qu, qt]; rfl)) ?_; with_reducible refine (impl_IsOpen.calls ((rd_T38 t404 x11_5).f0) ((rd_T38 t404 x11_5).f1) ((rd_T38 t404 x11_5).f2) t421 _ A155.out).mono ?_; rintro e w169 ⟨rfl, hb⟩; have HS0_ := (hb.cell (qf _ _ (hHeld.1))).trans (hHeld.1); have HS1_ := (hb.cell (qf _ _ (hHeld.2.1))).trans (hHeld.2.1); have HS2_ := (hb.cell (qf _ _ (hHeld.2.2.1))).trans (hHeld.2.2.1); have HS3_ := (hb.cell (qf _ _ (hHeld.2.2.2.1))).trans (hHeld.2.2.2.1); have HS4_ := (hb.cell (qf _ _ (hHeld.2.2.2.2.1))).trans (hHeld.2.2.2.2.1); have HS5_ := (hb.cell (qf _ _ (hHeld.2.2.2.2.2.1))).trans (hHeld.2.2.2.2.2.1); have HS6_ := (hb.cell (qf _ _ (hHeld.2.2.2.2.2.2.1))).trans (hHeld.2.2.2.2.2.2.1); have HS7_ := (hb.cell (qf _ _ (hHeld.2.2.2.2.2.2.2.1))).trans (hHeld.2.2.2.2.2.2.2.1); have HS8_ := (hb.cell (qf _ _ (hHeld.2.2.2.2.2.2.2.2.1))).trans (hHeld.2.2.2.2.2.2.2.2.1); have HS9_ := (hb.cell (qf _ _ (hHeld.2.2.2.2.2.2.2.2.2.1))).trans (hHeld.2.2.2.2.2.2.2.2.2.1); have HS10_ := (hb.cell (qf _ _ (hHeld.2.2.2.2.2.2.2.2.2.2.1))).trans (hHeld.2.2.2.2.2.2.2.2.2.2.1); have HS11_ := (hb.cell (qf _ _ (hHeld.2.2.2.2.2.2.2.2.2.2.2.1))).trans (hHeld.2.2.2.2.2.2.2.2.2.2.2.1); have HS12_ := (hb.cell (qf _ _ (hHeld.2.2.2.2.2.2.2.2.2.2.2.2.1))).trans (hHeld.2.2.2.2.2.2.2.2.2.2.2.2.1); have HS13_ := (hb.cell (qf _ _ (hHeld.2.2.2.2.2.2.2.2.2.2.2.2.2.1))).trans (hHeld.2.2.2.2.2.2.2.2.2.2.2.2.2.1); have HS14_ := (hb.cell (qf _ _ (hHeld.2.2.2.2.2.2.2.2.2.2.2.2.2.2.1))).trans (hHeld.2.2.2.2.2.2.2.2.2.2.2.2.2.2.1); have HS15_ := (hb.cell (qf _ _ (hHeld.2.2.2.2.2.2.2.2.2.2.2.2.2.2.2.1))).trans (hHeld.2.2.2.2.2.2.2.2.2.2.2.2.2.2.2.1); have HS16_ := (hb.cell (qf _ _ (hHeld.2.2.2.2.2.2.2.2.2.2.2.2.2.2.2.2.1))).trans (hHeld.2.2.2.2.2.2.2.2.2.2.2.2.2.2.2.2.1); have HS17_ := (hb.cell (qf _ _ (hHeld.2.2.2.2.2.2.2.2.2.2.2.2.2.2.2.2.2))).trans (hHeld.2.2.2.2.2.2.2.2.2.2.2.2.2.2.2.2.2); refine ⟨_, rfl, ?_⟩; have n0_ := qa (qoa (by (with_reducible repeat first | apply qx | apply qy | apply qz); exact HO_9.out) hb); have n1_ := qa (qoa (by (with_reducible repeat first | apply qx | apply qy | apply qz); exact HO_10.out) hb); have n2_ := qa (qba (by repeat (first | (with_reducible first | exact HB.out | apply qh | apply qe | apply qg) | exact HB.out)) hb); clear HO_9 HO_10 HB; have HO_9 := n0_; have HO_10 := n1_; have HB := n2_; clear n0_ n1_ n2_; (try clear hb); (try clear hb2); (try clear hk); (try clear hi); refine hK.out _ _ ⟨HS0_, HS1_, HS2_, HS3_, HS4_, HS5_, HS6_, HS7_, HS8_, HS9_, HS10_, HS11_, HS12_, HS13_, HS14_, HS15_, HS16_, HS17_⟩ (fun hHeld => ?_); clear hK K; refine norm_ (a' := ?_) ?_ ?_; rotate_left
                      ·show Act.put _ (some 174) _ = _
                       simp only [Act.put, qb, qc, qd, i64_w, i32_w]; rfl
                      refine one_ (i := 19) (N := some 179) (bz 1048575 35) rfl rfl (qna HT_.out (by kernel_rfl)) (by decide) (fun K hK => ?_); refine goes_ Try.func30 (by kernel_rfl) rfl #[.agg #[.string ((rd_T38 t404 x11_5).f0), .string ((rd_T38 t404 x11_5).f1), .string ((rd_T38 t404 x11_5).f2)]] (by rfl) rfl rfl (by (try simp only [qs, qv, qw]); first | done | rfl | (simp only [qu, qt]; rfl)) ?_; with_reducible refine (spec_IsOpen.calls ((rd_T38 t404 x11_5).f0) ((rd_T38 t404 x11_5).f1) ((rd_T38 t404 x11_5).f2) t423 _ A156.out).mono ?_; rintro e w170 ⟨rfl, hb⟩; have HS0_ := (hb.cell (qf _ _ (hHeld.1))).trans (hHeld.1); have HS1_ := (hb.cell (qf _ _ (hHeld.2.1))).trans (hHeld.2.1); have HS2_ := (hb.cell (qf _ _ (hHeld.2.2.1))).trans (hHeld.2.2.1); have HS3_ := (hb.cell (qf _ _ (hHeld.2.2.2.1))).trans (hHeld.2.2.2.1); have HS4_ := (hb.cell (qf _ _ (hHeld.2.2.2.2.1))).trans (hHeld.2.2.2.2.1); have HS5_ := (hb.cell (qf _ _ (hHeld.2.2.2.2.2.1))).trans (hHeld.2.2.2.2.2.1); have HS6_ := (hb.cell (qf _ _ (hHeld.2.2.2.2.2.2.1))).trans (hHeld.2.2.2.2.2.2.1); have HS7_ := (hb.cell (qf _ _ (hHeld.2.2.2.2.2.2.2.1))).trans (hHeld.2.2.2.2.2.2.2.1); have HS8_ := (hb.cell (qf _ _ (hHeld.2.2.2.2.2.2.2.2.1))).trans (hHeld.2.2.2.2.2.2.2.2.1); have HS9_ := (hb.cell (qf _ _ (hHeld.2.2.2.2.2.2.2.2.2.1))).trans (hHeld.2.2.2.2.2.2.2.2.2.1); have HS10_ := (hb.cell (qf _ _ (hHeld.2.2.2.2.2.2.2.2.2.2.1))).trans (hHeld.2.2.2.2.2.2.2.2.2.2.1); have HS11_ := (hb.cell (qf _ _ (hHeld.2.2.2.2.2.2.2.2.2.2.2.1))).trans (hHeld.2.2.2.2.2.2.2.2.2.2.2.1); have HS12_ := (hb.cell (qf _ _ (hHeld.2.2.2.2.2.2.2.2.2.2.2.2.1))).trans (hHeld.2.2.2.2.2.2.2.2.2.2.2.2.1); have HS13_ := (hb.cell (qf _ _ (hHeld.2.2.2.2.2.2.2.2.2.2.2.2.2.1))).trans (hHeld.2.2.2.2.2.2.2.2.2.2.2.2.2.1); have HS14_ := (hb.cell (qf _ _ (hHeld.2.2.2.2.2.2.2.2.2.2.2.2.2.2.1))).trans (hHeld.2.2.2.2.2.2.2.2.2.2.2.2.2.2.1); have HS15_ := (hb.cell (qf _ _ (hHeld.2.2.2.2.2.2.2.2.2.2.2.2.2.2.2.1))).trans (hHeld.2.2.2.2.2.2.2.2.2.2.2.2.2.2.2.1); have HS16_ := (hb.cell (qf _ _ (hHeld.2.2.2.2.2.2.2.2.2.2.2.2.2.2.2.2.1))).trans (hHeld.2.2.2.2.2.2.2.2.2.2.2.2.2.2.2.2.1); have HS17_ := (hb.cell (qf _ _ (hHeld.2.2.2.2.2.2.2.2.2.2.2.2.2.2.2.2.2))).trans (hHeld.2.2.2.2.2.2.2.2.2.2.2.2.2.2.2.2.2); refine ⟨_, rfl, ?_⟩; have n0_ := qa (qoa (by (with_reducible repeat first | apply qx | apply qy | apply qz); exact HO_9.out) hb); have n1_ := qa (qoa (by (with_reducible repeat first | apply qx | apply qy | apply qz); exact HO_10.out) hb); have n2_ := qa (qba (by repeat (first | (with_reducible first | exact HB.out | apply qh | apply qe | apply qg) | exact HB.out)) hb); clear HO_9 HO_10 HB; have HO_9 := n0_; have HO_10 := n1_; have HB := n2_; clear n0_ n1_ n2_; (try clear hb); (try clear hb2); (try clear hk); (try clear hi); refine hK.out _ _ ⟨HS0_, HS1_, HS2_, HS3_, HS4_, HS5_, HS6_, HS7_, HS8_, HS9_, HS10_, HS11_, HS12_, HS13_, HS14_, HS15_, HS16_, HS17_⟩ (fun hHeld => ?_); clear hK K; refine norm_ (a' := ?_) ?_ ?_; rotate_left
                      ·show Act.put _ (some 179) _ = _
                       simp only [Act.put, qb, qc, qd, i64_w, i32_w]; rfl
                      refine pure_ (i := 20) (N := some 180) (v := ?_) (a' := ?_) (bz 2097151 35) rfl rfl (qla HT_.out (by kernel_rfl)) (fun _ _ _ h => h) (Or.inl ⟨by rfl, ?_⟩) ?_ ?_; rotate_left
                      ·intro w'
                       go_simp; with_reducible rfl
                      rotate_left
                      ·simp only [Act.put, qb, qc, qd, i64_w, i32_w]
                       rfl
                      refine pure_ (i := 21) (N := some 181) (v := ?_) (a' := ?_) (bz 4194303 35) rfl rfl (qla HT_.out (by kernel_rfl)) (fun _ _ _ h => h) (Or.inl ⟨by rfl, ?_⟩) ?_ ?_; rotate_left
                      ·intro w'
                       go_simp; with_reducible rfl
                      rotate_left
                      ·simp only [Act.put, qb, qc, qd, i64_w, i32_w]
                       rfl
                      refine pure_ (i := 22) (N := some 182) (v := ?_) (a' := ?_) (bz 8388607 35) rfl rfl (qla HT_.out (by kernel_rfl)) (fun _ _ _ h => h) (Or.inl ⟨by rfl, ?_⟩) ?_ ?_; rotate_left
                      ·intro w'
                       go_simp; with_reducible rfl
                      rotate_left
                      ·simp only [Act.put, qb, qc, qd, i64_w, i32_w]
                       rfl
                      refine pure_ (i := 23) (N := some 183) (v := ?_) (a' := ?_) (bz 16777215 35) rfl rfl (qla HT_.out (by kernel_rfl)) (fun _ _ _ h => h) (Or.inl ⟨by rfl, ?_⟩) ?_ ?_; rotate_left
                      ·intro w'
                       go_simp; with_reducible rfl
                      rotate_left
                      ·simp only [Act.put, qb, qc, qd, i64_w, i32_w]
                       rfl
                      refine pure_ (i := 24) (N := some 184) (v := ?_) (a' := ?_) (bz 33554431 35) rfl rfl (qla HT_.out (by kernel_rfl)) (fun _ _ _ h => h) (Or.inl ⟨by rfl, ?_⟩) ?_ ?_; rotate_left
                      ·intro w'
                       go_simp; with_reducible rfl
                      rotate_left
                      ·simp only [Act.put, qb, qc, qd, i64_w, i32_w]
                       rfl
                      refine pure_ (i := 25) (N := some 185) (v := ?_) (a' := ?_) (bz 67108863 35) rfl rfl (qla HT_.out (by kernel_rfl)) (fun _ _ _ h => h) (Or.inl ⟨by rfl, ?_⟩) ?_ ?_; rotate_left
                      ·intro w'
                       go_simp; with_reducible rfl
                      rotate_left
                      ·simp only [Act.put, qb, qc, qd, i64_w, i32_w]
                       rfl
                      refine pure_ (i := 28) (N := some 188) (v := ?_) (a' := ?_) (bz 335544319 35) rfl rfl (qla HT_.out (by kernel_rfl)) (fun _ _ _ h => h) (Or.inl ⟨by rfl, ?_⟩) ?_ ?_; rotate_left
                      ·intro w'
                       go_simp; with_reducible rfl
                      rotate_left
                      ·simp only [Act.put, qb, qc, qd, i64_w, i32_w]
                       rfl
                      refine pure_ (i := 29) (N := some 189) (v := ?_) (a' := ?_) (bz 872415231 35) rfl rfl (qla HT_.out (by kernel_rfl)) (fun _ _ _ h => h) (Or.inl ⟨by rfl, ?_⟩) ?_ ?_; rotate_left
                      ·intro w'
                       go_simp; with_reducible rfl
                      rotate_left
                      ·simp only [Act.put, qb, qc, qd, i64_w, i32_w]
                       rfl
                      refine pure_ (i := 30) (N := some 190) (v := ?_) (a' := ?_) (bz 1946157055 35) rfl rfl (qla HT_.out (by kernel_rfl)) (fun _ _ _ h => h) (Or.inl ⟨by rfl, ?_⟩) ?_ ?_; rotate_left
                      ·intro w'
                       go_simp; with_reducible rfl
                      rotate_left
                      ·simp only [Act.put, qb, qc, qd, i64_w, i32_w]
                       rfl
                      refine take_ (i := 26) (N := some 186) (v := ?_) (a' := ?_) (bz 2013265919 35) rfl rfl (qma HT_.out HW_.out (by kernel_rfl)) (fun _ _ _ h => h) (Or.inl ⟨by rfl, ?_⟩) hHeld ?_ ?_; rotate_left
                      ·rintro w' ⟨s0, s1, s2, s3, s4, s5, s6, s7, s8, s9, s10, s11, s12, s13, s14, s15, s16, s17⟩
                       go_simp; with_reducible rfl
                      rotate_left
                      ·simp only [Act.put, qb, qc, qd, i64_w, i32_w]
                       rfl
                      refine take_ (i := 31) (N := some 191) (v := ?_) (a' := ?_) (bz 4160749567 35) rfl rfl (qma HT_.out HW_.out (by kernel_rfl)) (fun _ _ _ h => h) (Or.inl ⟨by rfl, ?_⟩) hHeld ?_ ?_; rotate_left
                      ·rintro w' ⟨s0, s1, s2, s3, s4, s5, s6, s7, s8, s9, s10, s11, s12, s13, s14, s15, s16, s17⟩
                       go_simp; with_reducible rfl
                      rotate_left
                      ·simp only [Act.put, qb, qc, qd, i64_w, i32_w]
                       rfl
                      refine one_ (i := 27) (N := some 187) (bz 4294967295 35) rfl rfl (qna HT_.out (by kernel_rfl)) (by decide) (fun K hK => ?_); refine goes_ Try.func31 (by kernel_rfl) rfl #[.agg #[.string ((rd_T38 t404 x11_5).f0), .string ((rd_T38 t404 x11_5).f1), .string ((rd_T38 t404 x11_5).f2)]] (by rfl) rfl rfl (by (try simp only [qs, qv, qw]); first | done | rfl | (simp only [qu, qt]; rfl)) ?_; with_reducible refine (impl_WeightOf.calls ((rd_T38 t404 x11_5).f0) ((rd_T38 t404 x11_5).f1) ((rd_T38 t404 x11_5).f2) t425 _ A163.out).mono ?_; rintro e w171 ⟨rfl, hb⟩; have HS0_ := (hb.cell (qf _ _ (hHeld.1))).trans (hHeld.1); have HS1_ := (hb.cell (qf _ _ (hHeld.2.1))).trans (hHeld.2.1); have HS2_ := (hb.cell (qf _ _ (hHeld.2.2.1))).trans (hHeld.2.2.1); have HS3_ := (hb.cell (qf _ _ (hHeld.2.2.2.1))).trans (hHeld.2.2.2.1); have HS4_ := (hb.cell (qf _ _ (hHeld.2.2.2.2.1))).trans (hHeld.2.2.2.2.1); have HS5_ := (hb.cell (qf _ _ (hHeld.2.2.2.2.2.1))).trans (hHeld.2.2.2.2.2.1); have HS6_ := (hb.cell (qf _ _ (hHeld.2.2.2.2.2.2.1))).trans (hHeld.2.2.2.2.2.2.1); have HS7_ := (hb.cell (qf _ _ (hHeld.2.2.2.2.2.2.2.1))).trans (hHeld.2.2.2.2.2.2.2.1); have HS8_ := (hb.cell (qf _ _ (hHeld.2.2.2.2.2.2.2.2.1))).trans (hHeld.2.2.2.2.2.2.2.2.1); have HS9_ := (hb.cell (qf _ _ (hHeld.2.2.2.2.2.2.2.2.2.1))).trans (hHeld.2.2.2.2.2.2.2.2.2.1); have HS10_ := (hb.cell (qf _ _ (hHeld.2.2.2.2.2.2.2.2.2.2.1))).trans (hHeld.2.2.2.2.2.2.2.2.2.2.1); have HS11_ := (hb.cell (qf _ _ (hHeld.2.2.2.2.2.2.2.2.2.2.2.1))).trans (hHeld.2.2.2.2.2.2.2.2.2.2.2.1); have HS12_ := (hb.cell (qf _ _ (hHeld.2.2.2.2.2.2.2.2.2.2.2.2.1))).trans (hHeld.2.2.2.2.2.2.2.2.2.2.2.2.1); have HS13_ := (hb.cell (qf _ _ (hHeld.2.2.2.2.2.2.2.2.2.2.2.2.2.1))).trans (hHeld.2.2.2.2.2.2.2.2.2.2.2.2.2.1); have HS14_ := (hb.cell (qf _ _ (hHeld.2.2.2.2.2.2.2.2.2.2.2.2.2.2.1))).trans (hHeld.2.2.2.2.2.2.2.2.2.2.2.2.2.2.1); have HS15_ := (hb.cell (qf _ _ (hHeld.2.2.2.2.2.2.2.2.2.2.2.2.2.2.2.1))).trans (hHeld.2.2.2.2.2.2.2.2.2.2.2.2.2.2.2.1); have HS16_ := (hb.cell (qf _ _ (hHeld.2.2.2.2.2.2.2.2.2.2.2.2.2.2.2.2.1))).trans (hHeld.2.2.2.2.2.2.2.2.2.2.2.2.2.2.2.2.1); have HS17_ := (hb.cell (qf _ _ (hHeld.2.2.2.2.2.2.2.2.2.2.2.2.2.2.2.2.2))).trans (hHeld.2.2.2.2.2.2.2.2.2.2.2.2.2.2.2.2.2); refine ⟨_, rfl, ?_⟩; have n0_ := qa (qoa (by (with_reducible repeat first | apply qx | apply qy | apply qz); exact HO_9.out) hb); have n1_ := qa (qoa (by (with_reducible repeat first | apply qx | apply qy | apply qz); exact HO_10.out) hb); have n2_ := qa (qba (by repeat (first | (with_reducible first | exact HB.out | apply qh | apply qe | apply qg) | exact HB.out)) hb); clear HO_9 HO_10 HB; have HO_9 := n0_; have HO_10 := n1_; have HB := n2_; clear n0_ n1_ n2_; (try clear hb); (try clear hb2); (try clear hk); (try clear hi); refine hK.out _ _ ⟨HS0_, HS1_, HS2_, HS3_, HS4_, HS5_, HS6_, HS7_, HS8_, HS9_, HS10_, HS11_, HS12_, HS13_, HS14_, HS15_, HS16_, HS17_⟩ (fun hHeld => ?_); clear hK K; refine norm_ (a' := ?_) ?_ ?_; rotate_left
                      ·show Act.put _ (some 187) _ = _
                       simp only [Act.put, qb, qc, qd, i64_w, i32_w]; rfl
                      refine one_ (i := 32) (N := some 192) (bz 8589934591 35) rfl rfl (qna HT_.out (by kernel_rfl)) (by decide) (fun K hK => ?_); refine goes_ Try.func32 (by kernel_rfl) rfl #[.agg #[.string ((rd_T38 t404 x11_5).f0), .string ((rd_T38 t404 x11_5).f1), .string ((rd_T38 t404 x11_5).f2)]] (by rfl) rfl rfl (by (try simp only [qs, qv, qw]); first | done | rfl | (simp only [qu, qt]; rfl)) ?_; with_reducible refine (spec_WeightOf.calls ((rd_T38 t404 x11_5).f0) ((rd_T38 t404 x11_5).f1) ((rd_T38 t404 x11_5).f2) t427 _ A164.out).mono ?_; rintro e w172 ⟨rfl, hb⟩; have HS0_ := (hb.cell (qf _ _ (hHeld.1))).trans (hHeld.1); have HS1_ := (hb.cell (qf _ _ (hHeld.2.1))).trans (hHeld.2.1); have HS2_ := (hb.cell (qf _ _ (hHeld.2.2.1))).trans (hHeld.2.2.1); have HS3_ := (hb.cell (qf _ _ (hHeld.2.2.2.1))).trans (hHeld.2.2.2.1); have HS4_ := (hb.cell (qf _ _ (hHeld.2.2.2.2.1))).trans (hHeld.2.2.2.2.1); have HS5_ := (hb.cell (qf _ _ (hHeld.2.2.2.2.2.1))).trans (hHeld.2.2.2.2.2.1); have HS6_ := (hb.cell (qf _ _ (hHeld.2.2.2.2.2.2.1))).trans (hHeld.2.2.2.2.2.2.1); have HS7_ := (hb.cell (qf _ _ (hHeld.2.2.2.2.2.2.2.1))).trans (hHeld.2.2.2.2.2.2.2.1); have HS8_ := (hb.cell (qf _ _ (hHeld.2.2.2.2.2.2.2.2.1))).trans (hHeld.2.2.2.2.2.2.2.2.1); have HS9_ := (hb.cell (qf _ _ (hHeld.2.2.2.2.2.2.2.2.2.1))).trans (hHeld.2.2.2.2.2.2.2.2.2.1); have HS10_ := (hb.cell (qf _ _ (hHeld.2.2.2.2.2.2.2.2.2.2.1))).trans (hHeld.2.2.2.2.2.2.2.2.2.2.1); have HS11_ := (hb.cell (qf _ _ (hHeld.2.2.2.2.2.2.2.2.2.2.2.1))).trans (hHeld.2.2.2.2.2.2.2.2.2.2.2.1); have HS12_ := (hb.cell (qf _ _ (hHeld.2.2.2.2.2.2.2.2.2.2.2.2.1))).trans (hHeld.2.2.2.2.2.2.2.2.2.2.2.2.1); have HS13_ := (hb.cell (qf _ _ (hHeld.2.2.2.2.2.2.2.2.2.2.2.2.2.1))).trans (hHeld.2.2.2.2.2.2.2.2.2.2.2.2.2.1); have HS14_ := (hb.cell (qf _ _ (hHeld.2.2.2.2.2.2.2.2.2.2.2.2.2.2.1))).trans (hHeld.2.2.2.2.2.2.2.2.2.2.2.2.2.2.1); have HS15_ := (hb.cell (qf _ _ (hHeld.2.2.2.2.2.2.2.2.2.2.2.2.2.2.2.1))).trans (hHeld.2.2.2.2.2.2.2.2.2.2.2.2.2.2.2.1); have HS16_ := (hb.cell (qf _ _ (hHeld.2.2.2.2.2.2.2.2.2.2.2.2.2.2.2.2.1))).trans (hHeld.2.2.2.2.2.2.2.2.2.2.2.2.2.2.2.2.1); have HS17_ := (hb.cell (qf _ _ (hHeld.2.2.2.2.2.2.2.2.2.2.2.2.2.2.2.2.2))).trans (hHeld.2.2.2.2.2.2.2.2.2.2.2.2.2.2.2.2.2); refine ⟨_, rfl, ?_⟩; have n0_ := qa (qoa (by (with_reducible repeat first | apply qx | apply qy | apply qz); exact HO_9.out) hb); have n1_ := qa (qoa (by (with_reducible repeat first | apply qx | apply qy | apply qz); exact HO_10.out) hb); have n2_ := qa (qba (by repeat (first | (with_reducible first | exact HB.out | apply qh | apply qe | apply qg) | exact HB.out)) hb); clear HO_9 HO_10 HB; have HO_9 := n0_; have HO_10 := n1_; have HB := n2_; clear n0_ n1_ n2_; (try clear hb); (try clear hb2); (try clear hk); (try clear hi); refine hK.out _ _ ⟨HS0_, HS1_, HS2_, HS3_, HS4_, HS5_, HS6_, HS7_, HS8_, HS9_, HS10_, HS11_, HS12_, HS13_, HS14_, HS15_, HS16_, HS17_⟩ (fun hHeld => ?_); clear hK K; refine norm_ (a' := ?_) ?_ ?_; rotate_left
                      ·show Act.put _ (some 192) _ = _
                       simp only [Act.put, qb, qc, qd, i64_w, i32_w]; rfl
                      refine pure_ (i := 33) (N := some 193) (v := ?_) (a' := ?_) (bz 17179869183 35) rfl rfl (qla HT_.out (by kernel_rfl)) (fun _ _ _ h => h) (Or.inl ⟨by rfl, ?_⟩) ?_ ?_; rotate_left
                      ·intro w'
                       go_simp; with_reducible rfl
                      rotate_left
                      ·simp only [Act.put, qb, qc, qd, i64_w, i32_w]
                       rfl
                      refine pure_ (i := 34) (N := some 194) (v := ?_) (a' := ?_) (bz 34359738367 35) rfl rfl (qla HT_.out (by kernel_rfl)) (fun _ _ _ h => h) (Or.inl ⟨by rfl, ?_⟩) ?_ ?_; rotate_left
                      ·intro w'
                       go_simp; with_reducible rfl
                      rotate_left
                      ·simp only [Act.put, qb, qc, qd, i64_w, i32_w]
                       rfl
                      refine done_ (done_of HT_.out (by kernel_rfl)) ?_
                      try go_wp2
                      go_roundg k5
                      case measure => have := HJ5.out; have := HK2.out; have := HJ68.out; have := HJ87.out; have := HK5.out; omega
                      case rel => exact ⟨(wrap64 (x11_5 + 1)), (by first | rfl | (simp; done) | (simp [*]; done)), H', ⟨by have := HJ5.out; have := HK2.out; have := HJ68.out; have := HJ87.out; have := HK5.out; omega⟩, ⟨by (with_reducible repeat first | apply qx | apply qy | apply qz); exact HO_9.out⟩, ⟨by (with_reducible repeat first | apply qx | apply qy | apply qz); exact HO_10.out⟩, ⟨by repeat (first | (with_reducible first | exact HB.out | apply qh | apply qe | apply qg) | exact HB.out)⟩⟩
                     ·rw [if_neg c165] at H
                      exact absurd (qca H) (by rw [HRT.out]; decide)
                  ·rw [if_neg c150] at H
                   exact absurd H (by simp)
                 ·rw [if_neg c149] at H
                  exact absurd H (by simp)
                ·rw [if_neg c148] at H
                 have c148b0 : decide (x11_5 < (t401.length : Int)) = false := qr c148; clear c148; obtain ⟨⟨t428, t429⟩, A1800, H⟩ := zb H; (try dsimp only at H); have A180 := qa A1800; clear A1800; obtain ⟨t430, A1810, H⟩ := zb H; (try dsimp only at H); have A181 := qa A1810; clear A1810; obtain ⟨t431, A1820, H⟩ := zb H; (try dsimp only at H); have A182 := qa A1820; clear A1820; obtain ⟨t432, A1830, H⟩ := zb H; (try dsimp only at H); have A183 := qa A1830; clear A1830
                 by_cases c184 : (t431 == t432) = true
                 ·rw [if_pos c184] at H
                  have c184b0 : (t431 == t432) = true := c184; (try (have c184b1 : decide (t431 = t432) = true := by simpa using c184)); (try (have c184b2 : (t431 == t432) = true := by simpa using c184)); clear c184; obtain ⟨t433, A1850, H⟩ := zb H; (try dsimp only at H); have A185 := qa A1850; clear A1850; obtain ⟨t436, A1860, H⟩ := zb H; (try dsimp only at H); have A186 := qa A1860; clear A1860; obtain ⟨t439, A1870, H⟩ := zb H; (try dsimp only at H); have A187 := qa A1870; clear A1870; obtain rfl := qca H; obtain ⟨Ao188, co188, eo188⟩ := Kd.R_slice HO_9.out; subst eo188
                  go_wp2_with (first | ((with_reducible refine qqa (f := 33) rfl ?_); refine goesL_ (some 197) rfl rfl Try.func33 (by kernel_rfl) rfl #[.slice A0 l0.length c0] rfl (by (try simp only [qs, qv, qw]); first | done | rfl | (simp only [qu, qt]; rfl)) ?_; (with_reducible refine (spec_DrawIsVowelAt.calls k5 _ _ l0 t428 t429 _ ?side1 ?side2 A180.out).mono ?_); (case side1 => repeat (first | exact (Kd.C_below HR0.out HB.out) | (with_reducible first | apply qda | apply qea | apply qfa))); (case side2 => exact HC0.out); rintro e w189 ⟨rfl, hb⟩; refine ⟨_, rfl, ?_⟩; have n0_ := qa (qoa (by (with_reducible repeat first | apply qx | apply qy | apply qz); exact HO_9.out) hb); have n1_ := qa (qoa (by (with_reducible repeat first | apply qx | apply qy | apply qz); exact HO_10.out) hb); have n2_ := qa (qba (by repeat (first | (with_reducible first | exact HB.out | apply qh | apply qe | apply qg) | exact HB.out)) hb); clear HO_9; clear HO_10; clear HB; have HO_9 := n0_; have HO_10 := n1_; have HB := n2_; clear n0_ n1_ n2_; (try clear hb); (try clear hb2); (try clear hk); (try clear hi)) | ((with_reducible refine qqa (f := 34) rfl ?_); refine goesL_ (some 201) rfl rfl Try.func34 (by kernel_rfl) rfl #[.slice A0 l0.length c0] rfl (by (try simp only [qs, qv, qw]); first | done | rfl | (simp only [qu, qt]; rfl)) ?_; (with_reducible refine (spec_DrawFormsOf.calls k5 _ _ l0 t430 _ ?side1 ?side2 A181.out).mono ?_); (case side1 => repeat (first | exact (Kd.C_below HR0.out HB.out) | (with_reducible first | apply qda | apply qea | apply qfa))); (case side2 => exact HC0.out); rintro e w190 ⟨rfl, hb⟩; refine ⟨_, rfl, ?_⟩; have n0_ := qa (qoa (by (with_reducible repeat first | apply qx | apply qy | apply qz); exact HO_9.out) hb); have n1_ := qa (qoa (by (with_reducible repeat first | apply qx | apply qy | apply qz); exact HO_10.out) hb); have n2_ := qa (qba (by repeat (first | (with_reducible first | exact HB.out | apply qh | apply qe | apply qg) | exact HB.out)) hb); clear HO_9; clear HO_10; clear HB; have HO_9 := n0_; have HO_10 := n1_; have HB := n2_; clear n0_ n1_ n2_; (try clear hb); (try clear hb2); (try clear hk); (try clear hi)) | ((with_reducible refine qqa (f := 35) rfl ?_); refine goesL_ (some 204) rfl rfl Try.func35 (by kernel_rfl) rfl #[.string t428, .int .i64 t429] rfl (by (try simp only [qs, qv, qw]); first | done | rfl | (simp only [qu, qt]; rfl)) ?_; (with_reducible refine (impl_IsVowelAt.calls t428 t429 t431 _ A182.out).mono ?_); rintro e w191 ⟨rfl, hb⟩; refine ⟨_, rfl, ?_⟩; have n0_ := qa (qoa (by (with_reducible repeat first | apply qx | apply qy | apply qz); exact HO_9.out) hb); have n1_ := qa (qoa (by (with_reducible repeat first | apply qx | apply qy | apply qz); exact HO_10.out) hb); have n2_ := qa (qba (by repeat (first | (with_reducible first | exact HB.out | apply qh | apply qe | apply qg) | exact HB.out)) hb); clear HO_9; clear HO_10; clear HB; have HO_9 := n0_; have HO_10 := n1_; have HB := n2_; clear n0_ n1_ n2_; (try clear hb); (try clear hb2); (try clear hk); (try clear hi)) | ((with_reducible refine qqa (f := 36) rfl ?_); refine goesL_ (some 207) rfl rfl Try.func36 (by kernel_rfl) rfl #[.string t428, .int .i64 t429] rfl (by (try simp only [qs, qv, qw]); first | done | rfl | (simp only [qu, qt]; rfl)) ?_; (with_reducible refine (spec_IsVowelAt.calls t428 t429 t432 _ A183.out).mono ?_); rintro e w' ⟨rfl, ⟨nd, rfl⟩⟩; refine ⟨_, rfl, ?_⟩) | (go_at_call 37; (with_reducible refine (impl_FormsOf.calls k5 t430 t433 _ A185.out).mono ?_); rintro e w192 ⟨v434, rfl, ho0, hb⟩; have n0_ := qa (qoa (by (with_reducible repeat first | apply qx | apply qy | apply qz); exact HO_9.out) hb); have n1_ := qa (qoa (by (with_reducible repeat first | apply qx | apply qy | apply qz); exact HO_10.out) hb); have n2_ := qa (qxa ho0 (qp (by repeat (first | (with_reducible first | exact HB.out | apply qh | apply qe | apply qg) | exact HB.out)))); have n3_ := qa (qba (by repeat (first | (with_reducible first | exact HB.out | apply qh | apply qe | apply qg) | exact HB.out)) hb); clear HO_9; clear HO_10; clear HB; have HO_9 := n0_; have HO_10 := n1_; have HO435 := n2_; have HB := n3_; clear n0_ n1_ n2_ n3_; (try clear hb); (try clear hb2); (try clear hk); (try clear hi); (try clear ho0)) | (go_at_call 38; (with_reducible refine (spec_FormsOf.calls k5 t430 t436 _ A186.out).mono ?_); rintro e w193 ⟨v437, rfl, ho0, hb⟩; have n0_ := qa (qoa (by (with_reducible repeat first | apply qx | apply qy | apply qz); exact HO_9.out) hb); have n1_ := qa (qoa (by (with_reducible repeat first | apply qx | apply qy | apply qz); exact HO_10.out) hb); have n2_ := qa (qsa (by (with_reducible repeat first | apply qx | apply qy | apply qz); exact HO435.out) (qya ho0) hb); have n3_ := qa (qxa (Kd.R_new' ho0 (Kd.R_lt (by (with_reducible repeat first | apply qx | apply qy | apply qz); exact HO435.out))) (qp (by repeat (first | (with_reducible first | exact HB.out | apply qh | apply qe | apply qg) | exact HB.out)))); have n4_ := qa (qba (by repeat (first | (with_reducible first | exact HB.out | apply qh | apply qe | apply qg) | exact HB.out)) hb); clear HO_9; clear HO_10; clear HO435; clear HB; have HO_9 := n0_; have HO_10 := n1_; have HO435 := n2_; have HO438 := n3_; have HB := n4_; clear n0_ n1_ n2_ n3_ n4_; (try clear hb); (try clear hb2); (try clear hk); (try clear hi); (try clear ho0); obtain ⟨Ao194, co194, eo194⟩ := Kd.R_slice HO435.out; subst eo194; obtain ⟨Ao195, co195, eo195⟩ := Kd.R_slice HO438.out; subst eo195) | (go_at_call 8; (with_reducible refine (laws_sameTexts.calls k5 _ _ t433 _ _ t436 t439 _ ?side1 ?side2 ?side3 ?side4 A187.out).mono ?_); (case side1 => repeat (first | exact (qra HO435.out).2.2 | (with_reducible first | apply qda | apply qea | apply qfa))); (case side2 => exact (qra HO435.out).2.1); (case side3 => repeat (first | exact (qra HO438.out).2.2 | (with_reducible first | apply qda | apply qea | apply qfa))); (case side4 => exact (qra HO438.out).2.1); rintro e w' ⟨rfl, ⟨nd, rfl⟩⟩))
                  go_ret; exact ⟨by first | rfl | (simp [*] <;> rfl), by repeat (first | (with_reducible first | exact HB.out | apply qh | apply qe | apply qg) | exact HB.out)⟩
                 ·rw [if_neg c184] at H
                  exact absurd (qca H) (by rw [HRT.out]; decide)
def laws_FnForms.Pure : Prop := ∀ (l0 : List Int), l0.length ≤ maxLen → l0.length * 1 ≤ 140737488351232 → (∀ x ∈ l0, (Lit.int .u8 x).wf = true) → ∃ k, laws_FnForms.f k l0 = some true
theorem laws_FnForms.walk (P : laws_FnForms.Pure) (a0 : Option Addr) (len0 cap0 : Nat) (z0 : List Int) (w : World) (w0 : (a0 = none ∧ len0 = 0 ∧ cap0 = 0 ∧ z0 = []) ∨ ∃ x, a0 = some x ∧ len0 ≤ cap0 ∧ cap0 ≤ maxLen ∧ z0.length = cap0 ∧ (∀ i, i < z0.length → w.cell? (x.add i) = some (.int .u8 (z0.getD i 0))) ∧ ∀ n ∈ z0, (Lit.int .u8 n).wf = true) (y0 : len0 * 1 ≤ 140737488351232) :
  Calls Try.prog 3 #[.slice a0 len0 cap0] w fun e w' => e = .returned (.bool true) ∧ Below w.heap.size w w' := by
 obtain ⟨l0, rfl, hr0, hm0, hw0, hc0⟩ := ReadsInt.ofRowC w0; obtain ⟨k, h⟩ := P l0 hm0 y0 hw0; refine (laws_FnForms.calls k _ _ l0 true rfl w (Kd.C_of_reads (d := (0 : Int)) (h1 := fun _ => rfl) hr0) hc0 h).mono ?_; rintro e w' ⟨rfl, hd⟩; exact ⟨rfl, hd⟩
end Go.Proofs.Ytkjpbhncgjhfeaa.PFnForms
