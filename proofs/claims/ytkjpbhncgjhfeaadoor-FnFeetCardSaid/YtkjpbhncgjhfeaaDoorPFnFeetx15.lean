import Derived.Test.YtkjpbhncgjhfeaaDoorPFnFeetx0
import Derived.Test.YtkjpbhncgjhfeaaDoorPFnFeetx2
import Derived.Test.YtkjpbhncgjhfeaaDoorPFnFeetx3
import Derived.Test.YtkjpbhncgjhfeaaDoorPFnFeetx5
import Derived.Test.YtkjpbhncgjhfeaaDoorPFnFeetx6
import Derived.Test.YtkjpbhncgjhfeaaDoorPFnFeetx7
import Derived.Test.YtkjpbhncgjhfeaaDoorPFnFeetx8
import Derived.Test.YtkjpbhncgjhfeaaDoorPFnFeetx9
import Derived.Test.YtkjpbhncgjhfeaaDoorPFnFeetx10
import Derived.Test.YtkjpbhncgjhfeaaDoorPFnFeetx11
import Derived.Test.YtkjpbhncgjhfeaaDoorPFnFeetx12
import Derived.Test.YtkjpbhncgjhfeaaDoorPFnFeetx13
import Derived.Test.YtkjpbhncgjhfeaaDoorPFnFeetx14
namespace Go.Proofs.YtkjpbhncgjhfeaaDoor.PFnFeet
open Go.RowKit Go.Proofs.YtkjpbhncgjhfeaaDoorW.PrintWords Go.Proofs.YtkjpbhncgjhfeaaDoorW.PrintLast Go.Proofs.YtkjpbhncgjhfeaaDoorW.PrintMore
attribute [local go_sem] max2_int min2_int max_two min_two max_three min_three max_four min_four
set_option linter.unusedVariables false
set_option linter.unusedSimpArgs false
set_option maxHeartbeats 8000000
set_option maxRecDepth 100000
mutual
def laws_FnFeet.l0 : Nat → List Int → List Int → List (S31) → List (S31) → Int → Option (Bool)
 | 0, _, _, _, _, _ => none
 | k + 1, x0, x3, x4, x5, x6 => if x6 < (x4.length : Int) then (if 0 ≤ x6 then (if x6 < (x5.length : Int) then ((spec_EqualFootings.f k ((rd_T31 x4 x6).f0) ((rd_T31 x4 x6).f1) ((rd_T31 x4 x6).f2) ((rd_T31 x5 x6).f0) ((rd_T31 x5 x6).f1) ((rd_T31 x5 x6).f2)).bind fun t448 => (if t448 = true then ((impl_IsFooting.f k ((rd_T31 x5 x6).f0) ((rd_T31 x5 x6).f1) ((rd_T31 x5 x6).f2)).bind fun t450 => (if t450 = true then ((impl_StressesOf.f k ((rd_T31 x5 x6).f0) ((rd_T31 x5 x6).f1) ((rd_T31 x5 x6).f2)).bind fun t452 => ((laws_sameInts.f k t452 x3).bind fun t455 => (if t455 = true then (laws_FnFeet.l0 k x0 x3 x4 x5 (wrap64 (x6 + 1))) else (some false)))) else (some false))) else (some false))) else (none)) else (none)) else ((spec_DrawFootingsOf.f k x0).bind fun t456 => ((impl_FootingsOf.f t456).bind fun t457 => ((spec_FootingsOf.f k t456).bind fun t460 => (if (t457.length : Int) = (t460.length : Int) then (laws_FnFeet.l1 k x0 t457 t460 0) else (some false)))))
def laws_FnFeet.l1 : Nat → List Int → List (S31) → List (S31) → Int → Option (Bool)
 | 0, _, _, _, _ => none
 | k + 1, x0, x8, x9, x10 => if x10 < (x8.length : Int) then (if 0 ≤ x10 then (if x10 < (x9.length : Int) then ((spec_EqualFootings.f k ((rd_T31 x8 x10).f0) ((rd_T31 x8 x10).f1) ((rd_T31 x8 x10).f2) ((rd_T31 x9 x10).f0) ((rd_T31 x9 x10).f1) ((rd_T31 x9 x10).f2)).bind fun t465 => (if t465 = true then (laws_FnFeet.l1 k x0 x8 x9 (wrap64 (x10 + 1))) else (some false))) else (none)) else (none)) else ((spec_DrawFootMarks.f k x0).bind fun bt466 => ((impl_FootMarks.f k bt466.1 bt466.2.1 bt466.2.2).bind fun t472 => ((spec_DrawEqualFootings.f k x0).bind fun bt475 => ((spec_FootMarks.f k bt466.1 bt466.2.1 bt466.2.2).bind fun t487 => ((laws_sameInts.f k t472 t487).bind fun t490 => (if t490 = true then ((impl_FormatFooting.f k bt466.1 bt466.2.1 bt466.2.2).bind fun t491 => ((spec_FormatFooting.f k bt466.1 bt466.2.1 bt466.2.2).bind fun t492 => (if t491.toList = t492.toList then ((impl_IsFooting.f k bt466.1 bt466.2.1 bt466.2.2).bind fun t493 => ((spec_IsFooting.f k bt466.1 bt466.2.1 bt466.2.2).bind fun t494 => (if (t493 == t494) = true then ((impl_StressesOf.f k bt466.1 bt466.2.1 bt466.2.2).bind fun t495 => ((spec_StressesOf.f k bt466.1 bt466.2.1 bt466.2.2).bind fun t498 => ((laws_sameInts.f k t495 t498).bind fun t501 => (if t501 = true then (if (t472.length : Int) = 0 then ((impl_EqualFootings.f k bt475.1 bt475.2.1 bt475.2.2.1 bt475.2.2.2.1 bt475.2.2.2.2.1 bt475.2.2.2.2.2).bind fun t502 => ((spec_EqualFootings.f k bt475.1 bt475.2.1 bt475.2.2.1 bt475.2.2.2.1 bt475.2.2.2.2.1 bt475.2.2.2.2.2).bind fun t503 => (some (t502 == t503)))) else (if 0 < (t472.length : Int) then (if 1 < (t472.length : Int) then (if 2 < (t472.length : Int) then (if 3 < (t472.length : Int) then (if (wrap64 ((wrap64 ((wrap64 ((rd t472 0) + (rd t472 1))) + (wrap64 (2 * (rd t472 2))))) + (wrap64 (2 * (rd t472 3))))) = bt466.1 then ((impl_EqualFootings.f k bt475.1 bt475.2.1 bt475.2.2.1 bt475.2.2.2.1 bt475.2.2.2.2.1 bt475.2.2.2.2.2).bind fun t508 => ((spec_EqualFootings.f k bt475.1 bt475.2.1 bt475.2.2.1 bt475.2.2.2.1 bt475.2.2.2.2.1 bt475.2.2.2.2.2).bind fun t509 => (some (t508 == t509)))) else (some false)) else (none)) else (none)) else (none)) else (none))) else (some false))))) else (some false)))) else (some false)))) else (some false)))))))
end
def laws_FnFeet.f (k : Nat) (l0 : List Int) : Option (Bool) := (laws_big.f l0).bind fun t436 => (if t436 = true then (some true) else ((spec_DrawFootingsFor.f k l0).bind fun t437 => ((impl_FootingsFor.f k t437).bind fun t440 => ((spec_FootingsFor.f k t437).bind fun t443 => (if (t440.length : Int) = (t443.length : Int) then (laws_FnFeet.l0 k l0 t437 t440 t443 0) else (some false))))))
def bz (m n : Nat) : Array Bool := ((List.range n).map fun i => m.testBit i).toArray
def laws_FnFeet.T11 : Bool × List (List Nat × List Nat) := (true, [([], []), ([], []), ([0, 1], [0, 1]), ([2], [2]), ([], []), ([], []), ([4, 5], [4, 5]), ([6], [6]), ([3, 7], [3, 7]), ([8], [8]), ([9, 8], [9]), ([10], [10]), ([10], [10]), ([11, 12, 10], [10, 11, 12]), ([13, 10], [10, 13]), ([14, 10, 10], [10, 14]), ([15, 10], [10, 15]), ([10, 16], [10, 16]), ([17, 15], [17]), ([18], [18]), ([18], [18]), ([19, 20, 18], [18, 19, 20]), ([21, 18], [18, 21]), ([22, 18, 18], [18, 22]), ([18], [18]), ([23, 24, 23, 18], [18, 23, 24]), ([25, 18], [18, 25]), ([18, 26], [18, 26])])
def laws_FnFeet.B11 : List Nat := [0, 0, 3, 7, 0, 0, 48, 112, 255, 511, 1023, 2047, 2047, 8191, 16383, 32767, 65535, 131071, 262143, 524287, 524287, 2097151, 4194303, 8388607, 524287, 33554431, 67108863, 134217727]
theorem laws_FnFeet.tab11 : rtab .any (opsOf Tryd.f3 11) = laws_FnFeet.T11 := by kernel_rfl
theorem laws_FnFeet.bits11 : waitsOk laws_FnFeet.T11.2 laws_FnFeet.B11 = true := by kernel_rfl
def laws_FnFeet.T21 : Bool × List (List Nat × List Nat) := (true, [([], []), ([], []), ([0, 1], [0, 1]), ([2], [2]), ([], []), ([], []), ([4, 5], [4, 5]), ([6], [6]), ([3, 7], [3, 7]), ([8], [8])])
def laws_FnFeet.B21 : List Nat := [0, 0, 3, 7, 0, 0, 48, 112, 255, 511]
theorem laws_FnFeet.tab21 : rtab .any (opsOf Tryd.f3 21) = laws_FnFeet.T21 := by kernel_rfl
theorem laws_FnFeet.bits21 : waitsOk laws_FnFeet.T21.2 laws_FnFeet.B21 = true := by kernel_rfl
def laws_FnFeet.T26 : Bool × List (List Nat × List Nat) := (true, [([], []), ([], []), ([1], [1]), ([0, 2, 2], [0, 2]), ([3, 3], [3]), ([4], [4]), ([5, 4, 4], [4, 5]), ([4], [4]), ([7, 6, 4], [4, 7]), ([6, 8, 4], [4, 6, 8]), ([4, 9], [4, 9]), ([10, 8], [10]), ([11], [11]), ([12, 11, 11], [11, 12]), ([11], [11]), ([14, 13, 11], [11, 14]), ([13, 15, 11], [11, 13, 15]), ([11, 16], [11, 16]), ([17, 15], [17]), ([18], [18]), ([19, 18, 18], [18, 19]), ([18], [18]), ([21, 20, 18], [18, 21]), ([20, 22, 22, 18], [18, 20, 22]), ([18, 23], [18, 23]), ([24, 23], [24]), ([25], [25]), ([26, 25], [25, 26]), ([27, 25], [25, 27]), ([28, 25, 25], [25, 28]), ([29], [29]), ([30, 29], [29, 30]), ([31, 29], [29, 31]), ([29], [29]), ([33, 29], [29, 33]), ([34, 29], [29, 34]), ([32, 35, 29], [29, 32, 35]), ([29], [29]), ([37, 29], [29, 37]), ([38, 29], [29, 38]), ([39, 29], [29, 39]), ([36, 40, 29], [29, 36, 40]), ([29], [29]), ([42, 29], [29, 42]), ([43, 29], [29, 43]), ([44, 29], [29, 44]), ([41, 45, 29], [29, 41, 45]), ([29], [29]), ([47, 29], [29, 47]), ([46, 48, 29], [29, 46, 48]), ([29, 49, 25], [25, 29, 49]), ([25, 50], [25, 50]), ([51, 29], [51]), ([52], [52]), ([52], [52]), ([53, 54, 52, 52], [52, 53, 54]), ([52], [52]), ([52], [52]), ([56, 57, 55, 52], [52, 56, 57]), ([55, 58, 52], [52, 55, 58]), ([52, 59], [52, 59]), ([60, 58, 0, 1, 2, 3, 4, 5, 6, 7, 8, 9, 10, 11, 12, 13, 14, 15, 16, 17, 18, 19, 20, 21, 22, 23, 24, 25, 26, 27, 28, 29, 30, 31, 32, 33, 34, 35, 36, 37, 38, 39, 40, 41, 42, 43, 44, 45, 46, 47, 48, 49, 50, 51, 52, 53, 54, 55, 56, 57, 58, 59, 60], [60])])
def laws_FnFeet.B26 : List Nat := [0, 0, 2, 7, 15, 31, 63, 31, 255, 511, 1023, 2047, 4095, 8191, 4095, 32767, 65535, 131071, 262143, 524287, 1048575, 524287, 4194303, 8388607, 16777215, 33554431, 67108863, 134217727, 268435455, 536870911, 1073741823, 2147483647, 4294967295, 1073741823, 9663676415, 26843545599, 68719476735, 1073741823, 138512695295, 413390602239, 963146416127, 2199023255551, 1073741823, 4399120252927, 13195213275135, 30787399319551, 70368744177663, 1073741823, 140738562097151, 562949953421311, 1125899906842623, 2251799813685247, 4503599627370495, 9007199254740991, 9007199254740991, 36028797018963967, 9007199254740991, 9007199254740991, 288230376151711743, 576460752303423487, 1152921504606846975, 2305843009213693951]
theorem laws_FnFeet.tab26 : rtab .any (opsOf Tryd.f3 26) = laws_FnFeet.T26 := by kernel_rfl
theorem laws_FnFeet.bits26 : waitsOk laws_FnFeet.T26.2 laws_FnFeet.B26 = true := by kernel_rfl
theorem laws_FnFeet.calls (k : Nat) (A0 : Option Addr) (c0 : Nat) (l0 : List Int) (r : Bool) (hr : r = true) (w : World) (hr0 : Kd.C (Kd.int .u8) w A0 l0.length l0) (hc0 : l0.length ≤ c0) (h : laws_FnFeet.f k l0 = some r) :
  Calls Tryd.prog 3 #[.slice A0 l0.length c0] w fun e w' => e = .returned (.bool r) ∧ Below w.heap.size w w' := by
 have HRT := qa hr; clear hr; have hu31 := Tryd.underlying31; have HR0 := qa hr0; have HC0 := qa hc0; clear hr0 hc0; have HB := qa (qsb w.heap.size w); have H := h; unfold laws_FnFeet.f at H; clear h; obtain ⟨t436, A20, H⟩ := zb H; (try dsimp only at H); have A2 := qa A20; clear A20
 by_cases c3 : t436 = true
 ·subst c3
  rw [if_pos rfl] at H; have H1 := H; clear H; have H := H1; clear H1; obtain rfl := qia H; go_enter Tryd.func3, Tryd.ntmps3
  go_wp2_with (first | ((with_reducible refine qeb (f := 5) rfl ?_); refine goesL_ (some 16) rfl rfl Tryd.func5 (by kernel_rfl) rfl #[.slice A0 l0.length c0] rfl (by (try simp only [qs, qv, qw]); first | done | rfl | (simp only [qu, qt]; rfl)) ?_; (with_reducible refine (laws_big.calls _ _ l0 true _ ?side1 ?side2 A2.out).mono ?_); (case side1 => repeat (first | exact HR0.out | (with_reducible first | apply qka | apply qla | apply qma))); (case side2 => exact HC0.out); rintro e w' ⟨rfl, ⟨nd, rfl⟩⟩; refine ⟨_, rfl, ?_⟩))
  go_ret; exact ⟨by first | rfl | (simp [*] <;> rfl), by repeat (first | (with_reducible first | exact HB.out | apply qh | apply qe | apply qg) | exact HB.out)⟩
 ·replace c3 := Bool.eq_false_iff.mpr c3
  subst c3; rw [if_neg (show ¬ (false = true) by decide)] at H; have H1 := H; clear H; have H := H1; clear H1; obtain ⟨t437, A40, H⟩ := zb H; (try dsimp only at H); have A4 := qa A40; clear A40; obtain ⟨t440, A50, H⟩ := zb H; (try dsimp only at H); have A5 := qa A50; clear A50; obtain ⟨t443, A60, H⟩ := zb H; (try dsimp only at H); have A6 := qa A60; clear A60
  by_cases c7 : (t440.length : Int) = (t443.length : Int)
  ·rw [if_pos c7] at H
   have c7b0 : ((t440.length : Int) == (t443.length : Int)) = true := ze c7; have c7b1 : ((t440.length : Int) != (t443.length : Int)) = false := zc c7
   have c7b2 : (t440.length == t443.length) = true := by first | simpa using c7 | (simp at c7 ⊢; omega)
   clear c7; have H' := qa H; clear H; go_enter Tryd.func3, Tryd.ntmps3
   go_wp2_with (first | ((with_reducible refine qeb (f := 5) rfl ?_); refine goesL_ (some 16) rfl rfl Tryd.func5 (by kernel_rfl) rfl #[.slice A0 l0.length c0] rfl (by (try simp only [qs, qv, qw]); first | done | rfl | (simp only [qu, qt]; rfl)) ?_; (with_reducible refine (laws_big.calls _ _ l0 false _ ?side1 ?side2 A2.out).mono ?_); (case side1 => repeat (first | exact HR0.out | (with_reducible first | apply qka | apply qla | apply qma))); (case side2 => exact HC0.out); rintro e w' ⟨rfl, ⟨nd, rfl⟩⟩; refine ⟨_, rfl, ?_⟩) | ((with_reducible refine qeb (f := 6) rfl ?_); refine goesL_ (some 18) rfl rfl Tryd.func6 (by kernel_rfl) rfl #[.slice A0 l0.length c0] rfl (by (try simp only [qs, qv, qw]); first | done | rfl | (simp only [qu, qt]; rfl)) ?_; (with_reducible refine (spec_DrawFootingsFor.calls k _ _ l0 t437 _ ?side1 ?side2 A4.out).mono ?_); (case side1 => repeat (first | exact HR0.out | (with_reducible first | apply qka | apply qla | apply qma))); (case side2 => exact HC0.out); rintro e w8 ⟨v438, rfl, ho0, hb⟩; refine ⟨_, rfl, ?_⟩; have n0_ := qa (qvb ho0 (qp (by repeat (first | (with_reducible first | exact HB.out | apply qh | apply qe | apply qg) | exact HB.out)))); have n1_ := qa (qha (by repeat (first | (with_reducible first | exact HB.out | apply qh | apply qe | apply qg) | exact HB.out)) hb); clear HB; have HO439 := n0_; have HB := n1_; clear n0_ n1_; (try clear hb); (try clear hb2); (try clear hk); (try clear hi); (try clear ho0); obtain ⟨Ao9, co9, eo9⟩ := Kd.R_slice HO439.out; subst eo9) | ((with_reducible refine qeb (f := 7) rfl ?_); refine goesL_ (some 20) rfl rfl Tryd.func7 (by kernel_rfl) rfl #[.slice Ao9 t437.length co9] rfl (by (try simp only [qs, qv, qw]); first | done | rfl | (simp only [qu, qt]; rfl)) ?_; (with_reducible refine (impl_FootingsFor.calls k _ _ t437 t440 _ ?side1 ?side2 A5.out).mono ?_); (case side1 => repeat (first | exact (qgb HO439.out).2.2 | (with_reducible first | apply qka | apply qla | apply qma))); (case side2 => exact (qgb HO439.out).2.1); rintro e w10 ⟨v441, rfl, ho0, hb⟩; refine ⟨_, rfl, ?_⟩; have n0_ := qa (qya (by (with_reducible repeat first | apply qx | apply qy | apply qz); exact HO439.out) hb); have n1_ := qa (qxb (qpa (ok' := fun k_ => some k_ ≠ (.slice Ao9 t437.length co9 : Value).ownBlock) ho0 (fun k_ hk_ => (Kd.fresh' (Kd.R_lt (by (with_reducible repeat first | apply qx | apply qy | apply qz); exact HO439.out)) k_ hk_))) (qp (by repeat (first | (with_reducible first | exact HB.out | apply qh | apply qe | apply qg) | exact HB.out)))); have n2_ := qa (qha (by repeat (first | (with_reducible first | exact HB.out | apply qh | apply qe | apply qg) | exact HB.out)) hb); clear HO439; clear HB; have HO439 := n0_; have HO442 := n1_; have HB := n2_; clear n0_ n1_ n2_; (try clear hb); (try clear hb2); (try clear hk); (try clear hi); (try clear ho0)) | ((with_reducible refine qeb (f := 8) rfl ?_); refine goesL_ (some 22) rfl rfl Tryd.func8 (by kernel_rfl) rfl #[.slice Ao9 t437.length co9] rfl (by (try simp only [qs, qv, qw]); first | done | rfl | (simp only [qu, qt]; rfl)) ?_; (with_reducible refine (spec_FootingsFor.calls k _ _ t437 t443 _ ?side1 ?side2 A6.out).mono ?_); (case side1 => repeat (first | exact (qgb HO439.out).2.2 | (with_reducible first | apply qka | apply qla | apply qma))); (case side2 => exact (qgb HO439.out).2.1); rintro e w11 ⟨v444, rfl, ho0, hb⟩; refine ⟨_, rfl, ?_⟩; have n0_ := qa (qya (by (with_reducible repeat first | apply qx | apply qy | apply qz); exact HO439.out) hb); have n1_ := qa (qjb (by (with_reducible repeat first | apply qaa | apply qba | apply qca); exact HO442.out) (by first | exact Kd.N_base ho0 | exact Kd.N_base (Kd.S_N ho0)) hb); have n2_ := qa (qxb (qpa (ok' := fun k_ => some k_ ≠ (.slice Ao9 t437.length co9 : Value).ownBlock ∧ some k_ ≠ (v441 : Value).ownBlock) ho0 (fun k_ hk_ => ⟨(Kd.fresh' (Kd.R_lt (by (with_reducible repeat first | apply qx | apply qy | apply qz); exact HO439.out)) k_ hk_), (Kd.fresh' (Kd.N_lt (by (with_reducible repeat first | apply qaa | apply qba | apply qca); exact HO442.out)) k_ hk_)⟩)) (qp (by repeat (first | (with_reducible first | exact HB.out | apply qh | apply qe | apply qg) | exact HB.out)))); have n3_ := qa (qha (by repeat (first | (with_reducible first | exact HB.out | apply qh | apply qe | apply qg) | exact HB.out)) hb); clear HO439; clear HO442; clear HB; have HO439 := n0_; have HO442 := n1_; have HO445 := n2_; have HB := n3_; clear n0_ n1_ n2_ n3_; (try clear hb); (try clear hb2); (try clear hk); (try clear hi); (try clear ho0); obtain ⟨Ao12, co12, eo12⟩ := Kd.N_slice HO442.out; subst eo12; obtain ⟨Ao13, co13, eo13⟩ := Kd.N_slice HO445.out; subst eo13))
   go_loopg [6] k (fun kq v6 w' => ∃ (x6_1 : Int), v6 = .int .i64 x6_1 ∧ Aside0 (laws_FnFeet.l0 kq l0 t437 t440 t443 x6_1 = some r) ∧ Aside0 (kq ≤ k) ∧ Aside0 (Kd.R (Kd.int .i64) 3 w' w.heap.size (fun _ => True) (.slice Ao9 t437.length co9) t437) ∧ Aside0 (Kd.N k31 31 w' w.heap.size (fun k_ => some k_ ≠ ((.slice Ao9 t437.length co9) : Value).ownBlock ∧ some k_ ≠ ((.slice Ao13 t443.length co13) : Value).ownBlock) (.slice Ao12 t440.length co12) t440) ∧ Aside0 (Kd.N k31 31 w' w.heap.size (fun k_ => some k_ ≠ ((.slice Ao9 t437.length co9) : Value).ownBlock ∧ some k_ ≠ ((.slice Ao12 t440.length co12) : Value).ownBlock) (.slice Ao13 t443.length co13) t443) ∧ Aside0 (Below w.heap.size w w'))
   case atStart => exact ⟨(0), (by first | rfl | (simp; done) | (simp [*]; done)), H', ⟨qqb _⟩, ⟨by (with_reducible repeat first | apply qx | apply qy | apply qz); exact HO439.out⟩, ⟨by (with_reducible repeat first | apply qaa | apply qba | apply qca); exact HO442.out⟩, ⟨by (with_reducible repeat first | apply qaa | apply qba | apply qca); exact HO445.out⟩, ⟨by repeat (first | (with_reducible first | exact HB.out | apply qh | apply qe | apply qg) | exact HB.out)⟩⟩
   case round =>
    clear H'; (try clear p2); (try clear c3); (try clear c5); (try clear c6); (try clear c7); (try clear c7b0); (try clear c7b1); (try clear c7b2); (try clear c8); obtain ⟨x6_1, rfl, HA, HK1, HO_3, HO_4, HO_5, HB⟩ := hrel
    cases gk with
    | zero => exact absurd HA.out (by simp [laws_FnFeet.l0])
    | succ k1 =>
     have H := HA.out; clear HA; simp only [laws_FnFeet.l0] at H
     by_cases c14 : x6_1 < (t440.length : Int)
     ·rw [if_pos c14] at H
      have c14b0 : decide (x6_1 < (t440.length : Int)) = true := qq c14; clear c14
      by_cases c15 : 0 ≤ x6_1
      ·rw [if_pos c15] at H
       have c15b0 : decide (0 ≤ x6_1) = true := qq c15; clear c15
       by_cases c16 : x6_1 < (t443.length : Int)
       ·rw [if_pos c16] at H
        have c16b0 : decide (x6_1 < (t443.length : Int)) = true := qq c16; clear c16; obtain ⟨t448, A170, H⟩ := zb H; (try dsimp only at H); have A17 := qa A170; clear A170
        by_cases c18 : t448 = true
        ·subst c18
         rw [if_pos rfl] at H; have H1 := H; clear H; have H := H1; clear H1; obtain ⟨t450, A190, H⟩ := zb H; (try dsimp only at H); have A19 := qa A190; clear A190
         by_cases c20 : t450 = true
         ·subst c20
          rw [if_pos rfl] at H; have H1 := H; clear H; have H := H1; clear H1; obtain ⟨t452, A210, H⟩ := zb H; (try dsimp only at H); have A21 := qa A210; clear A210; obtain ⟨t455, A220, H⟩ := zb H; (try dsimp only at H); have A22 := qa A220; clear A220
          by_cases c23 : t455 = true
          ·subst c23
           rw [if_pos rfl] at H; have H1 := H; clear H; have H := H1; clear H1; have H' := qa H; clear H
           try go_wp2
           have n0_ := qa (qz HO_3.out); have n1_ := qa (qca HO_4.out); have n2_ := qa (qca HO_5.out); have n3_ := qa (qg HB.out); clear HO_3 HO_4 HO_5 HB; have HO_3 := n0_; have HO_4 := n1_; have HO_5 := n2_; have HB := n3_; clear n0_ n1_ n2_ n3_; have p446 : 0 ≤ (x6_1 : Int) := qm (by assumption); have q446 : x6_1 < (t440.length : Int) := qm (by assumption); obtain ⟨ad446, A446_1, c446_1, e446, hx446_0, hx446_1, hx446_2, hl446_1, hi446_1⟩ := at_T31 (qhb HO_4.out).2.2 x6_1 p446 q446; cases e446; obtain ⟨ce446, hce446, hMe446, hcc446⟩ := qbc HO_4.out z31 x6_1 p446 (by first | exact q446 | exact qm (by assumption) | (have e_ := (qhb HO_4.out).1; omega)); obtain ⟨ua446_1, uc446_1, rfl, ul446_1, ge446_1⟩ := k31_openF hMe446; have hv446_1 := hcc446 1 _ rfl; rw [add_field _ _ 1 (by omega)] at hv446_1; replace hv446_1 := qia (hv446_1.symm.trans hx446_1)
           injection hv446_1 with hva_ hvn_ hvc_
           rw [hva_] at ge446_1; rw [hvc_] at ul446_1; have HL446_1 := qa (show Kd.V k59 59 _ w.heap.size _ _ ((rd_T31 t440 x6_1).f1) from Kd.V_mk ul446_1 ge446_1); clear hva_ hvn_ hvc_ ge446_1 ul446_1 hcc446 hce446; have HR446_1 := qa hi446_1; have HC446_1 := qa hl446_1; clear hi446_1 hl446_1; replace p446 := qga p446; replace q446 := qga q446; have p447 : 0 ≤ (x6_1 : Int) := qm (by assumption); have q447 : x6_1 < (t443.length : Int) := qm (by assumption); obtain ⟨ad447, A447_1, c447_1, e447, hx447_0, hx447_1, hx447_2, hl447_1, hi447_1⟩ := at_T31 (qhb HO_5.out).2.2 x6_1 p447 q447; cases e447; obtain ⟨ce447, hce447, hMe447, hcc447⟩ := qbc HO_5.out z31 x6_1 p447 (by first | exact q447 | exact qm (by assumption) | (have e_ := (qhb HO_5.out).1; omega)); obtain ⟨ua447_1, uc447_1, rfl, ul447_1, ge447_1⟩ := k31_openF hMe447; have hv447_1 := hcc447 1 _ rfl; rw [add_field _ _ 1 (by omega)] at hv447_1; replace hv447_1 := qia (hv447_1.symm.trans hx447_1)
           injection hv447_1 with hva_ hvn_ hvc_
           rw [hva_] at ge447_1; rw [hvc_] at ul447_1; have HL447_1 := qa (show Kd.V k59 59 _ w.heap.size _ _ ((rd_T31 t443 x6_1).f1) from Kd.V_mk ul447_1 ge447_1); clear hva_ hvn_ hvc_ ge447_1 ul447_1 hcc447 hce447; have HR447_1 := qa hi447_1; have HC447_1 := qa hl447_1; clear hi447_1 hl447_1; replace p447 := qga p447; replace q447 := qga q447; refine start_ (n := 28) (S := fun w' => w'.cell? (ad446.add ((x6_1).toNat * 3)) = some (.int .i64 ((rd_T31 t440 x6_1).f0)) ∧ w'.cell? ⟨(ad446.add ((x6_1).toNat * 3)).block, (ad446.add ((x6_1).toNat * 3)).off + 1, none⟩ = some (.slice A446_1 ((rd_T31 t440 x6_1).f1).length c446_1) ∧ w'.cell? ⟨(ad446.add ((x6_1).toNat * 3)).block, (ad446.add ((x6_1).toNat * 3)).off + 2, none⟩ = some (.int .i64 ((rd_T31 t440 x6_1).f2)) ∧ w'.cell? (ad447.add ((x6_1).toNat * 3)) = some (.int .i64 ((rd_T31 t443 x6_1).f0)) ∧ w'.cell? ⟨(ad447.add ((x6_1).toNat * 3)).block, (ad447.add ((x6_1).toNat * 3)).off + 1, none⟩ = some (.slice A447_1 ((rd_T31 t443 x6_1).f1).length c447_1) ∧ w'.cell? ⟨(ad447.add ((x6_1).toNat * 3)).block, (ad447.add ((x6_1).toNat * 3)).off + 2, none⟩ = some (.int .i64 ((rd_T31 t443 x6_1).f2)) ∧ w'.cell? (ad447.add ((x6_1).toNat * 3)) = some (.int .i64 ((rd_T31 t443 x6_1).f0)) ∧ w'.cell? ⟨(ad447.add ((x6_1).toNat * 3)).block, (ad447.add ((x6_1).toNat * 3)).off + 1, none⟩ = some (.slice A447_1 ((rd_T31 t443 x6_1).f1).length c447_1) ∧ w'.cell? ⟨(ad447.add ((x6_1).toNat * 3)).block, (ad447.add ((x6_1).toNat * 3)).off + 2, none⟩ = some (.int .i64 ((rd_T31 t443 x6_1).f2)) ∧ w'.cell? (ad447.add ((x6_1).toNat * 3)) = some (.int .i64 ((rd_T31 t443 x6_1).f0)) ∧ w'.cell? ⟨(ad447.add ((x6_1).toNat * 3)).block, (ad447.add ((x6_1).toNat * 3)).off + 1, none⟩ = some (.slice A447_1 ((rd_T31 t443 x6_1).f1).length c447_1) ∧ w'.cell? ⟨(ad447.add ((x6_1).toNat * 3)).block, (ad447.add ((x6_1).toNat * 3)).off + 2, none⟩ = some (.int .i64 ((rd_T31 t443 x6_1).f2))) (ds := []) #[false, false, false, false, false, false, false, false, false, false, false, false, false, false, false, false, false, false, false, false, false, false, false, false, false, false, false, false] (by kernel_rfl) rfl rfl ⟨hx446_0, hx446_1, hx446_2, hx447_0, hx447_1, hx447_2, hx447_0, hx447_1, hx447_2, hx447_0, hx447_1, hx447_2⟩ (fun hHeld => ?_); refine with_tabW laws_FnFeet.tab11 laws_FnFeet.bits11 (fun HT_ HW_ => ?_); generalize wr.drew = w24 at HO_3 HO_4 HO_5 HB HL446_1 HL447_1 HR446_1 HR447_1 hx446_0 hx446_1 hx446_2 hx447_0 hx447_1 hx447_2 hHeld ⊢; refine pure_ (i := 0) (N := some 34) (v := ?_) (a' := ?_) (bz 1 28) rfl rfl (qua HT_.out (by kernel_rfl)) (fun _ _ _ h => h) (Or.inl ⟨by rfl, ?_⟩) ?_ ?_; rotate_left
           ·intro w'
            go_simp; with_reducible rfl
           rotate_left
           ·simp only [Act.put, qb, qc, qd, i64_w, i32_w]
            rfl
           refine pure_ (i := 1) (N := some 35) (v := ?_) (a' := ?_) (bz 3 28) rfl rfl (qua HT_.out (by kernel_rfl)) (fun _ _ _ h => h) (Or.inl ⟨by rfl, ?_⟩) ?_ ?_; rotate_left
           ·intro w'
            go_simp; with_reducible rfl
           rotate_left
           ·simp only [Act.put, qb, qc, qd, i64_w, i32_w]
            rfl
           refine pure_ (i := 2) (N := some 36) (v := ?_) (a' := ?_) (bz 7 28) rfl rfl (qua HT_.out (by kernel_rfl)) (fun _ _ _ h => h) (Or.inl ⟨by rfl, ?_⟩) ?_ ?_; rotate_left
           ·intro w'
            go_simp; with_reducible rfl
           rotate_left
           ·simp only [Act.put, qb, qc, qd, i64_w, i32_w]
            rfl
           refine pure_ (i := 4) (N := some 38) (v := ?_) (a' := ?_) (bz 23 28) rfl rfl (qua HT_.out (by kernel_rfl)) (fun _ _ _ h => h) (Or.inl ⟨by rfl, ?_⟩) ?_ ?_; rotate_left
           ·intro w'
            go_simp; with_reducible rfl
           rotate_left
           ·simp only [Act.put, qb, qc, qd, i64_w, i32_w]
            rfl
           refine pure_ (i := 5) (N := some 39) (v := ?_) (a' := ?_) (bz 55 28) rfl rfl (qua HT_.out (by kernel_rfl)) (fun _ _ _ h => h) (Or.inl ⟨by rfl, ?_⟩) ?_ ?_; rotate_left
           ·intro w'
            go_simp; with_reducible rfl
           rotate_left
           ·simp only [Act.put, qb, qc, qd, i64_w, i32_w]
            rfl
           refine pure_ (i := 6) (N := some 40) (v := ?_) (a' := ?_) (bz 119 28) rfl rfl (qua HT_.out (by kernel_rfl)) (fun _ _ _ h => h) (Or.inl ⟨by rfl, ?_⟩) ?_ ?_; rotate_left
           ·intro w'
            go_simp; with_reducible rfl
           rotate_left
           ·simp only [Act.put, qb, qc, qd, i64_w, i32_w]
            rfl
           refine take_ (i := 3) (N := some 37) (v := ?_) (a' := ?_) (bz 127 28) rfl rfl (qva HT_.out HW_.out (by kernel_rfl)) (fun _ _ _ h => h) (Or.inl ⟨by rfl, ?_⟩) hHeld ?_ ?_; rotate_left
           ·rintro w' ⟨s0, s1, s2, s3, s4, s5, s6, s7, s8, s9, s10, s11⟩
            go_simp; with_reducible rfl
           rotate_left
           ·simp only [Act.put, qb, qc, qd, i64_w, i32_w]
            rfl
           refine take_ (i := 7) (N := some 41) (v := ?_) (a' := ?_) (bz 255 28) rfl rfl (qva HT_.out HW_.out (by kernel_rfl)) (fun _ _ _ h => h) (Or.inl ⟨by rfl, ?_⟩) hHeld ?_ ?_; rotate_left
           ·rintro w' ⟨s0, s1, s2, s3, s4, s5, s6, s7, s8, s9, s10, s11⟩
            go_simp; with_reducible rfl
           rotate_left
           ·simp only [Act.put, qb, qc, qd, i64_w, i32_w]
            rfl
           refine one_ (i := 8) (N := some 42) (bz 511 28) rfl rfl (qwa HT_.out (by kernel_rfl)) (by decide) (fun K hK => ?_); refine goes_ Tryd.func9 (by kernel_rfl) rfl #[.agg #[.int .i64 ((rd_T31 t440 x6_1).f0), .slice A446_1 ((rd_T31 t440 x6_1).f1).length c446_1, .int .i64 ((rd_T31 t440 x6_1).f2)], .agg #[.int .i64 ((rd_T31 t443 x6_1).f0), .slice A447_1 ((rd_T31 t443 x6_1).f1).length c447_1, .int .i64 ((rd_T31 t443 x6_1).f2)]] (by rfl) rfl rfl (by (try simp only [qs, qv, qw]); first | done | rfl | (simp only [qu, qt]; rfl)) ?_; with_reducible refine (spec_EqualFootings.calls k1 ((rd_T31 t440 x6_1).f0) _ _ ((rd_T31 t440 x6_1).f1) ((rd_T31 t440 x6_1).f2) ((rd_T31 t443 x6_1).f0) _ _ ((rd_T31 t443 x6_1).f1) ((rd_T31 t443 x6_1).f2) true _ ?side1 ?side2 ?side3 ?side4 A17.out).mono ?_
           (case side1 => repeat (first | exact (by repeat (first | (with_reducible exact HR446_1.out) | (with_reducible first | apply qka | apply qla | apply qma) | exact HR446_1.out)) | (with_reducible first | apply qka | apply qla | apply qma)))
           (case side2 => exact HC446_1.out)
           (case side3 => repeat (first | exact (by repeat (first | (with_reducible exact HR447_1.out) | (with_reducible first | apply qka | apply qla | apply qma) | exact HR447_1.out)) | (with_reducible first | apply qka | apply qla | apply qma)))
           (case side4 => exact HC447_1.out)
           rintro e w25 ⟨rfl, hb⟩; have HS0_ := (hb.cell (qf _ _ (hHeld.1))).trans (hHeld.1); have HS1_ := (hb.cell (qf _ _ (hHeld.2.1))).trans (hHeld.2.1); have HS2_ := (hb.cell (qf _ _ (hHeld.2.2.1))).trans (hHeld.2.2.1); have HS3_ := (hb.cell (qf _ _ (hHeld.2.2.2.1))).trans (hHeld.2.2.2.1); have HS4_ := (hb.cell (qf _ _ (hHeld.2.2.2.2.1))).trans (hHeld.2.2.2.2.1); have HS5_ := (hb.cell (qf _ _ (hHeld.2.2.2.2.2.1))).trans (hHeld.2.2.2.2.2.1); have HS6_ := (hb.cell (qf _ _ (hHeld.2.2.2.2.2.2.1))).trans (hHeld.2.2.2.2.2.2.1); have HS7_ := (hb.cell (qf _ _ (hHeld.2.2.2.2.2.2.2.1))).trans (hHeld.2.2.2.2.2.2.2.1); have HS8_ := (hb.cell (qf _ _ (hHeld.2.2.2.2.2.2.2.2.1))).trans (hHeld.2.2.2.2.2.2.2.2.1); have HS9_ := (hb.cell (qf _ _ (hHeld.2.2.2.2.2.2.2.2.2.1))).trans (hHeld.2.2.2.2.2.2.2.2.2.1); have HS10_ := (hb.cell (qf _ _ (hHeld.2.2.2.2.2.2.2.2.2.2.1))).trans (hHeld.2.2.2.2.2.2.2.2.2.2.1); have HS11_ := (hb.cell (qf _ _ (hHeld.2.2.2.2.2.2.2.2.2.2.2))).trans (hHeld.2.2.2.2.2.2.2.2.2.2.2); refine ⟨_, rfl, ?_⟩; have n0_ := qa (qya (by (with_reducible repeat first | apply qx | apply qy | apply qz); exact HO_3.out) hb); have n1_ := qa (qza (by (with_reducible repeat first | apply qaa | apply qba | apply qca); exact HO_4.out) hb); have n2_ := qa (qza (by (with_reducible repeat first | apply qaa | apply qba | apply qca); exact HO_5.out) hb); have n3_ := qa (qxa (by (with_reducible repeat first | apply qda | apply qea | apply qfa); exact HL446_1.out) hb); have n4_ := qa (qxa (by (with_reducible repeat first | apply qda | apply qea | apply qfa); exact HL447_1.out) hb); have n5_ := qa (qab (by repeat (first | (with_reducible exact HR446_1.out) | (with_reducible first | apply qka | apply qla | apply qma) | exact HR446_1.out)) hb); have n6_ := qa (qab (by repeat (first | (with_reducible exact HR447_1.out) | (with_reducible first | apply qka | apply qla | apply qma) | exact HR447_1.out)) hb); have n7_ := qa (qha (by repeat (first | (with_reducible first | exact HB.out | apply qh | apply qe | apply qg) | exact HB.out)) hb); clear HO_3 HO_4 HO_5 HL446_1 HL447_1 HR446_1 HR447_1 HB; have HO_3 := n0_; have HO_4 := n1_; have HO_5 := n2_; have HL446_1 := n3_; have HL447_1 := n4_; have HR446_1 := n5_; have HR447_1 := n6_; have HB := n7_; clear n0_ n1_ n2_ n3_ n4_ n5_ n6_ n7_; (try clear hb); (try clear hb2); (try clear hk); (try clear hi); refine hK.out _ _ ⟨HS0_, HS1_, HS2_, HS3_, HS4_, HS5_, HS6_, HS7_, HS8_, HS9_, HS10_, HS11_⟩ (fun hHeld => ?_); clear hK K; refine norm_ (a' := ?_) ?_ ?_; rotate_left
           ·show Act.put _ (some 42) _ = _
            simp only [Act.put, qb, qc, qd, i64_w, i32_w]; rfl
           refine pure_ (i := 9) (N := some 43) (v := ?_) (a' := ?_) (bz 1023 28) rfl rfl (qua HT_.out (by kernel_rfl)) (fun _ _ _ h => h) (Or.inl ⟨by rfl, ?_⟩) ?_ ?_; rotate_left
           ·intro w'
            go_simp; with_reducible rfl
           rotate_left
           ·simp only [Act.put, qb, qc, qd, i64_w, i32_w]
            rfl
           refine pure_ (i := 10) (N := some 44) (v := ?_) (a' := ?_) (bz 2047 28) rfl rfl (qua HT_.out (by kernel_rfl)) (fun _ _ _ h => h) (Or.inl ⟨by rfl, ?_⟩) ?_ ?_; rotate_left
           ·intro w'
            go_simp; with_reducible rfl
           rotate_left
           ·simp only [Act.put, qb, qc, qd, i64_w, i32_w]
            rfl
           refine pure_ (i := 11) (N := some 45) (v := ?_) (a' := ?_) (bz 4095 28) rfl rfl (qua HT_.out (by kernel_rfl)) (fun _ _ _ h => h) (Or.inl ⟨by rfl, ?_⟩) ?_ ?_; rotate_left
           ·intro w'
            go_simp; with_reducible rfl
           rotate_left
           ·simp only [Act.put, qb, qc, qd, i64_w, i32_w]
            rfl
           refine pure_ (i := 12) (N := some 46) (v := ?_) (a' := ?_) (bz 8191 28) rfl rfl (qua HT_.out (by kernel_rfl)) (fun _ _ _ h => h) (Or.inl ⟨by rfl, ?_⟩) ?_ ?_; rotate_left
           ·intro w'
            go_simp; with_reducible rfl
           rotate_left
           ·simp only [Act.put, qb, qc, qd, i64_w, i32_w]
            rfl
           refine pure_ (i := 13) (N := some 47) (v := ?_) (a' := ?_) (bz 16383 28) rfl rfl (qua HT_.out (by kernel_rfl)) (fun _ _ _ h => h) (Or.inl ⟨by rfl, ?_⟩) ?_ ?_; rotate_left
           ·intro w'
            go_simp; with_reducible rfl
           rotate_left
           ·simp only [Act.put, qb, qc, qd, i64_w, i32_w]
            rfl
           refine take_ (i := 14) (N := some 48) (v := ?_) (a' := ?_) (bz 32767 28) rfl rfl (qva HT_.out HW_.out (by kernel_rfl)) (fun _ _ _ h => h) (Or.inl ⟨by rfl, ?_⟩) hHeld ?_ ?_; rotate_left
           ·rintro w' ⟨s0, s1, s2, s3, s4, s5, s6, s7, s8, s9, s10, s11⟩
            go_simp; with_reducible rfl
           rotate_left
           ·simp only [Act.put, qb, qc, qd, i64_w, i32_w]
            rfl
           have HL449_1 := HL447_1; have HR449_1 := HR447_1; have HC449_1 := HC447_1; refine one_ (i := 15) (N := some 49) (bz 65535 28) rfl rfl (qwa HT_.out (by kernel_rfl)) (by decide) (fun K hK => ?_); refine goes_ Tryd.func10 (by kernel_rfl) rfl #[.agg #[.int .i64 ((rd_T31 t443 x6_1).f0), .slice A447_1 ((rd_T31 t443 x6_1).f1).length c447_1, .int .i64 ((rd_T31 t443 x6_1).f2)]] (by rfl) rfl rfl (by (try simp only [qs, qv, qw]); first | done | rfl | (simp only [qu, qt]; rfl)) ?_; with_reducible refine (impl_IsFooting.calls k1 ((rd_T31 t443 x6_1).f0) _ _ ((rd_T31 t443 x6_1).f1) ((rd_T31 t443 x6_1).f2) true _ ?side1 ?side2 A19.out).mono ?_
           (case side1 => repeat (first | exact (by repeat (first | (with_reducible exact HR449_1.out) | (with_reducible first | apply qka | apply qla | apply qma) | exact HR449_1.out)) | (with_reducible first | apply qka | apply qla | apply qma)))
           (case side2 => exact HC449_1.out)
           rintro e w26 ⟨rfl, hb⟩; have HS0_ := (hb.cell (qf _ _ (hHeld.1))).trans (hHeld.1); have HS1_ := (hb.cell (qf _ _ (hHeld.2.1))).trans (hHeld.2.1); have HS2_ := (hb.cell (qf _ _ (hHeld.2.2.1))).trans (hHeld.2.2.1); have HS3_ := (hb.cell (qf _ _ (hHeld.2.2.2.1))).trans (hHeld.2.2.2.1); have HS4_ := (hb.cell (qf _ _ (hHeld.2.2.2.2.1))).trans (hHeld.2.2.2.2.1); have HS5_ := (hb.cell (qf _ _ (hHeld.2.2.2.2.2.1))).trans (hHeld.2.2.2.2.2.1); have HS6_ := (hb.cell (qf _ _ (hHeld.2.2.2.2.2.2.1))).trans (hHeld.2.2.2.2.2.2.1); have HS7_ := (hb.cell (qf _ _ (hHeld.2.2.2.2.2.2.2.1))).trans (hHeld.2.2.2.2.2.2.2.1); have HS8_ := (hb.cell (qf _ _ (hHeld.2.2.2.2.2.2.2.2.1))).trans (hHeld.2.2.2.2.2.2.2.2.1); have HS9_ := (hb.cell (qf _ _ (hHeld.2.2.2.2.2.2.2.2.2.1))).trans (hHeld.2.2.2.2.2.2.2.2.2.1); have HS10_ := (hb.cell (qf _ _ (hHeld.2.2.2.2.2.2.2.2.2.2.1))).trans (hHeld.2.2.2.2.2.2.2.2.2.2.1); have HS11_ := (hb.cell (qf _ _ (hHeld.2.2.2.2.2.2.2.2.2.2.2))).trans (hHeld.2.2.2.2.2.2.2.2.2.2.2); refine ⟨_, rfl, ?_⟩; have n0_ := qa (qya (by (with_reducible repeat first | apply qx | apply qy | apply qz); exact HO_3.out) hb); have n1_ := qa (qza (by (with_reducible repeat first | apply qaa | apply qba | apply qca); exact HO_4.out) hb); have n2_ := qa (qza (by (with_reducible repeat first | apply qaa | apply qba | apply qca); exact HO_5.out) hb); have n3_ := qa (qxa (by (with_reducible repeat first | apply qda | apply qea | apply qfa); exact HL446_1.out) hb); have n4_ := qa (qxa (by (with_reducible repeat first | apply qda | apply qea | apply qfa); exact HL447_1.out) hb); have n5_ := qa (qxa (by (with_reducible repeat first | apply qda | apply qea | apply qfa); exact HL449_1.out) hb); have n6_ := qa (qab (by repeat (first | (with_reducible exact HR446_1.out) | (with_reducible first | apply qka | apply qla | apply qma) | exact HR446_1.out)) hb); have n7_ := qa (qab (by repeat (first | (with_reducible exact HR447_1.out) | (with_reducible first | apply qka | apply qla | apply qma) | exact HR447_1.out)) hb); have n8_ := qa (qab (by repeat (first | (with_reducible exact HR449_1.out) | (with_reducible first | apply qka | apply qla | apply qma) | exact HR449_1.out)) hb); have n9_ := qa (qha (by repeat (first | (with_reducible first | exact HB.out | apply qh | apply qe | apply qg) | exact HB.out)) hb); clear HO_3 HO_4 HO_5 HL446_1 HL447_1 HL449_1 HR446_1 HR447_1 HR449_1 HB; have HO_3 := n0_; have HO_4 := n1_; have HO_5 := n2_; have HL446_1 := n3_; have HL447_1 := n4_; have HL449_1 := n5_; have HR446_1 := n6_; have HR447_1 := n7_; have HR449_1 := n8_; have HB := n9_; clear n0_ n1_ n2_ n3_ n4_ n5_ n6_ n7_ n8_ n9_; (try clear hb); (try clear hb2); (try clear hk); (try clear hi); refine hK.out _ _ ⟨HS0_, HS1_, HS2_, HS3_, HS4_, HS5_, HS6_, HS7_, HS8_, HS9_, HS10_, HS11_⟩ (fun hHeld => ?_); clear hK K; refine norm_ (a' := ?_) ?_ ?_; rotate_left
           ·show Act.put _ (some 49) _ = _
            simp only [Act.put, qb, qc, qd, i64_w, i32_w]; rfl
           refine pure_ (i := 16) (N := some 50) (v := ?_) (a' := ?_) (bz 131071 28) rfl rfl (qua HT_.out (by kernel_rfl)) (fun _ _ _ h => h) (Or.inl ⟨by rfl, ?_⟩) ?_ ?_; rotate_left
           ·intro w'
            go_simp; with_reducible rfl
           rotate_left
           ·simp only [Act.put, qb, qc, qd, i64_w, i32_w]
            rfl
           refine pure_ (i := 17) (N := some 51) (v := ?_) (a' := ?_) (bz 262143 28) rfl rfl (qua HT_.out (by kernel_rfl)) (fun _ _ _ h => h) (Or.inl ⟨by rfl, ?_⟩) ?_ ?_; rotate_left
           ·intro w'
            go_simp; with_reducible rfl
           rotate_left
           ·simp only [Act.put, qb, qc, qd, i64_w, i32_w]
            rfl
           refine pure_ (i := 18) (N := some 52) (v := ?_) (a' := ?_) (bz 524287 28) rfl rfl (qua HT_.out (by kernel_rfl)) (fun _ _ _ h => h) (Or.inl ⟨by rfl, ?_⟩) ?_ ?_; rotate_left
           ·intro w'
            go_simp; with_reducible rfl
           rotate_left
           ·simp only [Act.put, qb, qc, qd, i64_w, i32_w]
            rfl
           refine pure_ (i := 19) (N := some 53) (v := ?_) (a' := ?_) (bz 1048575 28) rfl rfl (qua HT_.out (by kernel_rfl)) (fun _ _ _ h => h) (Or.inl ⟨by rfl, ?_⟩) ?_ ?_; rotate_left
           ·intro w'
            go_simp; with_reducible rfl
           rotate_left
           ·simp only [Act.put, qb, qc, qd, i64_w, i32_w]
            rfl
           refine pure_ (i := 20) (N := some 54) (v := ?_) (a' := ?_) (bz 2097151 28) rfl rfl (qua HT_.out (by kernel_rfl)) (fun _ _ _ h => h) (Or.inl ⟨by rfl, ?_⟩) ?_ ?_; rotate_left
           ·intro w'
            go_simp; with_reducible rfl
           rotate_left
           ·simp only [Act.put, qb, qc, qd, i64_w, i32_w]
            rfl
           refine pure_ (i := 21) (N := some 55) (v := ?_) (a' := ?_) (bz 4194303 28) rfl rfl (qua HT_.out (by kernel_rfl)) (fun _ _ _ h => h) (Or.inl ⟨by rfl, ?_⟩) ?_ ?_; rotate_left
           ·intro w'
            go_simp; with_reducible rfl
           rotate_left
           ·simp only [Act.put, qb, qc, qd, i64_w, i32_w]
            rfl
           refine pure_ (i := 24) (N := some 58) (v := ?_) (a' := ?_) (bz 20971519 28) rfl rfl (qua HT_.out (by kernel_rfl)) (fun _ _ _ h => h) (Or.inl ⟨by rfl, ?_⟩) ?_ ?_; rotate_left
           ·intro w'
            go_simp; with_reducible rfl
           rotate_left
           ·simp only [Act.put, qb, qc, qd, i64_w, i32_w]
            rfl
           refine take_ (i := 22) (N := some 56) (v := ?_) (a' := ?_) (bz 25165823 28) rfl rfl (qva HT_.out HW_.out (by kernel_rfl)) (fun _ _ _ h => h) (Or.inl ⟨by rfl, ?_⟩) hHeld ?_ ?_; rotate_left
           ·rintro w' ⟨s0, s1, s2, s3, s4, s5, s6, s7, s8, s9, s10, s11⟩
            go_simp; with_reducible rfl
           rotate_left
           ·simp only [Act.put, qb, qc, qd, i64_w, i32_w]
            rfl
           have HL451_1 := HL447_1; have HR451_1 := HR447_1; have HC451_1 := HC447_1; refine one_ (i := 23) (N := some 57) (bz 33554431 28) rfl rfl (qwa HT_.out (by kernel_rfl)) (by decide) (fun K hK => ?_); refine goes_ Tryd.func12 (by kernel_rfl) rfl #[.agg #[.int .i64 ((rd_T31 t443 x6_1).f0), .slice A447_1 ((rd_T31 t443 x6_1).f1).length c447_1, .int .i64 ((rd_T31 t443 x6_1).f2)]] (by rfl) rfl rfl (by (try simp only [qs, qv, qw]); first | done | rfl | (simp only [qu, qt]; rfl)) ?_; with_reducible refine (impl_StressesOf.calls k1 ((rd_T31 t443 x6_1).f0) _ _ ((rd_T31 t443 x6_1).f1) ((rd_T31 t443 x6_1).f2) t452 _ ?side1 ?side2 A21.out).mono ?_
           (case side1 => repeat (first | exact (by repeat (first | (with_reducible exact HR451_1.out) | (with_reducible first | apply qka | apply qla | apply qma) | exact HR451_1.out)) | (with_reducible first | apply qka | apply qla | apply qma)))
           (case side2 => exact HC451_1.out)
           rintro e w27 ⟨v453, rfl, ho0, hb⟩; have HS0_ := (hb.cell (qf _ _ (hHeld.1))).trans (hHeld.1); have HS1_ := (hb.cell (qf _ _ (hHeld.2.1))).trans (hHeld.2.1); have HS2_ := (hb.cell (qf _ _ (hHeld.2.2.1))).trans (hHeld.2.2.1); have HS3_ := (hb.cell (qf _ _ (hHeld.2.2.2.1))).trans (hHeld.2.2.2.1); have HS4_ := (hb.cell (qf _ _ (hHeld.2.2.2.2.1))).trans (hHeld.2.2.2.2.1); have HS5_ := (hb.cell (qf _ _ (hHeld.2.2.2.2.2.1))).trans (hHeld.2.2.2.2.2.1); have HS6_ := (hb.cell (qf _ _ (hHeld.2.2.2.2.2.2.1))).trans (hHeld.2.2.2.2.2.2.1); have HS7_ := (hb.cell (qf _ _ (hHeld.2.2.2.2.2.2.2.1))).trans (hHeld.2.2.2.2.2.2.2.1); have HS8_ := (hb.cell (qf _ _ (hHeld.2.2.2.2.2.2.2.2.1))).trans (hHeld.2.2.2.2.2.2.2.2.1); have HS9_ := (hb.cell (qf _ _ (hHeld.2.2.2.2.2.2.2.2.2.1))).trans (hHeld.2.2.2.2.2.2.2.2.2.1); have HS10_ := (hb.cell (qf _ _ (hHeld.2.2.2.2.2.2.2.2.2.2.1))).trans (hHeld.2.2.2.2.2.2.2.2.2.2.1); have HS11_ := (hb.cell (qf _ _ (hHeld.2.2.2.2.2.2.2.2.2.2.2))).trans (hHeld.2.2.2.2.2.2.2.2.2.2.2); refine ⟨_, rfl, ?_⟩; have n0_ := qa (qkb (by (with_reducible repeat first | apply qx | apply qy | apply qz); exact HO_3.out) (qyb ho0) hb); have n1_ := qa (qjb (by (with_reducible repeat first | apply qaa | apply qba | apply qca); exact HO_4.out) (qyb ho0) hb); have n2_ := qa (qjb (by (with_reducible repeat first | apply qaa | apply qba | apply qca); exact HO_5.out) (qyb ho0) hb); have n3_ := qa (qib (by (with_reducible repeat first | apply qda | apply qea | apply qfa); exact HL446_1.out) (qyb ho0) hb); have n4_ := qa (qib (by (with_reducible repeat first | apply qda | apply qea | apply qfa); exact HL447_1.out) (qyb ho0) hb); have n5_ := qa (qib (by (with_reducible repeat first | apply qda | apply qea | apply qfa); exact HL449_1.out) (qyb ho0) hb); have n6_ := qa (qib (by (with_reducible repeat first | apply qda | apply qea | apply qfa); exact HL451_1.out) (qyb ho0) hb); have n7_ := qa (qvb (Kd.R_new' ho0 (Kd.R_lt (by (with_reducible repeat first | apply qx | apply qy | apply qz); exact HO_3.out))) (qp (by repeat (first | (with_reducible first | exact HB.out | apply qh | apply qe | apply qg) | exact HB.out)))); have n8_ := qa (qab (by repeat (first | (with_reducible exact HR446_1.out) | (with_reducible first | apply qka | apply qla | apply qma) | exact HR446_1.out)) hb); have n9_ := qa (qab (by repeat (first | (with_reducible exact HR447_1.out) | (with_reducible first | apply qka | apply qla | apply qma) | exact HR447_1.out)) hb); have n10_ := qa (qab (by repeat (first | (with_reducible exact HR449_1.out) | (with_reducible first | apply qka | apply qla | apply qma) | exact HR449_1.out)) hb); have n11_ := qa (qab (by repeat (first | (with_reducible exact HR451_1.out) | (with_reducible first | apply qka | apply qla | apply qma) | exact HR451_1.out)) hb); have n12_ := qa (qha (by repeat (first | (with_reducible first | exact HB.out | apply qh | apply qe | apply qg) | exact HB.out)) hb); clear HO_3 HO_4 HO_5 HL446_1 HL447_1 HL449_1 HL451_1 HR446_1 HR447_1 HR449_1 HR451_1 HB; have HO_3 := n0_; have HO_4 := n1_; have HO_5 := n2_; have HL446_1 := n3_; have HL447_1 := n4_; have HL449_1 := n5_; have HL451_1 := n6_; have HO454 := n7_; have HR446_1 := n8_; have HR447_1 := n9_; have HR449_1 := n10_; have HR451_1 := n11_; have HB := n12_; clear n0_ n1_ n2_ n3_ n4_ n5_ n6_ n7_ n8_ n9_ n10_ n11_ n12_; (try clear hb); (try clear hb2); (try clear hk); (try clear hi); (try clear ho0); obtain ⟨Ao28, co28, eo28⟩ := Kd.R_slice HO454.out
           (first | subst eo28 | (injection eo28 with f1_ f2_ f3_; have f4_ := f1_.symm; have f5_ := f3_.symm; clear f1_ f2_ f3_; subst f4_; subst f5_))
           refine hK.out _ _ ⟨HS0_, HS1_, HS2_, HS3_, HS4_, HS5_, HS6_, HS7_, HS8_, HS9_, HS10_, HS11_⟩ (fun hHeld => ?_); clear hK K; refine norm_ (a' := ?_) ?_ ?_; rotate_left
           ·show Act.put _ (some 57) _ = _
            simp only [Act.put, qb, qc, qd, i64_w, i32_w]; rfl
           refine one_ (i := 25) (N := some 59) (bz 67108863 28) rfl rfl (qwa HT_.out (by kernel_rfl)) (by decide) (fun K hK => ?_); refine goes_ Tryd.func11 (by kernel_rfl) rfl #[.slice Ao28 t452.length co28, .slice Ao9 t437.length co9] (by rfl) rfl rfl (by (try simp only [qs, qv, qw]); first | done | rfl | (simp only [qu, qt]; rfl)) ?_; with_reducible refine (laws_sameInts.calls k1 _ _ t452 _ _ t437 true _ ?side1 ?side2 ?side3 ?side4 A22.out).mono ?_
           (case side1 => repeat (first | exact (qgb HO454.out).2.2 | (with_reducible first | apply qka | apply qla | apply qma)))
           (case side2 => exact (qgb HO454.out).2.1)
           (case side3 => repeat (first | exact (qgb HO_3.out).2.2 | (with_reducible first | apply qka | apply qla | apply qma)))
           (case side4 => exact (qgb HO_3.out).2.1)
           rintro e w' ⟨rfl, ⟨nd, rfl⟩⟩; refine ⟨_, rfl, ?_⟩; refine hK.out _ _ ⟨hHeld.1, hHeld.2.1, hHeld.2.2.1, hHeld.2.2.2.1, hHeld.2.2.2.2.1, hHeld.2.2.2.2.2.1, hHeld.2.2.2.2.2.2.1, hHeld.2.2.2.2.2.2.2.1, hHeld.2.2.2.2.2.2.2.2.1, hHeld.2.2.2.2.2.2.2.2.2.1, hHeld.2.2.2.2.2.2.2.2.2.2.1, hHeld.2.2.2.2.2.2.2.2.2.2.2⟩ (fun hHeld => ?_); clear hK K; refine norm_ (a' := ?_) ?_ ?_; rotate_left
           ·show Act.put _ (some 59) _ = _
            simp only [Act.put, qb, qc, qd, i64_w, i32_w]; rfl
           refine pure_ (i := 26) (N := some 60) (v := ?_) (a' := ?_) (bz 134217727 28) rfl rfl (qua HT_.out (by kernel_rfl)) (fun _ _ _ h => h) (Or.inl ⟨by rfl, ?_⟩) ?_ ?_; rotate_left
           ·intro w'
            go_simp; with_reducible rfl
           rotate_left
           ·simp only [Act.put, qb, qc, qd, i64_w, i32_w]
            rfl
           refine pure_ (i := 27) (N := some 61) (v := ?_) (a' := ?_) (bz 268435455 28) rfl rfl (qua HT_.out (by kernel_rfl)) (fun _ _ _ h => h) (Or.inl ⟨by rfl, ?_⟩) ?_ ?_; rotate_left
           ·intro w'
            go_simp; with_reducible rfl
           rotate_left
           ·simp only [Act.put, qb, qc, qd, i64_w, i32_w]
            rfl
           refine done_ (done_of HT_.out (by kernel_rfl)) ?_
           try go_wp2
           go_roundg k1
           case measure => have := HK1.out; omega
           case rel => exact ⟨(wrap64 (x6_1 + 1)), (by first | rfl | (simp; done) | (simp [*]; done)), H', ⟨by have := HK1.out; omega⟩, ⟨by (with_reducible repeat first | apply qx | apply qy | apply qz); exact qoa HO_3.out (fun _ hk => trivial)⟩, ⟨by (with_reducible repeat first | apply qaa | apply qba | apply qca); exact qpa HO_4.out (fun _ hk => ⟨hk.1.1, hk.1.2⟩)⟩, ⟨by (with_reducible repeat first | apply qaa | apply qba | apply qca); exact qpa HO_5.out (fun _ hk => ⟨hk.1.1, hk.1.2⟩)⟩, ⟨by repeat (first | (with_reducible first | exact HB.out | apply qh | apply qe | apply qg) | exact HB.out)⟩⟩
          ·replace c23 := Bool.eq_false_iff.mpr c23
           subst c23; rw [if_neg (show ¬ (false = true) by decide)] at H; have H1 := H; exact absurd (qia H1) (by rw [HRT.out]; decide)
         ·replace c20 := Bool.eq_false_iff.mpr c20
          subst c20; rw [if_neg (show ¬ (false = true) by decide)] at H; have H1 := H; exact absurd (qia H1) (by rw [HRT.out]; decide)
        ·replace c18 := Bool.eq_false_iff.mpr c18
         subst c18; rw [if_neg (show ¬ (false = true) by decide)] at H; have H1 := H; exact absurd (qia H1) (by rw [HRT.out]; decide)
       ·rw [if_neg c16] at H
        exact absurd H (by simp)
      ·rw [if_neg c15] at H
       exact absurd H (by simp)
     ·rw [if_neg c14] at H
      have c14b0 : decide (x6_1 < (t440.length : Int)) = false := qr c14; clear c14; obtain ⟨t456, A390, H⟩ := zb H; (try dsimp only at H); have A39 := qa A390; clear A390; obtain ⟨t457, A400, H⟩ := zb H; (try dsimp only at H); have A40 := qa A400; clear A400; obtain ⟨t460, A410, H⟩ := zb H; (try dsimp only at H); have A41 := qa A410; clear A410
      by_cases c42 : (t457.length : Int) = (t460.length : Int)
      ·rw [if_pos c42] at H
       have c42b0 : ((t457.length : Int) == (t460.length : Int)) = true := ze c42; have c42b1 : ((t457.length : Int) != (t460.length : Int)) = false := zc c42
       have c42b2 : (t457.length == t460.length) = true := by first | simpa using c42 | (simp at c42 ⊢; omega)
       clear c42; have H' := qa H; clear H
       go_wp2_with (first | ((with_reducible refine qeb (f := 13) rfl ?_); refine goesL_ (some 63) rfl rfl Tryd.func13 (by kernel_rfl) rfl #[.slice A0 l0.length c0] rfl (by (try simp only [qs, qv, qw]); first | done | rfl | (simp only [qu, qt]; rfl)) ?_; (with_reducible refine (spec_DrawFootingsOf.calls k1 _ _ l0 t456 _ ?side1 ?side2 A39.out).mono ?_); (case side1 => repeat (first | exact (qab HR0.out HB.out) | (with_reducible first | apply qka | apply qla | apply qma))); (case side2 => exact HC0.out); rintro e w43 ⟨rfl, hb⟩; refine ⟨_, rfl, ?_⟩; have n0_ := qa (qya (by (with_reducible repeat first | apply qx | apply qy | apply qz); exact HO_3.out) hb); have n1_ := qa (qza (by (with_reducible repeat first | apply qaa | apply qba | apply qca); exact HO_4.out) hb); have n2_ := qa (qza (by (with_reducible repeat first | apply qaa | apply qba | apply qca); exact HO_5.out) hb); have n3_ := qa (qha (by repeat (first | (with_reducible first | exact HB.out | apply qh | apply qe | apply qg) | exact HB.out)) hb); clear HO_3; clear HO_4; clear HO_5; clear HB; have HO_3 := n0_; have HO_4 := n1_; have HO_5 := n2_; have HB := n3_; clear n0_ n1_ n2_ n3_; (try clear hb); (try clear hb2); (try clear hk); (try clear hi)) | ((with_reducible refine qeb (f := 14) rfl ?_); refine goesL_ (some 65) rfl rfl Tryd.func14 (by kernel_rfl) rfl #[.int .i64 t456] rfl (by (try simp only [qs, qv, qw]); first | done | rfl | (simp only [qu, qt]; rfl)) ?_; (with_reducible refine (impl_FootingsOf.calls t456 t457 _ A40.out).mono ?_); rintro e w44 ⟨v458, rfl, ho0, hb⟩; refine ⟨_, rfl, ?_⟩; have n0_ := qa (qya (by (with_reducible repeat first | apply qx | apply qy | apply qz); exact HO_3.out) hb); have n1_ := qa (qjb (by (with_reducible repeat first | apply qaa | apply qba | apply qca); exact HO_4.out) (by first | exact Kd.N_base ho0 | exact Kd.N_base (Kd.S_N ho0)) hb); have n2_ := qa (qjb (by (with_reducible repeat first | apply qaa | apply qba | apply qca); exact HO_5.out) (by first | exact Kd.N_base ho0 | exact Kd.N_base (Kd.S_N ho0)) hb); have n3_ := qa (qxb (qpa (ok' := fun k_ => some k_ ≠ (.slice Ao9 t437.length co9 : Value).ownBlock ∧ some k_ ≠ (.slice Ao12 t440.length co12 : Value).ownBlock ∧ some k_ ≠ (.slice Ao13 t443.length co13 : Value).ownBlock) (Kd.S_N (Kd.S_bound ho0)) (fun k_ hk_ => ⟨(Kd.fresh' (Kd.R_lt (by (with_reducible repeat first | apply qx | apply qy | apply qz); exact HO_3.out)) k_ hk_.2.1), (Kd.fresh' (Kd.N_lt (by (with_reducible repeat first | apply qaa | apply qba | apply qca); exact HO_4.out)) k_ hk_.2.1), (Kd.fresh' (Kd.N_lt (by (with_reducible repeat first | apply qaa | apply qba | apply qca); exact HO_5.out)) k_ hk_.2.1)⟩)) (qp (by repeat (first | (with_reducible first | exact HB.out | apply qh | apply qe | apply qg) | exact HB.out)))); have n4_ := qa (qha (by repeat (first | (with_reducible first | exact HB.out | apply qh | apply qe | apply qg) | exact HB.out)) hb); clear HO_3; clear HO_4; clear HO_5; clear HB; have HO_3 := n0_; have HO_4 := n1_; have HO_5 := n2_; have HO459 := n3_; have HB := n4_; clear n0_ n1_ n2_ n3_ n4_; (try clear hb); (try clear hb2); (try clear hk); (try clear hi); (try clear ho0)) | ((with_reducible refine qeb (f := 15) rfl ?_); refine goesL_ (some 67) rfl rfl Tryd.func15 (by kernel_rfl) rfl #[.int .i64 t456] rfl (by (try simp only [qs, qv, qw]); first | done | rfl | (simp only [qu, qt]; rfl)) ?_; (with_reducible refine (spec_FootingsOf.calls k1 t456 t460 _ A41.out).mono ?_); rintro e w45 ⟨v461, rfl, ho0, hb⟩; refine ⟨_, rfl, ?_⟩; have n0_ := qa (qya (by (with_reducible repeat first | apply qx | apply qy | apply qz); exact HO_3.out) hb); have n1_ := qa (qjb (by (with_reducible repeat first | apply qaa | apply qba | apply qca); exact HO_4.out) (by first | exact Kd.N_base ho0 | exact Kd.N_base (Kd.S_N ho0)) hb); have n2_ := qa (qjb (by (with_reducible repeat first | apply qaa | apply qba | apply qca); exact HO_5.out) (by first | exact Kd.N_base ho0 | exact Kd.N_base (Kd.S_N ho0)) hb); have n3_ := qa (qjb (by (with_reducible repeat first | apply qaa | apply qba | apply qca); exact HO459.out) (by first | exact Kd.N_base ho0 | exact Kd.N_base (Kd.S_N ho0)) hb); have n4_ := qa (qxb (qpa (ok' := fun k_ => some k_ ≠ (.slice Ao9 t437.length co9 : Value).ownBlock ∧ some k_ ≠ (.slice Ao12 t440.length co12 : Value).ownBlock ∧ some k_ ≠ (.slice Ao13 t443.length co13 : Value).ownBlock ∧ some k_ ≠ (v458 : Value).ownBlock) ho0 (fun k_ hk_ => ⟨(Kd.fresh' (Kd.R_lt (by (with_reducible repeat first | apply qx | apply qy | apply qz); exact HO_3.out)) k_ hk_), (Kd.fresh' (Kd.N_lt (by (with_reducible repeat first | apply qaa | apply qba | apply qca); exact HO_4.out)) k_ hk_), (Kd.fresh' (Kd.N_lt (by (with_reducible repeat first | apply qaa | apply qba | apply qca); exact HO_5.out)) k_ hk_), (Kd.fresh' (Kd.N_lt (by (with_reducible repeat first | apply qaa | apply qba | apply qca); exact HO459.out)) k_ hk_)⟩)) (qp (by repeat (first | (with_reducible first | exact HB.out | apply qh | apply qe | apply qg) | exact HB.out)))); have n5_ := qa (qha (by repeat (first | (with_reducible first | exact HB.out | apply qh | apply qe | apply qg) | exact HB.out)) hb); clear HO_3; clear HO_4; clear HO_5; clear HO459; clear HB; have HO_3 := n0_; have HO_4 := n1_; have HO_5 := n2_; have HO459 := n3_; have HO462 := n4_; have HB := n5_; clear n0_ n1_ n2_ n3_ n4_ n5_; (try clear hb); (try clear hb2); (try clear hk); (try clear hi); (try clear ho0); obtain ⟨Ao46, co46, eo46⟩ := Kd.N_slice HO459.out; subst eo46; obtain ⟨Ao47, co47, eo47⟩ := Kd.N_slice HO462.out; subst eo47))
       go_loopg [10] k1 (fun kq v10 w' => ∃ (x10_2 : Int), v10 = .int .i64 x10_2 ∧ Aside0 (laws_FnFeet.l1 kq l0 t457 t460 x10_2 = some r) ∧ Aside0 (kq ≤ k1) ∧ Aside0 (Kd.N k31 31 w' w.heap.size (fun k_ => some k_ ≠ ((.slice Ao47 t460.length co47) : Value).ownBlock) (.slice Ao46 t457.length co46) t457) ∧ Aside0 (Kd.N k31 31 w' w.heap.size (fun k_ => some k_ ≠ ((.slice Ao46 t457.length co46) : Value).ownBlock) (.slice Ao47 t460.length co47) t460) ∧ Aside0 (Below w.heap.size w w'))
       case atStart => exact ⟨(0), (by first | rfl | (simp; done) | (simp [*]; done)), H', ⟨qqb _⟩, ⟨by (with_reducible repeat first | apply qaa | apply qba | apply qca); exact qpa HO459.out (fun _ hk => hk.2)⟩, ⟨by (with_reducible repeat first | apply qaa | apply qba | apply qca); exact qpa HO462.out (fun _ hk => hk.2.2.2)⟩, ⟨by repeat (first | (with_reducible first | exact HB.out | apply qh | apply qe | apply qg) | exact HB.out)⟩⟩
       case round =>
        clear H'; (try clear c1); (try clear p2); (try clear c4); (try clear p4); (try clear q4); (try clear hx4); (try clear c9); (try clear c10); (try clear c13); (try clear c14); (try clear c14b0); (try clear c15); (try clear c16); (try clear c18); (try clear c42); (try clear c42b0); (try clear c42b1); (try clear c42b2); (try clear c44); (try clear p44); (try clear q44); (try clear hx44); (try clear hx446_0); (try clear hx446_1); (try clear hx446_2); (try clear hx447_0); (try clear hx447_1); (try clear hx447_2); (try clear p446); (try clear p447); (try clear q446); (try clear q447); obtain ⟨x10_2, rfl, HA, HK2, HO_8, HO_9, HB⟩ := hrel
        cases gk with
        | zero => exact absurd HA.out (by simp [laws_FnFeet.l1])
        | succ k2 =>
         have H := HA.out; clear HA; simp only [laws_FnFeet.l1] at H
         by_cases c48 : x10_2 < (t457.length : Int)
         ·rw [if_pos c48] at H
          have c48b0 : decide (x10_2 < (t457.length : Int)) = true := qq c48; clear c48
          by_cases c49 : 0 ≤ x10_2
          ·rw [if_pos c49] at H
           have c49b0 : decide (0 ≤ x10_2) = true := qq c49; clear c49
           by_cases c50 : x10_2 < (t460.length : Int)
           ·rw [if_pos c50] at H
            have c50b0 : decide (x10_2 < (t460.length : Int)) = true := qq c50; clear c50; obtain ⟨t465, A510, H⟩ := zb H; (try dsimp only at H); have A51 := qa A510; clear A510
            by_cases c52 : t465 = true
            ·subst c52
             rw [if_pos rfl] at H; have H1 := H; clear H; have H := H1; clear H1; have H' := qa H; clear H
             try go_wp2
             have n0_ := qa (qca HO_8.out); have n1_ := qa (qca HO_9.out); have n2_ := qa (qg HB.out); clear HO_8 HO_9 HB; have HO_8 := n0_; have HO_9 := n1_; have HB := n2_; clear n0_ n1_ n2_; have p463 : 0 ≤ (x10_2 : Int) := qm (by assumption); have q463 : x10_2 < (t457.length : Int) := qm (by assumption); obtain ⟨ad463, A463_1, c463_1, e463, hx463_0, hx463_1, hx463_2, hl463_1, hi463_1⟩ := at_T31 (qhb HO_8.out).2.2 x10_2 p463 q463; cases e463; obtain ⟨ce463, hce463, hMe463, hcc463⟩ := qbc HO_8.out z31 x10_2 p463 (by first | exact q463 | exact qm (by assumption) | (have e_ := (qhb HO_8.out).1; omega)); obtain ⟨ua463_1, uc463_1, rfl, ul463_1, ge463_1⟩ := k31_openF hMe463; have hv463_1 := hcc463 1 _ rfl; rw [add_field _ _ 1 (by omega)] at hv463_1; replace hv463_1 := qia (hv463_1.symm.trans hx463_1)
             injection hv463_1 with hva_ hvn_ hvc_
             rw [hva_] at ge463_1; rw [hvc_] at ul463_1; have HL463_1 := qa (show Kd.V k59 59 _ w.heap.size _ _ ((rd_T31 t457 x10_2).f1) from Kd.V_mk ul463_1 ge463_1); clear hva_ hvn_ hvc_ ge463_1 ul463_1 hcc463 hce463; have HR463_1 := qa hi463_1; have HC463_1 := qa hl463_1; clear hi463_1 hl463_1; replace p463 := qga p463; replace q463 := qga q463; have p464 : 0 ≤ (x10_2 : Int) := qm (by assumption); have q464 : x10_2 < (t460.length : Int) := qm (by assumption); obtain ⟨ad464, A464_1, c464_1, e464, hx464_0, hx464_1, hx464_2, hl464_1, hi464_1⟩ := at_T31 (qhb HO_9.out).2.2 x10_2 p464 q464; cases e464; obtain ⟨ce464, hce464, hMe464, hcc464⟩ := qbc HO_9.out z31 x10_2 p464 (by first | exact q464 | exact qm (by assumption) | (have e_ := (qhb HO_9.out).1; omega)); obtain ⟨ua464_1, uc464_1, rfl, ul464_1, ge464_1⟩ := k31_openF hMe464; have hv464_1 := hcc464 1 _ rfl; rw [add_field _ _ 1 (by omega)] at hv464_1; replace hv464_1 := qia (hv464_1.symm.trans hx464_1)
             injection hv464_1 with hva_ hvn_ hvc_
             rw [hva_] at ge464_1; rw [hvc_] at ul464_1; have HL464_1 := qa (show Kd.V k59 59 _ w.heap.size _ _ ((rd_T31 t460 x10_2).f1) from Kd.V_mk ul464_1 ge464_1); clear hva_ hvn_ hvc_ ge464_1 ul464_1 hcc464 hce464; have HR464_1 := qa hi464_1; have HC464_1 := qa hl464_1; clear hi464_1 hl464_1; replace p464 := qga p464; replace q464 := qga q464; refine start_ (n := 10) (S := fun w' => w'.cell? (ad463.add ((x10_2).toNat * 3)) = some (.int .i64 ((rd_T31 t457 x10_2).f0)) ∧ w'.cell? ⟨(ad463.add ((x10_2).toNat * 3)).block, (ad463.add ((x10_2).toNat * 3)).off + 1, none⟩ = some (.slice A463_1 ((rd_T31 t457 x10_2).f1).length c463_1) ∧ w'.cell? ⟨(ad463.add ((x10_2).toNat * 3)).block, (ad463.add ((x10_2).toNat * 3)).off + 2, none⟩ = some (.int .i64 ((rd_T31 t457 x10_2).f2)) ∧ w'.cell? (ad464.add ((x10_2).toNat * 3)) = some (.int .i64 ((rd_T31 t460 x10_2).f0)) ∧ w'.cell? ⟨(ad464.add ((x10_2).toNat * 3)).block, (ad464.add ((x10_2).toNat * 3)).off + 1, none⟩ = some (.slice A464_1 ((rd_T31 t460 x10_2).f1).length c464_1) ∧ w'.cell? ⟨(ad464.add ((x10_2).toNat * 3)).block, (ad464.add ((x10_2).toNat * 3)).off + 2, none⟩ = some (.int .i64 ((rd_T31 t460 x10_2).f2))) (ds := []) #[false, false, false, false, false, false, false, false, false, false] (by kernel_rfl) rfl rfl ⟨hx463_0, hx463_1, hx463_2, hx464_0, hx464_1, hx464_2⟩ (fun hHeld => ?_); refine with_tabW laws_FnFeet.tab21 laws_FnFeet.bits21 (fun HT_ HW_ => ?_); generalize wr.drew = w53 at HO_8 HO_9 HB HL463_1 HL464_1 HR463_1 HR464_1 hx463_0 hx463_1 hx463_2 hx464_0 hx464_1 hx464_2 hHeld ⊢; refine pure_ (i := 0) (N := some 79) (v := ?_) (a' := ?_) #[true, false, false, false, false, false, false, false, false, false] rfl rfl (qua HT_.out (by kernel_rfl)) (fun _ _ _ h => h) (Or.inl ⟨by rfl, ?_⟩) ?_ ?_; rotate_left
             ·intro w'
              go_simp; with_reducible rfl
             rotate_left
             ·simp only [Act.put, qb, qc, qd, i64_w, i32_w]
              rfl
             refine pure_ (i := 1) (N := some 80) (v := ?_) (a' := ?_) #[true, true, false, false, false, false, false, false, false, false] rfl rfl (qua HT_.out (by kernel_rfl)) (fun _ _ _ h => h) (Or.inl ⟨by rfl, ?_⟩) ?_ ?_; rotate_left
             ·intro w'
              go_simp; with_reducible rfl
             rotate_left
             ·simp only [Act.put, qb, qc, qd, i64_w, i32_w]
              rfl
             refine pure_ (i := 2) (N := some 81) (v := ?_) (a' := ?_) #[true, true, true, false, false, false, false, false, false, false] rfl rfl (qua HT_.out (by kernel_rfl)) (fun _ _ _ h => h) (Or.inl ⟨by rfl, ?_⟩) ?_ ?_; rotate_left
             ·intro w'
              go_simp; with_reducible rfl
             rotate_left
             ·simp only [Act.put, qb, qc, qd, i64_w, i32_w]
              rfl
             refine pure_ (i := 4) (N := some 83) (v := ?_) (a' := ?_) #[true, true, true, false, true, false, false, false, false, false] rfl rfl (qua HT_.out (by kernel_rfl)) (fun _ _ _ h => h) (Or.inl ⟨by rfl, ?_⟩) ?_ ?_; rotate_left
             ·intro w'
              go_simp; with_reducible rfl
             rotate_left
             ·simp only [Act.put, qb, qc, qd, i64_w, i32_w]
              rfl
             refine pure_ (i := 5) (N := some 84) (v := ?_) (a' := ?_) #[true, true, true, false, true, true, false, false, false, false] rfl rfl (qua HT_.out (by kernel_rfl)) (fun _ _ _ h => h) (Or.inl ⟨by rfl, ?_⟩) ?_ ?_; rotate_left
             ·intro w'
              go_simp; with_reducible rfl
             rotate_left
             ·simp only [Act.put, qb, qc, qd, i64_w, i32_w]
              rfl
             refine pure_ (i := 6) (N := some 85) (v := ?_) (a' := ?_) #[true, true, true, false, true, true, true, false, false, false] rfl rfl (qua HT_.out (by kernel_rfl)) (fun _ _ _ h => h) (Or.inl ⟨by rfl, ?_⟩) ?_ ?_; rotate_left
             ·intro w'
              go_simp; with_reducible rfl
             rotate_left
             ·simp only [Act.put, qb, qc, qd, i64_w, i32_w]
              rfl
             refine take_ (i := 3) (N := some 82) (v := ?_) (a' := ?_) #[true, true, true, true, true, true, true, false, false, false] rfl rfl (qva HT_.out HW_.out (by kernel_rfl)) (fun _ _ _ h => h) (Or.inl ⟨by rfl, ?_⟩) hHeld ?_ ?_; rotate_left
             ·rintro w' ⟨s0, s1, s2, s3, s4, s5⟩
              go_simp; with_reducible rfl
             rotate_left
             ·simp only [Act.put, qb, qc, qd, i64_w, i32_w]
              rfl
             refine take_ (i := 7) (N := some 86) (v := ?_) (a' := ?_) #[true, true, true, true, true, true, true, true, false, false] rfl rfl (qva HT_.out HW_.out (by kernel_rfl)) (fun _ _ _ h => h) (Or.inl ⟨by rfl, ?_⟩) hHeld ?_ ?_; rotate_left
             ·rintro w' ⟨s0, s1, s2, s3, s4, s5⟩
              go_simp; with_reducible rfl
             rotate_left
             ·simp only [Act.put, qb, qc, qd, i64_w, i32_w]
              rfl
             refine one_ (i := 8) (N := some 87) #[true, true, true, true, true, true, true, true, true, false] rfl rfl (qwa HT_.out (by kernel_rfl)) (by decide) (fun K hK => ?_); refine goes_ Tryd.func9 (by kernel_rfl) rfl #[.agg #[.int .i64 ((rd_T31 t457 x10_2).f0), .slice A463_1 ((rd_T31 t457 x10_2).f1).length c463_1, .int .i64 ((rd_T31 t457 x10_2).f2)], .agg #[.int .i64 ((rd_T31 t460 x10_2).f0), .slice A464_1 ((rd_T31 t460 x10_2).f1).length c464_1, .int .i64 ((rd_T31 t460 x10_2).f2)]] (by rfl) rfl rfl (by (try simp only [qs, qv, qw]); first | done | rfl | (simp only [qu, qt]; rfl)) ?_; with_reducible refine (spec_EqualFootings.calls k2 ((rd_T31 t457 x10_2).f0) _ _ ((rd_T31 t457 x10_2).f1) ((rd_T31 t457 x10_2).f2) ((rd_T31 t460 x10_2).f0) _ _ ((rd_T31 t460 x10_2).f1) ((rd_T31 t460 x10_2).f2) true _ ?side1 ?side2 ?side3 ?side4 A51.out).mono ?_
             (case side1 => repeat (first | exact (by repeat (first | (with_reducible exact HR463_1.out) | (with_reducible first | apply qka | apply qla | apply qma) | exact HR463_1.out)) | (with_reducible first | apply qka | apply qla | apply qma)))
             (case side2 => exact HC463_1.out)
             (case side3 => repeat (first | exact (by repeat (first | (with_reducible exact HR464_1.out) | (with_reducible first | apply qka | apply qla | apply qma) | exact HR464_1.out)) | (with_reducible first | apply qka | apply qla | apply qma)))
             (case side4 => exact HC464_1.out)
             rintro e w54 ⟨rfl, hb⟩; have HS0_ := (hb.cell (qf _ _ (hHeld.1))).trans (hHeld.1); have HS1_ := (hb.cell (qf _ _ (hHeld.2.1))).trans (hHeld.2.1); have HS2_ := (hb.cell (qf _ _ (hHeld.2.2.1))).trans (hHeld.2.2.1); have HS3_ := (hb.cell (qf _ _ (hHeld.2.2.2.1))).trans (hHeld.2.2.2.1); have HS4_ := (hb.cell (qf _ _ (hHeld.2.2.2.2.1))).trans (hHeld.2.2.2.2.1); have HS5_ := (hb.cell (qf _ _ (hHeld.2.2.2.2.2))).trans (hHeld.2.2.2.2.2); refine ⟨_, rfl, ?_⟩; have n0_ := qa (qza (by (with_reducible repeat first | apply qaa | apply qba | apply qca); exact HO_8.out) hb); have n1_ := qa (qza (by (with_reducible repeat first | apply qaa | apply qba | apply qca); exact HO_9.out) hb); have n2_ := qa (qxa (by (with_reducible repeat first | apply qda | apply qea | apply qfa); exact HL463_1.out) hb); have n3_ := qa (qxa (by (with_reducible repeat first | apply qda | apply qea | apply qfa); exact HL464_1.out) hb); have n4_ := qa (qab (by repeat (first | (with_reducible exact HR463_1.out) | (with_reducible first | apply qka | apply qla | apply qma) | exact HR463_1.out)) hb); have n5_ := qa (qab (by repeat (first | (with_reducible exact HR464_1.out) | (with_reducible first | apply qka | apply qla | apply qma) | exact HR464_1.out)) hb); have n6_ := qa (qha (by repeat (first | (with_reducible first | exact HB.out | apply qh | apply qe | apply qg) | exact HB.out)) hb); clear HO_8 HO_9 HL463_1 HL464_1 HR463_1 HR464_1 HB; have HO_8 := n0_; have HO_9 := n1_; have HL463_1 := n2_; have HL464_1 := n3_; have HR463_1 := n4_; have HR464_1 := n5_; have HB := n6_; clear n0_ n1_ n2_ n3_ n4_ n5_ n6_; (try clear hb); (try clear hb2); (try clear hk); (try clear hi); refine hK.out _ _ ⟨HS0_, HS1_, HS2_, HS3_, HS4_, HS5_⟩ (fun hHeld => ?_); clear hK K; refine norm_ (a' := ?_) ?_ ?_; rotate_left
             ·show Act.put _ (some 87) _ = _
              simp only [Act.put, qb, qc, qd, i64_w, i32_w]; rfl
             refine pure_ (i := 9) (N := some 88) (v := ?_) (a' := ?_) #[true, true, true, true, true, true, true, true, true, true] rfl rfl (qua HT_.out (by kernel_rfl)) (fun _ _ _ h => h) (Or.inl ⟨by rfl, ?_⟩) ?_ ?_; rotate_left
             ·intro w'
              go_simp; with_reducible rfl
             rotate_left
             ·simp only [Act.put, qb, qc, qd, i64_w, i32_w]
              rfl
             refine done_ (done_of HT_.out (by kernel_rfl)) ?_
             try go_wp2
             go_roundg k2
             case measure => have := HK1.out; have := HK2.out; omega
             case rel => exact ⟨(wrap64 (x10_2 + 1)), (by first | rfl | (simp; done) | (simp [*]; done)), H', ⟨by have := HK1.out; have := HK2.out; omega⟩, ⟨by (with_reducible repeat first | apply qaa | apply qba | apply qca); exact HO_8.out⟩, ⟨by (with_reducible repeat first | apply qaa | apply qba | apply qca); exact HO_9.out⟩, ⟨by repeat (first | (with_reducible first | exact HB.out | apply qh | apply qe | apply qg) | exact HB.out)⟩⟩
            ·replace c52 := Bool.eq_false_iff.mpr c52
             subst c52; rw [if_neg (show ¬ (false = true) by decide)] at H; have H1 := H; exact absurd (qia H1) (by rw [HRT.out]; decide)
           ·rw [if_neg c50] at H
            exact absurd H (by simp)
          ·rw [if_neg c49] at H
           exact absurd H (by simp)
         ·rw [if_neg c48] at H
          have c48b0 : decide (x10_2 < (t457.length : Int)) = false := qr c48; clear c48; obtain ⟨⟨t466, t467, t470⟩, A570, H⟩ := zb H; (try dsimp only at H); have A57 := qa A570; clear A570; obtain ⟨t472, A580, H⟩ := zb H; (try dsimp only at H); have A58 := qa A580; clear A580; obtain ⟨⟨t475, t476, t479, t480, t481, t484⟩, A590, H⟩ := zb H; (try dsimp only at H); have A59 := qa A590; clear A590; obtain ⟨t487, A600, H⟩ := zb H; (try dsimp only at H); have A60 := qa A600; clear A600; obtain ⟨t490, A610, H⟩ := zb H; (try dsimp only at H); have A61 := qa A610; clear A610
          by_cases c62 : t490 = true
          ·subst c62
           rw [if_pos rfl] at H; have H1 := H; clear H; have H := H1; clear H1; obtain ⟨t491, A630, H⟩ := zb H; (try dsimp only at H); have A63 := qa A630; clear A630; obtain ⟨t492, A640, H⟩ := zb H; (try dsimp only at H); have A64 := qa A640; clear A640
           by_cases c65 : t491.toList = t492.toList
           ·rw [if_pos c65] at H
            have c65b0 : (t491.toList == t492.toList) = true := ze c65; have c65b1 : (t491.toList != t492.toList) = false := zc c65; clear c65; obtain ⟨t493, A660, H⟩ := zb H; (try dsimp only at H); have A66 := qa A660; clear A660; obtain ⟨t494, A670, H⟩ := zb H; (try dsimp only at H); have A67 := qa A670; clear A670
            by_cases c68 : (t493 == t494) = true
            ·rw [if_pos c68] at H
             have c68b0 : (t493 == t494) = true := c68; (try (have c68b1 : decide (t493 = t494) = true := by simpa using c68)); (try (have c68b2 : (t493 == t494) = true := by simpa using c68)); clear c68; obtain ⟨t495, A690, H⟩ := zb H; (try dsimp only at H); have A69 := qa A690; clear A690; obtain ⟨t498, A700, H⟩ := zb H; (try dsimp only at H); have A70 := qa A700; clear A700; obtain ⟨t501, A710, H⟩ := zb H; (try dsimp only at H); have A71 := qa A710; clear A710
             by_cases c72 : t501 = true
             ·subst c72
              rw [if_pos rfl] at H; have H1 := H; clear H; have H := H1; clear H1; have HX_ := qa H; clear H
              try go_wp2_with (first | ((with_reducible refine qeb (f := 16) rfl ?_); refine goesL_ (some 90) rfl rfl Tryd.func16 (by kernel_rfl) rfl #[.slice A0 l0.length c0] rfl (by (try simp only [qs, qv, qw]); first | done | rfl | (simp only [qu, qt]; rfl)) ?_; (with_reducible refine (spec_DrawFootMarks.calls k2 _ _ l0 t466 t467 t470 _ ?side1 ?side2 A57.out).mono ?_); (case side1 => repeat (first | exact (qab HR0.out HB.out) | (with_reducible first | apply qka | apply qla | apply qma))); (case side2 => exact HC0.out); rintro e w76 ⟨v468, rfl, ho0, hb⟩; refine ⟨_, rfl, ?_⟩; have n0_ := qa (qza (by (with_reducible repeat first | apply qaa | apply qba | apply qca); exact HO_8.out) hb); have n1_ := qa (qza (by (with_reducible repeat first | apply qaa | apply qba | apply qca); exact HO_9.out) hb); have n2_ := qa (Kd.V_lower (qna (ok' := fun k_ => some k_ ≠ (.slice Ao46 t457.length co46 : Value).ownBlock ∧ some k_ ≠ (.slice Ao47 t460.length co47 : Value).ownBlock) ho0 (fun k_ hk_ => ⟨(Kd.fresh' (Kd.N_lt (by (with_reducible repeat first | apply qaa | apply qba | apply qca); exact HO_8.out)) k_ hk_), (Kd.fresh' (Kd.N_lt (by (with_reducible repeat first | apply qaa | apply qba | apply qca); exact HO_9.out)) k_ hk_)⟩)) (qp (by repeat (first | (with_reducible first | exact HB.out | apply qh | apply qe | apply qg) | exact HB.out)))); have n3_ := qa (qha (by repeat (first | (with_reducible first | exact HB.out | apply qh | apply qe | apply qg) | exact HB.out)) hb); clear HO_8; clear HO_9; clear HB; have HO_8 := n0_; have HO_9 := n1_; have HO469 := n2_; have HB := n3_; clear n0_ n1_ n2_ n3_; (try clear hb); (try clear hb2); (try clear hk); (try clear hi); (try clear ho0)) | ((with_reducible refine gate_dst (N := 11) rfl ?_); (try (refine gate_guard (by rfl) ?_; dsimp only)); refine box_event ?hg (N := 11) ?hd (cs := #[.int .i64 0, .slice none 0 0, .int .i64 0]) (t := 31) ?hr ?_; (case hd => rfl); (case hg => rfl); (case hr => first | (go_simp; done) | (go_simp; rfl)); intro gb471 hg w77 hbox hb; have n0_ := qa (qza (Kd.N_elderB (by (with_reducible repeat first | apply qaa | apply qba | apply qca); exact HO_8.out) gb471 (Nat.le_of_eq hg.symm)) hb); have n1_ := qa (qza (Kd.N_elderB (by (with_reducible repeat first | apply qaa | apply qba | apply qca); exact HO_9.out) gb471 (Nat.le_of_eq hg.symm)) hb); have n2_ := qa (qxa (Kd.V_elderB (by (with_reducible repeat first | apply qda | apply qea | apply qfa); exact HO469.out) gb471 (Nat.le_of_eq hg.symm)) hb); have n3_ := qa (qha (by repeat (first | (with_reducible first | exact HB.out | apply qh | apply qe | apply qg) | exact HB.out)) hb); have n4_ := qa (hbox); have n5_ := qa ((by rw [hg]; exact (qp (by repeat (first | (with_reducible first | exact HB.out | apply qh | apply qe | apply qg) | exact HB.out))) : w.heap.size ≤ gb471)); have n6_ := qa ((by rw [hg]; exact (qp (by repeat (first | (with_reducible first | exact HB.out | apply qh | apply qe | apply qg) | exact HB.out))) : w.heap.size ≤ gb471)); clear HO_8; clear HO_9; clear HO469; clear HB; have HO_8 := n0_; have HO_9 := n1_; have HO469 := n2_; have HB := n3_; have BK471 := n4_; have GW471 := n5_; have GE471 := n6_; clear n0_ n1_ n2_ n3_ n4_ n5_ n6_; clear hb hbox hg; have hcz78_0 : w77.cell? ⟨gb471, 0, none⟩ = some (.int .i64 0) := (qi BK471.out 0).trans rfl; have hcz78_1 : w77.cell? ⟨gb471, 1, none⟩ = some (.slice none 0 0) := (qi BK471.out 1).trans rfl; have hcz78_2 : w77.cell? ⟨gb471, 2, none⟩ = some (.int .i64 0) := (qi BK471.out 2).trans rfl; have hfz78_0 := qo BK471.out 0; have hfz78_1 := qo BK471.out 1; have hfz78_2 := qo BK471.out 2; obtain ⟨Ao79, co79, eo79⟩ := Kd.V_slice HO469.out; subst eo79) | ((with_reducible refine qeb (f := 17) rfl ?_); refine goesL_ (some 92) rfl rfl Tryd.func17 (by kernel_rfl) rfl #[.agg #[.int .i64 t466, .slice Ao79 t467.length co79, .int .i64 t470]] rfl (by (try simp only [qs, qv, qw]); first | done | rfl | (simp only [qu, qt]; rfl)) ?_; (with_reducible refine (impl_FootMarks.calls k2 t466 _ _ t467 t470 t472 _ ?side1 ?side2 A58.out).mono ?_); (case side1 => refine (qfb (e := 59) (base := w.heap.size) (ok := fun k_ => ((some k_ ≠ (.slice Ao46 t457.length co46 : Value).ownBlock ∧ some k_ ≠ (.slice Ao47 t460.length co47 : Value).ownBlock) ∧ k_ ≠ gb471)) (n := t467.length) (c := co79) ?_).2.2; exact (by (with_reducible repeat first | apply qda | apply qea | apply qfa); exact (qna (qnb (p := ⟨gb471, 2, none⟩) (qnb (p := ⟨gb471, 1, none⟩) (qnb (p := ⟨gb471, 0, none⟩) (qna HO469.out (fun k_ hk => (⟨hk, hk.2⟩ : _ ∧ k_ ≠ gb471))) (fun _ hk => hk.2) (.int .i64 t466)) (fun _ hk => hk.2) (.slice Ao79 t467.length co79)) (fun _ hk => hk.2) (.int .i64 t470)) (fun _ h_ => h_.1)))); (case side2 => exact (qfb HO469.out).2.1); rintro e w80 ⟨v473, rfl, ho0, hb⟩; refine ⟨_, rfl, ?_⟩; have n0_ := qa (qjb (by (with_reducible repeat first | apply qaa | apply qba | apply qca); exact (qpa (qpb (p := ⟨gb471, 2, none⟩) (qpb (p := ⟨gb471, 1, none⟩) (qpb (p := ⟨gb471, 0, none⟩) (qpa HO_8.out (fun k_ hk => (⟨hk, hk.2⟩ : _ ∧ k_ ≠ gb471))) (fun _ hk => hk.2) (.int .i64 t466)) (fun _ hk => hk.2) (.slice Ao79 t467.length co79)) (fun _ hk => hk.2) (.int .i64 t470)) (fun _ h_ => h_.1))) (qyb ho0) hb); have n1_ := qa (qjb (by (with_reducible repeat first | apply qaa | apply qba | apply qca); exact (qpa (qpb (p := ⟨gb471, 2, none⟩) (qpb (p := ⟨gb471, 1, none⟩) (qpb (p := ⟨gb471, 0, none⟩) (qpa HO_9.out (fun k_ hk => (⟨hk, hk.2⟩ : _ ∧ k_ ≠ gb471))) (fun _ hk => hk.2) (.int .i64 t466)) (fun _ hk => hk.2) (.slice Ao79 t467.length co79)) (fun _ hk => hk.2) (.int .i64 t470)) (fun _ h_ => h_.1))) (qyb ho0) hb); have n2_ := qa (qib (by (with_reducible repeat first | apply qda | apply qea | apply qfa); exact (qna (qnb (p := ⟨gb471, 2, none⟩) (qnb (p := ⟨gb471, 1, none⟩) (qnb (p := ⟨gb471, 0, none⟩) (qna HO469.out (fun k_ hk => (⟨hk, hk.2⟩ : _ ∧ k_ ≠ gb471))) (fun _ hk => hk.2) (.int .i64 t466)) (fun _ hk => hk.2) (.slice Ao79 t467.length co79)) (fun _ hk => hk.2) (.int .i64 t470)) (fun _ h_ => h_.1))) (qyb ho0) hb); have n3_ := qa (qvb ho0 (qp (by repeat (first | (with_reducible first | exact HB.out | apply qh | apply qe | apply qg | refine qj ?_ GE471.out) | exact HB.out)))); have n4_ := qa (qja (g := gb471) (o := .cells #[.int .i64 t466, .slice Ao79 t467.length co79, .int .i64 t470] 31 (0, 0)) (by (with_reducible repeat first | apply ql | apply qn | apply qk); refine qmb (cs := #[.int .i64 t466, .slice Ao79 t467.length co79, .int .i64 0]) ?_ 2 _ rfl; (with_reducible repeat first | apply ql | apply qn | apply qk); refine qmb (cs := #[.int .i64 t466, .slice none 0 0, .int .i64 0]) ?_ 1 _ rfl; (with_reducible repeat first | apply ql | apply qn | apply qk); refine qmb (cs := #[.int .i64 0, .slice none 0 0, .int .i64 0]) ?_ 0 _ rfl; (with_reducible repeat first | apply ql | apply qn | apply qk); exact BK471.out) hb); have n5_ := qa (qha (by repeat (first | (with_reducible first | exact HB.out | apply qh | apply qe | apply qg | refine qj ?_ GE471.out) | exact HB.out)) hb); clear HO_8; clear HO_9; clear HO469; clear BK471; clear HB; have HO_8 := n0_; have HO_9 := n1_; have HO469 := n2_; have HO474 := n3_; have BK471 := n4_; have HB := n5_; clear n0_ n1_ n2_ n3_ n4_ n5_; (try clear hb); (try clear hb2); (try clear hk); (try clear hi); (try clear ho0)) | ((with_reducible refine qeb (f := 18) rfl ?_); refine goesL_ (some 95) rfl rfl Tryd.func18 (by kernel_rfl) rfl #[.slice A0 l0.length c0] rfl (by (try simp only [qs, qv, qw]); first | done | rfl | (simp only [qu, qt]; rfl)) ?_; (with_reducible refine (spec_DrawEqualFootings.calls k2 _ _ l0 t475 t476 t479 t480 t481 t484 _ ?side1 ?side2 A59.out).mono ?_); (case side1 => repeat (first | exact (qab HR0.out HB.out) | (with_reducible first | apply qka | apply qla | apply qma))); (case side2 => exact HC0.out); rintro e w81 ⟨v477, v482, rfl, ho0, ho1, hb⟩; refine ⟨_, rfl, ?_⟩; have n0_ := qa (qza (by (with_reducible repeat first | apply qaa | apply qba | apply qca); exact HO_8.out) hb); have n1_ := qa (qza (by (with_reducible repeat first | apply qaa | apply qba | apply qca); exact HO_9.out) hb); have n2_ := qa (qxa (by (with_reducible repeat first | apply qda | apply qea | apply qfa); exact HO469.out) hb); have n3_ := qa (qya (by (with_reducible repeat first | apply qx | apply qy | apply qz); exact HO474.out) hb); have n4_ := qa (Kd.V_lower (qna (ok' := fun k_ => some k_ ≠ (.slice Ao46 t457.length co46 : Value).ownBlock ∧ some k_ ≠ (.slice Ao47 t460.length co47 : Value).ownBlock ∧ some k_ ≠ (v473 : Value).ownBlock ∧ k_ ≠ gb471) ho0 (fun k_ hk_ => ⟨(Kd.fresh' (Kd.N_lt (by (with_reducible repeat first | apply qaa | apply qba | apply qca); exact HO_8.out)) k_ hk_), (Kd.fresh' (Kd.N_lt (by (with_reducible repeat first | apply qaa | apply qba | apply qca); exact HO_9.out)) k_ hk_), (Kd.fresh' (Kd.R_lt (by (with_reducible repeat first | apply qx | apply qy | apply qz); exact HO474.out)) k_ hk_), (Kd.freshB (g := gb471) (o := .cells #[.int .i64 t466, .slice Ao79 t467.length co79, .int .i64 t470] 31 (0, 0)) (by (with_reducible repeat first | apply ql | apply qn | apply qk); exact BK471.out) k_ hk_)⟩)) (qp (by repeat (first | (with_reducible first | exact HB.out | apply qh | apply qe | apply qg | refine qj ?_ GE471.out) | exact HB.out)))); have n5_ := qa (Kd.V_lower (qna (ok' := fun k_ => some k_ ≠ (.slice Ao46 t457.length co46 : Value).ownBlock ∧ some k_ ≠ (.slice Ao47 t460.length co47 : Value).ownBlock ∧ some k_ ≠ (v473 : Value).ownBlock ∧ k_ ≠ gb471) ho1 (fun k_ hk_ => ⟨(Kd.fresh' (Kd.N_lt (by (with_reducible repeat first | apply qaa | apply qba | apply qca); exact HO_8.out)) k_ hk_), (Kd.fresh' (Kd.N_lt (by (with_reducible repeat first | apply qaa | apply qba | apply qca); exact HO_9.out)) k_ hk_), (Kd.fresh' (Kd.R_lt (by (with_reducible repeat first | apply qx | apply qy | apply qz); exact HO474.out)) k_ hk_), (Kd.freshB (g := gb471) (o := .cells #[.int .i64 t466, .slice Ao79 t467.length co79, .int .i64 t470] 31 (0, 0)) (by (with_reducible repeat first | apply ql | apply qn | apply qk); exact BK471.out) k_ hk_)⟩)) (qp (by repeat (first | (with_reducible first | exact HB.out | apply qh | apply qe | apply qg | refine qj ?_ GE471.out) | exact HB.out)))); have n6_ := qa (qja (g := gb471) (o := .cells #[.int .i64 t466, .slice Ao79 t467.length co79, .int .i64 t470] 31 (0, 0)) (by (with_reducible repeat first | apply ql | apply qn | apply qk); exact BK471.out) hb); have n7_ := qa (qha (by repeat (first | (with_reducible first | exact HB.out | apply qh | apply qe | apply qg | refine qj ?_ GE471.out) | exact HB.out)) hb); clear HO_8; clear HO_9; clear HO469; clear HO474; clear BK471; clear HB; have HO_8 := n0_; have HO_9 := n1_; have HO469 := n2_; have HO474 := n3_; have HO478 := n4_; have HO483 := n5_; have BK471 := n6_; have HB := n7_; clear n0_ n1_ n2_ n3_ n4_ n5_ n6_ n7_; (try clear hb); (try clear hb2); (try clear hk); (try clear hi); (try clear ho0); (try clear ho1)) | ((with_reducible refine gate_dst (N := 13) rfl ?_); (try (refine gate_guard (by rfl) ?_; dsimp only)); refine box_event ?hg (N := 13) ?hd (cs := #[.int .i64 0, .slice none 0 0, .int .i64 0]) (t := 31) ?hr ?_; (case hd => rfl); (case hg => rfl); (case hr => first | (go_simp; done) | (go_simp; rfl)); intro gb485 hg w82 hbox hb; have n0_ := qa (qza (Kd.N_elderB (by (with_reducible repeat first | apply qaa | apply qba | apply qca); exact HO_8.out) gb485 (Nat.le_of_eq hg.symm)) hb); have n1_ := qa (qza (Kd.N_elderB (by (with_reducible repeat first | apply qaa | apply qba | apply qca); exact HO_9.out) gb485 (Nat.le_of_eq hg.symm)) hb); have n2_ := qa (qxa (Kd.V_elderB (by (with_reducible repeat first | apply qda | apply qea | apply qfa); exact HO469.out) gb485 (Nat.le_of_eq hg.symm)) hb); have n3_ := qa (qya (by (with_reducible repeat first | apply qx | apply qy | apply qz); exact HO474.out) hb); have n4_ := qa (qxa (Kd.V_elderB (by (with_reducible repeat first | apply qda | apply qea | apply qfa); exact HO478.out) gb485 (Nat.le_of_eq hg.symm)) hb); have n5_ := qa (qxa (Kd.V_elderB (by (with_reducible repeat first | apply qda | apply qea | apply qfa); exact HO483.out) gb485 (Nat.le_of_eq hg.symm)) hb); have n6_ := qa (qja (g := gb471) (o := .cells #[.int .i64 t466, .slice Ao79 t467.length co79, .int .i64 t470] 31 (0, 0)) (by (with_reducible repeat first | apply ql | apply qn | apply qk); exact BK471.out) hb); have n7_ := qa (qha (by repeat (first | (with_reducible first | exact HB.out | apply qh | apply qe | apply qg | refine qj ?_ GE471.out) | exact HB.out)) hb); have n8_ := qa (hbox); have n9_ := qa ((by rw [hg]; exact (qp (by repeat (first | (with_reducible first | exact HB.out | apply qh | apply qe | apply qg | refine qj ?_ GE471.out) | exact HB.out))) : w.heap.size ≤ gb485)); have n10_ := qa ((by rw [hg]; exact (qp (by repeat (first | (with_reducible first | exact HB.out | apply qh | apply qe | apply qg | refine qj ?_ GE471.out) | exact HB.out))) : w.heap.size ≤ gb485)); have n11_ := qa ((by rw [hg]; exact Nat.ne_of_lt (blk_lt (g := gb471) (o := .cells #[.int .i64 t466, .slice Ao79 t467.length co79, .int .i64 t470] 31 (0, 0)) (by (with_reducible repeat first | apply ql | apply qn | apply qk); exact BK471.out)) : gb471 ≠ gb485)); have n12_ := qa ((by rw [hg]; exact Nat.ne_of_gt (blk_lt (g := gb471) (o := .cells #[.int .i64 t466, .slice Ao79 t467.length co79, .int .i64 t470] 31 (0, 0)) (by (with_reducible repeat first | apply ql | apply qn | apply qk); exact BK471.out)) : gb485 ≠ gb471)); clear HO_8; clear HO_9; clear HO469; clear HO474; clear HO478; clear HO483; clear BK471; clear HB; have HO_8 := n0_; have HO_9 := n1_; have HO469 := n2_; have HO474 := n3_; have HO478 := n4_; have HO483 := n5_; have BK471 := n6_; have HB := n7_; have BK485 := n8_; have GW485 := n9_; have GE485 := n10_; have NB471_485 := n11_; have NB485_471 := n12_; clear n0_ n1_ n2_ n3_ n4_ n5_ n6_ n7_ n8_ n9_ n10_ n11_ n12_; clear hb hbox hg) | ((with_reducible refine gate_dst (N := 14) rfl ?_); (try (refine gate_guard (by rfl) ?_; dsimp only)); refine box_event ?hg (N := 14) ?hd (cs := #[.int .i64 0, .slice none 0 0, .int .i64 0]) (t := 31) ?hr ?_; (case hd => rfl); (case hg => rfl); (case hr => first | (go_simp; done) | (go_simp; rfl)); intro gb486 hg w83 hbox hb; have n0_ := qa (qza (Kd.N_elderB (by (with_reducible repeat first | apply qaa | apply qba | apply qca); exact HO_8.out) gb486 (Nat.le_of_eq hg.symm)) hb); have n1_ := qa (qza (Kd.N_elderB (by (with_reducible repeat first | apply qaa | apply qba | apply qca); exact HO_9.out) gb486 (Nat.le_of_eq hg.symm)) hb); have n2_ := qa (qxa (Kd.V_elderB (by (with_reducible repeat first | apply qda | apply qea | apply qfa); exact HO469.out) gb486 (Nat.le_of_eq hg.symm)) hb); have n3_ := qa (qya (by (with_reducible repeat first | apply qx | apply qy | apply qz); exact HO474.out) hb); have n4_ := qa (qxa (Kd.V_elderB (by (with_reducible repeat first | apply qda | apply qea | apply qfa); exact HO478.out) gb486 (Nat.le_of_eq hg.symm)) hb); have n5_ := qa (qxa (Kd.V_elderB (by (with_reducible repeat first | apply qda | apply qea | apply qfa); exact HO483.out) gb486 (Nat.le_of_eq hg.symm)) hb); have n6_ := qa (qja (g := gb471) (o := .cells #[.int .i64 t466, .slice Ao79 t467.length co79, .int .i64 t470] 31 (0, 0)) (by (with_reducible repeat first | apply ql | apply qn | apply qk); exact BK471.out) hb); have n7_ := qa (qja (g := gb485) (o := .cells #[.int .i64 0, .slice none 0 0, .int .i64 0] 31 (0, 0)) (by (with_reducible repeat first | apply ql | apply qn | apply qk); exact BK485.out) hb); have n8_ := qa (qha (by repeat (first | (with_reducible first | exact HB.out | apply qh | apply qe | apply qg | refine qj ?_ GE471.out | refine qj ?_ GE485.out) | exact HB.out)) hb); have n9_ := qa (hbox); have n10_ := qa ((by rw [hg]; exact (qp (by repeat (first | (with_reducible first | exact HB.out | apply qh | apply qe | apply qg | refine qj ?_ GE471.out | refine qj ?_ GE485.out) | exact HB.out))) : w.heap.size ≤ gb486)); have n11_ := qa ((by rw [hg]; exact (qp (by repeat (first | (with_reducible first | exact HB.out | apply qh | apply qe | apply qg | refine qj ?_ GE471.out | refine qj ?_ GE485.out) | exact HB.out))) : w.heap.size ≤ gb486)); have n12_ := qa ((by rw [hg]; exact Nat.ne_of_lt (blk_lt (g := gb471) (o := .cells #[.int .i64 t466, .slice Ao79 t467.length co79, .int .i64 t470] 31 (0, 0)) (by (with_reducible repeat first | apply ql | apply qn | apply qk); exact BK471.out)) : gb471 ≠ gb486)); have n13_ := qa ((by rw [hg]; exact Nat.ne_of_gt (blk_lt (g := gb471) (o := .cells #[.int .i64 t466, .slice Ao79 t467.length co79, .int .i64 t470] 31 (0, 0)) (by (with_reducible repeat first | apply ql | apply qn | apply qk); exact BK471.out)) : gb486 ≠ gb471)); have n14_ := qa ((by rw [hg]; exact Nat.ne_of_lt (blk_lt (g := gb485) (o := .cells #[.int .i64 0, .slice none 0 0, .int .i64 0] 31 (0, 0)) (by (with_reducible repeat first | apply ql | apply qn | apply qk); exact BK485.out)) : gb485 ≠ gb486)); have n15_ := qa ((by rw [hg]; exact Nat.ne_of_gt (blk_lt (g := gb485) (o := .cells #[.int .i64 0, .slice none 0 0, .int .i64 0] 31 (0, 0)) (by (with_reducible repeat first | apply ql | apply qn | apply qk); exact BK485.out)) : gb486 ≠ gb485)); clear HO_8; clear HO_9; clear HO469; clear HO474; clear HO478; clear HO483; clear BK471; clear BK485; clear HB; have HO_8 := n0_; have HO_9 := n1_; have HO469 := n2_; have HO474 := n3_; have HO478 := n4_; have HO483 := n5_; have BK471 := n6_; have BK485 := n7_; have HB := n8_; have BK486 := n9_; have GW486 := n10_; have GE486 := n11_; have NB471_486 := n12_; have NB486_471 := n13_; have NB485_486 := n14_; have NB486_485 := n15_; clear n0_ n1_ n2_ n3_ n4_ n5_ n6_ n7_ n8_ n9_ n10_ n11_ n12_ n13_ n14_ n15_; clear hb hbox hg; have hnb84 := NB485_471.out; have hnc84 := NB471_485.out; have hnb85 := NB485_486.out; have hnc85 := NB486_485.out; have hcz86_0 : w83.cell? ⟨gb485, 0, none⟩ = some (.int .i64 0) := (qi BK485.out 0).trans rfl; have hcz86_1 : w83.cell? ⟨gb485, 1, none⟩ = some (.slice none 0 0) := (qi BK485.out 1).trans rfl; have hcz86_2 : w83.cell? ⟨gb485, 2, none⟩ = some (.int .i64 0) := (qi BK485.out 2).trans rfl; have hfz86_0 := qo BK485.out 0; have hfz86_1 := qo BK485.out 1; have hfz86_2 := qo BK485.out 2; obtain ⟨Ao87, co87, eo87⟩ := Kd.V_slice HO478.out; subst eo87; have hnb88 := NB486_471.out; have hnc88 := NB471_486.out; have hcz89_0 : w83.cell? ⟨gb486, 0, none⟩ = some (.int .i64 0) := (qi BK486.out 0).trans rfl; have hcz89_1 : w83.cell? ⟨gb486, 1, none⟩ = some (.slice none 0 0) := (qi BK486.out 1).trans rfl; have hcz89_2 : w83.cell? ⟨gb486, 2, none⟩ = some (.int .i64 0) := (qi BK486.out 2).trans rfl; have hfz89_0 := qo BK486.out 0; have hfz89_1 := qo BK486.out 1; have hfz89_2 := qo BK486.out 2; obtain ⟨Ao90, co90, eo90⟩ := Kd.V_slice HO483.out; subst eo90))
              have n0_ : Aside0 (Kd.N k31 31 ((((((w83.setCell ⟨gb485, 0, none⟩ (.int .i64 t475)).setCell ⟨gb485, 1, none⟩ (.slice Ao87 t476.length co87)).setCell ⟨gb485, 2, none⟩ (.int .i64 t479)).setCell ⟨gb486, 0, none⟩ (.int .i64 t480)).setCell ⟨gb486, 1, none⟩ (.slice Ao90 t481.length co90)).setCell ⟨gb486, 2, none⟩ (.int .i64 t484)) w.heap.size (fun k_ => some k_ ≠ (.slice Ao47 t460.length co47 : Value).ownBlock ∧ some k_ ≠ (v473 : Value).ownBlock ∧ k_ ≠ gb471 ∧ k_ ≠ gb485 ∧ k_ ≠ gb486) (.slice Ao46 t457.length co46) t457) := ⟨by (with_reducible repeat first | apply qaa | apply qba | apply qca); exact qpa (qpb (p := ⟨gb486, 2, none⟩) (qpb (p := ⟨gb486, 1, none⟩) (qpb (p := ⟨gb486, 0, none⟩) (qpb (p := ⟨gb485, 2, none⟩) (qpb (p := ⟨gb485, 1, none⟩) (qpb (p := ⟨gb485, 0, none⟩) (qpa (qpa HO_8.out (fun k_ hk => (⟨hk, hk.1.2⟩ : _ ∧ k_ ≠ gb485))) (fun k_ hk => (⟨hk, hk.1.2⟩ : _ ∧ k_ ≠ gb486))) (fun _ hk => hk.1.2) (.int .i64 t475)) (fun _ hk => hk.1.2) (.slice Ao87 t476.length co87)) (fun _ hk => hk.1.2) (.int .i64 t479)) (fun _ hk => hk.2) (.int .i64 t480)) (fun _ hk => hk.2) (.slice Ao90 t481.length co90)) (fun _ hk => hk.2) (.int .i64 t484)) (fun _ hk => ⟨hk.1.1.1.1.1.1, ⟨hk.1.1.1.1.2, ⟨hk.1.1.1.1.1.2, ⟨hk.1.1.1.2, hk.1.1.2⟩⟩⟩⟩)⟩
              have n1_ : Aside0 (Kd.N k31 31 ((((((w83.setCell ⟨gb485, 0, none⟩ (.int .i64 t475)).setCell ⟨gb485, 1, none⟩ (.slice Ao87 t476.length co87)).setCell ⟨gb485, 2, none⟩ (.int .i64 t479)).setCell ⟨gb486, 0, none⟩ (.int .i64 t480)).setCell ⟨gb486, 1, none⟩ (.slice Ao90 t481.length co90)).setCell ⟨gb486, 2, none⟩ (.int .i64 t484)) w.heap.size (fun k_ => some k_ ≠ (.slice Ao46 t457.length co46 : Value).ownBlock ∧ some k_ ≠ (v473 : Value).ownBlock ∧ k_ ≠ gb471 ∧ k_ ≠ gb485 ∧ k_ ≠ gb486) (.slice Ao47 t460.length co47) t460) := ⟨by (with_reducible repeat first | apply qaa | apply qba | apply qca); exact qpa (qpb (p := ⟨gb486, 2, none⟩) (qpb (p := ⟨gb486, 1, none⟩) (qpb (p := ⟨gb486, 0, none⟩) (qpb (p := ⟨gb485, 2, none⟩) (qpb (p := ⟨gb485, 1, none⟩) (qpb (p := ⟨gb485, 0, none⟩) (qpa (qpa HO_9.out (fun k_ hk => (⟨hk, hk.1.2⟩ : _ ∧ k_ ≠ gb485))) (fun k_ hk => (⟨hk, hk.1.2⟩ : _ ∧ k_ ≠ gb486))) (fun _ hk => hk.1.2) (.int .i64 t475)) (fun _ hk => hk.1.2) (.slice Ao87 t476.length co87)) (fun _ hk => hk.1.2) (.int .i64 t479)) (fun _ hk => hk.2) (.int .i64 t480)) (fun _ hk => hk.2) (.slice Ao90 t481.length co90)) (fun _ hk => hk.2) (.int .i64 t484)) (fun _ hk => ⟨hk.1.1.1.1.1.1, ⟨hk.1.1.1.1.2, ⟨hk.1.1.1.1.1.2, ⟨hk.1.1.1.2, hk.1.1.2⟩⟩⟩⟩)⟩
              have n2_ : Aside0 (Kd.V k59 59 ((((((w83.setCell ⟨gb485, 0, none⟩ (.int .i64 t475)).setCell ⟨gb485, 1, none⟩ (.slice Ao87 t476.length co87)).setCell ⟨gb485, 2, none⟩ (.int .i64 t479)).setCell ⟨gb486, 0, none⟩ (.int .i64 t480)).setCell ⟨gb486, 1, none⟩ (.slice Ao90 t481.length co90)).setCell ⟨gb486, 2, none⟩ (.int .i64 t484)) w.heap.size (fun k_ => some k_ ≠ (.slice Ao46 t457.length co46 : Value).ownBlock ∧ some k_ ≠ (.slice Ao47 t460.length co47 : Value).ownBlock ∧ some k_ ≠ (v473 : Value).ownBlock ∧ k_ ≠ gb471 ∧ k_ ≠ gb485 ∧ k_ ≠ gb486) (.slice Ao79 t467.length co79) t467) := ⟨by (with_reducible repeat first | apply qda | apply qea | apply qfa); exact qna (qnb (p := ⟨gb486, 2, none⟩) (qnb (p := ⟨gb486, 1, none⟩) (qnb (p := ⟨gb486, 0, none⟩) (qnb (p := ⟨gb485, 2, none⟩) (qnb (p := ⟨gb485, 1, none⟩) (qnb (p := ⟨gb485, 0, none⟩) (qna (qna HO469.out (fun k_ hk => (⟨hk, hk.1.2⟩ : _ ∧ k_ ≠ gb485))) (fun k_ hk => (⟨hk, hk.1.2⟩ : _ ∧ k_ ≠ gb486))) (fun _ hk => hk.1.2) (.int .i64 t475)) (fun _ hk => hk.1.2) (.slice Ao87 t476.length co87)) (fun _ hk => hk.1.2) (.int .i64 t479)) (fun _ hk => hk.2) (.int .i64 t480)) (fun _ hk => hk.2) (.slice Ao90 t481.length co90)) (fun _ hk => hk.2) (.int .i64 t484)) (fun _ hk => ⟨hk.1.1.1.1.1.1.1, ⟨hk.1.1.1.1.1.1.2, ⟨hk.1.1.1.1.2, ⟨hk.1.1.1.1.1.2, ⟨hk.1.1.1.2, hk.1.1.2⟩⟩⟩⟩⟩)⟩
              have n3_ : Aside0 (Kd.R (Kd.int .i64) 3 ((((((w83.setCell ⟨gb485, 0, none⟩ (.int .i64 t475)).setCell ⟨gb485, 1, none⟩ (.slice Ao87 t476.length co87)).setCell ⟨gb485, 2, none⟩ (.int .i64 t479)).setCell ⟨gb486, 0, none⟩ (.int .i64 t480)).setCell ⟨gb486, 1, none⟩ (.slice Ao90 t481.length co90)).setCell ⟨gb486, 2, none⟩ (.int .i64 t484)) w.heap.size (fun _ => True) v473 t472) := ⟨by (with_reducible repeat first | apply qx | apply qy | apply qz); exact qoa (qob (p := ⟨gb486, 2, none⟩) (qob (p := ⟨gb486, 1, none⟩) (qob (p := ⟨gb486, 0, none⟩) (qob (p := ⟨gb485, 2, none⟩) (qob (p := ⟨gb485, 1, none⟩) (qob (p := ⟨gb485, 0, none⟩) (Kd.R_types (Kd.R_types HO474.out BK485.out (by decide)) BK486.out (by decide)) (fun _ hk => hk.1.2) (.int .i64 t475)) (fun _ hk => hk.1.2) (.slice Ao87 t476.length co87)) (fun _ hk => hk.1.2) (.int .i64 t479)) (fun _ hk => hk.2) (.int .i64 t480)) (fun _ hk => hk.2) (.slice Ao90 t481.length co90)) (fun _ hk => hk.2) (.int .i64 t484)) (fun _ hk => trivial)⟩
              have n4_ : Aside0 (Kd.V k59 59 ((((((w83.setCell ⟨gb485, 0, none⟩ (.int .i64 t475)).setCell ⟨gb485, 1, none⟩ (.slice Ao87 t476.length co87)).setCell ⟨gb485, 2, none⟩ (.int .i64 t479)).setCell ⟨gb486, 0, none⟩ (.int .i64 t480)).setCell ⟨gb486, 1, none⟩ (.slice Ao90 t481.length co90)).setCell ⟨gb486, 2, none⟩ (.int .i64 t484)) w.heap.size (fun k_ => some k_ ≠ (.slice Ao46 t457.length co46 : Value).ownBlock ∧ some k_ ≠ (.slice Ao47 t460.length co47 : Value).ownBlock ∧ some k_ ≠ (v473 : Value).ownBlock ∧ k_ ≠ gb471 ∧ k_ ≠ gb485 ∧ k_ ≠ gb486) (.slice Ao87 t476.length co87) t476) := ⟨by (with_reducible repeat first | apply qda | apply qea | apply qfa); exact qna (qnb (p := ⟨gb486, 2, none⟩) (qnb (p := ⟨gb486, 1, none⟩) (qnb (p := ⟨gb486, 0, none⟩) (qnb (p := ⟨gb485, 2, none⟩) (qnb (p := ⟨gb485, 1, none⟩) (qnb (p := ⟨gb485, 0, none⟩) (qna (qna HO478.out (fun k_ hk => (⟨hk, hk.1.2⟩ : _ ∧ k_ ≠ gb485))) (fun k_ hk => (⟨hk, hk.1.2⟩ : _ ∧ k_ ≠ gb486))) (fun _ hk => hk.1.2) (.int .i64 t475)) (fun _ hk => hk.1.2) (.slice Ao87 t476.length co87)) (fun _ hk => hk.1.2) (.int .i64 t479)) (fun _ hk => hk.2) (.int .i64 t480)) (fun _ hk => hk.2) (.slice Ao90 t481.length co90)) (fun _ hk => hk.2) (.int .i64 t484)) (fun _ hk => ⟨hk.1.1.1.1.1, ⟨hk.1.1.1.1.2.1, ⟨hk.1.1.1.1.2.2.1, ⟨hk.1.1.1.1.2.2.2, ⟨hk.1.1.1.2, hk.1.1.2⟩⟩⟩⟩⟩)⟩
              have n5_ : Aside0 (Kd.V k59 59 ((((((w83.setCell ⟨gb485, 0, none⟩ (.int .i64 t475)).setCell ⟨gb485, 1, none⟩ (.slice Ao87 t476.length co87)).setCell ⟨gb485, 2, none⟩ (.int .i64 t479)).setCell ⟨gb486, 0, none⟩ (.int .i64 t480)).setCell ⟨gb486, 1, none⟩ (.slice Ao90 t481.length co90)).setCell ⟨gb486, 2, none⟩ (.int .i64 t484)) w.heap.size (fun k_ => some k_ ≠ (.slice Ao46 t457.length co46 : Value).ownBlock ∧ some k_ ≠ (.slice Ao47 t460.length co47 : Value).ownBlock ∧ some k_ ≠ (v473 : Value).ownBlock ∧ k_ ≠ gb471 ∧ k_ ≠ gb485 ∧ k_ ≠ gb486) (.slice Ao90 t481.length co90) t481) := ⟨by (with_reducible repeat first | apply qda | apply qea | apply qfa); exact qna (qnb (p := ⟨gb486, 2, none⟩) (qnb (p := ⟨gb486, 1, none⟩) (qnb (p := ⟨gb486, 0, none⟩) (qnb (p := ⟨gb485, 2, none⟩) (qnb (p := ⟨gb485, 1, none⟩) (qnb (p := ⟨gb485, 0, none⟩) (qna (qna HO483.out (fun k_ hk => (⟨hk, hk.1.2⟩ : _ ∧ k_ ≠ gb485))) (fun k_ hk => (⟨hk, hk.1.2⟩ : _ ∧ k_ ≠ gb486))) (fun _ hk => hk.1.2) (.int .i64 t475)) (fun _ hk => hk.1.2) (.slice Ao87 t476.length co87)) (fun _ hk => hk.1.2) (.int .i64 t479)) (fun _ hk => hk.2) (.int .i64 t480)) (fun _ hk => hk.2) (.slice Ao90 t481.length co90)) (fun _ hk => hk.2) (.int .i64 t484)) (fun _ hk => ⟨hk.1.1.1.1.1, ⟨hk.1.1.1.1.2.1, ⟨hk.1.1.1.1.2.2.1, ⟨hk.1.1.1.1.2.2.2, ⟨hk.1.1.1.2, hk.1.1.2⟩⟩⟩⟩⟩)⟩
              have n6_ : Aside0 (((((((w83.setCell ⟨gb485, 0, none⟩ (.int .i64 t475)).setCell ⟨gb485, 1, none⟩ (.slice Ao87 t476.length co87)).setCell ⟨gb485, 2, none⟩ (.int .i64 t479)).setCell ⟨gb486, 0, none⟩ (.int .i64 t480)).setCell ⟨gb486, 1, none⟩ (.slice Ao90 t481.length co90)).setCell ⟨gb486, 2, none⟩ (.int .i64 t484)).heap[gb471]? = some (.cells #[.int .i64 t466, .slice Ao79 t467.length co79, .int .i64 t470] 31 (0, 0))) := ⟨by (with_reducible repeat first | apply ql | apply qn | apply qk); refine qlb ?_ NB471_486.out _; (with_reducible repeat first | apply ql | apply qn | apply qk); refine qlb ?_ NB471_486.out _; (with_reducible repeat first | apply ql | apply qn | apply qk); refine qlb ?_ NB471_486.out _; (with_reducible repeat first | apply ql | apply qn | apply qk); refine qlb ?_ NB471_485.out _; (with_reducible repeat first | apply ql | apply qn | apply qk); refine qlb ?_ NB471_485.out _; (with_reducible repeat first | apply ql | apply qn | apply qk); refine qlb ?_ NB471_485.out _; (with_reducible repeat first | apply ql | apply qn | apply qk); exact BK471.out⟩
              have n7_ : Aside0 (((((((w83.setCell ⟨gb485, 0, none⟩ (.int .i64 t475)).setCell ⟨gb485, 1, none⟩ (.slice Ao87 t476.length co87)).setCell ⟨gb485, 2, none⟩ (.int .i64 t479)).setCell ⟨gb486, 0, none⟩ (.int .i64 t480)).setCell ⟨gb486, 1, none⟩ (.slice Ao90 t481.length co90)).setCell ⟨gb486, 2, none⟩ (.int .i64 t484)).heap[gb485]? = some (.cells #[.int .i64 t475, .slice Ao87 t476.length co87, .int .i64 t479] 31 (0, 0))) := ⟨by (with_reducible repeat first | apply ql | apply qn | apply qk); refine qlb ?_ NB485_486.out _; (with_reducible repeat first | apply ql | apply qn | apply qk); refine qlb ?_ NB485_486.out _; (with_reducible repeat first | apply ql | apply qn | apply qk); refine qlb ?_ NB485_486.out _; (with_reducible repeat first | apply ql | apply qn | apply qk); refine qmb (cs := #[.int .i64 t475, .slice Ao87 t476.length co87, .int .i64 0]) ?_ 2 _ rfl; (with_reducible repeat first | apply ql | apply qn | apply qk); refine qmb (cs := #[.int .i64 t475, .slice none 0 0, .int .i64 0]) ?_ 1 _ rfl; (with_reducible repeat first | apply ql | apply qn | apply qk); refine qmb (cs := #[.int .i64 0, .slice none 0 0, .int .i64 0]) ?_ 0 _ rfl; (with_reducible repeat first | apply ql | apply qn | apply qk); exact BK485.out⟩
              have n8_ : Aside0 (((((((w83.setCell ⟨gb485, 0, none⟩ (.int .i64 t475)).setCell ⟨gb485, 1, none⟩ (.slice Ao87 t476.length co87)).setCell ⟨gb485, 2, none⟩ (.int .i64 t479)).setCell ⟨gb486, 0, none⟩ (.int .i64 t480)).setCell ⟨gb486, 1, none⟩ (.slice Ao90 t481.length co90)).setCell ⟨gb486, 2, none⟩ (.int .i64 t484)).heap[gb486]? = some (.cells #[.int .i64 t480, .slice Ao90 t481.length co90, .int .i64 t484] 31 (0, 0))) := ⟨by (with_reducible repeat first | apply ql | apply qn | apply qk); refine qmb (cs := #[.int .i64 t480, .slice Ao90 t481.length co90, .int .i64 0]) ?_ 2 _ rfl; (with_reducible repeat first | apply ql | apply qn | apply qk); refine qmb (cs := #[.int .i64 t480, .slice none 0 0, .int .i64 0]) ?_ 1 _ rfl; (with_reducible repeat first | apply ql | apply qn | apply qk); refine qmb (cs := #[.int .i64 0, .slice none 0 0, .int .i64 0]) ?_ 0 _ rfl; (with_reducible repeat first | apply ql | apply qn | apply qk); refine qlb ?_ NB486_485.out _; (with_reducible repeat first | apply ql | apply qn | apply qk); refine qlb ?_ NB486_485.out _; (with_reducible repeat first | apply ql | apply qn | apply qk); refine qlb ?_ NB486_485.out _; (with_reducible repeat first | apply ql | apply qn | apply qk); exact BK486.out⟩
              have n9_ : Aside0 (Below w.heap.size w ((((((w83.setCell ⟨gb485, 0, none⟩ (.int .i64 t475)).setCell ⟨gb485, 1, none⟩ (.slice Ao87 t476.length co87)).setCell ⟨gb485, 2, none⟩ (.int .i64 t479)).setCell ⟨gb486, 0, none⟩ (.int .i64 t480)).setCell ⟨gb486, 1, none⟩ (.slice Ao90 t481.length co90)).setCell ⟨gb486, 2, none⟩ (.int .i64 t484))) := ⟨by repeat (first | (with_reducible first | exact HB.out | apply qh | apply qe | apply qg | refine qj ?_ GE471.out | refine qj ?_ GE485.out | refine qj ?_ GE486.out) | exact HB.out)⟩
              (try clear HO_8); (try clear HO_9); (try clear HO469); (try clear HO474); (try clear HO478); (try clear HO483); (try clear BK471); (try clear BK485); (try clear BK486); (try clear HB); generalize ((((((w83.setCell ⟨gb485, 0, none⟩ (.int .i64 t475)).setCell ⟨gb485, 1, none⟩ (.slice Ao87 t476.length co87)).setCell ⟨gb485, 2, none⟩ (.int .i64 t479)).setCell ⟨gb486, 0, none⟩ (.int .i64 t480)).setCell ⟨gb486, 1, none⟩ (.slice Ao90 t481.length co90)).setCell ⟨gb486, 2, none⟩ (.int .i64 t484)) = w91 at n0_ n1_ n2_ n3_ n4_ n5_ n6_ n7_ n8_ n9_ ⊢; have HO_8 := n0_; have HO_9 := n1_; have HO469 := n2_; have HO474 := n3_; have HO478 := n4_; have HO483 := n5_; have BK471 := n6_; have BK485 := n7_; have BK486 := n8_; have HB := n9_; clear n0_ n1_ n2_ n3_ n4_ n5_ n6_ n7_ n8_ n9_; have n0_ := qa (qca HO_8.out); have n1_ := qa (qca HO_9.out); have n2_ := qa (qfa HO469.out); have n3_ := qa (qz HO474.out); have n4_ := qa (qfa HO478.out); have n5_ := qa (qfa HO483.out); have n6_ := qa (qn BK471.out); have n7_ := qa (qn BK485.out); have n8_ := qa (qn BK486.out); have n9_ := qa (qg HB.out); clear HO_8 HO_9 HO469 HO474 HO478 HO483 BK471 BK485 BK486 HB; have HO_8 := n0_; have HO_9 := n1_; have HO469 := n2_; have HO474 := n3_; have HO478 := n4_; have HO483 := n5_; have BK471 := n6_; have BK485 := n7_; have BK486 := n8_; have HB := n9_; clear n0_ n1_ n2_ n3_ n4_ n5_ n6_ n7_ n8_ n9_; have H := HX_.out; clear HX_
              by_cases c73 : (t472.length : Int) = 0
              ·rw [if_pos c73] at H
               have c73b0 : ((t472.length : Int) == 0) = true := ze c73; have c73b1 : ((t472.length : Int) != 0) = false := zc c73; clear c73; obtain ⟨t502, A740, H⟩ := zb H; (try dsimp only at H); have A74 := qa A740; clear A740; obtain ⟨t503, A750, H⟩ := zb H; (try dsimp only at H); have A75 := qa A750; clear A750; obtain rfl := qia H; refine start_ (n := 62) (S := fun w' => w'.cell? ⟨gb471, 0, none⟩ = some (.int .i64 t466) ∧ w'.cell? ⟨gb471, 1, none⟩ = some (.slice Ao79 t467.length co79) ∧ w'.cell? ⟨gb471, 2, none⟩ = some (.int .i64 t470) ∧ w'.cell? ⟨gb485, 0, none⟩ = some (.int .i64 t475) ∧ w'.cell? ⟨gb485, 1, none⟩ = some (.slice Ao87 t476.length co87) ∧ w'.cell? ⟨gb485, 2, none⟩ = some (.int .i64 t479) ∧ w'.cell? ⟨gb486, 0, none⟩ = some (.int .i64 t480) ∧ w'.cell? ⟨gb486, 1, none⟩ = some (.slice Ao90 t481.length co90) ∧ w'.cell? ⟨gb486, 2, none⟩ = some (.int .i64 t484)) (ds := []) #[false, false, false, false, false, false, false, false, false, false, false, false, false, false, false, false, false, false, false, false, false, false, false, false, false, false, false, false, false, false, false, false, false, false, false, false, false, false, false, false, false, false, false, false, false, false, false, false, false, false, false, false, false, false, false, false, false, false, false, false, false, false] (by kernel_rfl) rfl rfl ⟨(qi BK471.out 0).trans rfl, (qi BK471.out 1).trans rfl, (qi BK471.out 2).trans rfl, (qi BK485.out 0).trans rfl, (qi BK485.out 1).trans rfl, (qi BK485.out 2).trans rfl, (qi BK486.out 0).trans rfl, (qi BK486.out 1).trans rfl, (qi BK486.out 2).trans rfl⟩ (fun hHeld => ?_); refine with_tabW laws_FnFeet.tab26 laws_FnFeet.bits26 (fun HT_ HW_ => ?_); generalize w91.drew = w92 at HO_8 HO_9 HO469 HO474 HO478 HO483 BK471 BK485 BK486 HB hHeld ⊢; refine pure_ (i := 0) (N := some 98) (v := ?_) (a' := ?_) (bz 1 62) rfl rfl (qua HT_.out (by kernel_rfl)) (fun _ _ _ h => h) (Or.inl ⟨by rfl, ?_⟩) ?_ ?_; rotate_left
               ·intro w'
                go_simp; with_reducible rfl
               rotate_left
               ·simp only [Act.put, qb, qc, qd, i64_w, i32_w]
                rfl
               refine take_ (i := 1) (N := some 99) (v := ?_) (a' := ?_) (bz 3 62) rfl rfl (qva HT_.out HW_.out (by kernel_rfl)) (fun _ _ _ h => h) (Or.inl ⟨by rfl, ?_⟩) hHeld ?_ ?_; rotate_left
               ·rintro w' ⟨s0, s1, s2, s3, s4, s5, s6, s7, s8⟩
                go_simp; with_reducible rfl
               rotate_left
               ·simp only [Act.put, qb, qc, qd, i64_w, i32_w]
                rfl
               refine one_ (i := 2) (N := some 100) (bz 7 62) rfl rfl (qwa HT_.out (by kernel_rfl)) (by decide) (fun K hK => ?_); refine goes_ Tryd.func19 (by kernel_rfl) rfl #[.agg #[.int .i64 t466, .slice Ao79 t467.length co79, .int .i64 t470]] (by rfl) rfl rfl (by (try simp only [qs, qv, qw]); first | done | rfl | (simp only [qu, qt]; rfl)) ?_; with_reducible refine (spec_FootMarks.calls k2 t466 _ _ t467 t470 t487 _ ?side1 ?side2 A60.out).mono ?_
               (case side1 => repeat (first | exact (qfb HO469.out).2.2 | (with_reducible first | apply qka | apply qla | apply qma)))
               (case side2 => exact (qfb HO469.out).2.1)
               rintro e w93 ⟨v488, rfl, ho0, hb⟩; refine ⟨_, rfl, ?_⟩; have n0_ := qa (qjb (by (with_reducible repeat first | apply qaa | apply qba | apply qca); exact HO_8.out) (qyb ho0) hb); have n1_ := qa (qjb (by (with_reducible repeat first | apply qaa | apply qba | apply qca); exact HO_9.out) (qyb ho0) hb); have n2_ := qa (qib (by (with_reducible repeat first | apply qda | apply qea | apply qfa); exact HO469.out) (qyb ho0) hb); have n3_ := qa (qkb (by (with_reducible repeat first | apply qx | apply qy | apply qz); exact HO474.out) (qyb ho0) hb); have n4_ := qa (qib (by (with_reducible repeat first | apply qda | apply qea | apply qfa); exact HO478.out) (qyb ho0) hb); have n5_ := qa (qib (by (with_reducible repeat first | apply qda | apply qea | apply qfa); exact HO483.out) (qyb ho0) hb); have n6_ := qa (qvb (Kd.R_new' ho0 (Kd.R_lt (by (with_reducible repeat first | apply qx | apply qy | apply qz); exact HO474.out))) (qp (by repeat (first | (with_reducible first | exact HB.out | apply qh | apply qe | apply qg | refine qj ?_ GE471.out | refine qj ?_ GE485.out | refine qj ?_ GE486.out) | exact HB.out)))); have n7_ := qa (qja (g := gb471) (o := .cells #[.int .i64 t466, .slice Ao79 t467.length co79, .int .i64 t470] 31 (0, 0)) (by (with_reducible repeat first | apply ql | apply qn | apply qk); exact BK471.out) hb); have n8_ := qa (qja (g := gb485) (o := .cells #[.int .i64 t475, .slice Ao87 t476.length co87, .int .i64 t479] 31 (0, 0)) (by (with_reducible repeat first | apply ql | apply qn | apply qk); exact BK485.out) hb); have n9_ := qa (qja (g := gb486) (o := .cells #[.int .i64 t480, .slice Ao90 t481.length co90, .int .i64 t484] 31 (0, 0)) (by (with_reducible repeat first | apply ql | apply qn | apply qk); exact BK486.out) hb); have n10_ := qa (qha (by repeat (first | (with_reducible first | exact HB.out | apply qh | apply qe | apply qg | refine qj ?_ GE471.out | refine qj ?_ GE485.out | refine qj ?_ GE486.out) | exact HB.out)) hb); clear HO_8 HO_9 HO469 HO474 HO478 HO483 BK471 BK485 BK486 HB; have HO_8 := n0_; have HO_9 := n1_; have HO469 := n2_; have HO474 := n3_; have HO478 := n4_; have HO483 := n5_; have HO489 := n6_; have BK471 := n7_; have BK485 := n8_; have BK486 := n9_; have HB := n10_; clear n0_ n1_ n2_ n3_ n4_ n5_ n6_ n7_ n8_ n9_ n10_; (try clear hb); (try clear hb2); (try clear hk); (try clear hi); (try clear ho0); obtain ⟨Ao94, co94, eo94⟩ := Kd.R_slice HO474.out
               (first | subst eo94 | (injection eo94 with f1_ f2_ f3_; have f4_ := f1_.symm; have f5_ := f3_.symm; clear f1_ f2_ f3_; subst f4_; subst f5_))
               obtain ⟨Ao95, co95, eo95⟩ := Kd.R_slice HO489.out
               (first | subst eo95 | (injection eo95 with f1_ f2_ f3_; have f4_ := f1_.symm; have f5_ := f3_.symm; clear f1_ f2_ f3_; subst f4_; subst f5_))
               refine hK.out _ _ ⟨(qi BK471.out 0).trans rfl, (qi BK471.out 1).trans rfl, (qi BK471.out 2).trans rfl, (qi BK485.out 0).trans rfl, (qi BK485.out 1).trans rfl, (qi BK485.out 2).trans rfl, (qi BK486.out 0).trans rfl, (qi BK486.out 1).trans rfl, (qi BK486.out 2).trans rfl⟩ (fun hHeld => ?_); clear hK K; refine norm_ (a' := ?_) ?_ ?_; rotate_left
               ·show Act.put _ (some 100) _ = _
                simp only [Act.put, qb, qc, qd, i64_w, i32_w]; rfl
               refine one_ (i := 3) (N := some 101) (bz 15 62) rfl rfl (qwa HT_.out (by kernel_rfl)) (by decide) (fun K hK => ?_); refine goes_ Tryd.func11 (by kernel_rfl) rfl #[.slice Ao94 t472.length co94, .slice Ao95 t487.length co95] (by rfl) rfl rfl (by (try simp only [qs, qv, qw]); first | done | rfl | (simp only [qu, qt]; rfl)) ?_; with_reducible refine (laws_sameInts.calls k2 _ _ t472 _ _ t487 true _ ?side1 ?side2 ?side3 ?side4 A61.out).mono ?_
               (case side1 => repeat (first | exact (qgb HO474.out).2.2 | (with_reducible first | apply qka | apply qla | apply qma)))
               (case side2 => exact (qgb HO474.out).2.1)
               (case side3 => repeat (first | exact (qgb HO489.out).2.2 | (with_reducible first | apply qka | apply qla | apply qma)))
               (case side4 => exact (qgb HO489.out).2.1)
               rintro e w' ⟨rfl, ⟨nd, rfl⟩⟩; refine ⟨_, rfl, ?_⟩; refine hK.out _ _ ⟨(qi BK471.out 0).trans rfl, (qi BK471.out 1).trans rfl, (qi BK471.out 2).trans rfl, (qi BK485.out 0).trans rfl, (qi BK485.out 1).trans rfl, (qi BK485.out 2).trans rfl, (qi BK486.out 0).trans rfl, (qi BK486.out 1).trans rfl, (qi BK486.out 2).trans rfl⟩ (fun hHeld => ?_); clear hK K; refine norm_ (a' := ?_) ?_ ?_; rotate_left
               ·show Act.put _ (some 101) _ = _
                simp only [Act.put, qb, qc, qd, i64_w, i32_w]; rfl
               refine pure_ (i := 4) (N := some 102) (v := ?_) (a' := ?_) (bz 31 62) rfl rfl (qua HT_.out (by kernel_rfl)) (fun _ _ _ h => h) (Or.inl ⟨by rfl, ?_⟩) ?_ ?_; rotate_left
               ·intro w'
                go_simp; with_reducible rfl
               rotate_left
               ·simp only [Act.put, qb, qc, qd, i64_w, i32_w]
                rfl
               refine take_ (i := 5) (N := some 103) (v := ?_) (a' := ?_) (bz 63 62) rfl rfl (qva HT_.out HW_.out (by kernel_rfl)) (fun _ _ _ h => h) (Or.inl ⟨by rfl, ?_⟩) hHeld ?_ ?_; rotate_left
               ·rintro w' ⟨s0, s1, s2, s3, s4, s5, s6, s7, s8⟩
                go_simp; with_reducible rfl
               rotate_left
               ·simp only [Act.put, qb, qc, qd, i64_w, i32_w]
                rfl
               refine take_ (i := 7) (N := some 105) (v := ?_) (a' := ?_) (bz 191 62) rfl rfl (qva HT_.out HW_.out (by kernel_rfl)) (fun _ _ _ h => h) (Or.inl ⟨by rfl, ?_⟩) hHeld ?_ ?_; rotate_left
               ·rintro w' ⟨s0, s1, s2, s3, s4, s5, s6, s7, s8⟩
                go_simp; with_reducible rfl
               rotate_left
               ·simp only [Act.put, qb, qc, qd, i64_w, i32_w]
                rfl
               refine one_ (i := 6) (N := some 104) (bz 255 62) rfl rfl (qwa HT_.out (by kernel_rfl)) (by decide) (fun K hK => ?_); refine goes_ Tryd.func20 (by kernel_rfl) rfl #[.agg #[.int .i64 t466, .slice Ao79 t467.length co79, .int .i64 t470]] (by rfl) rfl rfl (by (try simp only [qs, qv, qw]); first | done | rfl | (simp only [qu, qt]; rfl)) ?_; with_reducible refine (impl_FormatFooting.calls k2 t466 _ _ t467 t470 t491 _ ?side1 ?side2 A63.out).mono ?_
               (case side1 => repeat (first | exact (qfb HO469.out).2.2 | (with_reducible first | apply qka | apply qla | apply qma)))
               (case side2 => exact (qfb HO469.out).2.1)
               rintro e w96 ⟨rfl, hb⟩; refine ⟨_, rfl, ?_⟩; have n0_ := qa (qza (by (with_reducible repeat first | apply qaa | apply qba | apply qca); exact HO_8.out) hb); have n1_ := qa (qza (by (with_reducible repeat first | apply qaa | apply qba | apply qca); exact HO_9.out) hb); have n2_ := qa (qxa (by (with_reducible repeat first | apply qda | apply qea | apply qfa); exact HO469.out) hb); have n3_ := qa (qya (by (with_reducible repeat first | apply qx | apply qy | apply qz); exact HO474.out) hb); have n4_ := qa (qxa (by (with_reducible repeat first | apply qda | apply qea | apply qfa); exact HO478.out) hb); have n5_ := qa (qxa (by (with_reducible repeat first | apply qda | apply qea | apply qfa); exact HO483.out) hb); have n6_ := qa (qya (by (with_reducible repeat first | apply qx | apply qy | apply qz); exact HO489.out) hb); have n7_ := qa (qja (g := gb471) (o := .cells #[.int .i64 t466, .slice Ao79 t467.length co79, .int .i64 t470] 31 (0, 0)) (by (with_reducible repeat first | apply ql | apply qn | apply qk); exact BK471.out) hb); have n8_ := qa (qja (g := gb485) (o := .cells #[.int .i64 t475, .slice Ao87 t476.length co87, .int .i64 t479] 31 (0, 0)) (by (with_reducible repeat first | apply ql | apply qn | apply qk); exact BK485.out) hb); have n9_ := qa (qja (g := gb486) (o := .cells #[.int .i64 t480, .slice Ao90 t481.length co90, .int .i64 t484] 31 (0, 0)) (by (with_reducible repeat first | apply ql | apply qn | apply qk); exact BK486.out) hb); have n10_ := qa (qha (by repeat (first | (with_reducible first | exact HB.out | apply qh | apply qe | apply qg | refine qj ?_ GE471.out | refine qj ?_ GE485.out | refine qj ?_ GE486.out) | exact HB.out)) hb); clear HO_8 HO_9 HO469 HO474 HO478 HO483 HO489 BK471 BK485 BK486 HB; have HO_8 := n0_; have HO_9 := n1_; have HO469 := n2_; have HO474 := n3_; have HO478 := n4_; have HO483 := n5_; have HO489 := n6_; have BK471 := n7_; have BK485 := n8_; have BK486 := n9_; have HB := n10_; clear n0_ n1_ n2_ n3_ n4_ n5_ n6_ n7_ n8_ n9_ n10_; (try clear hb); (try clear hb2); (try clear hk); (try clear hi); refine hK.out _ _ ⟨(qi BK471.out 0).trans rfl, (qi BK471.out 1).trans rfl, (qi BK471.out 2).trans rfl, (qi BK485.out 0).trans rfl, (qi BK485.out 1).trans rfl, (qi BK485.out 2).trans rfl, (qi BK486.out 0).trans rfl, (qi BK486.out 1).trans rfl, (qi BK486.out 2).trans rfl⟩ (fun hHeld => ?_); clear hK K; refine norm_ (a' := ?_) ?_ ?_; rotate_left
               ·show Act.put _ (some 104) _ = _
                simp only [Act.put, qb, qc, qd, i64_w, i32_w]; rfl
               refine one_ (i := 8) (N := some 106) (bz 511 62) rfl rfl (qwa HT_.out (by kernel_rfl)) (by decide) (fun K hK => ?_); refine goes_ Tryd.func21 (by kernel_rfl) rfl #[.agg #[.int .i64 t466, .slice Ao79 t467.length co79, .int .i64 t470]] (by rfl) rfl rfl (by (try simp only [qs, qv, qw]); first | done | rfl | (simp only [qu, qt]; rfl)) ?_; with_reducible refine (spec_FormatFooting.calls k2 t466 _ _ t467 t470 t492 _ ?side1 ?side2 A64.out).mono ?_
               (case side1 => repeat (first | exact (qfb HO469.out).2.2 | (with_reducible first | apply qka | apply qla | apply qma)))
               (case side2 => exact (qfb HO469.out).2.1)
               rintro e w97 ⟨rfl, hb⟩; refine ⟨_, rfl, ?_⟩; have n0_ := qa (qza (by (with_reducible repeat first | apply qaa | apply qba | apply qca); exact HO_8.out) hb); have n1_ := qa (qza (by (with_reducible repeat first | apply qaa | apply qba | apply qca); exact HO_9.out) hb); have n2_ := qa (qxa (by (with_reducible repeat first | apply qda | apply qea | apply qfa); exact HO469.out) hb); have n3_ := qa (qya (by (with_reducible repeat first | apply qx | apply qy | apply qz); exact HO474.out) hb); have n4_ := qa (qxa (by (with_reducible repeat first | apply qda | apply qea | apply qfa); exact HO478.out) hb); have n5_ := qa (qxa (by (with_reducible repeat first | apply qda | apply qea | apply qfa); exact HO483.out) hb); have n6_ := qa (qya (by (with_reducible repeat first | apply qx | apply qy | apply qz); exact HO489.out) hb); have n7_ := qa (qja (g := gb471) (o := .cells #[.int .i64 t466, .slice Ao79 t467.length co79, .int .i64 t470] 31 (0, 0)) (by (with_reducible repeat first | apply ql | apply qn | apply qk); exact BK471.out) hb); have n8_ := qa (qja (g := gb485) (o := .cells #[.int .i64 t475, .slice Ao87 t476.length co87, .int .i64 t479] 31 (0, 0)) (by (with_reducible repeat first | apply ql | apply qn | apply qk); exact BK485.out) hb); have n9_ := qa (qja (g := gb486) (o := .cells #[.int .i64 t480, .slice Ao90 t481.length co90, .int .i64 t484] 31 (0, 0)) (by (with_reducible repeat first | apply ql | apply qn | apply qk); exact BK486.out) hb); have n10_ := qa (qha (by repeat (first | (with_reducible first | exact HB.out | apply qh | apply qe | apply qg | refine qj ?_ GE471.out | refine qj ?_ GE485.out | refine qj ?_ GE486.out) | exact HB.out)) hb); clear HO_8 HO_9 HO469 HO474 HO478 HO483 HO489 BK471 BK485 BK486 HB; have HO_8 := n0_; have HO_9 := n1_; have HO469 := n2_; have HO474 := n3_; have HO478 := n4_; have HO483 := n5_; have HO489 := n6_; have BK471 := n7_; have BK485 := n8_; have BK486 := n9_; have HB := n10_; clear n0_ n1_ n2_ n3_ n4_ n5_ n6_ n7_ n8_ n9_ n10_; (try clear hb); (try clear hb2); (try clear hk); (try clear hi); refine hK.out _ _ ⟨(qi BK471.out 0).trans rfl, (qi BK471.out 1).trans rfl, (qi BK471.out 2).trans rfl, (qi BK485.out 0).trans rfl, (qi BK485.out 1).trans rfl, (qi BK485.out 2).trans rfl, (qi BK486.out 0).trans rfl, (qi BK486.out 1).trans rfl, (qi BK486.out 2).trans rfl⟩ (fun hHeld => ?_); clear hK K; refine norm_ (a' := ?_) ?_ ?_; rotate_left
               ·show Act.put _ (some 106) _ = _
                simp only [Act.put, qb, qc, qd, i64_w, i32_w]; rfl
               refine pure_ (i := 9) (N := some 107) (v := ?_) (a' := ?_) (bz 1023 62) rfl rfl (qua HT_.out (by kernel_rfl)) (fun _ _ _ h => h) (Or.inl ⟨by rfl, ?_⟩) ?_ ?_; rotate_left
               ·intro w'
                go_simp; with_reducible rfl
               rotate_left
               ·simp only [Act.put, qb, qc, qd, i64_w, i32_w]
                rfl
               refine pure_ (i := 10) (N := some 108) (v := ?_) (a' := ?_) (bz 2047 62) rfl rfl (qua HT_.out (by kernel_rfl)) (fun _ _ _ h => h) (Or.inl ⟨by rfl, ?_⟩) ?_ ?_; rotate_left
               ·intro w'
                go_simp; with_reducible rfl
               rotate_left
               ·simp only [Act.put, qb, qc, qd, i64_w, i32_w]
                rfl
               refine pure_ (i := 11) (N := some 109) (v := ?_) (a' := ?_) (bz 4095 62) rfl rfl (qua HT_.out (by kernel_rfl)) (fun _ _ _ h => h) (Or.inl ⟨by rfl, ?_⟩) ?_ ?_; rotate_left
               ·intro w'
                go_simp; with_reducible rfl
               rotate_left
               ·simp only [Act.put, qb, qc, qd, i64_w, i32_w]
                rfl
               refine take_ (i := 12) (N := some 110) (v := ?_) (a' := ?_) (bz 8191 62) rfl rfl (qva HT_.out HW_.out (by kernel_rfl)) (fun _ _ _ h => h) (Or.inl ⟨by rfl, ?_⟩) hHeld ?_ ?_; rotate_left
               ·rintro w' ⟨s0, s1, s2, s3, s4, s5, s6, s7, s8⟩
                go_simp; with_reducible rfl
               rotate_left
               ·simp only [Act.put, qb, qc, qd, i64_w, i32_w]
                rfl
               refine take_ (i := 14) (N := some 112) (v := ?_) (a' := ?_) (bz 24575 62) rfl rfl (qva HT_.out HW_.out (by kernel_rfl)) (fun _ _ _ h => h) (Or.inl ⟨by rfl, ?_⟩) hHeld ?_ ?_; rotate_left
               ·rintro w' ⟨s0, s1, s2, s3, s4, s5, s6, s7, s8⟩
                go_simp; with_reducible rfl
               rotate_left
               ·simp only [Act.put, qb, qc, qd, i64_w, i32_w]
                rfl
               refine one_ (i := 13) (N := some 111) (bz 32767 62) rfl rfl (qwa HT_.out (by kernel_rfl)) (by decide) (fun K hK => ?_); refine goes_ Tryd.func10 (by kernel_rfl) rfl #[.agg #[.int .i64 t466, .slice Ao79 t467.length co79, .int .i64 t470]] (by rfl) rfl rfl (by (try simp only [qs, qv, qw]); first | done | rfl | (simp only [qu, qt]; rfl)) ?_; with_reducible refine (impl_IsFooting.calls k2 t466 _ _ t467 t470 t493 _ ?side1 ?side2 A66.out).mono ?_
               (case side1 => repeat (first | exact (qfb HO469.out).2.2 | (with_reducible first | apply qka | apply qla | apply qma)))
               (case side2 => exact (qfb HO469.out).2.1)
               rintro e w98 ⟨rfl, hb⟩; refine ⟨_, rfl, ?_⟩; have n0_ := qa (qza (by (with_reducible repeat first | apply qaa | apply qba | apply qca); exact HO_8.out) hb); have n1_ := qa (qza (by (with_reducible repeat first | apply qaa | apply qba | apply qca); exact HO_9.out) hb); have n2_ := qa (qxa (by (with_reducible repeat first | apply qda | apply qea | apply qfa); exact HO469.out) hb); have n3_ := qa (qya (by (with_reducible repeat first | apply qx | apply qy | apply qz); exact HO474.out) hb); have n4_ := qa (qxa (by (with_reducible repeat first | apply qda | apply qea | apply qfa); exact HO478.out) hb); have n5_ := qa (qxa (by (with_reducible repeat first | apply qda | apply qea | apply qfa); exact HO483.out) hb); have n6_ := qa (qya (by (with_reducible repeat first | apply qx | apply qy | apply qz); exact HO489.out) hb); have n7_ := qa (qja (g := gb471) (o := .cells #[.int .i64 t466, .slice Ao79 t467.length co79, .int .i64 t470] 31 (0, 0)) (by (with_reducible repeat first | apply ql | apply qn | apply qk); exact BK471.out) hb); have n8_ := qa (qja (g := gb485) (o := .cells #[.int .i64 t475, .slice Ao87 t476.length co87, .int .i64 t479] 31 (0, 0)) (by (with_reducible repeat first | apply ql | apply qn | apply qk); exact BK485.out) hb); have n9_ := qa (qja (g := gb486) (o := .cells #[.int .i64 t480, .slice Ao90 t481.length co90, .int .i64 t484] 31 (0, 0)) (by (with_reducible repeat first | apply ql | apply qn | apply qk); exact BK486.out) hb); have n10_ := qa (qha (by repeat (first | (with_reducible first | exact HB.out | apply qh | apply qe | apply qg | refine qj ?_ GE471.out | refine qj ?_ GE485.out | refine qj ?_ GE486.out) | exact HB.out)) hb); clear HO_8 HO_9 HO469 HO474 HO478 HO483 HO489 BK471 BK485 BK486 HB; have HO_8 := n0_; have HO_9 := n1_; have HO469 := n2_; have HO474 := n3_; have HO478 := n4_; have HO483 := n5_; have HO489 := n6_; have BK471 := n7_; have BK485 := n8_; have BK486 := n9_; have HB := n10_; clear n0_ n1_ n2_ n3_ n4_ n5_ n6_ n7_ n8_ n9_ n10_; (try clear hb); (try clear hb2); (try clear hk); (try clear hi); refine hK.out _ _ ⟨(qi BK471.out 0).trans rfl, (qi BK471.out 1).trans rfl, (qi BK471.out 2).trans rfl, (qi BK485.out 0).trans rfl, (qi BK485.out 1).trans rfl, (qi BK485.out 2).trans rfl, (qi BK486.out 0).trans rfl, (qi BK486.out 1).trans rfl, (qi BK486.out 2).trans rfl⟩ (fun hHeld => ?_); clear hK K; refine norm_ (a' := ?_) ?_ ?_; rotate_left
               ·show Act.put _ (some 111) _ = _
                simp only [Act.put, qb, qc, qd, i64_w, i32_w]; rfl
               refine one_ (i := 15) (N := some 113) (bz 65535 62) rfl rfl (qwa HT_.out (by kernel_rfl)) (by decide) (fun K hK => ?_); refine goes_ Tryd.func22 (by kernel_rfl) rfl #[.agg #[.int .i64 t466, .slice Ao79 t467.length co79, .int .i64 t470]] (by rfl) rfl rfl (by (try simp only [qs, qv, qw]); first | done | rfl | (simp only [qu, qt]; rfl)) ?_; with_reducible refine (spec_IsFooting.calls k2 t466 _ _ t467 t470 t494 _ ?side1 ?side2 A67.out).mono ?_
               (case side1 => repeat (first | exact (qfb HO469.out).2.2 | (with_reducible first | apply qka | apply qla | apply qma)))
               (case side2 => exact (qfb HO469.out).2.1)
               rintro e w99 ⟨rfl, hb⟩; refine ⟨_, rfl, ?_⟩; have n0_ := qa (qza (by (with_reducible repeat first | apply qaa | apply qba | apply qca); exact HO_8.out) hb); have n1_ := qa (qza (by (with_reducible repeat first | apply qaa | apply qba | apply qca); exact HO_9.out) hb); have n2_ := qa (qxa (by (with_reducible repeat first | apply qda | apply qea | apply qfa); exact HO469.out) hb); have n3_ := qa (qya (by (with_reducible repeat first | apply qx | apply qy | apply qz); exact HO474.out) hb); have n4_ := qa (qxa (by (with_reducible repeat first | apply qda | apply qea | apply qfa); exact HO478.out) hb); have n5_ := qa (qxa (by (with_reducible repeat first | apply qda | apply qea | apply qfa); exact HO483.out) hb); have n6_ := qa (qya (by (with_reducible repeat first | apply qx | apply qy | apply qz); exact HO489.out) hb); have n7_ := qa (qja (g := gb471) (o := .cells #[.int .i64 t466, .slice Ao79 t467.length co79, .int .i64 t470] 31 (0, 0)) (by (with_reducible repeat first | apply ql | apply qn | apply qk); exact BK471.out) hb); have n8_ := qa (qja (g := gb485) (o := .cells #[.int .i64 t475, .slice Ao87 t476.length co87, .int .i64 t479] 31 (0, 0)) (by (with_reducible repeat first | apply ql | apply qn | apply qk); exact BK485.out) hb); have n9_ := qa (qja (g := gb486) (o := .cells #[.int .i64 t480, .slice Ao90 t481.length co90, .int .i64 t484] 31 (0, 0)) (by (with_reducible repeat first | apply ql | apply qn | apply qk); exact BK486.out) hb); have n10_ := qa (qha (by repeat (first | (with_reducible first | exact HB.out | apply qh | apply qe | apply qg | refine qj ?_ GE471.out | refine qj ?_ GE485.out | refine qj ?_ GE486.out) | exact HB.out)) hb); clear HO_8 HO_9 HO469 HO474 HO478 HO483 HO489 BK471 BK485 BK486 HB; have HO_8 := n0_; have HO_9 := n1_; have HO469 := n2_; have HO474 := n3_; have HO478 := n4_; have HO483 := n5_; have HO489 := n6_; have BK471 := n7_; have BK485 := n8_; have BK486 := n9_; have HB := n10_; clear n0_ n1_ n2_ n3_ n4_ n5_ n6_ n7_ n8_ n9_ n10_; (try clear hb); (try clear hb2); (try clear hk); (try clear hi); refine hK.out _ _ ⟨(qi BK471.out 0).trans rfl, (qi BK471.out 1).trans rfl, (qi BK471.out 2).trans rfl, (qi BK485.out 0).trans rfl, (qi BK485.out 1).trans rfl, (qi BK485.out 2).trans rfl, (qi BK486.out 0).trans rfl, (qi BK486.out 1).trans rfl, (qi BK486.out 2).trans rfl⟩ (fun hHeld => ?_); clear hK K; refine norm_ (a' := ?_) ?_ ?_; rotate_left
               ·show Act.put _ (some 113) _ = _
                simp only [Act.put, qb, qc, qd, i64_w, i32_w]; rfl
               refine pure_ (i := 16) (N := some 114) (v := ?_) (a' := ?_) (bz 131071 62) rfl rfl (qua HT_.out (by kernel_rfl)) (fun _ _ _ h => h) (Or.inl ⟨by rfl, ?_⟩) ?_ ?_; rotate_left
               ·intro w'
                go_simp; with_reducible rfl
               rotate_left
               ·simp only [Act.put, qb, qc, qd, i64_w, i32_w]
                rfl
               refine pure_ (i := 17) (N := some 115) (v := ?_) (a' := ?_) (bz 262143 62) rfl rfl (qua HT_.out (by kernel_rfl)) (fun _ _ _ h => h) (Or.inl ⟨by rfl, ?_⟩) ?_ ?_; rotate_left
               ·intro w'
                go_simp; with_reducible rfl
               rotate_left
               ·simp only [Act.put, qb, qc, qd, i64_w, i32_w]
                rfl
               refine pure_ (i := 18) (N := some 116) (v := ?_) (a' := ?_) (bz 524287 62) rfl rfl (qua HT_.out (by kernel_rfl)) (fun _ _ _ h => h) (Or.inl ⟨by rfl, ?_⟩) ?_ ?_; rotate_left
               ·intro w'
                go_simp; with_reducible rfl
               rotate_left
               ·simp only [Act.put, qb, qc, qd, i64_w, i32_w]
                rfl
               refine take_ (i := 19) (N := some 117) (v := ?_) (a' := ?_) (bz 1048575 62) rfl rfl (qva HT_.out HW_.out (by kernel_rfl)) (fun _ _ _ h => h) (Or.inl ⟨by rfl, ?_⟩) hHeld ?_ ?_; rotate_left
               ·rintro w' ⟨s0, s1, s2, s3, s4, s5, s6, s7, s8⟩
                go_simp; with_reducible rfl
               rotate_left
               ·simp only [Act.put, qb, qc, qd, i64_w, i32_w]
                rfl
               refine take_ (i := 21) (N := some 119) (v := ?_) (a' := ?_) (bz 3145727 62) rfl rfl (qva HT_.out HW_.out (by kernel_rfl)) (fun _ _ _ h => h) (Or.inl ⟨by rfl, ?_⟩) hHeld ?_ ?_; rotate_left
               ·rintro w' ⟨s0, s1, s2, s3, s4, s5, s6, s7, s8⟩
                go_simp; with_reducible rfl
               rotate_left
               ·simp only [Act.put, qb, qc, qd, i64_w, i32_w]
                rfl
               refine one_ (i := 20) (N := some 118) (bz 4194303 62) rfl rfl (qwa HT_.out (by kernel_rfl)) (by decide) (fun K hK => ?_); refine goes_ Tryd.func12 (by kernel_rfl) rfl #[.agg #[.int .i64 t466, .slice Ao79 t467.length co79, .int .i64 t470]] (by rfl) rfl rfl (by (try simp only [qs, qv, qw]); first | done | rfl | (simp only [qu, qt]; rfl)) ?_; with_reducible refine (impl_StressesOf.calls k2 t466 _ _ t467 t470 t495 _ ?side1 ?side2 A69.out).mono ?_
               (case side1 => repeat (first | exact (qfb HO469.out).2.2 | (with_reducible first | apply qka | apply qla | apply qma)))
               (case side2 => exact (qfb HO469.out).2.1)
               rintro e w100 ⟨v496, rfl, ho0, hb⟩; refine ⟨_, rfl, ?_⟩; have n0_ := qa (qjb (by (with_reducible repeat first | apply qaa | apply qba | apply qca); exact HO_8.out) (qyb ho0) hb); have n1_ := qa (qjb (by (with_reducible repeat first | apply qaa | apply qba | apply qca); exact HO_9.out) (qyb ho0) hb); have n2_ := qa (qib (by (with_reducible repeat first | apply qda | apply qea | apply qfa); exact HO469.out) (qyb ho0) hb); have n3_ := qa (qkb (by (with_reducible repeat first | apply qx | apply qy | apply qz); exact HO474.out) (qyb ho0) hb); have n4_ := qa (qib (by (with_reducible repeat first | apply qda | apply qea | apply qfa); exact HO478.out) (qyb ho0) hb); have n5_ := qa (qib (by (with_reducible repeat first | apply qda | apply qea | apply qfa); exact HO483.out) (qyb ho0) hb); have n6_ := qa (qkb (by (with_reducible repeat first | apply qx | apply qy | apply qz); exact HO489.out) (qyb ho0) hb); have n7_ := qa (qvb (Kd.R_new' (Kd.R_new' ho0 (Kd.R_lt (by (with_reducible repeat first | apply qx | apply qy | apply qz); exact HO474.out))) (Kd.R_lt (by (with_reducible repeat first | apply qx | apply qy | apply qz); exact HO489.out))) (qp (by repeat (first | (with_reducible first | exact HB.out | apply qh | apply qe | apply qg | refine qj ?_ GE471.out | refine qj ?_ GE485.out | refine qj ?_ GE486.out) | exact HB.out)))); have n8_ := qa (qja (g := gb471) (o := .cells #[.int .i64 t466, .slice Ao79 t467.length co79, .int .i64 t470] 31 (0, 0)) (by (with_reducible repeat first | apply ql | apply qn | apply qk); exact BK471.out) hb); have n9_ := qa (qja (g := gb485) (o := .cells #[.int .i64 t475, .slice Ao87 t476.length co87, .int .i64 t479] 31 (0, 0)) (by (with_reducible repeat first | apply ql | apply qn | apply qk); exact BK485.out) hb); have n10_ := qa (qja (g := gb486) (o := .cells #[.int .i64 t480, .slice Ao90 t481.length co90, .int .i64 t484] 31 (0, 0)) (by (with_reducible repeat first | apply ql | apply qn | apply qk); exact BK486.out) hb); have n11_ := qa (qha (by repeat (first | (with_reducible first | exact HB.out | apply qh | apply qe | apply qg | refine qj ?_ GE471.out | refine qj ?_ GE485.out | refine qj ?_ GE486.out) | exact HB.out)) hb); clear HO_8 HO_9 HO469 HO474 HO478 HO483 HO489 BK471 BK485 BK486 HB; have HO_8 := n0_; have HO_9 := n1_; have HO469 := n2_; have HO474 := n3_; have HO478 := n4_; have HO483 := n5_; have HO489 := n6_; have HO497 := n7_; have BK471 := n8_; have BK485 := n9_; have BK486 := n10_; have HB := n11_; clear n0_ n1_ n2_ n3_ n4_ n5_ n6_ n7_ n8_ n9_ n10_ n11_; (try clear hb); (try clear hb2); (try clear hk); (try clear hi); (try clear ho0); refine hK.out _ _ ⟨(qi BK471.out 0).trans rfl, (qi BK471.out 1).trans rfl, (qi BK471.out 2).trans rfl, (qi BK485.out 0).trans rfl, (qi BK485.out 1).trans rfl, (qi BK485.out 2).trans rfl, (qi BK486.out 0).trans rfl, (qi BK486.out 1).trans rfl, (qi BK486.out 2).trans rfl⟩ (fun hHeld => ?_); clear hK K; refine norm_ (a' := ?_) ?_ ?_; rotate_left
               ·show Act.put _ (some 118) _ = _
                simp only [Act.put, qb, qc, qd, i64_w, i32_w]; rfl
               refine one_ (i := 22) (N := some 120) (bz 8388607 62) rfl rfl (qwa HT_.out (by kernel_rfl)) (by decide) (fun K hK => ?_); refine goes_ Tryd.func23 (by kernel_rfl) rfl #[.agg #[.int .i64 t466, .slice Ao79 t467.length co79, .int .i64 t470]] (by rfl) rfl rfl (by (try simp only [qs, qv, qw]); first | done | rfl | (simp only [qu, qt]; rfl)) ?_; with_reducible refine (spec_StressesOf.calls k2 t466 _ _ t467 t470 t498 _ ?side1 ?side2 A70.out).mono ?_
               (case side1 => repeat (first | exact (qfb HO469.out).2.2 | (with_reducible first | apply qka | apply qla | apply qma)))
               (case side2 => exact (qfb HO469.out).2.1)
               rintro e w101 ⟨v499, rfl, ho0, hb⟩; refine ⟨_, rfl, ?_⟩; have n0_ := qa (qjb (by (with_reducible repeat first | apply qaa | apply qba | apply qca); exact HO_8.out) (qyb ho0) hb); have n1_ := qa (qjb (by (with_reducible repeat first | apply qaa | apply qba | apply qca); exact HO_9.out) (qyb ho0) hb); have n2_ := qa (qib (by (with_reducible repeat first | apply qda | apply qea | apply qfa); exact HO469.out) (qyb ho0) hb); have n3_ := qa (qkb (by (with_reducible repeat first | apply qx | apply qy | apply qz); exact HO474.out) (qyb ho0) hb); have n4_ := qa (qib (by (with_reducible repeat first | apply qda | apply qea | apply qfa); exact HO478.out) (qyb ho0) hb); have n5_ := qa (qib (by (with_reducible repeat first | apply qda | apply qea | apply qfa); exact HO483.out) (qyb ho0) hb); have n6_ := qa (qkb (by (with_reducible repeat first | apply qx | apply qy | apply qz); exact HO489.out) (qyb ho0) hb); have n7_ := qa (qkb (by (with_reducible repeat first | apply qx | apply qy | apply qz); exact HO497.out) (qyb ho0) hb); have n8_ := qa (qvb (Kd.R_new' (Kd.R_new' (Kd.R_new' ho0 (Kd.R_lt (by (with_reducible repeat first | apply qx | apply qy | apply qz); exact HO474.out))) (Kd.R_lt (by (with_reducible repeat first | apply qx | apply qy | apply qz); exact HO489.out))) (Kd.R_lt (by (with_reducible repeat first | apply qx | apply qy | apply qz); exact HO497.out))) (qp (by repeat (first | (with_reducible first | exact HB.out | apply qh | apply qe | apply qg | refine qj ?_ GE471.out | refine qj ?_ GE485.out | refine qj ?_ GE486.out) | exact HB.out)))); have n9_ := qa (qja (g := gb471) (o := .cells #[.int .i64 t466, .slice Ao79 t467.length co79, .int .i64 t470] 31 (0, 0)) (by (with_reducible repeat first | apply ql | apply qn | apply qk); exact BK471.out) hb); have n10_ := qa (qja (g := gb485) (o := .cells #[.int .i64 t475, .slice Ao87 t476.length co87, .int .i64 t479] 31 (0, 0)) (by (with_reducible repeat first | apply ql | apply qn | apply qk); exact BK485.out) hb); have n11_ := qa (qja (g := gb486) (o := .cells #[.int .i64 t480, .slice Ao90 t481.length co90, .int .i64 t484] 31 (0, 0)) (by (with_reducible repeat first | apply ql | apply qn | apply qk); exact BK486.out) hb); have n12_ := qa (qha (by repeat (first | (with_reducible first | exact HB.out | apply qh | apply qe | apply qg | refine qj ?_ GE471.out | refine qj ?_ GE485.out | refine qj ?_ GE486.out) | exact HB.out)) hb); clear HO_8 HO_9 HO469 HO474 HO478 HO483 HO489 HO497 BK471 BK485 BK486 HB; have HO_8 := n0_; have HO_9 := n1_; have HO469 := n2_; have HO474 := n3_; have HO478 := n4_; have HO483 := n5_; have HO489 := n6_; have HO497 := n7_; have HO500 := n8_; have BK471 := n9_; have BK485 := n10_; have BK486 := n11_; have HB := n12_; clear n0_ n1_ n2_ n3_ n4_ n5_ n6_ n7_ n8_ n9_ n10_ n11_ n12_; (try clear hb); (try clear hb2); (try clear hk); (try clear hi); (try clear ho0); obtain ⟨Ao102, co102, eo102⟩ := Kd.R_slice HO497.out
               (first | subst eo102 | (injection eo102 with f1_ f2_ f3_; have f4_ := f1_.symm; have f5_ := f3_.symm; clear f1_ f2_ f3_; subst f4_; subst f5_))
               obtain ⟨Ao103, co103, eo103⟩ := Kd.R_slice HO500.out
               (first | subst eo103 | (injection eo103 with f1_ f2_ f3_; have f4_ := f1_.symm; have f5_ := f3_.symm; clear f1_ f2_ f3_; subst f4_; subst f5_))
               refine hK.out _ _ ⟨(qi BK471.out 0).trans rfl, (qi BK471.out 1).trans rfl, (qi BK471.out 2).trans rfl, (qi BK485.out 0).trans rfl, (qi BK485.out 1).trans rfl, (qi BK485.out 2).trans rfl, (qi BK486.out 0).trans rfl, (qi BK486.out 1).trans rfl, (qi BK486.out 2).trans rfl⟩ (fun hHeld => ?_); clear hK K; refine norm_ (a' := ?_) ?_ ?_; rotate_left
               ·show Act.put _ (some 120) _ = _
                simp only [Act.put, qb, qc, qd, i64_w, i32_w]; rfl
               refine one_ (i := 23) (N := some 121) (bz 16777215 62) rfl rfl (qwa HT_.out (by kernel_rfl)) (by decide) (fun K hK => ?_); refine goes_ Tryd.func11 (by kernel_rfl) rfl #[.slice Ao102 t495.length co102, .slice Ao103 t498.length co103] (by rfl) rfl rfl (by (try simp only [qs, qv, qw]); first | done | rfl | (simp only [qu, qt]; rfl)) ?_; with_reducible refine (laws_sameInts.calls k2 _ _ t495 _ _ t498 true _ ?side1 ?side2 ?side3 ?side4 A71.out).mono ?_
               (case side1 => repeat (first | exact (qgb HO497.out).2.2 | (with_reducible first | apply qka | apply qla | apply qma)))
               (case side2 => exact (qgb HO497.out).2.1)
               (case side3 => repeat (first | exact (qgb HO500.out).2.2 | (with_reducible first | apply qka | apply qla | apply qma)))
               (case side4 => exact (qgb HO500.out).2.1)
               rintro e w' ⟨rfl, ⟨nd, rfl⟩⟩; refine ⟨_, rfl, ?_⟩; refine hK.out _ _ ⟨(qi BK471.out 0).trans rfl, (qi BK471.out 1).trans rfl, (qi BK471.out 2).trans rfl, (qi BK485.out 0).trans rfl, (qi BK485.out 1).trans rfl, (qi BK485.out 2).trans rfl, (qi BK486.out 0).trans rfl, (qi BK486.out 1).trans rfl, (qi BK486.out 2).trans rfl⟩ (fun hHeld => ?_); clear hK K; refine norm_ (a' := ?_) ?_ ?_; rotate_left
               ·show Act.put _ (some 121) _ = _
                simp only [Act.put, qb, qc, qd, i64_w, i32_w]; rfl
               refine pure_ (i := 24) (N := some 122) (v := ?_) (a' := ?_) (bz 33554431 62) rfl rfl (qua HT_.out (by kernel_rfl)) (fun _ _ _ h => h) (Or.inl ⟨by rfl, ?_⟩) ?_ ?_; rotate_left
               ·intro w'
                go_simp; with_reducible rfl
               rotate_left
               ·simp only [Act.put, qb, qc, qd, i64_w, i32_w]
                rfl
               refine pure_ (i := 25) (N := some 123) (v := ?_) (a' := ?_) (bz 67108863 62) rfl rfl (qua HT_.out (by kernel_rfl)) (fun _ _ _ h => h) (Or.inl ⟨by rfl, ?_⟩) ?_ ?_; rotate_left
               ·intro w'
                go_simp; with_reducible rfl
               rotate_left
               ·simp only [Act.put, qb, qc, qd, i64_w, i32_w]
                rfl
               refine pure_ (i := 26) (N := some 124) (v := ?_) (a' := ?_) (bz 134217727 62) rfl rfl (qua HT_.out (by kernel_rfl)) (fun _ _ _ h => h) (Or.inl ⟨by rfl, ?_⟩) ?_ ?_; rotate_left
               ·intro w'
                go_simp; with_reducible rfl
               rotate_left
               ·simp only [Act.put, qb, qc, qd, i64_w, i32_w]
                rfl
               refine pure_ (i := 27) (N := some 125) (v := ?_) (a' := ?_) (bz 268435455 62) rfl rfl (qua HT_.out (by kernel_rfl)) (fun _ _ _ h => h) (Or.inl ⟨by rfl, ?_⟩) ?_ ?_; rotate_left
               ·intro w'
                go_simp; with_reducible rfl
               rotate_left
               ·simp only [Act.put, qb, qc, qd, i64_w, i32_w]
                rfl
               refine pure_ (i := 28) (N := some 126) (v := ?_) (a' := ?_) (bz 536870911 62) rfl rfl (qua HT_.out (by kernel_rfl)) (fun _ _ _ h => h) (Or.inl ⟨by rfl, ?_⟩) ?_ ?_; rotate_left
               ·intro w'
                go_simp; with_reducible rfl
               rotate_left
               ·simp only [Act.put, qb, qc, qd, i64_w, i32_w]
                rfl
               refine pure_ (i := 29) (N := some 127) (v := ?_) (a' := ?_) (bz 1073741823 62) rfl rfl (qua HT_.out (by kernel_rfl)) (fun _ _ _ h => h) (Or.inl ⟨by rfl, ?_⟩) ?_ ?_; rotate_left
               ·intro w'
                go_simp; with_reducible rfl
               rotate_left
               ·simp only [Act.put, qb, qc, qd, i64_w, i32_w]
                rfl
               refine pure_ (i := 30) (N := some 128) (v := undef) (a' := ?_) (bz 2147483647 62) rfl rfl (qua HT_.out (by kernel_rfl)) (fun _ _ _ h => h) (Or.inr ⟨by rfl, rfl⟩) ?_ ?_; rotate_left
               ·simp only [Act.put, qb, qc, qd, i64_w, i32_w]
                rfl
               refine pure_ (i := 31) (N := some 129) (v := undef) (a' := ?_) (bz 4294967295 62) rfl rfl (qua HT_.out (by kernel_rfl)) (fun _ _ _ h => h) (Or.inr ⟨by rfl, rfl⟩) ?_ ?_; rotate_left
               ·simp only [Act.put, qb, qc, qd, i64_w, i32_w]
                rfl
               refine pure_ (i := 32) (N := some 130) (v := undef) (a' := ?_) (bz 8589934591 62) rfl rfl (qua HT_.out (by kernel_rfl)) (fun _ _ _ h => h) (Or.inr ⟨by rfl, rfl⟩) ?_ ?_; rotate_left
               ·simp only [Act.put, qb, qc, qd, i64_w, i32_w]
                rfl
               refine pure_ (i := 33) (N := some 131) (v := undef) (a' := ?_) (bz 17179869183 62) rfl rfl (qua HT_.out (by kernel_rfl)) (fun _ _ _ h => h) (Or.inr ⟨by rfl, rfl⟩) ?_ ?_; rotate_left
               ·simp only [Act.put, qb, qc, qd, i64_w, i32_w]
                rfl
               refine pure_ (i := 34) (N := some 132) (v := undef) (a' := ?_) (bz 34359738367 62) rfl rfl (qua HT_.out (by kernel_rfl)) (fun _ _ _ h => h) (Or.inr ⟨by rfl, rfl⟩) ?_ ?_; rotate_left
               ·simp only [Act.put, qb, qc, qd, i64_w, i32_w]
                rfl
               refine pure_ (i := 35) (N := some 133) (v := undef) (a' := ?_) (bz 68719476735 62) rfl rfl (qua HT_.out (by kernel_rfl)) (fun _ _ _ h => h) (Or.inr ⟨by rfl, rfl⟩) ?_ ?_; rotate_left
               ·simp only [Act.put, qb, qc, qd, i64_w, i32_w]
                rfl
               refine pure_ (i := 36) (N := some 134) (v := undef) (a' := ?_) (bz 137438953471 62) rfl rfl (qua HT_.out (by kernel_rfl)) (fun _ _ _ h => h) (Or.inr ⟨by rfl, rfl⟩) ?_ ?_; rotate_left
               ·simp only [Act.put, qb, qc, qd, i64_w, i32_w]
                rfl
               refine pure_ (i := 37) (N := some 135) (v := undef) (a' := ?_) (bz 274877906943 62) rfl rfl (qua HT_.out (by kernel_rfl)) (fun _ _ _ h => h) (Or.inr ⟨by rfl, rfl⟩) ?_ ?_; rotate_left
               ·simp only [Act.put, qb, qc, qd, i64_w, i32_w]
                rfl
               refine pure_ (i := 38) (N := some 136) (v := undef) (a' := ?_) (bz 549755813887 62) rfl rfl (qua HT_.out (by kernel_rfl)) (fun _ _ _ h => h) (Or.inr ⟨by rfl, rfl⟩) ?_ ?_; rotate_left
               ·simp only [Act.put, qb, qc, qd, i64_w, i32_w]
                rfl
               refine pure_ (i := 39) (N := some 137) (v := undef) (a' := ?_) (bz 1099511627775 62) rfl rfl (qua HT_.out (by kernel_rfl)) (fun _ _ _ h => h) (Or.inr ⟨by rfl, rfl⟩) ?_ ?_; rotate_left
               ·simp only [Act.put, qb, qc, qd, i64_w, i32_w]
                rfl
               refine pure_ (i := 40) (N := some 138) (v := undef) (a' := ?_) (bz 2199023255551 62) rfl rfl (qua HT_.out (by kernel_rfl)) (fun _ _ _ h => h) (Or.inr ⟨by rfl, rfl⟩) ?_ ?_; rotate_left
               ·simp only [Act.put, qb, qc, qd, i64_w, i32_w]
                rfl
               refine pure_ (i := 41) (N := some 139) (v := undef) (a' := ?_) (bz 4398046511103 62) rfl rfl (qua HT_.out (by kernel_rfl)) (fun _ _ _ h => h) (Or.inr ⟨by rfl, rfl⟩) ?_ ?_; rotate_left
               ·simp only [Act.put, qb, qc, qd, i64_w, i32_w]
                rfl
               refine pure_ (i := 42) (N := some 140) (v := undef) (a' := ?_) (bz 8796093022207 62) rfl rfl (qua HT_.out (by kernel_rfl)) (fun _ _ _ h => h) (Or.inr ⟨by rfl, rfl⟩) ?_ ?_; rotate_left
               ·simp only [Act.put, qb, qc, qd, i64_w, i32_w]
                rfl
               refine pure_ (i := 43) (N := some 141) (v := undef) (a' := ?_) (bz 17592186044415 62) rfl rfl (qua HT_.out (by kernel_rfl)) (fun _ _ _ h => h) (Or.inr ⟨by rfl, rfl⟩) ?_ ?_; rotate_left
               ·simp only [Act.put, qb, qc, qd, i64_w, i32_w]
                rfl
               refine pure_ (i := 44) (N := some 142) (v := undef) (a' := ?_) (bz 35184372088831 62) rfl rfl (qua HT_.out (by kernel_rfl)) (fun _ _ _ h => h) (Or.inr ⟨by rfl, rfl⟩) ?_ ?_; rotate_left
               ·simp only [Act.put, qb, qc, qd, i64_w, i32_w]
                rfl
               refine pure_ (i := 45) (N := some 143) (v := undef) (a' := ?_) (bz 70368744177663 62) rfl rfl (qua HT_.out (by kernel_rfl)) (fun _ _ _ h => h) (Or.inr ⟨by rfl, rfl⟩) ?_ ?_; rotate_left
               ·simp only [Act.put, qb, qc, qd, i64_w, i32_w]
                rfl
               refine pure_ (i := 46) (N := some 144) (v := undef) (a' := ?_) (bz 140737488355327 62) rfl rfl (qua HT_.out (by kernel_rfl)) (fun _ _ _ h => h) (Or.inr ⟨by rfl, rfl⟩) ?_ ?_; rotate_left
               ·simp only [Act.put, qb, qc, qd, i64_w, i32_w]
                rfl
               refine pure_ (i := 47) (N := some 145) (v := undef) (a' := ?_) (bz 281474976710655 62) rfl rfl (qua HT_.out (by kernel_rfl)) (fun _ _ _ h => h) (Or.inr ⟨by rfl, rfl⟩) ?_ ?_; rotate_left
               ·simp only [Act.put, qb, qc, qd, i64_w, i32_w]
                rfl
               refine pure_ (i := 48) (N := some 146) (v := undef) (a' := ?_) (bz 562949953421311 62) rfl rfl (qua HT_.out (by kernel_rfl)) (fun _ _ _ h => h) (Or.inr ⟨by rfl, rfl⟩) ?_ ?_; rotate_left
               ·simp only [Act.put, qb, qc, qd, i64_w, i32_w]
                rfl
               refine pure_ (i := 49) (N := some 147) (v := undef) (a' := ?_) (bz 1125899906842623 62) rfl rfl (qua HT_.out (by kernel_rfl)) (fun _ _ _ h => h) (Or.inr ⟨by rfl, rfl⟩) ?_ ?_; rotate_left
               ·simp only [Act.put, qb, qc, qd, i64_w, i32_w]
                rfl
               refine pure_ (i := 50) (N := some 148) (v := ?_) (a' := ?_) (bz 2251799813685247 62) rfl rfl (qua HT_.out (by kernel_rfl)) (fun _ _ _ h => h) (Or.inl ⟨by rfl, ?_⟩) ?_ ?_; rotate_left
               ·intro w'
                go_simp; with_reducible rfl
               rotate_left
               ·simp only [Act.put, qb, qc, qd, i64_w, i32_w]
                rfl
               refine pure_ (i := 51) (N := some 149) (v := ?_) (a' := ?_) (bz 4503599627370495 62) rfl rfl (qua HT_.out (by kernel_rfl)) (fun _ _ _ h => h) (Or.inl ⟨by rfl, ?_⟩) ?_ ?_; rotate_left
               ·intro w'
                go_simp; with_reducible rfl
               rotate_left
               ·simp only [Act.put, qb, qc, qd, i64_w, i32_w]
                rfl
               refine pure_ (i := 52) (N := some 150) (v := ?_) (a' := ?_) (bz 9007199254740991 62) rfl rfl (qua HT_.out (by kernel_rfl)) (fun _ _ _ h => h) (Or.inl ⟨by rfl, ?_⟩) ?_ ?_; rotate_left
               ·intro w'
                go_simp; with_reducible rfl
               rotate_left
               ·simp only [Act.put, qb, qc, qd, i64_w, i32_w]
                rfl
               refine take_ (i := 53) (N := some 151) (v := ?_) (a' := ?_) (bz 18014398509481983 62) rfl rfl (qva HT_.out HW_.out (by kernel_rfl)) (fun _ _ _ h => h) (Or.inl ⟨by rfl, ?_⟩) hHeld ?_ ?_; rotate_left
               ·rintro w' ⟨s0, s1, s2, s3, s4, s5, s6, s7, s8⟩
                go_simp; with_reducible rfl
               rotate_left
               ·simp only [Act.put, qb, qc, qd, i64_w, i32_w]
                rfl
               refine take_ (i := 54) (N := some 152) (v := ?_) (a' := ?_) (bz 36028797018963967 62) rfl rfl (qva HT_.out HW_.out (by kernel_rfl)) (fun _ _ _ h => h) (Or.inl ⟨by rfl, ?_⟩) hHeld ?_ ?_; rotate_left
               ·rintro w' ⟨s0, s1, s2, s3, s4, s5, s6, s7, s8⟩
                go_simp; with_reducible rfl
               rotate_left
               ·simp only [Act.put, qb, qc, qd, i64_w, i32_w]
                rfl
               refine take_ (i := 56) (N := some 154) (v := ?_) (a' := ?_) (bz 108086391056891903 62) rfl rfl (qva HT_.out HW_.out (by kernel_rfl)) (fun _ _ _ h => h) (Or.inl ⟨by rfl, ?_⟩) hHeld ?_ ?_; rotate_left
               ·rintro w' ⟨s0, s1, s2, s3, s4, s5, s6, s7, s8⟩
                go_simp; with_reducible rfl
               rotate_left
               ·simp only [Act.put, qb, qc, qd, i64_w, i32_w]
                rfl
               refine take_ (i := 57) (N := some 155) (v := ?_) (a' := ?_) (bz 252201579132747775 62) rfl rfl (qva HT_.out HW_.out (by kernel_rfl)) (fun _ _ _ h => h) (Or.inl ⟨by rfl, ?_⟩) hHeld ?_ ?_; rotate_left
               ·rintro w' ⟨s0, s1, s2, s3, s4, s5, s6, s7, s8⟩
                go_simp; with_reducible rfl
               rotate_left
               ·simp only [Act.put, qb, qc, qd, i64_w, i32_w]
                rfl
               refine one_ (i := 55) (N := some 153) (bz 288230376151711743 62) rfl rfl (qwa HT_.out (by kernel_rfl)) (by decide) (fun K hK => ?_); refine goes_ Tryd.func24 (by kernel_rfl) rfl #[.agg #[.int .i64 t475, .slice Ao87 t476.length co87, .int .i64 t479], .agg #[.int .i64 t480, .slice Ao90 t481.length co90, .int .i64 t484]] (by rfl) rfl rfl (by (try simp only [qs, qv, qw]); first | done | rfl | (simp only [qu, qt]; rfl)) ?_; with_reducible refine (impl_EqualFootings.calls k2 t475 _ _ t476 t479 t480 _ _ t481 t484 t502 _ ?side1 ?side2 ?side3 ?side4 A74.out).mono ?_
               (case side1 => repeat (first | exact (qfb HO478.out).2.2 | (with_reducible first | apply qka | apply qla | apply qma)))
               (case side2 => exact (qfb HO478.out).2.1)
               (case side3 => repeat (first | exact (qfb HO483.out).2.2 | (with_reducible first | apply qka | apply qla | apply qma)))
               (case side4 => exact (qfb HO483.out).2.1)
               rintro e w104 ⟨rfl, hb⟩; refine ⟨_, rfl, ?_⟩; have n0_ := qa (qza (by (with_reducible repeat first | apply qaa | apply qba | apply qca); exact HO_8.out) hb); have n1_ := qa (qza (by (with_reducible repeat first | apply qaa | apply qba | apply qca); exact HO_9.out) hb); have n2_ := qa (qxa (by (with_reducible repeat first | apply qda | apply qea | apply qfa); exact HO469.out) hb); have n3_ := qa (qya (by (with_reducible repeat first | apply qx | apply qy | apply qz); exact HO474.out) hb); have n4_ := qa (qxa (by (with_reducible repeat first | apply qda | apply qea | apply qfa); exact HO478.out) hb); have n5_ := qa (qxa (by (with_reducible repeat first | apply qda | apply qea | apply qfa); exact HO483.out) hb); have n6_ := qa (qya (by (with_reducible repeat first | apply qx | apply qy | apply qz); exact HO489.out) hb); have n7_ := qa (qya (by (with_reducible repeat first | apply qx | apply qy | apply qz); exact HO497.out) hb); have n8_ := qa (qya (by (with_reducible repeat first | apply qx | apply qy | apply qz); exact HO500.out) hb); have n9_ := qa (qja (g := gb471) (o := .cells #[.int .i64 t466, .slice Ao79 t467.length co79, .int .i64 t470] 31 (0, 0)) (by (with_reducible repeat first | apply ql | apply qn | apply qk); exact BK471.out) hb); have n10_ := qa (qja (g := gb485) (o := .cells #[.int .i64 t475, .slice Ao87 t476.length co87, .int .i64 t479] 31 (0, 0)) (by (with_reducible repeat first | apply ql | apply qn | apply qk); exact BK485.out) hb); have n11_ := qa (qja (g := gb486) (o := .cells #[.int .i64 t480, .slice Ao90 t481.length co90, .int .i64 t484] 31 (0, 0)) (by (with_reducible repeat first | apply ql | apply qn | apply qk); exact BK486.out) hb); have n12_ := qa (qha (by repeat (first | (with_reducible first | exact HB.out | apply qh | apply qe | apply qg | refine qj ?_ GE471.out | refine qj ?_ GE485.out | refine qj ?_ GE486.out) | exact HB.out)) hb); clear HO_8 HO_9 HO469 HO474 HO478 HO483 HO489 HO497 HO500 BK471 BK485 BK486 HB; have HO_8 := n0_; have HO_9 := n1_; have HO469 := n2_; have HO474 := n3_; have HO478 := n4_; have HO483 := n5_; have HO489 := n6_; have HO497 := n7_; have HO500 := n8_; have BK471 := n9_; have BK485 := n10_; have BK486 := n11_; have HB := n12_; clear n0_ n1_ n2_ n3_ n4_ n5_ n6_ n7_ n8_ n9_ n10_ n11_ n12_; (try clear hb); (try clear hb2); (try clear hk); (try clear hi); refine hK.out _ _ ⟨(qi BK471.out 0).trans rfl, (qi BK471.out 1).trans rfl, (qi BK471.out 2).trans rfl, (qi BK485.out 0).trans rfl, (qi BK485.out 1).trans rfl, (qi BK485.out 2).trans rfl, (qi BK486.out 0).trans rfl, (qi BK486.out 1).trans rfl, (qi BK486.out 2).trans rfl⟩ (fun hHeld => ?_); clear hK K; refine norm_ (a' := ?_) ?_ ?_; rotate_left
               ·show Act.put _ (some 153) _ = _
                simp only [Act.put, qb, qc, qd, i64_w, i32_w]; rfl
               refine one_ (i := 58) (N := some 156) (bz 576460752303423487 62) rfl rfl (qwa HT_.out (by kernel_rfl)) (by decide) (fun K hK => ?_); refine goes_ Tryd.func9 (by kernel_rfl) rfl #[.agg #[.int .i64 t475, .slice Ao87 t476.length co87, .int .i64 t479], .agg #[.int .i64 t480, .slice Ao90 t481.length co90, .int .i64 t484]] (by rfl) rfl rfl (by (try simp only [qs, qv, qw]); first | done | rfl | (simp only [qu, qt]; rfl)) ?_; with_reducible refine (spec_EqualFootings.calls k2 t475 _ _ t476 t479 t480 _ _ t481 t484 t503 _ ?side1 ?side2 ?side3 ?side4 A75.out).mono ?_
               (case side1 => repeat (first | exact (qfb HO478.out).2.2 | (with_reducible first | apply qka | apply qla | apply qma)))
               (case side2 => exact (qfb HO478.out).2.1)
               (case side3 => repeat (first | exact (qfb HO483.out).2.2 | (with_reducible first | apply qka | apply qla | apply qma)))
               (case side4 => exact (qfb HO483.out).2.1)
               rintro e w105 ⟨rfl, hb⟩; refine ⟨_, rfl, ?_⟩; have n0_ := qa (qza (by (with_reducible repeat first | apply qaa | apply qba | apply qca); exact HO_8.out) hb); have n1_ := qa (qza (by (with_reducible repeat first | apply qaa | apply qba | apply qca); exact HO_9.out) hb); have n2_ := qa (qxa (by (with_reducible repeat first | apply qda | apply qea | apply qfa); exact HO469.out) hb); have n3_ := qa (qya (by (with_reducible repeat first | apply qx | apply qy | apply qz); exact HO474.out) hb); have n4_ := qa (qxa (by (with_reducible repeat first | apply qda | apply qea | apply qfa); exact HO478.out) hb); have n5_ := qa (qxa (by (with_reducible repeat first | apply qda | apply qea | apply qfa); exact HO483.out) hb); have n6_ := qa (qya (by (with_reducible repeat first | apply qx | apply qy | apply qz); exact HO489.out) hb); have n7_ := qa (qya (by (with_reducible repeat first | apply qx | apply qy | apply qz); exact HO497.out) hb); have n8_ := qa (qya (by (with_reducible repeat first | apply qx | apply qy | apply qz); exact HO500.out) hb); have n9_ := qa (qja (g := gb471) (o := .cells #[.int .i64 t466, .slice Ao79 t467.length co79, .int .i64 t470] 31 (0, 0)) (by (with_reducible repeat first | apply ql | apply qn | apply qk); exact BK471.out) hb); have n10_ := qa (qja (g := gb485) (o := .cells #[.int .i64 t475, .slice Ao87 t476.length co87, .int .i64 t479] 31 (0, 0)) (by (with_reducible repeat first | apply ql | apply qn | apply qk); exact BK485.out) hb); have n11_ := qa (qja (g := gb486) (o := .cells #[.int .i64 t480, .slice Ao90 t481.length co90, .int .i64 t484] 31 (0, 0)) (by (with_reducible repeat first | apply ql | apply qn | apply qk); exact BK486.out) hb); have n12_ := qa (qha (by repeat (first | (with_reducible first | exact HB.out | apply qh | apply qe | apply qg | refine qj ?_ GE471.out | refine qj ?_ GE485.out | refine qj ?_ GE486.out) | exact HB.out)) hb); clear HO_8 HO_9 HO469 HO474 HO478 HO483 HO489 HO497 HO500 BK471 BK485 BK486 HB; have HO_8 := n0_; have HO_9 := n1_; have HO469 := n2_; have HO474 := n3_; have HO478 := n4_; have HO483 := n5_; have HO489 := n6_; have HO497 := n7_; have HO500 := n8_; have BK471 := n9_; have BK485 := n10_; have BK486 := n11_; have HB := n12_; clear n0_ n1_ n2_ n3_ n4_ n5_ n6_ n7_ n8_ n9_ n10_ n11_ n12_; (try clear hb); (try clear hb2); (try clear hk); (try clear hi); refine hK.out _ _ ⟨(qi BK471.out 0).trans rfl, (qi BK471.out 1).trans rfl, (qi BK471.out 2).trans rfl, (qi BK485.out 0).trans rfl, (qi BK485.out 1).trans rfl, (qi BK485.out 2).trans rfl, (qi BK486.out 0).trans rfl, (qi BK486.out 1).trans rfl, (qi BK486.out 2).trans rfl⟩ (fun hHeld => ?_); clear hK K; refine norm_ (a' := ?_) ?_ ?_; rotate_left
               ·show Act.put _ (some 156) _ = _
                simp only [Act.put, qb, qc, qd, i64_w, i32_w]; rfl
               refine pure_ (i := 59) (N := some 157) (v := ?_) (a' := ?_) (bz 1152921504606846975 62) rfl rfl (qua HT_.out (by kernel_rfl)) (fun _ _ _ h => h) (Or.inl ⟨by rfl, ?_⟩) ?_ ?_; rotate_left
               ·intro w'
                go_simp; with_reducible rfl
               rotate_left
               ·simp only [Act.put, qb, qc, qd, i64_w, i32_w]
                rfl
               refine pure_ (i := 60) (N := some 158) (v := ?_) (a' := ?_) (bz 2305843009213693951 62) rfl rfl (qua HT_.out (by kernel_rfl)) (fun _ _ _ h => h) (Or.inl ⟨by rfl, ?_⟩) ?_ ?_; rotate_left
               ·intro w'
                go_simp; with_reducible rfl
               rotate_left
               ·simp only [Act.put, qb, qc, qd, i64_w, i32_w]
                rfl
               refine pure_ (i := 61) (N := some 2) (v := ?_) (a' := ?_) (bz 4611686018427387903 62) rfl rfl (qua HT_.out (by kernel_rfl)) (fun _ _ _ h => h) (Or.inl ⟨by rfl, ?_⟩) ?_ ?_; rotate_left
               ·intro w'
                go_simp; with_reducible rfl
               rotate_left
               ·simp only [Act.put, qb, qc, qd, i64_w, i32_w]
                rfl
               refine done_ (done_of HT_.out (by kernel_rfl)) ?_
               try go_wp2
               go_ret; exact ⟨by first | rfl | (simp [*] <;> rfl), by repeat (first | (with_reducible first | exact HB.out | apply qh | apply qe | apply qg | refine qj ?_ GE471.out | refine qj ?_ GE485.out | refine qj ?_ GE486.out) | exact HB.out)⟩
              ·rw [if_neg c73] at H
               have c73b0 : ((t472.length : Int) == 0) = false := zd c73; have c73b1 : ((t472.length : Int) != 0) = true := zf c73
               have c73b2 : ¬ (t472 = []) := fun h_ => c73 (by rw [h_]; rfl)
               by_cases c106 : 0 < (t472.length : Int)
               ·rw [if_pos c106] at H
                have c106b0 : decide (0 < (t472.length : Int)) = true := qq c106; have c106b1 : decide (0 < t472.length) = true := qq (by omega); clear c106
                by_cases c107 : 1 < (t472.length : Int)
                ·rw [if_pos c107] at H
                 have c107b0 : decide (1 < (t472.length : Int)) = true := qq c107; have c107b1 : decide (1 < t472.length) = true := qq (by omega); clear c107
                 by_cases c108 : 2 < (t472.length : Int)
                 ·rw [if_pos c108] at H
                  have c108b0 : decide (2 < (t472.length : Int)) = true := qq c108; have c108b1 : decide (2 < t472.length) = true := qq (by omega); clear c108
                  by_cases c109 : 3 < (t472.length : Int)
                  ·rw [if_pos c109] at H
                   have c109b0 : decide (3 < (t472.length : Int)) = true := qq c109; have c109b1 : decide (3 < t472.length) = true := qq (by omega); clear c109
                   by_cases c110 : (wrap64 ((wrap64 ((wrap64 ((rd t472 0) + (rd t472 1))) + (wrap64 (2 * (rd t472 2))))) + (wrap64 (2 * (rd t472 3))))) = t466
                   ·rw [if_pos c110] at H
                    have c110b0 : ((wrap64 ((wrap64 ((wrap64 ((rd t472 0) + (rd t472 1))) + (wrap64 (2 * (rd t472 2))))) + (wrap64 (2 * (rd t472 3))))) == t466) = true := ze c110; have c110b1 : ((wrap64 ((wrap64 ((wrap64 ((rd t472 0) + (rd t472 1))) + (wrap64 (2 * (rd t472 2))))) + (wrap64 (2 * (rd t472 3))))) != t466) = false := zc c110; clear c110; obtain ⟨t508, A1110, H⟩ := zb H; (try dsimp only at H); have A111 := qa A1110; clear A1110; obtain ⟨t509, A1120, H⟩ := zb H; (try dsimp only at H); have A112 := qa A1120; clear A1120; obtain rfl := qia H; obtain ⟨Ao131, co131, eo131⟩ := Kd.R_slice HO474.out; subst eo131
                    have p504 : 0 ≤ (0 : Int) := (by omega)
                    have q504 : 0 < (t472.length : Int) := qm (by assumption); obtain ⟨ad504, e504, hx504_0⟩ := Kd.at_int (qgb HO474.out).2.2 0 p504 q504; cases e504; have qi504 : (0 < t472.length) = True := qga (by omega); (try rw [show ((0 : Int)).toNat = 0 from rfl] at hx504_0); (try rw [Addr.add_zero'] at hx504_0); replace p504 := qga p504; replace q504 := qga q504
                    have p505 : 0 ≤ (1 : Int) := (by omega)
                    have q505 : 1 < (t472.length : Int) := qm (by assumption); obtain ⟨ad505, e505, hx505_0⟩ := Kd.at_int (qgb HO474.out).2.2 1 p505 q505
                    obtain rfl : ad504 = ad505 := (by injection e505)
                    (try simp only [show (1 : Int).toNat = 1 from rfl, Nat.reduceMul, Nat.reduceEqDiff, Go.Addr.add, ↓reduceIte] at hx505_0); have qi505 : (1 < t472.length) = True := qga (by omega); (try rw [show ((1 : Int)).toNat = 1 from rfl] at hx505_0); replace p505 := qga p505; replace q505 := qga q505
                    have p506 : 0 ≤ (2 : Int) := (by omega)
                    have q506 : 2 < (t472.length : Int) := qm (by assumption); obtain ⟨ad506, e506, hx506_0⟩ := Kd.at_int (qgb HO474.out).2.2 2 p506 q506
                    obtain rfl : ad504 = ad506 := (by injection e506)
                    (try simp only [show (2 : Int).toNat = 2 from rfl, Nat.reduceMul, Nat.reduceEqDiff, Go.Addr.add, ↓reduceIte] at hx506_0); have qi506 : (2 < t472.length) = True := qga (by omega); (try rw [show ((2 : Int)).toNat = 2 from rfl] at hx506_0); replace p506 := qga p506; replace q506 := qga q506
                    have p507 : 0 ≤ (3 : Int) := (by omega)
                    have q507 : 3 < (t472.length : Int) := qm (by assumption); obtain ⟨ad507, e507, hx507_0⟩ := Kd.at_int (qgb HO474.out).2.2 3 p507 q507
                    obtain rfl : ad504 = ad507 := (by injection e507)
                    (try simp only [show (3 : Int).toNat = 3 from rfl, Nat.reduceMul, Nat.reduceEqDiff, Go.Addr.add, ↓reduceIte] at hx507_0); have qi507 : (3 < t472.length) = True := qga (by omega); (try rw [show ((3 : Int)).toNat = 3 from rfl] at hx507_0); replace p507 := qga p507; replace q507 := qga q507; refine start_ (n := 62) (S := fun w' => w'.cell? ⟨gb471, 0, none⟩ = some (.int .i64 t466) ∧ w'.cell? ⟨gb471, 1, none⟩ = some (.slice Ao79 t467.length co79) ∧ w'.cell? ⟨gb471, 2, none⟩ = some (.int .i64 t470) ∧ w'.cell? ⟨gb485, 0, none⟩ = some (.int .i64 t475) ∧ w'.cell? ⟨gb485, 1, none⟩ = some (.slice Ao87 t476.length co87) ∧ w'.cell? ⟨gb485, 2, none⟩ = some (.int .i64 t479) ∧ w'.cell? ⟨gb486, 0, none⟩ = some (.int .i64 t480) ∧ w'.cell? ⟨gb486, 1, none⟩ = some (.slice Ao90 t481.length co90) ∧ w'.cell? ⟨gb486, 2, none⟩ = some (.int .i64 t484) ∧ w'.cell? ad504 = some (.int .i64 (rd t472 0)) ∧ w'.cell? ⟨ad504.block, ad504.off + 1, none⟩ = some (.int .i64 (rd t472 1)) ∧ w'.cell? ⟨ad504.block, ad504.off + 2, none⟩ = some (.int .i64 (rd t472 2)) ∧ w'.cell? ⟨ad504.block, ad504.off + 3, none⟩ = some (.int .i64 (rd t472 3))) (ds := []) #[false, false, false, false, false, false, false, false, false, false, false, false, false, false, false, false, false, false, false, false, false, false, false, false, false, false, false, false, false, false, false, false, false, false, false, false, false, false, false, false, false, false, false, false, false, false, false, false, false, false, false, false, false, false, false, false, false, false, false, false, false, false] (by kernel_rfl) rfl rfl ⟨(qi BK471.out 0).trans rfl, (qi BK471.out 1).trans rfl, (qi BK471.out 2).trans rfl, (qi BK485.out 0).trans rfl, (qi BK485.out 1).trans rfl, (qi BK485.out 2).trans rfl, (qi BK486.out 0).trans rfl, (qi BK486.out 1).trans rfl, (qi BK486.out 2).trans rfl, hx504_0, hx505_0, hx506_0, hx507_0⟩ (fun hHeld => ?_); refine with_tabW laws_FnFeet.tab26 laws_FnFeet.bits26 (fun HT_ HW_ => ?_); generalize w91.drew = w129 at HO_8 HO_9 HO469 HO474 HO478 HO483 BK471 BK485 BK486 HB hx504_0 hx505_0 hx506_0 hx507_0 hHeld ⊢; refine pure_ (i := 0) (N := some 98) (v := ?_) (a' := ?_) (bz 1 62) rfl rfl (qua HT_.out (by kernel_rfl)) (fun _ _ _ h => h) (Or.inl ⟨by rfl, ?_⟩) ?_ ?_; rotate_left
                    ·intro w'
                     go_simp; with_reducible rfl
                    rotate_left
                    ·simp only [Act.put, qb, qc, qd, i64_w, i32_w]
                     rfl
                    refine take_ (i := 1) (N := some 99) (v := ?_) (a' := ?_) (bz 3 62) rfl rfl (qva HT_.out HW_.out (by kernel_rfl)) (fun _ _ _ h => h) (Or.inl ⟨by rfl, ?_⟩) hHeld ?_ ?_; rotate_left
                    ·rintro w' ⟨s0, s1, s2, s3, s4, s5, s6, s7, s8, s9, s10, s11, s12⟩
                     go_simp; with_reducible rfl
                    rotate_left
                    ·simp only [Act.put, qb, qc, qd, i64_w, i32_w]
                     rfl
                    refine one_ (i := 2) (N := some 100) (bz 7 62) rfl rfl (qwa HT_.out (by kernel_rfl)) (by decide) (fun K hK => ?_); refine goes_ Tryd.func19 (by kernel_rfl) rfl #[.agg #[.int .i64 t466, .slice Ao79 t467.length co79, .int .i64 t470]] (by rfl) rfl rfl (by (try simp only [qs, qv, qw]); first | done | rfl | (simp only [qu, qt]; rfl)) ?_; with_reducible refine (spec_FootMarks.calls k2 t466 _ _ t467 t470 t487 _ ?side1 ?side2 A60.out).mono ?_
                    (case side1 => repeat (first | exact (qfb HO469.out).2.2 | (with_reducible first | apply qka | apply qla | apply qma)))
                    (case side2 => exact (qfb HO469.out).2.1)
                    rintro e w130 ⟨v488, rfl, ho0, hb⟩; have HS9_ := (hb.cell (qf _ _ (hHeld.2.2.2.2.2.2.2.2.2.1))).trans (hHeld.2.2.2.2.2.2.2.2.2.1); have HS10_ := (hb.cell (qf _ _ (hHeld.2.2.2.2.2.2.2.2.2.2.1))).trans (hHeld.2.2.2.2.2.2.2.2.2.2.1); have HS11_ := (hb.cell (qf _ _ (hHeld.2.2.2.2.2.2.2.2.2.2.2.1))).trans (hHeld.2.2.2.2.2.2.2.2.2.2.2.1); have HS12_ := (hb.cell (qf _ _ (hHeld.2.2.2.2.2.2.2.2.2.2.2.2))).trans (hHeld.2.2.2.2.2.2.2.2.2.2.2.2); refine ⟨_, rfl, ?_⟩; have n0_ := qa (qjb (by (with_reducible repeat first | apply qaa | apply qba | apply qca); exact HO_8.out) (qyb ho0) hb); have n1_ := qa (qjb (by (with_reducible repeat first | apply qaa | apply qba | apply qca); exact HO_9.out) (qyb ho0) hb); have n2_ := qa (qib (by (with_reducible repeat first | apply qda | apply qea | apply qfa); exact HO469.out) (qyb ho0) hb); have n3_ := qa (qkb (by (with_reducible repeat first | apply qx | apply qy | apply qz); exact HO474.out) (qyb ho0) hb); have n4_ := qa (qib (by (with_reducible repeat first | apply qda | apply qea | apply qfa); exact HO478.out) (qyb ho0) hb); have n5_ := qa (qib (by (with_reducible repeat first | apply qda | apply qea | apply qfa); exact HO483.out) (qyb ho0) hb); have n6_ := qa (qvb (Kd.R_new' ho0 (Kd.R_lt (by (with_reducible repeat first | apply qx | apply qy | apply qz); exact HO474.out))) (qp (by repeat (first | (with_reducible first | exact HB.out | apply qh | apply qe | apply qg | refine qj ?_ GE471.out | refine qj ?_ GE485.out | refine qj ?_ GE486.out) | exact HB.out)))); have n7_ := qa (qja (g := gb471) (o := .cells #[.int .i64 t466, .slice Ao79 t467.length co79, .int .i64 t470] 31 (0, 0)) (by (with_reducible repeat first | apply ql | apply qn | apply qk); exact BK471.out) hb); have n8_ := qa (qja (g := gb485) (o := .cells #[.int .i64 t475, .slice Ao87 t476.length co87, .int .i64 t479] 31 (0, 0)) (by (with_reducible repeat first | apply ql | apply qn | apply qk); exact BK485.out) hb); have n9_ := qa (qja (g := gb486) (o := .cells #[.int .i64 t480, .slice Ao90 t481.length co90, .int .i64 t484] 31 (0, 0)) (by (with_reducible repeat first | apply ql | apply qn | apply qk); exact BK486.out) hb); have n10_ := qa (qha (by repeat (first | (with_reducible first | exact HB.out | apply qh | apply qe | apply qg | refine qj ?_ GE471.out | refine qj ?_ GE485.out | refine qj ?_ GE486.out) | exact HB.out)) hb); clear HO_8 HO_9 HO469 HO474 HO478 HO483 BK471 BK485 BK486 HB; have HO_8 := n0_; have HO_9 := n1_; have HO469 := n2_; have HO474 := n3_; have HO478 := n4_; have HO483 := n5_; have HO489 := n6_; have BK471 := n7_; have BK485 := n8_; have BK486 := n9_; have HB := n10_; clear n0_ n1_ n2_ n3_ n4_ n5_ n6_ n7_ n8_ n9_ n10_; (try clear hb); (try clear hb2); (try clear hk); (try clear hi); (try clear ho0); obtain ⟨Ao132, co132, eo132⟩ := Kd.R_slice HO489.out
                    (first | subst eo132 | (injection eo132 with f1_ f2_ f3_; have f4_ := f1_.symm; have f5_ := f3_.symm; clear f1_ f2_ f3_; subst f4_; subst f5_))
                    refine hK.out _ _ ⟨(qi BK471.out 0).trans rfl, (qi BK471.out 1).trans rfl, (qi BK471.out 2).trans rfl, (qi BK485.out 0).trans rfl, (qi BK485.out 1).trans rfl, (qi BK485.out 2).trans rfl, (qi BK486.out 0).trans rfl, (qi BK486.out 1).trans rfl, (qi BK486.out 2).trans rfl, HS9_, HS10_, HS11_, HS12_⟩ (fun hHeld => ?_); clear hK K; refine norm_ (a' := ?_) ?_ ?_; rotate_left
                    ·show Act.put _ (some 100) _ = _
                     simp only [Act.put, qb, qc, qd, i64_w, i32_w]; rfl
                    refine one_ (i := 3) (N := some 101) (bz 15 62) rfl rfl (qwa HT_.out (by kernel_rfl)) (by decide) (fun K hK => ?_); refine goes_ Tryd.func11 (by kernel_rfl) rfl #[.slice (some ad504) t472.length co131, .slice Ao132 t487.length co132] (by rfl) rfl rfl (by (try simp only [qs, qv, qw]); first | done | rfl | (simp only [qu, qt]; rfl)) ?_; with_reducible refine (laws_sameInts.calls k2 _ _ t472 _ _ t487 true _ ?side1 ?side2 ?side3 ?side4 A61.out).mono ?_
                    (case side1 => repeat (first | exact (qgb HO474.out).2.2 | (with_reducible first | apply qka | apply qla | apply qma)))
                    (case side2 => exact (qgb HO474.out).2.1)
                    (case side3 => repeat (first | exact (qgb HO489.out).2.2 | (with_reducible first | apply qka | apply qla | apply qma)))
                    (case side4 => exact (qgb HO489.out).2.1)
                    rintro e w' ⟨rfl, ⟨nd, rfl⟩⟩; refine ⟨_, rfl, ?_⟩; refine hK.out _ _ ⟨(qi BK471.out 0).trans rfl, (qi BK471.out 1).trans rfl, (qi BK471.out 2).trans rfl, (qi BK485.out 0).trans rfl, (qi BK485.out 1).trans rfl, (qi BK485.out 2).trans rfl, (qi BK486.out 0).trans rfl, (qi BK486.out 1).trans rfl, (qi BK486.out 2).trans rfl, hHeld.2.2.2.2.2.2.2.2.2.1, hHeld.2.2.2.2.2.2.2.2.2.2.1, hHeld.2.2.2.2.2.2.2.2.2.2.2.1, hHeld.2.2.2.2.2.2.2.2.2.2.2.2⟩ (fun hHeld => ?_); clear hK K; refine norm_ (a' := ?_) ?_ ?_; rotate_left
                    ·show Act.put _ (some 101) _ = _
                     simp only [Act.put, qb, qc, qd, i64_w, i32_w]; rfl
                    refine pure_ (i := 4) (N := some 102) (v := ?_) (a' := ?_) (bz 31 62) rfl rfl (qua HT_.out (by kernel_rfl)) (fun _ _ _ h => h) (Or.inl ⟨by rfl, ?_⟩) ?_ ?_; rotate_left
                    ·intro w'
                     go_simp; with_reducible rfl
                    rotate_left
                    ·simp only [Act.put, qb, qc, qd, i64_w, i32_w]
                     rfl
                    refine take_ (i := 5) (N := some 103) (v := ?_) (a' := ?_) (bz 63 62) rfl rfl (qva HT_.out HW_.out (by kernel_rfl)) (fun _ _ _ h => h) (Or.inl ⟨by rfl, ?_⟩) hHeld ?_ ?_; rotate_left
                    ·rintro w' ⟨s0, s1, s2, s3, s4, s5, s6, s7, s8, s9, s10, s11, s12⟩
                     go_simp; with_reducible rfl
                    rotate_left
                    ·simp only [Act.put, qb, qc, qd, i64_w, i32_w]
                     rfl
                    refine take_ (i := 7) (N := some 105) (v := ?_) (a' := ?_) (bz 191 62) rfl rfl (qva HT_.out HW_.out (by kernel_rfl)) (fun _ _ _ h => h) (Or.inl ⟨by rfl, ?_⟩) hHeld ?_ ?_; rotate_left
                    ·rintro w' ⟨s0, s1, s2, s3, s4, s5, s6, s7, s8, s9, s10, s11, s12⟩
                     go_simp; with_reducible rfl
                    rotate_left
                    ·simp only [Act.put, qb, qc, qd, i64_w, i32_w]
                     rfl
                    refine one_ (i := 6) (N := some 104) (bz 255 62) rfl rfl (qwa HT_.out (by kernel_rfl)) (by decide) (fun K hK => ?_); refine goes_ Tryd.func20 (by kernel_rfl) rfl #[.agg #[.int .i64 t466, .slice Ao79 t467.length co79, .int .i64 t470]] (by rfl) rfl rfl (by (try simp only [qs, qv, qw]); first | done | rfl | (simp only [qu, qt]; rfl)) ?_; with_reducible refine (impl_FormatFooting.calls k2 t466 _ _ t467 t470 t491 _ ?side1 ?side2 A63.out).mono ?_
                    (case side1 => repeat (first | exact (qfb HO469.out).2.2 | (with_reducible first | apply qka | apply qla | apply qma)))
                    (case side2 => exact (qfb HO469.out).2.1)
                    rintro e w133 ⟨rfl, hb⟩; have HS9_ := (hb.cell (qf _ _ (hHeld.2.2.2.2.2.2.2.2.2.1))).trans (hHeld.2.2.2.2.2.2.2.2.2.1); have HS10_ := (hb.cell (qf _ _ (hHeld.2.2.2.2.2.2.2.2.2.2.1))).trans (hHeld.2.2.2.2.2.2.2.2.2.2.1); have HS11_ := (hb.cell (qf _ _ (hHeld.2.2.2.2.2.2.2.2.2.2.2.1))).trans (hHeld.2.2.2.2.2.2.2.2.2.2.2.1); have HS12_ := (hb.cell (qf _ _ (hHeld.2.2.2.2.2.2.2.2.2.2.2.2))).trans (hHeld.2.2.2.2.2.2.2.2.2.2.2.2); refine ⟨_, rfl, ?_⟩; have n0_ := qa (qza (by (with_reducible repeat first | apply qaa | apply qba | apply qca); exact HO_8.out) hb); have n1_ := qa (qza (by (with_reducible repeat first | apply qaa | apply qba | apply qca); exact HO_9.out) hb); have n2_ := qa (qxa (by (with_reducible repeat first | apply qda | apply qea | apply qfa); exact HO469.out) hb); have n3_ := qa (qya (by (with_reducible repeat first | apply qx | apply qy | apply qz); exact HO474.out) hb); have n4_ := qa (qxa (by (with_reducible repeat first | apply qda | apply qea | apply qfa); exact HO478.out) hb); have n5_ := qa (qxa (by (with_reducible repeat first | apply qda | apply qea | apply qfa); exact HO483.out) hb); have n6_ := qa (qya (by (with_reducible repeat first | apply qx | apply qy | apply qz); exact HO489.out) hb); have n7_ := qa (qja (g := gb471) (o := .cells #[.int .i64 t466, .slice Ao79 t467.length co79, .int .i64 t470] 31 (0, 0)) (by (with_reducible repeat first | apply ql | apply qn | apply qk); exact BK471.out) hb); have n8_ := qa (qja (g := gb485) (o := .cells #[.int .i64 t475, .slice Ao87 t476.length co87, .int .i64 t479] 31 (0, 0)) (by (with_reducible repeat first | apply ql | apply qn | apply qk); exact BK485.out) hb); have n9_ := qa (qja (g := gb486) (o := .cells #[.int .i64 t480, .slice Ao90 t481.length co90, .int .i64 t484] 31 (0, 0)) (by (with_reducible repeat first | apply ql | apply qn | apply qk); exact BK486.out) hb); have n10_ := qa (qha (by repeat (first | (with_reducible first | exact HB.out | apply qh | apply qe | apply qg | refine qj ?_ GE471.out | refine qj ?_ GE485.out | refine qj ?_ GE486.out) | exact HB.out)) hb); clear HO_8 HO_9 HO469 HO474 HO478 HO483 HO489 BK471 BK485 BK486 HB; have HO_8 := n0_; have HO_9 := n1_; have HO469 := n2_; have HO474 := n3_; have HO478 := n4_; have HO483 := n5_; have HO489 := n6_; have BK471 := n7_; have BK485 := n8_; have BK486 := n9_; have HB := n10_; clear n0_ n1_ n2_ n3_ n4_ n5_ n6_ n7_ n8_ n9_ n10_; (try clear hb); (try clear hb2); (try clear hk); (try clear hi); refine hK.out _ _ ⟨(qi BK471.out 0).trans rfl, (qi BK471.out 1).trans rfl, (qi BK471.out 2).trans rfl, (qi BK485.out 0).trans rfl, (qi BK485.out 1).trans rfl, (qi BK485.out 2).trans rfl, (qi BK486.out 0).trans rfl, (qi BK486.out 1).trans rfl, (qi BK486.out 2).trans rfl, HS9_, HS10_, HS11_, HS12_⟩ (fun hHeld => ?_); clear hK K; refine norm_ (a' := ?_) ?_ ?_; rotate_left
                    ·show Act.put _ (some 104) _ = _
                     simp only [Act.put, qb, qc, qd, i64_w, i32_w]; rfl
                    refine one_ (i := 8) (N := some 106) (bz 511 62) rfl rfl (qwa HT_.out (by kernel_rfl)) (by decide) (fun K hK => ?_); refine goes_ Tryd.func21 (by kernel_rfl) rfl #[.agg #[.int .i64 t466, .slice Ao79 t467.length co79, .int .i64 t470]] (by rfl) rfl rfl (by (try simp only [qs, qv, qw]); first | done | rfl | (simp only [qu, qt]; rfl)) ?_; with_reducible refine (spec_FormatFooting.calls k2 t466 _ _ t467 t470 t492 _ ?side1 ?side2 A64.out).mono ?_
                    (case side1 => repeat (first | exact (qfb HO469.out).2.2 | (with_reducible first | apply qka | apply qla | apply qma)))
                    (case side2 => exact (qfb HO469.out).2.1)
                    rintro e w134 ⟨rfl, hb⟩; have HS9_ := (hb.cell (qf _ _ (hHeld.2.2.2.2.2.2.2.2.2.1))).trans (hHeld.2.2.2.2.2.2.2.2.2.1); have HS10_ := (hb.cell (qf _ _ (hHeld.2.2.2.2.2.2.2.2.2.2.1))).trans (hHeld.2.2.2.2.2.2.2.2.2.2.1); have HS11_ := (hb.cell (qf _ _ (hHeld.2.2.2.2.2.2.2.2.2.2.2.1))).trans (hHeld.2.2.2.2.2.2.2.2.2.2.2.1); have HS12_ := (hb.cell (qf _ _ (hHeld.2.2.2.2.2.2.2.2.2.2.2.2))).trans (hHeld.2.2.2.2.2.2.2.2.2.2.2.2); refine ⟨_, rfl, ?_⟩; have n0_ := qa (qza (by (with_reducible repeat first | apply qaa | apply qba | apply qca); exact HO_8.out) hb); have n1_ := qa (qza (by (with_reducible repeat first | apply qaa | apply qba | apply qca); exact HO_9.out) hb); have n2_ := qa (qxa (by (with_reducible repeat first | apply qda | apply qea | apply qfa); exact HO469.out) hb); have n3_ := qa (qya (by (with_reducible repeat first | apply qx | apply qy | apply qz); exact HO474.out) hb); have n4_ := qa (qxa (by (with_reducible repeat first | apply qda | apply qea | apply qfa); exact HO478.out) hb); have n5_ := qa (qxa (by (with_reducible repeat first | apply qda | apply qea | apply qfa); exact HO483.out) hb); have n6_ := qa (qya (by (with_reducible repeat first | apply qx | apply qy | apply qz); exact HO489.out) hb); have n7_ := qa (qja (g := gb471) (o := .cells #[.int .i64 t466, .slice Ao79 t467.length co79, .int .i64 t470] 31 (0, 0)) (by (with_reducible repeat first | apply ql | apply qn | apply qk); exact BK471.out) hb); have n8_ := qa (qja (g := gb485) (o := .cells #[.int .i64 t475, .slice Ao87 t476.length co87, .int .i64 t479] 31 (0, 0)) (by (with_reducible repeat first | apply ql | apply qn | apply qk); exact BK485.out) hb); have n9_ := qa (qja (g := gb486) (o := .cells #[.int .i64 t480, .slice Ao90 t481.length co90, .int .i64 t484] 31 (0, 0)) (by (with_reducible repeat first | apply ql | apply qn | apply qk); exact BK486.out) hb); have n10_ := qa (qha (by repeat (first | (with_reducible first | exact HB.out | apply qh | apply qe | apply qg | refine qj ?_ GE471.out | refine qj ?_ GE485.out | refine qj ?_ GE486.out) | exact HB.out)) hb); clear HO_8 HO_9 HO469 HO474 HO478 HO483 HO489 BK471 BK485 BK486 HB; have HO_8 := n0_; have HO_9 := n1_; have HO469 := n2_; have HO474 := n3_; have HO478 := n4_; have HO483 := n5_; have HO489 := n6_; have BK471 := n7_; have BK485 := n8_; have BK486 := n9_; have HB := n10_; clear n0_ n1_ n2_ n3_ n4_ n5_ n6_ n7_ n8_ n9_ n10_; (try clear hb); (try clear hb2); (try clear hk); (try clear hi); refine hK.out _ _ ⟨(qi BK471.out 0).trans rfl, (qi BK471.out 1).trans rfl, (qi BK471.out 2).trans rfl, (qi BK485.out 0).trans rfl, (qi BK485.out 1).trans rfl, (qi BK485.out 2).trans rfl, (qi BK486.out 0).trans rfl, (qi BK486.out 1).trans rfl, (qi BK486.out 2).trans rfl, HS9_, HS10_, HS11_, HS12_⟩ (fun hHeld => ?_); clear hK K; refine norm_ (a' := ?_) ?_ ?_; rotate_left
                    ·show Act.put _ (some 106) _ = _
                     simp only [Act.put, qb, qc, qd, i64_w, i32_w]; rfl
                    refine pure_ (i := 9) (N := some 107) (v := ?_) (a' := ?_) (bz 1023 62) rfl rfl (qua HT_.out (by kernel_rfl)) (fun _ _ _ h => h) (Or.inl ⟨by rfl, ?_⟩) ?_ ?_; rotate_left
                    ·intro w'
                     go_simp; with_reducible rfl
                    rotate_left
                    ·simp only [Act.put, qb, qc, qd, i64_w, i32_w]
                     rfl
                    refine pure_ (i := 10) (N := some 108) (v := ?_) (a' := ?_) (bz 2047 62) rfl rfl (qua HT_.out (by kernel_rfl)) (fun _ _ _ h => h) (Or.inl ⟨by rfl, ?_⟩) ?_ ?_; rotate_left
                    ·intro w'
                     go_simp; with_reducible rfl
                    rotate_left
                    ·simp only [Act.put, qb, qc, qd, i64_w, i32_w]
                     rfl
                    refine pure_ (i := 11) (N := some 109) (v := ?_) (a' := ?_) (bz 4095 62) rfl rfl (qua HT_.out (by kernel_rfl)) (fun _ _ _ h => h) (Or.inl ⟨by rfl, ?_⟩) ?_ ?_; rotate_left
                    ·intro w'
                     go_simp; with_reducible rfl
                    rotate_left
                    ·simp only [Act.put, qb, qc, qd, i64_w, i32_w]
                     rfl
                    refine take_ (i := 12) (N := some 110) (v := ?_) (a' := ?_) (bz 8191 62) rfl rfl (qva HT_.out HW_.out (by kernel_rfl)) (fun _ _ _ h => h) (Or.inl ⟨by rfl, ?_⟩) hHeld ?_ ?_; rotate_left
                    ·rintro w' ⟨s0, s1, s2, s3, s4, s5, s6, s7, s8, s9, s10, s11, s12⟩
                     go_simp; with_reducible rfl
                    rotate_left
                    ·simp only [Act.put, qb, qc, qd, i64_w, i32_w]
                     rfl
                    refine take_ (i := 14) (N := some 112) (v := ?_) (a' := ?_) (bz 24575 62) rfl rfl (qva HT_.out HW_.out (by kernel_rfl)) (fun _ _ _ h => h) (Or.inl ⟨by rfl, ?_⟩) hHeld ?_ ?_; rotate_left
                    ·rintro w' ⟨s0, s1, s2, s3, s4, s5, s6, s7, s8, s9, s10, s11, s12⟩
                     go_simp; with_reducible rfl
                    rotate_left
                    ·simp only [Act.put, qb, qc, qd, i64_w, i32_w]
                     rfl
                    refine one_ (i := 13) (N := some 111) (bz 32767 62) rfl rfl (qwa HT_.out (by kernel_rfl)) (by decide) (fun K hK => ?_); refine goes_ Tryd.func10 (by kernel_rfl) rfl #[.agg #[.int .i64 t466, .slice Ao79 t467.length co79, .int .i64 t470]] (by rfl) rfl rfl (by (try simp only [qs, qv, qw]); first | done | rfl | (simp only [qu, qt]; rfl)) ?_; with_reducible refine (impl_IsFooting.calls k2 t466 _ _ t467 t470 t493 _ ?side1 ?side2 A66.out).mono ?_
                    (case side1 => repeat (first | exact (qfb HO469.out).2.2 | (with_reducible first | apply qka | apply qla | apply qma)))
                    (case side2 => exact (qfb HO469.out).2.1)
                    rintro e w135 ⟨rfl, hb⟩; have HS9_ := (hb.cell (qf _ _ (hHeld.2.2.2.2.2.2.2.2.2.1))).trans (hHeld.2.2.2.2.2.2.2.2.2.1); have HS10_ := (hb.cell (qf _ _ (hHeld.2.2.2.2.2.2.2.2.2.2.1))).trans (hHeld.2.2.2.2.2.2.2.2.2.2.1); have HS11_ := (hb.cell (qf _ _ (hHeld.2.2.2.2.2.2.2.2.2.2.2.1))).trans (hHeld.2.2.2.2.2.2.2.2.2.2.2.1); have HS12_ := (hb.cell (qf _ _ (hHeld.2.2.2.2.2.2.2.2.2.2.2.2))).trans (hHeld.2.2.2.2.2.2.2.2.2.2.2.2); refine ⟨_, rfl, ?_⟩; have n0_ := qa (qza (by (with_reducible repeat first | apply qaa | apply qba | apply qca); exact HO_8.out) hb); have n1_ := qa (qza (by (with_reducible repeat first | apply qaa | apply qba | apply qca); exact HO_9.out) hb); have n2_ := qa (qxa (by (with_reducible repeat first | apply qda | apply qea | apply qfa); exact HO469.out) hb); have n3_ := qa (qya (by (with_reducible repeat first | apply qx | apply qy | apply qz); exact HO474.out) hb); have n4_ := qa (qxa (by (with_reducible repeat first | apply qda | apply qea | apply qfa); exact HO478.out) hb); have n5_ := qa (qxa (by (with_reducible repeat first | apply qda | apply qea | apply qfa); exact HO483.out) hb); have n6_ := qa (qya (by (with_reducible repeat first | apply qx | apply qy | apply qz); exact HO489.out) hb); have n7_ := qa (qja (g := gb471) (o := .cells #[.int .i64 t466, .slice Ao79 t467.length co79, .int .i64 t470] 31 (0, 0)) (by (with_reducible repeat first | apply ql | apply qn | apply qk); exact BK471.out) hb); have n8_ := qa (qja (g := gb485) (o := .cells #[.int .i64 t475, .slice Ao87 t476.length co87, .int .i64 t479] 31 (0, 0)) (by (with_reducible repeat first | apply ql | apply qn | apply qk); exact BK485.out) hb); have n9_ := qa (qja (g := gb486) (o := .cells #[.int .i64 t480, .slice Ao90 t481.length co90, .int .i64 t484] 31 (0, 0)) (by (with_reducible repeat first | apply ql | apply qn | apply qk); exact BK486.out) hb); have n10_ := qa (qha (by repeat (first | (with_reducible first | exact HB.out | apply qh | apply qe | apply qg | refine qj ?_ GE471.out | refine qj ?_ GE485.out | refine qj ?_ GE486.out) | exact HB.out)) hb); clear HO_8 HO_9 HO469 HO474 HO478 HO483 HO489 BK471 BK485 BK486 HB; have HO_8 := n0_; have HO_9 := n1_; have HO469 := n2_; have HO474 := n3_; have HO478 := n4_; have HO483 := n5_; have HO489 := n6_; have BK471 := n7_; have BK485 := n8_; have BK486 := n9_; have HB := n10_; clear n0_ n1_ n2_ n3_ n4_ n5_ n6_ n7_ n8_ n9_ n10_; (try clear hb); (try clear hb2); (try clear hk); (try clear hi); refine hK.out _ _ ⟨(qi BK471.out 0).trans rfl, (qi BK471.out 1).trans rfl, (qi BK471.out 2).trans rfl, (qi BK485.out 0).trans rfl, (qi BK485.out 1).trans rfl, (qi BK485.out 2).trans rfl, (qi BK486.out 0).trans rfl, (qi BK486.out 1).trans rfl, (qi BK486.out 2).trans rfl, HS9_, HS10_, HS11_, HS12_⟩ (fun hHeld => ?_); clear hK K; refine norm_ (a' := ?_) ?_ ?_; rotate_left
                    ·show Act.put _ (some 111) _ = _
                     simp only [Act.put, qb, qc, qd, i64_w, i32_w]; rfl
                    refine one_ (i := 15) (N := some 113) (bz 65535 62) rfl rfl (qwa HT_.out (by kernel_rfl)) (by decide) (fun K hK => ?_); refine goes_ Tryd.func22 (by kernel_rfl) rfl #[.agg #[.int .i64 t466, .slice Ao79 t467.length co79, .int .i64 t470]] (by rfl) rfl rfl (by (try simp only [qs, qv, qw]); first | done | rfl | (simp only [qu, qt]; rfl)) ?_; with_reducible refine (spec_IsFooting.calls k2 t466 _ _ t467 t470 t494 _ ?side1 ?side2 A67.out).mono ?_
                    (case side1 => repeat (first | exact (qfb HO469.out).2.2 | (with_reducible first | apply qka | apply qla | apply qma)))
                    (case side2 => exact (qfb HO469.out).2.1)
                    rintro e w136 ⟨rfl, hb⟩; have HS9_ := (hb.cell (qf _ _ (hHeld.2.2.2.2.2.2.2.2.2.1))).trans (hHeld.2.2.2.2.2.2.2.2.2.1); have HS10_ := (hb.cell (qf _ _ (hHeld.2.2.2.2.2.2.2.2.2.2.1))).trans (hHeld.2.2.2.2.2.2.2.2.2.2.1); have HS11_ := (hb.cell (qf _ _ (hHeld.2.2.2.2.2.2.2.2.2.2.2.1))).trans (hHeld.2.2.2.2.2.2.2.2.2.2.2.1); have HS12_ := (hb.cell (qf _ _ (hHeld.2.2.2.2.2.2.2.2.2.2.2.2))).trans (hHeld.2.2.2.2.2.2.2.2.2.2.2.2); refine ⟨_, rfl, ?_⟩; have n0_ := qa (qza (by (with_reducible repeat first | apply qaa | apply qba | apply qca); exact HO_8.out) hb); have n1_ := qa (qza (by (with_reducible repeat first | apply qaa | apply qba | apply qca); exact HO_9.out) hb); have n2_ := qa (qxa (by (with_reducible repeat first | apply qda | apply qea | apply qfa); exact HO469.out) hb); have n3_ := qa (qya (by (with_reducible repeat first | apply qx | apply qy | apply qz); exact HO474.out) hb); have n4_ := qa (qxa (by (with_reducible repeat first | apply qda | apply qea | apply qfa); exact HO478.out) hb); have n5_ := qa (qxa (by (with_reducible repeat first | apply qda | apply qea | apply qfa); exact HO483.out) hb); have n6_ := qa (qya (by (with_reducible repeat first | apply qx | apply qy | apply qz); exact HO489.out) hb); have n7_ := qa (qja (g := gb471) (o := .cells #[.int .i64 t466, .slice Ao79 t467.length co79, .int .i64 t470] 31 (0, 0)) (by (with_reducible repeat first | apply ql | apply qn | apply qk); exact BK471.out) hb); have n8_ := qa (qja (g := gb485) (o := .cells #[.int .i64 t475, .slice Ao87 t476.length co87, .int .i64 t479] 31 (0, 0)) (by (with_reducible repeat first | apply ql | apply qn | apply qk); exact BK485.out) hb); have n9_ := qa (qja (g := gb486) (o := .cells #[.int .i64 t480, .slice Ao90 t481.length co90, .int .i64 t484] 31 (0, 0)) (by (with_reducible repeat first | apply ql | apply qn | apply qk); exact BK486.out) hb); have n10_ := qa (qha (by repeat (first | (with_reducible first | exact HB.out | apply qh | apply qe | apply qg | refine qj ?_ GE471.out | refine qj ?_ GE485.out | refine qj ?_ GE486.out) | exact HB.out)) hb); clear HO_8 HO_9 HO469 HO474 HO478 HO483 HO489 BK471 BK485 BK486 HB; have HO_8 := n0_; have HO_9 := n1_; have HO469 := n2_; have HO474 := n3_; have HO478 := n4_; have HO483 := n5_; have HO489 := n6_; have BK471 := n7_; have BK485 := n8_; have BK486 := n9_; have HB := n10_; clear n0_ n1_ n2_ n3_ n4_ n5_ n6_ n7_ n8_ n9_ n10_; (try clear hb); (try clear hb2); (try clear hk); (try clear hi); refine hK.out _ _ ⟨(qi BK471.out 0).trans rfl, (qi BK471.out 1).trans rfl, (qi BK471.out 2).trans rfl, (qi BK485.out 0).trans rfl, (qi BK485.out 1).trans rfl, (qi BK485.out 2).trans rfl, (qi BK486.out 0).trans rfl, (qi BK486.out 1).trans rfl, (qi BK486.out 2).trans rfl, HS9_, HS10_, HS11_, HS12_⟩ (fun hHeld => ?_); clear hK K; refine norm_ (a' := ?_) ?_ ?_; rotate_left
                    ·show Act.put _ (some 113) _ = _
                     simp only [Act.put, qb, qc, qd, i64_w, i32_w]; rfl
                    refine pure_ (i := 16) (N := some 114) (v := ?_) (a' := ?_) (bz 131071 62) rfl rfl (qua HT_.out (by kernel_rfl)) (fun _ _ _ h => h) (Or.inl ⟨by rfl, ?_⟩) ?_ ?_; rotate_left
                    ·intro w'
                     go_simp; with_reducible rfl
                    rotate_left
                    ·simp only [Act.put, qb, qc, qd, i64_w, i32_w]
                     rfl
                    refine pure_ (i := 17) (N := some 115) (v := ?_) (a' := ?_) (bz 262143 62) rfl rfl (qua HT_.out (by kernel_rfl)) (fun _ _ _ h => h) (Or.inl ⟨by rfl, ?_⟩) ?_ ?_; rotate_left
                    ·intro w'
                     go_simp; with_reducible rfl
                    rotate_left
                    ·simp only [Act.put, qb, qc, qd, i64_w, i32_w]
                     rfl
                    refine pure_ (i := 18) (N := some 116) (v := ?_) (a' := ?_) (bz 524287 62) rfl rfl (qua HT_.out (by kernel_rfl)) (fun _ _ _ h => h) (Or.inl ⟨by rfl, ?_⟩) ?_ ?_; rotate_left
                    ·intro w'
                     go_simp; with_reducible rfl
                    rotate_left
                    ·simp only [Act.put, qb, qc, qd, i64_w, i32_w]
                     rfl
                    refine take_ (i := 19) (N := some 117) (v := ?_) (a' := ?_) (bz 1048575 62) rfl rfl (qva HT_.out HW_.out (by kernel_rfl)) (fun _ _ _ h => h) (Or.inl ⟨by rfl, ?_⟩) hHeld ?_ ?_; rotate_left
                    ·rintro w' ⟨s0, s1, s2, s3, s4, s5, s6, s7, s8, s9, s10, s11, s12⟩
                     go_simp; with_reducible rfl
                    rotate_left
                    ·simp only [Act.put, qb, qc, qd, i64_w, i32_w]
                     rfl
                    refine take_ (i := 21) (N := some 119) (v := ?_) (a' := ?_) (bz 3145727 62) rfl rfl (qva HT_.out HW_.out (by kernel_rfl)) (fun _ _ _ h => h) (Or.inl ⟨by rfl, ?_⟩) hHeld ?_ ?_; rotate_left
                    ·rintro w' ⟨s0, s1, s2, s3, s4, s5, s6, s7, s8, s9, s10, s11, s12⟩
                     go_simp; with_reducible rfl
                    rotate_left
                    ·simp only [Act.put, qb, qc, qd, i64_w, i32_w]
                     rfl
                    refine one_ (i := 20) (N := some 118) (bz 4194303 62) rfl rfl (qwa HT_.out (by kernel_rfl)) (by decide) (fun K hK => ?_); refine goes_ Tryd.func12 (by kernel_rfl) rfl #[.agg #[.int .i64 t466, .slice Ao79 t467.length co79, .int .i64 t470]] (by rfl) rfl rfl (by (try simp only [qs, qv, qw]); first | done | rfl | (simp only [qu, qt]; rfl)) ?_; with_reducible refine (impl_StressesOf.calls k2 t466 _ _ t467 t470 t495 _ ?side1 ?side2 A69.out).mono ?_
                    (case side1 => repeat (first | exact (qfb HO469.out).2.2 | (with_reducible first | apply qka | apply qla | apply qma)))
                    (case side2 => exact (qfb HO469.out).2.1)
                    rintro e w137 ⟨v496, rfl, ho0, hb⟩; have HS9_ := (hb.cell (qf _ _ (hHeld.2.2.2.2.2.2.2.2.2.1))).trans (hHeld.2.2.2.2.2.2.2.2.2.1); have HS10_ := (hb.cell (qf _ _ (hHeld.2.2.2.2.2.2.2.2.2.2.1))).trans (hHeld.2.2.2.2.2.2.2.2.2.2.1); have HS11_ := (hb.cell (qf _ _ (hHeld.2.2.2.2.2.2.2.2.2.2.2.1))).trans (hHeld.2.2.2.2.2.2.2.2.2.2.2.1); have HS12_ := (hb.cell (qf _ _ (hHeld.2.2.2.2.2.2.2.2.2.2.2.2))).trans (hHeld.2.2.2.2.2.2.2.2.2.2.2.2); refine ⟨_, rfl, ?_⟩; have n0_ := qa (qjb (by (with_reducible repeat first | apply qaa | apply qba | apply qca); exact HO_8.out) (qyb ho0) hb); have n1_ := qa (qjb (by (with_reducible repeat first | apply qaa | apply qba | apply qca); exact HO_9.out) (qyb ho0) hb); have n2_ := qa (qib (by (with_reducible repeat first | apply qda | apply qea | apply qfa); exact HO469.out) (qyb ho0) hb); have n3_ := qa (qkb (by (with_reducible repeat first | apply qx | apply qy | apply qz); exact HO474.out) (qyb ho0) hb); have n4_ := qa (qib (by (with_reducible repeat first | apply qda | apply qea | apply qfa); exact HO478.out) (qyb ho0) hb); have n5_ := qa (qib (by (with_reducible repeat first | apply qda | apply qea | apply qfa); exact HO483.out) (qyb ho0) hb); have n6_ := qa (qkb (by (with_reducible repeat first | apply qx | apply qy | apply qz); exact HO489.out) (qyb ho0) hb); have n7_ := qa (qvb (Kd.R_new' (Kd.R_new' ho0 (Kd.R_lt (by (with_reducible repeat first | apply qx | apply qy | apply qz); exact HO474.out))) (Kd.R_lt (by (with_reducible repeat first | apply qx | apply qy | apply qz); exact HO489.out))) (qp (by repeat (first | (with_reducible first | exact HB.out | apply qh | apply qe | apply qg | refine qj ?_ GE471.out | refine qj ?_ GE485.out | refine qj ?_ GE486.out) | exact HB.out)))); have n8_ := qa (qja (g := gb471) (o := .cells #[.int .i64 t466, .slice Ao79 t467.length co79, .int .i64 t470] 31 (0, 0)) (by (with_reducible repeat first | apply ql | apply qn | apply qk); exact BK471.out) hb); have n9_ := qa (qja (g := gb485) (o := .cells #[.int .i64 t475, .slice Ao87 t476.length co87, .int .i64 t479] 31 (0, 0)) (by (with_reducible repeat first | apply ql | apply qn | apply qk); exact BK485.out) hb); have n10_ := qa (qja (g := gb486) (o := .cells #[.int .i64 t480, .slice Ao90 t481.length co90, .int .i64 t484] 31 (0, 0)) (by (with_reducible repeat first | apply ql | apply qn | apply qk); exact BK486.out) hb); have n11_ := qa (qha (by repeat (first | (with_reducible first | exact HB.out | apply qh | apply qe | apply qg | refine qj ?_ GE471.out | refine qj ?_ GE485.out | refine qj ?_ GE486.out) | exact HB.out)) hb); clear HO_8 HO_9 HO469 HO474 HO478 HO483 HO489 BK471 BK485 BK486 HB; have HO_8 := n0_; have HO_9 := n1_; have HO469 := n2_; have HO474 := n3_; have HO478 := n4_; have HO483 := n5_; have HO489 := n6_; have HO497 := n7_; have BK471 := n8_; have BK485 := n9_; have BK486 := n10_; have HB := n11_; clear n0_ n1_ n2_ n3_ n4_ n5_ n6_ n7_ n8_ n9_ n10_ n11_; (try clear hb); (try clear hb2); (try clear hk); (try clear hi); (try clear ho0); refine hK.out _ _ ⟨(qi BK471.out 0).trans rfl, (qi BK471.out 1).trans rfl, (qi BK471.out 2).trans rfl, (qi BK485.out 0).trans rfl, (qi BK485.out 1).trans rfl, (qi BK485.out 2).trans rfl, (qi BK486.out 0).trans rfl, (qi BK486.out 1).trans rfl, (qi BK486.out 2).trans rfl, HS9_, HS10_, HS11_, HS12_⟩ (fun hHeld => ?_); clear hK K; refine norm_ (a' := ?_) ?_ ?_; rotate_left
                    ·show Act.put _ (some 118) _ = _
                     simp only [Act.put, qb, qc, qd, i64_w, i32_w]; rfl
                    refine one_ (i := 22) (N := some 120) (bz 8388607 62) rfl rfl (qwa HT_.out (by kernel_rfl)) (by decide) (fun K hK => ?_); refine goes_ Tryd.func23 (by kernel_rfl) rfl #[.agg #[.int .i64 t466, .slice Ao79 t467.length co79, .int .i64 t470]] (by rfl) rfl rfl (by (try simp only [qs, qv, qw]); first | done | rfl | (simp only [qu, qt]; rfl)) ?_; with_reducible refine (spec_StressesOf.calls k2 t466 _ _ t467 t470 t498 _ ?side1 ?side2 A70.out).mono ?_
                    (case side1 => repeat (first | exact (qfb HO469.out).2.2 | (with_reducible first | apply qka | apply qla | apply qma)))
                    (case side2 => exact (qfb HO469.out).2.1)
                    rintro e w138 ⟨v499, rfl, ho0, hb⟩; have HS9_ := (hb.cell (qf _ _ (hHeld.2.2.2.2.2.2.2.2.2.1))).trans (hHeld.2.2.2.2.2.2.2.2.2.1); have HS10_ := (hb.cell (qf _ _ (hHeld.2.2.2.2.2.2.2.2.2.2.1))).trans (hHeld.2.2.2.2.2.2.2.2.2.2.1); have HS11_ := (hb.cell (qf _ _ (hHeld.2.2.2.2.2.2.2.2.2.2.2.1))).trans (hHeld.2.2.2.2.2.2.2.2.2.2.2.1); have HS12_ := (hb.cell (qf _ _ (hHeld.2.2.2.2.2.2.2.2.2.2.2.2))).trans (hHeld.2.2.2.2.2.2.2.2.2.2.2.2); refine ⟨_, rfl, ?_⟩; have n0_ := qa (qjb (by (with_reducible repeat first | apply qaa | apply qba | apply qca); exact HO_8.out) (qyb ho0) hb); have n1_ := qa (qjb (by (with_reducible repeat first | apply qaa | apply qba | apply qca); exact HO_9.out) (qyb ho0) hb); have n2_ := qa (qib (by (with_reducible repeat first | apply qda | apply qea | apply qfa); exact HO469.out) (qyb ho0) hb); have n3_ := qa (qkb (by (with_reducible repeat first | apply qx | apply qy | apply qz); exact HO474.out) (qyb ho0) hb); have n4_ := qa (qib (by (with_reducible repeat first | apply qda | apply qea | apply qfa); exact HO478.out) (qyb ho0) hb); have n5_ := qa (qib (by (with_reducible repeat first | apply qda | apply qea | apply qfa); exact HO483.out) (qyb ho0) hb); have n6_ := qa (qkb (by (with_reducible repeat first | apply qx | apply qy | apply qz); exact HO489.out) (qyb ho0) hb); have n7_ := qa (qkb (by (with_reducible repeat first | apply qx | apply qy | apply qz); exact HO497.out) (qyb ho0) hb); have n8_ := qa (qvb (Kd.R_new' (Kd.R_new' (Kd.R_new' ho0 (Kd.R_lt (by (with_reducible repeat first | apply qx | apply qy | apply qz); exact HO474.out))) (Kd.R_lt (by (with_reducible repeat first | apply qx | apply qy | apply qz); exact HO489.out))) (Kd.R_lt (by (with_reducible repeat first | apply qx | apply qy | apply qz); exact HO497.out))) (qp (by repeat (first | (with_reducible first | exact HB.out | apply qh | apply qe | apply qg | refine qj ?_ GE471.out | refine qj ?_ GE485.out | refine qj ?_ GE486.out) | exact HB.out)))); have n9_ := qa (qja (g := gb471) (o := .cells #[.int .i64 t466, .slice Ao79 t467.length co79, .int .i64 t470] 31 (0, 0)) (by (with_reducible repeat first | apply ql | apply qn | apply qk); exact BK471.out) hb); have n10_ := qa (qja (g := gb485) (o := .cells #[.int .i64 t475, .slice Ao87 t476.length co87, .int .i64 t479] 31 (0, 0)) (by (with_reducible repeat first | apply ql | apply qn | apply qk); exact BK485.out) hb); have n11_ := qa (qja (g := gb486) (o := .cells #[.int .i64 t480, .slice Ao90 t481.length co90, .int .i64 t484] 31 (0, 0)) (by (with_reducible repeat first | apply ql | apply qn | apply qk); exact BK486.out) hb); have n12_ := qa (qha (by repeat (first | (with_reducible first | exact HB.out | apply qh | apply qe | apply qg | refine qj ?_ GE471.out | refine qj ?_ GE485.out | refine qj ?_ GE486.out) | exact HB.out)) hb); clear HO_8 HO_9 HO469 HO474 HO478 HO483 HO489 HO497 BK471 BK485 BK486 HB; have HO_8 := n0_; have HO_9 := n1_; have HO469 := n2_; have HO474 := n3_; have HO478 := n4_; have HO483 := n5_; have HO489 := n6_; have HO497 := n7_; have HO500 := n8_; have BK471 := n9_; have BK485 := n10_; have BK486 := n11_; have HB := n12_; clear n0_ n1_ n2_ n3_ n4_ n5_ n6_ n7_ n8_ n9_ n10_ n11_ n12_; (try clear hb); (try clear hb2); (try clear hk); (try clear hi); (try clear ho0); obtain ⟨Ao139, co139, eo139⟩ := Kd.R_slice HO497.out
                    (first | subst eo139 | (injection eo139 with f1_ f2_ f3_; have f4_ := f1_.symm; have f5_ := f3_.symm; clear f1_ f2_ f3_; subst f4_; subst f5_))
                    obtain ⟨Ao140, co140, eo140⟩ := Kd.R_slice HO500.out
                    (first | subst eo140 | (injection eo140 with f1_ f2_ f3_; have f4_ := f1_.symm; have f5_ := f3_.symm; clear f1_ f2_ f3_; subst f4_; subst f5_))
                    refine hK.out _ _ ⟨(qi BK471.out 0).trans rfl, (qi BK471.out 1).trans rfl, (qi BK471.out 2).trans rfl, (qi BK485.out 0).trans rfl, (qi BK485.out 1).trans rfl, (qi BK485.out 2).trans rfl, (qi BK486.out 0).trans rfl, (qi BK486.out 1).trans rfl, (qi BK486.out 2).trans rfl, HS9_, HS10_, HS11_, HS12_⟩ (fun hHeld => ?_); clear hK K; refine norm_ (a' := ?_) ?_ ?_; rotate_left
                    ·show Act.put _ (some 120) _ = _
                     simp only [Act.put, qb, qc, qd, i64_w, i32_w]; rfl
                    refine one_ (i := 23) (N := some 121) (bz 16777215 62) rfl rfl (qwa HT_.out (by kernel_rfl)) (by decide) (fun K hK => ?_); refine goes_ Tryd.func11 (by kernel_rfl) rfl #[.slice Ao139 t495.length co139, .slice Ao140 t498.length co140] (by rfl) rfl rfl (by (try simp only [qs, qv, qw]); first | done | rfl | (simp only [qu, qt]; rfl)) ?_; with_reducible refine (laws_sameInts.calls k2 _ _ t495 _ _ t498 true _ ?side1 ?side2 ?side3 ?side4 A71.out).mono ?_
                    (case side1 => repeat (first | exact (qgb HO497.out).2.2 | (with_reducible first | apply qka | apply qla | apply qma)))
                    (case side2 => exact (qgb HO497.out).2.1)
                    (case side3 => repeat (first | exact (qgb HO500.out).2.2 | (with_reducible first | apply qka | apply qla | apply qma)))
                    (case side4 => exact (qgb HO500.out).2.1)
                    rintro e w' ⟨rfl, ⟨nd, rfl⟩⟩; refine ⟨_, rfl, ?_⟩; refine hK.out _ _ ⟨(qi BK471.out 0).trans rfl, (qi BK471.out 1).trans rfl, (qi BK471.out 2).trans rfl, (qi BK485.out 0).trans rfl, (qi BK485.out 1).trans rfl, (qi BK485.out 2).trans rfl, (qi BK486.out 0).trans rfl, (qi BK486.out 1).trans rfl, (qi BK486.out 2).trans rfl, hHeld.2.2.2.2.2.2.2.2.2.1, hHeld.2.2.2.2.2.2.2.2.2.2.1, hHeld.2.2.2.2.2.2.2.2.2.2.2.1, hHeld.2.2.2.2.2.2.2.2.2.2.2.2⟩ (fun hHeld => ?_); clear hK K; refine norm_ (a' := ?_) ?_ ?_; rotate_left
                    ·show Act.put _ (some 121) _ = _
                     simp only [Act.put, qb, qc, qd, i64_w, i32_w]; rfl
                    refine pure_ (i := 24) (N := some 122) (v := ?_) (a' := ?_) (bz 33554431 62) rfl rfl (qua HT_.out (by kernel_rfl)) (fun _ _ _ h => h) (Or.inl ⟨by rfl, ?_⟩) ?_ ?_; rotate_left
                    ·intro w'
                     go_simp; with_reducible rfl
                    rotate_left
                    ·simp only [Act.put, qb, qc, qd, i64_w, i32_w]
                     rfl
                    refine pure_ (i := 25) (N := some 123) (v := ?_) (a' := ?_) (bz 67108863 62) rfl rfl (qua HT_.out (by kernel_rfl)) (fun _ _ _ h => h) (Or.inl ⟨by rfl, ?_⟩) ?_ ?_; rotate_left
                    ·intro w'
                     go_simp; with_reducible rfl
                    rotate_left
                    ·simp only [Act.put, qb, qc, qd, i64_w, i32_w]
                     rfl
                    refine pure_ (i := 26) (N := some 124) (v := ?_) (a' := ?_) (bz 134217727 62) rfl rfl (qua HT_.out (by kernel_rfl)) (fun _ _ _ h => h) (Or.inl ⟨by rfl, ?_⟩) ?_ ?_; rotate_left
                    ·intro w'
                     go_simp; with_reducible rfl
                    rotate_left
                    ·simp only [Act.put, qb, qc, qd, i64_w, i32_w]
                     rfl
                    refine pure_ (i := 27) (N := some 125) (v := ?_) (a' := ?_) (bz 268435455 62) rfl rfl (qua HT_.out (by kernel_rfl)) (fun _ _ _ h => h) (Or.inl ⟨by rfl, ?_⟩) ?_ ?_; rotate_left
                    ·intro w'
                     go_simp; with_reducible rfl
                    rotate_left
                    ·simp only [Act.put, qb, qc, qd, i64_w, i32_w]
                     rfl
                    refine pure_ (i := 28) (N := some 126) (v := ?_) (a' := ?_) (bz 536870911 62) rfl rfl (qua HT_.out (by kernel_rfl)) (fun _ _ _ h => h) (Or.inl ⟨by rfl, ?_⟩) ?_ ?_; rotate_left
                    ·intro w'
                     go_simp; with_reducible rfl
                    rotate_left
                    ·simp only [Act.put, qb, qc, qd, i64_w, i32_w]
                     rfl
                    refine pure_ (i := 29) (N := some 127) (v := ?_) (a' := ?_) (bz 1073741823 62) rfl rfl (qua HT_.out (by kernel_rfl)) (fun _ _ _ h => h) (Or.inl ⟨by rfl, ?_⟩) ?_ ?_; rotate_left
                    ·intro w'
                     go_simp; with_reducible rfl
                    rotate_left
                    ·simp only [Act.put, qb, qc, qd, i64_w, i32_w]
                     rfl
                    refine pure_ (i := 30) (N := some 128) (v := ?_) (a' := ?_) (bz 2147483647 62) rfl rfl (qua HT_.out (by kernel_rfl)) (fun _ _ _ h => h) (Or.inl ⟨by rfl, ?_⟩) ?_ ?_; rotate_left
                    ·intro w'
                     go_simp; with_reducible rfl
                    rotate_left
                    ·simp only [Act.put, qb, qc, qd, i64_w, i32_w]
                     rfl
                    refine pure_ (i := 31) (N := some 129) (v := ?_) (a' := ?_) (bz 4294967295 62) rfl rfl (qua HT_.out (by kernel_rfl)) (fun _ _ _ h => h) (Or.inl ⟨by rfl, ?_⟩) ?_ ?_; rotate_left
                    ·intro w'
                     go_simp; with_reducible rfl
                    rotate_left
                    ·simp only [Act.put, qb, qc, qd, i64_w, i32_w]
                     rfl
                    refine pure_ (i := 33) (N := some 131) (v := ?_) (a' := ?_) (bz 12884901887 62) rfl rfl (qua HT_.out (by kernel_rfl)) (fun _ _ _ h => h) (Or.inl ⟨by rfl, ?_⟩) ?_ ?_; rotate_left
                    ·intro w'
                     go_simp; with_reducible rfl
                    rotate_left
                    ·simp only [Act.put, qb, qc, qd, i64_w, i32_w]
                     rfl
                    refine pure_ (i := 34) (N := some 132) (v := ?_) (a' := ?_) (bz 30064771071 62) rfl rfl (qua HT_.out (by kernel_rfl)) (fun _ _ _ h => h) (Or.inl ⟨by rfl, ?_⟩) ?_ ?_; rotate_left
                    ·intro w'
                     go_simp; with_reducible rfl
                    rotate_left
                    ·simp only [Act.put, qb, qc, qd, i64_w, i32_w]
                     rfl
                    refine pure_ (i := 37) (N := some 135) (v := ?_) (a' := ?_) (bz 167503724543 62) rfl rfl (qua HT_.out (by kernel_rfl)) (fun _ _ _ h => h) (Or.inl ⟨by rfl, ?_⟩) ?_ ?_; rotate_left
                    ·intro w'
                     go_simp; with_reducible rfl
                    rotate_left
                    ·simp only [Act.put, qb, qc, qd, i64_w, i32_w]
                     rfl
                    refine pure_ (i := 38) (N := some 136) (v := ?_) (a' := ?_) (bz 442381631487 62) rfl rfl (qua HT_.out (by kernel_rfl)) (fun _ _ _ h => h) (Or.inl ⟨by rfl, ?_⟩) ?_ ?_; rotate_left
                    ·intro w'
                     go_simp; with_reducible rfl
                    rotate_left
                    ·simp only [Act.put, qb, qc, qd, i64_w, i32_w]
                     rfl
                    refine pure_ (i := 42) (N := some 140) (v := ?_) (a' := ?_) (bz 4840428142591 62) rfl rfl (qua HT_.out (by kernel_rfl)) (fun _ _ _ h => h) (Or.inl ⟨by rfl, ?_⟩) ?_ ?_; rotate_left
                    ·intro w'
                     go_simp; with_reducible rfl
                    rotate_left
                    ·simp only [Act.put, qb, qc, qd, i64_w, i32_w]
                     rfl
                    refine pure_ (i := 43) (N := some 141) (v := ?_) (a' := ?_) (bz 13636521164799 62) rfl rfl (qua HT_.out (by kernel_rfl)) (fun _ _ _ h => h) (Or.inl ⟨by rfl, ?_⟩) ?_ ?_; rotate_left
                    ·intro w'
                     go_simp; with_reducible rfl
                    rotate_left
                    ·simp only [Act.put, qb, qc, qd, i64_w, i32_w]
                     rfl
                    refine pure_ (i := 47) (N := some 145) (v := ?_) (a' := ?_) (bz 154374009520127 62) rfl rfl (qua HT_.out (by kernel_rfl)) (fun _ _ _ h => h) (Or.inl ⟨by rfl, ?_⟩) ?_ ?_; rotate_left
                    ·intro w'
                     go_simp; with_reducible rfl
                    rotate_left
                    ·simp only [Act.put, qb, qc, qd, i64_w, i32_w]
                     rfl
                    refine take_ (i := 32) (N := some 130) (v := ?_) (a' := ?_) (bz 154378304487423 62) rfl rfl (qva HT_.out HW_.out (by kernel_rfl)) (fun _ _ _ h => h) (Or.inl ⟨by rfl, ?_⟩) hHeld ?_ ?_; rotate_left
                    ·rintro w' ⟨s0, s1, s2, s3, s4, s5, s6, s7, s8, s9, s10, s11, s12⟩
                     go_simp; with_reducible rfl
                    rotate_left
                    ·simp only [Act.put, qb, qc, qd, i64_w, i32_w]
                     rfl
                    refine take_ (i := 35) (N := some 133) (v := ?_) (a' := ?_) (bz 154412664225791 62) rfl rfl (qva HT_.out HW_.out (by kernel_rfl)) (fun _ _ _ h => h) (Or.inl ⟨by rfl, ?_⟩) hHeld ?_ ?_; rotate_left
                    ·rintro w' ⟨s0, s1, s2, s3, s4, s5, s6, s7, s8, s9, s10, s11, s12⟩
                     go_simp; with_reducible rfl
                    rotate_left
                    ·simp only [Act.put, qb, qc, qd, i64_w, i32_w]
                     rfl
                    refine pure_ (i := 36) (N := some 134) (v := ?_) (a' := ?_) (bz 154481383702527 62) rfl rfl (qua HT_.out (by kernel_rfl)) (fun _ _ _ h => h) (Or.inl ⟨by rfl, ?_⟩) ?_ ?_; rotate_left
                    ·intro w'
                     go_simp; with_reducible rfl
                    rotate_left
                    ·simp only [Act.put, qb, qc, qd, i64_w, i32_w]
                     rfl
                    refine take_ (i := 39) (N := some 137) (v := ?_) (a' := ?_) (bz 155031139516415 62) rfl rfl (qva HT_.out HW_.out (by kernel_rfl)) (fun _ _ _ h => h) (Or.inl ⟨by rfl, ?_⟩) hHeld ?_ ?_; rotate_left
                    ·rintro w' ⟨s0, s1, s2, s3, s4, s5, s6, s7, s8, s9, s10, s11, s12⟩
                     go_simp; with_reducible rfl
                    rotate_left
                    ·simp only [Act.put, qb, qc, qd, i64_w, i32_w]
                     rfl
                    refine pure_ (i := 40) (N := some 138) (v := ?_) (a' := ?_) (bz 156130651144191 62) rfl rfl (qua HT_.out (by kernel_rfl)) (fun _ _ _ h => h) (Or.inl ⟨by rfl, ?_⟩) ?_ ?_; rotate_left
                    ·intro w'
                     go_simp; with_reducible rfl
                    rotate_left
                    ·simp only [Act.put, qb, qc, qd, i64_w, i32_w]
                     rfl
                    refine pure_ (i := 41) (N := some 139) (v := ?_) (a' := ?_) (bz 158329674399743 62) rfl rfl (qua HT_.out (by kernel_rfl)) (fun _ _ _ h => h) (Or.inl ⟨by rfl, ?_⟩) ?_ ?_; rotate_left
                    ·intro w'
                     go_simp; with_reducible rfl
                    rotate_left
                    ·simp only [Act.put, qb, qc, qd, i64_w, i32_w]
                     rfl
                    refine take_ (i := 44) (N := some 142) (v := ?_) (a' := ?_) (bz 175921860444159 62) rfl rfl (qva HT_.out HW_.out (by kernel_rfl)) (fun _ _ _ h => h) (Or.inl ⟨by rfl, ?_⟩) hHeld ?_ ?_; rotate_left
                    ·rintro w' ⟨s0, s1, s2, s3, s4, s5, s6, s7, s8, s9, s10, s11, s12⟩
                     go_simp; with_reducible rfl
                    rotate_left
                    ·simp only [Act.put, qb, qc, qd, i64_w, i32_w]
                     rfl
                    refine pure_ (i := 45) (N := some 143) (v := ?_) (a' := ?_) (bz 211106232532991 62) rfl rfl (qua HT_.out (by kernel_rfl)) (fun _ _ _ h => h) (Or.inl ⟨by rfl, ?_⟩) ?_ ?_; rotate_left
                    ·intro w'
                     go_simp; with_reducible rfl
                    rotate_left
                    ·simp only [Act.put, qb, qc, qd, i64_w, i32_w]
                     rfl
                    refine pure_ (i := 46) (N := some 144) (v := ?_) (a' := ?_) (bz 281474976710655 62) rfl rfl (qua HT_.out (by kernel_rfl)) (fun _ _ _ h => h) (Or.inl ⟨by rfl, ?_⟩) ?_ ?_; rotate_left
                    ·intro w'
                     go_simp; with_reducible rfl
                    rotate_left
                    ·simp only [Act.put, qb, qc, qd, i64_w, i32_w]
                     rfl
                    refine take_ (i := 48) (N := some 146) (v := ?_) (a' := ?_) (bz 562949953421311 62) rfl rfl (qva HT_.out HW_.out (by kernel_rfl)) (fun _ _ _ h => h) (Or.inl ⟨by rfl, ?_⟩) hHeld ?_ ?_; rotate_left
                    ·rintro w' ⟨s0, s1, s2, s3, s4, s5, s6, s7, s8, s9, s10, s11, s12⟩
                     go_simp; with_reducible rfl
                    rotate_left
                    ·simp only [Act.put, qb, qc, qd, i64_w, i32_w]
                     rfl
                    refine pure_ (i := 49) (N := some 147) (v := ?_) (a' := ?_) (bz 1125899906842623 62) rfl rfl (qua HT_.out (by kernel_rfl)) (fun _ _ _ h => h) (Or.inl ⟨by rfl, ?_⟩) ?_ ?_; rotate_left
                    ·intro w'
                     go_simp; with_reducible rfl
                    rotate_left
                    ·simp only [Act.put, qb, qc, qd, i64_w, i32_w]
                     rfl
                    refine pure_ (i := 50) (N := some 148) (v := ?_) (a' := ?_) (bz 2251799813685247 62) rfl rfl (qua HT_.out (by kernel_rfl)) (fun _ _ _ h => h) (Or.inl ⟨by rfl, ?_⟩) ?_ ?_; rotate_left
                    ·intro w'
                     go_simp; with_reducible rfl
                    rotate_left
                    ·simp only [Act.put, qb, qc, qd, i64_w, i32_w]
                     rfl
                    refine pure_ (i := 51) (N := some 149) (v := ?_) (a' := ?_) (bz 4503599627370495 62) rfl rfl (qua HT_.out (by kernel_rfl)) (fun _ _ _ h => h) (Or.inl ⟨by rfl, ?_⟩) ?_ ?_; rotate_left
                    ·intro w'
                     go_simp; with_reducible rfl
                    rotate_left
                    ·simp only [Act.put, qb, qc, qd, i64_w, i32_w]
                     rfl
                    refine pure_ (i := 52) (N := some 150) (v := ?_) (a' := ?_) (bz 9007199254740991 62) rfl rfl (qua HT_.out (by kernel_rfl)) (fun _ _ _ h => h) (Or.inl ⟨by rfl, ?_⟩) ?_ ?_; rotate_left
                    ·intro w'
                     go_simp; with_reducible rfl
                    rotate_left
                    ·simp only [Act.put, qb, qc, qd, i64_w, i32_w]
                     rfl
                    refine take_ (i := 53) (N := some 151) (v := ?_) (a' := ?_) (bz 18014398509481983 62) rfl rfl (qva HT_.out HW_.out (by kernel_rfl)) (fun _ _ _ h => h) (Or.inl ⟨by rfl, ?_⟩) hHeld ?_ ?_; rotate_left
                    ·rintro w' ⟨s0, s1, s2, s3, s4, s5, s6, s7, s8, s9, s10, s11, s12⟩
                     go_simp; with_reducible rfl
                    rotate_left
                    ·simp only [Act.put, qb, qc, qd, i64_w, i32_w]
                     rfl
                    refine take_ (i := 54) (N := some 152) (v := ?_) (a' := ?_) (bz 36028797018963967 62) rfl rfl (qva HT_.out HW_.out (by kernel_rfl)) (fun _ _ _ h => h) (Or.inl ⟨by rfl, ?_⟩) hHeld ?_ ?_; rotate_left
                    ·rintro w' ⟨s0, s1, s2, s3, s4, s5, s6, s7, s8, s9, s10, s11, s12⟩
                     go_simp; with_reducible rfl
                    rotate_left
                    ·simp only [Act.put, qb, qc, qd, i64_w, i32_w]
                     rfl
                    refine take_ (i := 56) (N := some 154) (v := ?_) (a' := ?_) (bz 108086391056891903 62) rfl rfl (qva HT_.out HW_.out (by kernel_rfl)) (fun _ _ _ h => h) (Or.inl ⟨by rfl, ?_⟩) hHeld ?_ ?_; rotate_left
                    ·rintro w' ⟨s0, s1, s2, s3, s4, s5, s6, s7, s8, s9, s10, s11, s12⟩
                     go_simp; with_reducible rfl
                    rotate_left
                    ·simp only [Act.put, qb, qc, qd, i64_w, i32_w]
                     rfl
                    refine take_ (i := 57) (N := some 155) (v := ?_) (a' := ?_) (bz 252201579132747775 62) rfl rfl (qva HT_.out HW_.out (by kernel_rfl)) (fun _ _ _ h => h) (Or.inl ⟨by rfl, ?_⟩) hHeld ?_ ?_; rotate_left
                    ·rintro w' ⟨s0, s1, s2, s3, s4, s5, s6, s7, s8, s9, s10, s11, s12⟩
                     go_simp; with_reducible rfl
                    rotate_left
                    ·simp only [Act.put, qb, qc, qd, i64_w, i32_w]
                     rfl
                    refine one_ (i := 55) (N := some 153) (bz 288230376151711743 62) rfl rfl (qwa HT_.out (by kernel_rfl)) (by decide) (fun K hK => ?_); refine goes_ Tryd.func24 (by kernel_rfl) rfl #[.agg #[.int .i64 t475, .slice Ao87 t476.length co87, .int .i64 t479], .agg #[.int .i64 t480, .slice Ao90 t481.length co90, .int .i64 t484]] (by rfl) rfl rfl (by (try simp only [qs, qv, qw]); first | done | rfl | (simp only [qu, qt]; rfl)) ?_; with_reducible refine (impl_EqualFootings.calls k2 t475 _ _ t476 t479 t480 _ _ t481 t484 t508 _ ?side1 ?side2 ?side3 ?side4 A111.out).mono ?_
                    (case side1 => repeat (first | exact (qfb HO478.out).2.2 | (with_reducible first | apply qka | apply qla | apply qma)))
                    (case side2 => exact (qfb HO478.out).2.1)
                    (case side3 => repeat (first | exact (qfb HO483.out).2.2 | (with_reducible first | apply qka | apply qla | apply qma)))
                    (case side4 => exact (qfb HO483.out).2.1)
                    rintro e w141 ⟨rfl, hb⟩; have HS9_ := (hb.cell (qf _ _ (hHeld.2.2.2.2.2.2.2.2.2.1))).trans (hHeld.2.2.2.2.2.2.2.2.2.1); have HS10_ := (hb.cell (qf _ _ (hHeld.2.2.2.2.2.2.2.2.2.2.1))).trans (hHeld.2.2.2.2.2.2.2.2.2.2.1); have HS11_ := (hb.cell (qf _ _ (hHeld.2.2.2.2.2.2.2.2.2.2.2.1))).trans (hHeld.2.2.2.2.2.2.2.2.2.2.2.1); have HS12_ := (hb.cell (qf _ _ (hHeld.2.2.2.2.2.2.2.2.2.2.2.2))).trans (hHeld.2.2.2.2.2.2.2.2.2.2.2.2); refine ⟨_, rfl, ?_⟩; have n0_ := qa (qza (by (with_reducible repeat first | apply qaa | apply qba | apply qca); exact HO_8.out) hb); have n1_ := qa (qza (by (with_reducible repeat first | apply qaa | apply qba | apply qca); exact HO_9.out) hb); have n2_ := qa (qxa (by (with_reducible repeat first | apply qda | apply qea | apply qfa); exact HO469.out) hb); have n3_ := qa (qya (by (with_reducible repeat first | apply qx | apply qy | apply qz); exact HO474.out) hb); have n4_ := qa (qxa (by (with_reducible repeat first | apply qda | apply qea | apply qfa); exact HO478.out) hb); have n5_ := qa (qxa (by (with_reducible repeat first | apply qda | apply qea | apply qfa); exact HO483.out) hb); have n6_ := qa (qya (by (with_reducible repeat first | apply qx | apply qy | apply qz); exact HO489.out) hb); have n7_ := qa (qya (by (with_reducible repeat first | apply qx | apply qy | apply qz); exact HO497.out) hb); have n8_ := qa (qya (by (with_reducible repeat first | apply qx | apply qy | apply qz); exact HO500.out) hb); have n9_ := qa (qja (g := gb471) (o := .cells #[.int .i64 t466, .slice Ao79 t467.length co79, .int .i64 t470] 31 (0, 0)) (by (with_reducible repeat first | apply ql | apply qn | apply qk); exact BK471.out) hb); have n10_ := qa (qja (g := gb485) (o := .cells #[.int .i64 t475, .slice Ao87 t476.length co87, .int .i64 t479] 31 (0, 0)) (by (with_reducible repeat first | apply ql | apply qn | apply qk); exact BK485.out) hb); have n11_ := qa (qja (g := gb486) (o := .cells #[.int .i64 t480, .slice Ao90 t481.length co90, .int .i64 t484] 31 (0, 0)) (by (with_reducible repeat first | apply ql | apply qn | apply qk); exact BK486.out) hb); have n12_ := qa (qha (by repeat (first | (with_reducible first | exact HB.out | apply qh | apply qe | apply qg | refine qj ?_ GE471.out | refine qj ?_ GE485.out | refine qj ?_ GE486.out) | exact HB.out)) hb); clear HO_8 HO_9 HO469 HO474 HO478 HO483 HO489 HO497 HO500 BK471 BK485 BK486 HB; have HO_8 := n0_; have HO_9 := n1_; have HO469 := n2_; have HO474 := n3_; have HO478 := n4_; have HO483 := n5_; have HO489 := n6_; have HO497 := n7_; have HO500 := n8_; have BK471 := n9_; have BK485 := n10_; have BK486 := n11_; have HB := n12_; clear n0_ n1_ n2_ n3_ n4_ n5_ n6_ n7_ n8_ n9_ n10_ n11_ n12_; (try clear hb); (try clear hb2); (try clear hk); (try clear hi); refine hK.out _ _ ⟨(qi BK471.out 0).trans rfl, (qi BK471.out 1).trans rfl, (qi BK471.out 2).trans rfl, (qi BK485.out 0).trans rfl, (qi BK485.out 1).trans rfl, (qi BK485.out 2).trans rfl, (qi BK486.out 0).trans rfl, (qi BK486.out 1).trans rfl, (qi BK486.out 2).trans rfl, HS9_, HS10_, HS11_, HS12_⟩ (fun hHeld => ?_); clear hK K; refine norm_ (a' := ?_) ?_ ?_; rotate_left
                    ·show Act.put _ (some 153) _ = _
                     simp only [Act.put, qb, qc, qd, i64_w, i32_w]; rfl
                    refine one_ (i := 58) (N := some 156) (bz 576460752303423487 62) rfl rfl (qwa HT_.out (by kernel_rfl)) (by decide) (fun K hK => ?_); refine goes_ Tryd.func9 (by kernel_rfl) rfl #[.agg #[.int .i64 t475, .slice Ao87 t476.length co87, .int .i64 t479], .agg #[.int .i64 t480, .slice Ao90 t481.length co90, .int .i64 t484]] (by rfl) rfl rfl (by (try simp only [qs, qv, qw]); first | done | rfl | (simp only [qu, qt]; rfl)) ?_; with_reducible refine (spec_EqualFootings.calls k2 t475 _ _ t476 t479 t480 _ _ t481 t484 t509 _ ?side1 ?side2 ?side3 ?side4 A112.out).mono ?_
                    (case side1 => repeat (first | exact (qfb HO478.out).2.2 | (with_reducible first | apply qka | apply qla | apply qma)))
                    (case side2 => exact (qfb HO478.out).2.1)
                    (case side3 => repeat (first | exact (qfb HO483.out).2.2 | (with_reducible first | apply qka | apply qla | apply qma)))
                    (case side4 => exact (qfb HO483.out).2.1)
                    rintro e w142 ⟨rfl, hb⟩; have HS9_ := (hb.cell (qf _ _ (hHeld.2.2.2.2.2.2.2.2.2.1))).trans (hHeld.2.2.2.2.2.2.2.2.2.1); have HS10_ := (hb.cell (qf _ _ (hHeld.2.2.2.2.2.2.2.2.2.2.1))).trans (hHeld.2.2.2.2.2.2.2.2.2.2.1); have HS11_ := (hb.cell (qf _ _ (hHeld.2.2.2.2.2.2.2.2.2.2.2.1))).trans (hHeld.2.2.2.2.2.2.2.2.2.2.2.1); have HS12_ := (hb.cell (qf _ _ (hHeld.2.2.2.2.2.2.2.2.2.2.2.2))).trans (hHeld.2.2.2.2.2.2.2.2.2.2.2.2); refine ⟨_, rfl, ?_⟩; have n0_ := qa (qza (by (with_reducible repeat first | apply qaa | apply qba | apply qca); exact HO_8.out) hb); have n1_ := qa (qza (by (with_reducible repeat first | apply qaa | apply qba | apply qca); exact HO_9.out) hb); have n2_ := qa (qxa (by (with_reducible repeat first | apply qda | apply qea | apply qfa); exact HO469.out) hb); have n3_ := qa (qya (by (with_reducible repeat first | apply qx | apply qy | apply qz); exact HO474.out) hb); have n4_ := qa (qxa (by (with_reducible repeat first | apply qda | apply qea | apply qfa); exact HO478.out) hb); have n5_ := qa (qxa (by (with_reducible repeat first | apply qda | apply qea | apply qfa); exact HO483.out) hb); have n6_ := qa (qya (by (with_reducible repeat first | apply qx | apply qy | apply qz); exact HO489.out) hb); have n7_ := qa (qya (by (with_reducible repeat first | apply qx | apply qy | apply qz); exact HO497.out) hb); have n8_ := qa (qya (by (with_reducible repeat first | apply qx | apply qy | apply qz); exact HO500.out) hb); have n9_ := qa (qja (g := gb471) (o := .cells #[.int .i64 t466, .slice Ao79 t467.length co79, .int .i64 t470] 31 (0, 0)) (by (with_reducible repeat first | apply ql | apply qn | apply qk); exact BK471.out) hb); have n10_ := qa (qja (g := gb485) (o := .cells #[.int .i64 t475, .slice Ao87 t476.length co87, .int .i64 t479] 31 (0, 0)) (by (with_reducible repeat first | apply ql | apply qn | apply qk); exact BK485.out) hb); have n11_ := qa (qja (g := gb486) (o := .cells #[.int .i64 t480, .slice Ao90 t481.length co90, .int .i64 t484] 31 (0, 0)) (by (with_reducible repeat first | apply ql | apply qn | apply qk); exact BK486.out) hb); have n12_ := qa (qha (by repeat (first | (with_reducible first | exact HB.out | apply qh | apply qe | apply qg | refine qj ?_ GE471.out | refine qj ?_ GE485.out | refine qj ?_ GE486.out) | exact HB.out)) hb); clear HO_8 HO_9 HO469 HO474 HO478 HO483 HO489 HO497 HO500 BK471 BK485 BK486 HB; have HO_8 := n0_; have HO_9 := n1_; have HO469 := n2_; have HO474 := n3_; have HO478 := n4_; have HO483 := n5_; have HO489 := n6_; have HO497 := n7_; have HO500 := n8_; have BK471 := n9_; have BK485 := n10_; have BK486 := n11_; have HB := n12_; clear n0_ n1_ n2_ n3_ n4_ n5_ n6_ n7_ n8_ n9_ n10_ n11_ n12_; (try clear hb); (try clear hb2); (try clear hk); (try clear hi); refine hK.out _ _ ⟨(qi BK471.out 0).trans rfl, (qi BK471.out 1).trans rfl, (qi BK471.out 2).trans rfl, (qi BK485.out 0).trans rfl, (qi BK485.out 1).trans rfl, (qi BK485.out 2).trans rfl, (qi BK486.out 0).trans rfl, (qi BK486.out 1).trans rfl, (qi BK486.out 2).trans rfl, HS9_, HS10_, HS11_, HS12_⟩ (fun hHeld => ?_); clear hK K; refine norm_ (a' := ?_) ?_ ?_; rotate_left
                    ·show Act.put _ (some 156) _ = _
                     simp only [Act.put, qb, qc, qd, i64_w, i32_w]; rfl
                    refine pure_ (i := 59) (N := some 157) (v := ?_) (a' := ?_) (bz 1152921504606846975 62) rfl rfl (qua HT_.out (by kernel_rfl)) (fun _ _ _ h => h) (Or.inl ⟨by rfl, ?_⟩) ?_ ?_; rotate_left
                    ·intro w'
                     go_simp; with_reducible rfl
                    rotate_left
                    ·simp only [Act.put, qb, qc, qd, i64_w, i32_w]
                     rfl
                    refine pure_ (i := 60) (N := some 158) (v := ?_) (a' := ?_) (bz 2305843009213693951 62) rfl rfl (qua HT_.out (by kernel_rfl)) (fun _ _ _ h => h) (Or.inl ⟨by rfl, ?_⟩) ?_ ?_; rotate_left
                    ·intro w'
                     go_simp; with_reducible rfl
                    rotate_left
                    ·simp only [Act.put, qb, qc, qd, i64_w, i32_w]
                     rfl
                    refine pure_ (i := 61) (N := some 2) (v := ?_) (a' := ?_) (bz 4611686018427387903 62) rfl rfl (qua HT_.out (by kernel_rfl)) (fun _ _ _ h => h) (Or.inl ⟨by rfl, ?_⟩) ?_ ?_; rotate_left
                    ·intro w'
                     go_simp; with_reducible rfl
                    rotate_left
                    ·simp only [Act.put, qb, qc, qd, i64_w, i32_w]
                     rfl
                    refine done_ (done_of HT_.out (by kernel_rfl)) ?_
                    try go_wp2
                    go_ret; exact ⟨by first | rfl | (simp [*] <;> rfl), by repeat (first | (with_reducible first | exact HB.out | apply qh | apply qe | apply qg | refine qj ?_ GE471.out | refine qj ?_ GE485.out | refine qj ?_ GE486.out) | exact HB.out)⟩
                   ·rw [if_neg c110] at H
                    exact absurd (qia H) (by rw [HRT.out]; decide)
                  ·rw [if_neg c109] at H
                   exact absurd H (by simp)
                 ·rw [if_neg c108] at H
                  exact absurd H (by simp)
                ·rw [if_neg c107] at H
                 exact absurd H (by simp)
               ·rw [if_neg c106] at H
                exact absurd H (by simp)
             ·replace c72 := Bool.eq_false_iff.mpr c72
              subst c72; rw [if_neg (show ¬ (false = true) by decide)] at H; have H1 := H; exact absurd (qia H1) (by rw [HRT.out]; decide)
            ·rw [if_neg c68] at H
             exact absurd (qia H) (by rw [HRT.out]; decide)
           ·rw [if_neg c65] at H
            exact absurd (qia H) (by rw [HRT.out]; decide)
          ·replace c62 := Bool.eq_false_iff.mpr c62
           subst c62; rw [if_neg (show ¬ (false = true) by decide)] at H; have H1 := H; exact absurd (qia H1) (by rw [HRT.out]; decide)
      ·rw [if_neg c42] at H
       exact absurd (qia H) (by rw [HRT.out]; decide)
  ·rw [if_neg c7] at H
   exact absurd (qia H) (by rw [HRT.out]; decide)
def laws_FnFeet.Pure : Prop := ∀ (l0 : List Int), l0.length ≤ maxLen → l0.length * 1 ≤ 140737488351232 → (∀ x ∈ l0, (Lit.int .u8 x).wf = true) → ∃ k, laws_FnFeet.f k l0 = some true
theorem laws_FnFeet.walk (P : laws_FnFeet.Pure) (a0 : Option Addr) (len0 cap0 : Nat) (z0 : List Int) (w : World) (w0 : (a0 = none ∧ len0 = 0 ∧ cap0 = 0 ∧ z0 = []) ∨ ∃ x, a0 = some x ∧ len0 ≤ cap0 ∧ cap0 ≤ maxLen ∧ z0.length = cap0 ∧ (∀ i, i < z0.length → w.cell? (x.add i) = some (.int .u8 (z0.getD i 0))) ∧ ∀ n ∈ z0, (Lit.int .u8 n).wf = true) (y0 : len0 * 1 ≤ 140737488351232) :
  Calls Tryd.prog 3 #[.slice a0 len0 cap0] w fun e w' => e = .returned (.bool true) ∧ Below w.heap.size w w' := by
 obtain ⟨l0, rfl, hr0, hm0, hw0, hc0⟩ := ReadsInt.ofRowC w0; obtain ⟨k, h⟩ := P l0 hm0 y0 hw0; refine (laws_FnFeet.calls k _ _ l0 true rfl w (Kd.C_of_reads (d := (0 : Int)) (h1 := fun _ => rfl) hr0) hc0 h).mono ?_; rintro e w' ⟨rfl, hd⟩; exact ⟨rfl, hd⟩
end Go.Proofs.YtkjpbhncgjhfeaaDoor.PFnFeet
