import Derived.Test.YtkjpbhncgjhfeaaDoorPFnFeetx0
import Derived.Test.YtkjpbhncgjhfeaaDoorPFnFeetx1
import Derived.Test.YtkjpbhncgjhfeaaDoorPFnFeetx2
import Derived.Test.YtkjpbhncgjhfeaaDoorPFnFeetx3
import Derived.Test.YtkjpbhncgjhfeaaDoorPFnFeetx13
namespace Go.Proofs.YtkjpbhncgjhfeaaDoor.PFnFeet
open Go.RowKit Go.Proofs.YtkjpbhncgjhfeaaDoorW.PrintWords Go.Proofs.YtkjpbhncgjhfeaaDoorW.PrintLast Go.Proofs.YtkjpbhncgjhfeaaDoorW.PrintMore
attribute [local go_sem] max2_int min2_int max_two min_two max_three min_three max_four min_four
set_option linter.unusedVariables false
set_option linter.unusedSimpArgs false
set_option maxHeartbeats 8000000
set_option maxRecDepth 100000
attribute [local go_sem high] eqA59
mutual
def spec_FormatFooting.l0 : Nat → ByteArray → List Int → Int → Int → List (S59) → Int → Option (ByteArray)
 | 0, _, _, _, _, _, _ => none
 | k + 1, x3, x4, x5, x422000, x422001, x422002 => if x5 < x422000 then (spec_FormatFooting.l1 k x3 x4 x5 0 x422000 x422001 x422002) else (some x3)
def spec_FormatFooting.l1 : Nat → ByteArray → List Int → Int → Int → Int → List (S59) → Int → Option (ByteArray)
 | 0, _, _, _, _, _, _, _ => none
 | k + 1, x3, x4, x5, x6, x422000, x422001, x422002 => if x6 < (x422001.length : Int) then (if 0 ≤ x6 then (if ((rd_T59 x422001 x6).f0) = x5 then (if x3.size + 1 ≤ 9223372036854775807 then (spec_FormatFooting.l1 k (x3 ++ (⟨#[40]⟩ : ByteArray)) x4 x5 (wrap64 (x6 + 1)) x422000 x422001 x422002) else (none)) else (spec_FormatFooting.l1 k x3 x4 x5 (wrap64 (x6 + 1)) x422000 x422001 x422002)) else (none)) else (if 0 ≤ x5 then (if x5 < (x4.length : Int) then ((spec_FormatInt.f k (rd x4 x5)).bind fun t428 => (if x3.size + t428.size ≤ 9223372036854775807 then (spec_FormatFooting.l2 k (x3 ++ t428) x4 x5 0 x422000 x422001 x422002) else (none))) else (none)) else (none))
def spec_FormatFooting.l2 : Nat → ByteArray → List Int → Int → Int → Int → List (S59) → Int → Option (ByteArray)
 | 0, _, _, _, _, _, _, _ => none
 | k + 1, x3, x4, x5, x7, x422000, x422001, x422002 => if x7 < (x422001.length : Int) then (if 0 ≤ x7 then (if (wrap64 (((rd_T59 x422001 x7).f0) + ((rd_T59 x422001 x7).f1))) = (wrap64 (x5 + 1)) then (if x3.size + 1 ≤ 9223372036854775807 then (spec_FormatFooting.l2 k (x3 ++ (⟨#[41]⟩ : ByteArray)) x4 x5 (wrap64 (x7 + 1)) x422000 x422001 x422002) else (none)) else (spec_FormatFooting.l2 k x3 x4 x5 (wrap64 (x7 + 1)) x422000 x422001 x422002)) else (none)) else (spec_FormatFooting.l0 k x3 x4 (wrap64 (x5 + 1)) x422000 x422001 x422002)
end
def spec_FormatFooting.f (k : Nat) (a0_0 : Int) (l0_1 : List (S59)) (a0_2 : Int) : Option (ByteArray) := (spec_IsFooting.f k a0_0 l0_1 a0_2).bind fun t422 => (if t422 = true then ((spec_StressesOf.f k a0_0 l0_1 a0_2).bind fun t423 => (spec_FormatFooting.l0 k (⟨#[]⟩ : ByteArray) t423 0 a0_0 l0_1 a0_2)) else (some (⟨#[]⟩ : ByteArray)))
theorem spec_FormatFooting.mono_l : ∀ k, (∀ y0 y1 y2 y3 y4 y5, LeO (spec_FormatFooting.l0 k y0 y1 y2 y3 y4 y5) (spec_FormatFooting.l0 (k + 1) y0 y1 y2 y3 y4 y5)) ∧ (∀ y0 y1 y2 y3 y4 y5 y6, LeO (spec_FormatFooting.l1 k y0 y1 y2 y3 y4 y5 y6) (spec_FormatFooting.l1 (k + 1) y0 y1 y2 y3 y4 y5 y6)) ∧ (∀ y0 y1 y2 y3 y4 y5 y6, LeO (spec_FormatFooting.l2 k y0 y1 y2 y3 y4 y5 y6) (spec_FormatFooting.l2 (k + 1) y0 y1 y2 y3 y4 y5 y6))
 | 0 => ⟨fun _ _ _ _ _ _ r h => by simp [spec_FormatFooting.l0] at h, fun _ _ _ _ _ _ _ r h => by simp [spec_FormatFooting.l1] at h, fun _ _ _ _ _ _ _ r h => by simp [spec_FormatFooting.l2] at h⟩
 | k + 1 => by
  obtain ⟨ih0, ih1, ih2⟩ := spec_FormatFooting.mono_l k; refine ⟨?_, ?_, ?_⟩
  ·intro y0 y1 y2 y3 y4 y5
   unfold spec_FormatFooting.l0
   repeat' first
   | (with_reducible exact ih0 _ _ _ _ _ _)
   | (with_reducible exact ih1 _ _ _ _ _ _ _)
   | (with_reducible exact ih2 _ _ _ _ _ _ _)
   | (with_reducible exact spec_FormatInt.mono _ _)
   | (with_reducible exact spec_IsFooting.mono _ _ _ _)
   | (with_reducible exact spec_StressesOf.mono _ _ _ _)
   | (with_reducible exact LeO.refl _)
   | (with_reducible exact LeO.none _)
   | (with_reducible refine LeO.ite ?_ ?_)
   | (with_reducible refine LeO.bind ?_ (fun _ => ?_))
   | exact ih0 _ _ _ _ _ _
   | exact ih1 _ _ _ _ _ _ _
   | exact ih2 _ _ _ _ _ _ _
   | exact spec_FormatInt.mono _ _
   | exact spec_IsFooting.mono _ _ _ _
   | exact spec_StressesOf.mono _ _ _ _
   | exact LeO.none _
   | refine LeO.ite ?_ ?_
   | refine LeO.bind ?_ (fun _ => ?_)
  ·intro y0 y1 y2 y3 y4 y5 y6
   unfold spec_FormatFooting.l1
   repeat' first
   | (with_reducible exact ih0 _ _ _ _ _ _)
   | (with_reducible exact ih1 _ _ _ _ _ _ _)
   | (with_reducible exact ih2 _ _ _ _ _ _ _)
   | (with_reducible exact spec_FormatInt.mono _ _)
   | (with_reducible exact spec_IsFooting.mono _ _ _ _)
   | (with_reducible exact spec_StressesOf.mono _ _ _ _)
   | (with_reducible exact LeO.refl _)
   | (with_reducible exact LeO.none _)
   | (with_reducible refine LeO.ite ?_ ?_)
   | (with_reducible refine LeO.bind ?_ (fun _ => ?_))
   | exact ih0 _ _ _ _ _ _
   | exact ih1 _ _ _ _ _ _ _
   | exact ih2 _ _ _ _ _ _ _
   | exact spec_FormatInt.mono _ _
   | exact spec_IsFooting.mono _ _ _ _
   | exact spec_StressesOf.mono _ _ _ _
   | exact LeO.none _
   | refine LeO.ite ?_ ?_
   | refine LeO.bind ?_ (fun _ => ?_)
  ·intro y0 y1 y2 y3 y4 y5 y6
   unfold spec_FormatFooting.l2
   repeat' first
   | (with_reducible exact ih0 _ _ _ _ _ _)
   | (with_reducible exact ih1 _ _ _ _ _ _ _)
   | (with_reducible exact ih2 _ _ _ _ _ _ _)
   | (with_reducible exact spec_FormatInt.mono _ _)
   | (with_reducible exact spec_IsFooting.mono _ _ _ _)
   | (with_reducible exact spec_StressesOf.mono _ _ _ _)
   | (with_reducible exact LeO.refl _)
   | (with_reducible exact LeO.none _)
   | (with_reducible refine LeO.ite ?_ ?_)
   | (with_reducible refine LeO.bind ?_ (fun _ => ?_))
   | exact ih0 _ _ _ _ _ _
   | exact ih1 _ _ _ _ _ _ _
   | exact ih2 _ _ _ _ _ _ _
   | exact spec_FormatInt.mono _ _
   | exact spec_IsFooting.mono _ _ _ _
   | exact spec_StressesOf.mono _ _ _ _
   | exact LeO.none _
   | refine LeO.ite ?_ ?_
   | refine LeO.bind ?_ (fun _ => ?_)
theorem spec_FormatFooting.mono : ∀ a0 a1 a2 k, LeO (spec_FormatFooting.f k a0 a1 a2) (spec_FormatFooting.f (k + 1) a0 a1 a2) := by
 intro a0 a1 a2 k; obtain ⟨ih0, ih1, ih2⟩ := spec_FormatFooting.mono_l k; unfold spec_FormatFooting.f
 repeat' first
   | (with_reducible exact ih0 _ _ _ _ _ _)
   | (with_reducible exact ih1 _ _ _ _ _ _ _)
   | (with_reducible exact ih2 _ _ _ _ _ _ _)
   | (with_reducible exact spec_FormatInt.mono _ _)
   | (with_reducible exact spec_IsFooting.mono _ _ _ _)
   | (with_reducible exact spec_StressesOf.mono _ _ _ _)
   | (with_reducible exact LeO.refl _)
   | (with_reducible exact LeO.none _)
   | (with_reducible refine LeO.ite ?_ ?_)
   | (with_reducible refine LeO.bind ?_ (fun _ => ?_))
   | exact ih0 _ _ _ _ _ _
   | exact ih1 _ _ _ _ _ _ _
   | exact ih2 _ _ _ _ _ _ _
   | exact spec_FormatInt.mono _ _
   | exact spec_IsFooting.mono _ _ _ _
   | exact spec_StressesOf.mono _ _ _ _
   | exact LeO.none _
   | refine LeO.ite ?_ ?_
   | refine LeO.bind ?_ (fun _ => ?_)
theorem spec_FormatFooting.calls (k : Nat) (a0_0 : Int) (A0_1 : Option Addr) (c0_1 : Nat) (l0_1 : List (S59)) (a0_2 : Int) (r : ByteArray) (w : World) (hr0_1 : Kd.C k59 w A0_1 l0_1.length l0_1) (hc0_1 : l0_1.length ≤ c0_1) (h : spec_FormatFooting.f k a0_0 l0_1 a0_2 = some r) :
  Calls Tryd.prog 21 #[.agg #[.int .i64 a0_0, .slice A0_1 l0_1.length c0_1, .int .i64 a0_2]] w fun e w' => e = .returned (.string r) ∧ Below w.heap.size w w' := by
 have hu31 := Tryd.underlying31; have HR0_1 := qa hr0_1; have HC0_1 := qa hc0_1; clear hr0_1 hc0_1; have HB := qa (qsb w.heap.size w); have H := h; unfold spec_FormatFooting.f at H; clear h; obtain ⟨t422, A20, H⟩ := zb H; (try dsimp only at H); have A2 := qa A20; clear A20
 by_cases c3 : t422 = true
 ·subst c3
  rw [if_pos rfl] at H; have H1 := H; clear H; have H := H1; clear H1; obtain ⟨t423, A40, H⟩ := zb H; (try dsimp only at H); have A4 := qa A40; clear A40; have H' := qa H; clear H; go_enter Tryd.func21, Tryd.ntmps21
  go_wp2_with (first | ((with_reducible refine gate_dst (N := 1) rfl ?_); refine box_event ?hg (N := 1) ?hd (cs := #[.int .i64 a0_0, .slice A0_1 l0_1.length c0_1, .int .i64 a0_2]) (t := 31) ?hr ?_; (case hd => rfl); (case hg => rfl); (case hr => first | (go_simp; done) | (go_simp; rfl)); intro gb421 hg w5 hbox hb; have n0_ := qa (qha (by repeat (first | (with_reducible first | exact HB.out | apply qh | apply qe | apply qg) | exact HB.out)) hb); have n1_ := qa (hbox); have n2_ := qa ((by rw [hg]; exact (qp (by repeat (first | (with_reducible first | exact HB.out | apply qh | apply qe | apply qg) | exact HB.out))) : w.heap.size ≤ gb421)); have n3_ := qa ((by rw [hg]; exact (qp (by repeat (first | (with_reducible first | exact HB.out | apply qh | apply qe | apply qg) | exact HB.out))) : w.heap.size ≤ gb421)); clear HB; have HB := n0_; have BK421 := n1_; have GW421 := n2_; have GE421 := n3_; clear n0_ n1_ n2_ n3_; clear hb hbox hg; have hcz6_0 : w5.cell? ⟨gb421, 0, none⟩ = some (.int .i64 a0_0) := (qi BK421.out 0).trans rfl; have hcz6_1 : w5.cell? ⟨gb421, 1, none⟩ = some (.slice A0_1 l0_1.length c0_1) := (qi BK421.out 1).trans rfl; have hcz6_2 : w5.cell? ⟨gb421, 2, none⟩ = some (.int .i64 a0_2) := (qi BK421.out 2).trans rfl; have hfz6_0 := qo BK421.out 0; have hfz6_1 := qo BK421.out 1; have hfz6_2 := qo BK421.out 2) | (go_at_call 22; (with_reducible refine (spec_IsFooting.calls k a0_0 _ _ l0_1 a0_2 true _ ?side1 ?side2 A2.out).mono ?_); (case side1 => repeat (first | exact (qab HR0_1.out HB.out) | (with_reducible first | apply qka | apply qla | apply qma))); (case side2 => exact HC0_1.out); rintro e w7 ⟨rfl, hb⟩; have n0_ := qa (qja (g := gb421) (o := .cells #[.int .i64 a0_0, .slice A0_1 l0_1.length c0_1, .int .i64 a0_2] 31 (0, 0)) (by (with_reducible repeat first | apply ql | apply qn | apply qk); exact BK421.out) hb); have n1_ := qa (qha (by repeat (first | (with_reducible first | exact HB.out | apply qh | apply qe | apply qg | refine qj ?_ GE421.out) | exact HB.out)) hb); clear BK421; clear HB; have BK421 := n0_; have HB := n1_; clear n0_ n1_; (try clear hb); (try clear hb2); (try clear hk); (try clear hi); have hcz8_0 : w7.cell? ⟨gb421, 0, none⟩ = some (.int .i64 a0_0) := (qi BK421.out 0).trans rfl; have hcz8_1 : w7.cell? ⟨gb421, 1, none⟩ = some (.slice A0_1 l0_1.length c0_1) := (qi BK421.out 1).trans rfl; have hcz8_2 : w7.cell? ⟨gb421, 2, none⟩ = some (.int .i64 a0_2) := (qi BK421.out 2).trans rfl; have hfz8_0 := qo BK421.out 0; have hfz8_1 := qo BK421.out 1; have hfz8_2 := qo BK421.out 2) | (go_at_call 23; (with_reducible refine (spec_StressesOf.calls k a0_0 _ _ l0_1 a0_2 t423 _ ?side1 ?side2 A4.out).mono ?_); (case side1 => repeat (first | exact (qab HR0_1.out HB.out) | (with_reducible first | apply qka | apply qla | apply qma))); (case side2 => exact HC0_1.out); rintro e w9 ⟨v424, rfl, ho0, hb⟩; have n0_ := qa (qvb ho0 (qp (by repeat (first | (with_reducible first | exact HB.out | apply qh | apply qe | apply qg | refine qj ?_ GE421.out) | exact HB.out)))); have n1_ := qa (qja (g := gb421) (o := .cells #[.int .i64 a0_0, .slice A0_1 l0_1.length c0_1, .int .i64 a0_2] 31 (0, 0)) (by (with_reducible repeat first | apply ql | apply qn | apply qk); exact BK421.out) hb); have n2_ := qa (qha (by repeat (first | (with_reducible first | exact HB.out | apply qh | apply qe | apply qg | refine qj ?_ GE421.out) | exact HB.out)) hb); clear BK421; clear HB; have HO425 := n0_; have BK421 := n1_; have HB := n2_; clear n0_ n1_ n2_; (try clear hb); (try clear hb2); (try clear hk); (try clear hi); (try clear ho0)))
  repeat (go_quiet (first | ((with_reducible refine gate_dst (N := 1) rfl ?_); refine box_event ?hg (N := 1) ?hd (cs := #[.int .i64 a0_0, .slice A0_1 l0_1.length c0_1, .int .i64 a0_2]) (t := 31) ?hr ?_; (case hd => rfl); (case hg => rfl); (case hr => first | (go_simp; done) | (go_simp; rfl)); intro gb421 hg w5 hbox hb; have n0_ := qa (qha (by repeat (first | (with_reducible first | exact HB.out | apply qh | apply qe | apply qg) | exact HB.out)) hb); have n1_ := qa (hbox); have n2_ := qa ((by rw [hg]; exact (qp (by repeat (first | (with_reducible first | exact HB.out | apply qh | apply qe | apply qg) | exact HB.out))) : w.heap.size ≤ gb421)); have n3_ := qa ((by rw [hg]; exact (qp (by repeat (first | (with_reducible first | exact HB.out | apply qh | apply qe | apply qg) | exact HB.out))) : w.heap.size ≤ gb421)); clear HB; have HB := n0_; have BK421 := n1_; have GW421 := n2_; have GE421 := n3_; clear n0_ n1_ n2_ n3_; clear hb hbox hg; have hcz6_0 : w5.cell? ⟨gb421, 0, none⟩ = some (.int .i64 a0_0) := (qi BK421.out 0).trans rfl; have hcz6_1 : w5.cell? ⟨gb421, 1, none⟩ = some (.slice A0_1 l0_1.length c0_1) := (qi BK421.out 1).trans rfl; have hcz6_2 : w5.cell? ⟨gb421, 2, none⟩ = some (.int .i64 a0_2) := (qi BK421.out 2).trans rfl; have hfz6_0 := qo BK421.out 0; have hfz6_1 := qo BK421.out 1; have hfz6_2 := qo BK421.out 2) | (go_at_call 22; (with_reducible refine (spec_IsFooting.calls k a0_0 _ _ l0_1 a0_2 true _ ?side1 ?side2 A2.out).mono ?_); (case side1 => repeat (first | exact (qab HR0_1.out HB.out) | (with_reducible first | apply qka | apply qla | apply qma))); (case side2 => exact HC0_1.out); rintro e w7 ⟨rfl, hb⟩; have n0_ := qa (qja (g := gb421) (o := .cells #[.int .i64 a0_0, .slice A0_1 l0_1.length c0_1, .int .i64 a0_2] 31 (0, 0)) (by (with_reducible repeat first | apply ql | apply qn | apply qk); exact BK421.out) hb); have n1_ := qa (qha (by repeat (first | (with_reducible first | exact HB.out | apply qh | apply qe | apply qg | refine qj ?_ GE421.out) | exact HB.out)) hb); clear BK421; clear HB; have BK421 := n0_; have HB := n1_; clear n0_ n1_; (try clear hb); (try clear hb2); (try clear hk); (try clear hi); have hcz8_0 : w7.cell? ⟨gb421, 0, none⟩ = some (.int .i64 a0_0) := (qi BK421.out 0).trans rfl; have hcz8_1 : w7.cell? ⟨gb421, 1, none⟩ = some (.slice A0_1 l0_1.length c0_1) := (qi BK421.out 1).trans rfl; have hcz8_2 : w7.cell? ⟨gb421, 2, none⟩ = some (.int .i64 a0_2) := (qi BK421.out 2).trans rfl; have hfz8_0 := qo BK421.out 0; have hfz8_1 := qo BK421.out 1; have hfz8_2 := qo BK421.out 2) | (go_at_call 23; (with_reducible refine (spec_StressesOf.calls k a0_0 _ _ l0_1 a0_2 t423 _ ?side1 ?side2 A4.out).mono ?_); (case side1 => repeat (first | exact (qab HR0_1.out HB.out) | (with_reducible first | apply qka | apply qla | apply qma))); (case side2 => exact HC0_1.out); rintro e w9 ⟨v424, rfl, ho0, hb⟩; have n0_ := qa (qvb ho0 (qp (by repeat (first | (with_reducible first | exact HB.out | apply qh | apply qe | apply qg | refine qj ?_ GE421.out) | exact HB.out)))); have n1_ := qa (qja (g := gb421) (o := .cells #[.int .i64 a0_0, .slice A0_1 l0_1.length c0_1, .int .i64 a0_2] 31 (0, 0)) (by (with_reducible repeat first | apply ql | apply qn | apply qk); exact BK421.out) hb); have n2_ := qa (qha (by repeat (first | (with_reducible first | exact HB.out | apply qh | apply qe | apply qg | refine qj ?_ GE421.out) | exact HB.out)) hb); clear BK421; clear HB; have HO425 := n0_; have BK421 := n1_; have HB := n2_; clear n0_ n1_ n2_; (try clear hb); (try clear hb2); (try clear hk); (try clear hi); (try clear ho0))); try go_wp2_with (first | ((with_reducible refine gate_dst (N := 1) rfl ?_); refine box_event ?hg (N := 1) ?hd (cs := #[.int .i64 a0_0, .slice A0_1 l0_1.length c0_1, .int .i64 a0_2]) (t := 31) ?hr ?_; (case hd => rfl); (case hg => rfl); (case hr => first | (go_simp; done) | (go_simp; rfl)); intro gb421 hg w5 hbox hb; have n0_ := qa (qha (by repeat (first | (with_reducible first | exact HB.out | apply qh | apply qe | apply qg) | exact HB.out)) hb); have n1_ := qa (hbox); have n2_ := qa ((by rw [hg]; exact (qp (by repeat (first | (with_reducible first | exact HB.out | apply qh | apply qe | apply qg) | exact HB.out))) : w.heap.size ≤ gb421)); have n3_ := qa ((by rw [hg]; exact (qp (by repeat (first | (with_reducible first | exact HB.out | apply qh | apply qe | apply qg) | exact HB.out))) : w.heap.size ≤ gb421)); clear HB; have HB := n0_; have BK421 := n1_; have GW421 := n2_; have GE421 := n3_; clear n0_ n1_ n2_ n3_; clear hb hbox hg; have hcz6_0 : w5.cell? ⟨gb421, 0, none⟩ = some (.int .i64 a0_0) := (qi BK421.out 0).trans rfl; have hcz6_1 : w5.cell? ⟨gb421, 1, none⟩ = some (.slice A0_1 l0_1.length c0_1) := (qi BK421.out 1).trans rfl; have hcz6_2 : w5.cell? ⟨gb421, 2, none⟩ = some (.int .i64 a0_2) := (qi BK421.out 2).trans rfl; have hfz6_0 := qo BK421.out 0; have hfz6_1 := qo BK421.out 1; have hfz6_2 := qo BK421.out 2) | (go_at_call 22; (with_reducible refine (spec_IsFooting.calls k a0_0 _ _ l0_1 a0_2 true _ ?side1 ?side2 A2.out).mono ?_); (case side1 => repeat (first | exact (qab HR0_1.out HB.out) | (with_reducible first | apply qka | apply qla | apply qma))); (case side2 => exact HC0_1.out); rintro e w7 ⟨rfl, hb⟩; have n0_ := qa (qja (g := gb421) (o := .cells #[.int .i64 a0_0, .slice A0_1 l0_1.length c0_1, .int .i64 a0_2] 31 (0, 0)) (by (with_reducible repeat first | apply ql | apply qn | apply qk); exact BK421.out) hb); have n1_ := qa (qha (by repeat (first | (with_reducible first | exact HB.out | apply qh | apply qe | apply qg | refine qj ?_ GE421.out) | exact HB.out)) hb); clear BK421; clear HB; have BK421 := n0_; have HB := n1_; clear n0_ n1_; (try clear hb); (try clear hb2); (try clear hk); (try clear hi); have hcz8_0 : w7.cell? ⟨gb421, 0, none⟩ = some (.int .i64 a0_0) := (qi BK421.out 0).trans rfl; have hcz8_1 : w7.cell? ⟨gb421, 1, none⟩ = some (.slice A0_1 l0_1.length c0_1) := (qi BK421.out 1).trans rfl; have hcz8_2 : w7.cell? ⟨gb421, 2, none⟩ = some (.int .i64 a0_2) := (qi BK421.out 2).trans rfl; have hfz8_0 := qo BK421.out 0; have hfz8_1 := qo BK421.out 1; have hfz8_2 := qo BK421.out 2) | (go_at_call 23; (with_reducible refine (spec_StressesOf.calls k a0_0 _ _ l0_1 a0_2 t423 _ ?side1 ?side2 A4.out).mono ?_); (case side1 => repeat (first | exact (qab HR0_1.out HB.out) | (with_reducible first | apply qka | apply qla | apply qma))); (case side2 => exact HC0_1.out); rintro e w9 ⟨v424, rfl, ho0, hb⟩; have n0_ := qa (qvb ho0 (qp (by repeat (first | (with_reducible first | exact HB.out | apply qh | apply qe | apply qg | refine qj ?_ GE421.out) | exact HB.out)))); have n1_ := qa (qja (g := gb421) (o := .cells #[.int .i64 a0_0, .slice A0_1 l0_1.length c0_1, .int .i64 a0_2] 31 (0, 0)) (by (with_reducible repeat first | apply ql | apply qn | apply qk); exact BK421.out) hb); have n2_ := qa (qha (by repeat (first | (with_reducible first | exact HB.out | apply qh | apply qe | apply qg | refine qj ?_ GE421.out) | exact HB.out)) hb); clear BK421; clear HB; have HO425 := n0_; have BK421 := n1_; have HB := n2_; clear n0_ n1_ n2_; (try clear hb); (try clear hb2); (try clear hk); (try clear hi); (try clear ho0))))
  go_loopg [3, 5] k (fun kq v3 v5 w' => ∃ (x3_1 : ByteArray) (x5_1 : Int), v3 = .string x3_1 ∧ v5 = .int .i64 x5_1 ∧ Aside0 (spec_FormatFooting.l0 kq x3_1 t423 x5_1 a0_0 l0_1 a0_2 = some r) ∧ Aside0 (kq ≤ k) ∧ Aside0 (Kd.R (Kd.int .i64) 3 w' w.heap.size (fun _ => True) v424 t423) ∧ Aside0 (w'.heap[gb421]? = some (.cells #[.int .i64 a0_0, (.slice A0_1 l0_1.length c0_1), .int .i64 a0_2] 31 (0, 0))) ∧ Aside0 (Below w.heap.size w w'))
  case atStart => exact ⟨((⟨#[]⟩ : ByteArray)), (0), (by first | rfl | (simp; done) | (simp [*]; done)), (by first | rfl | (simp; done) | (simp [*]; done)), H', ⟨qqb _⟩, ⟨by (with_reducible repeat first | apply qx | apply qy | apply qz); exact HO425.out⟩, ⟨by (with_reducible repeat first | apply ql | apply qn | apply qk); exact BK421.out⟩, ⟨by repeat (first | (with_reducible first | exact HB.out | apply qh | apply qe | apply qg | refine qj ?_ GE421.out) | exact HB.out)⟩⟩
  case round =>
   clear H'; (try clear c2); (try clear p2); (try clear c3); (try clear hcz6_0); (try clear hcz6_1); (try clear hcz6_2); (try clear hcz8_0); (try clear hcz8_1); (try clear hcz8_2); (try clear hfz6_0); (try clear hfz6_1); (try clear hfz6_2); (try clear hfz8_0); (try clear hfz8_1); (try clear hfz8_2); obtain ⟨x3_1, x5_1, rfl, rfl, HA, HK1, HO_4, BK421, HB⟩ := hrel
   cases gk with
   | zero => exact absurd HA.out (by simp [spec_FormatFooting.l0])
   | succ k1 =>
    have H := HA.out; clear HA; simp only [spec_FormatFooting.l0] at H
    by_cases c10 : x5_1 < a0_0
    ·rw [if_pos c10] at H
     have c10b0 : decide (x5_1 < a0_0) = true := qq c10; clear c10; have H' := qa H; clear H; have hcz11_0 : wr.cell? ⟨gb421, 0, none⟩ = some (.int .i64 a0_0) := (qi BK421.out 0).trans rfl; have hcz11_1 : wr.cell? ⟨gb421, 1, none⟩ = some (.slice A0_1 l0_1.length c0_1) := (qi BK421.out 1).trans rfl; have hcz11_2 : wr.cell? ⟨gb421, 2, none⟩ = some (.int .i64 a0_2) := (qi BK421.out 2).trans rfl; have hfz11_0 := qo BK421.out 0; have hfz11_1 := qo BK421.out 1; have hfz11_2 := qo BK421.out 2; go_wp2
     repeat (go_quiet (fail); try go_wp2)
     go_loopg [3, 6] k1 (fun kq v3 v6 w' => ∃ (x3_2 : ByteArray) (x6_2 : Int), v3 = .string x3_2 ∧ v6 = .int .i64 x6_2 ∧ Aside0 (spec_FormatFooting.l1 kq x3_2 t423 x5_1 x6_2 a0_0 l0_1 a0_2 = some r) ∧ Aside0 (kq ≤ k1) ∧ Aside0 (Kd.R (Kd.int .i64) 3 w' w.heap.size (fun _ => True) v424 t423) ∧ Aside0 (w'.heap[gb421]? = some (.cells #[.int .i64 a0_0, (.slice A0_1 l0_1.length c0_1), .int .i64 a0_2] 31 (0, 0))) ∧ Aside0 (Below w.heap.size w w'))
     case atStart => exact ⟨(x3_1), (0), (by first | rfl | (simp; done) | (simp [*]; done)), (by first | rfl | (simp; done) | (simp [*]; done)), H', ⟨qqb _⟩, ⟨by (with_reducible repeat first | apply qx | apply qy | apply qz); exact HO_4.out⟩, ⟨by (with_reducible repeat first | apply ql | apply qn | apply qk); exact BK421.out⟩, ⟨by repeat (first | (with_reducible first | exact HB.out | apply qh | apply qe | apply qg | refine qj ?_ GE421.out) | exact HB.out)⟩⟩
     case round =>
      clear H'; (try clear c1); (try clear c2); (try clear p2); (try clear c3); (try clear c10); (try clear c10b0); (try clear hcz11_0); (try clear hcz11_1); (try clear hcz11_2); (try clear hcz6_0); (try clear hcz6_1); (try clear hcz6_2); (try clear hcz8_0); (try clear hcz8_1); (try clear hcz8_2); (try clear hfz11_0); (try clear hfz11_1); (try clear hfz11_2); (try clear hfz6_0); (try clear hfz6_1); (try clear hfz6_2); (try clear hfz8_0); (try clear hfz8_1); (try clear hfz8_2); (try clear p2); obtain ⟨x3_2, x6_2, rfl, rfl, HA, HK2, HO_4, BK421, HB⟩ := hrel
      cases gk with
      | zero => exact absurd HA.out (by simp [spec_FormatFooting.l1])
      | succ k2 =>
       have H := HA.out; clear HA; simp only [spec_FormatFooting.l1] at H
       by_cases c12 : x6_2 < (l0_1.length : Int)
       ·rw [if_pos c12] at H
        have c12b0 : decide (x6_2 < (l0_1.length : Int)) = true := qq c12; clear c12
        by_cases c13 : 0 ≤ x6_2
        ·rw [if_pos c13] at H
         have c13b0 : decide (0 ≤ x6_2) = true := qq c13; clear c13
         by_cases c14 : ((rd_T59 l0_1 x6_2).f0) = x5_1
         ·rw [if_pos c14] at H
          have c14b0 : (((rd_T59 l0_1 x6_2).f0) == x5_1) = true := ze c14; have c14b1 : (((rd_T59 l0_1 x6_2).f0) != x5_1) = false := zc c14; clear c14
          by_cases c15 : x3_2.size + 1 ≤ 9223372036854775807
          ·rw [if_pos c15] at H
           have c15b0 := qga c15; have c15b1 : decide (x3_2.size + 1 ≤ 9223372036854775807) = true := qq c15
           try have c15b2 : (9223372036854775807 < x3_2.size + 1) = False := eq_false (Nat.not_lt.2 c15)
           have H' := qa H; clear H; have hcz16_0 : wr.cell? ⟨gb421, 0, none⟩ = some (.int .i64 a0_0) := (qi BK421.out 0).trans rfl; have hcz16_1 : wr.cell? ⟨gb421, 1, none⟩ = some (.slice A0_1 l0_1.length c0_1) := (qi BK421.out 1).trans rfl; have hcz16_2 : wr.cell? ⟨gb421, 2, none⟩ = some (.int .i64 a0_2) := (qi BK421.out 2).trans rfl; have hfz16_0 := qo BK421.out 0; have hfz16_1 := qo BK421.out 1; have hfz16_2 := qo BK421.out 2; have p426 : 0 ≤ (x6_2 : Int) := qm (by assumption); have q426 : x6_2 < (l0_1.length : Int) := qm (by assumption); obtain ⟨ad426, e426, hx426_0, hx426_1, hx426_2⟩ := at_T59 HR0_1.out x6_2 p426 q426; cases e426; replace hx426_0 := (HB.out.cell (qf w _ hx426_0)).trans hx426_0; replace hx426_1 := (HB.out.cell (qf w _ hx426_1)).trans hx426_1; replace hx426_2 := (HB.out.cell (qf w _ hx426_2)).trans hx426_2; replace p426 := qga p426; replace q426 := qga q426; go_wp2
           repeat (go_quiet (fail); try go_wp2)
           go_roundg k2
           case measure => have := HK1.out; have := HK2.out; omega
           case rel => exact ⟨(x3_2 ++ (⟨#[40]⟩ : ByteArray)), (wrap64 (x6_2 + 1)), (by first | rfl | (simp; done) | (simp [*]; done)), (by first | rfl | (simp; done) | (simp [*]; done)), H', ⟨by have := HK1.out; have := HK2.out; omega⟩, ⟨by (with_reducible repeat first | apply qx | apply qy | apply qz); exact HO_4.out⟩, ⟨by (with_reducible repeat first | apply ql | apply qn | apply qk); exact BK421.out⟩, ⟨by repeat (first | (with_reducible first | exact HB.out | apply qh | apply qe | apply qg | refine qj ?_ GE421.out) | exact HB.out)⟩⟩
          ·rw [if_neg c15] at H
           exact absurd H (by simp)
         ·rw [if_neg c14] at H
          have c14b0 : (((rd_T59 l0_1 x6_2).f0) == x5_1) = false := zd c14; have c14b1 : (((rd_T59 l0_1 x6_2).f0) != x5_1) = true := zf c14; have H' := qa H; clear H; have hcz17_0 : wr.cell? ⟨gb421, 0, none⟩ = some (.int .i64 a0_0) := (qi BK421.out 0).trans rfl; have hcz17_1 : wr.cell? ⟨gb421, 1, none⟩ = some (.slice A0_1 l0_1.length c0_1) := (qi BK421.out 1).trans rfl; have hcz17_2 : wr.cell? ⟨gb421, 2, none⟩ = some (.int .i64 a0_2) := (qi BK421.out 2).trans rfl; have hfz17_0 := qo BK421.out 0; have hfz17_1 := qo BK421.out 1; have hfz17_2 := qo BK421.out 2; have p426 : 0 ≤ (x6_2 : Int) := qm (by assumption); have q426 : x6_2 < (l0_1.length : Int) := qm (by assumption); obtain ⟨ad426, e426, hx426_0, hx426_1, hx426_2⟩ := at_T59 HR0_1.out x6_2 p426 q426; cases e426; replace hx426_0 := (HB.out.cell (qf w _ hx426_0)).trans hx426_0; replace hx426_1 := (HB.out.cell (qf w _ hx426_1)).trans hx426_1; replace hx426_2 := (HB.out.cell (qf w _ hx426_2)).trans hx426_2; replace p426 := qga p426; replace q426 := qga q426; go_wp2
          repeat (go_quiet (fail); try go_wp2)
          go_roundg k2
          case measure => have := HK1.out; have := HK2.out; omega
          case rel => exact ⟨(x3_2), (wrap64 (x6_2 + 1)), (by first | rfl | (simp; done) | (simp [*]; done)), (by first | rfl | (simp; done) | (simp [*]; done)), H', ⟨by have := HK1.out; have := HK2.out; omega⟩, ⟨by (with_reducible repeat first | apply qx | apply qy | apply qz); exact HO_4.out⟩, ⟨by (with_reducible repeat first | apply ql | apply qn | apply qk); exact BK421.out⟩, ⟨by repeat (first | (with_reducible first | exact HB.out | apply qh | apply qe | apply qg | refine qj ?_ GE421.out) | exact HB.out)⟩⟩
        ·rw [if_neg c13] at H
         exact absurd H (by simp)
       ·rw [if_neg c12] at H
        have c12b0 : decide (x6_2 < (l0_1.length : Int)) = false := qr c12; clear c12
        by_cases c18 : 0 ≤ x5_1
        ·rw [if_pos c18] at H
         have c18b0 : decide (0 ≤ x5_1) = true := qq c18; clear c18
         by_cases c19 : x5_1 < (t423.length : Int)
         ·rw [if_pos c19] at H
          have c19b0 : decide (x5_1 < (t423.length : Int)) = true := qq c19; clear c19; obtain ⟨t428, A200, H⟩ := zb H; (try dsimp only at H); have A20 := qa A200; clear A200
          by_cases c21 : x3_2.size + t428.size ≤ 9223372036854775807
          ·rw [if_pos c21] at H
           have c21b0 := qga c21; have c21b1 : decide (x3_2.size + t428.size ≤ 9223372036854775807) = true := qq c21
           try have c21b2 : (9223372036854775807 < x3_2.size + t428.size) = False := eq_false (Nat.not_lt.2 c21)
           have H' := qa H; clear H; have hcz22_0 : wr.cell? ⟨gb421, 0, none⟩ = some (.int .i64 a0_0) := (qi BK421.out 0).trans rfl; have hcz22_1 : wr.cell? ⟨gb421, 1, none⟩ = some (.slice A0_1 l0_1.length c0_1) := (qi BK421.out 1).trans rfl; have hcz22_2 : wr.cell? ⟨gb421, 2, none⟩ = some (.int .i64 a0_2) := (qi BK421.out 2).trans rfl; have hfz22_0 := qo BK421.out 0; have hfz22_1 := qo BK421.out 1; have hfz22_2 := qo BK421.out 2; obtain ⟨Ao23, co23, eo23⟩ := Kd.R_slice HO_4.out; subst eo23; have p427 : 0 ≤ (x5_1 : Int) := qm (by assumption); have q427 : x5_1 < (t423.length : Int) := qm (by assumption); obtain ⟨ad427, e427, hx427_0⟩ := Kd.at_int (qgb HO_4.out).2.2 x5_1 p427 q427; cases e427; replace p427 := qga p427; replace q427 := qga q427
           go_wp2_with (first | (go_at_call 37; (with_reducible refine (spec_FormatInt.calls k2 (rd t423 x5_1) t428 _ A20.out).mono ?_); rintro e w24 ⟨rfl, hb⟩; have n0_ := qa (qya (by (with_reducible repeat first | apply qx | apply qy | apply qz); exact HO_4.out) hb); have n1_ := qa (qja (g := gb421) (o := .cells #[.int .i64 a0_0, .slice A0_1 l0_1.length c0_1, .int .i64 a0_2] 31 (0, 0)) (by (with_reducible repeat first | apply ql | apply qn | apply qk); exact BK421.out) hb); have n2_ := qa (qha (by repeat (first | (with_reducible first | exact HB.out | apply qh | apply qe | apply qg | refine qj ?_ GE421.out) | exact HB.out)) hb); clear HO_4; clear BK421; clear HB; have HO_4 := n0_; have BK421 := n1_; have HB := n2_; clear n0_ n1_ n2_; (try clear hb); (try clear hb2); (try clear hk); (try clear hi)))
           repeat (go_quiet (first | (go_at_call 37; (with_reducible refine (spec_FormatInt.calls k2 (rd t423 x5_1) t428 _ A20.out).mono ?_); rintro e w24 ⟨rfl, hb⟩; have n0_ := qa (qya (by (with_reducible repeat first | apply qx | apply qy | apply qz); exact HO_4.out) hb); have n1_ := qa (qja (g := gb421) (o := .cells #[.int .i64 a0_0, .slice A0_1 l0_1.length c0_1, .int .i64 a0_2] 31 (0, 0)) (by (with_reducible repeat first | apply ql | apply qn | apply qk); exact BK421.out) hb); have n2_ := qa (qha (by repeat (first | (with_reducible first | exact HB.out | apply qh | apply qe | apply qg | refine qj ?_ GE421.out) | exact HB.out)) hb); clear HO_4; clear BK421; clear HB; have HO_4 := n0_; have BK421 := n1_; have HB := n2_; clear n0_ n1_ n2_; (try clear hb); (try clear hb2); (try clear hk); (try clear hi))); try go_wp2_with (first | (go_at_call 37; (with_reducible refine (spec_FormatInt.calls k2 (rd t423 x5_1) t428 _ A20.out).mono ?_); rintro e w24 ⟨rfl, hb⟩; have n0_ := qa (qya (by (with_reducible repeat first | apply qx | apply qy | apply qz); exact HO_4.out) hb); have n1_ := qa (qja (g := gb421) (o := .cells #[.int .i64 a0_0, .slice A0_1 l0_1.length c0_1, .int .i64 a0_2] 31 (0, 0)) (by (with_reducible repeat first | apply ql | apply qn | apply qk); exact BK421.out) hb); have n2_ := qa (qha (by repeat (first | (with_reducible first | exact HB.out | apply qh | apply qe | apply qg | refine qj ?_ GE421.out) | exact HB.out)) hb); clear HO_4; clear BK421; clear HB; have HO_4 := n0_; have BK421 := n1_; have HB := n2_; clear n0_ n1_ n2_; (try clear hb); (try clear hb2); (try clear hk); (try clear hi))))
           go_loopg [3, 7] k2 (fun kq v3 v7 w' => ∃ (x3_3 : ByteArray) (x7_3 : Int), v3 = .string x3_3 ∧ v7 = .int .i64 x7_3 ∧ Aside0 (spec_FormatFooting.l2 kq x3_3 t423 x5_1 x7_3 a0_0 l0_1 a0_2 = some r) ∧ Aside0 (kq ≤ k2) ∧ Aside0 (Kd.R (Kd.int .i64) 3 w' w.heap.size (fun _ => True) (.slice (some ad427) t423.length co23) t423) ∧ Aside0 (w'.heap[gb421]? = some (.cells #[.int .i64 a0_0, (.slice A0_1 l0_1.length c0_1), .int .i64 a0_2] 31 (0, 0))) ∧ Aside0 (Below w.heap.size w w'))
           case atStart => exact ⟨(x3_2 ++ t428), (0), (by first | rfl | (simp; done) | (simp [*]; done)), (by first | rfl | (simp; done) | (simp [*]; done)), H', ⟨qqb _⟩, ⟨by (with_reducible repeat first | apply qx | apply qy | apply qz); exact HO_4.out⟩, ⟨by (with_reducible repeat first | apply ql | apply qn | apply qk); exact BK421.out⟩, ⟨by repeat (first | (with_reducible first | exact HB.out | apply qh | apply qe | apply qg | refine qj ?_ GE421.out) | exact HB.out)⟩⟩
           case round =>
            clear H'; (try clear c1); (try clear c2); (try clear p2); (try clear c3); (try clear p4); (try clear q4); (try clear hx4); (try clear p6); (try clear c10); (try clear c10b0); (try clear c12); (try clear c12b0); (try clear c13); (try clear c13b0); (try clear c14); (try clear c14b0); (try clear c14b1); (try clear c15); (try clear c15b0); (try clear c15b1); (try clear c15b2); (try clear c18); (try clear c18b0); (try clear c19); (try clear c19b0); (try clear c21); (try clear c21b0); (try clear c21b1); (try clear c21b2); (try clear hcz11_0); (try clear hcz11_1); (try clear hcz11_2); (try clear hcz16_0); (try clear hcz16_1); (try clear hcz16_2); (try clear hcz17_0); (try clear hcz17_1); (try clear hcz17_2); (try clear hcz22_0); (try clear hcz22_1); (try clear hcz22_2); (try clear hcz6_0); (try clear hcz6_1); (try clear hcz6_2); (try clear hcz8_0); (try clear hcz8_1); (try clear hcz8_2); (try clear hfz11_0); (try clear hfz11_1); (try clear hfz11_2); (try clear hfz16_0); (try clear hfz16_1); (try clear hfz16_2); (try clear hfz17_0); (try clear hfz17_1); (try clear hfz17_2); (try clear hfz22_0); (try clear hfz22_1); (try clear hfz22_2); (try clear hfz6_0); (try clear hfz6_1); (try clear hfz6_2); (try clear hfz8_0); (try clear hfz8_1); (try clear hfz8_2); (try clear hx426_0); (try clear hx426_1); (try clear hx426_2); (try clear hx427_0); (try clear p2); (try clear p426); (try clear p427); (try clear q426); (try clear q427); obtain ⟨x3_3, x7_3, rfl, rfl, HA, HK3, HO_4, BK421, HB⟩ := hrel
            cases gk with
            | zero => exact absurd HA.out (by simp [spec_FormatFooting.l2])
            | succ k3 =>
             have H := HA.out; clear HA; simp only [spec_FormatFooting.l2] at H
             by_cases c25 : x7_3 < (l0_1.length : Int)
             ·rw [if_pos c25] at H
              have c25b0 : decide (x7_3 < (l0_1.length : Int)) = true := qq c25; clear c25
              by_cases c26 : 0 ≤ x7_3
              ·rw [if_pos c26] at H
               have c26b0 : decide (0 ≤ x7_3) = true := qq c26; clear c26
               by_cases c27 : (wrap64 (((rd_T59 l0_1 x7_3).f0) + ((rd_T59 l0_1 x7_3).f1))) = (wrap64 (x5_1 + 1))
               ·rw [if_pos c27] at H
                have c27b0 : ((wrap64 (((rd_T59 l0_1 x7_3).f0) + ((rd_T59 l0_1 x7_3).f1))) == (wrap64 (x5_1 + 1))) = true := ze c27; have c27b1 : ((wrap64 (((rd_T59 l0_1 x7_3).f0) + ((rd_T59 l0_1 x7_3).f1))) != (wrap64 (x5_1 + 1))) = false := zc c27; clear c27
                by_cases c28 : x3_3.size + 1 ≤ 9223372036854775807
                ·rw [if_pos c28] at H
                 have c28b0 := qga c28; have c28b1 : decide (x3_3.size + 1 ≤ 9223372036854775807) = true := qq c28
                 try have c28b2 : (9223372036854775807 < x3_3.size + 1) = False := eq_false (Nat.not_lt.2 c28)
                 have H' := qa H; clear H; have hcz29_0 : wr.cell? ⟨gb421, 0, none⟩ = some (.int .i64 a0_0) := (qi BK421.out 0).trans rfl; have hcz29_1 : wr.cell? ⟨gb421, 1, none⟩ = some (.slice A0_1 l0_1.length c0_1) := (qi BK421.out 1).trans rfl; have hcz29_2 : wr.cell? ⟨gb421, 2, none⟩ = some (.int .i64 a0_2) := (qi BK421.out 2).trans rfl; have hfz29_0 := qo BK421.out 0; have hfz29_1 := qo BK421.out 1; have hfz29_2 := qo BK421.out 2; have p429 : 0 ≤ (x7_3 : Int) := qm (by assumption); have q429 : x7_3 < (l0_1.length : Int) := qm (by assumption); obtain ⟨ad429, e429, hx429_0, hx429_1, hx429_2⟩ := at_T59 HR0_1.out x7_3 p429 q429; cases e429; replace hx429_0 := (HB.out.cell (qf w _ hx429_0)).trans hx429_0; replace hx429_1 := (HB.out.cell (qf w _ hx429_1)).trans hx429_1; replace hx429_2 := (HB.out.cell (qf w _ hx429_2)).trans hx429_2; replace p429 := qga p429; replace q429 := qga q429; have p430 : 0 ≤ (x7_3 : Int) := qm (by assumption); have q430 : x7_3 < (l0_1.length : Int) := qm (by assumption); obtain ⟨ad430, e430, hx430_0, hx430_1, hx430_2⟩ := at_T59 HR0_1.out x7_3 p430 q430
                 obtain rfl : ad429 = ad430 := (by injection e430)
                 replace hx430_0 := (HB.out.cell (qf w _ hx430_0)).trans hx430_0; replace hx430_1 := (HB.out.cell (qf w _ hx430_1)).trans hx430_1; replace hx430_2 := (HB.out.cell (qf w _ hx430_2)).trans hx430_2; replace p430 := qga p430; replace q430 := qga q430; go_wp2
                 repeat (go_quiet (fail); try go_wp2)
                 go_roundg k3
                 case measure => have := HK1.out; have := HK2.out; have := HK3.out; omega
                 case rel => exact ⟨(x3_3 ++ (⟨#[41]⟩ : ByteArray)), (wrap64 (x7_3 + 1)), (by first | rfl | (simp; done) | (simp [*]; done)), (by first | rfl | (simp; done) | (simp [*]; done)), H', ⟨by have := HK1.out; have := HK2.out; have := HK3.out; omega⟩, ⟨by (with_reducible repeat first | apply qx | apply qy | apply qz); exact HO_4.out⟩, ⟨by (with_reducible repeat first | apply ql | apply qn | apply qk); exact BK421.out⟩, ⟨by repeat (first | (with_reducible first | exact HB.out | apply qh | apply qe | apply qg | refine qj ?_ GE421.out) | exact HB.out)⟩⟩
                ·rw [if_neg c28] at H
                 exact absurd H (by simp)
               ·rw [if_neg c27] at H
                have c27b0 : ((wrap64 (((rd_T59 l0_1 x7_3).f0) + ((rd_T59 l0_1 x7_3).f1))) == (wrap64 (x5_1 + 1))) = false := zd c27; have c27b1 : ((wrap64 (((rd_T59 l0_1 x7_3).f0) + ((rd_T59 l0_1 x7_3).f1))) != (wrap64 (x5_1 + 1))) = true := zf c27; have H' := qa H; clear H; have hcz30_0 : wr.cell? ⟨gb421, 0, none⟩ = some (.int .i64 a0_0) := (qi BK421.out 0).trans rfl; have hcz30_1 : wr.cell? ⟨gb421, 1, none⟩ = some (.slice A0_1 l0_1.length c0_1) := (qi BK421.out 1).trans rfl; have hcz30_2 : wr.cell? ⟨gb421, 2, none⟩ = some (.int .i64 a0_2) := (qi BK421.out 2).trans rfl; have hfz30_0 := qo BK421.out 0; have hfz30_1 := qo BK421.out 1; have hfz30_2 := qo BK421.out 2; have p429 : 0 ≤ (x7_3 : Int) := qm (by assumption); have q429 : x7_3 < (l0_1.length : Int) := qm (by assumption); obtain ⟨ad429, e429, hx429_0, hx429_1, hx429_2⟩ := at_T59 HR0_1.out x7_3 p429 q429; cases e429; replace hx429_0 := (HB.out.cell (qf w _ hx429_0)).trans hx429_0; replace hx429_1 := (HB.out.cell (qf w _ hx429_1)).trans hx429_1; replace hx429_2 := (HB.out.cell (qf w _ hx429_2)).trans hx429_2; replace p429 := qga p429; replace q429 := qga q429; have p430 : 0 ≤ (x7_3 : Int) := qm (by assumption); have q430 : x7_3 < (l0_1.length : Int) := qm (by assumption); obtain ⟨ad430, e430, hx430_0, hx430_1, hx430_2⟩ := at_T59 HR0_1.out x7_3 p430 q430
                obtain rfl : ad429 = ad430 := (by injection e430)
                replace hx430_0 := (HB.out.cell (qf w _ hx430_0)).trans hx430_0; replace hx430_1 := (HB.out.cell (qf w _ hx430_1)).trans hx430_1; replace hx430_2 := (HB.out.cell (qf w _ hx430_2)).trans hx430_2; replace p430 := qga p430; replace q430 := qga q430; go_wp2
                repeat (go_quiet (fail); try go_wp2)
                go_roundg k3
                case measure => have := HK1.out; have := HK2.out; have := HK3.out; omega
                case rel => exact ⟨(x3_3), (wrap64 (x7_3 + 1)), (by first | rfl | (simp; done) | (simp [*]; done)), (by first | rfl | (simp; done) | (simp [*]; done)), H', ⟨by have := HK1.out; have := HK2.out; have := HK3.out; omega⟩, ⟨by (with_reducible repeat first | apply qx | apply qy | apply qz); exact HO_4.out⟩, ⟨by (with_reducible repeat first | apply ql | apply qn | apply qk); exact BK421.out⟩, ⟨by repeat (first | (with_reducible first | exact HB.out | apply qh | apply qe | apply qg | refine qj ?_ GE421.out) | exact HB.out)⟩⟩
              ·rw [if_neg c26] at H
               exact absurd H (by simp)
             ·rw [if_neg c25] at H
              have c25b0 : decide (x7_3 < (l0_1.length : Int)) = false := qr c25; clear c25; have H' := qa H; clear H; have hcz31_0 : wr.cell? ⟨gb421, 0, none⟩ = some (.int .i64 a0_0) := (qi BK421.out 0).trans rfl; have hcz31_1 : wr.cell? ⟨gb421, 1, none⟩ = some (.slice A0_1 l0_1.length c0_1) := (qi BK421.out 1).trans rfl; have hcz31_2 : wr.cell? ⟨gb421, 2, none⟩ = some (.int .i64 a0_2) := (qi BK421.out 2).trans rfl; have hfz31_0 := qo BK421.out 0; have hfz31_1 := qo BK421.out 1; have hfz31_2 := qo BK421.out 2; go_wp2
              repeat (go_quiet (fail); try go_wp2)
              go_roundg k3
              case measure => have := HK1.out; have := HK2.out; have := HK3.out; omega
              case rel => exact ⟨(x3_3), (wrap64 (x5_1 + 1)), (by first | rfl | (simp; done) | (simp [*]; done)), (by first | rfl | (simp; done) | (simp [*]; done)), H', ⟨by have := HK1.out; have := HK2.out; have := HK3.out; omega⟩, ⟨by (with_reducible repeat first | apply qx | apply qy | apply qz); exact HO_4.out⟩, ⟨by (with_reducible repeat first | apply ql | apply qn | apply qk); exact BK421.out⟩, ⟨by repeat (first | (with_reducible first | exact HB.out | apply qh | apply qe | apply qg | refine qj ?_ GE421.out) | exact HB.out)⟩⟩
          ·rw [if_neg c21] at H
           exact absurd H (by simp)
         ·rw [if_neg c19] at H
          exact absurd H (by simp)
        ·rw [if_neg c18] at H
         exact absurd H (by simp)
    ·rw [if_neg c10] at H
     have c10b0 : decide (x5_1 < a0_0) = false := qr c10; clear c10; obtain rfl := qia H; have hcz32_0 : wr.cell? ⟨gb421, 0, none⟩ = some (.int .i64 a0_0) := (qi BK421.out 0).trans rfl; have hcz32_1 : wr.cell? ⟨gb421, 1, none⟩ = some (.slice A0_1 l0_1.length c0_1) := (qi BK421.out 1).trans rfl; have hcz32_2 : wr.cell? ⟨gb421, 2, none⟩ = some (.int .i64 a0_2) := (qi BK421.out 2).trans rfl; have hfz32_0 := qo BK421.out 0; have hfz32_1 := qo BK421.out 1; have hfz32_2 := qo BK421.out 2; go_wp2
     repeat (go_quiet (fail); try go_wp2)
     go_ret; exact ⟨by first | rfl | (simp [*] <;> rfl), by repeat (first | (with_reducible first | exact HB.out | apply qh | apply qe | apply qg | refine qj ?_ GE421.out) | exact HB.out)⟩
 ·replace c3 := Bool.eq_false_iff.mpr c3
  subst c3; rw [if_neg (show ¬ (false = true) by decide)] at H; have H1 := H; clear H; have H := H1; clear H1; obtain rfl := qia H; go_enter Tryd.func21, Tryd.ntmps21
  go_wp2_with (first | ((with_reducible refine gate_dst (N := 1) rfl ?_); refine box_event ?hg (N := 1) ?hd (cs := #[.int .i64 a0_0, .slice A0_1 l0_1.length c0_1, .int .i64 a0_2]) (t := 31) ?hr ?_; (case hd => rfl); (case hg => rfl); (case hr => first | (go_simp; done) | (go_simp; rfl)); intro gb421 hg w33 hbox hb; have n0_ := qa (qha (by repeat (first | (with_reducible first | exact HB.out | apply qh | apply qe | apply qg) | exact HB.out)) hb); have n1_ := qa (hbox); have n2_ := qa ((by rw [hg]; exact (qp (by repeat (first | (with_reducible first | exact HB.out | apply qh | apply qe | apply qg) | exact HB.out))) : w.heap.size ≤ gb421)); have n3_ := qa ((by rw [hg]; exact (qp (by repeat (first | (with_reducible first | exact HB.out | apply qh | apply qe | apply qg) | exact HB.out))) : w.heap.size ≤ gb421)); clear HB; have HB := n0_; have BK421 := n1_; have GW421 := n2_; have GE421 := n3_; clear n0_ n1_ n2_ n3_; clear hb hbox hg; have hcz34_0 : w33.cell? ⟨gb421, 0, none⟩ = some (.int .i64 a0_0) := (qi BK421.out 0).trans rfl; have hcz34_1 : w33.cell? ⟨gb421, 1, none⟩ = some (.slice A0_1 l0_1.length c0_1) := (qi BK421.out 1).trans rfl; have hcz34_2 : w33.cell? ⟨gb421, 2, none⟩ = some (.int .i64 a0_2) := (qi BK421.out 2).trans rfl; have hfz34_0 := qo BK421.out 0; have hfz34_1 := qo BK421.out 1; have hfz34_2 := qo BK421.out 2) | (go_at_call 22; (with_reducible refine (spec_IsFooting.calls k a0_0 _ _ l0_1 a0_2 false _ ?side1 ?side2 A2.out).mono ?_); (case side1 => repeat (first | exact (qab HR0_1.out HB.out) | (with_reducible first | apply qka | apply qla | apply qma))); (case side2 => exact HC0_1.out); rintro e w35 ⟨rfl, hb⟩; have n0_ := qa (qja (g := gb421) (o := .cells #[.int .i64 a0_0, .slice A0_1 l0_1.length c0_1, .int .i64 a0_2] 31 (0, 0)) (by (with_reducible repeat first | apply ql | apply qn | apply qk); exact BK421.out) hb); have n1_ := qa (qha (by repeat (first | (with_reducible first | exact HB.out | apply qh | apply qe | apply qg | refine qj ?_ GE421.out) | exact HB.out)) hb); clear BK421; clear HB; have BK421 := n0_; have HB := n1_; clear n0_ n1_; (try clear hb); (try clear hb2); (try clear hk); (try clear hi)))
  repeat (go_quiet (first | ((with_reducible refine gate_dst (N := 1) rfl ?_); refine box_event ?hg (N := 1) ?hd (cs := #[.int .i64 a0_0, .slice A0_1 l0_1.length c0_1, .int .i64 a0_2]) (t := 31) ?hr ?_; (case hd => rfl); (case hg => rfl); (case hr => first | (go_simp; done) | (go_simp; rfl)); intro gb421 hg w33 hbox hb; have n0_ := qa (qha (by repeat (first | (with_reducible first | exact HB.out | apply qh | apply qe | apply qg) | exact HB.out)) hb); have n1_ := qa (hbox); have n2_ := qa ((by rw [hg]; exact (qp (by repeat (first | (with_reducible first | exact HB.out | apply qh | apply qe | apply qg) | exact HB.out))) : w.heap.size ≤ gb421)); have n3_ := qa ((by rw [hg]; exact (qp (by repeat (first | (with_reducible first | exact HB.out | apply qh | apply qe | apply qg) | exact HB.out))) : w.heap.size ≤ gb421)); clear HB; have HB := n0_; have BK421 := n1_; have GW421 := n2_; have GE421 := n3_; clear n0_ n1_ n2_ n3_; clear hb hbox hg; have hcz34_0 : w33.cell? ⟨gb421, 0, none⟩ = some (.int .i64 a0_0) := (qi BK421.out 0).trans rfl; have hcz34_1 : w33.cell? ⟨gb421, 1, none⟩ = some (.slice A0_1 l0_1.length c0_1) := (qi BK421.out 1).trans rfl; have hcz34_2 : w33.cell? ⟨gb421, 2, none⟩ = some (.int .i64 a0_2) := (qi BK421.out 2).trans rfl; have hfz34_0 := qo BK421.out 0; have hfz34_1 := qo BK421.out 1; have hfz34_2 := qo BK421.out 2) | (go_at_call 22; (with_reducible refine (spec_IsFooting.calls k a0_0 _ _ l0_1 a0_2 false _ ?side1 ?side2 A2.out).mono ?_); (case side1 => repeat (first | exact (qab HR0_1.out HB.out) | (with_reducible first | apply qka | apply qla | apply qma))); (case side2 => exact HC0_1.out); rintro e w35 ⟨rfl, hb⟩; have n0_ := qa (qja (g := gb421) (o := .cells #[.int .i64 a0_0, .slice A0_1 l0_1.length c0_1, .int .i64 a0_2] 31 (0, 0)) (by (with_reducible repeat first | apply ql | apply qn | apply qk); exact BK421.out) hb); have n1_ := qa (qha (by repeat (first | (with_reducible first | exact HB.out | apply qh | apply qe | apply qg | refine qj ?_ GE421.out) | exact HB.out)) hb); clear BK421; clear HB; have BK421 := n0_; have HB := n1_; clear n0_ n1_; (try clear hb); (try clear hb2); (try clear hk); (try clear hi))); try go_wp2_with (first | ((with_reducible refine gate_dst (N := 1) rfl ?_); refine box_event ?hg (N := 1) ?hd (cs := #[.int .i64 a0_0, .slice A0_1 l0_1.length c0_1, .int .i64 a0_2]) (t := 31) ?hr ?_; (case hd => rfl); (case hg => rfl); (case hr => first | (go_simp; done) | (go_simp; rfl)); intro gb421 hg w33 hbox hb; have n0_ := qa (qha (by repeat (first | (with_reducible first | exact HB.out | apply qh | apply qe | apply qg) | exact HB.out)) hb); have n1_ := qa (hbox); have n2_ := qa ((by rw [hg]; exact (qp (by repeat (first | (with_reducible first | exact HB.out | apply qh | apply qe | apply qg) | exact HB.out))) : w.heap.size ≤ gb421)); have n3_ := qa ((by rw [hg]; exact (qp (by repeat (first | (with_reducible first | exact HB.out | apply qh | apply qe | apply qg) | exact HB.out))) : w.heap.size ≤ gb421)); clear HB; have HB := n0_; have BK421 := n1_; have GW421 := n2_; have GE421 := n3_; clear n0_ n1_ n2_ n3_; clear hb hbox hg; have hcz34_0 : w33.cell? ⟨gb421, 0, none⟩ = some (.int .i64 a0_0) := (qi BK421.out 0).trans rfl; have hcz34_1 : w33.cell? ⟨gb421, 1, none⟩ = some (.slice A0_1 l0_1.length c0_1) := (qi BK421.out 1).trans rfl; have hcz34_2 : w33.cell? ⟨gb421, 2, none⟩ = some (.int .i64 a0_2) := (qi BK421.out 2).trans rfl; have hfz34_0 := qo BK421.out 0; have hfz34_1 := qo BK421.out 1; have hfz34_2 := qo BK421.out 2) | (go_at_call 22; (with_reducible refine (spec_IsFooting.calls k a0_0 _ _ l0_1 a0_2 false _ ?side1 ?side2 A2.out).mono ?_); (case side1 => repeat (first | exact (qab HR0_1.out HB.out) | (with_reducible first | apply qka | apply qla | apply qma))); (case side2 => exact HC0_1.out); rintro e w35 ⟨rfl, hb⟩; have n0_ := qa (qja (g := gb421) (o := .cells #[.int .i64 a0_0, .slice A0_1 l0_1.length c0_1, .int .i64 a0_2] 31 (0, 0)) (by (with_reducible repeat first | apply ql | apply qn | apply qk); exact BK421.out) hb); have n1_ := qa (qha (by repeat (first | (with_reducible first | exact HB.out | apply qh | apply qe | apply qg | refine qj ?_ GE421.out) | exact HB.out)) hb); clear BK421; clear HB; have BK421 := n0_; have HB := n1_; clear n0_ n1_; (try clear hb); (try clear hb2); (try clear hk); (try clear hi))))
  go_ret; exact ⟨by first | rfl | (simp [*] <;> rfl), by repeat (first | (with_reducible first | exact HB.out | apply qh | apply qe | apply qg | refine qj ?_ GE421.out) | exact HB.out)⟩
def impl_Foot.l0 : Nat → List (S59) → List (S59) → Int → Int → Option (Bool)
 | 0, _, _, _, _ => none
 | k + 1, x0, x1, x12, x13 => if x13 < x12 then (if 0 ≤ x13 then (if x13 < (x0.length : Int) then (if x13 < (x1.length : Int) then (if (!(((rd_T59 x0 x13).f0) == ((rd_T59 x1 x13).f0)) || (!(((rd_T59 x0 x13).f1) == ((rd_T59 x1 x13).f1)) || (!(((rd_T59 x0 x13).f2) == ((rd_T59 x1 x13).f2))))) = true then (some false) else (impl_Foot.l0 k x0 x1 x12 (wrap64 (x13 + 1)))) else (none)) else (none)) else (none)) else (some true)
def impl_Foot.f (k : Nat) (l0 : List (S59)) (l1 : List (S59)) : Option (Bool) := if (l0.length : Int) = (l1.length : Int) then (impl_Foot.l0 k l0 l1 (l0.length : Int) 0) else (some false)
theorem impl_Foot.mono_l : ∀ k, (∀ y0 y1 y2 y3, LeO (impl_Foot.l0 k y0 y1 y2 y3) (impl_Foot.l0 (k + 1) y0 y1 y2 y3))
 | 0 => fun _ _ _ _ r h => by simp [impl_Foot.l0] at h
 | k + 1 => by
  have ih0 := impl_Foot.mono_l k
  ·intro y0 y1 y2 y3
   unfold impl_Foot.l0
   repeat' first
   | (with_reducible exact ih0 _ _ _ _)
   | (with_reducible exact LeO.refl _)
   | (with_reducible exact LeO.none _)
   | (with_reducible refine LeO.ite ?_ ?_)
   | (with_reducible refine LeO.bind ?_ (fun _ => ?_))
   | exact ih0 _ _ _ _
   | exact LeO.none _
   | refine LeO.ite ?_ ?_
   | refine LeO.bind ?_ (fun _ => ?_)
theorem impl_Foot.calls (k : Nat) (A0 : Option Addr) (c0 : Nat) (l0 : List (S59)) (A1 : Option Addr) (c1 : Nat) (l1 : List (S59)) (r : Bool) (w : World) (hr0 : Kd.C k59 w A0 l0.length l0) (hc0 : l0.length ≤ c0) (hr1 : Kd.C k59 w A1 l1.length l1) (hc1 : l1.length ≤ c1) (h : impl_Foot.f k l0 l1 = some r) :
  Calls Tryd.prog 49 #[.slice A0 l0.length c0, .slice A1 l1.length c1] w fun e w' => e = .returned (.bool r) ∧ Drawn0 w w' := by
 have hu59 := Tryd.underlying59; have HR0 := qa hr0; have HC0 := qa hc0; clear hr0 hc0; have HR1 := qa hr1; have HC1 := qa hc1; clear hr1 hc1; have H := h; unfold impl_Foot.f at H; clear h
 by_cases c3 : (l0.length : Int) = (l1.length : Int)
 ·rw [if_pos c3] at H
  have c3b0 : ((l0.length : Int) == (l1.length : Int)) = true := ze c3; have c3b1 : ((l0.length : Int) != (l1.length : Int)) = false := zc c3
  have c3b2 : (l0.length == l1.length) = true := by first | simpa using c3 | (simp at c3 ⊢; omega)
  clear c3; have H' := qa H; clear H; go_enter Tryd.func49, Tryd.ntmps49; go_wp2
  repeat (go_quiet (fail); try go_wp2)
  go_loopg [13] k (fun kq v13 w' => ∃ (x13_1 : Int), v13 = .int .i64 x13_1 ∧ Aside0 (impl_Foot.l0 kq l0 l1 (l0.length : Int) x13_1 = some r) ∧ Aside0 (kq ≤ k) ∧ Drawn0 w w')
  case atStart => exact ⟨(0), (by first | rfl | (simp; done) | (simp [*]; done)), H', ⟨qqb _⟩, by repeat (first | exact Drawn0.refl _ | apply Drawn0.step)⟩
  case round =>
   clear H'; (try clear c1); (try clear p2); (try clear c3); (try clear c3b0); (try clear c3b1); (try clear c3b2); obtain ⟨x13_1, rfl, HA, HK1, ⟨m1, rfl⟩⟩ := hrel
   cases gk with
   | zero => exact absurd HA.out (by simp [impl_Foot.l0])
   | succ k1 =>
    have H := HA.out; clear HA; simp only [impl_Foot.l0] at H
    by_cases c4 : x13_1 < (l0.length : Int)
    ·rw [if_pos c4] at H
     have c4b0 : decide (x13_1 < (l0.length : Int)) = true := qq c4; clear c4
     by_cases c5 : 0 ≤ x13_1
     ·rw [if_pos c5] at H
      have c5b0 : decide (0 ≤ x13_1) = true := qq c5; clear c5
      by_cases c6 : x13_1 < (l0.length : Int)
      ·rw [if_pos c6] at H
       have c6b0 : decide (x13_1 < (l0.length : Int)) = true := qq c6; clear c6
       by_cases c7 : x13_1 < (l1.length : Int)
       ·rw [if_pos c7] at H
        have c7b0 : decide (x13_1 < (l1.length : Int)) = true := qq c7; clear c7
        by_cases c8 : (!(((rd_T59 l0 x13_1).f0) == ((rd_T59 l1 x13_1).f0)) || (!(((rd_T59 l0 x13_1).f1) == ((rd_T59 l1 x13_1).f1)) || (!(((rd_T59 l0 x13_1).f2) == ((rd_T59 l1 x13_1).f2))))) = true
        ·rw [if_pos c8] at H
         have c8b0 : (!(((rd_T59 l0 x13_1).f0) == ((rd_T59 l1 x13_1).f0)) || (!(((rd_T59 l0 x13_1).f1) == ((rd_T59 l1 x13_1).f1)) || (!(((rd_T59 l0 x13_1).f2) == ((rd_T59 l1 x13_1).f2))))) = true := c8; clear c8; obtain rfl := qia H; have p431 : 0 ≤ (x13_1 : Int) := qm (by assumption); have q431 : x13_1 < (l0.length : Int) := qm (by assumption); obtain ⟨ad431, e431, hx431_0, hx431_1, hx431_2⟩ := at_T59 HR0.out x13_1 p431 q431; cases e431; replace p431 := qga p431; replace q431 := qga q431; have p432 : 0 ≤ (x13_1 : Int) := qm (by assumption); have q432 : x13_1 < (l1.length : Int) := qm (by assumption); obtain ⟨ad432, e432, hx432_0, hx432_1, hx432_2⟩ := at_T59 HR1.out x13_1 p432 q432; cases e432; replace p432 := qga p432; replace q432 := qga q432; go_wp2
         repeat (go_quiet (fail); try go_wp2)
         go_ret; exact ⟨by first | rfl | (simp; done) | (simp [*]; done), by repeat (first | exact Drawn0.refl _ | apply Drawn0.step)⟩
        ·rw [if_neg c8] at H
         have c8b0 : (!(((rd_T59 l0 x13_1).f0) == ((rd_T59 l1 x13_1).f0)) || (!(((rd_T59 l0 x13_1).f1) == ((rd_T59 l1 x13_1).f1)) || (!(((rd_T59 l0 x13_1).f2) == ((rd_T59 l1 x13_1).f2))))) = false := by simpa using c8
         clear c8; have H' := qa H; clear H; have p431 : 0 ≤ (x13_1 : Int) := qm (by assumption); have q431 : x13_1 < (l0.length : Int) := qm (by assumption); obtain ⟨ad431, e431, hx431_0, hx431_1, hx431_2⟩ := at_T59 HR0.out x13_1 p431 q431; cases e431; replace p431 := qga p431; replace q431 := qga q431; have p432 : 0 ≤ (x13_1 : Int) := qm (by assumption); have q432 : x13_1 < (l1.length : Int) := qm (by assumption); obtain ⟨ad432, e432, hx432_0, hx432_1, hx432_2⟩ := at_T59 HR1.out x13_1 p432 q432; cases e432; replace p432 := qga p432; replace q432 := qga q432; go_wp2
         repeat (go_quiet (fail); try go_wp2)
         go_roundg k1
         case measure => have := HK1.out; omega
         case rel => exact ⟨(wrap64 (x13_1 + 1)), (by first | rfl | (simp; done) | (simp [*]; done)), H', ⟨by have := HK1.out; omega⟩, by repeat (first | exact Drawn0.refl _ | apply Drawn0.step)⟩
       ·rw [if_neg c7] at H
        exact absurd H (by simp)
      ·rw [if_neg c6] at H
       exact absurd H (by simp)
     ·rw [if_neg c5] at H
      exact absurd H (by simp)
    ·rw [if_neg c4] at H
     have c4b0 : decide (x13_1 < (l0.length : Int)) = false := qr c4; clear c4; obtain rfl := qia H; go_wp2
     repeat (go_quiet (fail); try go_wp2)
     go_ret; exact ⟨by first | rfl | (simp; done) | (simp [*]; done), by repeat (first | exact Drawn0.refl _ | apply Drawn0.step)⟩
 ·rw [if_neg c3] at H
  have c3b0 : ((l0.length : Int) == (l1.length : Int)) = false := zd c3; have c3b1 : ((l0.length : Int) != (l1.length : Int)) = true := zf c3
  have c3b2 : (l0.length == l1.length) = false := by first | simpa using c3 | (simp at c3 ⊢; omega)
  obtain rfl := qia H; go_enter Tryd.func49, Tryd.ntmps49; go_wp2
  repeat (go_quiet (fail); try go_wp2)
  go_ret; exact ⟨by first | rfl | (simp; done) | (simp [*]; done), by repeat (first | exact Drawn0.refl _ | apply Drawn0.step)⟩
def impl_EqualFootings.f (k : Nat) (a0_0 : Int) (l0_1 : List (S59)) (a0_2 : Int) (a1_0 : Int) (l1_1 : List (S59)) (a1_2 : Int) : Option (Bool) := if a0_0 = a1_0 then (if a0_2 = a1_2 then ((impl_Foot.f k l0_1 l1_1).bind fun t435 => (some t435)) else (some false)) else (some false)
theorem impl_EqualFootings.calls (k : Nat) (a0_0 : Int) (A0_1 : Option Addr) (c0_1 : Nat) (l0_1 : List (S59)) (a0_2 : Int) (a1_0 : Int) (A1_1 : Option Addr) (c1_1 : Nat) (l1_1 : List (S59)) (a1_2 : Int) (r : Bool) (w : World) (hr0_1 : Kd.C k59 w A0_1 l0_1.length l0_1) (hc0_1 : l0_1.length ≤ c0_1) (hr1_1 : Kd.C k59 w A1_1 l1_1.length l1_1) (hc1_1 : l1_1.length ≤ c1_1) (h : impl_EqualFootings.f k a0_0 l0_1 a0_2 a1_0 l1_1 a1_2 = some r) :
  Calls Tryd.prog 24 #[.agg #[.int .i64 a0_0, .slice A0_1 l0_1.length c0_1, .int .i64 a0_2], .agg #[.int .i64 a1_0, .slice A1_1 l1_1.length c1_1, .int .i64 a1_2]] w fun e w' => e = .returned (.bool r) ∧ Below w.heap.size w w' := by
 have hu31 := Tryd.underlying31; have HR0_1 := qa hr0_1; have HC0_1 := qa hc0_1; clear hr0_1 hc0_1; have HR1_1 := qa hr1_1; have HC1_1 := qa hc1_1; clear hr1_1 hc1_1; have HB := qa (qsb w.heap.size w); have H := h; unfold impl_EqualFootings.f at H; clear h
 by_cases c3 : a0_0 = a1_0
 ·rw [if_pos c3] at H
  have c3b0 : (a0_0 == a1_0) = true := ze c3; have c3b1 : (a0_0 != a1_0) = false := zc c3; clear c3
  by_cases c4 : a0_2 = a1_2
  ·rw [if_pos c4] at H
   have c4b0 : (a0_2 == a1_2) = true := ze c4; have c4b1 : (a0_2 != a1_2) = false := zc c4; clear c4; obtain ⟨t435, A50, H⟩ := zb H; (try dsimp only at H); have A5 := qa A50; clear A50; obtain rfl := qia H; go_enter Tryd.func24, Tryd.ntmps24
   go_wp2_with (first | ((with_reducible refine gate_dst (N := 2) rfl ?_); refine box_event ?hg (N := 2) ?hd (cs := #[.int .i64 a0_0, .slice A0_1 l0_1.length c0_1, .int .i64 a0_2]) (t := 31) ?hr ?_; (case hd => rfl); (case hg => rfl); (case hr => first | (go_simp; done) | (go_simp; rfl)); intro gb433 hg w6 hbox hb; have n0_ := qa (qha (by repeat (first | (with_reducible first | exact HB.out | apply qh | apply qe | apply qg) | exact HB.out)) hb); have n1_ := qa (hbox); have n2_ := qa ((by rw [hg]; exact (qp (by repeat (first | (with_reducible first | exact HB.out | apply qh | apply qe | apply qg) | exact HB.out))) : w.heap.size ≤ gb433)); have n3_ := qa ((by rw [hg]; exact (qp (by repeat (first | (with_reducible first | exact HB.out | apply qh | apply qe | apply qg) | exact HB.out))) : w.heap.size ≤ gb433)); clear HB; have HB := n0_; have BK433 := n1_; have GW433 := n2_; have GE433 := n3_; clear n0_ n1_ n2_ n3_; clear hb hbox hg) | ((with_reducible refine gate_dst (N := 3) rfl ?_); refine box_event ?hg (N := 3) ?hd (cs := #[.int .i64 a1_0, .slice A1_1 l1_1.length c1_1, .int .i64 a1_2]) (t := 31) ?hr ?_; (case hd => rfl); (case hg => rfl); (case hr => first | (go_simp; done) | (go_simp; rfl)); intro gb434 hg w7 hbox hb; have n0_ := qa (qja (g := gb433) (o := .cells #[.int .i64 a0_0, .slice A0_1 l0_1.length c0_1, .int .i64 a0_2] 31 (0, 0)) (by (with_reducible repeat first | apply ql | apply qn | apply qk); exact BK433.out) hb); have n1_ := qa (qha (by repeat (first | (with_reducible first | exact HB.out | apply qh | apply qe | apply qg | refine qj ?_ GE433.out) | exact HB.out)) hb); have n2_ := qa (hbox); have n3_ := qa ((by rw [hg]; exact (qp (by repeat (first | (with_reducible first | exact HB.out | apply qh | apply qe | apply qg | refine qj ?_ GE433.out) | exact HB.out))) : w.heap.size ≤ gb434)); have n4_ := qa ((by rw [hg]; exact (qp (by repeat (first | (with_reducible first | exact HB.out | apply qh | apply qe | apply qg | refine qj ?_ GE433.out) | exact HB.out))) : w.heap.size ≤ gb434)); have n5_ := qa ((by rw [hg]; exact Nat.ne_of_lt (blk_lt (g := gb433) (o := .cells #[.int .i64 a0_0, .slice A0_1 l0_1.length c0_1, .int .i64 a0_2] 31 (0, 0)) (by (with_reducible repeat first | apply ql | apply qn | apply qk); exact BK433.out)) : gb433 ≠ gb434)); have n6_ := qa ((by rw [hg]; exact Nat.ne_of_gt (blk_lt (g := gb433) (o := .cells #[.int .i64 a0_0, .slice A0_1 l0_1.length c0_1, .int .i64 a0_2] 31 (0, 0)) (by (with_reducible repeat first | apply ql | apply qn | apply qk); exact BK433.out)) : gb434 ≠ gb433)); clear BK433; clear HB; have BK433 := n0_; have HB := n1_; have BK434 := n2_; have GW434 := n3_; have GE434 := n4_; have NB433_434 := n5_; have NB434_433 := n6_; clear n0_ n1_ n2_ n3_ n4_ n5_ n6_; clear hb hbox hg; have hnb8 := NB433_434.out; have hnc8 := NB434_433.out; have hcz9_0 : w7.cell? ⟨gb433, 0, none⟩ = some (.int .i64 a0_0) := (qi BK433.out 0).trans rfl; have hcz9_1 : w7.cell? ⟨gb433, 1, none⟩ = some (.slice A0_1 l0_1.length c0_1) := (qi BK433.out 1).trans rfl; have hcz9_2 : w7.cell? ⟨gb433, 2, none⟩ = some (.int .i64 a0_2) := (qi BK433.out 2).trans rfl; have hfz9_0 := qo BK433.out 0; have hfz9_1 := qo BK433.out 1; have hfz9_2 := qo BK433.out 2; have hcz10_0 : w7.cell? ⟨gb434, 0, none⟩ = some (.int .i64 a1_0) := (qi BK434.out 0).trans rfl; have hcz10_1 : w7.cell? ⟨gb434, 1, none⟩ = some (.slice A1_1 l1_1.length c1_1) := (qi BK434.out 1).trans rfl; have hcz10_2 : w7.cell? ⟨gb434, 2, none⟩ = some (.int .i64 a1_2) := (qi BK434.out 2).trans rfl; have hfz10_0 := qo BK434.out 0; have hfz10_1 := qo BK434.out 1; have hfz10_2 := qo BK434.out 2) | (go_at_call 49; (with_reducible refine (impl_Foot.calls k _ _ l0_1 _ _ l1_1 t435 _ ?side1 ?side2 ?side3 ?side4 A5.out).mono ?_); (case side1 => repeat (first | exact (qab HR0_1.out HB.out) | (with_reducible first | apply qka | apply qla | apply qma))); (case side2 => exact HC0_1.out); (case side3 => repeat (first | exact (qab HR1_1.out HB.out) | (with_reducible first | apply qka | apply qla | apply qma))); (case side4 => exact HC1_1.out); rintro e w' ⟨rfl, ⟨nd, rfl⟩⟩))
   go_ret; exact ⟨by first | rfl | (simp [*] <;> rfl), by repeat (first | (with_reducible first | exact HB.out | apply qh | apply qe | apply qg | refine qj ?_ GE433.out | refine qj ?_ GE434.out) | exact HB.out)⟩
  ·rw [if_neg c4] at H
   have c4b0 : (a0_2 == a1_2) = false := zd c4; have c4b1 : (a0_2 != a1_2) = true := zf c4; obtain rfl := qia H; go_enter Tryd.func24, Tryd.ntmps24
   go_wp2_with (first | ((with_reducible refine gate_dst (N := 2) rfl ?_); refine box_event ?hg (N := 2) ?hd (cs := #[.int .i64 a0_0, .slice A0_1 l0_1.length c0_1, .int .i64 a0_2]) (t := 31) ?hr ?_; (case hd => rfl); (case hg => rfl); (case hr => first | (go_simp; done) | (go_simp; rfl)); intro gb433 hg w11 hbox hb; have n0_ := qa (qha (by repeat (first | (with_reducible first | exact HB.out | apply qh | apply qe | apply qg) | exact HB.out)) hb); have n1_ := qa (hbox); have n2_ := qa ((by rw [hg]; exact (qp (by repeat (first | (with_reducible first | exact HB.out | apply qh | apply qe | apply qg) | exact HB.out))) : w.heap.size ≤ gb433)); have n3_ := qa ((by rw [hg]; exact (qp (by repeat (first | (with_reducible first | exact HB.out | apply qh | apply qe | apply qg) | exact HB.out))) : w.heap.size ≤ gb433)); clear HB; have HB := n0_; have BK433 := n1_; have GW433 := n2_; have GE433 := n3_; clear n0_ n1_ n2_ n3_; clear hb hbox hg) | ((with_reducible refine gate_dst (N := 3) rfl ?_); refine box_event ?hg (N := 3) ?hd (cs := #[.int .i64 a1_0, .slice A1_1 l1_1.length c1_1, .int .i64 a1_2]) (t := 31) ?hr ?_; (case hd => rfl); (case hg => rfl); (case hr => first | (go_simp; done) | (go_simp; rfl)); intro gb434 hg w12 hbox hb; have n0_ := qa (qja (g := gb433) (o := .cells #[.int .i64 a0_0, .slice A0_1 l0_1.length c0_1, .int .i64 a0_2] 31 (0, 0)) (by (with_reducible repeat first | apply ql | apply qn | apply qk); exact BK433.out) hb); have n1_ := qa (qha (by repeat (first | (with_reducible first | exact HB.out | apply qh | apply qe | apply qg | refine qj ?_ GE433.out) | exact HB.out)) hb); have n2_ := qa (hbox); have n3_ := qa ((by rw [hg]; exact (qp (by repeat (first | (with_reducible first | exact HB.out | apply qh | apply qe | apply qg | refine qj ?_ GE433.out) | exact HB.out))) : w.heap.size ≤ gb434)); have n4_ := qa ((by rw [hg]; exact (qp (by repeat (first | (with_reducible first | exact HB.out | apply qh | apply qe | apply qg | refine qj ?_ GE433.out) | exact HB.out))) : w.heap.size ≤ gb434)); have n5_ := qa ((by rw [hg]; exact Nat.ne_of_lt (blk_lt (g := gb433) (o := .cells #[.int .i64 a0_0, .slice A0_1 l0_1.length c0_1, .int .i64 a0_2] 31 (0, 0)) (by (with_reducible repeat first | apply ql | apply qn | apply qk); exact BK433.out)) : gb433 ≠ gb434)); have n6_ := qa ((by rw [hg]; exact Nat.ne_of_gt (blk_lt (g := gb433) (o := .cells #[.int .i64 a0_0, .slice A0_1 l0_1.length c0_1, .int .i64 a0_2] 31 (0, 0)) (by (with_reducible repeat first | apply ql | apply qn | apply qk); exact BK433.out)) : gb434 ≠ gb433)); clear BK433; clear HB; have BK433 := n0_; have HB := n1_; have BK434 := n2_; have GW434 := n3_; have GE434 := n4_; have NB433_434 := n5_; have NB434_433 := n6_; clear n0_ n1_ n2_ n3_ n4_ n5_ n6_; clear hb hbox hg; have hnb13 := NB433_434.out; have hnc13 := NB434_433.out; have hcz14_0 : w12.cell? ⟨gb433, 0, none⟩ = some (.int .i64 a0_0) := (qi BK433.out 0).trans rfl; have hcz14_1 : w12.cell? ⟨gb433, 1, none⟩ = some (.slice A0_1 l0_1.length c0_1) := (qi BK433.out 1).trans rfl; have hcz14_2 : w12.cell? ⟨gb433, 2, none⟩ = some (.int .i64 a0_2) := (qi BK433.out 2).trans rfl; have hfz14_0 := qo BK433.out 0; have hfz14_1 := qo BK433.out 1; have hfz14_2 := qo BK433.out 2; have hcz15_0 : w12.cell? ⟨gb434, 0, none⟩ = some (.int .i64 a1_0) := (qi BK434.out 0).trans rfl; have hcz15_1 : w12.cell? ⟨gb434, 1, none⟩ = some (.slice A1_1 l1_1.length c1_1) := (qi BK434.out 1).trans rfl; have hcz15_2 : w12.cell? ⟨gb434, 2, none⟩ = some (.int .i64 a1_2) := (qi BK434.out 2).trans rfl; have hfz15_0 := qo BK434.out 0; have hfz15_1 := qo BK434.out 1; have hfz15_2 := qo BK434.out 2))
   go_ret; exact ⟨by first | rfl | (simp [*] <;> rfl), by repeat (first | (with_reducible first | exact HB.out | apply qh | apply qe | apply qg | refine qj ?_ GE433.out | refine qj ?_ GE434.out) | exact HB.out)⟩
 ·rw [if_neg c3] at H
  have c3b0 : (a0_0 == a1_0) = false := zd c3; have c3b1 : (a0_0 != a1_0) = true := zf c3; obtain rfl := qia H; go_enter Tryd.func24, Tryd.ntmps24
  go_wp2_with (first | ((with_reducible refine gate_dst (N := 2) rfl ?_); refine box_event ?hg (N := 2) ?hd (cs := #[.int .i64 a0_0, .slice A0_1 l0_1.length c0_1, .int .i64 a0_2]) (t := 31) ?hr ?_; (case hd => rfl); (case hg => rfl); (case hr => first | (go_simp; done) | (go_simp; rfl)); intro gb433 hg w16 hbox hb; have n0_ := qa (qha (by repeat (first | (with_reducible first | exact HB.out | apply qh | apply qe | apply qg) | exact HB.out)) hb); have n1_ := qa (hbox); have n2_ := qa ((by rw [hg]; exact (qp (by repeat (first | (with_reducible first | exact HB.out | apply qh | apply qe | apply qg) | exact HB.out))) : w.heap.size ≤ gb433)); have n3_ := qa ((by rw [hg]; exact (qp (by repeat (first | (with_reducible first | exact HB.out | apply qh | apply qe | apply qg) | exact HB.out))) : w.heap.size ≤ gb433)); clear HB; have HB := n0_; have BK433 := n1_; have GW433 := n2_; have GE433 := n3_; clear n0_ n1_ n2_ n3_; clear hb hbox hg) | ((with_reducible refine gate_dst (N := 3) rfl ?_); refine box_event ?hg (N := 3) ?hd (cs := #[.int .i64 a1_0, .slice A1_1 l1_1.length c1_1, .int .i64 a1_2]) (t := 31) ?hr ?_; (case hd => rfl); (case hg => rfl); (case hr => first | (go_simp; done) | (go_simp; rfl)); intro gb434 hg w17 hbox hb; have n0_ := qa (qja (g := gb433) (o := .cells #[.int .i64 a0_0, .slice A0_1 l0_1.length c0_1, .int .i64 a0_2] 31 (0, 0)) (by (with_reducible repeat first | apply ql | apply qn | apply qk); exact BK433.out) hb); have n1_ := qa (qha (by repeat (first | (with_reducible first | exact HB.out | apply qh | apply qe | apply qg | refine qj ?_ GE433.out) | exact HB.out)) hb); have n2_ := qa (hbox); have n3_ := qa ((by rw [hg]; exact (qp (by repeat (first | (with_reducible first | exact HB.out | apply qh | apply qe | apply qg | refine qj ?_ GE433.out) | exact HB.out))) : w.heap.size ≤ gb434)); have n4_ := qa ((by rw [hg]; exact (qp (by repeat (first | (with_reducible first | exact HB.out | apply qh | apply qe | apply qg | refine qj ?_ GE433.out) | exact HB.out))) : w.heap.size ≤ gb434)); have n5_ := qa ((by rw [hg]; exact Nat.ne_of_lt (blk_lt (g := gb433) (o := .cells #[.int .i64 a0_0, .slice A0_1 l0_1.length c0_1, .int .i64 a0_2] 31 (0, 0)) (by (with_reducible repeat first | apply ql | apply qn | apply qk); exact BK433.out)) : gb433 ≠ gb434)); have n6_ := qa ((by rw [hg]; exact Nat.ne_of_gt (blk_lt (g := gb433) (o := .cells #[.int .i64 a0_0, .slice A0_1 l0_1.length c0_1, .int .i64 a0_2] 31 (0, 0)) (by (with_reducible repeat first | apply ql | apply qn | apply qk); exact BK433.out)) : gb434 ≠ gb433)); clear BK433; clear HB; have BK433 := n0_; have HB := n1_; have BK434 := n2_; have GW434 := n3_; have GE434 := n4_; have NB433_434 := n5_; have NB434_433 := n6_; clear n0_ n1_ n2_ n3_ n4_ n5_ n6_; clear hb hbox hg; have hnb18 := NB433_434.out; have hnc18 := NB434_433.out; have hcz19_0 : w17.cell? ⟨gb433, 0, none⟩ = some (.int .i64 a0_0) := (qi BK433.out 0).trans rfl; have hcz19_1 : w17.cell? ⟨gb433, 1, none⟩ = some (.slice A0_1 l0_1.length c0_1) := (qi BK433.out 1).trans rfl; have hcz19_2 : w17.cell? ⟨gb433, 2, none⟩ = some (.int .i64 a0_2) := (qi BK433.out 2).trans rfl; have hfz19_0 := qo BK433.out 0; have hfz19_1 := qo BK433.out 1; have hfz19_2 := qo BK433.out 2; have hcz20_0 : w17.cell? ⟨gb434, 0, none⟩ = some (.int .i64 a1_0) := (qi BK434.out 0).trans rfl; have hcz20_1 : w17.cell? ⟨gb434, 1, none⟩ = some (.slice A1_1 l1_1.length c1_1) := (qi BK434.out 1).trans rfl; have hcz20_2 : w17.cell? ⟨gb434, 2, none⟩ = some (.int .i64 a1_2) := (qi BK434.out 2).trans rfl; have hfz20_0 := qo BK434.out 0; have hfz20_1 := qo BK434.out 1; have hfz20_2 := qo BK434.out 2))
  go_ret; exact ⟨by first | rfl | (simp [*] <;> rfl), by repeat (first | (with_reducible first | exact HB.out | apply qh | apply qe | apply qg | refine qj ?_ GE433.out | refine qj ?_ GE434.out) | exact HB.out)⟩
end Go.Proofs.YtkjpbhncgjhfeaaDoor.PFnFeet
