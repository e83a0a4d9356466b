import Derived.Test.YtkjpbhncgjhfeaaDoorPFnFeetx0
import Derived.Test.YtkjpbhncgjhfeaaDoorPFnFeetx6
namespace Go.Proofs.YtkjpbhncgjhfeaaDoor.PFnFeet
open Go.RowKit Go.Proofs.YtkjpbhncgjhfeaaDoorW.PrintWords Go.Proofs.YtkjpbhncgjhfeaaDoorW.PrintLast Go.Proofs.YtkjpbhncgjhfeaaDoorW.PrintMore
attribute [local go_sem] max2_int min2_int max_two min_two max_three min_three max_four min_four
set_option linter.unusedVariables false
set_option linter.unusedSimpArgs false
set_option maxHeartbeats 8000000
set_option maxRecDepth 100000
def impl_FootMarks.l0 : Nat → List Int → List (S59) → Int → Int → Option (List Int)
 | 0, _, _, _, _ => none
 | k + 1, x3, x36, x37, x38 => if x38 < x37 then (if 0 ≤ x38 then (if x38 < (x36.length : Int) then (if 0 < (x3.length : Int) then ((some (x3.set (0 : Int).toNat (wrap64 ((rd x3 0) - ((rd_T59 x36 x38).f1))) : List Int)).bind fun y346 => (if ((rd_T59 x36 x38).f1) = 1 then (if 1 < (x3.length : Int) then (impl_FootMarks.l0 k (y346.set (1 : Int).toNat (wrap64 ((rd y346 1) + 1))) x36 x37 (wrap64 (x38 + 1))) else (none)) else (if ((rd_T59 x36 x38).f2) = 1 then (if 2 < (x3.length : Int) then (impl_FootMarks.l0 k (y346.set (2 : Int).toNat (wrap64 ((rd y346 2) + 1))) x36 x37 (wrap64 (x38 + 1))) else (none)) else (if 3 < (x3.length : Int) then (impl_FootMarks.l0 k (y346.set (3 : Int).toNat (wrap64 ((rd y346 3) + 1))) x36 x37 (wrap64 (x38 + 1))) else (none))))) else (none)) else (none)) else (none)) else (some x3)
def impl_FootMarks.f (k : Nat) (a0_0 : Int) (l0_1 : List (S59)) (a0_2 : Int) : Option (List Int) := (impl_IsFooting.f k a0_0 l0_1 a0_2).bind fun t336 => (if t336 = true then (if 0 < (l0_1.length : Int) then (if 0 ≤ a0_2 then (if a0_2 < (l0_1.length : Int) then (impl_FootMarks.l0 k (([a0_0, 0, 0, 0, (rd_T59 l0_1 0).f0, wrap64 ((wrap64 (a0_0 - ((rd_T59 l0_1 a0_2).f0))) - ((rd_T59 l0_1 a0_2).f1))] : List Int)) l0_1 (l0_1.length : Int) 0) else (none)) else (none)) else (none)) else (some ([] : List Int)))
theorem impl_FootMarks.mono_l : ∀ k, (∀ y0 y1 y2 y3, LeO (impl_FootMarks.l0 k y0 y1 y2 y3) (impl_FootMarks.l0 (k + 1) y0 y1 y2 y3))
 | 0 => fun _ _ _ _ r h => by simp [impl_FootMarks.l0] at h
 | k + 1 => by
  have ih0 := impl_FootMarks.mono_l k
  ·intro y0 y1 y2 y3
   unfold impl_FootMarks.l0
   repeat' first
   | (with_reducible exact ih0 _ _ _ _)
   | (with_reducible exact impl_IsFooting.mono _ _ _ _)
   | (with_reducible exact LeO.refl _)
   | (with_reducible exact LeO.none _)
   | (with_reducible refine LeO.ite ?_ ?_)
   | (with_reducible refine LeO.bind ?_ (fun _ => ?_))
   | exact ih0 _ _ _ _
   | exact impl_IsFooting.mono _ _ _ _
   | exact LeO.none _
   | refine LeO.ite ?_ ?_
   | refine LeO.bind ?_ (fun _ => ?_)
theorem impl_FootMarks.mono : ∀ a0 a1 a2 k, LeO (impl_FootMarks.f k a0 a1 a2) (impl_FootMarks.f (k + 1) a0 a1 a2) := by
 intro a0 a1 a2 k; have ih0 := impl_FootMarks.mono_l k; unfold impl_FootMarks.f
 repeat' first
   | (with_reducible exact ih0 _ _ _ _)
   | (with_reducible exact impl_IsFooting.mono _ _ _ _)
   | (with_reducible exact LeO.refl _)
   | (with_reducible exact LeO.none _)
   | (with_reducible refine LeO.ite ?_ ?_)
   | (with_reducible refine LeO.bind ?_ (fun _ => ?_))
   | exact ih0 _ _ _ _
   | exact impl_IsFooting.mono _ _ _ _
   | exact LeO.none _
   | refine LeO.ite ?_ ?_
   | refine LeO.bind ?_ (fun _ => ?_)
def impl_FootMarks.T3 : Bool × List (List Nat × List Nat) := (true, [([], []), ([0], [0]), ([], []), ([2], [2]), ([3], [3]), ([4], [4]), ([5], [5]), ([], []), ([7], [7]), ([], []), ([9], [9]), ([], []), ([11], [11]), ([10, 12], [10, 12]), ([13], [13]), ([14], [14]), ([8, 15], [8, 15]), ([], []), ([17], [17]), ([], []), ([19], [19]), ([18, 20], [18, 20]), ([21], [21]), ([22], [22]), ([16, 23], [16, 23]), ([1, 6, 24], [1, 6, 24]), ([25, 0, 1, 2, 3, 4, 5, 6, 7, 8, 9, 10, 11, 12, 13, 14, 15, 16, 17, 18, 19, 20, 21, 22, 23, 24, 25], [25])])
def impl_FootMarks.B3 : List Nat := [0, 1, 0, 4, 12, 28, 60, 0, 128, 0, 512, 0, 2048, 7680, 15872, 32256, 65408, 0, 131072, 0, 524288, 1966080, 4063232, 8257536, 16777088, 33554431, 67108863]
theorem impl_FootMarks.tab3 : rtab .any (opsOf Tryd.f17 3) = impl_FootMarks.T3 := by kernel_rfl
theorem impl_FootMarks.bits3 : waitsOk impl_FootMarks.T3.2 impl_FootMarks.B3 = true := by kernel_rfl
def impl_FootMarks.T7 : Bool × List (List Nat × List Nat) := (true, [([], []), ([0], [0]), ([1], [1]), ([], []), ([3], [3]), ([2, 4], [2, 4]), ([0, 0, 1, 2, 3, 4, 5], [0]), ([6, 5, 0, 1, 2, 3, 4, 5], [5, 6])])
def impl_FootMarks.B7 : List Nat := [0, 1, 3, 0, 8, 31, 63, 127]
theorem impl_FootMarks.tab7 : rtab .any (opsOf Tryd.f17 7) = impl_FootMarks.T7 := by kernel_rfl
theorem impl_FootMarks.bits7 : waitsOk impl_FootMarks.T7.2 impl_FootMarks.B7 = true := by kernel_rfl
theorem impl_FootMarks.calls (k : Nat) (a0_0 : Int) (A0_1 : Option Addr) (c0_1 : Nat) (l0_1 : List (S59)) (a0_2 : Int) (r : List Int) (w : World) (hr0_1 : Kd.C k59 w A0_1 l0_1.length l0_1) (hc0_1 : l0_1.length ≤ c0_1) (h : impl_FootMarks.f k a0_0 l0_1 a0_2 = some r) :
  Calls Tryd.prog 17 #[.agg #[.int .i64 a0_0, .slice A0_1 l0_1.length c0_1, .int .i64 a0_2]] w fun e w' => ∃ v0_ : Value, e = .returned (v0_) ∧ Kd.R (Kd.int .i64) 3 w' w.heap.size (fun _ => True) v0_ r ∧ Below w.heap.size w w' := by
 have hu31 := Tryd.underlying31; have hu59 := Tryd.underlying59; have HR0_1 := qa hr0_1; have HC0_1 := qa hc0_1; clear hr0_1 hc0_1; have HB := qa (qsb w.heap.size w); have H := h; unfold impl_FootMarks.f at H; clear h; obtain ⟨t336, A20, H⟩ := zb H; (try dsimp only at H); have A2 := qa A20; clear A20
 by_cases c3 : t336 = true
 ·subst c3
  rw [if_pos rfl] at H; have H1 := H; clear H; have H := H1; clear H1
  by_cases c4 : 0 < (l0_1.length : Int)
  ·rw [if_pos c4] at H
   have c4b0 : decide (0 < (l0_1.length : Int)) = true := qq c4; have c4b1 : decide (0 < l0_1.length) = true := qq (by omega); clear c4
   by_cases c5 : 0 ≤ a0_2
   ·rw [if_pos c5] at H
    have c5b0 : decide (0 ≤ a0_2) = true := qq c5; clear c5
    by_cases c6 : a0_2 < (l0_1.length : Int)
    ·rw [if_pos c6] at H
     have c6b0 : decide (a0_2 < (l0_1.length : Int)) = true := qq c6; clear c6
     obtain ⟨y340, hy340⟩ : ∃ y_ : List Int, y_ = (([a0_0, 0, 0, 0, (rd_T59 l0_1 0).f0, wrap64 ((wrap64 (a0_0 - ((rd_T59 l0_1 a0_2).f0))) - ((rd_T59 l0_1 a0_2).f1))] : List Int)) := ⟨_, rfl⟩
     replace H : (impl_FootMarks.l0 k y340 l0_1 (l0_1.length : Int) 0) = some r := by first | (rw [hy340]; with_reducible exact H) | (have H2_ := (Option.bind_some _ _).symm.trans H; rw [hy340]; with_reducible exact H2_) | (have H2_ := (Option.bind_some _ _).symm.trans H; with_reducible exact H2_) | with_reducible exact H | (rw [hy340]; exact H) | exact H
     have Ny340 := qa hy340; clear hy340; have H' := qa H; clear H; go_enter Tryd.func17, Tryd.ntmps17
     try go_wp2_with (first | ((with_reducible refine gate_dst (N := 1) rfl ?_); refine box_event ?hg (N := 1) ?hd (cs := #[.int .i64 a0_0, .slice A0_1 l0_1.length c0_1, .int .i64 a0_2]) (t := 31) ?hr ?_; (case hd => rfl); (case hg => rfl); (case hr => first | (go_simp; done) | (go_simp; rfl)); intro gb335 hg w7 hbox hb; have n0_ := qa (qha (by repeat (first | (with_reducible first | exact HB.out | apply qh | apply qe | apply qg) | exact HB.out)) hb); have n1_ := qa (hbox); have n2_ := qa ((by rw [hg]; exact (qp (by repeat (first | (with_reducible first | exact HB.out | apply qh | apply qe | apply qg) | exact HB.out))) : w.heap.size ≤ gb335)); have n3_ := qa ((by rw [hg]; exact (qp (by repeat (first | (with_reducible first | exact HB.out | apply qh | apply qe | apply qg) | exact HB.out))) : w.heap.size ≤ gb335)); clear HB; have HB := n0_; have BK335 := n1_; have GW335 := n2_; have GE335 := n3_; clear n0_ n1_ n2_ n3_; clear hb hbox hg; have hcz8_0 : w7.cell? ⟨gb335, 0, none⟩ = some (.int .i64 a0_0) := (qi BK335.out 0).trans rfl; have hcz8_1 : w7.cell? ⟨gb335, 1, none⟩ = some (.slice A0_1 l0_1.length c0_1) := (qi BK335.out 1).trans rfl; have hcz8_2 : w7.cell? ⟨gb335, 2, none⟩ = some (.int .i64 a0_2) := (qi BK335.out 2).trans rfl; have hfz8_0 := qo BK335.out 0; have hfz8_1 := qo BK335.out 1; have hfz8_2 := qo BK335.out 2) | ((with_reducible refine qeb (f := 10) rfl ?_); refine goesL_ (some 7) rfl rfl Tryd.func10 (by kernel_rfl) rfl #[.agg #[.int .i64 a0_0, .slice A0_1 l0_1.length c0_1, .int .i64 a0_2]] rfl (by (try simp only [qs, qv, qw]); first | done | rfl | (simp only [qu, qt]; rfl)) ?_; (with_reducible refine (impl_IsFooting.calls k a0_0 _ _ l0_1 a0_2 true _ ?side1 ?side2 A2.out).mono ?_); (case side1 => repeat (first | exact (qab HR0_1.out HB.out) | (with_reducible first | apply qka | apply qla | apply qma))); (case side2 => exact HC0_1.out); rintro e w9 ⟨rfl, hb⟩; refine ⟨_, rfl, ?_⟩; have n0_ := qa (qja (g := gb335) (o := .cells #[.int .i64 a0_0, .slice A0_1 l0_1.length c0_1, .int .i64 a0_2] 31 (0, 0)) (by (with_reducible repeat first | apply ql | apply qn | apply qk); exact BK335.out) hb); have n1_ := qa (qha (by repeat (first | (with_reducible first | exact HB.out | apply qh | apply qe | apply qg | refine qj ?_ GE335.out) | exact HB.out)) hb); clear BK335; clear HB; have BK335 := n0_; have HB := n1_; clear n0_ n1_; (try clear hb); (try clear hb2); (try clear hk); (try clear hi)))
     have n0_ := qa (qn BK335.out); have n1_ := qa (qg HB.out); clear BK335 HB; have BK335 := n0_; have HB := n1_; clear n0_ n1_
     have p337 : 0 ≤ (0 : Int) := (by omega)
     have q337 : 0 < (l0_1.length : Int) := qm (by assumption); obtain ⟨ad337, e337, hx337_0, hx337_1, hx337_2⟩ := at_T59 HR0_1.out 0 p337 q337; have hw337_2 := hx337_2; (try rw [show ((0 : Int)).toNat = 0 from rfl] at hw337_2); (try rw [show 0 * 3 = 0 from rfl] at hw337_2); (try rw [Addr.add_zero'] at hw337_2); have hw337_1 := hx337_1; (try rw [show ((0 : Int)).toNat = 0 from rfl] at hw337_1); (try rw [show 0 * 3 = 0 from rfl] at hw337_1); (try rw [Addr.add_zero'] at hw337_1); have hw337_0 := hx337_0; (try rw [show ((0 : Int)).toNat = 0 from rfl] at hw337_0); (try rw [show 0 * 3 = 0 from rfl] at hw337_0); (try rw [Addr.add_zero'] at hw337_0); cases e337; have qi337 : (0 < l0_1.length) = True := qga (by omega); (try rw [show ((0 : Int)).toNat = 0 from rfl] at hx337_0); (try rw [show 0 * 3 = 0 from rfl] at hx337_0); (try rw [Addr.add_zero'] at hx337_0); (try rw [show ((0 : Int)).toNat = 0 from rfl] at hx337_1); (try rw [show 0 * 3 = 0 from rfl] at hx337_1); (try rw [Addr.add_zero'] at hx337_1); (try rw [show ((0 : Int)).toNat = 0 from rfl] at hx337_2); (try rw [show 0 * 3 = 0 from rfl] at hx337_2); (try rw [Addr.add_zero'] at hx337_2); replace hx337_0 := (HB.out.cell (qf w _ hx337_0)).trans hx337_0; replace hx337_1 := (HB.out.cell (qf w _ hx337_1)).trans hx337_1; replace hx337_2 := (HB.out.cell (qf w _ hx337_2)).trans hx337_2; replace p337 := qga p337; replace q337 := qga q337; have p338 : 0 ≤ (a0_2 : Int) := qm (by assumption); have q338 : a0_2 < (l0_1.length : Int) := qm (by assumption); obtain ⟨ad338, e338, hx338_0, hx338_1, hx338_2⟩ := at_T59 HR0_1.out a0_2 p338 q338; have hw338_2 := hx338_2; have hw338_1 := hx338_1; have hw338_0 := hx338_0
     obtain rfl : ad337 = ad338 := (by injection e338)
     replace hx338_0 := (HB.out.cell (qf w _ hx338_0)).trans hx338_0; replace hx338_1 := (HB.out.cell (qf w _ hx338_1)).trans hx338_1; replace hx338_2 := (HB.out.cell (qf w _ hx338_2)).trans hx338_2; replace p338 := qga p338; replace q338 := qga q338; have p339 : 0 ≤ (a0_2 : Int) := qm (by assumption); have q339 : a0_2 < (l0_1.length : Int) := qm (by assumption); obtain ⟨ad339, e339, hx339_0, hx339_1, hx339_2⟩ := at_T59 HR0_1.out a0_2 p339 q339; have hw339_2 := hx339_2; have hw339_1 := hx339_1; have hw339_0 := hx339_0
     obtain rfl : ad337 = ad339 := (by injection e339)
     replace hx339_0 := (HB.out.cell (qf w _ hx339_0)).trans hx339_0; replace hx339_1 := (HB.out.cell (qf w _ hx339_1)).trans hx339_1; replace hx339_2 := (HB.out.cell (qf w _ hx339_2)).trans hx339_2; replace p339 := qga p339; replace q339 := qga q339; refine start_ (n := 27) (S := fun w' => w'.cell? ⟨gb335, 0, none⟩ = some (.int .i64 a0_0) ∧ w'.cell? ⟨gb335, 1, none⟩ = some (.slice (some ad337) l0_1.length c0_1) ∧ w'.cell? ⟨gb335, 2, none⟩ = some (.int .i64 a0_2) ∧ w'.cell? ad337 = some (.int .i64 ((rd_T59 l0_1 0).f0)) ∧ w'.cell? ⟨ad337.block, ad337.off + 1, none⟩ = some (.int .i64 ((rd_T59 l0_1 0).f1)) ∧ w'.cell? ⟨ad337.block, ad337.off + 2, none⟩ = some (.int .i64 ((rd_T59 l0_1 0).f2)) ∧ w'.cell? (ad337.add ((a0_2).toNat * 3)) = some (.int .i64 ((rd_T59 l0_1 a0_2).f0)) ∧ w'.cell? ⟨(ad337.add ((a0_2).toNat * 3)).block, (ad337.add ((a0_2).toNat * 3)).off + 1, none⟩ = some (.int .i64 ((rd_T59 l0_1 a0_2).f1)) ∧ w'.cell? ⟨(ad337.add ((a0_2).toNat * 3)).block, (ad337.add ((a0_2).toNat * 3)).off + 2, none⟩ = some (.int .i64 ((rd_T59 l0_1 a0_2).f2)) ∧ w'.cell? (ad337.add ((a0_2).toNat * 3)) = some (.int .i64 ((rd_T59 l0_1 a0_2).f0)) ∧ w'.cell? ⟨(ad337.add ((a0_2).toNat * 3)).block, (ad337.add ((a0_2).toNat * 3)).off + 1, none⟩ = some (.int .i64 ((rd_T59 l0_1 a0_2).f1)) ∧ w'.cell? ⟨(ad337.add ((a0_2).toNat * 3)).block, (ad337.add ((a0_2).toNat * 3)).off + 2, none⟩ = some (.int .i64 ((rd_T59 l0_1 a0_2).f2))) (ds := []) #[false, false, false, false, false, false, false, false, false, false, false, false, false, false, false, false, false, false, false, false, false, false, false, false, false, false, false] (by kernel_rfl) rfl rfl ⟨(qi BK335.out 0).trans rfl, (qi BK335.out 1).trans rfl, (qi BK335.out 2).trans rfl, ((HB.out.cell (qf w _ hw337_0)).trans hw337_0), ((HB.out.cell (qf w _ hw337_1)).trans hw337_1), ((HB.out.cell (qf w _ hw337_2)).trans hw337_2), ((HB.out.cell (qf w _ hw338_0)).trans hw338_0), ((HB.out.cell (qf w _ hw338_1)).trans hw338_1), ((HB.out.cell (qf w _ hw338_2)).trans hw338_2), ((HB.out.cell (qf w _ hw339_0)).trans hw339_0), ((HB.out.cell (qf w _ hw339_1)).trans hw339_1), ((HB.out.cell (qf w _ hw339_2)).trans hw339_2)⟩ (fun hHeld => ?_); refine with_tabW impl_FootMarks.tab3 impl_FootMarks.bits3 (fun HT_ HW_ => ?_); generalize w9.drew = w10 at BK335 HB hx337_0 hx337_1 hx337_2 hx338_0 hx338_1 hx338_2 hx339_0 hx339_1 hx339_2 hHeld ⊢; refine pure_ (i := 0) (N := some 9) (v := ?_) (a' := ?_) #[true, false, false, false, false, false, false, false, false, false, false, false, false, false, false, false, false, false, false, false, false, false, false, false, false, false, false] rfl rfl (qua HT_.out (by kernel_rfl)) (fun _ _ _ h => h) (Or.inl ⟨by rfl, ?_⟩) ?_ ?_; rotate_left
     ·intro w'
      go_simp; with_reducible rfl
     rotate_left
     ·simp only [Act.put, qb, qc, qd, i64_w, i32_w]
      rfl
     refine pure_ (i := 2) (N := some 11) (v := ?_) (a' := ?_) #[true, false, true, false, false, false, false, false, false, false, false, false, false, false, false, false, false, false, false, false, false, false, false, false, false, false, false] rfl rfl (qua HT_.out (by kernel_rfl)) (fun _ _ _ h => h) (Or.inl ⟨by rfl, ?_⟩) ?_ ?_; rotate_left
     ·intro w'
      go_simp; with_reducible rfl
     rotate_left
     ·simp only [Act.put, qb, qc, qd, i64_w, i32_w]
      rfl
     refine pure_ (i := 7) (N := some 16) (v := ?_) (a' := ?_) #[true, false, true, false, false, false, false, true, false, false, false, false, false, false, false, false, false, false, false, false, false, false, false, false, false, false, false] rfl rfl (qua HT_.out (by kernel_rfl)) (fun _ _ _ h => h) (Or.inl ⟨by rfl, ?_⟩) ?_ ?_; rotate_left
     ·intro w'
      go_simp; with_reducible rfl
     rotate_left
     ·simp only [Act.put, qb, qc, qd, i64_w, i32_w]
      rfl
     refine pure_ (i := 9) (N := some 18) (v := ?_) (a' := ?_) #[true, false, true, false, false, false, false, true, false, true, false, false, false, false, false, false, false, false, false, false, false, false, false, false, false, false, false] rfl rfl (qua HT_.out (by kernel_rfl)) (fun _ _ _ h => h) (Or.inl ⟨by rfl, ?_⟩) ?_ ?_; rotate_left
     ·intro w'
      go_simp; with_reducible rfl
     rotate_left
     ·simp only [Act.put, qb, qc, qd, i64_w, i32_w]
      rfl
     refine pure_ (i := 11) (N := some 20) (v := ?_) (a' := ?_) #[true, false, true, false, false, false, false, true, false, true, false, true, false, false, false, false, false, false, false, false, false, false, false, false, false, false, false] rfl rfl (qua HT_.out (by kernel_rfl)) (fun _ _ _ h => h) (Or.inl ⟨by rfl, ?_⟩) ?_ ?_; rotate_left
     ·intro w'
      go_simp; with_reducible rfl
     rotate_left
     ·simp only [Act.put, qb, qc, qd, i64_w, i32_w]
      rfl
     refine pure_ (i := 17) (N := some 26) (v := ?_) (a' := ?_) #[true, false, true, false, false, false, false, true, false, true, false, true, false, false, false, false, false, true, false, false, false, false, false, false, false, false, false] rfl rfl (qua HT_.out (by kernel_rfl)) (fun _ _ _ h => h) (Or.inl ⟨by rfl, ?_⟩) ?_ ?_; rotate_left
     ·intro w'
      go_simp; with_reducible rfl
     rotate_left
     ·simp only [Act.put, qb, qc, qd, i64_w, i32_w]
      rfl
     refine pure_ (i := 19) (N := some 28) (v := ?_) (a' := ?_) #[true, false, true, false, false, false, false, true, false, true, false, true, false, false, false, false, false, true, false, true, false, false, false, false, false, false, false] rfl rfl (qua HT_.out (by kernel_rfl)) (fun _ _ _ h => h) (Or.inl ⟨by rfl, ?_⟩) ?_ ?_; rotate_left
     ·intro w'
      go_simp; with_reducible rfl
     rotate_left
     ·simp only [Act.put, qb, qc, qd, i64_w, i32_w]
      rfl
     refine take_ (i := 1) (N := some 10) (v := ?_) (a' := ?_) #[true, true, true, false, false, false, false, true, false, true, false, true, false, false, false, false, false, true, false, true, false, false, false, false, false, false, false] rfl rfl (qva HT_.out HW_.out (by kernel_rfl)) (fun _ _ _ h => h) (Or.inl ⟨by rfl, ?_⟩) hHeld ?_ ?_; rotate_left
     ·rintro w' ⟨s0, s1, s2, s3, s4, s5, s6, s7, s8, s9, s10, s11⟩
      go_simp; with_reducible rfl
     rotate_left
     ·simp only [Act.put, qb, qc, qd, i64_w, i32_w]
      rfl
     refine take_ (i := 3) (N := some 12) (v := ?_) (a' := ?_) #[true, true, true, true, false, false, false, true, false, true, false, true, false, false, false, false, false, true, false, true, false, false, false, false, false, false, false] rfl rfl (qva HT_.out HW_.out (by kernel_rfl)) (fun _ _ _ h => h) (Or.inl ⟨by rfl, ?_⟩) hHeld ?_ ?_; rotate_left
     ·rintro w' ⟨s0, s1, s2, s3, s4, s5, s6, s7, s8, s9, s10, s11⟩
      go_simp; with_reducible rfl
     rotate_left
     ·simp only [Act.put, qb, qc, qd, i64_w, i32_w]
      rfl
     refine pure_ (i := 4) (N := some 13) (v := ?_) (a' := ?_) #[true, true, true, true, true, false, false, true, false, true, false, true, false, false, false, false, false, true, false, true, false, false, false, false, false, false, false] rfl rfl (qua HT_.out (by kernel_rfl)) (fun _ _ _ h => h) (Or.inl ⟨by rfl, ?_⟩) ?_ ?_; rotate_left
     ·intro w'
      go_simp; with_reducible rfl
     rotate_left
     ·simp only [Act.put, qb, qc, qd, i64_w, i32_w]
      rfl
     refine pure_ (i := 5) (N := some 14) (v := ?_) (a' := ?_) #[true, true, true, true, true, true, false, true, false, true, false, true, false, false, false, false, false, true, false, true, false, false, false, false, false, false, false] rfl rfl (qua HT_.out (by kernel_rfl)) (fun _ _ _ h => h) (Or.inl ⟨by rfl, ?_⟩) ?_ ?_; rotate_left
     ·intro w'
      go_simp; with_reducible rfl
     rotate_left
     ·simp only [Act.put, qb, qc, qd, i64_w, i32_w]
      rfl
     refine take_ (i := 6) (N := some 15) (v := ?_) (a' := ?_) #[true, true, true, true, true, true, true, true, false, true, false, true, false, false, false, false, false, true, false, true, false, false, false, false, false, false, false] rfl rfl (qva HT_.out HW_.out (by kernel_rfl)) (fun _ _ _ h => h) (Or.inl ⟨by rfl, ?_⟩) hHeld ?_ ?_; rotate_left
     ·rintro w' ⟨s0, s1, s2, s3, s4, s5, s6, s7, s8, s9, s10, s11⟩
      go_simp; with_reducible rfl
     rotate_left
     ·simp only [Act.put, qb, qc, qd, i64_w, i32_w]
      rfl
     refine take_ (i := 8) (N := some 17) (v := ?_) (a' := ?_) #[true, true, true, true, true, true, true, true, true, true, false, true, false, false, false, false, false, true, false, true, false, false, false, false, false, false, false] rfl rfl (qva HT_.out HW_.out (by kernel_rfl)) (fun _ _ _ h => h) (Or.inl ⟨by rfl, ?_⟩) hHeld ?_ ?_; rotate_left
     ·rintro w' ⟨s0, s1, s2, s3, s4, s5, s6, s7, s8, s9, s10, s11⟩
      go_simp; with_reducible rfl
     rotate_left
     ·simp only [Act.put, qb, qc, qd, i64_w, i32_w]
      rfl
     refine take_ (i := 10) (N := some 19) (v := ?_) (a' := ?_) #[true, true, true, true, true, true, true, true, true, true, true, true, false, false, false, false, false, true, false, true, false, false, false, false, false, false, false] rfl rfl (qva HT_.out HW_.out (by kernel_rfl)) (fun _ _ _ h => h) (Or.inl ⟨by rfl, ?_⟩) hHeld ?_ ?_; rotate_left
     ·rintro w' ⟨s0, s1, s2, s3, s4, s5, s6, s7, s8, s9, s10, s11⟩
      go_simp; with_reducible rfl
     rotate_left
     ·simp only [Act.put, qb, qc, qd, i64_w, i32_w]
      rfl
     refine take_ (i := 12) (N := some 21) (v := ?_) (a' := ?_) #[true, true, true, true, true, true, true, true, true, true, true, true, true, false, false, false, false, true, false, true, false, false, false, false, false, false, false] rfl rfl (qva HT_.out HW_.out (by kernel_rfl)) (fun _ _ _ h => h) (Or.inl ⟨by rfl, ?_⟩) hHeld ?_ ?_; rotate_left
     ·rintro w' ⟨s0, s1, s2, s3, s4, s5, s6, s7, s8, s9, s10, s11⟩
      go_simp; with_reducible rfl
     rotate_left
     ·simp only [Act.put, qb, qc, qd, i64_w, i32_w]
      rfl
     refine pure_ (i := 13) (N := some 22) (v := ?_) (a' := ?_) #[true, true, true, true, true, true, true, true, true, true, true, true, true, true, false, false, false, true, false, true, false, false, false, false, false, false, false] rfl rfl (qua HT_.out (by kernel_rfl)) (fun _ _ _ h => h) (Or.inl ⟨by rfl, ?_⟩) ?_ ?_; rotate_left
     ·intro w'
      go_simp; with_reducible rfl
     rotate_left
     ·simp only [Act.put, qb, qc, qd, i64_w, i32_w]
      rfl
     refine pure_ (i := 14) (N := some 23) (v := ?_) (a' := ?_) #[true, true, true, true, true, true, true, true, true, true, true, true, true, true, true, false, false, true, false, true, false, false, false, false, false, false, false] rfl rfl (qua HT_.out (by kernel_rfl)) (fun _ _ _ h => h) (Or.inl ⟨by rfl, ?_⟩) ?_ ?_; rotate_left
     ·intro w'
      go_simp; with_reducible rfl
     rotate_left
     ·simp only [Act.put, qb, qc, qd, i64_w, i32_w]
      rfl
     refine take_ (i := 15) (N := some 24) (v := ?_) (a' := ?_) #[true, true, true, true, true, true, true, true, true, true, true, true, true, true, true, true, false, true, false, true, false, false, false, false, false, false, false] rfl rfl (qva HT_.out HW_.out (by kernel_rfl)) (fun _ _ _ h => h) (Or.inl ⟨by rfl, ?_⟩) hHeld ?_ ?_; rotate_left
     ·rintro w' ⟨s0, s1, s2, s3, s4, s5, s6, s7, s8, s9, s10, s11⟩
      go_simp; with_reducible rfl
     rotate_left
     ·simp only [Act.put, qb, qc, qd, i64_w, i32_w]
      rfl
     refine pure_ (i := 16) (N := some 25) (v := ?_) (a' := ?_) #[true, true, true, true, true, true, true, true, true, true, true, true, true, true, true, true, true, true, false, true, false, false, false, false, false, false, false] rfl rfl (qua HT_.out (by kernel_rfl)) (fun _ _ _ h => h) (Or.inl ⟨by rfl, ?_⟩) ?_ ?_; rotate_left
     ·intro w'
      go_simp; with_reducible rfl
     rotate_left
     ·simp only [Act.put, qb, qc, qd, i64_w, i32_w]
      rfl
     refine take_ (i := 18) (N := some 27) (v := ?_) (a' := ?_) #[true, true, true, true, true, true, true, true, true, true, true, true, true, true, true, true, true, true, true, true, false, false, false, false, false, false, false] rfl rfl (qva HT_.out HW_.out (by kernel_rfl)) (fun _ _ _ h => h) (Or.inl ⟨by rfl, ?_⟩) hHeld ?_ ?_; rotate_left
     ·rintro w' ⟨s0, s1, s2, s3, s4, s5, s6, s7, s8, s9, s10, s11⟩
      go_simp; with_reducible rfl
     rotate_left
     ·simp only [Act.put, qb, qc, qd, i64_w, i32_w]
      rfl
     refine take_ (i := 20) (N := some 29) (v := ?_) (a' := ?_) #[true, true, true, true, true, true, true, true, true, true, true, true, true, true, true, true, true, true, true, true, true, false, false, false, false, false, false] rfl rfl (qva HT_.out HW_.out (by kernel_rfl)) (fun _ _ _ h => h) (Or.inl ⟨by rfl, ?_⟩) hHeld ?_ ?_; rotate_left
     ·rintro w' ⟨s0, s1, s2, s3, s4, s5, s6, s7, s8, s9, s10, s11⟩
      go_simp; with_reducible rfl
     rotate_left
     ·simp only [Act.put, qb, qc, qd, i64_w, i32_w]
      rfl
     refine pure_ (i := 21) (N := some 30) (v := ?_) (a' := ?_) #[true, true, true, true, true, true, true, true, true, true, true, true, true, true, true, true, true, true, true, true, true, true, false, false, false, false, false] rfl rfl (qua HT_.out (by kernel_rfl)) (fun _ _ _ h => h) (Or.inl ⟨by rfl, ?_⟩) ?_ ?_; rotate_left
     ·intro w'
      go_simp; with_reducible rfl
     rotate_left
     ·simp only [Act.put, qb, qc, qd, i64_w, i32_w]
      rfl
     refine pure_ (i := 22) (N := some 31) (v := ?_) (a' := ?_) #[true, true, true, true, true, true, true, true, true, true, true, true, true, true, true, true, true, true, true, true, true, true, true, false, false, false, false] rfl rfl (qua HT_.out (by kernel_rfl)) (fun _ _ _ h => h) (Or.inl ⟨by rfl, ?_⟩) ?_ ?_; rotate_left
     ·intro w'
      go_simp; with_reducible rfl
     rotate_left
     ·simp only [Act.put, qb, qc, qd, i64_w, i32_w]
      rfl
     refine take_ (i := 23) (N := some 32) (v := ?_) (a' := ?_) #[true, true, true, true, true, true, true, true, true, true, true, true, true, true, true, true, true, true, true, true, true, true, true, true, false, false, false] rfl rfl (qva HT_.out HW_.out (by kernel_rfl)) (fun _ _ _ h => h) (Or.inl ⟨by rfl, ?_⟩) hHeld ?_ ?_; rotate_left
     ·rintro w' ⟨s0, s1, s2, s3, s4, s5, s6, s7, s8, s9, s10, s11⟩
      go_simp; with_reducible rfl
     rotate_left
     ·simp only [Act.put, qb, qc, qd, i64_w, i32_w]
      rfl
     refine pure_ (i := 24) (N := some 33) (v := ?_) (a' := ?_) #[true, true, true, true, true, true, true, true, true, true, true, true, true, true, true, true, true, true, true, true, true, true, true, true, true, false, false] rfl rfl (qua HT_.out (by kernel_rfl)) (fun _ _ _ h => h) (Or.inl ⟨by rfl, ?_⟩) ?_ ?_; rotate_left
     ·intro w'
      go_simp; with_reducible rfl
     rotate_left
     ·simp only [Act.put, qb, qc, qd, i64_w, i32_w]
      rfl
     refine one_ (i := 25) (N := some 34) #[true, true, true, true, true, true, true, true, true, true, true, true, true, true, true, true, true, true, true, true, true, true, true, true, true, true, false] rfl rfl (qwa HT_.out (by kernel_rfl)) (by decide) (fun K hK => ?_); refine Kd.R_lit_step (Kd.int .i64) _ 3 ?hg (N := 34) ?hd (xs := ([a0_0, 0, 0, 0, (rd_T59 l0_1 0).f0, wrap64 ((wrap64 (a0_0 - ((rd_T59 l0_1 a0_2).f0))) - ((rd_T59 l0_1 a0_2).f1))] : List Int)) (inner := [.int .i64 a0_0, .int .i64 0, .int .i64 0, .int .i64 0, .int .i64 ((rd_T59 l0_1 0).f0), .int .i64 (wrap64 ((wrap64 (a0_0 - ((rd_T59 l0_1 a0_2).f0))) - ((rd_T59 l0_1 a0_2).f1)))]) (ok := fun _ => True) (okp := fun _ => True) ?hr ?hp (fun _ hk => hk) trivial (qsb _ _) (qqb _) (by simp) ?_; (case hd => rfl); (case hg => rfl); (case hr => first | (go_simp; done) | (go_simp; rfl)); (case hp => exact (Reps.one (show Kd.M (Kd.int .i64) _ _ _ a0_0 [.int .i64 a0_0] from rfl) (Reps.one (show Kd.M (Kd.int .i64) _ _ _ 0 [.int .i64 0] from rfl) (Reps.one (show Kd.M (Kd.int .i64) _ _ _ 0 [.int .i64 0] from rfl) (Reps.one (show Kd.M (Kd.int .i64) _ _ _ 0 [.int .i64 0] from rfl) (Reps.one (show Kd.M (Kd.int .i64) _ _ _ ((rd_T59 l0_1 0).f0) [.int .i64 ((rd_T59 l0_1 0).f0)] from rfl) (Reps.one (show Kd.M (Kd.int .i64) _ _ _ (wrap64 ((wrap64 (a0_0 - ((rd_T59 l0_1 a0_2).f0))) - ((rd_T59 l0_1 a0_2).f1))) [.int .i64 (wrap64 ((wrap64 (a0_0 - ((rd_T59 l0_1 a0_2).f0))) - ((rd_T59 l0_1 a0_2).f1)))] from rfl) (Reps.none _ _)))))))); intro v341 w11 ho12 hb hg_ hnew_; clear hg_ hnew_
     (first | rw [← Ny340.out] at ho12 | (simp only [Int.reduceToNat] at ho12; rw [← Ny340.out] at ho12))
     have n0_ := qa (qvb ho12 (qp (by repeat (first | (with_reducible first | exact HB.out | apply qh | apply qe | apply qg | refine qj ?_ GE335.out) | exact HB.out)))); have n1_ := qa (qja (g := gb335) (o := .cells #[.int .i64 a0_0, .slice (some ad337) l0_1.length c0_1, .int .i64 a0_2] 31 (0, 0)) (by (with_reducible repeat first | apply ql | apply qn | apply qk); exact BK335.out) hb); have n2_ := qa (qha (by repeat (first | (with_reducible first | exact HB.out | apply qh | apply qe | apply qg | refine qj ?_ GE335.out) | exact HB.out)) hb); clear BK335 HB; have HO342 := n0_; have BK335 := n1_; have HB := n2_; clear n0_ n1_ n2_ hb ho12; refine hK.out _ _ ⟨(qi BK335.out 0).trans rfl, (qi BK335.out 1).trans rfl, (qi BK335.out 2).trans rfl, ((HB.out.cell (qf w _ hw337_0)).trans hw337_0), ((HB.out.cell (qf w _ hw337_1)).trans hw337_1), ((HB.out.cell (qf w _ hw337_2)).trans hw337_2), ((HB.out.cell (qf w _ hw338_0)).trans hw338_0), ((HB.out.cell (qf w _ hw338_1)).trans hw338_1), ((HB.out.cell (qf w _ hw338_2)).trans hw338_2), ((HB.out.cell (qf w _ hw339_0)).trans hw339_0), ((HB.out.cell (qf w _ hw339_1)).trans hw339_1), ((HB.out.cell (qf w _ hw339_2)).trans hw339_2)⟩ (fun hHeld => ?_); clear hK K; refine norm_ (a' := ?_) ?_ ?_; rotate_left
     ·show Act.put _ (some 34) _ = _
      simp only [Act.put, qb, qc, qd, i64_w, i32_w]; rfl
     refine pure_ (i := 26) (N := some 3) (v := ?_) (a' := ?_) #[true, true, true, true, true, true, true, true, true, true, true, true, true, true, true, true, true, true, true, true, true, true, true, true, true, true, true] rfl rfl (qua HT_.out (by kernel_rfl)) (fun _ _ _ h => h) (Or.inl ⟨by rfl, ?_⟩) ?_ ?_; rotate_left
     ·intro w'
      go_simp; with_reducible rfl
     rotate_left
     ·simp only [Act.put, qb, qc, qd, i64_w, i32_w]
      rfl
     refine done_ (done_of HT_.out (by kernel_rfl)) ?_; have hcz13_0 : w11.cell? ⟨gb335, 0, none⟩ = some (.int .i64 a0_0) := (qi BK335.out 0).trans rfl; have hcz13_1 : w11.cell? ⟨gb335, 1, none⟩ = some (.slice (some ad337) l0_1.length c0_1) := (qi BK335.out 1).trans rfl; have hcz13_2 : w11.cell? ⟨gb335, 2, none⟩ = some (.int .i64 a0_2) := (qi BK335.out 2).trans rfl; have hfz13_0 := qo BK335.out 0; have hfz13_1 := qo BK335.out 1; have hfz13_2 := qo BK335.out 2
     try go_wp2
     go_loopg [38] k (fun kq v38 w' => ∃ (x3_1 : List Int) (x38_1 : Int), v38 = .int .i64 x38_1 ∧ Aside0 (impl_FootMarks.l0 kq x3_1 l0_1 (l0_1.length : Int) x38_1 = some r) ∧ Aside0 (kq ≤ k) ∧ Aside0 (Kd.R (Kd.int .i64) 3 w' w.heap.size (fun _ => True) v341 x3_1) ∧ Aside0 (w'.heap[gb335]? = some (.cells #[.int .i64 a0_0, (.slice (some ad337) l0_1.length c0_1), .int .i64 a0_2] 31 (0, 0))) ∧ Aside0 (Below w.heap.size w w'))
     case atStart => exact ⟨(y340), (0), (by first | rfl | (simp; done) | (simp [*]; done)), H', ⟨qqb _⟩, ⟨by (with_reducible repeat first | apply qx | apply qy | apply qz); exact HO342.out⟩, ⟨by (with_reducible repeat first | apply ql | apply qn | apply qk); exact BK335.out⟩, ⟨by repeat (first | (with_reducible first | exact HB.out | apply qh | apply qe | apply qg | refine qj ?_ GE335.out) | exact HB.out)⟩⟩
     case round =>
      clear H'; (try clear c1); (try clear p2); (try clear c3); (try clear p3); (try clear q3); (try clear hx3); (try clear qi3); (try clear c4); (try clear c4b0); (try clear c4b1); (try clear c5); (try clear c5b0); (try clear c6); (try clear c6b0); (try clear p6); (try clear c10); (try clear hcz13_0); (try clear hcz13_1); (try clear hcz13_2); (try clear hcz8_0); (try clear hcz8_1); (try clear hcz8_2); (try clear hfz13_0); (try clear hfz13_1); (try clear hfz13_2); (try clear hfz8_0); (try clear hfz8_1); (try clear hfz8_2); (try clear hx337_0); (try clear hx337_1); (try clear hx337_2); (try clear hx338_0); (try clear hx338_1); (try clear hx338_2); (try clear hx339_0); (try clear hx339_1); (try clear hx339_2); (try clear p337); (try clear p338); (try clear p339); (try clear q337); (try clear q338); (try clear q339); obtain ⟨x3_1, x38_1, rfl, HA, HK1, HO_3, BK335, HB⟩ := hrel
      cases gk with
      | zero => exact absurd HA.out (by simp [impl_FootMarks.l0])
      | succ k1 =>
       have H := HA.out; clear HA; simp only [impl_FootMarks.l0] at H
       by_cases c14 : x38_1 < (l0_1.length : Int)
       ·rw [if_pos c14] at H
        have c14b0 : decide (x38_1 < (l0_1.length : Int)) = true := qq c14; clear c14
        by_cases c15 : 0 ≤ x38_1
        ·rw [if_pos c15] at H
         have c15b0 : decide (0 ≤ x38_1) = true := qq c15; clear c15
         by_cases c16 : x38_1 < (l0_1.length : Int)
         ·rw [if_pos c16] at H
          have c16b0 : decide (x38_1 < (l0_1.length : Int)) = true := qq c16; clear c16
          by_cases c17 : 0 < (x3_1.length : Int)
          ·rw [if_pos c17] at H
           have c17b0 : decide (0 < (x3_1.length : Int)) = true := qq c17; have c17b1 : decide (0 < x3_1.length) = true := qq (by omega); clear c17
           obtain ⟨y346, hy346⟩ : ∃ y_ : List Int, y_ = (x3_1.set (0 : Int).toNat (wrap64 ((rd x3_1 0) - ((rd_T59 l0_1 x38_1).f1)))) := ⟨_, rfl⟩
           replace H : (if ((rd_T59 l0_1 x38_1).f1) = 1 then (if 1 < (x3_1.length : Int) then (impl_FootMarks.l0 k1 (y346.set (1 : Int).toNat (wrap64 ((rd y346 1) + 1))) l0_1 (l0_1.length : Int) (wrap64 (x38_1 + 1))) else (none)) else (if ((rd_T59 l0_1 x38_1).f2) = 1 then (if 2 < (x3_1.length : Int) then (impl_FootMarks.l0 k1 (y346.set (2 : Int).toNat (wrap64 ((rd y346 2) + 1))) l0_1 (l0_1.length : Int) (wrap64 (x38_1 + 1))) else (none)) else (if 3 < (x3_1.length : Int) then (impl_FootMarks.l0 k1 (y346.set (3 : Int).toNat (wrap64 ((rd y346 3) + 1))) l0_1 (l0_1.length : Int) (wrap64 (x38_1 + 1))) else (none)))) = some r := by first | (rw [hy346]; with_reducible exact H) | (have H2_ := (Option.bind_some _ _).symm.trans H; rw [hy346]; with_reducible exact H2_) | (have H2_ := (Option.bind_some _ _).symm.trans H; with_reducible exact H2_) | with_reducible exact H | (rw [hy346]; exact H) | exact H
           have Ny346 := qa hy346; clear hy346
           by_cases c19 : ((rd_T59 l0_1 x38_1).f1) = 1
           ·rw [if_pos c19] at H
            have c19b0 : (((rd_T59 l0_1 x38_1).f1) == 1) = true := ze c19; have c19b1 : (((rd_T59 l0_1 x38_1).f1) != 1) = false := zc c19; clear c19
            by_cases c20 : 1 < (x3_1.length : Int)
            ·rw [if_pos c20] at H
             have c20b0 : decide (1 < (x3_1.length : Int)) = true := qq c20; have c20b1 : decide (1 < x3_1.length) = true := qq (by omega); clear c20
             obtain ⟨y348, hy348⟩ : ∃ y_ : List Int, y_ = (y346.set (1 : Int).toNat (wrap64 ((rd y346 1) + 1))) := ⟨_, rfl⟩
             replace H : (impl_FootMarks.l0 k1 y348 l0_1 (l0_1.length : Int) (wrap64 (x38_1 + 1))) = some r := by first | (rw [hy348]; with_reducible exact H) | (have H2_ := (Option.bind_some _ _).symm.trans H; rw [hy348]; with_reducible exact H2_) | (have H2_ := (Option.bind_some _ _).symm.trans H; with_reducible exact H2_) | with_reducible exact H | (rw [hy348]; exact H) | exact H
             have Ny348 := qa hy348; clear hy348; have H' := qa H; clear H; have p343 : 0 ≤ (x38_1 : Int) := qm (by assumption); have q343 : x38_1 < (l0_1.length : Int) := qm (by assumption); obtain ⟨ad343, e343, hx343_0, hx343_1, hx343_2⟩ := at_T59 HR0_1.out x38_1 p343 q343
             obtain rfl : ad337 = ad343 := (by injection e343)
             replace hx343_0 := (HB.out.cell (qf w _ hx343_0)).trans hx343_0; replace hx343_1 := (HB.out.cell (qf w _ hx343_1)).trans hx343_1; replace hx343_2 := (HB.out.cell (qf w _ hx343_2)).trans hx343_2; replace p343 := qga p343; replace q343 := qga q343
             try go_wp2_with (first | ((with_reducible refine gate_dst (N := 5) rfl ?_); refine box_event ?hg (N := 5) ?hd (cs := #[.int .i64 0, .int .i64 0, .int .i64 0]) (t := 59) ?hr ?_; (case hd => rfl); (case hg => rfl); (case hr => first | (go_simp; done) | (go_simp; rfl)); intro gb344 hg w22 hbox hb; have n0_ := qa (qya (by (with_reducible repeat first | apply qx | apply qy | apply qz); exact HO_3.out) hb); have n1_ := qa (qja (g := gb335) (o := .cells #[.int .i64 a0_0, .slice (some ad337) l0_1.length c0_1, .int .i64 a0_2] 31 (0, 0)) (by (with_reducible repeat first | apply ql | apply qn | apply qk); exact BK335.out) hb); have n2_ := qa (qha (by repeat (first | (with_reducible first | exact HB.out | apply qh | apply qe | apply qg | refine qj ?_ GE335.out) | exact HB.out)) hb); have n3_ := qa (hbox); have n4_ := qa ((by rw [hg]; exact (qp (by repeat (first | (with_reducible first | exact HB.out | apply qh | apply qe | apply qg | refine qj ?_ GE335.out) | exact HB.out))) : w.heap.size ≤ gb344)); have n5_ := qa ((by rw [hg]; exact (qp (by repeat (first | (with_reducible first | exact HB.out | apply qh | apply qe | apply qg | refine qj ?_ GE335.out) | exact HB.out))) : w.heap.size ≤ gb344)); have n6_ := qa ((by rw [hg]; exact Nat.ne_of_lt (blk_lt (g := gb335) (o := .cells #[.int .i64 a0_0, .slice (some ad337) l0_1.length c0_1, .int .i64 a0_2] 31 (0, 0)) (by (with_reducible repeat first | apply ql | apply qn | apply qk); exact BK335.out)) : gb335 ≠ gb344)); have n7_ := qa ((by rw [hg]; exact Nat.ne_of_gt (blk_lt (g := gb335) (o := .cells #[.int .i64 a0_0, .slice (some ad337) l0_1.length c0_1, .int .i64 a0_2] 31 (0, 0)) (by (with_reducible repeat first | apply ql | apply qn | apply qk); exact BK335.out)) : gb344 ≠ gb335)); clear HO_3; clear BK335; clear HB; have HO_3 := n0_; have BK335 := n1_; have HB := n2_; have BK344 := n3_; have GW344 := n4_; have GE344 := n5_; have NB335_344 := n6_; have NB344_335 := n7_; clear n0_ n1_ n2_ n3_ n4_ n5_ n6_ n7_; clear hb hbox hg; have hnb23 := NB344_335.out; have hnc23 := NB335_344.out; have hcz24_0 : w22.cell? ⟨gb344, 0, none⟩ = some (.int .i64 0) := (qi BK344.out 0).trans rfl; have hcz24_1 : w22.cell? ⟨gb344, 1, none⟩ = some (.int .i64 0) := (qi BK344.out 1).trans rfl; have hcz24_2 : w22.cell? ⟨gb344, 2, none⟩ = some (.int .i64 0) := (qi BK344.out 2).trans rfl; have hfz24_0 := qo BK344.out 0; have hfz24_1 := qo BK344.out 1; have hfz24_2 := qo BK344.out 2))
             have n0_ : Aside0 (Kd.R (Kd.int .i64) 3 (((w22.setCell ⟨gb344, 0, none⟩ (.int .i64 ((rd_T59 l0_1 x38_1).f0))).setCell ⟨gb344, 1, none⟩ (.int .i64 ((rd_T59 l0_1 x38_1).f1))).setCell ⟨gb344, 2, none⟩ (.int .i64 ((rd_T59 l0_1 x38_1).f2))) w.heap.size (fun _ => True) v341 x3_1) := ⟨by (with_reducible repeat first | apply qx | apply qy | apply qz); exact qoa (qob (p := ⟨gb344, 2, none⟩) (qob (p := ⟨gb344, 1, none⟩) (qob (p := ⟨gb344, 0, none⟩) (Kd.R_types HO_3.out BK344.out (by decide)) (fun _ hk => hk.2) (.int .i64 ((rd_T59 l0_1 x38_1).f0))) (fun _ hk => hk.2) (.int .i64 ((rd_T59 l0_1 x38_1).f1))) (fun _ hk => hk.2) (.int .i64 ((rd_T59 l0_1 x38_1).f2))) (fun _ hk => trivial)⟩
             have n1_ : Aside0 ((((w22.setCell ⟨gb344, 0, none⟩ (.int .i64 ((rd_T59 l0_1 x38_1).f0))).setCell ⟨gb344, 1, none⟩ (.int .i64 ((rd_T59 l0_1 x38_1).f1))).setCell ⟨gb344, 2, none⟩ (.int .i64 ((rd_T59 l0_1 x38_1).f2))).heap[gb335]? = some (.cells #[.int .i64 a0_0, .slice (some ad337) l0_1.length c0_1, .int .i64 a0_2] 31 (0, 0))) := ⟨by (with_reducible repeat first | apply ql | apply qn | apply qk); refine qlb ?_ NB335_344.out _; (with_reducible repeat first | apply ql | apply qn | apply qk); refine qlb ?_ NB335_344.out _; (with_reducible repeat first | apply ql | apply qn | apply qk); refine qlb ?_ NB335_344.out _; (with_reducible repeat first | apply ql | apply qn | apply qk); exact BK335.out⟩
             have n2_ : Aside0 ((((w22.setCell ⟨gb344, 0, none⟩ (.int .i64 ((rd_T59 l0_1 x38_1).f0))).setCell ⟨gb344, 1, none⟩ (.int .i64 ((rd_T59 l0_1 x38_1).f1))).setCell ⟨gb344, 2, none⟩ (.int .i64 ((rd_T59 l0_1 x38_1).f2))).heap[gb344]? = some (.cells #[.int .i64 ((rd_T59 l0_1 x38_1).f0), .int .i64 ((rd_T59 l0_1 x38_1).f1), .int .i64 ((rd_T59 l0_1 x38_1).f2)] 59 (0, 0))) := ⟨by (with_reducible repeat first | apply ql | apply qn | apply qk); refine qmb (cs := #[.int .i64 ((rd_T59 l0_1 x38_1).f0), .int .i64 ((rd_T59 l0_1 x38_1).f1), .int .i64 0]) ?_ 2 _ rfl; (with_reducible repeat first | apply ql | apply qn | apply qk); refine qmb (cs := #[.int .i64 ((rd_T59 l0_1 x38_1).f0), .int .i64 0, .int .i64 0]) ?_ 1 _ rfl; (with_reducible repeat first | apply ql | apply qn | apply qk); refine qmb (cs := #[.int .i64 0, .int .i64 0, .int .i64 0]) ?_ 0 _ rfl; (with_reducible repeat first | apply ql | apply qn | apply qk); exact BK344.out⟩
             have n3_ : Aside0 (Below w.heap.size w (((w22.setCell ⟨gb344, 0, none⟩ (.int .i64 ((rd_T59 l0_1 x38_1).f0))).setCell ⟨gb344, 1, none⟩ (.int .i64 ((rd_T59 l0_1 x38_1).f1))).setCell ⟨gb344, 2, none⟩ (.int .i64 ((rd_T59 l0_1 x38_1).f2)))) := ⟨by repeat (first | (with_reducible first | exact HB.out | apply qh | apply qe | apply qg | refine qj ?_ GE335.out | refine qj ?_ GE344.out) | exact HB.out)⟩
             (try clear HO_3); (try clear BK335); (try clear BK344); (try clear HB); generalize (((w22.setCell ⟨gb344, 0, none⟩ (.int .i64 ((rd_T59 l0_1 x38_1).f0))).setCell ⟨gb344, 1, none⟩ (.int .i64 ((rd_T59 l0_1 x38_1).f1))).setCell ⟨gb344, 2, none⟩ (.int .i64 ((rd_T59 l0_1 x38_1).f2))) = w25 at n0_ n1_ n2_ n3_ ⊢; have HO_3 := n0_; have BK335 := n1_; have BK344 := n2_; have HB := n3_; clear n0_ n1_ n2_ n3_; have n0_ := qa (qz HO_3.out); have n1_ := qa (qn BK335.out); have n2_ := qa (qn BK344.out); have n3_ := qa (qg HB.out); clear HO_3 BK335 BK344 HB; have HO_3 := n0_; have BK335 := n1_; have BK344 := n2_; have HB := n3_; clear n0_ n1_ n2_ n3_; obtain ⟨Ao27, co27, eo27⟩ := Kd.R_slice HO_3.out
             (first | subst eo27 | (injection eo27 with f1_ f2_ f3_; have f4_ := f1_.symm; have f5_ := f3_.symm; clear f1_ f2_ f3_; subst f4_; subst f5_))
             have p345 : 0 ≤ (0 : Int) := (by omega)
             have q345 : 0 < (x3_1.length : Int) := qm (by assumption); obtain ⟨ad345, e345, hx345_0⟩ := Kd.at_int (qgb HO_3.out).2.2 0 p345 q345; cases e345; have qi345 : (0 < x3_1.length) = True := qga (by omega); (try rw [show ((0 : Int)).toNat = 0 from rfl] at hx345_0); (try rw [Addr.add_zero'] at hx345_0); replace p345 := qga p345; replace q345 := qga q345
             have p18 : 0 ≤ (0 : Int) := (by omega)
             have q18 : (0 : Int) < ((x3_1.length : Int) : Int) := qm (by assumption); have qi18 : (0 < x3_1.length) = True := qga (by omega); obtain ⟨go18, co18, eo18, gb18, gl18, cl18, HG18⟩ := Kd.R_form HO_3.out (by omega)
             (first | cases eo18 | (injection eo18 with ea_ en_ ec_; (first | subst ea_ | (injection ea_ with ea_; subst ea_)); subst ec_; clear en_))
             have GB18 := qa gb18; have GG18 := qa HG18; clear gb18 gl18 HG18
             (first | simp only [add_plain] at hx345_0 | skip)
             obtain ⟨hx18_0, hf18_0⟩ := Kd.R_celln 0 HO_3.out (0 : Int) p18 q18; (try rw [show ((0 : Int)).toNat = 0 from rfl] at hx18_0); (try simp only [Nat.reduceMul, Nat.zero_mul, Nat.zero_add, Nat.reduceAdd] at hx18_0); (try rw [show ((0 : Int)).toNat = 0 from rfl] at hf18_0); (try simp only [Nat.reduceMul, Nat.zero_mul, Nat.zero_add, Nat.reduceAdd] at hf18_0); replace p18 := qga p18; replace q18 := qga q18; have HP28 := Kd.R_putn HO_3.out (0 : Int) (wrap64 ((rd x3_1 0) - ((rd_T59 l0_1 x38_1).f1))); rw [← Ny346.out] at HP28; have HQ28 := qa HP28; clear HP28; refine start_ (n := 8) (S := fun w' => w'.cell? ⟨gb344, 0, none⟩ = some (.int .i64 ((rd_T59 l0_1 x38_1).f0)) ∧ w'.cell? ⟨gb344, 1, none⟩ = some (.int .i64 ((rd_T59 l0_1 x38_1).f1)) ∧ w'.cell? ⟨gb344, 2, none⟩ = some (.int .i64 ((rd_T59 l0_1 x38_1).f2)) ∧ w'.cell? ⟨go18, 0, none⟩ = some (.int .i64 (rd x3_1 0))) (ds := [7]) #[false, false, false, false, false, false, false, false] (by kernel_rfl) rfl rfl ⟨(qi BK344.out 0).trans rfl, (qi BK344.out 1).trans rfl, (qi BK344.out 2).trans rfl, hx345_0⟩ (fun hHeld => ?_); refine with_tabW impl_FootMarks.tab7 impl_FootMarks.bits7 (fun HT_ HW_ => ?_); generalize w25.drew = w26 at HO_3 BK335 BK344 HB GG18 HQ28 hf18_0 hx18_0 hx345_0 hHeld ⊢; refine pure_ (i := 0) (N := some 42) (v := ?_) (a' := ?_) #[true, false, false, false, false, false, false, false] rfl rfl (qua HT_.out (by kernel_rfl)) (fun _ _ _ h => h) (Or.inl ⟨by rfl, ?_⟩) ?_ ?_; rotate_left
             ·intro w'
              go_simp; with_reducible rfl
             rotate_left
             ·simp only [Act.put, qb, qc, qd, i64_w, i32_w]
              rfl
             refine pure_ (i := 1) (N := some 43) (v := ?_) (a' := ?_) #[true, true, false, false, false, false, false, false] rfl rfl (qua HT_.out (by kernel_rfl)) (fun _ _ _ h => h) (Or.inl ⟨by rfl, ?_⟩) ?_ ?_; rotate_left
             ·intro w'
              go_simp; with_reducible rfl
             rotate_left
             ·simp only [Act.put, qb, qc, qd, i64_w, i32_w]
              rfl
             refine pure_ (i := 3) (N := some 45) (v := ?_) (a' := ?_) #[true, true, false, true, false, false, false, false] rfl rfl (qua HT_.out (by kernel_rfl)) (fun _ _ _ h => h) (Or.inl ⟨by rfl, ?_⟩) ?_ ?_; rotate_left
             ·intro w'
              go_simp; with_reducible rfl
             rotate_left
             ·simp only [Act.put, qb, qc, qd, i64_w, i32_w]
              rfl
             refine take_ (i := 2) (N := some 44) (v := ?_) (a' := ?_) #[true, true, true, true, false, false, false, false] rfl rfl (qva HT_.out HW_.out (by kernel_rfl)) (fun _ _ _ h => h) (Or.inl ⟨by rfl, ?_⟩) hHeld ?_ ?_; rotate_left
             ·rintro w' ⟨s0, s1, s2, s3⟩
              go_simp; with_reducible rfl
             rotate_left
             ·simp only [Act.put, qb, qc, qd, i64_w, i32_w]
              rfl
             refine take_ (i := 4) (N := some 46) (v := ?_) (a' := ?_) #[true, true, true, true, true, false, false, false] rfl rfl (qva HT_.out HW_.out (by kernel_rfl)) (fun _ _ _ h => h) (Or.inl ⟨by rfl, ?_⟩) hHeld ?_ ?_; rotate_left
             ·rintro w' ⟨s0, s1, s2, s3⟩
              go_simp; with_reducible rfl
             rotate_left
             ·simp only [Act.put, qb, qc, qd, i64_w, i32_w]
              rfl
             refine pure_ (i := 5) (N := some 47) (v := ?_) (a' := ?_) #[true, true, true, true, true, true, false, false] rfl rfl (qua HT_.out (by kernel_rfl)) (fun _ _ _ h => h) (Or.inl ⟨by rfl, ?_⟩) ?_ ?_; rotate_left
             ·intro w'
              go_simp; with_reducible rfl
             rotate_left
             ·simp only [Act.put, qb, qc, qd, i64_w, i32_w]
              rfl
             refine pure_ (i := 6) (N := some 48) (v := ?_) (a' := ?_) #[true, true, true, true, true, true, true, false] rfl rfl (qua HT_.out (by kernel_rfl)) (fun _ _ _ h => h) (Or.inl ⟨by rfl, ?_⟩) ?_ ?_; rotate_left
             ·intro w'
              go_simp; with_reducible rfl
             rotate_left
             ·simp only [Act.put, qb, qc, qd, i64_w, i32_w]
              rfl
             refine last_ (i := 7) (N := none) #[true, true, true, true, true, true, true, true] rfl rfl (qwa HT_.out (by kernel_rfl)) (by decide) (fun K hK => ?_); refine skip_ (w1 := ?_) (by rfl) rfl ?_ ?_; rotate_left
             ·go_simp
              rfl
             refine hK.out _ _ ?_; clear hK K; refine done_ (done_of HT_.out (by kernel_rfl)) ?_
             have n0_ : Aside0 (Kd.R (Kd.int .i64) 3 (w26.setCell ⟨go18, 0, none⟩ (.int .i64 (wrap64 ((rd x3_1 0) - ((rd_T59 l0_1 x38_1).f1))))) w.heap.size (fun _ => True) (.slice (some ⟨go18, 0, none⟩) x3_1.length co27) y346) := ⟨by (with_reducible repeat first | apply qx | apply qy | apply qz); exact HQ28.out⟩
             have n1_ : Aside0 ((w26.setCell ⟨go18, 0, none⟩ (.int .i64 (wrap64 ((rd x3_1 0) - ((rd_T59 l0_1 x38_1).f1))))).heap[gb335]? = some (.cells #[.int .i64 a0_0, .slice (some ad337) l0_1.length c0_1, .int .i64 a0_2] 31 (0, 0))) := ⟨by (with_reducible repeat first | apply ql | apply qn | apply qk); refine qlb ?_ (by have h_ := Kd.R_ne HO_3.out BK335.out (by decide); intro e_; exact h_ (by rw [e_]; rfl)) _; (with_reducible repeat first | apply ql | apply qn | apply qk); exact BK335.out⟩
             have n2_ : Aside0 ((w26.setCell ⟨go18, 0, none⟩ (.int .i64 (wrap64 ((rd x3_1 0) - ((rd_T59 l0_1 x38_1).f1))))).heap[gb344]? = some (.cells #[.int .i64 ((rd_T59 l0_1 x38_1).f0), .int .i64 ((rd_T59 l0_1 x38_1).f1), .int .i64 ((rd_T59 l0_1 x38_1).f2)] 59 (0, 0))) := ⟨by (with_reducible repeat first | apply ql | apply qn | apply qk); refine qlb ?_ (by have h_ := Kd.R_ne HO_3.out BK344.out (by decide); intro e_; exact h_ (by rw [e_]; rfl)) _; (with_reducible repeat first | apply ql | apply qn | apply qk); exact BK344.out⟩
             have n3_ : Aside0 (Below w.heap.size w (w26.setCell ⟨go18, 0, none⟩ (.int .i64 (wrap64 ((rd x3_1 0) - ((rd_T59 l0_1 x38_1).f1)))))) := ⟨by repeat (first | (with_reducible first | exact HB.out | apply qh | apply qe | apply qg | refine qj ?_ GB18.out | refine qj ?_ GE335.out | refine qj ?_ GE344.out) | exact HB.out)⟩
             (try clear HO_3); (try clear BK335); (try clear BK344); (try clear HB); generalize (w26.setCell ⟨go18, 0, none⟩ (.int .i64 (wrap64 ((rd x3_1 0) - ((rd_T59 l0_1 x38_1).f1))))) = w29 at n0_ n1_ n2_ n3_ ⊢; have HO_3 := n0_; have BK335 := n1_; have BK344 := n2_; have HB := n3_; clear n0_ n1_ n2_ n3_; have hcz30_0 : w29.cell? ⟨gb344, 0, none⟩ = some (.int .i64 ((rd_T59 l0_1 x38_1).f0)) := (qi BK344.out 0).trans rfl; have hcz30_1 : w29.cell? ⟨gb344, 1, none⟩ = some (.int .i64 ((rd_T59 l0_1 x38_1).f1)) := (qi BK344.out 1).trans rfl; have hcz30_2 : w29.cell? ⟨gb344, 2, none⟩ = some (.int .i64 ((rd_T59 l0_1 x38_1).f2)) := (qi BK344.out 2).trans rfl; have hfz30_0 := qo BK344.out 0; have hfz30_1 := qo BK344.out 1; have hfz30_2 := qo BK344.out 2
             have p347 : 0 ≤ (1 : Int) := (by omega)
             have q347 : 1 < (y346.length : Int) := (by have h_ : (1 : Int) < ((x3_1.length : Int) : Int) := qm (by assumption); first | (have e_ := (qgb HO_3.out).1; omega) | simpa only [Ny346.out, List.length_set] using h_)
             have ql347 : ((1 : Int) < ((x3_1.length : Int) : Int)) = True := qga (qm (by assumption)); (try have qn347 : (1 < x3_1.length) = True := qga (by have h_ : (1 : Int) < ((x3_1.length : Int) : Int) := qm (by assumption); omega)); obtain ⟨ad347, e347, hx347_0⟩ := Kd.at_int (qgb HO_3.out).2.2 1 p347 q347
             obtain rfl : (⟨go18, 0, none⟩ : Addr) = ad347 := (by injection e347)
             (first | simp only [add_plain] at hx347_0 | simp only [add_at] at hx347_0 | simp only [Addr.add, Nat.zero_add] at hx347_0 | skip)
             have qi347 : (1 < y346.length) = True := qga (by omega); (try rw [show ((1 : Int)).toNat = 1 from rfl] at hx347_0); replace p347 := qga p347; replace q347 := qga q347
             have p21 : 0 ≤ (1 : Int) := (by omega)
             have q21 : (1 : Int) < ((x3_1.length : Int) : Int) := qm (by assumption); have qi21 : (1 < x3_1.length) = True := qga (by omega); obtain ⟨hx21_0, hf21_0⟩ := Kd.R_celln 0 HO_3.out (1 : Int) p21 q21; (try rw [show ((1 : Int)).toNat = 1 from rfl] at hx21_0); (try simp only [Nat.reduceMul, Nat.zero_mul, Nat.zero_add, Nat.reduceAdd] at hx21_0); (try rw [show ((1 : Int)).toNat = 1 from rfl] at hf21_0); (try simp only [Nat.reduceMul, Nat.zero_mul, Nat.zero_add, Nat.reduceAdd] at hf21_0); replace p21 := qga p21; replace q21 := qga q21; obtain ⟨hy31_, hz31_⟩ := Kd.R_celln 0 HO_3.out (1 : Int) (by omega) (qm (by assumption)); (try simp only [Int.reduceToNat, Int.toNat_zero, Int.toNat_ofNat, Nat.reduceMul, Nat.zero_mul, Nat.zero_add] at hy31_ hz31_); (try rw [show ((1 : Int)).toNat = 1 from rfl] at hy31_); (try rw [show ((1 : Int)).toNat = 1 from rfl] at hz31_); have HP31 := Kd.R_putg HO_3.out (1 : Int) (wrap64 ((rd y346 1) + 1))
             try go_wp2_with (first | ((with_reducible refine gate_store (t := 3) (p := 62) rfl ?_); refine store_event (t := 3) (p := 62) (v := ?vo_w32) (w1 := (w29.setCell ⟨go18, (1 : Int).toNat, none⟩ (.int .i64 (wrap64 ((rd y346 1) + 1))))) ?hg ?ho ?hn ?hr ?_; (case ho => rfl); (case hg => rfl); (case hn => rfl); (case hr => first | (go_simp; done) | (go_simp; rfl)); intro w32 hw; have hg : w29.grownBy w32 (some go18) := (by rw [hw]; exact HP31.2); have hp_ : Kd.R (Kd.int .i64) 3 w32 w.heap.size (fun _ => True) (.slice (some ⟨go18, 0, none⟩) x3_1.length co27) y348 := (by rw [hw, Ny348.out]; exact HP31.1); clear HP31; have n0_ := qa (hp_); have n1_ := qa (blk_grown (g := gb335) (o := .cells #[.int .i64 a0_0, .slice (some ad337) l0_1.length c0_1, .int .i64 a0_2] 31 (0, 0)) (by (with_reducible repeat first | apply ql | apply qn | apply qk); exact BK335.out) hg (Kd.R_ne HO_3.out BK335.out (by decide))); have n2_ := qa (blk_grown (g := gb344) (o := .cells #[.int .i64 ((rd_T59 l0_1 x38_1).f0), .int .i64 ((rd_T59 l0_1 x38_1).f1), .int .i64 ((rd_T59 l0_1 x38_1).f2)] 59 (0, 0)) (by (with_reducible repeat first | apply ql | apply qn | apply qk); exact BK344.out) hg (Kd.R_ne HO_3.out BK344.out (by decide))); have n3_ := qa ((by rw [hw]; exact qj (HB.out) GB18.out : Below w.heap.size w w32)); clear HO_3; clear BK335; clear BK344; clear HB; have HO_3 := n0_; have BK335 := n1_; have BK344 := n2_; have HB := n3_; clear n0_ n1_ n2_ n3_; clear hg hw hp_))
             go_roundg k1
             case measure => have := HK1.out; omega
             case rel => exact ⟨(y348), (wrap64 (x38_1 + 1)), (by first | rfl | (simp; done) | (simp [*]; done)), H', ⟨by have := HK1.out; omega⟩, ⟨by (with_reducible repeat first | apply qx | apply qy | apply qz); exact HO_3.out⟩, ⟨by (with_reducible repeat first | apply ql | apply qn | apply qk); exact BK335.out⟩, ⟨by repeat (first | (with_reducible first | exact HB.out | apply qh | apply qe | apply qg | refine qj ?_ GE335.out | refine qj ?_ GE344.out) | exact HB.out)⟩⟩
            ·rw [if_neg c20] at H
             exact absurd H (by simp)
           ·rw [if_neg c19] at H
            have c19b0 : (((rd_T59 l0_1 x38_1).f1) == 1) = false := zd c19; have c19b1 : (((rd_T59 l0_1 x38_1).f1) != 1) = true := zf c19
            by_cases c33 : ((rd_T59 l0_1 x38_1).f2) = 1
            ·rw [if_pos c33] at H
             have c33b0 : (((rd_T59 l0_1 x38_1).f2) == 1) = true := ze c33; have c33b1 : (((rd_T59 l0_1 x38_1).f2) != 1) = false := zc c33; clear c33
             by_cases c34 : 2 < (x3_1.length : Int)
             ·rw [if_pos c34] at H
              have c34b0 : decide (2 < (x3_1.length : Int)) = true := qq c34; have c34b1 : decide (2 < x3_1.length) = true := qq (by omega); clear c34
              obtain ⟨y350, hy350⟩ : ∃ y_ : List Int, y_ = (y346.set (2 : Int).toNat (wrap64 ((rd y346 2) + 1))) := ⟨_, rfl⟩
              replace H : (impl_FootMarks.l0 k1 y350 l0_1 (l0_1.length : Int) (wrap64 (x38_1 + 1))) = some r := by first | (rw [hy350]; with_reducible exact H) | (have H2_ := (Option.bind_some _ _).symm.trans H; rw [hy350]; with_reducible exact H2_) | (have H2_ := (Option.bind_some _ _).symm.trans H; with_reducible exact H2_) | with_reducible exact H | (rw [hy350]; exact H) | exact H
              have Ny350 := qa hy350; clear hy350; have H' := qa H; clear H; have p343 : 0 ≤ (x38_1 : Int) := qm (by assumption); have q343 : x38_1 < (l0_1.length : Int) := qm (by assumption); obtain ⟨ad343, e343, hx343_0, hx343_1, hx343_2⟩ := at_T59 HR0_1.out x38_1 p343 q343
              obtain rfl : ad337 = ad343 := (by injection e343)
              replace hx343_0 := (HB.out.cell (qf w _ hx343_0)).trans hx343_0; replace hx343_1 := (HB.out.cell (qf w _ hx343_1)).trans hx343_1; replace hx343_2 := (HB.out.cell (qf w _ hx343_2)).trans hx343_2; replace p343 := qga p343; replace q343 := qga q343
              try go_wp2_with (first | ((with_reducible refine gate_dst (N := 5) rfl ?_); refine box_event ?hg (N := 5) ?hd (cs := #[.int .i64 0, .int .i64 0, .int .i64 0]) (t := 59) ?hr ?_; (case hd => rfl); (case hg => rfl); (case hr => first | (go_simp; done) | (go_simp; rfl)); intro gb344 hg w36 hbox hb; have n0_ := qa (qya (by (with_reducible repeat first | apply qx | apply qy | apply qz); exact HO_3.out) hb); have n1_ := qa (qja (g := gb335) (o := .cells #[.int .i64 a0_0, .slice (some ad337) l0_1.length c0_1, .int .i64 a0_2] 31 (0, 0)) (by (with_reducible repeat first | apply ql | apply qn | apply qk); exact BK335.out) hb); have n2_ := qa (qha (by repeat (first | (with_reducible first | exact HB.out | apply qh | apply qe | apply qg | refine qj ?_ GE335.out) | exact HB.out)) hb); have n3_ := qa (hbox); have n4_ := qa ((by rw [hg]; exact (qp (by repeat (first | (with_reducible first | exact HB.out | apply qh | apply qe | apply qg | refine qj ?_ GE335.out) | exact HB.out))) : w.heap.size ≤ gb344)); have n5_ := qa ((by rw [hg]; exact (qp (by repeat (first | (with_reducible first | exact HB.out | apply qh | apply qe | apply qg | refine qj ?_ GE335.out) | exact HB.out))) : w.heap.size ≤ gb344)); have n6_ := qa ((by rw [hg]; exact Nat.ne_of_lt (blk_lt (g := gb335) (o := .cells #[.int .i64 a0_0, .slice (some ad337) l0_1.length c0_1, .int .i64 a0_2] 31 (0, 0)) (by (with_reducible repeat first | apply ql | apply qn | apply qk); exact BK335.out)) : gb335 ≠ gb344)); have n7_ := qa ((by rw [hg]; exact Nat.ne_of_gt (blk_lt (g := gb335) (o := .cells #[.int .i64 a0_0, .slice (some ad337) l0_1.length c0_1, .int .i64 a0_2] 31 (0, 0)) (by (with_reducible repeat first | apply ql | apply qn | apply qk); exact BK335.out)) : gb344 ≠ gb335)); clear HO_3; clear BK335; clear HB; have HO_3 := n0_; have BK335 := n1_; have HB := n2_; have BK344 := n3_; have GW344 := n4_; have GE344 := n5_; have NB335_344 := n6_; have NB344_335 := n7_; clear n0_ n1_ n2_ n3_ n4_ n5_ n6_ n7_; clear hb hbox hg; have hnb37 := NB344_335.out; have hnc37 := NB335_344.out; have hcz38_0 : w36.cell? ⟨gb344, 0, none⟩ = some (.int .i64 0) := (qi BK344.out 0).trans rfl; have hcz38_1 : w36.cell? ⟨gb344, 1, none⟩ = some (.int .i64 0) := (qi BK344.out 1).trans rfl; have hcz38_2 : w36.cell? ⟨gb344, 2, none⟩ = some (.int .i64 0) := (qi BK344.out 2).trans rfl; have hfz38_0 := qo BK344.out 0; have hfz38_1 := qo BK344.out 1; have hfz38_2 := qo BK344.out 2))
              have n0_ : Aside0 (Kd.R (Kd.int .i64) 3 (((w36.setCell ⟨gb344, 0, none⟩ (.int .i64 ((rd_T59 l0_1 x38_1).f0))).setCell ⟨gb344, 1, none⟩ (.int .i64 ((rd_T59 l0_1 x38_1).f1))).setCell ⟨gb344, 2, none⟩ (.int .i64 ((rd_T59 l0_1 x38_1).f2))) w.heap.size (fun _ => True) v341 x3_1) := ⟨by (with_reducible repeat first | apply qx | apply qy | apply qz); exact qoa (qob (p := ⟨gb344, 2, none⟩) (qob (p := ⟨gb344, 1, none⟩) (qob (p := ⟨gb344, 0, none⟩) (Kd.R_types HO_3.out BK344.out (by decide)) (fun _ hk => hk.2) (.int .i64 ((rd_T59 l0_1 x38_1).f0))) (fun _ hk => hk.2) (.int .i64 ((rd_T59 l0_1 x38_1).f1))) (fun _ hk => hk.2) (.int .i64 ((rd_T59 l0_1 x38_1).f2))) (fun _ hk => trivial)⟩
              have n1_ : Aside0 ((((w36.setCell ⟨gb344, 0, none⟩ (.int .i64 ((rd_T59 l0_1 x38_1).f0))).setCell ⟨gb344, 1, none⟩ (.int .i64 ((rd_T59 l0_1 x38_1).f1))).setCell ⟨gb344, 2, none⟩ (.int .i64 ((rd_T59 l0_1 x38_1).f2))).heap[gb335]? = some (.cells #[.int .i64 a0_0, .slice (some ad337) l0_1.length c0_1, .int .i64 a0_2] 31 (0, 0))) := ⟨by (with_reducible repeat first | apply ql | apply qn | apply qk); refine qlb ?_ NB335_344.out _; (with_reducible repeat first | apply ql | apply qn | apply qk); refine qlb ?_ NB335_344.out _; (with_reducible repeat first | apply ql | apply qn | apply qk); refine qlb ?_ NB335_344.out _; (with_reducible repeat first | apply ql | apply qn | apply qk); exact BK335.out⟩
              have n2_ : Aside0 ((((w36.setCell ⟨gb344, 0, none⟩ (.int .i64 ((rd_T59 l0_1 x38_1).f0))).setCell ⟨gb344, 1, none⟩ (.int .i64 ((rd_T59 l0_1 x38_1).f1))).setCell ⟨gb344, 2, none⟩ (.int .i64 ((rd_T59 l0_1 x38_1).f2))).heap[gb344]? = some (.cells #[.int .i64 ((rd_T59 l0_1 x38_1).f0), .int .i64 ((rd_T59 l0_1 x38_1).f1), .int .i64 ((rd_T59 l0_1 x38_1).f2)] 59 (0, 0))) := ⟨by (with_reducible repeat first | apply ql | apply qn | apply qk); refine qmb (cs := #[.int .i64 ((rd_T59 l0_1 x38_1).f0), .int .i64 ((rd_T59 l0_1 x38_1).f1), .int .i64 0]) ?_ 2 _ rfl; (with_reducible repeat first | apply ql | apply qn | apply qk); refine qmb (cs := #[.int .i64 ((rd_T59 l0_1 x38_1).f0), .int .i64 0, .int .i64 0]) ?_ 1 _ rfl; (with_reducible repeat first | apply ql | apply qn | apply qk); refine qmb (cs := #[.int .i64 0, .int .i64 0, .int .i64 0]) ?_ 0 _ rfl; (with_reducible repeat first | apply ql | apply qn | apply qk); exact BK344.out⟩
              have n3_ : Aside0 (Below w.heap.size w (((w36.setCell ⟨gb344, 0, none⟩ (.int .i64 ((rd_T59 l0_1 x38_1).f0))).setCell ⟨gb344, 1, none⟩ (.int .i64 ((rd_T59 l0_1 x38_1).f1))).setCell ⟨gb344, 2, none⟩ (.int .i64 ((rd_T59 l0_1 x38_1).f2)))) := ⟨by repeat (first | (with_reducible first | exact HB.out | apply qh | apply qe | apply qg | refine qj ?_ GE335.out | refine qj ?_ GE344.out) | exact HB.out)⟩
              (try clear HO_3); (try clear BK335); (try clear BK344); (try clear HB); generalize (((w36.setCell ⟨gb344, 0, none⟩ (.int .i64 ((rd_T59 l0_1 x38_1).f0))).setCell ⟨gb344, 1, none⟩ (.int .i64 ((rd_T59 l0_1 x38_1).f1))).setCell ⟨gb344, 2, none⟩ (.int .i64 ((rd_T59 l0_1 x38_1).f2))) = w39 at n0_ n1_ n2_ n3_ ⊢; have HO_3 := n0_; have BK335 := n1_; have BK344 := n2_; have HB := n3_; clear n0_ n1_ n2_ n3_; have n0_ := qa (qz HO_3.out); have n1_ := qa (qn BK335.out); have n2_ := qa (qn BK344.out); have n3_ := qa (qg HB.out); clear HO_3 BK335 BK344 HB; have HO_3 := n0_; have BK335 := n1_; have BK344 := n2_; have HB := n3_; clear n0_ n1_ n2_ n3_; obtain ⟨Ao41, co41, eo41⟩ := Kd.R_slice HO_3.out
              (first | subst eo41 | (injection eo41 with f1_ f2_ f3_; have f4_ := f1_.symm; have f5_ := f3_.symm; clear f1_ f2_ f3_; subst f4_; subst f5_))
              have p345 : 0 ≤ (0 : Int) := (by omega)
              have q345 : 0 < (x3_1.length : Int) := qm (by assumption); obtain ⟨ad345, e345, hx345_0⟩ := Kd.at_int (qgb HO_3.out).2.2 0 p345 q345; cases e345; have qi345 : (0 < x3_1.length) = True := qga (by omega); (try rw [show ((0 : Int)).toNat = 0 from rfl] at hx345_0); (try rw [Addr.add_zero'] at hx345_0); replace p345 := qga p345; replace q345 := qga q345
              have p18 : 0 ≤ (0 : Int) := (by omega)
              have q18 : (0 : Int) < ((x3_1.length : Int) : Int) := qm (by assumption); have qi18 : (0 < x3_1.length) = True := qga (by omega); obtain ⟨go18, co18, eo18, gb18, gl18, cl18, HG18⟩ := Kd.R_form HO_3.out (by omega)
              (first | cases eo18 | (injection eo18 with ea_ en_ ec_; (first | subst ea_ | (injection ea_ with ea_; subst ea_)); subst ec_; clear en_))
              have GB18 := qa gb18; have GG18 := qa HG18; clear gb18 gl18 HG18
              (first | simp only [add_plain] at hx345_0 | skip)
              obtain ⟨hx18_0, hf18_0⟩ := Kd.R_celln 0 HO_3.out (0 : Int) p18 q18; (try rw [show ((0 : Int)).toNat = 0 from rfl] at hx18_0); (try simp only [Nat.reduceMul, Nat.zero_mul, Nat.zero_add, Nat.reduceAdd] at hx18_0); (try rw [show ((0 : Int)).toNat = 0 from rfl] at hf18_0); (try simp only [Nat.reduceMul, Nat.zero_mul, Nat.zero_add, Nat.reduceAdd] at hf18_0); replace p18 := qga p18; replace q18 := qga q18; have HP42 := Kd.R_putn HO_3.out (0 : Int) (wrap64 ((rd x3_1 0) - ((rd_T59 l0_1 x38_1).f1))); rw [← Ny346.out] at HP42; have HQ42 := qa HP42; clear HP42; refine start_ (n := 8) (S := fun w' => w'.cell? ⟨gb344, 0, none⟩ = some (.int .i64 ((rd_T59 l0_1 x38_1).f0)) ∧ w'.cell? ⟨gb344, 1, none⟩ = some (.int .i64 ((rd_T59 l0_1 x38_1).f1)) ∧ w'.cell? ⟨gb344, 2, none⟩ = some (.int .i64 ((rd_T59 l0_1 x38_1).f2)) ∧ w'.cell? ⟨go18, 0, none⟩ = some (.int .i64 (rd x3_1 0))) (ds := [7]) #[false, false, false, false, false, false, false, false] (by kernel_rfl) rfl rfl ⟨(qi BK344.out 0).trans rfl, (qi BK344.out 1).trans rfl, (qi BK344.out 2).trans rfl, hx345_0⟩ (fun hHeld => ?_); refine with_tabW impl_FootMarks.tab7 impl_FootMarks.bits7 (fun HT_ HW_ => ?_); generalize w39.drew = w40 at HO_3 BK335 BK344 HB GG18 HQ42 hf18_0 hx18_0 hx345_0 hHeld ⊢; refine pure_ (i := 0) (N := some 42) (v := ?_) (a' := ?_) #[true, false, false, false, false, false, false, false] rfl rfl (qua HT_.out (by kernel_rfl)) (fun _ _ _ h => h) (Or.inl ⟨by rfl, ?_⟩) ?_ ?_; rotate_left
              ·intro w'
               go_simp; with_reducible rfl
              rotate_left
              ·simp only [Act.put, qb, qc, qd, i64_w, i32_w]
               rfl
              refine pure_ (i := 1) (N := some 43) (v := ?_) (a' := ?_) #[true, true, false, false, false, false, false, false] rfl rfl (qua HT_.out (by kernel_rfl)) (fun _ _ _ h => h) (Or.inl ⟨by rfl, ?_⟩) ?_ ?_; rotate_left
              ·intro w'
               go_simp; with_reducible rfl
              rotate_left
              ·simp only [Act.put, qb, qc, qd, i64_w, i32_w]
               rfl
              refine pure_ (i := 3) (N := some 45) (v := ?_) (a' := ?_) #[true, true, false, true, false, false, false, false] rfl rfl (qua HT_.out (by kernel_rfl)) (fun _ _ _ h => h) (Or.inl ⟨by rfl, ?_⟩) ?_ ?_; rotate_left
              ·intro w'
               go_simp; with_reducible rfl
              rotate_left
              ·simp only [Act.put, qb, qc, qd, i64_w, i32_w]
               rfl
              refine take_ (i := 2) (N := some 44) (v := ?_) (a' := ?_) #[true, true, true, true, false, false, false, false] rfl rfl (qva HT_.out HW_.out (by kernel_rfl)) (fun _ _ _ h => h) (Or.inl ⟨by rfl, ?_⟩) hHeld ?_ ?_; rotate_left
              ·rintro w' ⟨s0, s1, s2, s3⟩
               go_simp; with_reducible rfl
              rotate_left
              ·simp only [Act.put, qb, qc, qd, i64_w, i32_w]
               rfl
              refine take_ (i := 4) (N := some 46) (v := ?_) (a' := ?_) #[true, true, true, true, true, false, false, false] rfl rfl (qva HT_.out HW_.out (by kernel_rfl)) (fun _ _ _ h => h) (Or.inl ⟨by rfl, ?_⟩) hHeld ?_ ?_; rotate_left
              ·rintro w' ⟨s0, s1, s2, s3⟩
               go_simp; with_reducible rfl
              rotate_left
              ·simp only [Act.put, qb, qc, qd, i64_w, i32_w]
               rfl
              refine pure_ (i := 5) (N := some 47) (v := ?_) (a' := ?_) #[true, true, true, true, true, true, false, false] rfl rfl (qua HT_.out (by kernel_rfl)) (fun _ _ _ h => h) (Or.inl ⟨by rfl, ?_⟩) ?_ ?_; rotate_left
              ·intro w'
               go_simp; with_reducible rfl
              rotate_left
              ·simp only [Act.put, qb, qc, qd, i64_w, i32_w]
               rfl
              refine pure_ (i := 6) (N := some 48) (v := ?_) (a' := ?_) #[true, true, true, true, true, true, true, false] rfl rfl (qua HT_.out (by kernel_rfl)) (fun _ _ _ h => h) (Or.inl ⟨by rfl, ?_⟩) ?_ ?_; rotate_left
              ·intro w'
               go_simp; with_reducible rfl
              rotate_left
              ·simp only [Act.put, qb, qc, qd, i64_w, i32_w]
               rfl
              refine last_ (i := 7) (N := none) #[true, true, true, true, true, true, true, true] rfl rfl (qwa HT_.out (by kernel_rfl)) (by decide) (fun K hK => ?_); refine skip_ (w1 := ?_) (by rfl) rfl ?_ ?_; rotate_left
              ·go_simp
               rfl
              refine hK.out _ _ ?_; clear hK K; refine done_ (done_of HT_.out (by kernel_rfl)) ?_
              have n0_ : Aside0 (Kd.R (Kd.int .i64) 3 (w40.setCell ⟨go18, 0, none⟩ (.int .i64 (wrap64 ((rd x3_1 0) - ((rd_T59 l0_1 x38_1).f1))))) w.heap.size (fun _ => True) (.slice (some ⟨go18, 0, none⟩) x3_1.length co41) y346) := ⟨by (with_reducible repeat first | apply qx | apply qy | apply qz); exact HQ42.out⟩
              have n1_ : Aside0 ((w40.setCell ⟨go18, 0, none⟩ (.int .i64 (wrap64 ((rd x3_1 0) - ((rd_T59 l0_1 x38_1).f1))))).heap[gb335]? = some (.cells #[.int .i64 a0_0, .slice (some ad337) l0_1.length c0_1, .int .i64 a0_2] 31 (0, 0))) := ⟨by (with_reducible repeat first | apply ql | apply qn | apply qk); refine qlb ?_ (by have h_ := Kd.R_ne HO_3.out BK335.out (by decide); intro e_; exact h_ (by rw [e_]; rfl)) _; (with_reducible repeat first | apply ql | apply qn | apply qk); exact BK335.out⟩
              have n2_ : Aside0 ((w40.setCell ⟨go18, 0, none⟩ (.int .i64 (wrap64 ((rd x3_1 0) - ((rd_T59 l0_1 x38_1).f1))))).heap[gb344]? = some (.cells #[.int .i64 ((rd_T59 l0_1 x38_1).f0), .int .i64 ((rd_T59 l0_1 x38_1).f1), .int .i64 ((rd_T59 l0_1 x38_1).f2)] 59 (0, 0))) := ⟨by (with_reducible repeat first | apply ql | apply qn | apply qk); refine qlb ?_ (by have h_ := Kd.R_ne HO_3.out BK344.out (by decide); intro e_; exact h_ (by rw [e_]; rfl)) _; (with_reducible repeat first | apply ql | apply qn | apply qk); exact BK344.out⟩
              have n3_ : Aside0 (Below w.heap.size w (w40.setCell ⟨go18, 0, none⟩ (.int .i64 (wrap64 ((rd x3_1 0) - ((rd_T59 l0_1 x38_1).f1)))))) := ⟨by repeat (first | (with_reducible first | exact HB.out | apply qh | apply qe | apply qg | refine qj ?_ GB18.out | refine qj ?_ GE335.out | refine qj ?_ GE344.out) | exact HB.out)⟩
              (try clear HO_3); (try clear BK335); (try clear BK344); (try clear HB); generalize (w40.setCell ⟨go18, 0, none⟩ (.int .i64 (wrap64 ((rd x3_1 0) - ((rd_T59 l0_1 x38_1).f1))))) = w43 at n0_ n1_ n2_ n3_ ⊢; have HO_3 := n0_; have BK335 := n1_; have BK344 := n2_; have HB := n3_; clear n0_ n1_ n2_ n3_; have hcz44_0 : w43.cell? ⟨gb344, 0, none⟩ = some (.int .i64 ((rd_T59 l0_1 x38_1).f0)) := (qi BK344.out 0).trans rfl; have hcz44_1 : w43.cell? ⟨gb344, 1, none⟩ = some (.int .i64 ((rd_T59 l0_1 x38_1).f1)) := (qi BK344.out 1).trans rfl; have hcz44_2 : w43.cell? ⟨gb344, 2, none⟩ = some (.int .i64 ((rd_T59 l0_1 x38_1).f2)) := (qi BK344.out 2).trans rfl; have hfz44_0 := qo BK344.out 0; have hfz44_1 := qo BK344.out 1; have hfz44_2 := qo BK344.out 2
              have p349 : 0 ≤ (2 : Int) := (by omega)
              have q349 : 2 < (y346.length : Int) := (by have h_ : (2 : Int) < ((x3_1.length : Int) : Int) := qm (by assumption); first | (have e_ := (qgb HO_3.out).1; omega) | simpa only [Ny346.out, List.length_set] using h_)
              have ql349 : ((2 : Int) < ((x3_1.length : Int) : Int)) = True := qga (qm (by assumption)); (try have qn349 : (2 < x3_1.length) = True := qga (by have h_ : (2 : Int) < ((x3_1.length : Int) : Int) := qm (by assumption); omega)); obtain ⟨ad349, e349, hx349_0⟩ := Kd.at_int (qgb HO_3.out).2.2 2 p349 q349
              obtain rfl : (⟨go18, 0, none⟩ : Addr) = ad349 := (by injection e349)
              (first | simp only [add_plain] at hx349_0 | simp only [add_at] at hx349_0 | simp only [Addr.add, Nat.zero_add] at hx349_0 | skip)
              have qi349 : (2 < y346.length) = True := qga (by omega); (try rw [show ((2 : Int)).toNat = 2 from rfl] at hx349_0); replace p349 := qga p349; replace q349 := qga q349
              have p35 : 0 ≤ (2 : Int) := (by omega)
              have q35 : (2 : Int) < ((x3_1.length : Int) : Int) := qm (by assumption); have qi35 : (2 < x3_1.length) = True := qga (by omega); obtain ⟨hx35_0, hf35_0⟩ := Kd.R_celln 0 HO_3.out (2 : Int) p35 q35; (try rw [show ((2 : Int)).toNat = 2 from rfl] at hx35_0); (try simp only [Nat.reduceMul, Nat.zero_mul, Nat.zero_add, Nat.reduceAdd] at hx35_0); (try rw [show ((2 : Int)).toNat = 2 from rfl] at hf35_0); (try simp only [Nat.reduceMul, Nat.zero_mul, Nat.zero_add, Nat.reduceAdd] at hf35_0); replace p35 := qga p35; replace q35 := qga q35; obtain ⟨hy45_, hz45_⟩ := Kd.R_celln 0 HO_3.out (2 : Int) (by omega) (qm (by assumption)); (try simp only [Int.reduceToNat, Int.toNat_zero, Int.toNat_ofNat, Nat.reduceMul, Nat.zero_mul, Nat.zero_add] at hy45_ hz45_); (try rw [show ((2 : Int)).toNat = 2 from rfl] at hy45_); (try rw [show ((2 : Int)).toNat = 2 from rfl] at hz45_); have HP45 := Kd.R_putg HO_3.out (2 : Int) (wrap64 ((rd y346 2) + 1))
              try go_wp2_with (first | ((with_reducible refine gate_store (t := 3) (p := 71) rfl ?_); refine store_event (t := 3) (p := 71) (v := ?vo_w46) (w1 := (w43.setCell ⟨go18, (2 : Int).toNat, none⟩ (.int .i64 (wrap64 ((rd y346 2) + 1))))) ?hg ?ho ?hn ?hr ?_; (case ho => rfl); (case hg => rfl); (case hn => rfl); (case hr => first | (go_simp; done) | (go_simp; rfl)); intro w46 hw; have hg : w43.grownBy w46 (some go18) := (by rw [hw]; exact HP45.2); have hp_ : Kd.R (Kd.int .i64) 3 w46 w.heap.size (fun _ => True) (.slice (some ⟨go18, 0, none⟩) x3_1.length co41) y350 := (by rw [hw, Ny350.out]; exact HP45.1); clear HP45; have n0_ := qa (hp_); have n1_ := qa (blk_grown (g := gb335) (o := .cells #[.int .i64 a0_0, .slice (some ad337) l0_1.length c0_1, .int .i64 a0_2] 31 (0, 0)) (by (with_reducible repeat first | apply ql | apply qn | apply qk); exact BK335.out) hg (Kd.R_ne HO_3.out BK335.out (by decide))); have n2_ := qa (blk_grown (g := gb344) (o := .cells #[.int .i64 ((rd_T59 l0_1 x38_1).f0), .int .i64 ((rd_T59 l0_1 x38_1).f1), .int .i64 ((rd_T59 l0_1 x38_1).f2)] 59 (0, 0)) (by (with_reducible repeat first | apply ql | apply qn | apply qk); exact BK344.out) hg (Kd.R_ne HO_3.out BK344.out (by decide))); have n3_ := qa ((by rw [hw]; exact qj (HB.out) GB18.out : Below w.heap.size w w46)); clear HO_3; clear BK335; clear BK344; clear HB; have HO_3 := n0_; have BK335 := n1_; have BK344 := n2_; have HB := n3_; clear n0_ n1_ n2_ n3_; clear hg hw hp_))
              go_roundg k1
              case measure => have := HK1.out; omega
              case rel => exact ⟨(y350), (wrap64 (x38_1 + 1)), (by first | rfl | (simp; done) | (simp [*]; done)), H', ⟨by have := HK1.out; omega⟩, ⟨by (with_reducible repeat first | apply qx | apply qy | apply qz); exact HO_3.out⟩, ⟨by (with_reducible repeat first | apply ql | apply qn | apply qk); exact BK335.out⟩, ⟨by repeat (first | (with_reducible first | exact HB.out | apply qh | apply qe | apply qg | refine qj ?_ GE335.out | refine qj ?_ GE344.out) | exact HB.out)⟩⟩
             ·rw [if_neg c34] at H
              exact absurd H (by simp)
            ·rw [if_neg c33] at H
             have c33b0 : (((rd_T59 l0_1 x38_1).f2) == 1) = false := zd c33; have c33b1 : (((rd_T59 l0_1 x38_1).f2) != 1) = true := zf c33
             by_cases c47 : 3 < (x3_1.length : Int)
             ·rw [if_pos c47] at H
              have c47b0 : decide (3 < (x3_1.length : Int)) = true := qq c47; have c47b1 : decide (3 < x3_1.length) = true := qq (by omega); clear c47
              obtain ⟨y352, hy352⟩ : ∃ y_ : List Int, y_ = (y346.set (3 : Int).toNat (wrap64 ((rd y346 3) + 1))) := ⟨_, rfl⟩
              replace H : (impl_FootMarks.l0 k1 y352 l0_1 (l0_1.length : Int) (wrap64 (x38_1 + 1))) = some r := by first | (rw [hy352]; with_reducible exact H) | (have H2_ := (Option.bind_some _ _).symm.trans H; rw [hy352]; with_reducible exact H2_) | (have H2_ := (Option.bind_some _ _).symm.trans H; with_reducible exact H2_) | with_reducible exact H | (rw [hy352]; exact H) | exact H
              have Ny352 := qa hy352; clear hy352; have H' := qa H; clear H; have p343 : 0 ≤ (x38_1 : Int) := qm (by assumption); have q343 : x38_1 < (l0_1.length : Int) := qm (by assumption); obtain ⟨ad343, e343, hx343_0, hx343_1, hx343_2⟩ := at_T59 HR0_1.out x38_1 p343 q343
              obtain rfl : ad337 = ad343 := (by injection e343)
              replace hx343_0 := (HB.out.cell (qf w _ hx343_0)).trans hx343_0; replace hx343_1 := (HB.out.cell (qf w _ hx343_1)).trans hx343_1; replace hx343_2 := (HB.out.cell (qf w _ hx343_2)).trans hx343_2; replace p343 := qga p343; replace q343 := qga q343
              try go_wp2_with (first | ((with_reducible refine gate_dst (N := 5) rfl ?_); refine box_event ?hg (N := 5) ?hd (cs := #[.int .i64 0, .int .i64 0, .int .i64 0]) (t := 59) ?hr ?_; (case hd => rfl); (case hg => rfl); (case hr => first | (go_simp; done) | (go_simp; rfl)); intro gb344 hg w49 hbox hb; have n0_ := qa (qya (by (with_reducible repeat first | apply qx | apply qy | apply qz); exact HO_3.out) hb); have n1_ := qa (qja (g := gb335) (o := .cells #[.int .i64 a0_0, .slice (some ad337) l0_1.length c0_1, .int .i64 a0_2] 31 (0, 0)) (by (with_reducible repeat first | apply ql | apply qn | apply qk); exact BK335.out) hb); have n2_ := qa (qha (by repeat (first | (with_reducible first | exact HB.out | apply qh | apply qe | apply qg | refine qj ?_ GE335.out) | exact HB.out)) hb); have n3_ := qa (hbox); have n4_ := qa ((by rw [hg]; exact (qp (by repeat (first | (with_reducible first | exact HB.out | apply qh | apply qe | apply qg | refine qj ?_ GE335.out) | exact HB.out))) : w.heap.size ≤ gb344)); have n5_ := qa ((by rw [hg]; exact (qp (by repeat (first | (with_reducible first | exact HB.out | apply qh | apply qe | apply qg | refine qj ?_ GE335.out) | exact HB.out))) : w.heap.size ≤ gb344)); have n6_ := qa ((by rw [hg]; exact Nat.ne_of_lt (blk_lt (g := gb335) (o := .cells #[.int .i64 a0_0, .slice (some ad337) l0_1.length c0_1, .int .i64 a0_2] 31 (0, 0)) (by (with_reducible repeat first | apply ql | apply qn | apply qk); exact BK335.out)) : gb335 ≠ gb344)); have n7_ := qa ((by rw [hg]; exact Nat.ne_of_gt (blk_lt (g := gb335) (o := .cells #[.int .i64 a0_0, .slice (some ad337) l0_1.length c0_1, .int .i64 a0_2] 31 (0, 0)) (by (with_reducible repeat first | apply ql | apply qn | apply qk); exact BK335.out)) : gb344 ≠ gb335)); clear HO_3; clear BK335; clear HB; have HO_3 := n0_; have BK335 := n1_; have HB := n2_; have BK344 := n3_; have GW344 := n4_; have GE344 := n5_; have NB335_344 := n6_; have NB344_335 := n7_; clear n0_ n1_ n2_ n3_ n4_ n5_ n6_ n7_; clear hb hbox hg; have hnb50 := NB344_335.out; have hnc50 := NB335_344.out; have hcz51_0 : w49.cell? ⟨gb344, 0, none⟩ = some (.int .i64 0) := (qi BK344.out 0).trans rfl; have hcz51_1 : w49.cell? ⟨gb344, 1, none⟩ = some (.int .i64 0) := (qi BK344.out 1).trans rfl; have hcz51_2 : w49.cell? ⟨gb344, 2, none⟩ = some (.int .i64 0) := (qi BK344.out 2).trans rfl; have hfz51_0 := qo BK344.out 0; have hfz51_1 := qo BK344.out 1; have hfz51_2 := qo BK344.out 2))
              have n0_ : Aside0 (Kd.R (Kd.int .i64) 3 (((w49.setCell ⟨gb344, 0, none⟩ (.int .i64 ((rd_T59 l0_1 x38_1).f0))).setCell ⟨gb344, 1, none⟩ (.int .i64 ((rd_T59 l0_1 x38_1).f1))).setCell ⟨gb344, 2, none⟩ (.int .i64 ((rd_T59 l0_1 x38_1).f2))) w.heap.size (fun _ => True) v341 x3_1) := ⟨by (with_reducible repeat first | apply qx | apply qy | apply qz); exact qoa (qob (p := ⟨gb344, 2, none⟩) (qob (p := ⟨gb344, 1, none⟩) (qob (p := ⟨gb344, 0, none⟩) (Kd.R_types HO_3.out BK344.out (by decide)) (fun _ hk => hk.2) (.int .i64 ((rd_T59 l0_1 x38_1).f0))) (fun _ hk => hk.2) (.int .i64 ((rd_T59 l0_1 x38_1).f1))) (fun _ hk => hk.2) (.int .i64 ((rd_T59 l0_1 x38_1).f2))) (fun _ hk => trivial)⟩
              have n1_ : Aside0 ((((w49.setCell ⟨gb344, 0, none⟩ (.int .i64 ((rd_T59 l0_1 x38_1).f0))).setCell ⟨gb344, 1, none⟩ (.int .i64 ((rd_T59 l0_1 x38_1).f1))).setCell ⟨gb344, 2, none⟩ (.int .i64 ((rd_T59 l0_1 x38_1).f2))).heap[gb335]? = some (.cells #[.int .i64 a0_0, .slice (some ad337) l0_1.length c0_1, .int .i64 a0_2] 31 (0, 0))) := ⟨by (with_reducible repeat first | apply ql | apply qn | apply qk); refine qlb ?_ NB335_344.out _; (with_reducible repeat first | apply ql | apply qn | apply qk); refine qlb ?_ NB335_344.out _; (with_reducible repeat first | apply ql | apply qn | apply qk); refine qlb ?_ NB335_344.out _; (with_reducible repeat first | apply ql | apply qn | apply qk); exact BK335.out⟩
              have n2_ : Aside0 ((((w49.setCell ⟨gb344, 0, none⟩ (.int .i64 ((rd_T59 l0_1 x38_1).f0))).setCell ⟨gb344, 1, none⟩ (.int .i64 ((rd_T59 l0_1 x38_1).f1))).setCell ⟨gb344, 2, none⟩ (.int .i64 ((rd_T59 l0_1 x38_1).f2))).heap[gb344]? = some (.cells #[.int .i64 ((rd_T59 l0_1 x38_1).f0), .int .i64 ((rd_T59 l0_1 x38_1).f1), .int .i64 ((rd_T59 l0_1 x38_1).f2)] 59 (0, 0))) := ⟨by (with_reducible repeat first | apply ql | apply qn | apply qk); refine qmb (cs := #[.int .i64 ((rd_T59 l0_1 x38_1).f0), .int .i64 ((rd_T59 l0_1 x38_1).f1), .int .i64 0]) ?_ 2 _ rfl; (with_reducible repeat first | apply ql | apply qn | apply qk); refine qmb (cs := #[.int .i64 ((rd_T59 l0_1 x38_1).f0), .int .i64 0, .int .i64 0]) ?_ 1 _ rfl; (with_reducible repeat first | apply ql | apply qn | apply qk); refine qmb (cs := #[.int .i64 0, .int .i64 0, .int .i64 0]) ?_ 0 _ rfl; (with_reducible repeat first | apply ql | apply qn | apply qk); exact BK344.out⟩
              have n3_ : Aside0 (Below w.heap.size w (((w49.setCell ⟨gb344, 0, none⟩ (.int .i64 ((rd_T59 l0_1 x38_1).f0))).setCell ⟨gb344, 1, none⟩ (.int .i64 ((rd_T59 l0_1 x38_1).f1))).setCell ⟨gb344, 2, none⟩ (.int .i64 ((rd_T59 l0_1 x38_1).f2)))) := ⟨by repeat (first | (with_reducible first | exact HB.out | apply qh | apply qe | apply qg | refine qj ?_ GE335.out | refine qj ?_ GE344.out) | exact HB.out)⟩
              (try clear HO_3); (try clear BK335); (try clear BK344); (try clear HB); generalize (((w49.setCell ⟨gb344, 0, none⟩ (.int .i64 ((rd_T59 l0_1 x38_1).f0))).setCell ⟨gb344, 1, none⟩ (.int .i64 ((rd_T59 l0_1 x38_1).f1))).setCell ⟨gb344, 2, none⟩ (.int .i64 ((rd_T59 l0_1 x38_1).f2))) = w52 at n0_ n1_ n2_ n3_ ⊢; have HO_3 := n0_; have BK335 := n1_; have BK344 := n2_; have HB := n3_; clear n0_ n1_ n2_ n3_; have n0_ := qa (qz HO_3.out); have n1_ := qa (qn BK335.out); have n2_ := qa (qn BK344.out); have n3_ := qa (qg HB.out); clear HO_3 BK335 BK344 HB; have HO_3 := n0_; have BK335 := n1_; have BK344 := n2_; have HB := n3_; clear n0_ n1_ n2_ n3_; obtain ⟨Ao54, co54, eo54⟩ := Kd.R_slice HO_3.out
              (first | subst eo54 | (injection eo54 with f1_ f2_ f3_; have f4_ := f1_.symm; have f5_ := f3_.symm; clear f1_ f2_ f3_; subst f4_; subst f5_))
              have p345 : 0 ≤ (0 : Int) := (by omega)
              have q345 : 0 < (x3_1.length : Int) := qm (by assumption); obtain ⟨ad345, e345, hx345_0⟩ := Kd.at_int (qgb HO_3.out).2.2 0 p345 q345; cases e345; have qi345 : (0 < x3_1.length) = True := qga (by omega); (try rw [show ((0 : Int)).toNat = 0 from rfl] at hx345_0); (try rw [Addr.add_zero'] at hx345_0); replace p345 := qga p345; replace q345 := qga q345
              have p18 : 0 ≤ (0 : Int) := (by omega)
              have q18 : (0 : Int) < ((x3_1.length : Int) : Int) := qm (by assumption); have qi18 : (0 < x3_1.length) = True := qga (by omega); obtain ⟨go18, co18, eo18, gb18, gl18, cl18, HG18⟩ := Kd.R_form HO_3.out (by omega)
              (first | cases eo18 | (injection eo18 with ea_ en_ ec_; (first | subst ea_ | (injection ea_ with ea_; subst ea_)); subst ec_; clear en_))
              have GB18 := qa gb18; have GG18 := qa HG18; clear gb18 gl18 HG18
              (first | simp only [add_plain] at hx345_0 | skip)
              obtain ⟨hx18_0, hf18_0⟩ := Kd.R_celln 0 HO_3.out (0 : Int) p18 q18; (try rw [show ((0 : Int)).toNat = 0 from rfl] at hx18_0); (try simp only [Nat.reduceMul, Nat.zero_mul, Nat.zero_add, Nat.reduceAdd] at hx18_0); (try rw [show ((0 : Int)).toNat = 0 from rfl] at hf18_0); (try simp only [Nat.reduceMul, Nat.zero_mul, Nat.zero_add, Nat.reduceAdd] at hf18_0); replace p18 := qga p18; replace q18 := qga q18; have HP55 := Kd.R_putn HO_3.out (0 : Int) (wrap64 ((rd x3_1 0) - ((rd_T59 l0_1 x38_1).f1))); rw [← Ny346.out] at HP55; have HQ55 := qa HP55; clear HP55; refine start_ (n := 8) (S := fun w' => w'.cell? ⟨gb344, 0, none⟩ = some (.int .i64 ((rd_T59 l0_1 x38_1).f0)) ∧ w'.cell? ⟨gb344, 1, none⟩ = some (.int .i64 ((rd_T59 l0_1 x38_1).f1)) ∧ w'.cell? ⟨gb344, 2, none⟩ = some (.int .i64 ((rd_T59 l0_1 x38_1).f2)) ∧ w'.cell? ⟨go18, 0, none⟩ = some (.int .i64 (rd x3_1 0))) (ds := [7]) #[false, false, false, false, false, false, false, false] (by kernel_rfl) rfl rfl ⟨(qi BK344.out 0).trans rfl, (qi BK344.out 1).trans rfl, (qi BK344.out 2).trans rfl, hx345_0⟩ (fun hHeld => ?_); refine with_tabW impl_FootMarks.tab7 impl_FootMarks.bits7 (fun HT_ HW_ => ?_); generalize w52.drew = w53 at HO_3 BK335 BK344 HB GG18 HQ55 hf18_0 hx18_0 hx345_0 hHeld ⊢; refine pure_ (i := 0) (N := some 42) (v := ?_) (a' := ?_) #[true, false, false, false, false, false, false, false] rfl rfl (qua HT_.out (by kernel_rfl)) (fun _ _ _ h => h) (Or.inl ⟨by rfl, ?_⟩) ?_ ?_; rotate_left
              ·intro w'
               go_simp; with_reducible rfl
              rotate_left
              ·simp only [Act.put, qb, qc, qd, i64_w, i32_w]
               rfl
              refine pure_ (i := 1) (N := some 43) (v := ?_) (a' := ?_) #[true, true, false, false, false, false, false, false] rfl rfl (qua HT_.out (by kernel_rfl)) (fun _ _ _ h => h) (Or.inl ⟨by rfl, ?_⟩) ?_ ?_; rotate_left
              ·intro w'
               go_simp; with_reducible rfl
              rotate_left
              ·simp only [Act.put, qb, qc, qd, i64_w, i32_w]
               rfl
              refine pure_ (i := 3) (N := some 45) (v := ?_) (a' := ?_) #[true, true, false, true, false, false, false, false] rfl rfl (qua HT_.out (by kernel_rfl)) (fun _ _ _ h => h) (Or.inl ⟨by rfl, ?_⟩) ?_ ?_; rotate_left
              ·intro w'
               go_simp; with_reducible rfl
              rotate_left
              ·simp only [Act.put, qb, qc, qd, i64_w, i32_w]
               rfl
              refine take_ (i := 2) (N := some 44) (v := ?_) (a' := ?_) #[true, true, true, true, false, false, false, false] rfl rfl (qva HT_.out HW_.out (by kernel_rfl)) (fun _ _ _ h => h) (Or.inl ⟨by rfl, ?_⟩) hHeld ?_ ?_; rotate_left
              ·rintro w' ⟨s0, s1, s2, s3⟩
               go_simp; with_reducible rfl
              rotate_left
              ·simp only [Act.put, qb, qc, qd, i64_w, i32_w]
               rfl
              refine take_ (i := 4) (N := some 46) (v := ?_) (a' := ?_) #[true, true, true, true, true, false, false, false] rfl rfl (qva HT_.out HW_.out (by kernel_rfl)) (fun _ _ _ h => h) (Or.inl ⟨by rfl, ?_⟩) hHeld ?_ ?_; rotate_left
              ·rintro w' ⟨s0, s1, s2, s3⟩
               go_simp; with_reducible rfl
              rotate_left
              ·simp only [Act.put, qb, qc, qd, i64_w, i32_w]
               rfl
              refine pure_ (i := 5) (N := some 47) (v := ?_) (a' := ?_) #[true, true, true, true, true, true, false, false] rfl rfl (qua HT_.out (by kernel_rfl)) (fun _ _ _ h => h) (Or.inl ⟨by rfl, ?_⟩) ?_ ?_; rotate_left
              ·intro w'
               go_simp; with_reducible rfl
              rotate_left
              ·simp only [Act.put, qb, qc, qd, i64_w, i32_w]
               rfl
              refine pure_ (i := 6) (N := some 48) (v := ?_) (a' := ?_) #[true, true, true, true, true, true, true, false] rfl rfl (qua HT_.out (by kernel_rfl)) (fun _ _ _ h => h) (Or.inl ⟨by rfl, ?_⟩) ?_ ?_; rotate_left
              ·intro w'
               go_simp; with_reducible rfl
              rotate_left
              ·simp only [Act.put, qb, qc, qd, i64_w, i32_w]
               rfl
              refine last_ (i := 7) (N := none) #[true, true, true, true, true, true, true, true] rfl rfl (qwa HT_.out (by kernel_rfl)) (by decide) (fun K hK => ?_); refine skip_ (w1 := ?_) (by rfl) rfl ?_ ?_; rotate_left
              ·go_simp
               rfl
              refine hK.out _ _ ?_; clear hK K; refine done_ (done_of HT_.out (by kernel_rfl)) ?_
              have n0_ : Aside0 (Kd.R (Kd.int .i64) 3 (w53.setCell ⟨go18, 0, none⟩ (.int .i64 (wrap64 ((rd x3_1 0) - ((rd_T59 l0_1 x38_1).f1))))) w.heap.size (fun _ => True) (.slice (some ⟨go18, 0, none⟩) x3_1.length co54) y346) := ⟨by (with_reducible repeat first | apply qx | apply qy | apply qz); exact HQ55.out⟩
              have n1_ : Aside0 ((w53.setCell ⟨go18, 0, none⟩ (.int .i64 (wrap64 ((rd x3_1 0) - ((rd_T59 l0_1 x38_1).f1))))).heap[gb335]? = some (.cells #[.int .i64 a0_0, .slice (some ad337) l0_1.length c0_1, .int .i64 a0_2] 31 (0, 0))) := ⟨by (with_reducible repeat first | apply ql | apply qn | apply qk); refine qlb ?_ (by have h_ := Kd.R_ne HO_3.out BK335.out (by decide); intro e_; exact h_ (by rw [e_]; rfl)) _; (with_reducible repeat first | apply ql | apply qn | apply qk); exact BK335.out⟩
              have n2_ : Aside0 ((w53.setCell ⟨go18, 0, none⟩ (.int .i64 (wrap64 ((rd x3_1 0) - ((rd_T59 l0_1 x38_1).f1))))).heap[gb344]? = some (.cells #[.int .i64 ((rd_T59 l0_1 x38_1).f0), .int .i64 ((rd_T59 l0_1 x38_1).f1), .int .i64 ((rd_T59 l0_1 x38_1).f2)] 59 (0, 0))) := ⟨by (with_reducible repeat first | apply ql | apply qn | apply qk); refine qlb ?_ (by have h_ := Kd.R_ne HO_3.out BK344.out (by decide); intro e_; exact h_ (by rw [e_]; rfl)) _; (with_reducible repeat first | apply ql | apply qn | apply qk); exact BK344.out⟩
              have n3_ : Aside0 (Below w.heap.size w (w53.setCell ⟨go18, 0, none⟩ (.int .i64 (wrap64 ((rd x3_1 0) - ((rd_T59 l0_1 x38_1).f1)))))) := ⟨by repeat (first | (with_reducible first | exact HB.out | apply qh | apply qe | apply qg | refine qj ?_ GB18.out | refine qj ?_ GE335.out | refine qj ?_ GE344.out) | exact HB.out)⟩
              (try clear HO_3); (try clear BK335); (try clear BK344); (try clear HB); generalize (w53.setCell ⟨go18, 0, none⟩ (.int .i64 (wrap64 ((rd x3_1 0) - ((rd_T59 l0_1 x38_1).f1))))) = w56 at n0_ n1_ n2_ n3_ ⊢; have HO_3 := n0_; have BK335 := n1_; have BK344 := n2_; have HB := n3_; clear n0_ n1_ n2_ n3_; have hcz57_0 : w56.cell? ⟨gb344, 0, none⟩ = some (.int .i64 ((rd_T59 l0_1 x38_1).f0)) := (qi BK344.out 0).trans rfl; have hcz57_1 : w56.cell? ⟨gb344, 1, none⟩ = some (.int .i64 ((rd_T59 l0_1 x38_1).f1)) := (qi BK344.out 1).trans rfl; have hcz57_2 : w56.cell? ⟨gb344, 2, none⟩ = some (.int .i64 ((rd_T59 l0_1 x38_1).f2)) := (qi BK344.out 2).trans rfl; have hfz57_0 := qo BK344.out 0; have hfz57_1 := qo BK344.out 1; have hfz57_2 := qo BK344.out 2
              have p351 : 0 ≤ (3 : Int) := (by omega)
              have q351 : 3 < (y346.length : Int) := (by have h_ : (3 : Int) < ((x3_1.length : Int) : Int) := qm (by assumption); first | (have e_ := (qgb HO_3.out).1; omega) | simpa only [Ny346.out, List.length_set] using h_)
              have ql351 : ((3 : Int) < ((x3_1.length : Int) : Int)) = True := qga (qm (by assumption)); (try have qn351 : (3 < x3_1.length) = True := qga (by have h_ : (3 : Int) < ((x3_1.length : Int) : Int) := qm (by assumption); omega)); obtain ⟨ad351, e351, hx351_0⟩ := Kd.at_int (qgb HO_3.out).2.2 3 p351 q351
              obtain rfl : (⟨go18, 0, none⟩ : Addr) = ad351 := (by injection e351)
              (first | simp only [add_plain] at hx351_0 | simp only [add_at] at hx351_0 | simp only [Addr.add, Nat.zero_add] at hx351_0 | skip)
              have qi351 : (3 < y346.length) = True := qga (by omega); (try rw [show ((3 : Int)).toNat = 3 from rfl] at hx351_0); replace p351 := qga p351; replace q351 := qga q351
              have p48 : 0 ≤ (3 : Int) := (by omega)
              have q48 : (3 : Int) < ((x3_1.length : Int) : Int) := qm (by assumption); have qi48 : (3 < x3_1.length) = True := qga (by omega); obtain ⟨hx48_0, hf48_0⟩ := Kd.R_celln 0 HO_3.out (3 : Int) p48 q48; (try rw [show ((3 : Int)).toNat = 3 from rfl] at hx48_0); (try simp only [Nat.reduceMul, Nat.zero_mul, Nat.zero_add, Nat.reduceAdd] at hx48_0); (try rw [show ((3 : Int)).toNat = 3 from rfl] at hf48_0); (try simp only [Nat.reduceMul, Nat.zero_mul, Nat.zero_add, Nat.reduceAdd] at hf48_0); replace p48 := qga p48; replace q48 := qga q48; obtain ⟨hy58_, hz58_⟩ := Kd.R_celln 0 HO_3.out (3 : Int) (by omega) (qm (by assumption)); (try simp only [Int.reduceToNat, Int.toNat_zero, Int.toNat_ofNat, Nat.reduceMul, Nat.zero_mul, Nat.zero_add] at hy58_ hz58_); (try rw [show ((3 : Int)).toNat = 3 from rfl] at hy58_); (try rw [show ((3 : Int)).toNat = 3 from rfl] at hz58_); have HP58 := Kd.R_putg HO_3.out (3 : Int) (wrap64 ((rd y346 3) + 1))
              try go_wp2_with (first | ((with_reducible refine gate_store (t := 3) (p := 53) rfl ?_); refine store_event (t := 3) (p := 53) (v := ?vo_w59) (w1 := (w56.setCell ⟨go18, (3 : Int).toNat, none⟩ (.int .i64 (wrap64 ((rd y346 3) + 1))))) ?hg ?ho ?hn ?hr ?_; (case ho => rfl); (case hg => rfl); (case hn => rfl); (case hr => first | (go_simp; done) | (go_simp; rfl)); intro w59 hw; have hg : w56.grownBy w59 (some go18) := (by rw [hw]; exact HP58.2); have hp_ : Kd.R (Kd.int .i64) 3 w59 w.heap.size (fun _ => True) (.slice (some ⟨go18, 0, none⟩) x3_1.length co54) y352 := (by rw [hw, Ny352.out]; exact HP58.1); clear HP58; have n0_ := qa (hp_); have n1_ := qa (blk_grown (g := gb335) (o := .cells #[.int .i64 a0_0, .slice (some ad337) l0_1.length c0_1, .int .i64 a0_2] 31 (0, 0)) (by (with_reducible repeat first | apply ql | apply qn | apply qk); exact BK335.out) hg (Kd.R_ne HO_3.out BK335.out (by decide))); have n2_ := qa (blk_grown (g := gb344) (o := .cells #[.int .i64 ((rd_T59 l0_1 x38_1).f0), .int .i64 ((rd_T59 l0_1 x38_1).f1), .int .i64 ((rd_T59 l0_1 x38_1).f2)] 59 (0, 0)) (by (with_reducible repeat first | apply ql | apply qn | apply qk); exact BK344.out) hg (Kd.R_ne HO_3.out BK344.out (by decide))); have n3_ := qa ((by rw [hw]; exact qj (HB.out) GB18.out : Below w.heap.size w w59)); clear HO_3; clear BK335; clear BK344; clear HB; have HO_3 := n0_; have BK335 := n1_; have BK344 := n2_; have HB := n3_; clear n0_ n1_ n2_ n3_; clear hg hw hp_))
              go_roundg k1
              case measure => have := HK1.out; omega
              case rel => exact ⟨(y352), (wrap64 (x38_1 + 1)), (by first | rfl | (simp; done) | (simp [*]; done)), H', ⟨by have := HK1.out; omega⟩, ⟨by (with_reducible repeat first | apply qx | apply qy | apply qz); exact HO_3.out⟩, ⟨by (with_reducible repeat first | apply ql | apply qn | apply qk); exact BK335.out⟩, ⟨by repeat (first | (with_reducible first | exact HB.out | apply qh | apply qe | apply qg | refine qj ?_ GE335.out | refine qj ?_ GE344.out) | exact HB.out)⟩⟩
             ·rw [if_neg c47] at H
              exact absurd H (by simp)
          ·rw [if_neg c17] at H
           exact absurd H (by simp)
         ·rw [if_neg c16] at H
          exact absurd H (by simp)
        ·rw [if_neg c15] at H
         exact absurd H (by simp)
       ·rw [if_neg c14] at H
        have c14b0 : decide (x38_1 < (l0_1.length : Int)) = false := qr c14; clear c14; obtain rfl := qia H; go_wp2; go_ret; exact ⟨_, by first | rfl | (simp [*] <;> rfl), by (with_reducible repeat first | apply qx | apply qy | apply qz); exact HO_3.out, by repeat (first | (with_reducible first | exact HB.out | apply qh | apply qe | apply qg | refine qj ?_ GE335.out) | exact HB.out)⟩
    ·rw [if_neg c6] at H
     exact absurd H (by simp)
   ·rw [if_neg c5] at H
    exact absurd H (by simp)
  ·rw [if_neg c4] at H
   exact absurd H (by simp)
 ·replace c3 := Bool.eq_false_iff.mpr c3
  subst c3; rw [if_neg (show ¬ (false = true) by decide)] at H; have H1 := H; clear H; have H := H1; clear H1; obtain rfl := qia H; go_enter Tryd.func17, Tryd.ntmps17
  go_wp2_with (first | ((with_reducible refine gate_dst (N := 1) rfl ?_); refine box_event ?hg (N := 1) ?hd (cs := #[.int .i64 a0_0, .slice A0_1 l0_1.length c0_1, .int .i64 a0_2]) (t := 31) ?hr ?_; (case hd => rfl); (case hg => rfl); (case hr => first | (go_simp; done) | (go_simp; rfl)); intro gb335 hg w60 hbox hb; have n0_ := qa (qha (by repeat (first | (with_reducible first | exact HB.out | apply qh | apply qe | apply qg) | exact HB.out)) hb); have n1_ := qa (hbox); have n2_ := qa ((by rw [hg]; exact (qp (by repeat (first | (with_reducible first | exact HB.out | apply qh | apply qe | apply qg) | exact HB.out))) : w.heap.size ≤ gb335)); have n3_ := qa ((by rw [hg]; exact (qp (by repeat (first | (with_reducible first | exact HB.out | apply qh | apply qe | apply qg) | exact HB.out))) : w.heap.size ≤ gb335)); clear HB; have HB := n0_; have BK335 := n1_; have GW335 := n2_; have GE335 := n3_; clear n0_ n1_ n2_ n3_; clear hb hbox hg; have hcz61_0 : w60.cell? ⟨gb335, 0, none⟩ = some (.int .i64 a0_0) := (qi BK335.out 0).trans rfl; have hcz61_1 : w60.cell? ⟨gb335, 1, none⟩ = some (.slice A0_1 l0_1.length c0_1) := (qi BK335.out 1).trans rfl; have hcz61_2 : w60.cell? ⟨gb335, 2, none⟩ = some (.int .i64 a0_2) := (qi BK335.out 2).trans rfl; have hfz61_0 := qo BK335.out 0; have hfz61_1 := qo BK335.out 1; have hfz61_2 := qo BK335.out 2) | ((with_reducible refine qeb (f := 10) rfl ?_); refine goesL_ (some 7) rfl rfl Tryd.func10 (by kernel_rfl) rfl #[.agg #[.int .i64 a0_0, .slice A0_1 l0_1.length c0_1, .int .i64 a0_2]] rfl (by (try simp only [qs, qv, qw]); first | done | rfl | (simp only [qu, qt]; rfl)) ?_; (with_reducible refine (impl_IsFooting.calls k a0_0 _ _ l0_1 a0_2 false _ ?side1 ?side2 A2.out).mono ?_); (case side1 => repeat (first | exact (qab HR0_1.out HB.out) | (with_reducible first | apply qka | apply qla | apply qma))); (case side2 => exact HC0_1.out); rintro e w62 ⟨rfl, hb⟩; refine ⟨_, rfl, ?_⟩; have n0_ := qa (qja (g := gb335) (o := .cells #[.int .i64 a0_0, .slice A0_1 l0_1.length c0_1, .int .i64 a0_2] 31 (0, 0)) (by (with_reducible repeat first | apply ql | apply qn | apply qk); exact BK335.out) hb); have n1_ := qa (qha (by repeat (first | (with_reducible first | exact HB.out | apply qh | apply qe | apply qg | refine qj ?_ GE335.out) | exact HB.out)) hb); clear BK335; clear HB; have BK335 := n0_; have HB := n1_; clear n0_ n1_; (try clear hb); (try clear hb2); (try clear hk); (try clear hi)))
  go_ret; exact ⟨_, by first | rfl | (simp [*] <;> rfl), by first | exact Kd.R_nil _ _ _ _ _ | exact Kd.N_nil _ _ _ _ _ | exact Kd.V_nil _ _ _ _ _ | exact Kd.Q_nil _ _ _ _ _ | exact Kd.S_nil _ _ _ _ _, by repeat (first | (with_reducible first | exact HB.out | apply qh | apply qe | apply qg | refine qj ?_ GE335.out) | exact HB.out)⟩
end Go.Proofs.YtkjpbhncgjhfeaaDoor.PFnFeet
