import Derived.Test.YtkjpbhncgjhfeaaDoorPFnFeetx0
import Derived.Test.YtkjpbhncgjhfeaaDoorPFnFeetx2
namespace Go.Proofs.YtkjpbhncgjhfeaaDoor.PFnFeet
open Go.RowKit Go.Proofs.YtkjpbhncgjhfeaaDoorW.PrintWords Go.Proofs.YtkjpbhncgjhfeaaDoorW.PrintLast Go.Proofs.YtkjpbhncgjhfeaaDoorW.PrintMore
attribute [local go_sem] max2_int min2_int max_two min_two max_three min_three max_four min_four
set_option linter.unusedVariables false
set_option linter.unusedSimpArgs false
set_option maxHeartbeats 8000000
set_option maxRecDepth 100000
def spec_FootMarks.l0 : Nat → List Int → Int → Int → List (S59) → Int → Option (List Int)
 | 0, _, _, _, _, _ => none
 | k + 1, x3, x4, x384000, x384001, x384002 => if x4 < (x384001.length : Int) then (if 0 ≤ x4 then (if 0 < (x3.length : Int) then ((some (x3.set (0 : Int).toNat (wrap64 ((rd x3 0) - ((rd_T59 x384001 x4).f1))) : List Int)).bind fun y397 => (if ((rd_T59 x384001 x4).f1) = 1 then (if 1 < (x3.length : Int) then (spec_FootMarks.l0 k (y397.set (1 : Int).toNat (wrap64 ((rd y397 1) + 1))) (wrap64 (x4 + 1)) x384000 x384001 x384002) else (none)) else (if ((rd_T59 x384001 x4).f2) = 1 then (if 2 < (x3.length : Int) then (spec_FootMarks.l0 k (y397.set (2 : Int).toNat (wrap64 ((rd y397 2) + 1))) (wrap64 (x4 + 1)) x384000 x384001 x384002) else (none)) else (if 3 < (x3.length : Int) then (spec_FootMarks.l0 k (y397.set (3 : Int).toNat (wrap64 ((rd y397 3) + 1))) (wrap64 (x4 + 1)) x384000 x384001 x384002) else (none))))) else (none)) else (none)) else (some x3)
def spec_FootMarks.f (k : Nat) (a0_0 : Int) (l0_1 : List (S59)) (a0_2 : Int) : Option (List Int) := (spec_IsFooting.f k a0_0 l0_1 a0_2).bind fun t384 => (if t384 = true then (if 0 < (l0_1.length : Int) then (if 0 ≤ a0_2 then (if a0_2 < (l0_1.length : Int) then (spec_FootMarks.l0 k (([a0_0, 0, 0, 0, (rd_T59 l0_1 0).f0, wrap64 ((wrap64 (a0_0 - ((rd_T59 l0_1 a0_2).f0))) - ((rd_T59 l0_1 a0_2).f1))] : List Int)) 0 a0_0 l0_1 a0_2) else (none)) else (none)) else (none)) else (some (([] : List Int))))
theorem spec_FootMarks.mono_l : ∀ k, (∀ y0 y1 y2 y3 y4, LeO (spec_FootMarks.l0 k y0 y1 y2 y3 y4) (spec_FootMarks.l0 (k + 1) y0 y1 y2 y3 y4))
 | 0 => fun _ _ _ _ _ r h => by simp [spec_FootMarks.l0] at h
 | k + 1 => by
  have ih0 := spec_FootMarks.mono_l k
  ·intro y0 y1 y2 y3 y4
   unfold spec_FootMarks.l0
   repeat' first
   | (with_reducible exact ih0 _ _ _ _ _)
   | (with_reducible exact spec_IsFooting.mono _ _ _ _)
   | (with_reducible exact LeO.refl _)
   | (with_reducible exact LeO.none _)
   | (with_reducible refine LeO.ite ?_ ?_)
   | (with_reducible refine LeO.bind ?_ (fun _ => ?_))
   | exact ih0 _ _ _ _ _
   | exact spec_IsFooting.mono _ _ _ _
   | exact LeO.none _
   | refine LeO.ite ?_ ?_
   | refine LeO.bind ?_ (fun _ => ?_)
theorem spec_FootMarks.mono : ∀ a0 a1 a2 k, LeO (spec_FootMarks.f k a0 a1 a2) (spec_FootMarks.f (k + 1) a0 a1 a2) := by
 intro a0 a1 a2 k; have ih0 := spec_FootMarks.mono_l k; unfold spec_FootMarks.f
 repeat' first
   | (with_reducible exact ih0 _ _ _ _ _)
   | (with_reducible exact spec_IsFooting.mono _ _ _ _)
   | (with_reducible exact LeO.refl _)
   | (with_reducible exact LeO.none _)
   | (with_reducible refine LeO.ite ?_ ?_)
   | (with_reducible refine LeO.bind ?_ (fun _ => ?_))
   | exact ih0 _ _ _ _ _
   | exact spec_IsFooting.mono _ _ _ _
   | exact LeO.none _
   | refine LeO.ite ?_ ?_
   | refine LeO.bind ?_ (fun _ => ?_)
def spec_FootMarks.T3 : Bool × List (List Nat × List Nat) := (true, [([], []), ([0], [0]), ([], []), ([2], [2]), ([3], [3]), ([4], [4]), ([5], [5]), ([], []), ([7], [7]), ([], []), ([9], [9]), ([], []), ([11], [11]), ([10, 12], [10, 12]), ([13], [13]), ([14], [14]), ([8, 15], [8, 15]), ([], []), ([17], [17]), ([], []), ([19], [19]), ([18, 20], [18, 20]), ([21], [21]), ([22], [22]), ([16, 23], [16, 23]), ([1, 6, 24], [1, 6, 24]), ([25, 0, 1, 2, 3, 4, 5, 6, 7, 8, 9, 10, 11, 12, 13, 14, 15, 16, 17, 18, 19, 20, 21, 22, 23, 24, 25], [25])])
def spec_FootMarks.B3 : List Nat := [0, 1, 0, 4, 12, 28, 60, 0, 128, 0, 512, 0, 2048, 7680, 15872, 32256, 65408, 0, 131072, 0, 524288, 1966080, 4063232, 8257536, 16777088, 33554431, 67108863]
theorem spec_FootMarks.tab3 : rtab .any (opsOf Tryd.f19 3) = spec_FootMarks.T3 := by kernel_rfl
theorem spec_FootMarks.bits3 : waitsOk spec_FootMarks.T3.2 spec_FootMarks.B3 = true := by kernel_rfl
def spec_FootMarks.T8 : Bool × List (List Nat × List Nat) := (true, [([], []), ([], []), ([1], [1]), ([2], [2]), ([], []), ([4], [4]), ([3, 5], [3, 5]), ([0, 0, 1, 2, 3, 4, 5, 6], [0]), ([7, 6, 0, 1, 2, 3, 4, 5, 6], [6, 7])])
def spec_FootMarks.B8 : List Nat := [0, 0, 2, 6, 0, 16, 62, 127, 255]
theorem spec_FootMarks.tab8 : rtab .any (opsOf Tryd.f19 8) = spec_FootMarks.T8 := by kernel_rfl
theorem spec_FootMarks.bits8 : waitsOk spec_FootMarks.T8.2 spec_FootMarks.B8 = true := by kernel_rfl
theorem spec_FootMarks.calls (k : Nat) (a0_0 : Int) (A0_1 : Option Addr) (c0_1 : Nat) (l0_1 : List (S59)) (a0_2 : Int) (r : List Int) (w : World) (hr0_1 : Kd.C k59 w A0_1 l0_1.length l0_1) (hc0_1 : l0_1.length ≤ c0_1) (h : spec_FootMarks.f k a0_0 l0_1 a0_2 = some r) :
  Calls Tryd.prog 19 #[.agg #[.int .i64 a0_0, .slice A0_1 l0_1.length c0_1, .int .i64 a0_2]] w fun e w' => ∃ v0_ : Value, e = .returned (v0_) ∧ Kd.R (Kd.int .i64) 3 w' w.heap.size (fun _ => True) v0_ r ∧ Below w.heap.size w w' := by
 have hu31 := Tryd.underlying31; have hu59 := Tryd.underlying59; have HR0_1 := qa hr0_1; have HC0_1 := qa hc0_1; clear hr0_1 hc0_1; have HB := qa (qsb w.heap.size w); have H := h; unfold spec_FootMarks.f at H; clear h; obtain ⟨t384, A20, H⟩ := zb H; (try dsimp only at H); have A2 := qa A20; clear A20
 by_cases c3 : t384 = true
 ·subst c3
  rw [if_pos rfl] at H; have H1 := H; clear H; have H := H1; clear H1
  by_cases c4 : 0 < (l0_1.length : Int)
  ·rw [if_pos c4] at H
   have c4b0 : decide (0 < (l0_1.length : Int)) = true := qq c4; have c4b1 : decide (0 < l0_1.length) = true := qq (by omega); clear c4
   by_cases c5 : 0 ≤ a0_2
   ·rw [if_pos c5] at H
    have c5b0 : decide (0 ≤ a0_2) = true := qq c5; clear c5
    by_cases c6 : a0_2 < (l0_1.length : Int)
    ·rw [if_pos c6] at H
     have c6b0 : decide (a0_2 < (l0_1.length : Int)) = true := qq c6; clear c6
     obtain ⟨y391, hy391⟩ : ∃ y_ : List Int, y_ = (([a0_0, 0, 0, 0, (rd_T59 l0_1 0).f0, wrap64 ((wrap64 (a0_0 - ((rd_T59 l0_1 a0_2).f0))) - ((rd_T59 l0_1 a0_2).f1))] : List Int)) := ⟨_, rfl⟩
     replace H : (spec_FootMarks.l0 k y391 0 a0_0 l0_1 a0_2) = some r := by first | (rw [hy391]; with_reducible exact H) | (have H2_ := (Option.bind_some _ _).symm.trans H; rw [hy391]; with_reducible exact H2_) | (have H2_ := (Option.bind_some _ _).symm.trans H; with_reducible exact H2_) | with_reducible exact H | (rw [hy391]; exact H) | exact H
     have Ny391 := qa hy391; clear hy391; have H' := qa H; clear H; go_enter Tryd.func19, Tryd.ntmps19
     try go_wp2_with (first | ((with_reducible refine gate_dst (N := 1) rfl ?_); refine box_event ?hg (N := 1) ?hd (cs := #[.int .i64 a0_0, .slice A0_1 l0_1.length c0_1, .int .i64 a0_2]) (t := 31) ?hr ?_; (case hd => rfl); (case hg => rfl); (case hr => first | (go_simp; done) | (go_simp; rfl)); intro gb383 hg w7 hbox hb; have n0_ := qa (qha (by repeat (first | (with_reducible first | exact HB.out | apply qh | apply qe | apply qg) | exact HB.out)) hb); have n1_ := qa (hbox); have n2_ := qa ((by rw [hg]; exact (qp (by repeat (first | (with_reducible first | exact HB.out | apply qh | apply qe | apply qg) | exact HB.out))) : w.heap.size ≤ gb383)); have n3_ := qa ((by rw [hg]; exact (qp (by repeat (first | (with_reducible first | exact HB.out | apply qh | apply qe | apply qg) | exact HB.out))) : w.heap.size ≤ gb383)); clear HB; have HB := n0_; have BK383 := n1_; have GW383 := n2_; have GE383 := n3_; clear n0_ n1_ n2_ n3_; clear hb hbox hg; have hcz8_0 : w7.cell? ⟨gb383, 0, none⟩ = some (.int .i64 a0_0) := (qi BK383.out 0).trans rfl; have hcz8_1 : w7.cell? ⟨gb383, 1, none⟩ = some (.slice A0_1 l0_1.length c0_1) := (qi BK383.out 1).trans rfl; have hcz8_2 : w7.cell? ⟨gb383, 2, none⟩ = some (.int .i64 a0_2) := (qi BK383.out 2).trans rfl; have hfz8_0 := qo BK383.out 0; have hfz8_1 := qo BK383.out 1; have hfz8_2 := qo BK383.out 2) | ((with_reducible refine qeb (f := 22) rfl ?_); refine goesL_ (some 7) rfl rfl Tryd.func22 (by kernel_rfl) rfl #[.agg #[.int .i64 a0_0, .slice A0_1 l0_1.length c0_1, .int .i64 a0_2]] rfl (by (try simp only [qs, qv, qw]); first | done | rfl | (simp only [qu, qt]; rfl)) ?_; (with_reducible refine (spec_IsFooting.calls k a0_0 _ _ l0_1 a0_2 true _ ?side1 ?side2 A2.out).mono ?_); (case side1 => repeat (first | exact (qab HR0_1.out HB.out) | (with_reducible first | apply qka | apply qla | apply qma))); (case side2 => exact HC0_1.out); rintro e w9 ⟨rfl, hb⟩; refine ⟨_, rfl, ?_⟩; have n0_ := qa (qja (g := gb383) (o := .cells #[.int .i64 a0_0, .slice A0_1 l0_1.length c0_1, .int .i64 a0_2] 31 (0, 0)) (by (with_reducible repeat first | apply ql | apply qn | apply qk); exact BK383.out) hb); have n1_ := qa (qha (by repeat (first | (with_reducible first | exact HB.out | apply qh | apply qe | apply qg | refine qj ?_ GE383.out) | exact HB.out)) hb); clear BK383; clear HB; have BK383 := n0_; have HB := n1_; clear n0_ n1_; (try clear hb); (try clear hb2); (try clear hk); (try clear hi)))
     have n0_ := qa (qn BK383.out); have n1_ := qa (qg HB.out); clear BK383 HB; have BK383 := n0_; have HB := n1_; clear n0_ n1_
     have p388 : 0 ≤ (0 : Int) := (by omega)
     have q388 : 0 < (l0_1.length : Int) := qm (by assumption); obtain ⟨ad388, e388, hx388_0, hx388_1, hx388_2⟩ := at_T59 HR0_1.out 0 p388 q388; have hw388_2 := hx388_2; (try rw [show ((0 : Int)).toNat = 0 from rfl] at hw388_2); (try rw [show 0 * 3 = 0 from rfl] at hw388_2); (try rw [Addr.add_zero'] at hw388_2); have hw388_1 := hx388_1; (try rw [show ((0 : Int)).toNat = 0 from rfl] at hw388_1); (try rw [show 0 * 3 = 0 from rfl] at hw388_1); (try rw [Addr.add_zero'] at hw388_1); have hw388_0 := hx388_0; (try rw [show ((0 : Int)).toNat = 0 from rfl] at hw388_0); (try rw [show 0 * 3 = 0 from rfl] at hw388_0); (try rw [Addr.add_zero'] at hw388_0); cases e388; have qi388 : (0 < l0_1.length) = True := qga (by omega); (try rw [show ((0 : Int)).toNat = 0 from rfl] at hx388_0); (try rw [show 0 * 3 = 0 from rfl] at hx388_0); (try rw [Addr.add_zero'] at hx388_0); (try rw [show ((0 : Int)).toNat = 0 from rfl] at hx388_1); (try rw [show 0 * 3 = 0 from rfl] at hx388_1); (try rw [Addr.add_zero'] at hx388_1); (try rw [show ((0 : Int)).toNat = 0 from rfl] at hx388_2); (try rw [show 0 * 3 = 0 from rfl] at hx388_2); (try rw [Addr.add_zero'] at hx388_2); replace hx388_0 := (HB.out.cell (qf w _ hx388_0)).trans hx388_0; replace hx388_1 := (HB.out.cell (qf w _ hx388_1)).trans hx388_1; replace hx388_2 := (HB.out.cell (qf w _ hx388_2)).trans hx388_2; replace p388 := qga p388; replace q388 := qga q388; have p389 : 0 ≤ (a0_2 : Int) := qm (by assumption); have q389 : a0_2 < (l0_1.length : Int) := qm (by assumption); obtain ⟨ad389, e389, hx389_0, hx389_1, hx389_2⟩ := at_T59 HR0_1.out a0_2 p389 q389; have hw389_2 := hx389_2; have hw389_1 := hx389_1; have hw389_0 := hx389_0
     obtain rfl : ad388 = ad389 := (by injection e389)
     replace hx389_0 := (HB.out.cell (qf w _ hx389_0)).trans hx389_0; replace hx389_1 := (HB.out.cell (qf w _ hx389_1)).trans hx389_1; replace hx389_2 := (HB.out.cell (qf w _ hx389_2)).trans hx389_2; replace p389 := qga p389; replace q389 := qga q389; have p390 : 0 ≤ (a0_2 : Int) := qm (by assumption); have q390 : a0_2 < (l0_1.length : Int) := qm (by assumption); obtain ⟨ad390, e390, hx390_0, hx390_1, hx390_2⟩ := at_T59 HR0_1.out a0_2 p390 q390; have hw390_2 := hx390_2; have hw390_1 := hx390_1; have hw390_0 := hx390_0
     obtain rfl : ad388 = ad390 := (by injection e390)
     replace hx390_0 := (HB.out.cell (qf w _ hx390_0)).trans hx390_0; replace hx390_1 := (HB.out.cell (qf w _ hx390_1)).trans hx390_1; replace hx390_2 := (HB.out.cell (qf w _ hx390_2)).trans hx390_2; replace p390 := qga p390; replace q390 := qga q390; refine start_ (n := 27) (S := fun w' => w'.cell? ⟨gb383, 0, none⟩ = some (.int .i64 a0_0) ∧ w'.cell? ⟨gb383, 1, none⟩ = some (.slice (some ad388) l0_1.length c0_1) ∧ w'.cell? ⟨gb383, 2, none⟩ = some (.int .i64 a0_2) ∧ w'.cell? ad388 = some (.int .i64 ((rd_T59 l0_1 0).f0)) ∧ w'.cell? ⟨ad388.block, ad388.off + 1, none⟩ = some (.int .i64 ((rd_T59 l0_1 0).f1)) ∧ w'.cell? ⟨ad388.block, ad388.off + 2, none⟩ = some (.int .i64 ((rd_T59 l0_1 0).f2)) ∧ w'.cell? (ad388.add ((a0_2).toNat * 3)) = some (.int .i64 ((rd_T59 l0_1 a0_2).f0)) ∧ w'.cell? ⟨(ad388.add ((a0_2).toNat * 3)).block, (ad388.add ((a0_2).toNat * 3)).off + 1, none⟩ = some (.int .i64 ((rd_T59 l0_1 a0_2).f1)) ∧ w'.cell? ⟨(ad388.add ((a0_2).toNat * 3)).block, (ad388.add ((a0_2).toNat * 3)).off + 2, none⟩ = some (.int .i64 ((rd_T59 l0_1 a0_2).f2)) ∧ w'.cell? (ad388.add ((a0_2).toNat * 3)) = some (.int .i64 ((rd_T59 l0_1 a0_2).f0)) ∧ w'.cell? ⟨(ad388.add ((a0_2).toNat * 3)).block, (ad388.add ((a0_2).toNat * 3)).off + 1, none⟩ = some (.int .i64 ((rd_T59 l0_1 a0_2).f1)) ∧ w'.cell? ⟨(ad388.add ((a0_2).toNat * 3)).block, (ad388.add ((a0_2).toNat * 3)).off + 2, none⟩ = some (.int .i64 ((rd_T59 l0_1 a0_2).f2))) (ds := []) #[false, false, false, false, false, false, false, false, false, false, false, false, false, false, false, false, false, false, false, false, false, false, false, false, false, false, false] (by kernel_rfl) rfl rfl ⟨(qi BK383.out 0).trans rfl, (qi BK383.out 1).trans rfl, (qi BK383.out 2).trans rfl, ((HB.out.cell (qf w _ hw388_0)).trans hw388_0), ((HB.out.cell (qf w _ hw388_1)).trans hw388_1), ((HB.out.cell (qf w _ hw388_2)).trans hw388_2), ((HB.out.cell (qf w _ hw389_0)).trans hw389_0), ((HB.out.cell (qf w _ hw389_1)).trans hw389_1), ((HB.out.cell (qf w _ hw389_2)).trans hw389_2), ((HB.out.cell (qf w _ hw390_0)).trans hw390_0), ((HB.out.cell (qf w _ hw390_1)).trans hw390_1), ((HB.out.cell (qf w _ hw390_2)).trans hw390_2)⟩ (fun hHeld => ?_); refine with_tabW spec_FootMarks.tab3 spec_FootMarks.bits3 (fun HT_ HW_ => ?_); generalize w9.drew = w10 at BK383 HB hx388_0 hx388_1 hx388_2 hx389_0 hx389_1 hx389_2 hx390_0 hx390_1 hx390_2 hHeld ⊢; refine pure_ (i := 0) (N := some 10) (v := ?_) (a' := ?_) #[true, false, false, false, false, false, false, false, false, false, false, false, false, false, false, false, false, false, false, false, false, false, false, false, false, false, false] rfl rfl (qua HT_.out (by kernel_rfl)) (fun _ _ _ h => h) (Or.inl ⟨by rfl, ?_⟩) ?_ ?_; rotate_left
     ·intro w'
      go_simp; with_reducible rfl
     rotate_left
     ·simp only [Act.put, qb, qc, qd, i64_w, i32_w]
      rfl
     refine pure_ (i := 2) (N := some 12) (v := ?_) (a' := ?_) #[true, false, true, false, false, false, false, false, false, false, false, false, false, false, false, false, false, false, false, false, false, false, false, false, false, false, false] rfl rfl (qua HT_.out (by kernel_rfl)) (fun _ _ _ h => h) (Or.inl ⟨by rfl, ?_⟩) ?_ ?_; rotate_left
     ·intro w'
      go_simp; with_reducible rfl
     rotate_left
     ·simp only [Act.put, qb, qc, qd, i64_w, i32_w]
      rfl
     refine pure_ (i := 7) (N := some 17) (v := ?_) (a' := ?_) #[true, false, true, false, false, false, false, true, false, false, false, false, false, false, false, false, false, false, false, false, false, false, false, false, false, false, false] rfl rfl (qua HT_.out (by kernel_rfl)) (fun _ _ _ h => h) (Or.inl ⟨by rfl, ?_⟩) ?_ ?_; rotate_left
     ·intro w'
      go_simp; with_reducible rfl
     rotate_left
     ·simp only [Act.put, qb, qc, qd, i64_w, i32_w]
      rfl
     refine pure_ (i := 9) (N := some 19) (v := ?_) (a' := ?_) #[true, false, true, false, false, false, false, true, false, true, false, false, false, false, false, false, false, false, false, false, false, false, false, false, false, false, false] rfl rfl (qua HT_.out (by kernel_rfl)) (fun _ _ _ h => h) (Or.inl ⟨by rfl, ?_⟩) ?_ ?_; rotate_left
     ·intro w'
      go_simp; with_reducible rfl
     rotate_left
     ·simp only [Act.put, qb, qc, qd, i64_w, i32_w]
      rfl
     refine pure_ (i := 11) (N := some 21) (v := ?_) (a' := ?_) #[true, false, true, false, false, false, false, true, false, true, false, true, false, false, false, false, false, false, false, false, false, false, false, false, false, false, false] rfl rfl (qua HT_.out (by kernel_rfl)) (fun _ _ _ h => h) (Or.inl ⟨by rfl, ?_⟩) ?_ ?_; rotate_left
     ·intro w'
      go_simp; with_reducible rfl
     rotate_left
     ·simp only [Act.put, qb, qc, qd, i64_w, i32_w]
      rfl
     refine pure_ (i := 17) (N := some 27) (v := ?_) (a' := ?_) #[true, false, true, false, false, false, false, true, false, true, false, true, false, false, false, false, false, true, false, false, false, false, false, false, false, false, false] rfl rfl (qua HT_.out (by kernel_rfl)) (fun _ _ _ h => h) (Or.inl ⟨by rfl, ?_⟩) ?_ ?_; rotate_left
     ·intro w'
      go_simp; with_reducible rfl
     rotate_left
     ·simp only [Act.put, qb, qc, qd, i64_w, i32_w]
      rfl
     refine pure_ (i := 19) (N := some 29) (v := ?_) (a' := ?_) #[true, false, true, false, false, false, false, true, false, true, false, true, false, false, false, false, false, true, false, true, false, false, false, false, false, false, false] rfl rfl (qua HT_.out (by kernel_rfl)) (fun _ _ _ h => h) (Or.inl ⟨by rfl, ?_⟩) ?_ ?_; rotate_left
     ·intro w'
      go_simp; with_reducible rfl
     rotate_left
     ·simp only [Act.put, qb, qc, qd, i64_w, i32_w]
      rfl
     refine take_ (i := 1) (N := some 11) (v := ?_) (a' := ?_) #[true, true, true, false, false, false, false, true, false, true, false, true, false, false, false, false, false, true, false, true, false, false, false, false, false, false, false] rfl rfl (qva HT_.out HW_.out (by kernel_rfl)) (fun _ _ _ h => h) (Or.inl ⟨by rfl, ?_⟩) hHeld ?_ ?_; rotate_left
     ·rintro w' ⟨s0, s1, s2, s3, s4, s5, s6, s7, s8, s9, s10, s11⟩
      go_simp; with_reducible rfl
     rotate_left
     ·simp only [Act.put, qb, qc, qd, i64_w, i32_w]
      rfl
     refine take_ (i := 3) (N := some 13) (v := ?_) (a' := ?_) #[true, true, true, true, false, false, false, true, false, true, false, true, false, false, false, false, false, true, false, true, false, false, false, false, false, false, false] rfl rfl (qva HT_.out HW_.out (by kernel_rfl)) (fun _ _ _ h => h) (Or.inl ⟨by rfl, ?_⟩) hHeld ?_ ?_; rotate_left
     ·rintro w' ⟨s0, s1, s2, s3, s4, s5, s6, s7, s8, s9, s10, s11⟩
      go_simp; with_reducible rfl
     rotate_left
     ·simp only [Act.put, qb, qc, qd, i64_w, i32_w]
      rfl
     refine pure_ (i := 4) (N := some 14) (v := ?_) (a' := ?_) #[true, true, true, true, true, false, false, true, false, true, false, true, false, false, false, false, false, true, false, true, false, false, false, false, false, false, false] rfl rfl (qua HT_.out (by kernel_rfl)) (fun _ _ _ h => h) (Or.inl ⟨by rfl, ?_⟩) ?_ ?_; rotate_left
     ·intro w'
      go_simp; with_reducible rfl
     rotate_left
     ·simp only [Act.put, qb, qc, qd, i64_w, i32_w]
      rfl
     refine pure_ (i := 5) (N := some 15) (v := ?_) (a' := ?_) #[true, true, true, true, true, true, false, true, false, true, false, true, false, false, false, false, false, true, false, true, false, false, false, false, false, false, false] rfl rfl (qua HT_.out (by kernel_rfl)) (fun _ _ _ h => h) (Or.inl ⟨by rfl, ?_⟩) ?_ ?_; rotate_left
     ·intro w'
      go_simp; with_reducible rfl
     rotate_left
     ·simp only [Act.put, qb, qc, qd, i64_w, i32_w]
      rfl
     refine take_ (i := 6) (N := some 16) (v := ?_) (a' := ?_) #[true, true, true, true, true, true, true, true, false, true, false, true, false, false, false, false, false, true, false, true, false, false, false, false, false, false, false] rfl rfl (qva HT_.out HW_.out (by kernel_rfl)) (fun _ _ _ h => h) (Or.inl ⟨by rfl, ?_⟩) hHeld ?_ ?_; rotate_left
     ·rintro w' ⟨s0, s1, s2, s3, s4, s5, s6, s7, s8, s9, s10, s11⟩
      go_simp; with_reducible rfl
     rotate_left
     ·simp only [Act.put, qb, qc, qd, i64_w, i32_w]
      rfl
     refine take_ (i := 8) (N := some 18) (v := ?_) (a' := ?_) #[true, true, true, true, true, true, true, true, true, true, false, true, false, false, false, false, false, true, false, true, false, false, false, false, false, false, false] rfl rfl (qva HT_.out HW_.out (by kernel_rfl)) (fun _ _ _ h => h) (Or.inl ⟨by rfl, ?_⟩) hHeld ?_ ?_; rotate_left
     ·rintro w' ⟨s0, s1, s2, s3, s4, s5, s6, s7, s8, s9, s10, s11⟩
      go_simp; with_reducible rfl
     rotate_left
     ·simp only [Act.put, qb, qc, qd, i64_w, i32_w]
      rfl
     refine take_ (i := 10) (N := some 20) (v := ?_) (a' := ?_) #[true, true, true, true, true, true, true, true, true, true, true, true, false, false, false, false, false, true, false, true, false, false, false, false, false, false, false] rfl rfl (qva HT_.out HW_.out (by kernel_rfl)) (fun _ _ _ h => h) (Or.inl ⟨by rfl, ?_⟩) hHeld ?_ ?_; rotate_left
     ·rintro w' ⟨s0, s1, s2, s3, s4, s5, s6, s7, s8, s9, s10, s11⟩
      go_simp; with_reducible rfl
     rotate_left
     ·simp only [Act.put, qb, qc, qd, i64_w, i32_w]
      rfl
     refine take_ (i := 12) (N := some 22) (v := ?_) (a' := ?_) #[true, true, true, true, true, true, true, true, true, true, true, true, true, false, false, false, false, true, false, true, false, false, false, false, false, false, false] rfl rfl (qva HT_.out HW_.out (by kernel_rfl)) (fun _ _ _ h => h) (Or.inl ⟨by rfl, ?_⟩) hHeld ?_ ?_; rotate_left
     ·rintro w' ⟨s0, s1, s2, s3, s4, s5, s6, s7, s8, s9, s10, s11⟩
      go_simp; with_reducible rfl
     rotate_left
     ·simp only [Act.put, qb, qc, qd, i64_w, i32_w]
      rfl
     refine pure_ (i := 13) (N := some 23) (v := ?_) (a' := ?_) #[true, true, true, true, true, true, true, true, true, true, true, true, true, true, false, false, false, true, false, true, false, false, false, false, false, false, false] rfl rfl (qua HT_.out (by kernel_rfl)) (fun _ _ _ h => h) (Or.inl ⟨by rfl, ?_⟩) ?_ ?_; rotate_left
     ·intro w'
      go_simp; with_reducible rfl
     rotate_left
     ·simp only [Act.put, qb, qc, qd, i64_w, i32_w]
      rfl
     refine pure_ (i := 14) (N := some 24) (v := ?_) (a' := ?_) #[true, true, true, true, true, true, true, true, true, true, true, true, true, true, true, false, false, true, false, true, false, false, false, false, false, false, false] rfl rfl (qua HT_.out (by kernel_rfl)) (fun _ _ _ h => h) (Or.inl ⟨by rfl, ?_⟩) ?_ ?_; rotate_left
     ·intro w'
      go_simp; with_reducible rfl
     rotate_left
     ·simp only [Act.put, qb, qc, qd, i64_w, i32_w]
      rfl
     refine take_ (i := 15) (N := some 25) (v := ?_) (a' := ?_) #[true, true, true, true, true, true, true, true, true, true, true, true, true, true, true, true, false, true, false, true, false, false, false, false, false, false, false] rfl rfl (qva HT_.out HW_.out (by kernel_rfl)) (fun _ _ _ h => h) (Or.inl ⟨by rfl, ?_⟩) hHeld ?_ ?_; rotate_left
     ·rintro w' ⟨s0, s1, s2, s3, s4, s5, s6, s7, s8, s9, s10, s11⟩
      go_simp; with_reducible rfl
     rotate_left
     ·simp only [Act.put, qb, qc, qd, i64_w, i32_w]
      rfl
     refine pure_ (i := 16) (N := some 26) (v := ?_) (a' := ?_) #[true, true, true, true, true, true, true, true, true, true, true, true, true, true, true, true, true, true, false, true, false, false, false, false, false, false, false] rfl rfl (qua HT_.out (by kernel_rfl)) (fun _ _ _ h => h) (Or.inl ⟨by rfl, ?_⟩) ?_ ?_; rotate_left
     ·intro w'
      go_simp; with_reducible rfl
     rotate_left
     ·simp only [Act.put, qb, qc, qd, i64_w, i32_w]
      rfl
     refine take_ (i := 18) (N := some 28) (v := ?_) (a' := ?_) #[true, true, true, true, true, true, true, true, true, true, true, true, true, true, true, true, true, true, true, true, false, false, false, false, false, false, false] rfl rfl (qva HT_.out HW_.out (by kernel_rfl)) (fun _ _ _ h => h) (Or.inl ⟨by rfl, ?_⟩) hHeld ?_ ?_; rotate_left
     ·rintro w' ⟨s0, s1, s2, s3, s4, s5, s6, s7, s8, s9, s10, s11⟩
      go_simp; with_reducible rfl
     rotate_left
     ·simp only [Act.put, qb, qc, qd, i64_w, i32_w]
      rfl
     refine take_ (i := 20) (N := some 30) (v := ?_) (a' := ?_) #[true, true, true, true, true, true, true, true, true, true, true, true, true, true, true, true, true, true, true, true, true, false, false, false, false, false, false] rfl rfl (qva HT_.out HW_.out (by kernel_rfl)) (fun _ _ _ h => h) (Or.inl ⟨by rfl, ?_⟩) hHeld ?_ ?_; rotate_left
     ·rintro w' ⟨s0, s1, s2, s3, s4, s5, s6, s7, s8, s9, s10, s11⟩
      go_simp; with_reducible rfl
     rotate_left
     ·simp only [Act.put, qb, qc, qd, i64_w, i32_w]
      rfl
     refine pure_ (i := 21) (N := some 31) (v := ?_) (a' := ?_) #[true, true, true, true, true, true, true, true, true, true, true, true, true, true, true, true, true, true, true, true, true, true, false, false, false, false, false] rfl rfl (qua HT_.out (by kernel_rfl)) (fun _ _ _ h => h) (Or.inl ⟨by rfl, ?_⟩) ?_ ?_; rotate_left
     ·intro w'
      go_simp; with_reducible rfl
     rotate_left
     ·simp only [Act.put, qb, qc, qd, i64_w, i32_w]
      rfl
     refine pure_ (i := 22) (N := some 32) (v := ?_) (a' := ?_) #[true, true, true, true, true, true, true, true, true, true, true, true, true, true, true, true, true, true, true, true, true, true, true, false, false, false, false] rfl rfl (qua HT_.out (by kernel_rfl)) (fun _ _ _ h => h) (Or.inl ⟨by rfl, ?_⟩) ?_ ?_; rotate_left
     ·intro w'
      go_simp; with_reducible rfl
     rotate_left
     ·simp only [Act.put, qb, qc, qd, i64_w, i32_w]
      rfl
     refine take_ (i := 23) (N := some 33) (v := ?_) (a' := ?_) #[true, true, true, true, true, true, true, true, true, true, true, true, true, true, true, true, true, true, true, true, true, true, true, true, false, false, false] rfl rfl (qva HT_.out HW_.out (by kernel_rfl)) (fun _ _ _ h => h) (Or.inl ⟨by rfl, ?_⟩) hHeld ?_ ?_; rotate_left
     ·rintro w' ⟨s0, s1, s2, s3, s4, s5, s6, s7, s8, s9, s10, s11⟩
      go_simp; with_reducible rfl
     rotate_left
     ·simp only [Act.put, qb, qc, qd, i64_w, i32_w]
      rfl
     refine pure_ (i := 24) (N := some 34) (v := ?_) (a' := ?_) #[true, true, true, true, true, true, true, true, true, true, true, true, true, true, true, true, true, true, true, true, true, true, true, true, true, false, false] rfl rfl (qua HT_.out (by kernel_rfl)) (fun _ _ _ h => h) (Or.inl ⟨by rfl, ?_⟩) ?_ ?_; rotate_left
     ·intro w'
      go_simp; with_reducible rfl
     rotate_left
     ·simp only [Act.put, qb, qc, qd, i64_w, i32_w]
      rfl
     refine one_ (i := 25) (N := some 35) #[true, true, true, true, true, true, true, true, true, true, true, true, true, true, true, true, true, true, true, true, true, true, true, true, true, true, false] rfl rfl (qwa HT_.out (by kernel_rfl)) (by decide) (fun K hK => ?_); refine Kd.R_lit_step (Kd.int .i64) _ 3 ?hg (N := 35) ?hd (xs := ([a0_0, 0, 0, 0, (rd_T59 l0_1 0).f0, wrap64 ((wrap64 (a0_0 - ((rd_T59 l0_1 a0_2).f0))) - ((rd_T59 l0_1 a0_2).f1))] : List Int)) (inner := [.int .i64 a0_0, .int .i64 0, .int .i64 0, .int .i64 0, .int .i64 ((rd_T59 l0_1 0).f0), .int .i64 (wrap64 ((wrap64 (a0_0 - ((rd_T59 l0_1 a0_2).f0))) - ((rd_T59 l0_1 a0_2).f1)))]) (ok := fun _ => True) (okp := fun _ => True) ?hr ?hp (fun _ hk => hk) trivial (qsb _ _) (qqb _) (by simp) ?_; (case hd => rfl); (case hg => rfl); (case hr => first | (go_simp; done) | (go_simp; rfl)); (case hp => exact (Reps.one (show Kd.M (Kd.int .i64) _ _ _ a0_0 [.int .i64 a0_0] from rfl) (Reps.one (show Kd.M (Kd.int .i64) _ _ _ 0 [.int .i64 0] from rfl) (Reps.one (show Kd.M (Kd.int .i64) _ _ _ 0 [.int .i64 0] from rfl) (Reps.one (show Kd.M (Kd.int .i64) _ _ _ 0 [.int .i64 0] from rfl) (Reps.one (show Kd.M (Kd.int .i64) _ _ _ ((rd_T59 l0_1 0).f0) [.int .i64 ((rd_T59 l0_1 0).f0)] from rfl) (Reps.one (show Kd.M (Kd.int .i64) _ _ _ (wrap64 ((wrap64 (a0_0 - ((rd_T59 l0_1 a0_2).f0))) - ((rd_T59 l0_1 a0_2).f1))) [.int .i64 (wrap64 ((wrap64 (a0_0 - ((rd_T59 l0_1 a0_2).f0))) - ((rd_T59 l0_1 a0_2).f1)))] from rfl) (Reps.none _ _)))))))); intro v392 w11 ho12 hb hg_ hnew_; clear hg_ hnew_
     (first | rw [← Ny391.out] at ho12 | (simp only [Int.reduceToNat] at ho12; rw [← Ny391.out] at ho12))
     have n0_ := qa (qvb ho12 (qp (by repeat (first | (with_reducible first | exact HB.out | apply qh | apply qe | apply qg | refine qj ?_ GE383.out) | exact HB.out)))); have n1_ := qa (qja (g := gb383) (o := .cells #[.int .i64 a0_0, .slice (some ad388) l0_1.length c0_1, .int .i64 a0_2] 31 (0, 0)) (by (with_reducible repeat first | apply ql | apply qn | apply qk); exact BK383.out) hb); have n2_ := qa (qha (by repeat (first | (with_reducible first | exact HB.out | apply qh | apply qe | apply qg | refine qj ?_ GE383.out) | exact HB.out)) hb); clear BK383 HB; have HO393 := n0_; have BK383 := n1_; have HB := n2_; clear n0_ n1_ n2_ hb ho12; refine hK.out _ _ ⟨(qi BK383.out 0).trans rfl, (qi BK383.out 1).trans rfl, (qi BK383.out 2).trans rfl, ((HB.out.cell (qf w _ hw388_0)).trans hw388_0), ((HB.out.cell (qf w _ hw388_1)).trans hw388_1), ((HB.out.cell (qf w _ hw388_2)).trans hw388_2), ((HB.out.cell (qf w _ hw389_0)).trans hw389_0), ((HB.out.cell (qf w _ hw389_1)).trans hw389_1), ((HB.out.cell (qf w _ hw389_2)).trans hw389_2), ((HB.out.cell (qf w _ hw390_0)).trans hw390_0), ((HB.out.cell (qf w _ hw390_1)).trans hw390_1), ((HB.out.cell (qf w _ hw390_2)).trans hw390_2)⟩ (fun hHeld => ?_); clear hK K; refine norm_ (a' := ?_) ?_ ?_; rotate_left
     ·show Act.put _ (some 35) _ = _
      simp only [Act.put, qb, qc, qd, i64_w, i32_w]; rfl
     refine pure_ (i := 26) (N := some 3) (v := ?_) (a' := ?_) #[true, true, true, true, true, true, true, true, true, true, true, true, true, true, true, true, true, true, true, true, true, true, true, true, true, true, true] rfl rfl (qua HT_.out (by kernel_rfl)) (fun _ _ _ h => h) (Or.inl ⟨by rfl, ?_⟩) ?_ ?_; rotate_left
     ·intro w'
      go_simp; with_reducible rfl
     rotate_left
     ·simp only [Act.put, qb, qc, qd, i64_w, i32_w]
      rfl
     refine done_ (done_of HT_.out (by kernel_rfl)) ?_
     try go_wp2
     go_loopg [4] k (fun kq v4 w' => ∃ (x3_1 : List Int) (x4_1 : Int), v4 = .int .i64 x4_1 ∧ Aside0 (spec_FootMarks.l0 kq x3_1 x4_1 a0_0 l0_1 a0_2 = some r) ∧ Aside0 (kq ≤ k) ∧ Aside0 (Kd.R (Kd.int .i64) 3 w' w.heap.size (fun _ => True) v392 x3_1) ∧ Aside0 (w'.heap[gb383]? = some (.cells #[.int .i64 a0_0, (.slice (some ad388) l0_1.length c0_1), .int .i64 a0_2] 31 (0, 0))) ∧ Aside0 (Below w.heap.size w w'))
     case atStart => exact ⟨(y391), (0), (by first | rfl | (simp; done) | (simp [*]; done)), H', ⟨qqb _⟩, ⟨by (with_reducible repeat first | apply qx | apply qy | apply qz); exact HO393.out⟩, ⟨by (with_reducible repeat first | apply ql | apply qn | apply qk); exact BK383.out⟩, ⟨by repeat (first | (with_reducible first | exact HB.out | apply qh | apply qe | apply qg | refine qj ?_ GE383.out) | exact HB.out)⟩⟩
     case round =>
      clear H'; (try clear c1); (try clear c2); (try clear p2); (try clear c3); (try clear p3); (try clear q3); (try clear hx3); (try clear qi3); (try clear c4); (try clear c4b0); (try clear c4b1); (try clear c5); (try clear c5b0); (try clear c6); (try clear c6b0); (try clear p6); (try clear hcz8_0); (try clear hcz8_1); (try clear hcz8_2); (try clear hfz8_0); (try clear hfz8_1); (try clear hfz8_2); (try clear hx388_0); (try clear hx388_1); (try clear hx388_2); (try clear hx389_0); (try clear hx389_1); (try clear hx389_2); (try clear hx390_0); (try clear hx390_1); (try clear hx390_2); (try clear p388); (try clear p389); (try clear p390); (try clear q388); (try clear q389); (try clear q390); obtain ⟨x3_1, x4_1, rfl, HA, HK1, HO_3, BK383, HB⟩ := hrel
      cases gk with
      | zero => exact absurd HA.out (by simp [spec_FootMarks.l0])
      | succ k1 =>
       have H := HA.out; clear HA; simp only [spec_FootMarks.l0] at H
       by_cases c13 : x4_1 < (l0_1.length : Int)
       ·rw [if_pos c13] at H
        have c13b0 : decide (x4_1 < (l0_1.length : Int)) = true := qq c13; clear c13
        by_cases c14 : 0 ≤ x4_1
        ·rw [if_pos c14] at H
         have c14b0 : decide (0 ≤ x4_1) = true := qq c14; clear c14
         by_cases c15 : 0 < (x3_1.length : Int)
         ·rw [if_pos c15] at H
          have c15b0 : decide (0 < (x3_1.length : Int)) = true := qq c15; have c15b1 : decide (0 < x3_1.length) = true := qq (by omega); clear c15
          obtain ⟨y397, hy397⟩ : ∃ y_ : List Int, y_ = (x3_1.set (0 : Int).toNat (wrap64 ((rd x3_1 0) - ((rd_T59 l0_1 x4_1).f1)))) := ⟨_, rfl⟩
          replace H : (if ((rd_T59 l0_1 x4_1).f1) = 1 then (if 1 < (x3_1.length : Int) then (spec_FootMarks.l0 k1 (y397.set (1 : Int).toNat (wrap64 ((rd y397 1) + 1))) (wrap64 (x4_1 + 1)) a0_0 l0_1 a0_2) else (none)) else (if ((rd_T59 l0_1 x4_1).f2) = 1 then (if 2 < (x3_1.length : Int) then (spec_FootMarks.l0 k1 (y397.set (2 : Int).toNat (wrap64 ((rd y397 2) + 1))) (wrap64 (x4_1 + 1)) a0_0 l0_1 a0_2) else (none)) else (if 3 < (x3_1.length : Int) then (spec_FootMarks.l0 k1 (y397.set (3 : Int).toNat (wrap64 ((rd y397 3) + 1))) (wrap64 (x4_1 + 1)) a0_0 l0_1 a0_2) else (none)))) = some r := by first | (rw [hy397]; with_reducible exact H) | (have H2_ := (Option.bind_some _ _).symm.trans H; rw [hy397]; with_reducible exact H2_) | (have H2_ := (Option.bind_some _ _).symm.trans H; with_reducible exact H2_) | with_reducible exact H | (rw [hy397]; exact H) | exact H
          have Ny397 := qa hy397; clear hy397
          by_cases c17 : ((rd_T59 l0_1 x4_1).f1) = 1
          ·rw [if_pos c17] at H
           have c17b0 : (((rd_T59 l0_1 x4_1).f1) == 1) = true := ze c17; have c17b1 : (((rd_T59 l0_1 x4_1).f1) != 1) = false := zc c17; clear c17
           by_cases c18 : 1 < (x3_1.length : Int)
           ·rw [if_pos c18] at H
            have c18b0 : decide (1 < (x3_1.length : Int)) = true := qq c18; have c18b1 : decide (1 < x3_1.length) = true := qq (by omega); clear c18
            obtain ⟨y399, hy399⟩ : ∃ y_ : List Int, y_ = (y397.set (1 : Int).toNat (wrap64 ((rd y397 1) + 1))) := ⟨_, rfl⟩
            replace H : (spec_FootMarks.l0 k1 y399 (wrap64 (x4_1 + 1)) a0_0 l0_1 a0_2) = some r := by first | (rw [hy399]; with_reducible exact H) | (have H2_ := (Option.bind_some _ _).symm.trans H; rw [hy399]; with_reducible exact H2_) | (have H2_ := (Option.bind_some _ _).symm.trans H; with_reducible exact H2_) | with_reducible exact H | (rw [hy399]; exact H) | exact H
            have Ny399 := qa hy399; clear hy399; have H' := qa H; clear H; have hcz20_0 : wr.cell? ⟨gb383, 0, none⟩ = some (.int .i64 a0_0) := (qi BK383.out 0).trans rfl; have hcz20_1 : wr.cell? ⟨gb383, 1, none⟩ = some (.slice (some ad388) l0_1.length c0_1) := (qi BK383.out 1).trans rfl; have hcz20_2 : wr.cell? ⟨gb383, 2, none⟩ = some (.int .i64 a0_2) := (qi BK383.out 2).trans rfl; have hfz20_0 := qo BK383.out 0; have hfz20_1 := qo BK383.out 1; have hfz20_2 := qo BK383.out 2; have p394 : 0 ≤ (x4_1 : Int) := qm (by assumption); have q394 : x4_1 < (l0_1.length : Int) := qm (by assumption); obtain ⟨ad394, e394, hx394_0, hx394_1, hx394_2⟩ := at_T59 HR0_1.out x4_1 p394 q394
            obtain rfl : ad388 = ad394 := (by injection e394)
            replace hx394_0 := (HB.out.cell (qf w _ hx394_0)).trans hx394_0; replace hx394_1 := (HB.out.cell (qf w _ hx394_1)).trans hx394_1; replace hx394_2 := (HB.out.cell (qf w _ hx394_2)).trans hx394_2; replace p394 := qga p394; replace q394 := qga q394
            try go_wp2_with (first | ((with_reducible refine gate_dst (N := 5) rfl ?_); refine box_event ?hg (N := 5) ?hd (cs := #[.int .i64 0, .int .i64 0, .int .i64 0]) (t := 59) ?hr ?_; (case hd => rfl); (case hg => rfl); (case hr => first | (go_simp; done) | (go_simp; rfl)); intro gb395 hg w21 hbox hb; have n0_ := qa (qya (by (with_reducible repeat first | apply qx | apply qy | apply qz); exact HO_3.out) hb); have n1_ := qa (qja (g := gb383) (o := .cells #[.int .i64 a0_0, .slice (some ad388) l0_1.length c0_1, .int .i64 a0_2] 31 (0, 0)) (by (with_reducible repeat first | apply ql | apply qn | apply qk); exact BK383.out) hb); have n2_ := qa (qha (by repeat (first | (with_reducible first | exact HB.out | apply qh | apply qe | apply qg | refine qj ?_ GE383.out) | exact HB.out)) hb); have n3_ := qa (hbox); have n4_ := qa ((by rw [hg]; exact (qp (by repeat (first | (with_reducible first | exact HB.out | apply qh | apply qe | apply qg | refine qj ?_ GE383.out) | exact HB.out))) : w.heap.size ≤ gb395)); have n5_ := qa ((by rw [hg]; exact (qp (by repeat (first | (with_reducible first | exact HB.out | apply qh | apply qe | apply qg | refine qj ?_ GE383.out) | exact HB.out))) : w.heap.size ≤ gb395)); have n6_ := qa ((by rw [hg]; exact Nat.ne_of_lt (blk_lt (g := gb383) (o := .cells #[.int .i64 a0_0, .slice (some ad388) l0_1.length c0_1, .int .i64 a0_2] 31 (0, 0)) (by (with_reducible repeat first | apply ql | apply qn | apply qk); exact BK383.out)) : gb383 ≠ gb395)); have n7_ := qa ((by rw [hg]; exact Nat.ne_of_gt (blk_lt (g := gb383) (o := .cells #[.int .i64 a0_0, .slice (some ad388) l0_1.length c0_1, .int .i64 a0_2] 31 (0, 0)) (by (with_reducible repeat first | apply ql | apply qn | apply qk); exact BK383.out)) : gb395 ≠ gb383)); clear HO_3; clear BK383; clear HB; have HO_3 := n0_; have BK383 := n1_; have HB := n2_; have BK395 := n3_; have GW395 := n4_; have GE395 := n5_; have NB383_395 := n6_; have NB395_383 := n7_; clear n0_ n1_ n2_ n3_ n4_ n5_ n6_ n7_; clear hb hbox hg; have hnb22 := NB395_383.out; have hnc22 := NB383_395.out; have hcz23_0 : w21.cell? ⟨gb395, 0, none⟩ = some (.int .i64 0) := (qi BK395.out 0).trans rfl; have hcz23_1 : w21.cell? ⟨gb395, 1, none⟩ = some (.int .i64 0) := (qi BK395.out 1).trans rfl; have hcz23_2 : w21.cell? ⟨gb395, 2, none⟩ = some (.int .i64 0) := (qi BK395.out 2).trans rfl; have hfz23_0 := qo BK395.out 0; have hfz23_1 := qo BK395.out 1; have hfz23_2 := qo BK395.out 2))
            have n0_ : Aside0 (Kd.R (Kd.int .i64) 3 (((w21.setCell ⟨gb395, 0, none⟩ (.int .i64 ((rd_T59 l0_1 x4_1).f0))).setCell ⟨gb395, 1, none⟩ (.int .i64 ((rd_T59 l0_1 x4_1).f1))).setCell ⟨gb395, 2, none⟩ (.int .i64 ((rd_T59 l0_1 x4_1).f2))) w.heap.size (fun _ => True) v392 x3_1) := ⟨by (with_reducible repeat first | apply qx | apply qy | apply qz); exact qoa (qob (p := ⟨gb395, 2, none⟩) (qob (p := ⟨gb395, 1, none⟩) (qob (p := ⟨gb395, 0, none⟩) (Kd.R_types HO_3.out BK395.out (by decide)) (fun _ hk => hk.2) (.int .i64 ((rd_T59 l0_1 x4_1).f0))) (fun _ hk => hk.2) (.int .i64 ((rd_T59 l0_1 x4_1).f1))) (fun _ hk => hk.2) (.int .i64 ((rd_T59 l0_1 x4_1).f2))) (fun _ hk => trivial)⟩
            have n1_ : Aside0 ((((w21.setCell ⟨gb395, 0, none⟩ (.int .i64 ((rd_T59 l0_1 x4_1).f0))).setCell ⟨gb395, 1, none⟩ (.int .i64 ((rd_T59 l0_1 x4_1).f1))).setCell ⟨gb395, 2, none⟩ (.int .i64 ((rd_T59 l0_1 x4_1).f2))).heap[gb383]? = some (.cells #[.int .i64 a0_0, .slice (some ad388) l0_1.length c0_1, .int .i64 a0_2] 31 (0, 0))) := ⟨by (with_reducible repeat first | apply ql | apply qn | apply qk); refine qlb ?_ NB383_395.out _; (with_reducible repeat first | apply ql | apply qn | apply qk); refine qlb ?_ NB383_395.out _; (with_reducible repeat first | apply ql | apply qn | apply qk); refine qlb ?_ NB383_395.out _; (with_reducible repeat first | apply ql | apply qn | apply qk); exact BK383.out⟩
            have n2_ : Aside0 ((((w21.setCell ⟨gb395, 0, none⟩ (.int .i64 ((rd_T59 l0_1 x4_1).f0))).setCell ⟨gb395, 1, none⟩ (.int .i64 ((rd_T59 l0_1 x4_1).f1))).setCell ⟨gb395, 2, none⟩ (.int .i64 ((rd_T59 l0_1 x4_1).f2))).heap[gb395]? = some (.cells #[.int .i64 ((rd_T59 l0_1 x4_1).f0), .int .i64 ((rd_T59 l0_1 x4_1).f1), .int .i64 ((rd_T59 l0_1 x4_1).f2)] 59 (0, 0))) := ⟨by (with_reducible repeat first | apply ql | apply qn | apply qk); refine qmb (cs := #[.int .i64 ((rd_T59 l0_1 x4_1).f0), .int .i64 ((rd_T59 l0_1 x4_1).f1), .int .i64 0]) ?_ 2 _ rfl; (with_reducible repeat first | apply ql | apply qn | apply qk); refine qmb (cs := #[.int .i64 ((rd_T59 l0_1 x4_1).f0), .int .i64 0, .int .i64 0]) ?_ 1 _ rfl; (with_reducible repeat first | apply ql | apply qn | apply qk); refine qmb (cs := #[.int .i64 0, .int .i64 0, .int .i64 0]) ?_ 0 _ rfl; (with_reducible repeat first | apply ql | apply qn | apply qk); exact BK395.out⟩
            have n3_ : Aside0 (Below w.heap.size w (((w21.setCell ⟨gb395, 0, none⟩ (.int .i64 ((rd_T59 l0_1 x4_1).f0))).setCell ⟨gb395, 1, none⟩ (.int .i64 ((rd_T59 l0_1 x4_1).f1))).setCell ⟨gb395, 2, none⟩ (.int .i64 ((rd_T59 l0_1 x4_1).f2)))) := ⟨by repeat (first | (with_reducible first | exact HB.out | apply qh | apply qe | apply qg | refine qj ?_ GE383.out | refine qj ?_ GE395.out) | exact HB.out)⟩
            (try clear HO_3); (try clear BK383); (try clear BK395); (try clear HB); generalize (((w21.setCell ⟨gb395, 0, none⟩ (.int .i64 ((rd_T59 l0_1 x4_1).f0))).setCell ⟨gb395, 1, none⟩ (.int .i64 ((rd_T59 l0_1 x4_1).f1))).setCell ⟨gb395, 2, none⟩ (.int .i64 ((rd_T59 l0_1 x4_1).f2))) = w24 at n0_ n1_ n2_ n3_ ⊢; have HO_3 := n0_; have BK383 := n1_; have BK395 := n2_; have HB := n3_; clear n0_ n1_ n2_ n3_; have n0_ := qa (qz HO_3.out); have n1_ := qa (qn BK383.out); have n2_ := qa (qn BK395.out); have n3_ := qa (qg HB.out); clear HO_3 BK383 BK395 HB; have HO_3 := n0_; have BK383 := n1_; have BK395 := n2_; have HB := n3_; clear n0_ n1_ n2_ n3_; obtain ⟨Ao26, co26, eo26⟩ := Kd.R_slice HO_3.out
            (first | subst eo26 | (injection eo26 with f1_ f2_ f3_; have f4_ := f1_.symm; have f5_ := f3_.symm; clear f1_ f2_ f3_; subst f4_; subst f5_))
            have p396 : 0 ≤ (0 : Int) := (by omega)
            have q396 : 0 < (x3_1.length : Int) := qm (by assumption); obtain ⟨ad396, e396, hx396_0⟩ := Kd.at_int (qgb HO_3.out).2.2 0 p396 q396; cases e396; have qi396 : (0 < x3_1.length) = True := qga (by omega); (try rw [show ((0 : Int)).toNat = 0 from rfl] at hx396_0); (try rw [Addr.add_zero'] at hx396_0); replace p396 := qga p396; replace q396 := qga q396
            have p16 : 0 ≤ (0 : Int) := (by omega)
            have q16 : (0 : Int) < ((x3_1.length : Int) : Int) := qm (by assumption); have qi16 : (0 < x3_1.length) = True := qga (by omega); obtain ⟨go16, co16, eo16, gb16, gl16, cl16, HG16⟩ := Kd.R_form HO_3.out (by omega)
            (first | cases eo16 | (injection eo16 with ea_ en_ ec_; (first | subst ea_ | (injection ea_ with ea_; subst ea_)); subst ec_; clear en_))
            have GB16 := qa gb16; have GG16 := qa HG16; clear gb16 gl16 HG16
            (first | simp only [add_plain] at hx396_0 | skip)
            obtain ⟨hx16_0, hf16_0⟩ := Kd.R_celln 0 HO_3.out (0 : Int) p16 q16; (try rw [show ((0 : Int)).toNat = 0 from rfl] at hx16_0); (try simp only [Nat.reduceMul, Nat.zero_mul, Nat.zero_add, Nat.reduceAdd] at hx16_0); (try rw [show ((0 : Int)).toNat = 0 from rfl] at hf16_0); (try simp only [Nat.reduceMul, Nat.zero_mul, Nat.zero_add, Nat.reduceAdd] at hf16_0); replace p16 := qga p16; replace q16 := qga q16; have HP27 := Kd.R_putn HO_3.out (0 : Int) (wrap64 ((rd x3_1 0) - ((rd_T59 l0_1 x4_1).f1))); rw [← Ny397.out] at HP27; have HQ27 := qa HP27; clear HP27; refine start_ (n := 9) (S := fun w' => w'.cell? ⟨gb395, 0, none⟩ = some (.int .i64 ((rd_T59 l0_1 x4_1).f0)) ∧ w'.cell? ⟨gb395, 1, none⟩ = some (.int .i64 ((rd_T59 l0_1 x4_1).f1)) ∧ w'.cell? ⟨gb395, 2, none⟩ = some (.int .i64 ((rd_T59 l0_1 x4_1).f2)) ∧ w'.cell? ⟨go16, 0, none⟩ = some (.int .i64 (rd x3_1 0))) (ds := [8]) #[false, false, false, false, false, false, false, false, false] (by kernel_rfl) rfl rfl ⟨(qi BK395.out 0).trans rfl, (qi BK395.out 1).trans rfl, (qi BK395.out 2).trans rfl, hx396_0⟩ (fun hHeld => ?_); refine with_tabW spec_FootMarks.tab8 spec_FootMarks.bits8 (fun HT_ HW_ => ?_); generalize w24.drew = w25 at HO_3 BK383 BK395 HB GG16 HQ27 hf16_0 hx16_0 hx396_0 hHeld ⊢; refine pure_ (i := 0) (N := some 48) (v := ?_) (a' := ?_) #[true, false, false, false, false, false, false, false, false] rfl rfl (qua HT_.out (by kernel_rfl)) (fun _ _ _ h => h) (Or.inl ⟨by rfl, ?_⟩) ?_ ?_; rotate_left
            ·intro w'
             go_simp; with_reducible rfl
            rotate_left
            ·simp only [Act.put, qb, qc, qd, i64_w, i32_w]
             rfl
            refine pure_ (i := 1) (N := some 49) (v := ?_) (a' := ?_) #[true, true, false, false, false, false, false, false, false] rfl rfl (qua HT_.out (by kernel_rfl)) (fun _ _ _ h => h) (Or.inl ⟨by rfl, ?_⟩) ?_ ?_; rotate_left
            ·intro w'
             go_simp; with_reducible rfl
            rotate_left
            ·simp only [Act.put, qb, qc, qd, i64_w, i32_w]
             rfl
            refine pure_ (i := 2) (N := some 50) (v := ?_) (a' := ?_) #[true, true, true, false, false, false, false, false, false] rfl rfl (qua HT_.out (by kernel_rfl)) (fun _ _ _ h => h) (Or.inl ⟨by rfl, ?_⟩) ?_ ?_; rotate_left
            ·intro w'
             go_simp; with_reducible rfl
            rotate_left
            ·simp only [Act.put, qb, qc, qd, i64_w, i32_w]
             rfl
            refine pure_ (i := 4) (N := some 52) (v := ?_) (a' := ?_) #[true, true, true, false, true, false, false, false, false] rfl rfl (qua HT_.out (by kernel_rfl)) (fun _ _ _ h => h) (Or.inl ⟨by rfl, ?_⟩) ?_ ?_; rotate_left
            ·intro w'
             go_simp; with_reducible rfl
            rotate_left
            ·simp only [Act.put, qb, qc, qd, i64_w, i32_w]
             rfl
            refine take_ (i := 3) (N := some 51) (v := ?_) (a' := ?_) #[true, true, true, true, true, false, false, false, false] rfl rfl (qva HT_.out HW_.out (by kernel_rfl)) (fun _ _ _ h => h) (Or.inl ⟨by rfl, ?_⟩) hHeld ?_ ?_; rotate_left
            ·rintro w' ⟨s0, s1, s2, s3⟩
             go_simp; with_reducible rfl
            rotate_left
            ·simp only [Act.put, qb, qc, qd, i64_w, i32_w]
             rfl
            refine take_ (i := 5) (N := some 53) (v := ?_) (a' := ?_) #[true, true, true, true, true, true, false, false, false] rfl rfl (qva HT_.out HW_.out (by kernel_rfl)) (fun _ _ _ h => h) (Or.inl ⟨by rfl, ?_⟩) hHeld ?_ ?_; rotate_left
            ·rintro w' ⟨s0, s1, s2, s3⟩
             go_simp; with_reducible rfl
            rotate_left
            ·simp only [Act.put, qb, qc, qd, i64_w, i32_w]
             rfl
            refine pure_ (i := 6) (N := some 54) (v := ?_) (a' := ?_) #[true, true, true, true, true, true, true, false, false] rfl rfl (qua HT_.out (by kernel_rfl)) (fun _ _ _ h => h) (Or.inl ⟨by rfl, ?_⟩) ?_ ?_; rotate_left
            ·intro w'
             go_simp; with_reducible rfl
            rotate_left
            ·simp only [Act.put, qb, qc, qd, i64_w, i32_w]
             rfl
            refine pure_ (i := 7) (N := some 55) (v := ?_) (a' := ?_) #[true, true, true, true, true, true, true, true, false] rfl rfl (qua HT_.out (by kernel_rfl)) (fun _ _ _ h => h) (Or.inl ⟨by rfl, ?_⟩) ?_ ?_; rotate_left
            ·intro w'
             go_simp; with_reducible rfl
            rotate_left
            ·simp only [Act.put, qb, qc, qd, i64_w, i32_w]
             rfl
            refine last_ (i := 8) (N := none) #[true, true, true, true, true, true, true, true, true] rfl rfl (qwa HT_.out (by kernel_rfl)) (by decide) (fun K hK => ?_); refine skip_ (w1 := ?_) (by rfl) rfl ?_ ?_; rotate_left
            ·go_simp
             rfl
            refine hK.out _ _ ?_; clear hK K; refine done_ (done_of HT_.out (by kernel_rfl)) ?_
            have n0_ : Aside0 (Kd.R (Kd.int .i64) 3 (w25.setCell ⟨go16, 0, none⟩ (.int .i64 (wrap64 ((rd x3_1 0) - ((rd_T59 l0_1 x4_1).f1))))) w.heap.size (fun _ => True) (.slice (some ⟨go16, 0, none⟩) x3_1.length co26) y397) := ⟨by (with_reducible repeat first | apply qx | apply qy | apply qz); exact HQ27.out⟩
            have n1_ : Aside0 ((w25.setCell ⟨go16, 0, none⟩ (.int .i64 (wrap64 ((rd x3_1 0) - ((rd_T59 l0_1 x4_1).f1))))).heap[gb383]? = some (.cells #[.int .i64 a0_0, .slice (some ad388) l0_1.length c0_1, .int .i64 a0_2] 31 (0, 0))) := ⟨by (with_reducible repeat first | apply ql | apply qn | apply qk); refine qlb ?_ (by have h_ := Kd.R_ne HO_3.out BK383.out (by decide); intro e_; exact h_ (by rw [e_]; rfl)) _; (with_reducible repeat first | apply ql | apply qn | apply qk); exact BK383.out⟩
            have n2_ : Aside0 ((w25.setCell ⟨go16, 0, none⟩ (.int .i64 (wrap64 ((rd x3_1 0) - ((rd_T59 l0_1 x4_1).f1))))).heap[gb395]? = some (.cells #[.int .i64 ((rd_T59 l0_1 x4_1).f0), .int .i64 ((rd_T59 l0_1 x4_1).f1), .int .i64 ((rd_T59 l0_1 x4_1).f2)] 59 (0, 0))) := ⟨by (with_reducible repeat first | apply ql | apply qn | apply qk); refine qlb ?_ (by have h_ := Kd.R_ne HO_3.out BK395.out (by decide); intro e_; exact h_ (by rw [e_]; rfl)) _; (with_reducible repeat first | apply ql | apply qn | apply qk); exact BK395.out⟩
            have n3_ : Aside0 (Below w.heap.size w (w25.setCell ⟨go16, 0, none⟩ (.int .i64 (wrap64 ((rd x3_1 0) - ((rd_T59 l0_1 x4_1).f1)))))) := ⟨by repeat (first | (with_reducible first | exact HB.out | apply qh | apply qe | apply qg | refine qj ?_ GB16.out | refine qj ?_ GE383.out | refine qj ?_ GE395.out) | exact HB.out)⟩
            (try clear HO_3); (try clear BK383); (try clear BK395); (try clear HB); generalize (w25.setCell ⟨go16, 0, none⟩ (.int .i64 (wrap64 ((rd x3_1 0) - ((rd_T59 l0_1 x4_1).f1))))) = w28 at n0_ n1_ n2_ n3_ ⊢; have HO_3 := n0_; have BK383 := n1_; have BK395 := n2_; have HB := n3_; clear n0_ n1_ n2_ n3_; have hcz29_0 : w28.cell? ⟨gb395, 0, none⟩ = some (.int .i64 ((rd_T59 l0_1 x4_1).f0)) := (qi BK395.out 0).trans rfl; have hcz29_1 : w28.cell? ⟨gb395, 1, none⟩ = some (.int .i64 ((rd_T59 l0_1 x4_1).f1)) := (qi BK395.out 1).trans rfl; have hcz29_2 : w28.cell? ⟨gb395, 2, none⟩ = some (.int .i64 ((rd_T59 l0_1 x4_1).f2)) := (qi BK395.out 2).trans rfl; have hfz29_0 := qo BK395.out 0; have hfz29_1 := qo BK395.out 1; have hfz29_2 := qo BK395.out 2
            have p398 : 0 ≤ (1 : Int) := (by omega)
            have q398 : 1 < (y397.length : Int) := (by have h_ : (1 : Int) < ((x3_1.length : Int) : Int) := qm (by assumption); first | (have e_ := (qgb HO_3.out).1; omega) | simpa only [Ny397.out, List.length_set] using h_)
            have ql398 : ((1 : Int) < ((x3_1.length : Int) : Int)) = True := qga (qm (by assumption)); (try have qn398 : (1 < x3_1.length) = True := qga (by have h_ : (1 : Int) < ((x3_1.length : Int) : Int) := qm (by assumption); omega)); obtain ⟨ad398, e398, hx398_0⟩ := Kd.at_int (qgb HO_3.out).2.2 1 p398 q398
            obtain rfl : (⟨go16, 0, none⟩ : Addr) = ad398 := (by injection e398)
            (first | simp only [add_plain] at hx398_0 | simp only [add_at] at hx398_0 | simp only [Addr.add, Nat.zero_add] at hx398_0 | skip)
            have qi398 : (1 < y397.length) = True := qga (by omega); (try rw [show ((1 : Int)).toNat = 1 from rfl] at hx398_0); replace p398 := qga p398; replace q398 := qga q398
            have p19 : 0 ≤ (1 : Int) := (by omega)
            have q19 : (1 : Int) < ((x3_1.length : Int) : Int) := qm (by assumption); have qi19 : (1 < x3_1.length) = True := qga (by omega); obtain ⟨hx19_0, hf19_0⟩ := Kd.R_celln 0 HO_3.out (1 : Int) p19 q19; (try rw [show ((1 : Int)).toNat = 1 from rfl] at hx19_0); (try simp only [Nat.reduceMul, Nat.zero_mul, Nat.zero_add, Nat.reduceAdd] at hx19_0); (try rw [show ((1 : Int)).toNat = 1 from rfl] at hf19_0); (try simp only [Nat.reduceMul, Nat.zero_mul, Nat.zero_add, Nat.reduceAdd] at hf19_0); replace p19 := qga p19; replace q19 := qga q19; obtain ⟨hy30_, hz30_⟩ := Kd.R_celln 0 HO_3.out (1 : Int) (by omega) (qm (by assumption)); (try simp only [Int.reduceToNat, Int.toNat_zero, Int.toNat_ofNat, Nat.reduceMul, Nat.zero_mul, Nat.zero_add] at hy30_ hz30_); (try rw [show ((1 : Int)).toNat = 1 from rfl] at hy30_); (try rw [show ((1 : Int)).toNat = 1 from rfl] at hz30_); have HP30 := Kd.R_putg HO_3.out (1 : Int) (wrap64 ((rd y397 1) + 1))
            try go_wp2_with (first | ((with_reducible refine gate_store (t := 3) (p := 71) rfl ?_); refine store_event (t := 3) (p := 71) (v := ?vo_w31) (w1 := (w28.setCell ⟨go16, (1 : Int).toNat, none⟩ (.int .i64 (wrap64 ((rd y397 1) + 1))))) ?hg ?ho ?hn ?hr ?_; (case ho => rfl); (case hg => rfl); (case hn => rfl); (case hr => first | (go_simp; done) | (go_simp; rfl)); intro w31 hw; have hg : w28.grownBy w31 (some go16) := (by rw [hw]; exact HP30.2); have hp_ : Kd.R (Kd.int .i64) 3 w31 w.heap.size (fun _ => True) (.slice (some ⟨go16, 0, none⟩) x3_1.length co26) y399 := (by rw [hw, Ny399.out]; exact HP30.1); clear HP30; have n0_ := qa (hp_); have n1_ := qa (blk_grown (g := gb383) (o := .cells #[.int .i64 a0_0, .slice (some ad388) l0_1.length c0_1, .int .i64 a0_2] 31 (0, 0)) (by (with_reducible repeat first | apply ql | apply qn | apply qk); exact BK383.out) hg (Kd.R_ne HO_3.out BK383.out (by decide))); have n2_ := qa (blk_grown (g := gb395) (o := .cells #[.int .i64 ((rd_T59 l0_1 x4_1).f0), .int .i64 ((rd_T59 l0_1 x4_1).f1), .int .i64 ((rd_T59 l0_1 x4_1).f2)] 59 (0, 0)) (by (with_reducible repeat first | apply ql | apply qn | apply qk); exact BK395.out) hg (Kd.R_ne HO_3.out BK395.out (by decide))); have n3_ := qa ((by rw [hw]; exact qj (HB.out) GB16.out : Below w.heap.size w w31)); clear HO_3; clear BK383; clear BK395; clear HB; have HO_3 := n0_; have BK383 := n1_; have BK395 := n2_; have HB := n3_; clear n0_ n1_ n2_ n3_; clear hg hw hp_))
            go_roundg k1
            case measure => have := HK1.out; omega
            case rel => exact ⟨(y399), (wrap64 (x4_1 + 1)), (by first | rfl | (simp; done) | (simp [*]; done)), H', ⟨by have := HK1.out; omega⟩, ⟨by (with_reducible repeat first | apply qx | apply qy | apply qz); exact HO_3.out⟩, ⟨by (with_reducible repeat first | apply ql | apply qn | apply qk); exact BK383.out⟩, ⟨by repeat (first | (with_reducible first | exact HB.out | apply qh | apply qe | apply qg | refine qj ?_ GE383.out | refine qj ?_ GE395.out) | exact HB.out)⟩⟩
           ·rw [if_neg c18] at H
            exact absurd H (by simp)
          ·rw [if_neg c17] at H
           have c17b0 : (((rd_T59 l0_1 x4_1).f1) == 1) = false := zd c17; have c17b1 : (((rd_T59 l0_1 x4_1).f1) != 1) = true := zf c17
           by_cases c32 : ((rd_T59 l0_1 x4_1).f2) = 1
           ·rw [if_pos c32] at H
            have c32b0 : (((rd_T59 l0_1 x4_1).f2) == 1) = true := ze c32; have c32b1 : (((rd_T59 l0_1 x4_1).f2) != 1) = false := zc c32; clear c32
            by_cases c33 : 2 < (x3_1.length : Int)
            ·rw [if_pos c33] at H
             have c33b0 : decide (2 < (x3_1.length : Int)) = true := qq c33; have c33b1 : decide (2 < x3_1.length) = true := qq (by omega); clear c33
             obtain ⟨y401, hy401⟩ : ∃ y_ : List Int, y_ = (y397.set (2 : Int).toNat (wrap64 ((rd y397 2) + 1))) := ⟨_, rfl⟩
             replace H : (spec_FootMarks.l0 k1 y401 (wrap64 (x4_1 + 1)) a0_0 l0_1 a0_2) = some r := by first | (rw [hy401]; with_reducible exact H) | (have H2_ := (Option.bind_some _ _).symm.trans H; rw [hy401]; with_reducible exact H2_) | (have H2_ := (Option.bind_some _ _).symm.trans H; with_reducible exact H2_) | with_reducible exact H | (rw [hy401]; exact H) | exact H
             have Ny401 := qa hy401; clear hy401; have H' := qa H; clear H; have hcz35_0 : wr.cell? ⟨gb383, 0, none⟩ = some (.int .i64 a0_0) := (qi BK383.out 0).trans rfl; have hcz35_1 : wr.cell? ⟨gb383, 1, none⟩ = some (.slice (some ad388) l0_1.length c0_1) := (qi BK383.out 1).trans rfl; have hcz35_2 : wr.cell? ⟨gb383, 2, none⟩ = some (.int .i64 a0_2) := (qi BK383.out 2).trans rfl; have hfz35_0 := qo BK383.out 0; have hfz35_1 := qo BK383.out 1; have hfz35_2 := qo BK383.out 2; have p394 : 0 ≤ (x4_1 : Int) := qm (by assumption); have q394 : x4_1 < (l0_1.length : Int) := qm (by assumption); obtain ⟨ad394, e394, hx394_0, hx394_1, hx394_2⟩ := at_T59 HR0_1.out x4_1 p394 q394
             obtain rfl : ad388 = ad394 := (by injection e394)
             replace hx394_0 := (HB.out.cell (qf w _ hx394_0)).trans hx394_0; replace hx394_1 := (HB.out.cell (qf w _ hx394_1)).trans hx394_1; replace hx394_2 := (HB.out.cell (qf w _ hx394_2)).trans hx394_2; replace p394 := qga p394; replace q394 := qga q394
             try go_wp2_with (first | ((with_reducible refine gate_dst (N := 5) rfl ?_); refine box_event ?hg (N := 5) ?hd (cs := #[.int .i64 0, .int .i64 0, .int .i64 0]) (t := 59) ?hr ?_; (case hd => rfl); (case hg => rfl); (case hr => first | (go_simp; done) | (go_simp; rfl)); intro gb395 hg w36 hbox hb; have n0_ := qa (qya (by (with_reducible repeat first | apply qx | apply qy | apply qz); exact HO_3.out) hb); have n1_ := qa (qja (g := gb383) (o := .cells #[.int .i64 a0_0, .slice (some ad388) l0_1.length c0_1, .int .i64 a0_2] 31 (0, 0)) (by (with_reducible repeat first | apply ql | apply qn | apply qk); exact BK383.out) hb); have n2_ := qa (qha (by repeat (first | (with_reducible first | exact HB.out | apply qh | apply qe | apply qg | refine qj ?_ GE383.out) | exact HB.out)) hb); have n3_ := qa (hbox); have n4_ := qa ((by rw [hg]; exact (qp (by repeat (first | (with_reducible first | exact HB.out | apply qh | apply qe | apply qg | refine qj ?_ GE383.out) | exact HB.out))) : w.heap.size ≤ gb395)); have n5_ := qa ((by rw [hg]; exact (qp (by repeat (first | (with_reducible first | exact HB.out | apply qh | apply qe | apply qg | refine qj ?_ GE383.out) | exact HB.out))) : w.heap.size ≤ gb395)); have n6_ := qa ((by rw [hg]; exact Nat.ne_of_lt (blk_lt (g := gb383) (o := .cells #[.int .i64 a0_0, .slice (some ad388) l0_1.length c0_1, .int .i64 a0_2] 31 (0, 0)) (by (with_reducible repeat first | apply ql | apply qn | apply qk); exact BK383.out)) : gb383 ≠ gb395)); have n7_ := qa ((by rw [hg]; exact Nat.ne_of_gt (blk_lt (g := gb383) (o := .cells #[.int .i64 a0_0, .slice (some ad388) l0_1.length c0_1, .int .i64 a0_2] 31 (0, 0)) (by (with_reducible repeat first | apply ql | apply qn | apply qk); exact BK383.out)) : gb395 ≠ gb383)); clear HO_3; clear BK383; clear HB; have HO_3 := n0_; have BK383 := n1_; have HB := n2_; have BK395 := n3_; have GW395 := n4_; have GE395 := n5_; have NB383_395 := n6_; have NB395_383 := n7_; clear n0_ n1_ n2_ n3_ n4_ n5_ n6_ n7_; clear hb hbox hg; have hnb37 := NB395_383.out; have hnc37 := NB383_395.out; have hcz38_0 : w36.cell? ⟨gb395, 0, none⟩ = some (.int .i64 0) := (qi BK395.out 0).trans rfl; have hcz38_1 : w36.cell? ⟨gb395, 1, none⟩ = some (.int .i64 0) := (qi BK395.out 1).trans rfl; have hcz38_2 : w36.cell? ⟨gb395, 2, none⟩ = some (.int .i64 0) := (qi BK395.out 2).trans rfl; have hfz38_0 := qo BK395.out 0; have hfz38_1 := qo BK395.out 1; have hfz38_2 := qo BK395.out 2))
             have n0_ : Aside0 (Kd.R (Kd.int .i64) 3 (((w36.setCell ⟨gb395, 0, none⟩ (.int .i64 ((rd_T59 l0_1 x4_1).f0))).setCell ⟨gb395, 1, none⟩ (.int .i64 ((rd_T59 l0_1 x4_1).f1))).setCell ⟨gb395, 2, none⟩ (.int .i64 ((rd_T59 l0_1 x4_1).f2))) w.heap.size (fun _ => True) v392 x3_1) := ⟨by (with_reducible repeat first | apply qx | apply qy | apply qz); exact qoa (qob (p := ⟨gb395, 2, none⟩) (qob (p := ⟨gb395, 1, none⟩) (qob (p := ⟨gb395, 0, none⟩) (Kd.R_types HO_3.out BK395.out (by decide)) (fun _ hk => hk.2) (.int .i64 ((rd_T59 l0_1 x4_1).f0))) (fun _ hk => hk.2) (.int .i64 ((rd_T59 l0_1 x4_1).f1))) (fun _ hk => hk.2) (.int .i64 ((rd_T59 l0_1 x4_1).f2))) (fun _ hk => trivial)⟩
             have n1_ : Aside0 ((((w36.setCell ⟨gb395, 0, none⟩ (.int .i64 ((rd_T59 l0_1 x4_1).f0))).setCell ⟨gb395, 1, none⟩ (.int .i64 ((rd_T59 l0_1 x4_1).f1))).setCell ⟨gb395, 2, none⟩ (.int .i64 ((rd_T59 l0_1 x4_1).f2))).heap[gb383]? = some (.cells #[.int .i64 a0_0, .slice (some ad388) l0_1.length c0_1, .int .i64 a0_2] 31 (0, 0))) := ⟨by (with_reducible repeat first | apply ql | apply qn | apply qk); refine qlb ?_ NB383_395.out _; (with_reducible repeat first | apply ql | apply qn | apply qk); refine qlb ?_ NB383_395.out _; (with_reducible repeat first | apply ql | apply qn | apply qk); refine qlb ?_ NB383_395.out _; (with_reducible repeat first | apply ql | apply qn | apply qk); exact BK383.out⟩
             have n2_ : Aside0 ((((w36.setCell ⟨gb395, 0, none⟩ (.int .i64 ((rd_T59 l0_1 x4_1).f0))).setCell ⟨gb395, 1, none⟩ (.int .i64 ((rd_T59 l0_1 x4_1).f1))).setCell ⟨gb395, 2, none⟩ (.int .i64 ((rd_T59 l0_1 x4_1).f2))).heap[gb395]? = some (.cells #[.int .i64 ((rd_T59 l0_1 x4_1).f0), .int .i64 ((rd_T59 l0_1 x4_1).f1), .int .i64 ((rd_T59 l0_1 x4_1).f2)] 59 (0, 0))) := ⟨by (with_reducible repeat first | apply ql | apply qn | apply qk); refine qmb (cs := #[.int .i64 ((rd_T59 l0_1 x4_1).f0), .int .i64 ((rd_T59 l0_1 x4_1).f1), .int .i64 0]) ?_ 2 _ rfl; (with_reducible repeat first | apply ql | apply qn | apply qk); refine qmb (cs := #[.int .i64 ((rd_T59 l0_1 x4_1).f0), .int .i64 0, .int .i64 0]) ?_ 1 _ rfl; (with_reducible repeat first | apply ql | apply qn | apply qk); refine qmb (cs := #[.int .i64 0, .int .i64 0, .int .i64 0]) ?_ 0 _ rfl; (with_reducible repeat first | apply ql | apply qn | apply qk); exact BK395.out⟩
             have n3_ : Aside0 (Below w.heap.size w (((w36.setCell ⟨gb395, 0, none⟩ (.int .i64 ((rd_T59 l0_1 x4_1).f0))).setCell ⟨gb395, 1, none⟩ (.int .i64 ((rd_T59 l0_1 x4_1).f1))).setCell ⟨gb395, 2, none⟩ (.int .i64 ((rd_T59 l0_1 x4_1).f2)))) := ⟨by repeat (first | (with_reducible first | exact HB.out | apply qh | apply qe | apply qg | refine qj ?_ GE383.out | refine qj ?_ GE395.out) | exact HB.out)⟩
             (try clear HO_3); (try clear BK383); (try clear BK395); (try clear HB); generalize (((w36.setCell ⟨gb395, 0, none⟩ (.int .i64 ((rd_T59 l0_1 x4_1).f0))).setCell ⟨gb395, 1, none⟩ (.int .i64 ((rd_T59 l0_1 x4_1).f1))).setCell ⟨gb395, 2, none⟩ (.int .i64 ((rd_T59 l0_1 x4_1).f2))) = w39 at n0_ n1_ n2_ n3_ ⊢; have HO_3 := n0_; have BK383 := n1_; have BK395 := n2_; have HB := n3_; clear n0_ n1_ n2_ n3_; have n0_ := qa (qz HO_3.out); have n1_ := qa (qn BK383.out); have n2_ := qa (qn BK395.out); have n3_ := qa (qg HB.out); clear HO_3 BK383 BK395 HB; have HO_3 := n0_; have BK383 := n1_; have BK395 := n2_; have HB := n3_; clear n0_ n1_ n2_ n3_; obtain ⟨Ao41, co41, eo41⟩ := Kd.R_slice HO_3.out
             (first | subst eo41 | (injection eo41 with f1_ f2_ f3_; have f4_ := f1_.symm; have f5_ := f3_.symm; clear f1_ f2_ f3_; subst f4_; subst f5_))
             have p396 : 0 ≤ (0 : Int) := (by omega)
             have q396 : 0 < (x3_1.length : Int) := qm (by assumption); obtain ⟨ad396, e396, hx396_0⟩ := Kd.at_int (qgb HO_3.out).2.2 0 p396 q396; cases e396; have qi396 : (0 < x3_1.length) = True := qga (by omega); (try rw [show ((0 : Int)).toNat = 0 from rfl] at hx396_0); (try rw [Addr.add_zero'] at hx396_0); replace p396 := qga p396; replace q396 := qga q396
             have p16 : 0 ≤ (0 : Int) := (by omega)
             have q16 : (0 : Int) < ((x3_1.length : Int) : Int) := qm (by assumption); have qi16 : (0 < x3_1.length) = True := qga (by omega); obtain ⟨go16, co16, eo16, gb16, gl16, cl16, HG16⟩ := Kd.R_form HO_3.out (by omega)
             (first | cases eo16 | (injection eo16 with ea_ en_ ec_; (first | subst ea_ | (injection ea_ with ea_; subst ea_)); subst ec_; clear en_))
             have GB16 := qa gb16; have GG16 := qa HG16; clear gb16 gl16 HG16
             (first | simp only [add_plain] at hx396_0 | skip)
             obtain ⟨hx16_0, hf16_0⟩ := Kd.R_celln 0 HO_3.out (0 : Int) p16 q16; (try rw [show ((0 : Int)).toNat = 0 from rfl] at hx16_0); (try simp only [Nat.reduceMul, Nat.zero_mul, Nat.zero_add, Nat.reduceAdd] at hx16_0); (try rw [show ((0 : Int)).toNat = 0 from rfl] at hf16_0); (try simp only [Nat.reduceMul, Nat.zero_mul, Nat.zero_add, Nat.reduceAdd] at hf16_0); replace p16 := qga p16; replace q16 := qga q16; have HP42 := Kd.R_putn HO_3.out (0 : Int) (wrap64 ((rd x3_1 0) - ((rd_T59 l0_1 x4_1).f1))); rw [← Ny397.out] at HP42; have HQ42 := qa HP42; clear HP42; refine start_ (n := 9) (S := fun w' => w'.cell? ⟨gb395, 0, none⟩ = some (.int .i64 ((rd_T59 l0_1 x4_1).f0)) ∧ w'.cell? ⟨gb395, 1, none⟩ = some (.int .i64 ((rd_T59 l0_1 x4_1).f1)) ∧ w'.cell? ⟨gb395, 2, none⟩ = some (.int .i64 ((rd_T59 l0_1 x4_1).f2)) ∧ w'.cell? ⟨go16, 0, none⟩ = some (.int .i64 (rd x3_1 0))) (ds := [8]) #[false, false, false, false, false, false, false, false, false] (by kernel_rfl) rfl rfl ⟨(qi BK395.out 0).trans rfl, (qi BK395.out 1).trans rfl, (qi BK395.out 2).trans rfl, hx396_0⟩ (fun hHeld => ?_); refine with_tabW spec_FootMarks.tab8 spec_FootMarks.bits8 (fun HT_ HW_ => ?_); generalize w39.drew = w40 at HO_3 BK383 BK395 HB GG16 HQ42 hf16_0 hx16_0 hx396_0 hHeld ⊢; refine pure_ (i := 0) (N := some 48) (v := ?_) (a' := ?_) #[true, false, false, false, false, false, false, false, false] rfl rfl (qua HT_.out (by kernel_rfl)) (fun _ _ _ h => h) (Or.inl ⟨by rfl, ?_⟩) ?_ ?_; rotate_left
             ·intro w'
              go_simp; with_reducible rfl
             rotate_left
             ·simp only [Act.put, qb, qc, qd, i64_w, i32_w]
              rfl
             refine pure_ (i := 1) (N := some 49) (v := ?_) (a' := ?_) #[true, true, false, false, false, false, false, false, false] rfl rfl (qua HT_.out (by kernel_rfl)) (fun _ _ _ h => h) (Or.inl ⟨by rfl, ?_⟩) ?_ ?_; rotate_left
             ·intro w'
              go_simp; with_reducible rfl
             rotate_left
             ·simp only [Act.put, qb, qc, qd, i64_w, i32_w]
              rfl
             refine pure_ (i := 2) (N := some 50) (v := ?_) (a' := ?_) #[true, true, true, false, false, false, false, false, false] rfl rfl (qua HT_.out (by kernel_rfl)) (fun _ _ _ h => h) (Or.inl ⟨by rfl, ?_⟩) ?_ ?_; rotate_left
             ·intro w'
              go_simp; with_reducible rfl
             rotate_left
             ·simp only [Act.put, qb, qc, qd, i64_w, i32_w]
              rfl
             refine pure_ (i := 4) (N := some 52) (v := ?_) (a' := ?_) #[true, true, true, false, true, false, false, false, false] rfl rfl (qua HT_.out (by kernel_rfl)) (fun _ _ _ h => h) (Or.inl ⟨by rfl, ?_⟩) ?_ ?_; rotate_left
             ·intro w'
              go_simp; with_reducible rfl
             rotate_left
             ·simp only [Act.put, qb, qc, qd, i64_w, i32_w]
              rfl
             refine take_ (i := 3) (N := some 51) (v := ?_) (a' := ?_) #[true, true, true, true, true, false, false, false, false] rfl rfl (qva HT_.out HW_.out (by kernel_rfl)) (fun _ _ _ h => h) (Or.inl ⟨by rfl, ?_⟩) hHeld ?_ ?_; rotate_left
             ·rintro w' ⟨s0, s1, s2, s3⟩
              go_simp; with_reducible rfl
             rotate_left
             ·simp only [Act.put, qb, qc, qd, i64_w, i32_w]
              rfl
             refine take_ (i := 5) (N := some 53) (v := ?_) (a' := ?_) #[true, true, true, true, true, true, false, false, false] rfl rfl (qva HT_.out HW_.out (by kernel_rfl)) (fun _ _ _ h => h) (Or.inl ⟨by rfl, ?_⟩) hHeld ?_ ?_; rotate_left
             ·rintro w' ⟨s0, s1, s2, s3⟩
              go_simp; with_reducible rfl
             rotate_left
             ·simp only [Act.put, qb, qc, qd, i64_w, i32_w]
              rfl
             refine pure_ (i := 6) (N := some 54) (v := ?_) (a' := ?_) #[true, true, true, true, true, true, true, false, false] rfl rfl (qua HT_.out (by kernel_rfl)) (fun _ _ _ h => h) (Or.inl ⟨by rfl, ?_⟩) ?_ ?_; rotate_left
             ·intro w'
              go_simp; with_reducible rfl
             rotate_left
             ·simp only [Act.put, qb, qc, qd, i64_w, i32_w]
              rfl
             refine pure_ (i := 7) (N := some 55) (v := ?_) (a' := ?_) #[true, true, true, true, true, true, true, true, false] rfl rfl (qua HT_.out (by kernel_rfl)) (fun _ _ _ h => h) (Or.inl ⟨by rfl, ?_⟩) ?_ ?_; rotate_left
             ·intro w'
              go_simp; with_reducible rfl
             rotate_left
             ·simp only [Act.put, qb, qc, qd, i64_w, i32_w]
              rfl
             refine last_ (i := 8) (N := none) #[true, true, true, true, true, true, true, true, true] rfl rfl (qwa HT_.out (by kernel_rfl)) (by decide) (fun K hK => ?_); refine skip_ (w1 := ?_) (by rfl) rfl ?_ ?_; rotate_left
             ·go_simp
              rfl
             refine hK.out _ _ ?_; clear hK K; refine done_ (done_of HT_.out (by kernel_rfl)) ?_
             have n0_ : Aside0 (Kd.R (Kd.int .i64) 3 (w40.setCell ⟨go16, 0, none⟩ (.int .i64 (wrap64 ((rd x3_1 0) - ((rd_T59 l0_1 x4_1).f1))))) w.heap.size (fun _ => True) (.slice (some ⟨go16, 0, none⟩) x3_1.length co41) y397) := ⟨by (with_reducible repeat first | apply qx | apply qy | apply qz); exact HQ42.out⟩
             have n1_ : Aside0 ((w40.setCell ⟨go16, 0, none⟩ (.int .i64 (wrap64 ((rd x3_1 0) - ((rd_T59 l0_1 x4_1).f1))))).heap[gb383]? = some (.cells #[.int .i64 a0_0, .slice (some ad388) l0_1.length c0_1, .int .i64 a0_2] 31 (0, 0))) := ⟨by (with_reducible repeat first | apply ql | apply qn | apply qk); refine qlb ?_ (by have h_ := Kd.R_ne HO_3.out BK383.out (by decide); intro e_; exact h_ (by rw [e_]; rfl)) _; (with_reducible repeat first | apply ql | apply qn | apply qk); exact BK383.out⟩
             have n2_ : Aside0 ((w40.setCell ⟨go16, 0, none⟩ (.int .i64 (wrap64 ((rd x3_1 0) - ((rd_T59 l0_1 x4_1).f1))))).heap[gb395]? = some (.cells #[.int .i64 ((rd_T59 l0_1 x4_1).f0), .int .i64 ((rd_T59 l0_1 x4_1).f1), .int .i64 ((rd_T59 l0_1 x4_1).f2)] 59 (0, 0))) := ⟨by (with_reducible repeat first | apply ql | apply qn | apply qk); refine qlb ?_ (by have h_ := Kd.R_ne HO_3.out BK395.out (by decide); intro e_; exact h_ (by rw [e_]; rfl)) _; (with_reducible repeat first | apply ql | apply qn | apply qk); exact BK395.out⟩
             have n3_ : Aside0 (Below w.heap.size w (w40.setCell ⟨go16, 0, none⟩ (.int .i64 (wrap64 ((rd x3_1 0) - ((rd_T59 l0_1 x4_1).f1)))))) := ⟨by repeat (first | (with_reducible first | exact HB.out | apply qh | apply qe | apply qg | refine qj ?_ GB16.out | refine qj ?_ GE383.out | refine qj ?_ GE395.out) | exact HB.out)⟩
             (try clear HO_3); (try clear BK383); (try clear BK395); (try clear HB); generalize (w40.setCell ⟨go16, 0, none⟩ (.int .i64 (wrap64 ((rd x3_1 0) - ((rd_T59 l0_1 x4_1).f1))))) = w43 at n0_ n1_ n2_ n3_ ⊢; have HO_3 := n0_; have BK383 := n1_; have BK395 := n2_; have HB := n3_; clear n0_ n1_ n2_ n3_; have hcz44_0 : w43.cell? ⟨gb395, 0, none⟩ = some (.int .i64 ((rd_T59 l0_1 x4_1).f0)) := (qi BK395.out 0).trans rfl; have hcz44_1 : w43.cell? ⟨gb395, 1, none⟩ = some (.int .i64 ((rd_T59 l0_1 x4_1).f1)) := (qi BK395.out 1).trans rfl; have hcz44_2 : w43.cell? ⟨gb395, 2, none⟩ = some (.int .i64 ((rd_T59 l0_1 x4_1).f2)) := (qi BK395.out 2).trans rfl; have hfz44_0 := qo BK395.out 0; have hfz44_1 := qo BK395.out 1; have hfz44_2 := qo BK395.out 2
             have p400 : 0 ≤ (2 : Int) := (by omega)
             have q400 : 2 < (y397.length : Int) := (by have h_ : (2 : Int) < ((x3_1.length : Int) : Int) := qm (by assumption); first | (have e_ := (qgb HO_3.out).1; omega) | simpa only [Ny397.out, List.length_set] using h_)
             have ql400 : ((2 : Int) < ((x3_1.length : Int) : Int)) = True := qga (qm (by assumption)); (try have qn400 : (2 < x3_1.length) = True := qga (by have h_ : (2 : Int) < ((x3_1.length : Int) : Int) := qm (by assumption); omega)); obtain ⟨ad400, e400, hx400_0⟩ := Kd.at_int (qgb HO_3.out).2.2 2 p400 q400
             obtain rfl : (⟨go16, 0, none⟩ : Addr) = ad400 := (by injection e400)
             (first | simp only [add_plain] at hx400_0 | simp only [add_at] at hx400_0 | simp only [Addr.add, Nat.zero_add] at hx400_0 | skip)
             have qi400 : (2 < y397.length) = True := qga (by omega); (try rw [show ((2 : Int)).toNat = 2 from rfl] at hx400_0); replace p400 := qga p400; replace q400 := qga q400
             have p34 : 0 ≤ (2 : Int) := (by omega)
             have q34 : (2 : Int) < ((x3_1.length : Int) : Int) := qm (by assumption); have qi34 : (2 < x3_1.length) = True := qga (by omega); obtain ⟨hx34_0, hf34_0⟩ := Kd.R_celln 0 HO_3.out (2 : Int) p34 q34; (try rw [show ((2 : Int)).toNat = 2 from rfl] at hx34_0); (try simp only [Nat.reduceMul, Nat.zero_mul, Nat.zero_add, Nat.reduceAdd] at hx34_0); (try rw [show ((2 : Int)).toNat = 2 from rfl] at hf34_0); (try simp only [Nat.reduceMul, Nat.zero_mul, Nat.zero_add, Nat.reduceAdd] at hf34_0); replace p34 := qga p34; replace q34 := qga q34; obtain ⟨hy45_, hz45_⟩ := Kd.R_celln 0 HO_3.out (2 : Int) (by omega) (qm (by assumption)); (try simp only [Int.reduceToNat, Int.toNat_zero, Int.toNat_ofNat, Nat.reduceMul, Nat.zero_mul, Nat.zero_add] at hy45_ hz45_); (try rw [show ((2 : Int)).toNat = 2 from rfl] at hy45_); (try rw [show ((2 : Int)).toNat = 2 from rfl] at hz45_); have HP45 := Kd.R_putg HO_3.out (2 : Int) (wrap64 ((rd y397 2) + 1))
             try go_wp2_with (first | ((with_reducible refine gate_store (t := 3) (p := 81) rfl ?_); refine store_event (t := 3) (p := 81) (v := ?vo_w46) (w1 := (w43.setCell ⟨go16, (2 : Int).toNat, none⟩ (.int .i64 (wrap64 ((rd y397 2) + 1))))) ?hg ?ho ?hn ?hr ?_; (case ho => rfl); (case hg => rfl); (case hn => rfl); (case hr => first | (go_simp; done) | (go_simp; rfl)); intro w46 hw; have hg : w43.grownBy w46 (some go16) := (by rw [hw]; exact HP45.2); have hp_ : Kd.R (Kd.int .i64) 3 w46 w.heap.size (fun _ => True) (.slice (some ⟨go16, 0, none⟩) x3_1.length co41) y401 := (by rw [hw, Ny401.out]; exact HP45.1); clear HP45; have n0_ := qa (hp_); have n1_ := qa (blk_grown (g := gb383) (o := .cells #[.int .i64 a0_0, .slice (some ad388) l0_1.length c0_1, .int .i64 a0_2] 31 (0, 0)) (by (with_reducible repeat first | apply ql | apply qn | apply qk); exact BK383.out) hg (Kd.R_ne HO_3.out BK383.out (by decide))); have n2_ := qa (blk_grown (g := gb395) (o := .cells #[.int .i64 ((rd_T59 l0_1 x4_1).f0), .int .i64 ((rd_T59 l0_1 x4_1).f1), .int .i64 ((rd_T59 l0_1 x4_1).f2)] 59 (0, 0)) (by (with_reducible repeat first | apply ql | apply qn | apply qk); exact BK395.out) hg (Kd.R_ne HO_3.out BK395.out (by decide))); have n3_ := qa ((by rw [hw]; exact qj (HB.out) GB16.out : Below w.heap.size w w46)); clear HO_3; clear BK383; clear BK395; clear HB; have HO_3 := n0_; have BK383 := n1_; have BK395 := n2_; have HB := n3_; clear n0_ n1_ n2_ n3_; clear hg hw hp_))
             go_roundg k1
             case measure => have := HK1.out; omega
             case rel => exact ⟨(y401), (wrap64 (x4_1 + 1)), (by first | rfl | (simp; done) | (simp [*]; done)), H', ⟨by have := HK1.out; omega⟩, ⟨by (with_reducible repeat first | apply qx | apply qy | apply qz); exact HO_3.out⟩, ⟨by (with_reducible repeat first | apply ql | apply qn | apply qk); exact BK383.out⟩, ⟨by repeat (first | (with_reducible first | exact HB.out | apply qh | apply qe | apply qg | refine qj ?_ GE383.out | refine qj ?_ GE395.out) | exact HB.out)⟩⟩
            ·rw [if_neg c33] at H
             exact absurd H (by simp)
           ·rw [if_neg c32] at H
            have c32b0 : (((rd_T59 l0_1 x4_1).f2) == 1) = false := zd c32; have c32b1 : (((rd_T59 l0_1 x4_1).f2) != 1) = true := zf c32
            by_cases c47 : 3 < (x3_1.length : Int)
            ·rw [if_pos c47] at H
             have c47b0 : decide (3 < (x3_1.length : Int)) = true := qq c47; have c47b1 : decide (3 < x3_1.length) = true := qq (by omega); clear c47
             obtain ⟨y403, hy403⟩ : ∃ y_ : List Int, y_ = (y397.set (3 : Int).toNat (wrap64 ((rd y397 3) + 1))) := ⟨_, rfl⟩
             replace H : (spec_FootMarks.l0 k1 y403 (wrap64 (x4_1 + 1)) a0_0 l0_1 a0_2) = some r := by first | (rw [hy403]; with_reducible exact H) | (have H2_ := (Option.bind_some _ _).symm.trans H; rw [hy403]; with_reducible exact H2_) | (have H2_ := (Option.bind_some _ _).symm.trans H; with_reducible exact H2_) | with_reducible exact H | (rw [hy403]; exact H) | exact H
             have Ny403 := qa hy403; clear hy403; have H' := qa H; clear H; have hcz49_0 : wr.cell? ⟨gb383, 0, none⟩ = some (.int .i64 a0_0) := (qi BK383.out 0).trans rfl; have hcz49_1 : wr.cell? ⟨gb383, 1, none⟩ = some (.slice (some ad388) l0_1.length c0_1) := (qi BK383.out 1).trans rfl; have hcz49_2 : wr.cell? ⟨gb383, 2, none⟩ = some (.int .i64 a0_2) := (qi BK383.out 2).trans rfl; have hfz49_0 := qo BK383.out 0; have hfz49_1 := qo BK383.out 1; have hfz49_2 := qo BK383.out 2; have p394 : 0 ≤ (x4_1 : Int) := qm (by assumption); have q394 : x4_1 < (l0_1.length : Int) := qm (by assumption); obtain ⟨ad394, e394, hx394_0, hx394_1, hx394_2⟩ := at_T59 HR0_1.out x4_1 p394 q394
             obtain rfl : ad388 = ad394 := (by injection e394)
             replace hx394_0 := (HB.out.cell (qf w _ hx394_0)).trans hx394_0; replace hx394_1 := (HB.out.cell (qf w _ hx394_1)).trans hx394_1; replace hx394_2 := (HB.out.cell (qf w _ hx394_2)).trans hx394_2; replace p394 := qga p394; replace q394 := qga q394
             try go_wp2_with (first | ((with_reducible refine gate_dst (N := 5) rfl ?_); refine box_event ?hg (N := 5) ?hd (cs := #[.int .i64 0, .int .i64 0, .int .i64 0]) (t := 59) ?hr ?_; (case hd => rfl); (case hg => rfl); (case hr => first | (go_simp; done) | (go_simp; rfl)); intro gb395 hg w50 hbox hb; have n0_ := qa (qya (by (with_reducible repeat first | apply qx | apply qy | apply qz); exact HO_3.out) hb); have n1_ := qa (qja (g := gb383) (o := .cells #[.int .i64 a0_0, .slice (some ad388) l0_1.length c0_1, .int .i64 a0_2] 31 (0, 0)) (by (with_reducible repeat first | apply ql | apply qn | apply qk); exact BK383.out) hb); have n2_ := qa (qha (by repeat (first | (with_reducible first | exact HB.out | apply qh | apply qe | apply qg | refine qj ?_ GE383.out) | exact HB.out)) hb); have n3_ := qa (hbox); have n4_ := qa ((by rw [hg]; exact (qp (by repeat (first | (with_reducible first | exact HB.out | apply qh | apply qe | apply qg | refine qj ?_ GE383.out) | exact HB.out))) : w.heap.size ≤ gb395)); have n5_ := qa ((by rw [hg]; exact (qp (by repeat (first | (with_reducible first | exact HB.out | apply qh | apply qe | apply qg | refine qj ?_ GE383.out) | exact HB.out))) : w.heap.size ≤ gb395)); have n6_ := qa ((by rw [hg]; exact Nat.ne_of_lt (blk_lt (g := gb383) (o := .cells #[.int .i64 a0_0, .slice (some ad388) l0_1.length c0_1, .int .i64 a0_2] 31 (0, 0)) (by (with_reducible repeat first | apply ql | apply qn | apply qk); exact BK383.out)) : gb383 ≠ gb395)); have n7_ := qa ((by rw [hg]; exact Nat.ne_of_gt (blk_lt (g := gb383) (o := .cells #[.int .i64 a0_0, .slice (some ad388) l0_1.length c0_1, .int .i64 a0_2] 31 (0, 0)) (by (with_reducible repeat first | apply ql | apply qn | apply qk); exact BK383.out)) : gb395 ≠ gb383)); clear HO_3; clear BK383; clear HB; have HO_3 := n0_; have BK383 := n1_; have HB := n2_; have BK395 := n3_; have GW395 := n4_; have GE395 := n5_; have NB383_395 := n6_; have NB395_383 := n7_; clear n0_ n1_ n2_ n3_ n4_ n5_ n6_ n7_; clear hb hbox hg; have hnb51 := NB395_383.out; have hnc51 := NB383_395.out; have hcz52_0 : w50.cell? ⟨gb395, 0, none⟩ = some (.int .i64 0) := (qi BK395.out 0).trans rfl; have hcz52_1 : w50.cell? ⟨gb395, 1, none⟩ = some (.int .i64 0) := (qi BK395.out 1).trans rfl; have hcz52_2 : w50.cell? ⟨gb395, 2, none⟩ = some (.int .i64 0) := (qi BK395.out 2).trans rfl; have hfz52_0 := qo BK395.out 0; have hfz52_1 := qo BK395.out 1; have hfz52_2 := qo BK395.out 2))
             have n0_ : Aside0 (Kd.R (Kd.int .i64) 3 (((w50.setCell ⟨gb395, 0, none⟩ (.int .i64 ((rd_T59 l0_1 x4_1).f0))).setCell ⟨gb395, 1, none⟩ (.int .i64 ((rd_T59 l0_1 x4_1).f1))).setCell ⟨gb395, 2, none⟩ (.int .i64 ((rd_T59 l0_1 x4_1).f2))) w.heap.size (fun _ => True) v392 x3_1) := ⟨by (with_reducible repeat first | apply qx | apply qy | apply qz); exact qoa (qob (p := ⟨gb395, 2, none⟩) (qob (p := ⟨gb395, 1, none⟩) (qob (p := ⟨gb395, 0, none⟩) (Kd.R_types HO_3.out BK395.out (by decide)) (fun _ hk => hk.2) (.int .i64 ((rd_T59 l0_1 x4_1).f0))) (fun _ hk => hk.2) (.int .i64 ((rd_T59 l0_1 x4_1).f1))) (fun _ hk => hk.2) (.int .i64 ((rd_T59 l0_1 x4_1).f2))) (fun _ hk => trivial)⟩
             have n1_ : Aside0 ((((w50.setCell ⟨gb395, 0, none⟩ (.int .i64 ((rd_T59 l0_1 x4_1).f0))).setCell ⟨gb395, 1, none⟩ (.int .i64 ((rd_T59 l0_1 x4_1).f1))).setCell ⟨gb395, 2, none⟩ (.int .i64 ((rd_T59 l0_1 x4_1).f2))).heap[gb383]? = some (.cells #[.int .i64 a0_0, .slice (some ad388) l0_1.length c0_1, .int .i64 a0_2] 31 (0, 0))) := ⟨by (with_reducible repeat first | apply ql | apply qn | apply qk); refine qlb ?_ NB383_395.out _; (with_reducible repeat first | apply ql | apply qn | apply qk); refine qlb ?_ NB383_395.out _; (with_reducible repeat first | apply ql | apply qn | apply qk); refine qlb ?_ NB383_395.out _; (with_reducible repeat first | apply ql | apply qn | apply qk); exact BK383.out⟩
             have n2_ : Aside0 ((((w50.setCell ⟨gb395, 0, none⟩ (.int .i64 ((rd_T59 l0_1 x4_1).f0))).setCell ⟨gb395, 1, none⟩ (.int .i64 ((rd_T59 l0_1 x4_1).f1))).setCell ⟨gb395, 2, none⟩ (.int .i64 ((rd_T59 l0_1 x4_1).f2))).heap[gb395]? = some (.cells #[.int .i64 ((rd_T59 l0_1 x4_1).f0), .int .i64 ((rd_T59 l0_1 x4_1).f1), .int .i64 ((rd_T59 l0_1 x4_1).f2)] 59 (0, 0))) := ⟨by (with_reducible repeat first | apply ql | apply qn | apply qk); refine qmb (cs := #[.int .i64 ((rd_T59 l0_1 x4_1).f0), .int .i64 ((rd_T59 l0_1 x4_1).f1), .int .i64 0]) ?_ 2 _ rfl; (with_reducible repeat first | apply ql | apply qn | apply qk); refine qmb (cs := #[.int .i64 ((rd_T59 l0_1 x4_1).f0), .int .i64 0, .int .i64 0]) ?_ 1 _ rfl; (with_reducible repeat first | apply ql | apply qn | apply qk); refine qmb (cs := #[.int .i64 0, .int .i64 0, .int .i64 0]) ?_ 0 _ rfl; (with_reducible repeat first | apply ql | apply qn | apply qk); exact BK395.out⟩
             have n3_ : Aside0 (Below w.heap.size w (((w50.setCell ⟨gb395, 0, none⟩ (.int .i64 ((rd_T59 l0_1 x4_1).f0))).setCell ⟨gb395, 1, none⟩ (.int .i64 ((rd_T59 l0_1 x4_1).f1))).setCell ⟨gb395, 2, none⟩ (.int .i64 ((rd_T59 l0_1 x4_1).f2)))) := ⟨by repeat (first | (with_reducible first | exact HB.out | apply qh | apply qe | apply qg | refine qj ?_ GE383.out | refine qj ?_ GE395.out) | exact HB.out)⟩
             (try clear HO_3); (try clear BK383); (try clear BK395); (try clear HB); generalize (((w50.setCell ⟨gb395, 0, none⟩ (.int .i64 ((rd_T59 l0_1 x4_1).f0))).setCell ⟨gb395, 1, none⟩ (.int .i64 ((rd_T59 l0_1 x4_1).f1))).setCell ⟨gb395, 2, none⟩ (.int .i64 ((rd_T59 l0_1 x4_1).f2))) = w53 at n0_ n1_ n2_ n3_ ⊢; have HO_3 := n0_; have BK383 := n1_; have BK395 := n2_; have HB := n3_; clear n0_ n1_ n2_ n3_; have n0_ := qa (qz HO_3.out); have n1_ := qa (qn BK383.out); have n2_ := qa (qn BK395.out); have n3_ := qa (qg HB.out); clear HO_3 BK383 BK395 HB; have HO_3 := n0_; have BK383 := n1_; have BK395 := n2_; have HB := n3_; clear n0_ n1_ n2_ n3_; obtain ⟨Ao55, co55, eo55⟩ := Kd.R_slice HO_3.out
             (first | subst eo55 | (injection eo55 with f1_ f2_ f3_; have f4_ := f1_.symm; have f5_ := f3_.symm; clear f1_ f2_ f3_; subst f4_; subst f5_))
             have p396 : 0 ≤ (0 : Int) := (by omega)
             have q396 : 0 < (x3_1.length : Int) := qm (by assumption); obtain ⟨ad396, e396, hx396_0⟩ := Kd.at_int (qgb HO_3.out).2.2 0 p396 q396; cases e396; have qi396 : (0 < x3_1.length) = True := qga (by omega); (try rw [show ((0 : Int)).toNat = 0 from rfl] at hx396_0); (try rw [Addr.add_zero'] at hx396_0); replace p396 := qga p396; replace q396 := qga q396
             have p16 : 0 ≤ (0 : Int) := (by omega)
             have q16 : (0 : Int) < ((x3_1.length : Int) : Int) := qm (by assumption); have qi16 : (0 < x3_1.length) = True := qga (by omega); obtain ⟨go16, co16, eo16, gb16, gl16, cl16, HG16⟩ := Kd.R_form HO_3.out (by omega)
             (first | cases eo16 | (injection eo16 with ea_ en_ ec_; (first | subst ea_ | (injection ea_ with ea_; subst ea_)); subst ec_; clear en_))
             have GB16 := qa gb16; have GG16 := qa HG16; clear gb16 gl16 HG16
             (first | simp only [add_plain] at hx396_0 | skip)
             obtain ⟨hx16_0, hf16_0⟩ := Kd.R_celln 0 HO_3.out (0 : Int) p16 q16; (try rw [show ((0 : Int)).toNat = 0 from rfl] at hx16_0); (try simp only [Nat.reduceMul, Nat.zero_mul, Nat.zero_add, Nat.reduceAdd] at hx16_0); (try rw [show ((0 : Int)).toNat = 0 from rfl] at hf16_0); (try simp only [Nat.reduceMul, Nat.zero_mul, Nat.zero_add, Nat.reduceAdd] at hf16_0); replace p16 := qga p16; replace q16 := qga q16; have HP56 := Kd.R_putn HO_3.out (0 : Int) (wrap64 ((rd x3_1 0) - ((rd_T59 l0_1 x4_1).f1))); rw [← Ny397.out] at HP56; have HQ56 := qa HP56; clear HP56; refine start_ (n := 9) (S := fun w' => w'.cell? ⟨gb395, 0, none⟩ = some (.int .i64 ((rd_T59 l0_1 x4_1).f0)) ∧ w'.cell? ⟨gb395, 1, none⟩ = some (.int .i64 ((rd_T59 l0_1 x4_1).f1)) ∧ w'.cell? ⟨gb395, 2, none⟩ = some (.int .i64 ((rd_T59 l0_1 x4_1).f2)) ∧ w'.cell? ⟨go16, 0, none⟩ = some (.int .i64 (rd x3_1 0))) (ds := [8]) #[false, false, false, false, false, false, false, false, false] (by kernel_rfl) rfl rfl ⟨(qi BK395.out 0).trans rfl, (qi BK395.out 1).trans rfl, (qi BK395.out 2).trans rfl, hx396_0⟩ (fun hHeld => ?_); refine with_tabW spec_FootMarks.tab8 spec_FootMarks.bits8 (fun HT_ HW_ => ?_); generalize w53.drew = w54 at HO_3 BK383 BK395 HB GG16 HQ56 hf16_0 hx16_0 hx396_0 hHeld ⊢; refine pure_ (i := 0) (N := some 48) (v := ?_) (a' := ?_) #[true, false, false, false, false, false, false, false, false] rfl rfl (qua HT_.out (by kernel_rfl)) (fun _ _ _ h => h) (Or.inl ⟨by rfl, ?_⟩) ?_ ?_; rotate_left
             ·intro w'
              go_simp; with_reducible rfl
             rotate_left
             ·simp only [Act.put, qb, qc, qd, i64_w, i32_w]
              rfl
             refine pure_ (i := 1) (N := some 49) (v := ?_) (a' := ?_) #[true, true, false, false, false, false, false, false, false] rfl rfl (qua HT_.out (by kernel_rfl)) (fun _ _ _ h => h) (Or.inl ⟨by rfl, ?_⟩) ?_ ?_; rotate_left
             ·intro w'
              go_simp; with_reducible rfl
             rotate_left
             ·simp only [Act.put, qb, qc, qd, i64_w, i32_w]
              rfl
             refine pure_ (i := 2) (N := some 50) (v := ?_) (a' := ?_) #[true, true, true, false, false, false, false, false, false] rfl rfl (qua HT_.out (by kernel_rfl)) (fun _ _ _ h => h) (Or.inl ⟨by rfl, ?_⟩) ?_ ?_; rotate_left
             ·intro w'
              go_simp; with_reducible rfl
             rotate_left
             ·simp only [Act.put, qb, qc, qd, i64_w, i32_w]
              rfl
             refine pure_ (i := 4) (N := some 52) (v := ?_) (a' := ?_) #[true, true, true, false, true, false, false, false, false] rfl rfl (qua HT_.out (by kernel_rfl)) (fun _ _ _ h => h) (Or.inl ⟨by rfl, ?_⟩) ?_ ?_; rotate_left
             ·intro w'
              go_simp; with_reducible rfl
             rotate_left
             ·simp only [Act.put, qb, qc, qd, i64_w, i32_w]
              rfl
             refine take_ (i := 3) (N := some 51) (v := ?_) (a' := ?_) #[true, true, true, true, true, false, false, false, false] rfl rfl (qva HT_.out HW_.out (by kernel_rfl)) (fun _ _ _ h => h) (Or.inl ⟨by rfl, ?_⟩) hHeld ?_ ?_; rotate_left
             ·rintro w' ⟨s0, s1, s2, s3⟩
              go_simp; with_reducible rfl
             rotate_left
             ·simp only [Act.put, qb, qc, qd, i64_w, i32_w]
              rfl
             refine take_ (i := 5) (N := some 53) (v := ?_) (a' := ?_) #[true, true, true, true, true, true, false, false, false] rfl rfl (qva HT_.out HW_.out (by kernel_rfl)) (fun _ _ _ h => h) (Or.inl ⟨by rfl, ?_⟩) hHeld ?_ ?_; rotate_left
             ·rintro w' ⟨s0, s1, s2, s3⟩
              go_simp; with_reducible rfl
             rotate_left
             ·simp only [Act.put, qb, qc, qd, i64_w, i32_w]
              rfl
             refine pure_ (i := 6) (N := some 54) (v := ?_) (a' := ?_) #[true, true, true, true, true, true, true, false, false] rfl rfl (qua HT_.out (by kernel_rfl)) (fun _ _ _ h => h) (Or.inl ⟨by rfl, ?_⟩) ?_ ?_; rotate_left
             ·intro w'
              go_simp; with_reducible rfl
             rotate_left
             ·simp only [Act.put, qb, qc, qd, i64_w, i32_w]
              rfl
             refine pure_ (i := 7) (N := some 55) (v := ?_) (a' := ?_) #[true, true, true, true, true, true, true, true, false] rfl rfl (qua HT_.out (by kernel_rfl)) (fun _ _ _ h => h) (Or.inl ⟨by rfl, ?_⟩) ?_ ?_; rotate_left
             ·intro w'
              go_simp; with_reducible rfl
             rotate_left
             ·simp only [Act.put, qb, qc, qd, i64_w, i32_w]
              rfl
             refine last_ (i := 8) (N := none) #[true, true, true, true, true, true, true, true, true] rfl rfl (qwa HT_.out (by kernel_rfl)) (by decide) (fun K hK => ?_); refine skip_ (w1 := ?_) (by rfl) rfl ?_ ?_; rotate_left
             ·go_simp
              rfl
             refine hK.out _ _ ?_; clear hK K; refine done_ (done_of HT_.out (by kernel_rfl)) ?_
             have n0_ : Aside0 (Kd.R (Kd.int .i64) 3 (w54.setCell ⟨go16, 0, none⟩ (.int .i64 (wrap64 ((rd x3_1 0) - ((rd_T59 l0_1 x4_1).f1))))) w.heap.size (fun _ => True) (.slice (some ⟨go16, 0, none⟩) x3_1.length co55) y397) := ⟨by (with_reducible repeat first | apply qx | apply qy | apply qz); exact HQ56.out⟩
             have n1_ : Aside0 ((w54.setCell ⟨go16, 0, none⟩ (.int .i64 (wrap64 ((rd x3_1 0) - ((rd_T59 l0_1 x4_1).f1))))).heap[gb383]? = some (.cells #[.int .i64 a0_0, .slice (some ad388) l0_1.length c0_1, .int .i64 a0_2] 31 (0, 0))) := ⟨by (with_reducible repeat first | apply ql | apply qn | apply qk); refine qlb ?_ (by have h_ := Kd.R_ne HO_3.out BK383.out (by decide); intro e_; exact h_ (by rw [e_]; rfl)) _; (with_reducible repeat first | apply ql | apply qn | apply qk); exact BK383.out⟩
             have n2_ : Aside0 ((w54.setCell ⟨go16, 0, none⟩ (.int .i64 (wrap64 ((rd x3_1 0) - ((rd_T59 l0_1 x4_1).f1))))).heap[gb395]? = some (.cells #[.int .i64 ((rd_T59 l0_1 x4_1).f0), .int .i64 ((rd_T59 l0_1 x4_1).f1), .int .i64 ((rd_T59 l0_1 x4_1).f2)] 59 (0, 0))) := ⟨by (with_reducible repeat first | apply ql | apply qn | apply qk); refine qlb ?_ (by have h_ := Kd.R_ne HO_3.out BK395.out (by decide); intro e_; exact h_ (by rw [e_]; rfl)) _; (with_reducible repeat first | apply ql | apply qn | apply qk); exact BK395.out⟩
             have n3_ : Aside0 (Below w.heap.size w (w54.setCell ⟨go16, 0, none⟩ (.int .i64 (wrap64 ((rd x3_1 0) - ((rd_T59 l0_1 x4_1).f1)))))) := ⟨by repeat (first | (with_reducible first | exact HB.out | apply qh | apply qe | apply qg | refine qj ?_ GB16.out | refine qj ?_ GE383.out | refine qj ?_ GE395.out) | exact HB.out)⟩
             (try clear HO_3); (try clear BK383); (try clear BK395); (try clear HB); generalize (w54.setCell ⟨go16, 0, none⟩ (.int .i64 (wrap64 ((rd x3_1 0) - ((rd_T59 l0_1 x4_1).f1))))) = w57 at n0_ n1_ n2_ n3_ ⊢; have HO_3 := n0_; have BK383 := n1_; have BK395 := n2_; have HB := n3_; clear n0_ n1_ n2_ n3_; have hcz58_0 : w57.cell? ⟨gb395, 0, none⟩ = some (.int .i64 ((rd_T59 l0_1 x4_1).f0)) := (qi BK395.out 0).trans rfl; have hcz58_1 : w57.cell? ⟨gb395, 1, none⟩ = some (.int .i64 ((rd_T59 l0_1 x4_1).f1)) := (qi BK395.out 1).trans rfl; have hcz58_2 : w57.cell? ⟨gb395, 2, none⟩ = some (.int .i64 ((rd_T59 l0_1 x4_1).f2)) := (qi BK395.out 2).trans rfl; have hfz58_0 := qo BK395.out 0; have hfz58_1 := qo BK395.out 1; have hfz58_2 := qo BK395.out 2
             have p402 : 0 ≤ (3 : Int) := (by omega)
             have q402 : 3 < (y397.length : Int) := (by have h_ : (3 : Int) < ((x3_1.length : Int) : Int) := qm (by assumption); first | (have e_ := (qgb HO_3.out).1; omega) | simpa only [Ny397.out, List.length_set] using h_)
             have ql402 : ((3 : Int) < ((x3_1.length : Int) : Int)) = True := qga (qm (by assumption)); (try have qn402 : (3 < x3_1.length) = True := qga (by have h_ : (3 : Int) < ((x3_1.length : Int) : Int) := qm (by assumption); omega)); obtain ⟨ad402, e402, hx402_0⟩ := Kd.at_int (qgb HO_3.out).2.2 3 p402 q402
             obtain rfl : (⟨go16, 0, none⟩ : Addr) = ad402 := (by injection e402)
             (first | simp only [add_plain] at hx402_0 | simp only [add_at] at hx402_0 | simp only [Addr.add, Nat.zero_add] at hx402_0 | skip)
             have qi402 : (3 < y397.length) = True := qga (by omega); (try rw [show ((3 : Int)).toNat = 3 from rfl] at hx402_0); replace p402 := qga p402; replace q402 := qga q402
             have p48 : 0 ≤ (3 : Int) := (by omega)
             have q48 : (3 : Int) < ((x3_1.length : Int) : Int) := qm (by assumption); have qi48 : (3 < x3_1.length) = True := qga (by omega); obtain ⟨hx48_0, hf48_0⟩ := Kd.R_celln 0 HO_3.out (3 : Int) p48 q48; (try rw [show ((3 : Int)).toNat = 3 from rfl] at hx48_0); (try simp only [Nat.reduceMul, Nat.zero_mul, Nat.zero_add, Nat.reduceAdd] at hx48_0); (try rw [show ((3 : Int)).toNat = 3 from rfl] at hf48_0); (try simp only [Nat.reduceMul, Nat.zero_mul, Nat.zero_add, Nat.reduceAdd] at hf48_0); replace p48 := qga p48; replace q48 := qga q48; obtain ⟨hy59_, hz59_⟩ := Kd.R_celln 0 HO_3.out (3 : Int) (by omega) (qm (by assumption)); (try simp only [Int.reduceToNat, Int.toNat_zero, Int.toNat_ofNat, Nat.reduceMul, Nat.zero_mul, Nat.zero_add] at hy59_ hz59_); (try rw [show ((3 : Int)).toNat = 3 from rfl] at hy59_); (try rw [show ((3 : Int)).toNat = 3 from rfl] at hz59_); have HP59 := Kd.R_putg HO_3.out (3 : Int) (wrap64 ((rd y397 3) + 1))
             try go_wp2_with (first | ((with_reducible refine gate_store (t := 3) (p := 61) rfl ?_); refine store_event (t := 3) (p := 61) (v := ?vo_w60) (w1 := (w57.setCell ⟨go16, (3 : Int).toNat, none⟩ (.int .i64 (wrap64 ((rd y397 3) + 1))))) ?hg ?ho ?hn ?hr ?_; (case ho => rfl); (case hg => rfl); (case hn => rfl); (case hr => first | (go_simp; done) | (go_simp; rfl)); intro w60 hw; have hg : w57.grownBy w60 (some go16) := (by rw [hw]; exact HP59.2); have hp_ : Kd.R (Kd.int .i64) 3 w60 w.heap.size (fun _ => True) (.slice (some ⟨go16, 0, none⟩) x3_1.length co55) y403 := (by rw [hw, Ny403.out]; exact HP59.1); clear HP59; have n0_ := qa (hp_); have n1_ := qa (blk_grown (g := gb383) (o := .cells #[.int .i64 a0_0, .slice (some ad388) l0_1.length c0_1, .int .i64 a0_2] 31 (0, 0)) (by (with_reducible repeat first | apply ql | apply qn | apply qk); exact BK383.out) hg (Kd.R_ne HO_3.out BK383.out (by decide))); have n2_ := qa (blk_grown (g := gb395) (o := .cells #[.int .i64 ((rd_T59 l0_1 x4_1).f0), .int .i64 ((rd_T59 l0_1 x4_1).f1), .int .i64 ((rd_T59 l0_1 x4_1).f2)] 59 (0, 0)) (by (with_reducible repeat first | apply ql | apply qn | apply qk); exact BK395.out) hg (Kd.R_ne HO_3.out BK395.out (by decide))); have n3_ := qa ((by rw [hw]; exact qj (HB.out) GB16.out : Below w.heap.size w w60)); clear HO_3; clear BK383; clear BK395; clear HB; have HO_3 := n0_; have BK383 := n1_; have BK395 := n2_; have HB := n3_; clear n0_ n1_ n2_ n3_; clear hg hw hp_))
             go_roundg k1
             case measure => have := HK1.out; omega
             case rel => exact ⟨(y403), (wrap64 (x4_1 + 1)), (by first | rfl | (simp; done) | (simp [*]; done)), H', ⟨by have := HK1.out; omega⟩, ⟨by (with_reducible repeat first | apply qx | apply qy | apply qz); exact HO_3.out⟩, ⟨by (with_reducible repeat first | apply ql | apply qn | apply qk); exact BK383.out⟩, ⟨by repeat (first | (with_reducible first | exact HB.out | apply qh | apply qe | apply qg | refine qj ?_ GE383.out | refine qj ?_ GE395.out) | exact HB.out)⟩⟩
            ·rw [if_neg c47] at H
             exact absurd H (by simp)
         ·rw [if_neg c15] at H
          exact absurd H (by simp)
        ·rw [if_neg c14] at H
         exact absurd H (by simp)
       ·rw [if_neg c13] at H
        have c13b0 : decide (x4_1 < (l0_1.length : Int)) = false := qr c13; clear c13; obtain rfl := qia H; have hcz61_0 : wr.cell? ⟨gb383, 0, none⟩ = some (.int .i64 a0_0) := (qi BK383.out 0).trans rfl; have hcz61_1 : wr.cell? ⟨gb383, 1, none⟩ = some (.slice (some ad388) l0_1.length c0_1) := (qi BK383.out 1).trans rfl; have hcz61_2 : wr.cell? ⟨gb383, 2, none⟩ = some (.int .i64 a0_2) := (qi BK383.out 2).trans rfl; have hfz61_0 := qo BK383.out 0; have hfz61_1 := qo BK383.out 1; have hfz61_2 := qo BK383.out 2; go_wp2; go_ret; exact ⟨_, by first | rfl | (simp [*] <;> rfl), by (with_reducible repeat first | apply qx | apply qy | apply qz); exact HO_3.out, by repeat (first | (with_reducible first | exact HB.out | apply qh | apply qe | apply qg | refine qj ?_ GE383.out) | exact HB.out)⟩
    ·rw [if_neg c6] at H
     exact absurd H (by simp)
   ·rw [if_neg c5] at H
    exact absurd H (by simp)
  ·rw [if_neg c4] at H
   exact absurd H (by simp)
 ·replace c3 := Bool.eq_false_iff.mpr c3
  subst c3; rw [if_neg (show ¬ (false = true) by decide)] at H; have H1 := H; clear H; have H := H1; clear H1
  obtain ⟨y385, hy385⟩ : ∃ y_ : List Int, y_ = (([] : List Int)) := ⟨_, rfl⟩
  replace H : (some y385) = some r := by first | (rw [hy385]; with_reducible exact H) | (have H2_ := (Option.bind_some _ _).symm.trans H; rw [hy385]; with_reducible exact H2_) | (have H2_ := (Option.bind_some _ _).symm.trans H; with_reducible exact H2_) | with_reducible exact H | (rw [hy385]; exact H) | exact H
  have Ny385 := qa hy385; clear hy385; obtain rfl := qia H; go_enter Tryd.func19, Tryd.ntmps19
  go_wp2_with (first | ((with_reducible refine gate_dst (N := 1) rfl ?_); refine box_event ?hg (N := 1) ?hd (cs := #[.int .i64 a0_0, .slice A0_1 l0_1.length c0_1, .int .i64 a0_2]) (t := 31) ?hr ?_; (case hd => rfl); (case hg => rfl); (case hr => first | (go_simp; done) | (go_simp; rfl)); intro gb383 hg w62 hbox hb; have n0_ := qa (qha (by repeat (first | (with_reducible first | exact HB.out | apply qh | apply qe | apply qg) | exact HB.out)) hb); have n1_ := qa (hbox); have n2_ := qa ((by rw [hg]; exact (qp (by repeat (first | (with_reducible first | exact HB.out | apply qh | apply qe | apply qg) | exact HB.out))) : w.heap.size ≤ gb383)); have n3_ := qa ((by rw [hg]; exact (qp (by repeat (first | (with_reducible first | exact HB.out | apply qh | apply qe | apply qg) | exact HB.out))) : w.heap.size ≤ gb383)); clear HB; have HB := n0_; have BK383 := n1_; have GW383 := n2_; have GE383 := n3_; clear n0_ n1_ n2_ n3_; clear hb hbox hg; have hcz63_0 : w62.cell? ⟨gb383, 0, none⟩ = some (.int .i64 a0_0) := (qi BK383.out 0).trans rfl; have hcz63_1 : w62.cell? ⟨gb383, 1, none⟩ = some (.slice A0_1 l0_1.length c0_1) := (qi BK383.out 1).trans rfl; have hcz63_2 : w62.cell? ⟨gb383, 2, none⟩ = some (.int .i64 a0_2) := (qi BK383.out 2).trans rfl; have hfz63_0 := qo BK383.out 0; have hfz63_1 := qo BK383.out 1; have hfz63_2 := qo BK383.out 2) | ((with_reducible refine qeb (f := 22) rfl ?_); refine goesL_ (some 7) rfl rfl Tryd.func22 (by kernel_rfl) rfl #[.agg #[.int .i64 a0_0, .slice A0_1 l0_1.length c0_1, .int .i64 a0_2]] rfl (by (try simp only [qs, qv, qw]); first | done | rfl | (simp only [qu, qt]; rfl)) ?_; (with_reducible refine (spec_IsFooting.calls k a0_0 _ _ l0_1 a0_2 false _ ?side1 ?side2 A2.out).mono ?_); (case side1 => repeat (first | exact (qab HR0_1.out HB.out) | (with_reducible first | apply qka | apply qla | apply qma))); (case side2 => exact HC0_1.out); rintro e w64 ⟨rfl, hb⟩; refine ⟨_, rfl, ?_⟩; have n0_ := qa (qja (g := gb383) (o := .cells #[.int .i64 a0_0, .slice A0_1 l0_1.length c0_1, .int .i64 a0_2] 31 (0, 0)) (by (with_reducible repeat first | apply ql | apply qn | apply qk); exact BK383.out) hb); have n1_ := qa (qha (by repeat (first | (with_reducible first | exact HB.out | apply qh | apply qe | apply qg | refine qj ?_ GE383.out) | exact HB.out)) hb); clear BK383; clear HB; have BK383 := n0_; have HB := n1_; clear n0_ n1_; (try clear hb); (try clear hb2); (try clear hk); (try clear hi)) | ((with_reducible refine gate_dst (N := 9) rfl ?_); refine qcc (Kd.int .i64) _ 3 ?hg (N := 9) ?hd (xs := ([] : List Int)) (inner := []) (ok := fun _ => True) (okp := fun _ => True) ?hr ?hp (fun _ hk => hk) trivial (qsb _ _) (qqb _) (by simp) ?_; (case hd => rfl); (case hg => rfl); (case hr => first | (go_simp; done) | (go_simp; rfl)); (case hp => exact (Reps.none _ _)); intro v386 w65 ho66 hb hg_ hnew_; clear hg_ hnew_; (first | rw [← Ny385.out] at ho66 | (simp only [Int.reduceToNat] at ho66; rw [← Ny385.out] at ho66)); have n0_ := qa (qvb ho66 (qp (by repeat (first | (with_reducible first | exact HB.out | apply qh | apply qe | apply qg | refine qj ?_ GE383.out) | exact HB.out)))); have n1_ := qa (qja (g := gb383) (o := .cells #[.int .i64 a0_0, .slice A0_1 l0_1.length c0_1, .int .i64 a0_2] 31 (0, 0)) (by (with_reducible repeat first | apply ql | apply qn | apply qk); exact BK383.out) hb); have n2_ := qa (qha (by repeat (first | (with_reducible first | exact HB.out | apply qh | apply qe | apply qg | refine qj ?_ GE383.out) | exact HB.out)) hb); clear BK383; clear HB; have HO387 := n0_; have BK383 := n1_; have HB := n2_; clear n0_ n1_ n2_; clear hb ho66))
  go_ret; exact ⟨_, by first | rfl | (simp [*] <;> rfl), by (with_reducible repeat first | apply qx | apply qy | apply qz); exact HO387.out, by repeat (first | (with_reducible first | exact HB.out | apply qh | apply qe | apply qg | refine qj ?_ GE383.out) | exact HB.out)⟩
end Go.Proofs.YtkjpbhncgjhfeaaDoor.PFnFeet
