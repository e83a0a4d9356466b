import Derived.Test.YtkjpbhncgjhfeaaDoorPFnFeetx0
import Derived.Test.YtkjpbhncgjhfeaaDoorPFnFeetx2
namespace Go.Proofs.YtkjpbhncgjhfeaaDoor.PFnFeet
open Go.RowKit Go.Proofs.YtkjpbhncgjhfeaaDoorW.PrintWords Go.Proofs.YtkjpbhncgjhfeaaDoorW.PrintLast Go.Proofs.YtkjpbhncgjhfeaaDoorW.PrintMore
attribute [local go_sem] max2_int min2_int max_two min_two max_three min_three max_four min_four
set_option linter.unusedVariables false
set_option linter.unusedSimpArgs false
set_option maxHeartbeats 8000000
set_option maxRecDepth 100000
def spec_StressesOf.l0 : Nat → List Int → Int → Int → List (S59) → Int → Option (List Int)
 | 0, _, _, _, _, _ => none
 | k + 1, x3, x4, x109000, x109001, x109002 => if x4 < (x109001.length : Int) then (if 0 ≤ x4 then (if 0 ≤ (wrap64 (((rd_T59 x109001 x4).f0) + ((rd_T59 x109001 x4).f2))) then (if (wrap64 (((rd_T59 x109001 x4).f0) + ((rd_T59 x109001 x4).f2))) < (x3.length : Int) then ((some (x3.set ((wrap64 (((rd_T59 x109001 x4).f0) + ((rd_T59 x109001 x4).f2))) : Int).toNat 1 : List Int)).bind fun y118 => (if x4 = x109002 then (spec_StressesOf.l0 k (y118.set ((wrap64 (((rd_T59 x109001 x4).f0) + ((rd_T59 x109001 x4).f2))) : Int).toNat 2) (wrap64 (x4 + 1)) x109000 x109001 x109002) else (spec_StressesOf.l0 k y118 (wrap64 (x4 + 1)) x109000 x109001 x109002))) else (none)) else (none)) else (none)) else (some x3)
def spec_StressesOf.f (k : Nat) (a0_0 : Int) (l0_1 : List (S59)) (a0_2 : Int) : Option (List Int) := (spec_IsFooting.f k a0_0 l0_1 a0_2).bind fun t109 => (if t109 = true then (if 0 ≤ a0_0 then (if (a0_0 : Int).toNat ≤ 35184372088832 then (spec_StressesOf.l0 k (List.replicate (a0_0 : Int).toNat 0) 0 a0_0 l0_1 a0_2) else (none)) else (none)) else (some (([] : List Int))))
theorem spec_StressesOf.mono_l : ∀ k, (∀ y0 y1 y2 y3 y4, LeO (spec_StressesOf.l0 k y0 y1 y2 y3 y4) (spec_StressesOf.l0 (k + 1) y0 y1 y2 y3 y4))
 | 0 => fun _ _ _ _ _ r h => by simp [spec_StressesOf.l0] at h
 | k + 1 => by
  have ih0 := spec_StressesOf.mono_l k
  ·intro y0 y1 y2 y3 y4
   unfold spec_StressesOf.l0
   repeat' first
   | (with_reducible exact ih0 _ _ _ _ _)
   | (with_reducible exact spec_IsFooting.mono _ _ _ _)
   | (with_reducible exact LeO.refl _)
   | (with_reducible exact LeO.none _)
   | (with_reducible refine LeO.ite ?_ ?_)
   | (with_reducible refine LeO.bind ?_ (fun _ => ?_))
   | exact ih0 _ _ _ _ _
   | exact spec_IsFooting.mono _ _ _ _
   | exact LeO.none _
   | refine LeO.ite ?_ ?_
   | refine LeO.bind ?_ (fun _ => ?_)
theorem spec_StressesOf.mono : ∀ a0 a1 a2 k, LeO (spec_StressesOf.f k a0 a1 a2) (spec_StressesOf.f (k + 1) a0 a1 a2) := by
 intro a0 a1 a2 k; have ih0 := spec_StressesOf.mono_l k; unfold spec_StressesOf.f
 repeat' first
   | (with_reducible exact ih0 _ _ _ _ _)
   | (with_reducible exact spec_IsFooting.mono _ _ _ _)
   | (with_reducible exact LeO.refl _)
   | (with_reducible exact LeO.none _)
   | (with_reducible refine LeO.ite ?_ ?_)
   | (with_reducible refine LeO.bind ?_ (fun _ => ?_))
   | exact ih0 _ _ _ _ _
   | exact spec_IsFooting.mono _ _ _ _
   | exact LeO.none _
   | refine LeO.ite ?_ ?_
   | refine LeO.bind ?_ (fun _ => ?_)
def spec_StressesOf.T7 : Bool × List (List Nat × List Nat) := (true, [([], []), ([], []), ([1], [1]), ([], []), ([2, 3], [2, 3]), ([4], [4]), ([5], [5]), ([], []), ([7], [7]), ([], []), ([8, 9], [8, 9]), ([10], [10]), ([11], [11]), ([6, 12], [6, 12]), ([0, 13, 0, 1, 2, 3, 4, 5, 6, 7, 8, 9, 10, 11, 12, 13], [0, 13]), ([14, 0, 1, 2, 3, 4, 5, 6, 7, 8, 9, 10, 11, 12, 13], [14])])
def spec_StressesOf.B7 : List Nat := [0, 0, 2, 0, 14, 30, 62, 0, 128, 0, 896, 1920, 3968, 8190, 16383, 32767]
theorem spec_StressesOf.tab7 : rtab .any (opsOf Tryd.f23 7) = spec_StressesOf.T7 := by kernel_rfl
theorem spec_StressesOf.bits7 : waitsOk spec_StressesOf.T7.2 spec_StressesOf.B7 = true := by kernel_rfl
def spec_StressesOf.T9 : Bool × List (List Nat × List Nat) := (true, [([], []), ([], []), ([1], [1]), ([], []), ([2, 3], [2, 3]), ([4], [4]), ([5], [5]), ([], []), ([7], [7]), ([], []), ([8, 9], [8, 9]), ([10], [10]), ([11], [11]), ([6, 12], [6, 12]), ([0, 13, 0, 1, 2, 3, 4, 5, 6, 7, 8, 9, 10, 11, 12, 13], [0, 13]), ([14, 0, 1, 2, 3, 4, 5, 6, 7, 8, 9, 10, 11, 12, 13], [14])])
def spec_StressesOf.B9 : List Nat := [0, 0, 2, 0, 14, 30, 62, 0, 128, 0, 896, 1920, 3968, 8190, 16383, 32767]
theorem spec_StressesOf.tab9 : rtab .any (opsOf Tryd.f23 9) = spec_StressesOf.T9 := by kernel_rfl
theorem spec_StressesOf.bits9 : waitsOk spec_StressesOf.T9.2 spec_StressesOf.B9 = true := by kernel_rfl
theorem spec_StressesOf.calls (k : Nat) (a0_0 : Int) (A0_1 : Option Addr) (c0_1 : Nat) (l0_1 : List (S59)) (a0_2 : Int) (r : List Int) (w : World) (hr0_1 : Kd.C k59 w A0_1 l0_1.length l0_1) (hc0_1 : l0_1.length ≤ c0_1) (h : spec_StressesOf.f k a0_0 l0_1 a0_2 = some r) :
  Calls Tryd.prog 23 #[.agg #[.int .i64 a0_0, .slice A0_1 l0_1.length c0_1, .int .i64 a0_2]] w fun e w' => ∃ v0_ : Value, e = .returned (v0_) ∧ Kd.R (Kd.int .i64) 3 w' w.heap.size (fun _ => True) v0_ r ∧ Below w.heap.size w w' := by
 have hu31 := Tryd.underlying31; have HR0_1 := qa hr0_1; have HC0_1 := qa hc0_1; clear hr0_1 hc0_1; have HB := qa (qsb w.heap.size w); have H := h; unfold spec_StressesOf.f at H; clear h; obtain ⟨t109, A20, H⟩ := zb H; (try dsimp only at H); have A2 := qa A20; clear A20
 by_cases c3 : t109 = true
 ·subst c3
  rw [if_pos rfl] at H; have H1 := H; clear H; have H := H1; clear H1
  by_cases c4 : 0 ≤ a0_0
  ·rw [if_pos c4] at H
   have c4b0 := qga c4; have c4b1 : decide (0 ≤ a0_0) = true := qq c4; clear c4
   by_cases c5 : (a0_0 : Int).toNat ≤ 35184372088832
   ·rw [if_pos c5] at H
    have c5b0 := qga c5; have c5b1 : decide ((a0_0 : Int).toNat ≤ 35184372088832) = true := qq c5; clear c5
    obtain ⟨y113, hy113⟩ : ∃ y_ : List Int, y_ = (List.replicate (a0_0 : Int).toNat 0) := ⟨_, rfl⟩
    replace H : (spec_StressesOf.l0 k y113 0 a0_0 l0_1 a0_2) = some r := by first | (rw [hy113]; with_reducible exact H) | (have H2_ := (Option.bind_some _ _).symm.trans H; rw [hy113]; with_reducible exact H2_) | (have H2_ := (Option.bind_some _ _).symm.trans H; with_reducible exact H2_) | with_reducible exact H | (rw [hy113]; exact H) | exact H
    have Ny113 := qa hy113; clear hy113; have H' := qa H; clear H; go_enter Tryd.func23, Tryd.ntmps23
    go_wp2_with (first | ((with_reducible refine gate_dst (N := 1) rfl ?_); refine box_event ?hg (N := 1) ?hd (cs := #[.int .i64 a0_0, .slice A0_1 l0_1.length c0_1, .int .i64 a0_2]) (t := 31) ?hr ?_; (case hd => rfl); (case hg => rfl); (case hr => first | (go_simp; done) | (go_simp; rfl)); intro gb108 hg w6 hbox hb; have n0_ := qa (qha (by repeat (first | (with_reducible first | exact HB.out | apply qh | apply qe | apply qg) | exact HB.out)) hb); have n1_ := qa (hbox); have n2_ := qa ((by rw [hg]; exact (qp (by repeat (first | (with_reducible first | exact HB.out | apply qh | apply qe | apply qg) | exact HB.out))) : w.heap.size ≤ gb108)); have n3_ := qa ((by rw [hg]; exact (qp (by repeat (first | (with_reducible first | exact HB.out | apply qh | apply qe | apply qg) | exact HB.out))) : w.heap.size ≤ gb108)); clear HB; have HB := n0_; have BK108 := n1_; have GW108 := n2_; have GE108 := n3_; clear n0_ n1_ n2_ n3_; clear hb hbox hg; have hcz7_0 : w6.cell? ⟨gb108, 0, none⟩ = some (.int .i64 a0_0) := (qi BK108.out 0).trans rfl; have hcz7_1 : w6.cell? ⟨gb108, 1, none⟩ = some (.slice A0_1 l0_1.length c0_1) := (qi BK108.out 1).trans rfl; have hcz7_2 : w6.cell? ⟨gb108, 2, none⟩ = some (.int .i64 a0_2) := (qi BK108.out 2).trans rfl; have hfz7_0 := qo BK108.out 0; have hfz7_1 := qo BK108.out 1; have hfz7_2 := qo BK108.out 2) | ((with_reducible refine qeb (f := 22) rfl ?_); refine goesL_ (some 6) rfl rfl Tryd.func22 (by kernel_rfl) rfl #[.agg #[.int .i64 a0_0, .slice A0_1 l0_1.length c0_1, .int .i64 a0_2]] rfl (by (try simp only [qs, qv, qw]); first | done | rfl | (simp only [qu, qt]; rfl)) ?_; (with_reducible refine (spec_IsFooting.calls k a0_0 _ _ l0_1 a0_2 true _ ?side1 ?side2 A2.out).mono ?_); (case side1 => repeat (first | exact (qab HR0_1.out HB.out) | (with_reducible first | apply qka | apply qla | apply qma))); (case side2 => exact HC0_1.out); rintro e w8 ⟨rfl, hb⟩; refine ⟨_, rfl, ?_⟩; have n0_ := qa (qja (g := gb108) (o := .cells #[.int .i64 a0_0, .slice A0_1 l0_1.length c0_1, .int .i64 a0_2] 31 (0, 0)) (by (with_reducible repeat first | apply ql | apply qn | apply qk); exact BK108.out) hb); have n1_ := qa (qha (by repeat (first | (with_reducible first | exact HB.out | apply qh | apply qe | apply qg | refine qj ?_ GE108.out) | exact HB.out)) hb); clear BK108; clear HB; have BK108 := n0_; have HB := n1_; clear n0_ n1_; (try clear hb); (try clear hb2); (try clear hk); (try clear hi); have hcz9_0 : w8.cell? ⟨gb108, 0, none⟩ = some (.int .i64 a0_0) := (qi BK108.out 0).trans rfl; have hcz9_1 : w8.cell? ⟨gb108, 1, none⟩ = some (.slice A0_1 l0_1.length c0_1) := (qi BK108.out 1).trans rfl; have hcz9_2 : w8.cell? ⟨gb108, 2, none⟩ = some (.int .i64 a0_2) := (qi BK108.out 2).trans rfl; have hfz9_0 := qo BK108.out 0; have hfz9_1 := qo BK108.out 1; have hfz9_2 := qo BK108.out 2) | ((with_reducible refine gate_dst (N := 11) rfl ?_); refine Kd.R_make (Kd.int .i64) _ 3 rfl (N := 11) rfl 24 _ _ rfl a0_0 rfl rfl Tryd.underlying24 (.int .i64 0) 8 info3 rfl (by decide) (by omega) 0 (ok := fun _ => True) (okp := fun _ => True) rfl (fun _ hk => hk) trivial (qm (by assumption)) (qrb (Nat.mul_le_mul_right _ (qm (by assumption) : a0_0.toNat ≤ 35184372088832)) (by omega)) (qsb _ _) (qqb _) ?_; intro v114 w10 ho11 hb hg_ hnew_; clear hg_ hnew_; (first | rw [← Ny113.out] at ho11 | (simp only [Int.reduceToNat] at ho11; rw [← Ny113.out] at ho11)); have n0_ := qa (qvb ho11 (qp (by repeat (first | (with_reducible first | exact HB.out | apply qh | apply qe | apply qg | refine qj ?_ GE108.out) | exact HB.out)))); have n1_ := qa (qja (g := gb108) (o := .cells #[.int .i64 a0_0, .slice A0_1 l0_1.length c0_1, .int .i64 a0_2] 31 (0, 0)) (by (with_reducible repeat first | apply ql | apply qn | apply qk); exact BK108.out) hb); have n2_ := qa (qha (by repeat (first | (with_reducible first | exact HB.out | apply qh | apply qe | apply qg | refine qj ?_ GE108.out) | exact HB.out)) hb); clear BK108; clear HB; have HO115 := n0_; have BK108 := n1_; have HB := n2_; clear n0_ n1_ n2_; clear hb ho11))
    go_loopg [4] k (fun kq v4 w' => ∃ (x3_1 : List Int) (x4_1 : Int), v4 = .int .i64 x4_1 ∧ Aside0 (spec_StressesOf.l0 kq x3_1 x4_1 a0_0 l0_1 a0_2 = some r) ∧ Aside0 (kq ≤ k) ∧ Aside0 (Kd.R (Kd.int .i64) 3 w' w.heap.size (fun _ => True) v114 x3_1) ∧ Aside0 (w'.heap[gb108]? = some (.cells #[.int .i64 a0_0, (.slice A0_1 l0_1.length c0_1), .int .i64 a0_2] 31 (0, 0))) ∧ Aside0 (Below w.heap.size w w'))
    case atStart => exact ⟨(y113), (0), (by first | rfl | (simp; done) | (simp [*]; done)), H', ⟨qqb _⟩, ⟨by (with_reducible repeat first | apply qx | apply qy | apply qz); exact HO115.out⟩, ⟨by (with_reducible repeat first | apply ql | apply qn | apply qk); exact BK108.out⟩, ⟨by repeat (first | (with_reducible first | exact HB.out | apply qh | apply qe | apply qg | refine qj ?_ GE108.out) | exact HB.out)⟩⟩
    case round =>
     clear H'; (try clear c2); (try clear p2); (try clear c3); (try clear c4); (try clear c4b0); (try clear c4b1); (try clear c5); (try clear c5b0); (try clear c5b1); (try clear hcz7_0); (try clear hcz7_1); (try clear hcz7_2); (try clear hcz9_0); (try clear hcz9_1); (try clear hcz9_2); (try clear hfz7_0); (try clear hfz7_1); (try clear hfz7_2); (try clear hfz9_0); (try clear hfz9_1); (try clear hfz9_2); obtain ⟨x3_1, x4_1, rfl, HA, HK1, HO_3, BK108, HB⟩ := hrel
     cases gk with
     | zero => exact absurd HA.out (by simp [spec_StressesOf.l0])
     | succ k1 =>
      have H := HA.out; clear HA; simp only [spec_StressesOf.l0] at H
      by_cases c12 : x4_1 < (l0_1.length : Int)
      ·rw [if_pos c12] at H
       have c12b0 : decide (x4_1 < (l0_1.length : Int)) = true := qq c12; clear c12
       by_cases c13 : 0 ≤ x4_1
       ·rw [if_pos c13] at H
        have c13b0 : decide (0 ≤ x4_1) = true := qq c13; clear c13
        obtain ⟨ji14, hji14⟩ : ∃ j_ : Int, (wrap64 (((rd_T59 l0_1 x4_1).f0) + ((rd_T59 l0_1 x4_1).f2))) = j_ := ⟨_, rfl⟩
        replace H : (if 0 ≤ (ji14) then (if (ji14) < (x3_1.length : Int) then ((some (x3_1.set ((ji14) : Int).toNat 1 : List Int)).bind fun y118 => (if x4_1 = a0_2 then (spec_StressesOf.l0 k1 (y118.set ((ji14) : Int).toNat 2) (wrap64 (x4_1 + 1)) a0_0 l0_1 a0_2) else (spec_StressesOf.l0 k1 y118 (wrap64 (x4_1 + 1)) a0_0 l0_1 a0_2))) else (none)) else (none)) = some r := by first | (rw [hji14] at H; exact H) | (simp only [hji14] at H ⊢; exact H)
        have hji14w : (IntKind.i64.wrap (((rd_T59 l0_1 x4_1).f0) + ((rd_T59 l0_1 x4_1).f2))) = ji14 := (i64_w _).trans hji14
        by_cases c15 : 0 ≤ (ji14)
        ·rw [if_pos c15] at H
         have c15b0 : decide (0 ≤ (ji14)) = true := qq c15; clear c15
         by_cases c16 : (ji14) < (x3_1.length : Int)
         ·rw [if_pos c16] at H
          have c16b0 : decide ((ji14) < (x3_1.length : Int)) = true := qq c16; clear c16
          obtain ⟨y118, hy118⟩ : ∃ y_ : List Int, y_ = (x3_1.set ((ji14) : Int).toNat 1) := ⟨_, rfl⟩
          replace H : (if x4_1 = a0_2 then (spec_StressesOf.l0 k1 (y118.set ((ji14) : Int).toNat 2) (wrap64 (x4_1 + 1)) a0_0 l0_1 a0_2) else (spec_StressesOf.l0 k1 y118 (wrap64 (x4_1 + 1)) a0_0 l0_1 a0_2)) = some r := by first | (rw [hy118]; with_reducible exact H) | (have H2_ := (Option.bind_some _ _).symm.trans H; rw [hy118]; with_reducible exact H2_) | (have H2_ := (Option.bind_some _ _).symm.trans H; with_reducible exact H2_) | with_reducible exact H | (rw [hy118]; exact H) | exact H
          have Ny118 := qa hy118; clear hy118
          by_cases c18 : x4_1 = a0_2
          ·rw [if_pos c18] at H
           have c18b0 : (x4_1 == a0_2) = true := ze c18; have c18b1 : (x4_1 != a0_2) = false := zc c18; clear c18
           obtain ⟨y121, hy121⟩ : ∃ y_ : List Int, y_ = (y118.set ((ji14) : Int).toNat 2) := ⟨_, rfl⟩
           replace H : (spec_StressesOf.l0 k1 y121 (wrap64 (x4_1 + 1)) a0_0 l0_1 a0_2) = some r := by first | (rw [hy121]; with_reducible exact H) | (have H2_ := (Option.bind_some _ _).symm.trans H; rw [hy121]; with_reducible exact H2_) | (have H2_ := (Option.bind_some _ _).symm.trans H; with_reducible exact H2_) | with_reducible exact H | (rw [hy121]; exact H) | exact H
           have Ny121 := qa hy121; clear hy121; have H' := qa H; clear H; have hcz20_0 : wr.cell? ⟨gb108, 0, none⟩ = some (.int .i64 a0_0) := (qi BK108.out 0).trans rfl; have hcz20_1 : wr.cell? ⟨gb108, 1, none⟩ = some (.slice A0_1 l0_1.length c0_1) := (qi BK108.out 1).trans rfl; have hcz20_2 : wr.cell? ⟨gb108, 2, none⟩ = some (.int .i64 a0_2) := (qi BK108.out 2).trans rfl; have hfz20_0 := qo BK108.out 0; have hfz20_1 := qo BK108.out 1; have hfz20_2 := qo BK108.out 2
           try go_wp2
           have n0_ := qa (qz HO_3.out); have n1_ := qa (qn BK108.out); have n2_ := qa (qg HB.out); clear HO_3 BK108 HB; have HO_3 := n0_; have BK108 := n1_; have HB := n2_; clear n0_ n1_ n2_; have p116 : 0 ≤ (x4_1 : Int) := qm (by assumption); have q116 : x4_1 < (l0_1.length : Int) := qm (by assumption); obtain ⟨ad116, e116, hx116_0, hx116_1, hx116_2⟩ := at_T59 HR0_1.out x4_1 p116 q116; have hw116_2 := hx116_2; have hw116_1 := hx116_1; have hw116_0 := hx116_0; cases e116; replace hx116_0 := (HB.out.cell (qf w _ hx116_0)).trans hx116_0; replace hx116_1 := (HB.out.cell (qf w _ hx116_1)).trans hx116_1; replace hx116_2 := (HB.out.cell (qf w _ hx116_2)).trans hx116_2; replace p116 := qga p116; replace q116 := qga q116; have p117 : 0 ≤ (x4_1 : Int) := qm (by assumption); have q117 : x4_1 < (l0_1.length : Int) := qm (by assumption); obtain ⟨ad117, e117, hx117_0, hx117_1, hx117_2⟩ := at_T59 HR0_1.out x4_1 p117 q117; have hw117_2 := hx117_2; have hw117_1 := hx117_1; have hw117_0 := hx117_0
           obtain rfl : ad116 = ad117 := (by injection e117)
           replace hx117_0 := (HB.out.cell (qf w _ hx117_0)).trans hx117_0; replace hx117_1 := (HB.out.cell (qf w _ hx117_1)).trans hx117_1; replace hx117_2 := (HB.out.cell (qf w _ hx117_2)).trans hx117_2; replace p117 := qga p117; replace q117 := qga q117; have p17 : 0 ≤ ((ji14) : Int) := qm (by assumption); have q17 : ((ji14) : Int) < ((x3_1.length : Int) : Int) := qm (by assumption); obtain ⟨go17, co17, eo17, gb17, gl17, cl17, HG17⟩ := Kd.R_form HO_3.out (by omega)
           (first | cases eo17 | (injection eo17 with ea_ en_ ec_; (first | subst ea_ | (injection ea_ with ea_; subst ea_)); subst ec_; clear en_))
           have GB17 := qa gb17; have GG17 := qa HG17; clear gb17 gl17 HG17; obtain ⟨hx17_0, hf17_0⟩ := Kd.R_celln 0 HO_3.out ((ji14) : Int) p17 q17; replace p17 := qga p17; replace q17 := qga q17; have HP22 := Kd.R_putn HO_3.out ((ji14) : Int) 1; rw [← Ny118.out] at HP22; have HQ22 := qa HP22; clear HP22; refine start_ (n := 16) (S := fun w' => w'.cell? ⟨gb108, 0, none⟩ = some (.int .i64 a0_0) ∧ w'.cell? ⟨gb108, 1, none⟩ = some (.slice (some ad116) l0_1.length c0_1) ∧ w'.cell? ⟨gb108, 2, none⟩ = some (.int .i64 a0_2) ∧ w'.cell? (ad116.add ((x4_1).toNat * 3)) = some (.int .i64 ((rd_T59 l0_1 x4_1).f0)) ∧ w'.cell? ⟨(ad116.add ((x4_1).toNat * 3)).block, (ad116.add ((x4_1).toNat * 3)).off + 1, none⟩ = some (.int .i64 ((rd_T59 l0_1 x4_1).f1)) ∧ w'.cell? ⟨(ad116.add ((x4_1).toNat * 3)).block, (ad116.add ((x4_1).toNat * 3)).off + 2, none⟩ = some (.int .i64 ((rd_T59 l0_1 x4_1).f2)) ∧ w'.cell? (ad116.add ((x4_1).toNat * 3)) = some (.int .i64 ((rd_T59 l0_1 x4_1).f0)) ∧ w'.cell? ⟨(ad116.add ((x4_1).toNat * 3)).block, (ad116.add ((x4_1).toNat * 3)).off + 1, none⟩ = some (.int .i64 ((rd_T59 l0_1 x4_1).f1)) ∧ w'.cell? ⟨(ad116.add ((x4_1).toNat * 3)).block, (ad116.add ((x4_1).toNat * 3)).off + 2, none⟩ = some (.int .i64 ((rd_T59 l0_1 x4_1).f2))) (ds := [15]) #[false, false, false, false, false, false, false, false, false, false, false, false, false, false, false, false] (by kernel_rfl) rfl rfl ⟨(qi BK108.out 0).trans rfl, (qi BK108.out 1).trans rfl, (qi BK108.out 2).trans rfl, ((HB.out.cell (qf w _ hw116_0)).trans hw116_0), ((HB.out.cell (qf w _ hw116_1)).trans hw116_1), ((HB.out.cell (qf w _ hw116_2)).trans hw116_2), ((HB.out.cell (qf w _ hw117_0)).trans hw117_0), ((HB.out.cell (qf w _ hw117_1)).trans hw117_1), ((HB.out.cell (qf w _ hw117_2)).trans hw117_2)⟩ (fun hHeld => ?_); refine with_tabW spec_StressesOf.tab7 spec_StressesOf.bits7 (fun HT_ HW_ => ?_); generalize wr.drew = w21 at HO_3 BK108 HB GG17 HQ22 hf17_0 hx116_0 hx116_1 hx116_2 hx117_0 hx117_1 hx117_2 hx17_0 hHeld ⊢; refine pure_ (i := 0) (N := some 19) (v := ?_) (a' := ?_) #[true, false, false, false, false, false, false, false, false, false, false, false, false, false, false, false] rfl rfl (qua HT_.out (by kernel_rfl)) (fun _ _ _ h => h) (Or.inl ⟨by rfl, ?_⟩) ?_ ?_; rotate_left
           ·intro w'
            go_simp; with_reducible rfl
           rotate_left
           ·simp only [Act.put, qb, qc, qd, i64_w, i32_w]
            rfl
           refine pure_ (i := 1) (N := some 20) (v := ?_) (a' := ?_) #[true, true, false, false, false, false, false, false, false, false, false, false, false, false, false, false] rfl rfl (qua HT_.out (by kernel_rfl)) (fun _ _ _ h => h) (Or.inl ⟨by rfl, ?_⟩) ?_ ?_; rotate_left
           ·intro w'
            go_simp; with_reducible rfl
           rotate_left
           ·simp only [Act.put, qb, qc, qd, i64_w, i32_w]
            rfl
           refine pure_ (i := 3) (N := some 22) (v := ?_) (a' := ?_) #[true, true, false, true, false, false, false, false, false, false, false, false, false, false, false, false] rfl rfl (qua HT_.out (by kernel_rfl)) (fun _ _ _ h => h) (Or.inl ⟨by rfl, ?_⟩) ?_ ?_; rotate_left
           ·intro w'
            go_simp; with_reducible rfl
           rotate_left
           ·simp only [Act.put, qb, qc, qd, i64_w, i32_w]
            rfl
           refine pure_ (i := 7) (N := some 26) (v := ?_) (a' := ?_) #[true, true, false, true, false, false, false, true, false, false, false, false, false, false, false, false] rfl rfl (qua HT_.out (by kernel_rfl)) (fun _ _ _ h => h) (Or.inl ⟨by rfl, ?_⟩) ?_ ?_; rotate_left
           ·intro w'
            go_simp; with_reducible rfl
           rotate_left
           ·simp only [Act.put, qb, qc, qd, i64_w, i32_w]
            rfl
           refine pure_ (i := 9) (N := some 28) (v := ?_) (a' := ?_) #[true, true, false, true, false, false, false, true, false, true, false, false, false, false, false, false] rfl rfl (qua HT_.out (by kernel_rfl)) (fun _ _ _ h => h) (Or.inl ⟨by rfl, ?_⟩) ?_ ?_; rotate_left
           ·intro w'
            go_simp; with_reducible rfl
           rotate_left
           ·simp only [Act.put, qb, qc, qd, i64_w, i32_w]
            rfl
           refine take_ (i := 2) (N := some 21) (v := ?_) (a' := ?_) #[true, true, true, true, false, false, false, true, false, true, false, false, false, false, false, false] rfl rfl (qva HT_.out HW_.out (by kernel_rfl)) (fun _ _ _ h => h) (Or.inl ⟨by rfl, ?_⟩) hHeld ?_ ?_; rotate_left
           ·rintro w' ⟨s0, s1, s2, s3, s4, s5, s6, s7, s8⟩
            go_simp; with_reducible rfl
           rotate_left
           ·simp only [Act.put, qb, qc, qd, i64_w, i32_w]
            rfl
           refine pure_ (i := 4) (N := some 23) (v := ?_) (a' := ?_) #[true, true, true, true, true, false, false, true, false, true, false, false, false, false, false, false] rfl rfl (qua HT_.out (by kernel_rfl)) (fun _ _ _ h => h) (Or.inl ⟨by rfl, ?_⟩) ?_ ?_; rotate_left
           ·intro w'
            go_simp; with_reducible rfl
           rotate_left
           ·simp only [Act.put, qb, qc, qd, i64_w, i32_w]
            rfl
           refine pure_ (i := 5) (N := some 24) (v := ?_) (a' := ?_) #[true, true, true, true, true, true, false, true, false, true, false, false, false, false, false, false] rfl rfl (qua HT_.out (by kernel_rfl)) (fun _ _ _ h => h) (Or.inl ⟨by rfl, ?_⟩) ?_ ?_; rotate_left
           ·intro w'
            go_simp; with_reducible rfl
           rotate_left
           ·simp only [Act.put, qb, qc, qd, i64_w, i32_w]
            rfl
           refine take_ (i := 6) (N := some 25) (v := ?_) (a' := ?_) #[true, true, true, true, true, true, true, true, false, true, false, false, false, false, false, false] rfl rfl (qva HT_.out HW_.out (by kernel_rfl)) (fun _ _ _ h => h) (Or.inl ⟨by rfl, ?_⟩) hHeld ?_ ?_; rotate_left
           ·rintro w' ⟨s0, s1, s2, s3, s4, s5, s6, s7, s8⟩
            go_simp; with_reducible rfl
           rotate_left
           ·simp only [Act.put, qb, qc, qd, i64_w, i32_w]
            rfl
           refine take_ (i := 8) (N := some 27) (v := ?_) (a' := ?_) #[true, true, true, true, true, true, true, true, true, true, false, false, false, false, false, false] rfl rfl (qva HT_.out HW_.out (by kernel_rfl)) (fun _ _ _ h => h) (Or.inl ⟨by rfl, ?_⟩) hHeld ?_ ?_; rotate_left
           ·rintro w' ⟨s0, s1, s2, s3, s4, s5, s6, s7, s8⟩
            go_simp; with_reducible rfl
           rotate_left
           ·simp only [Act.put, qb, qc, qd, i64_w, i32_w]
            rfl
           refine pure_ (i := 10) (N := some 29) (v := ?_) (a' := ?_) #[true, true, true, true, true, true, true, true, true, true, true, false, false, false, false, false] rfl rfl (qua HT_.out (by kernel_rfl)) (fun _ _ _ h => h) (Or.inl ⟨by rfl, ?_⟩) ?_ ?_; rotate_left
           ·intro w'
            go_simp; with_reducible rfl
           rotate_left
           ·simp only [Act.put, qb, qc, qd, i64_w, i32_w]
            rfl
           refine pure_ (i := 11) (N := some 30) (v := ?_) (a' := ?_) #[true, true, true, true, true, true, true, true, true, true, true, true, false, false, false, false] rfl rfl (qua HT_.out (by kernel_rfl)) (fun _ _ _ h => h) (Or.inl ⟨by rfl, ?_⟩) ?_ ?_; rotate_left
           ·intro w'
            go_simp; with_reducible rfl
           rotate_left
           ·simp only [Act.put, qb, qc, qd, i64_w, i32_w]
            rfl
           refine take_ (i := 12) (N := some 31) (v := ?_) (a' := ?_) #[true, true, true, true, true, true, true, true, true, true, true, true, true, false, false, false] rfl rfl (qva HT_.out HW_.out (by kernel_rfl)) (fun _ _ _ h => h) (Or.inl ⟨by rfl, ?_⟩) hHeld ?_ ?_; rotate_left
           ·rintro w' ⟨s0, s1, s2, s3, s4, s5, s6, s7, s8⟩
            go_simp; with_reducible rfl
           rotate_left
           ·simp only [Act.put, qb, qc, qd, i64_w, i32_w]
            rfl
           refine pure_ (i := 13) (N := some 32) (v := ?_) (a' := ?_) #[true, true, true, true, true, true, true, true, true, true, true, true, true, true, false, false] rfl rfl (qua HT_.out (by kernel_rfl)) (fun _ _ _ h => h) (Or.inl ⟨by rfl, ?_⟩) ?_ ?_; rotate_left
           ·intro w'
            go_simp; with_reducible rfl
           rotate_left
           ·simp only [Act.put, qb, qc, qd, i64_w, i32_w]
            rfl
           refine pure_ (i := 14) (N := some 33) (v := ?_) (a' := ?_) #[true, true, true, true, true, true, true, true, true, true, true, true, true, true, true, false] rfl rfl (qua HT_.out (by kernel_rfl)) (fun _ _ _ h => h) (Or.inl ⟨by rfl, ?_⟩) ?_ ?_; rotate_left
           ·intro w'
            go_simp; with_reducible rfl
           rotate_left
           ·simp only [Act.put, qb, qc, qd, i64_w, i32_w]
            rfl
           refine last_ (i := 15) (N := none) #[true, true, true, true, true, true, true, true, true, true, true, true, true, true, true, true] rfl rfl (qwa HT_.out (by kernel_rfl)) (by decide) (fun K hK => ?_); refine skip_ (w1 := ?_) (by rfl) rfl ?_ ?_; rotate_left
           ·go_simp
            rfl
           refine hK.out _ _ ?_; clear hK K; refine done_ (done_of HT_.out (by kernel_rfl)) ?_; have hcz23_0 : w21.cell? ⟨gb108, 0, none⟩ = some (.int .i64 a0_0) := (qi BK108.out 0).trans rfl; have hcz23_1 : w21.cell? ⟨gb108, 1, none⟩ = some (.slice (some ad116) l0_1.length c0_1) := (qi BK108.out 1).trans rfl; have hcz23_2 : w21.cell? ⟨gb108, 2, none⟩ = some (.int .i64 a0_2) := (qi BK108.out 2).trans rfl; have hfz23_0 := qo BK108.out 0; have hfz23_1 := qo BK108.out 1; have hfz23_2 := qo BK108.out 2
           have n0_ : Aside0 (Kd.R (Kd.int .i64) 3 (w21.setCell ⟨go17, ((ji14) : Int).toNat, none⟩ (.int .i64 1)) w.heap.size (fun _ => True) (.slice (some ⟨go17, 0, none⟩) x3_1.length co17) y118) := ⟨by (with_reducible repeat first | apply qx | apply qy | apply qz); exact HQ22.out⟩
           have n1_ : Aside0 ((w21.setCell ⟨go17, ((ji14) : Int).toNat, none⟩ (.int .i64 1)).heap[gb108]? = some (.cells #[.int .i64 a0_0, .slice (some ad116) l0_1.length c0_1, .int .i64 a0_2] 31 (0, 0))) := ⟨by (with_reducible repeat first | apply ql | apply qn | apply qk); refine qlb ?_ (by have h_ := Kd.R_ne HO_3.out BK108.out (by decide); intro e_; exact h_ (by rw [e_]; rfl)) _; (with_reducible repeat first | apply ql | apply qn | apply qk); exact BK108.out⟩
           have n2_ : Aside0 (Below w.heap.size w (w21.setCell ⟨go17, ((ji14) : Int).toNat, none⟩ (.int .i64 1))) := ⟨by repeat (first | (with_reducible first | exact HB.out | apply qh | apply qe | apply qg | refine qj ?_ GB17.out | refine qj ?_ GE108.out) | exact HB.out)⟩
           (try clear HO_3); (try clear BK108); (try clear HB); generalize (w21.setCell ⟨go17, ((ji14) : Int).toNat, none⟩ (.int .i64 1)) = w24 at n0_ n1_ n2_ ⊢; have HO_3 := n0_; have BK108 := n1_; have HB := n2_; clear n0_ n1_ n2_; have hcy23_0 : w24.cell? ⟨gb108, 0, none⟩ = some (.int .i64 a0_0) := (qi BK108.out 0).trans rfl; have hcy23_1 : w24.cell? ⟨gb108, 1, none⟩ = some (.slice (some ad116) l0_1.length c0_1) := (qi BK108.out 1).trans rfl; have hcy23_2 : w24.cell? ⟨gb108, 2, none⟩ = some (.int .i64 a0_2) := (qi BK108.out 2).trans rfl; have hfy23_0 := qo BK108.out 0; have hfy23_1 := qo BK108.out 1; have hfy23_2 := qo BK108.out 2; have n0_ := qa (qz HO_3.out); have n1_ := qa (qn BK108.out); have n2_ := qa (qg HB.out); clear HO_3 BK108 HB; have HO_3 := n0_; have BK108 := n1_; have HB := n2_; clear n0_ n1_ n2_
           try go_wp2
           have p119 : 0 ≤ (x4_1 : Int) := qm (by assumption); have q119 : x4_1 < (l0_1.length : Int) := qm (by assumption); obtain ⟨ad119, e119, hx119_0, hx119_1, hx119_2⟩ := at_T59 HR0_1.out x4_1 p119 q119; have hw119_2 := hx119_2; have hw119_1 := hx119_1; have hw119_0 := hx119_0
           obtain rfl : ad116 = ad119 := (by injection e119)
           replace hx119_0 := (HB.out.cell (qf w _ hx119_0)).trans hx119_0; replace hx119_1 := (HB.out.cell (qf w _ hx119_1)).trans hx119_1; replace hx119_2 := (HB.out.cell (qf w _ hx119_2)).trans hx119_2; replace p119 := qga p119; replace q119 := qga q119; have p120 : 0 ≤ (x4_1 : Int) := qm (by assumption); have q120 : x4_1 < (l0_1.length : Int) := qm (by assumption); obtain ⟨ad120, e120, hx120_0, hx120_1, hx120_2⟩ := at_T59 HR0_1.out x4_1 p120 q120; have hw120_2 := hx120_2; have hw120_1 := hx120_1; have hw120_0 := hx120_0
           obtain rfl : ad116 = ad120 := (by injection e120)
           replace hx120_0 := (HB.out.cell (qf w _ hx120_0)).trans hx120_0; replace hx120_1 := (HB.out.cell (qf w _ hx120_1)).trans hx120_1; replace hx120_2 := (HB.out.cell (qf w _ hx120_2)).trans hx120_2; replace p120 := qga p120; replace q120 := qga q120; have p19 : 0 ≤ ((ji14) : Int) := qm (by assumption); have q19 : ((ji14) : Int) < ((x3_1.length : Int) : Int) := qm (by assumption); obtain ⟨hx19_0, hf19_0⟩ := Kd.R_celln 0 HO_3.out ((ji14) : Int) p19 q19; replace p19 := qga p19; replace q19 := qga q19; have HP26 := Kd.R_putn HO_3.out ((ji14) : Int) 2; rw [← Ny121.out] at HP26; have HQ26 := qa HP26; clear HP26; refine start_ (n := 16) (S := fun w' => w'.cell? ⟨gb108, 0, none⟩ = some (.int .i64 a0_0) ∧ w'.cell? ⟨gb108, 1, none⟩ = some (.slice (some ad116) l0_1.length c0_1) ∧ w'.cell? ⟨gb108, 2, none⟩ = some (.int .i64 a0_2) ∧ w'.cell? (ad116.add ((x4_1).toNat * 3)) = some (.int .i64 ((rd_T59 l0_1 x4_1).f0)) ∧ w'.cell? ⟨(ad116.add ((x4_1).toNat * 3)).block, (ad116.add ((x4_1).toNat * 3)).off + 1, none⟩ = some (.int .i64 ((rd_T59 l0_1 x4_1).f1)) ∧ w'.cell? ⟨(ad116.add ((x4_1).toNat * 3)).block, (ad116.add ((x4_1).toNat * 3)).off + 2, none⟩ = some (.int .i64 ((rd_T59 l0_1 x4_1).f2)) ∧ w'.cell? (ad116.add ((x4_1).toNat * 3)) = some (.int .i64 ((rd_T59 l0_1 x4_1).f0)) ∧ w'.cell? ⟨(ad116.add ((x4_1).toNat * 3)).block, (ad116.add ((x4_1).toNat * 3)).off + 1, none⟩ = some (.int .i64 ((rd_T59 l0_1 x4_1).f1)) ∧ w'.cell? ⟨(ad116.add ((x4_1).toNat * 3)).block, (ad116.add ((x4_1).toNat * 3)).off + 2, none⟩ = some (.int .i64 ((rd_T59 l0_1 x4_1).f2))) (ds := [15]) #[false, false, false, false, false, false, false, false, false, false, false, false, false, false, false, false] (by kernel_rfl) rfl rfl ⟨(qi BK108.out 0).trans rfl, (qi BK108.out 1).trans rfl, (qi BK108.out 2).trans rfl, ((HB.out.cell (qf w _ hw119_0)).trans hw119_0), ((HB.out.cell (qf w _ hw119_1)).trans hw119_1), ((HB.out.cell (qf w _ hw119_2)).trans hw119_2), ((HB.out.cell (qf w _ hw120_0)).trans hw120_0), ((HB.out.cell (qf w _ hw120_1)).trans hw120_1), ((HB.out.cell (qf w _ hw120_2)).trans hw120_2)⟩ (fun hHeld => ?_); refine with_tabW spec_StressesOf.tab9 spec_StressesOf.bits9 (fun HT_ HW_ => ?_); generalize w24.drew = w25 at HO_3 BK108 HB HQ22 HQ26 hf19_0 hx119_0 hx119_1 hx119_2 hx120_0 hx120_1 hx120_2 hx19_0 hHeld ⊢; refine pure_ (i := 0) (N := some 38) (v := ?_) (a' := ?_) #[true, false, false, false, false, false, false, false, false, false, false, false, false, false, false, false] rfl rfl (qua HT_.out (by kernel_rfl)) (fun _ _ _ h => h) (Or.inl ⟨by rfl, ?_⟩) ?_ ?_; rotate_left
           ·intro w'
            go_simp; with_reducible rfl
           rotate_left
           ·simp only [Act.put, qb, qc, qd, i64_w, i32_w]
            rfl
           refine pure_ (i := 1) (N := some 39) (v := ?_) (a' := ?_) #[true, true, false, false, false, false, false, false, false, false, false, false, false, false, false, false] rfl rfl (qua HT_.out (by kernel_rfl)) (fun _ _ _ h => h) (Or.inl ⟨by rfl, ?_⟩) ?_ ?_; rotate_left
           ·intro w'
            go_simp; with_reducible rfl
           rotate_left
           ·simp only [Act.put, qb, qc, qd, i64_w, i32_w]
            rfl
           refine pure_ (i := 3) (N := some 41) (v := ?_) (a' := ?_) #[true, true, false, true, false, false, false, false, false, false, false, false, false, false, false, false] rfl rfl (qua HT_.out (by kernel_rfl)) (fun _ _ _ h => h) (Or.inl ⟨by rfl, ?_⟩) ?_ ?_; rotate_left
           ·intro w'
            go_simp; with_reducible rfl
           rotate_left
           ·simp only [Act.put, qb, qc, qd, i64_w, i32_w]
            rfl
           refine pure_ (i := 7) (N := some 45) (v := ?_) (a' := ?_) #[true, true, false, true, false, false, false, true, false, false, false, false, false, false, false, false] rfl rfl (qua HT_.out (by kernel_rfl)) (fun _ _ _ h => h) (Or.inl ⟨by rfl, ?_⟩) ?_ ?_; rotate_left
           ·intro w'
            go_simp; with_reducible rfl
           rotate_left
           ·simp only [Act.put, qb, qc, qd, i64_w, i32_w]
            rfl
           refine pure_ (i := 9) (N := some 47) (v := ?_) (a' := ?_) #[true, true, false, true, false, false, false, true, false, true, false, false, false, false, false, false] rfl rfl (qua HT_.out (by kernel_rfl)) (fun _ _ _ h => h) (Or.inl ⟨by rfl, ?_⟩) ?_ ?_; rotate_left
           ·intro w'
            go_simp; with_reducible rfl
           rotate_left
           ·simp only [Act.put, qb, qc, qd, i64_w, i32_w]
            rfl
           refine take_ (i := 2) (N := some 40) (v := ?_) (a' := ?_) #[true, true, true, true, false, false, false, true, false, true, false, false, false, false, false, false] rfl rfl (qva HT_.out HW_.out (by kernel_rfl)) (fun _ _ _ h => h) (Or.inl ⟨by rfl, ?_⟩) hHeld ?_ ?_; rotate_left
           ·rintro w' ⟨s0, s1, s2, s3, s4, s5, s6, s7, s8⟩
            go_simp; with_reducible rfl
           rotate_left
           ·simp only [Act.put, qb, qc, qd, i64_w, i32_w]
            rfl
           refine pure_ (i := 4) (N := some 42) (v := ?_) (a' := ?_) #[true, true, true, true, true, false, false, true, false, true, false, false, false, false, false, false] rfl rfl (qua HT_.out (by kernel_rfl)) (fun _ _ _ h => h) (Or.inl ⟨by rfl, ?_⟩) ?_ ?_; rotate_left
           ·intro w'
            go_simp; with_reducible rfl
           rotate_left
           ·simp only [Act.put, qb, qc, qd, i64_w, i32_w]
            rfl
           refine pure_ (i := 5) (N := some 43) (v := ?_) (a' := ?_) #[true, true, true, true, true, true, false, true, false, true, false, false, false, false, false, false] rfl rfl (qua HT_.out (by kernel_rfl)) (fun _ _ _ h => h) (Or.inl ⟨by rfl, ?_⟩) ?_ ?_; rotate_left
           ·intro w'
            go_simp; with_reducible rfl
           rotate_left
           ·simp only [Act.put, qb, qc, qd, i64_w, i32_w]
            rfl
           refine take_ (i := 6) (N := some 44) (v := ?_) (a' := ?_) #[true, true, true, true, true, true, true, true, false, true, false, false, false, false, false, false] rfl rfl (qva HT_.out HW_.out (by kernel_rfl)) (fun _ _ _ h => h) (Or.inl ⟨by rfl, ?_⟩) hHeld ?_ ?_; rotate_left
           ·rintro w' ⟨s0, s1, s2, s3, s4, s5, s6, s7, s8⟩
            go_simp; with_reducible rfl
           rotate_left
           ·simp only [Act.put, qb, qc, qd, i64_w, i32_w]
            rfl
           refine take_ (i := 8) (N := some 46) (v := ?_) (a' := ?_) #[true, true, true, true, true, true, true, true, true, true, false, false, false, false, false, false] rfl rfl (qva HT_.out HW_.out (by kernel_rfl)) (fun _ _ _ h => h) (Or.inl ⟨by rfl, ?_⟩) hHeld ?_ ?_; rotate_left
           ·rintro w' ⟨s0, s1, s2, s3, s4, s5, s6, s7, s8⟩
            go_simp; with_reducible rfl
           rotate_left
           ·simp only [Act.put, qb, qc, qd, i64_w, i32_w]
            rfl
           refine pure_ (i := 10) (N := some 48) (v := ?_) (a' := ?_) #[true, true, true, true, true, true, true, true, true, true, true, false, false, false, false, false] rfl rfl (qua HT_.out (by kernel_rfl)) (fun _ _ _ h => h) (Or.inl ⟨by rfl, ?_⟩) ?_ ?_; rotate_left
           ·intro w'
            go_simp; with_reducible rfl
           rotate_left
           ·simp only [Act.put, qb, qc, qd, i64_w, i32_w]
            rfl
           refine pure_ (i := 11) (N := some 49) (v := ?_) (a' := ?_) #[true, true, true, true, true, true, true, true, true, true, true, true, false, false, false, false] rfl rfl (qua HT_.out (by kernel_rfl)) (fun _ _ _ h => h) (Or.inl ⟨by rfl, ?_⟩) ?_ ?_; rotate_left
           ·intro w'
            go_simp; with_reducible rfl
           rotate_left
           ·simp only [Act.put, qb, qc, qd, i64_w, i32_w]
            rfl
           refine take_ (i := 12) (N := some 50) (v := ?_) (a' := ?_) #[true, true, true, true, true, true, true, true, true, true, true, true, true, false, false, false] rfl rfl (qva HT_.out HW_.out (by kernel_rfl)) (fun _ _ _ h => h) (Or.inl ⟨by rfl, ?_⟩) hHeld ?_ ?_; rotate_left
           ·rintro w' ⟨s0, s1, s2, s3, s4, s5, s6, s7, s8⟩
            go_simp; with_reducible rfl
           rotate_left
           ·simp only [Act.put, qb, qc, qd, i64_w, i32_w]
            rfl
           refine pure_ (i := 13) (N := some 51) (v := ?_) (a' := ?_) #[true, true, true, true, true, true, true, true, true, true, true, true, true, true, false, false] rfl rfl (qua HT_.out (by kernel_rfl)) (fun _ _ _ h => h) (Or.inl ⟨by rfl, ?_⟩) ?_ ?_; rotate_left
           ·intro w'
            go_simp; with_reducible rfl
           rotate_left
           ·simp only [Act.put, qb, qc, qd, i64_w, i32_w]
            rfl
           refine pure_ (i := 14) (N := some 52) (v := ?_) (a' := ?_) #[true, true, true, true, true, true, true, true, true, true, true, true, true, true, true, false] rfl rfl (qua HT_.out (by kernel_rfl)) (fun _ _ _ h => h) (Or.inl ⟨by rfl, ?_⟩) ?_ ?_; rotate_left
           ·intro w'
            go_simp; with_reducible rfl
           rotate_left
           ·simp only [Act.put, qb, qc, qd, i64_w, i32_w]
            rfl
           refine last_ (i := 15) (N := none) #[true, true, true, true, true, true, true, true, true, true, true, true, true, true, true, true] rfl rfl (qwa HT_.out (by kernel_rfl)) (by decide) (fun K hK => ?_); refine skip_ (w1 := ?_) (by rfl) rfl ?_ ?_; rotate_left
           ·go_simp
            rfl
           refine hK.out _ _ ?_; clear hK K; refine done_ (done_of HT_.out (by kernel_rfl)) ?_
           try go_wp2
           go_roundg k1
           case measure => have := HK1.out; omega
           case rel => exact ⟨(y121), (wrap64 (x4_1 + 1)), (by first | rfl | (simp; done) | (simp [*]; done)), H', ⟨by have := HK1.out; omega⟩, ⟨by (with_reducible repeat first | apply qx | apply qy | apply qz); exact HQ26.out⟩, ⟨by (with_reducible repeat first | apply ql | apply qn | apply qk); refine qlb ?_ (by have h_ := Kd.R_ne HO_3.out BK108.out (by decide); intro e_; exact h_ (by rw [e_]; rfl)) _; (with_reducible repeat first | apply ql | apply qn | apply qk); exact BK108.out⟩, ⟨by repeat (first | (with_reducible first | exact HB.out | apply qh | apply qe | apply qg | refine qj ?_ GB17.out | refine qj ?_ GE108.out) | exact HB.out)⟩⟩
          ·rw [if_neg c18] at H
           have c18b0 : (x4_1 == a0_2) = false := zd c18; have c18b1 : (x4_1 != a0_2) = true := zf c18; have H' := qa H; clear H; have hcz27_0 : wr.cell? ⟨gb108, 0, none⟩ = some (.int .i64 a0_0) := (qi BK108.out 0).trans rfl; have hcz27_1 : wr.cell? ⟨gb108, 1, none⟩ = some (.slice A0_1 l0_1.length c0_1) := (qi BK108.out 1).trans rfl; have hcz27_2 : wr.cell? ⟨gb108, 2, none⟩ = some (.int .i64 a0_2) := (qi BK108.out 2).trans rfl; have hfz27_0 := qo BK108.out 0; have hfz27_1 := qo BK108.out 1; have hfz27_2 := qo BK108.out 2
           try go_wp2
           have n0_ := qa (qz HO_3.out); have n1_ := qa (qn BK108.out); have n2_ := qa (qg HB.out); clear HO_3 BK108 HB; have HO_3 := n0_; have BK108 := n1_; have HB := n2_; clear n0_ n1_ n2_; have p116 : 0 ≤ (x4_1 : Int) := qm (by assumption); have q116 : x4_1 < (l0_1.length : Int) := qm (by assumption); obtain ⟨ad116, e116, hx116_0, hx116_1, hx116_2⟩ := at_T59 HR0_1.out x4_1 p116 q116; have hw116_2 := hx116_2; have hw116_1 := hx116_1; have hw116_0 := hx116_0; cases e116; replace hx116_0 := (HB.out.cell (qf w _ hx116_0)).trans hx116_0; replace hx116_1 := (HB.out.cell (qf w _ hx116_1)).trans hx116_1; replace hx116_2 := (HB.out.cell (qf w _ hx116_2)).trans hx116_2; replace p116 := qga p116; replace q116 := qga q116; have p117 : 0 ≤ (x4_1 : Int) := qm (by assumption); have q117 : x4_1 < (l0_1.length : Int) := qm (by assumption); obtain ⟨ad117, e117, hx117_0, hx117_1, hx117_2⟩ := at_T59 HR0_1.out x4_1 p117 q117; have hw117_2 := hx117_2; have hw117_1 := hx117_1; have hw117_0 := hx117_0
           obtain rfl : ad116 = ad117 := (by injection e117)
           replace hx117_0 := (HB.out.cell (qf w _ hx117_0)).trans hx117_0; replace hx117_1 := (HB.out.cell (qf w _ hx117_1)).trans hx117_1; replace hx117_2 := (HB.out.cell (qf w _ hx117_2)).trans hx117_2; replace p117 := qga p117; replace q117 := qga q117; have p17 : 0 ≤ ((ji14) : Int) := qm (by assumption); have q17 : ((ji14) : Int) < ((x3_1.length : Int) : Int) := qm (by assumption); obtain ⟨go17, co17, eo17, gb17, gl17, cl17, HG17⟩ := Kd.R_form HO_3.out (by omega)
           (first | cases eo17 | (injection eo17 with ea_ en_ ec_; (first | subst ea_ | (injection ea_ with ea_; subst ea_)); subst ec_; clear en_))
           have GB17 := qa gb17; have GG17 := qa HG17; clear gb17 gl17 HG17; obtain ⟨hx17_0, hf17_0⟩ := Kd.R_celln 0 HO_3.out ((ji14) : Int) p17 q17; replace p17 := qga p17; replace q17 := qga q17; have HP29 := Kd.R_putn HO_3.out ((ji14) : Int) 1; rw [← Ny118.out] at HP29; have HQ29 := qa HP29; clear HP29; refine start_ (n := 16) (S := fun w' => w'.cell? ⟨gb108, 0, none⟩ = some (.int .i64 a0_0) ∧ w'.cell? ⟨gb108, 1, none⟩ = some (.slice (some ad116) l0_1.length c0_1) ∧ w'.cell? ⟨gb108, 2, none⟩ = some (.int .i64 a0_2) ∧ w'.cell? (ad116.add ((x4_1).toNat * 3)) = some (.int .i64 ((rd_T59 l0_1 x4_1).f0)) ∧ w'.cell? ⟨(ad116.add ((x4_1).toNat * 3)).block, (ad116.add ((x4_1).toNat * 3)).off + 1, none⟩ = some (.int .i64 ((rd_T59 l0_1 x4_1).f1)) ∧ w'.cell? ⟨(ad116.add ((x4_1).toNat * 3)).block, (ad116.add ((x4_1).toNat * 3)).off + 2, none⟩ = some (.int .i64 ((rd_T59 l0_1 x4_1).f2)) ∧ w'.cell? (ad116.add ((x4_1).toNat * 3)) = some (.int .i64 ((rd_T59 l0_1 x4_1).f0)) ∧ w'.cell? ⟨(ad116.add ((x4_1).toNat * 3)).block, (ad116.add ((x4_1).toNat * 3)).off + 1, none⟩ = some (.int .i64 ((rd_T59 l0_1 x4_1).f1)) ∧ w'.cell? ⟨(ad116.add ((x4_1).toNat * 3)).block, (ad116.add ((x4_1).toNat * 3)).off + 2, none⟩ = some (.int .i64 ((rd_T59 l0_1 x4_1).f2))) (ds := [15]) #[false, false, false, false, false, false, false, false, false, false, false, false, false, false, false, false] (by kernel_rfl) rfl rfl ⟨(qi BK108.out 0).trans rfl, (qi BK108.out 1).trans rfl, (qi BK108.out 2).trans rfl, ((HB.out.cell (qf w _ hw116_0)).trans hw116_0), ((HB.out.cell (qf w _ hw116_1)).trans hw116_1), ((HB.out.cell (qf w _ hw116_2)).trans hw116_2), ((HB.out.cell (qf w _ hw117_0)).trans hw117_0), ((HB.out.cell (qf w _ hw117_1)).trans hw117_1), ((HB.out.cell (qf w _ hw117_2)).trans hw117_2)⟩ (fun hHeld => ?_); refine with_tabW spec_StressesOf.tab7 spec_StressesOf.bits7 (fun HT_ HW_ => ?_); generalize wr.drew = w28 at HO_3 BK108 HB GG17 HQ29 hf17_0 hx116_0 hx116_1 hx116_2 hx117_0 hx117_1 hx117_2 hx17_0 hHeld ⊢; refine pure_ (i := 0) (N := some 19) (v := ?_) (a' := ?_) #[true, false, false, false, false, false, false, false, false, false, false, false, false, false, false, false] rfl rfl (qua HT_.out (by kernel_rfl)) (fun _ _ _ h => h) (Or.inl ⟨by rfl, ?_⟩) ?_ ?_; rotate_left
           ·intro w'
            go_simp; with_reducible rfl
           rotate_left
           ·simp only [Act.put, qb, qc, qd, i64_w, i32_w]
            rfl
           refine pure_ (i := 1) (N := some 20) (v := ?_) (a' := ?_) #[true, true, false, false, false, false, false, false, false, false, false, false, false, false, false, false] rfl rfl (qua HT_.out (by kernel_rfl)) (fun _ _ _ h => h) (Or.inl ⟨by rfl, ?_⟩) ?_ ?_; rotate_left
           ·intro w'
            go_simp; with_reducible rfl
           rotate_left
           ·simp only [Act.put, qb, qc, qd, i64_w, i32_w]
            rfl
           refine pure_ (i := 3) (N := some 22) (v := ?_) (a' := ?_) #[true, true, false, true, false, false, false, false, false, false, false, false, false, false, false, false] rfl rfl (qua HT_.out (by kernel_rfl)) (fun _ _ _ h => h) (Or.inl ⟨by rfl, ?_⟩) ?_ ?_; rotate_left
           ·intro w'
            go_simp; with_reducible rfl
           rotate_left
           ·simp only [Act.put, qb, qc, qd, i64_w, i32_w]
            rfl
           refine pure_ (i := 7) (N := some 26) (v := ?_) (a' := ?_) #[true, true, false, true, false, false, false, true, false, false, false, false, false, false, false, false] rfl rfl (qua HT_.out (by kernel_rfl)) (fun _ _ _ h => h) (Or.inl ⟨by rfl, ?_⟩) ?_ ?_; rotate_left
           ·intro w'
            go_simp; with_reducible rfl
           rotate_left
           ·simp only [Act.put, qb, qc, qd, i64_w, i32_w]
            rfl
           refine pure_ (i := 9) (N := some 28) (v := ?_) (a' := ?_) #[true, true, false, true, false, false, false, true, false, true, false, false, false, false, false, false] rfl rfl (qua HT_.out (by kernel_rfl)) (fun _ _ _ h => h) (Or.inl ⟨by rfl, ?_⟩) ?_ ?_; rotate_left
           ·intro w'
            go_simp; with_reducible rfl
           rotate_left
           ·simp only [Act.put, qb, qc, qd, i64_w, i32_w]
            rfl
           refine take_ (i := 2) (N := some 21) (v := ?_) (a' := ?_) #[true, true, true, true, false, false, false, true, false, true, false, false, false, false, false, false] rfl rfl (qva HT_.out HW_.out (by kernel_rfl)) (fun _ _ _ h => h) (Or.inl ⟨by rfl, ?_⟩) hHeld ?_ ?_; rotate_left
           ·rintro w' ⟨s0, s1, s2, s3, s4, s5, s6, s7, s8⟩
            go_simp; with_reducible rfl
           rotate_left
           ·simp only [Act.put, qb, qc, qd, i64_w, i32_w]
            rfl
           refine pure_ (i := 4) (N := some 23) (v := ?_) (a' := ?_) #[true, true, true, true, true, false, false, true, false, true, false, false, false, false, false, false] rfl rfl (qua HT_.out (by kernel_rfl)) (fun _ _ _ h => h) (Or.inl ⟨by rfl, ?_⟩) ?_ ?_; rotate_left
           ·intro w'
            go_simp; with_reducible rfl
           rotate_left
           ·simp only [Act.put, qb, qc, qd, i64_w, i32_w]
            rfl
           refine pure_ (i := 5) (N := some 24) (v := ?_) (a' := ?_) #[true, true, true, true, true, true, false, true, false, true, false, false, false, false, false, false] rfl rfl (qua HT_.out (by kernel_rfl)) (fun _ _ _ h => h) (Or.inl ⟨by rfl, ?_⟩) ?_ ?_; rotate_left
           ·intro w'
            go_simp; with_reducible rfl
           rotate_left
           ·simp only [Act.put, qb, qc, qd, i64_w, i32_w]
            rfl
           refine take_ (i := 6) (N := some 25) (v := ?_) (a' := ?_) #[true, true, true, true, true, true, true, true, false, true, false, false, false, false, false, false] rfl rfl (qva HT_.out HW_.out (by kernel_rfl)) (fun _ _ _ h => h) (Or.inl ⟨by rfl, ?_⟩) hHeld ?_ ?_; rotate_left
           ·rintro w' ⟨s0, s1, s2, s3, s4, s5, s6, s7, s8⟩
            go_simp; with_reducible rfl
           rotate_left
           ·simp only [Act.put, qb, qc, qd, i64_w, i32_w]
            rfl
           refine take_ (i := 8) (N := some 27) (v := ?_) (a' := ?_) #[true, true, true, true, true, true, true, true, true, true, false, false, false, false, false, false] rfl rfl (qva HT_.out HW_.out (by kernel_rfl)) (fun _ _ _ h => h) (Or.inl ⟨by rfl, ?_⟩) hHeld ?_ ?_; rotate_left
           ·rintro w' ⟨s0, s1, s2, s3, s4, s5, s6, s7, s8⟩
            go_simp; with_reducible rfl
           rotate_left
           ·simp only [Act.put, qb, qc, qd, i64_w, i32_w]
            rfl
           refine pure_ (i := 10) (N := some 29) (v := ?_) (a' := ?_) #[true, true, true, true, true, true, true, true, true, true, true, false, false, false, false, false] rfl rfl (qua HT_.out (by kernel_rfl)) (fun _ _ _ h => h) (Or.inl ⟨by rfl, ?_⟩) ?_ ?_; rotate_left
           ·intro w'
            go_simp; with_reducible rfl
           rotate_left
           ·simp only [Act.put, qb, qc, qd, i64_w, i32_w]
            rfl
           refine pure_ (i := 11) (N := some 30) (v := ?_) (a' := ?_) #[true, true, true, true, true, true, true, true, true, true, true, true, false, false, false, false] rfl rfl (qua HT_.out (by kernel_rfl)) (fun _ _ _ h => h) (Or.inl ⟨by rfl, ?_⟩) ?_ ?_; rotate_left
           ·intro w'
            go_simp; with_reducible rfl
           rotate_left
           ·simp only [Act.put, qb, qc, qd, i64_w, i32_w]
            rfl
           refine take_ (i := 12) (N := some 31) (v := ?_) (a' := ?_) #[true, true, true, true, true, true, true, true, true, true, true, true, true, false, false, false] rfl rfl (qva HT_.out HW_.out (by kernel_rfl)) (fun _ _ _ h => h) (Or.inl ⟨by rfl, ?_⟩) hHeld ?_ ?_; rotate_left
           ·rintro w' ⟨s0, s1, s2, s3, s4, s5, s6, s7, s8⟩
            go_simp; with_reducible rfl
           rotate_left
           ·simp only [Act.put, qb, qc, qd, i64_w, i32_w]
            rfl
           refine pure_ (i := 13) (N := some 32) (v := ?_) (a' := ?_) #[true, true, true, true, true, true, true, true, true, true, true, true, true, true, false, false] rfl rfl (qua HT_.out (by kernel_rfl)) (fun _ _ _ h => h) (Or.inl ⟨by rfl, ?_⟩) ?_ ?_; rotate_left
           ·intro w'
            go_simp; with_reducible rfl
           rotate_left
           ·simp only [Act.put, qb, qc, qd, i64_w, i32_w]
            rfl
           refine pure_ (i := 14) (N := some 33) (v := ?_) (a' := ?_) #[true, true, true, true, true, true, true, true, true, true, true, true, true, true, true, false] rfl rfl (qua HT_.out (by kernel_rfl)) (fun _ _ _ h => h) (Or.inl ⟨by rfl, ?_⟩) ?_ ?_; rotate_left
           ·intro w'
            go_simp; with_reducible rfl
           rotate_left
           ·simp only [Act.put, qb, qc, qd, i64_w, i32_w]
            rfl
           refine last_ (i := 15) (N := none) #[true, true, true, true, true, true, true, true, true, true, true, true, true, true, true, true] rfl rfl (qwa HT_.out (by kernel_rfl)) (by decide) (fun K hK => ?_); refine skip_ (w1 := ?_) (by rfl) rfl ?_ ?_; rotate_left
           ·go_simp
            rfl
           refine hK.out _ _ ?_; clear hK K; refine done_ (done_of HT_.out (by kernel_rfl)) ?_; have hcz30_0 : w28.cell? ⟨gb108, 0, none⟩ = some (.int .i64 a0_0) := (qi BK108.out 0).trans rfl; have hcz30_1 : w28.cell? ⟨gb108, 1, none⟩ = some (.slice (some ad116) l0_1.length c0_1) := (qi BK108.out 1).trans rfl; have hcz30_2 : w28.cell? ⟨gb108, 2, none⟩ = some (.int .i64 a0_2) := (qi BK108.out 2).trans rfl; have hfz30_0 := qo BK108.out 0; have hfz30_1 := qo BK108.out 1; have hfz30_2 := qo BK108.out 2; have zz_ := qa (qlb (w := w28) (p := ⟨go17, ((ji14) : Int).toNat, none⟩) BK108.out (by have h_ := Kd.R_ne HO_3.out BK108.out (by decide); intro e_; exact h_ (by rw [e_]; rfl)) (.int .i64 1)); have hcy30_0 : (w28.setCell ⟨go17, ((ji14) : Int).toNat, none⟩ (.int .i64 1)).cell? ⟨gb108, 0, none⟩ = some (.int .i64 a0_0) := (qi zz_.out 0).trans rfl; have hcy30_1 : (w28.setCell ⟨go17, ((ji14) : Int).toNat, none⟩ (.int .i64 1)).cell? ⟨gb108, 1, none⟩ = some (.slice (some ad116) l0_1.length c0_1) := (qi zz_.out 1).trans rfl; have hcy30_2 : (w28.setCell ⟨go17, ((ji14) : Int).toNat, none⟩ (.int .i64 1)).cell? ⟨gb108, 2, none⟩ = some (.int .i64 a0_2) := (qi zz_.out 2).trans rfl; have hfy30_0 := qo zz_.out 0; have hfy30_1 := qo zz_.out 1; have hfy30_2 := qo zz_.out 2
           try go_wp2
           go_roundg k1
           case measure => have := HK1.out; omega
           case rel => exact ⟨(y118), (wrap64 (x4_1 + 1)), (by first | rfl | (simp; done) | (simp [*]; done)), H', ⟨by have := HK1.out; omega⟩, ⟨by (with_reducible repeat first | apply qx | apply qy | apply qz); exact HQ29.out⟩, ⟨by (with_reducible repeat first | apply ql | apply qn | apply qk); refine qlb ?_ (by have h_ := Kd.R_ne HO_3.out BK108.out (by decide); intro e_; exact h_ (by rw [e_]; rfl)) _; (with_reducible repeat first | apply ql | apply qn | apply qk); exact BK108.out⟩, ⟨by repeat (first | (with_reducible first | exact HB.out | apply qh | apply qe | apply qg | refine qj ?_ GB17.out | refine qj ?_ GE108.out) | exact HB.out)⟩⟩
         ·rw [if_neg c16] at H
          exact absurd H (by simp)
        ·rw [if_neg c15] at H
         exact absurd H (by simp)
       ·rw [if_neg c13] at H
        exact absurd H (by simp)
      ·rw [if_neg c12] at H
       have c12b0 : decide (x4_1 < (l0_1.length : Int)) = false := qr c12; clear c12; obtain rfl := qia H; have hcz31_0 : wr.cell? ⟨gb108, 0, none⟩ = some (.int .i64 a0_0) := (qi BK108.out 0).trans rfl; have hcz31_1 : wr.cell? ⟨gb108, 1, none⟩ = some (.slice A0_1 l0_1.length c0_1) := (qi BK108.out 1).trans rfl; have hcz31_2 : wr.cell? ⟨gb108, 2, none⟩ = some (.int .i64 a0_2) := (qi BK108.out 2).trans rfl; have hfz31_0 := qo BK108.out 0; have hfz31_1 := qo BK108.out 1; have hfz31_2 := qo BK108.out 2; go_wp2; go_ret; exact ⟨_, by first | rfl | (simp [*] <;> rfl), by (with_reducible repeat first | apply qx | apply qy | apply qz); exact HO_3.out, by repeat (first | (with_reducible first | exact HB.out | apply qh | apply qe | apply qg | refine qj ?_ GE108.out) | exact HB.out)⟩
   ·rw [if_neg c5] at H
    exact absurd H (by simp)
  ·rw [if_neg c4] at H
   exact absurd H (by simp)
 ·replace c3 := Bool.eq_false_iff.mpr c3
  subst c3; rw [if_neg (show ¬ (false = true) by decide)] at H; have H1 := H; clear H; have H := H1; clear H1
  obtain ⟨y110, hy110⟩ : ∃ y_ : List Int, y_ = (([] : List Int)) := ⟨_, rfl⟩
  replace H : (some y110) = some r := by first | (rw [hy110]; with_reducible exact H) | (have H2_ := (Option.bind_some _ _).symm.trans H; rw [hy110]; with_reducible exact H2_) | (have H2_ := (Option.bind_some _ _).symm.trans H; with_reducible exact H2_) | with_reducible exact H | (rw [hy110]; exact H) | exact H
  have Ny110 := qa hy110; clear hy110; obtain rfl := qia H; go_enter Tryd.func23, Tryd.ntmps23
  go_wp2_with (first | ((with_reducible refine gate_dst (N := 1) rfl ?_); refine box_event ?hg (N := 1) ?hd (cs := #[.int .i64 a0_0, .slice A0_1 l0_1.length c0_1, .int .i64 a0_2]) (t := 31) ?hr ?_; (case hd => rfl); (case hg => rfl); (case hr => first | (go_simp; done) | (go_simp; rfl)); intro gb108 hg w32 hbox hb; have n0_ := qa (qha (by repeat (first | (with_reducible first | exact HB.out | apply qh | apply qe | apply qg) | exact HB.out)) hb); have n1_ := qa (hbox); have n2_ := qa ((by rw [hg]; exact (qp (by repeat (first | (with_reducible first | exact HB.out | apply qh | apply qe | apply qg) | exact HB.out))) : w.heap.size ≤ gb108)); have n3_ := qa ((by rw [hg]; exact (qp (by repeat (first | (with_reducible first | exact HB.out | apply qh | apply qe | apply qg) | exact HB.out))) : w.heap.size ≤ gb108)); clear HB; have HB := n0_; have BK108 := n1_; have GW108 := n2_; have GE108 := n3_; clear n0_ n1_ n2_ n3_; clear hb hbox hg; have hcz33_0 : w32.cell? ⟨gb108, 0, none⟩ = some (.int .i64 a0_0) := (qi BK108.out 0).trans rfl; have hcz33_1 : w32.cell? ⟨gb108, 1, none⟩ = some (.slice A0_1 l0_1.length c0_1) := (qi BK108.out 1).trans rfl; have hcz33_2 : w32.cell? ⟨gb108, 2, none⟩ = some (.int .i64 a0_2) := (qi BK108.out 2).trans rfl; have hfz33_0 := qo BK108.out 0; have hfz33_1 := qo BK108.out 1; have hfz33_2 := qo BK108.out 2) | ((with_reducible refine qeb (f := 22) rfl ?_); refine goesL_ (some 6) rfl rfl Tryd.func22 (by kernel_rfl) rfl #[.agg #[.int .i64 a0_0, .slice A0_1 l0_1.length c0_1, .int .i64 a0_2]] rfl (by (try simp only [qs, qv, qw]); first | done | rfl | (simp only [qu, qt]; rfl)) ?_; (with_reducible refine (spec_IsFooting.calls k a0_0 _ _ l0_1 a0_2 false _ ?side1 ?side2 A2.out).mono ?_); (case side1 => repeat (first | exact (qab HR0_1.out HB.out) | (with_reducible first | apply qka | apply qla | apply qma))); (case side2 => exact HC0_1.out); rintro e w34 ⟨rfl, hb⟩; refine ⟨_, rfl, ?_⟩; have n0_ := qa (qja (g := gb108) (o := .cells #[.int .i64 a0_0, .slice A0_1 l0_1.length c0_1, .int .i64 a0_2] 31 (0, 0)) (by (with_reducible repeat first | apply ql | apply qn | apply qk); exact BK108.out) hb); have n1_ := qa (qha (by repeat (first | (with_reducible first | exact HB.out | apply qh | apply qe | apply qg | refine qj ?_ GE108.out) | exact HB.out)) hb); clear BK108; clear HB; have BK108 := n0_; have HB := n1_; clear n0_ n1_; (try clear hb); (try clear hb2); (try clear hk); (try clear hi)) | ((with_reducible refine gate_dst (N := 8) rfl ?_); refine qcc (Kd.int .i64) _ 3 ?hg (N := 8) ?hd (xs := ([] : List Int)) (inner := []) (ok := fun _ => True) (okp := fun _ => True) ?hr ?hp (fun _ hk => hk) trivial (qsb _ _) (qqb _) (by simp) ?_; (case hd => rfl); (case hg => rfl); (case hr => first | (go_simp; done) | (go_simp; rfl)); (case hp => exact (Reps.none _ _)); intro v111 w35 ho36 hb hg_ hnew_; clear hg_ hnew_; (first | rw [← Ny110.out] at ho36 | (simp only [Int.reduceToNat] at ho36; rw [← Ny110.out] at ho36)); have n0_ := qa (qvb ho36 (qp (by repeat (first | (with_reducible first | exact HB.out | apply qh | apply qe | apply qg | refine qj ?_ GE108.out) | exact HB.out)))); have n1_ := qa (qja (g := gb108) (o := .cells #[.int .i64 a0_0, .slice A0_1 l0_1.length c0_1, .int .i64 a0_2] 31 (0, 0)) (by (with_reducible repeat first | apply ql | apply qn | apply qk); exact BK108.out) hb); have n2_ := qa (qha (by repeat (first | (with_reducible first | exact HB.out | apply qh | apply qe | apply qg | refine qj ?_ GE108.out) | exact HB.out)) hb); clear BK108; clear HB; have HO112 := n0_; have BK108 := n1_; have HB := n2_; clear n0_ n1_ n2_; clear hb ho36))
  go_ret; exact ⟨_, by first | rfl | (simp [*] <;> rfl), by (with_reducible repeat first | apply qx | apply qy | apply qz); exact HO112.out, by repeat (first | (with_reducible first | exact HB.out | apply qh | apply qe | apply qg | refine qj ?_ GE108.out) | exact HB.out)⟩
end Go.Proofs.YtkjpbhncgjhfeaaDoor.PFnFeet
