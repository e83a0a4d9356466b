import Derived.Test.YtkjpbhncgjhfeaaPFnFormsx0
import Derived.Test.YtkjpbhncgjhfeaaPFnFormsx12
namespace Go.Proofs.Ytkjpbhncgjhfeaa.PFnForms
open Go.RowKit Go.Proofs.YtkjpbhncgjhfeaaW.PrintWords Go.Proofs.YtkjpbhncgjhfeaaW.PrintLast Go.Proofs.YtkjpbhncgjhfeaaW.PrintMore
attribute [local go_sem] max2_int min2_int max_two min_two max_three min_three max_four min_four
set_option linter.unusedVariables false
set_option linter.unusedSimpArgs false
set_option maxHeartbeats 8000000
set_option maxRecDepth 100000
mutual
def spec_FormsOf.l0 : Nat → Int → List ByteArray → Int → Option (List ByteArray)
 | 0, _, _, _ => none
 | k + 1, x0, x3, x4 => if x4 < x0 then (spec_FormsOf.l1 k x0 x3 x4 (([] : List ByteArray)) 0) else (some x3)
def spec_FormsOf.l1 : Nat → Int → List ByteArray → Int → List ByteArray → Int → Option (List ByteArray)
 | 0, _, _, _, _, _ => none
 | k + 1, x0, x3, x4, x5, x6 => if x6 < (x3.length : Int) then (spec_FormsOf.l2 k x0 x3 x4 x5 x6 0) else (spec_FormsOf.l0 k x0 x5 (wrap64 (x4 + 1)))
def spec_FormsOf.l2 : Nat → Int → List ByteArray → Int → List ByteArray → Int → Int → Option (List ByteArray)
 | 0, _, _, _, _, _, _ => none
 | k + 1, x0, x3, x4, x5, x6, x7 => if x7 < 7 then (if 0 ≤ x6 then (if x6 < (x3.length : Int) then (if 0 ≤ x7 then (if x7 ≤ (wrap64 (x7 + 1)) then (if (wrap64 (x7 + 1)) ≤ 7 then (if (rdOf ByteArray.empty x3 x6).size + ((⟨#[112, 116, 98, 100, 110, 97, 105]⟩ : ByteArray).extract (x7 : Int).toNat ((wrap64 (x7 + 1)) : Int).toNat).size ≤ 9223372036854775807 then (if x5.length < 8796093022208 then (spec_FormsOf.l2 k x0 x3 x4 (x5 ++ [(rdOf ByteArray.empty x3 x6) ++ ((⟨#[112, 116, 98, 100, 110, 97, 105]⟩ : ByteArray).extract (x7 : Int).toNat ((wrap64 (x7 + 1)) : Int).toNat)]) x6 (wrap64 (x7 + 1))) else (none)) else (none)) else (none)) else (none)) else (none)) else (none)) else (none)) else (spec_FormsOf.l1 k x0 x3 x4 x5 (wrap64 (x6 + 1)))
end
def spec_FormsOf.f (k : Nat) (a0 : Int) : Option (List ByteArray) := (spec_l1In.f a0 0 3).bind fun t361 => (if t361 = true then (spec_FormsOf.l0 k a0 (([(⟨#[]⟩ : ByteArray)] : List ByteArray)) 0) else (some (([] : List ByteArray))))
theorem spec_FormsOf.mono_l : ∀ k, (∀ y0 y1 y2, LeO (spec_FormsOf.l0 k y0 y1 y2) (spec_FormsOf.l0 (k + 1) y0 y1 y2)) ∧ (∀ y0 y1 y2 y3 y4, LeO (spec_FormsOf.l1 k y0 y1 y2 y3 y4) (spec_FormsOf.l1 (k + 1) y0 y1 y2 y3 y4)) ∧ (∀ y0 y1 y2 y3 y4 y5, LeO (spec_FormsOf.l2 k y0 y1 y2 y3 y4 y5) (spec_FormsOf.l2 (k + 1) y0 y1 y2 y3 y4 y5))
 | 0 => ⟨fun _ _ _ r h => by simp [spec_FormsOf.l0] at h, fun _ _ _ _ _ r h => by simp [spec_FormsOf.l1] at h, fun _ _ _ _ _ _ r h => by simp [spec_FormsOf.l2] at h⟩
 | k + 1 => by
  obtain ⟨ih0, ih1, ih2⟩ := spec_FormsOf.mono_l k; refine ⟨?_, ?_, ?_⟩
  ·intro y0 y1 y2
   unfold spec_FormsOf.l0
   repeat' first
   | (with_reducible exact ih0 _ _ _)
   | (with_reducible exact ih1 _ _ _ _ _)
   | (with_reducible exact ih2 _ _ _ _ _ _)
   | (with_reducible exact LeO.refl _)
   | (with_reducible exact LeO.none _)
   | (with_reducible refine LeO.ite ?_ ?_)
   | (with_reducible refine LeO.bind ?_ (fun _ => ?_))
   | exact ih0 _ _ _
   | exact ih1 _ _ _ _ _
   | exact ih2 _ _ _ _ _ _
   | exact LeO.none _
   | refine LeO.ite ?_ ?_
   | refine LeO.bind ?_ (fun _ => ?_)
  ·intro y0 y1 y2 y3 y4
   unfold spec_FormsOf.l1
   repeat' first
   | (with_reducible exact ih0 _ _ _)
   | (with_reducible exact ih1 _ _ _ _ _)
   | (with_reducible exact ih2 _ _ _ _ _ _)
   | (with_reducible exact LeO.refl _)
   | (with_reducible exact LeO.none _)
   | (with_reducible refine LeO.ite ?_ ?_)
   | (with_reducible refine LeO.bind ?_ (fun _ => ?_))
   | exact ih0 _ _ _
   | exact ih1 _ _ _ _ _
   | exact ih2 _ _ _ _ _ _
   | exact LeO.none _
   | refine LeO.ite ?_ ?_
   | refine LeO.bind ?_ (fun _ => ?_)
  ·intro y0 y1 y2 y3 y4 y5
   unfold spec_FormsOf.l2
   repeat' first
   | (with_reducible exact ih0 _ _ _)
   | (with_reducible exact ih1 _ _ _ _ _)
   | (with_reducible exact ih2 _ _ _ _ _ _)
   | (with_reducible exact LeO.refl _)
   | (with_reducible exact LeO.none _)
   | (with_reducible refine LeO.ite ?_ ?_)
   | (with_reducible refine LeO.bind ?_ (fun _ => ?_))
   | exact ih0 _ _ _
   | exact ih1 _ _ _ _ _
   | exact ih2 _ _ _ _ _ _
   | exact LeO.none _
   | refine LeO.ite ?_ ?_
   | refine LeO.bind ?_ (fun _ => ?_)
theorem spec_FormsOf.mono : ∀ a0 k, LeO (spec_FormsOf.f k a0) (spec_FormsOf.f (k + 1) a0) := by
 intro a0 k; obtain ⟨ih0, ih1, ih2⟩ := spec_FormsOf.mono_l k; unfold spec_FormsOf.f
 repeat' first
   | (with_reducible exact ih0 _ _ _)
   | (with_reducible exact ih1 _ _ _ _ _)
   | (with_reducible exact ih2 _ _ _ _ _ _)
   | (with_reducible exact LeO.refl _)
   | (with_reducible exact LeO.none _)
   | (with_reducible refine LeO.ite ?_ ?_)
   | (with_reducible refine LeO.bind ?_ (fun _ => ?_))
   | exact ih0 _ _ _
   | exact ih1 _ _ _ _ _
   | exact ih2 _ _ _ _ _ _
   | exact LeO.none _
   | refine LeO.ite ?_ ?_
   | refine LeO.bind ?_ (fun _ => ?_)
def spec_FormsOf.T14 : Bool × List (List Nat × List Nat) := (true, [([], []), ([], []), ([], []), ([1, 2], [1, 2]), ([3], [3]), ([], []), ([], []), ([6], [6]), ([5, 7], [5, 7]), ([4, 8], [4, 8]), ([9], [9]), ([0, 10], [0, 10]), ([11, 11, 0, 1, 2, 3, 4, 5, 6, 7, 8, 9, 10, 11], [0, 11])])
def spec_FormsOf.B14 : List Nat := [0, 0, 0, 6, 14, 0, 0, 64, 224, 510, 1022, 2047, 4095]
theorem spec_FormsOf.tab14 : rtab .any (opsOf Try.f38 14) = spec_FormsOf.T14 := by kernel_rfl
theorem spec_FormsOf.bits14 : waitsOk spec_FormsOf.T14.2 spec_FormsOf.B14 = true := by kernel_rfl
theorem spec_FormsOf.calls (k : Nat) (a0 : Int) (r : List ByteArray) (w : World) (h : spec_FormsOf.f k a0 = some r) :
  Calls Try.prog 38 #[.int .i64 a0] w fun e w' => ∃ v0_ : Value, e = .returned (v0_) ∧ Kd.R Kd.string 9 w' w.heap.size (fun _ => True) v0_ r ∧ Below w.heap.size w w' := by
 have HB := qa (qwa w.heap.size w); have H := h; unfold spec_FormsOf.f at H; clear h; obtain ⟨t361, A20, H⟩ := zb H; (try dsimp only at H); have A2 := qa A20; clear A20
 by_cases c3 : t361 = true
 ·subst c3
  rw [if_pos rfl] at H; have H1 := H; clear H; have H := H1; clear H1
  obtain ⟨y365, hy365⟩ : ∃ y_ : List ByteArray, y_ = (([(⟨#[]⟩ : ByteArray)] : List ByteArray)) := ⟨_, rfl⟩
  replace H : (spec_FormsOf.l0 k a0 y365 0) = some r := by first | (rw [hy365]; with_reducible exact H) | (have H2_ := (Option.bind_some _ _).symm.trans H; rw [hy365]; with_reducible exact H2_) | (have H2_ := (Option.bind_some _ _).symm.trans H; with_reducible exact H2_) | with_reducible exact H | (rw [hy365]; exact H) | exact H
  have Ny365 := qa hy365; clear hy365; have H' := qa H; clear H; go_enter Try.func38, Try.ntmps38
  go_wp2_with (first | ((with_reducible refine qqa (f := 71) rfl ?_); refine goesL_ (some 9) rfl rfl Try.func71 (by kernel_rfl) rfl #[.int .i64 a0, .int .i64 0, .int .i64 3] rfl (by (try simp only [qs, qv, qw]); first | done | rfl | (simp only [qu, qt]; rfl)) ?_; (with_reducible refine (spec_l1In.calls a0 0 3 true _ A2.out).mono ?_); rintro e w' ⟨rfl, ⟨nd, rfl⟩⟩; refine ⟨_, rfl, ?_⟩) | ((with_reducible refine gate_dst (N := 12) rfl ?_); refine qza Kd.string _ 9 ?hg (N := 12) ?hd (xs := ([(⟨#[]⟩ : ByteArray)] : List ByteArray)) (inner := [.string (⟨#[]⟩ : ByteArray)]) (ok := fun _ => True) (okp := fun _ => True) ?hr ?hp (fun _ hk => hk) trivial (qwa _ _) (qva _) (by simp) ?_; (case hd => rfl); (case hg => rfl); (case hr => first | (go_simp; done) | (go_simp; rfl)); (case hp => exact (Reps.one (show Kd.M Kd.string _ _ _ (⟨#[]⟩ : ByteArray) [.string (⟨#[]⟩ : ByteArray)] from rfl) (Reps.none _ _))); intro v366 w4 ho5 hb hg_ hnew_; clear hg_ hnew_; (first | rw [← Ny365.out] at ho5 | (simp only [Int.reduceToNat] at ho5; rw [← Ny365.out] at ho5)); have n0_ := qa (qxa ho5 (qp (by repeat (first | (with_reducible first | exact HB.out | apply qh | apply qe | apply qg) | exact HB.out)))); have n1_ := qa (qba (by repeat (first | (with_reducible first | exact HB.out | apply qh | apply qe | apply qg) | exact HB.out)) hb); clear HB; have HO367 := n0_; have HB := n1_; clear n0_ n1_; clear hb ho5))
  go_loopg [3, 4] k (fun kq v3 v4 w' => ∃ (x3_1 : List ByteArray) (x4_1 : Int), v4 = .int .i64 x4_1 ∧ Aside0 (spec_FormsOf.l0 kq a0 x3_1 x4_1 = some r) ∧ Aside0 (kq ≤ k) ∧ Aside0 (Kd.R Kd.string 9 w' w.heap.size (fun _ => True) v3 x3_1) ∧ Aside0 (Below w.heap.size w w'))
  case atStart => exact ⟨(y365), (0), (by first | rfl | (simp; done) | (simp [*]; done)), H', ⟨qva _⟩, ⟨by (with_reducible repeat first | apply qx | apply qy | apply qz); exact HO367.out⟩, ⟨by repeat (first | (with_reducible first | exact HB.out | apply qh | apply qe | apply qg) | exact HB.out)⟩⟩
  case round =>
   clear H'; (try clear p2); (try clear c3); obtain ⟨x3_1, x4_1, rfl, HA, HK1, HO_3, HB⟩ := hrel
   cases gk with
   | zero => exact absurd HA.out (by simp [spec_FormsOf.l0])
   | succ k1 =>
    have H := HA.out; clear HA; simp only [spec_FormsOf.l0] at H
    by_cases c6 : x4_1 < a0
    ·rw [if_pos c6] at H
     have c6b0 : decide (x4_1 < a0) = true := qq c6; clear c6
     obtain ⟨y368, hy368⟩ : ∃ y_ : List ByteArray, y_ = (([] : List ByteArray)) := ⟨_, rfl⟩
     replace H : (spec_FormsOf.l1 k1 a0 x3_1 x4_1 y368 0) = some r := by first | (rw [hy368]; with_reducible exact H) | (have H2_ := (Option.bind_some _ _).symm.trans H; rw [hy368]; with_reducible exact H2_) | (have H2_ := (Option.bind_some _ _).symm.trans H; with_reducible exact H2_) | with_reducible exact H | (rw [hy368]; exact H) | exact H
     have Ny368 := qa hy368; clear hy368; have H' := qa H; clear H
     go_wp2_with (first | ((with_reducible refine gate_dst (N := 18) rfl ?_); refine qza Kd.string _ 9 ?hg (N := 18) ?hd (xs := ([] : List ByteArray)) (inner := []) (ok := fun _ => True) (okp := fun _ => True) ?hr ?hp (fun _ hk => hk) trivial (qwa _ _) (qva _) (by simp) ?_; (case hd => rfl); (case hg => rfl); (case hr => first | (go_simp; done) | (go_simp; rfl)); (case hp => exact (Reps.none _ _)); intro v369 w7 ho8 hb hg_ hnew_; clear hg_ hnew_; (first | rw [← Ny368.out] at ho8 | (simp only [Int.reduceToNat] at ho8; rw [← Ny368.out] at ho8)); have n0_ := qa (qsa (by (with_reducible repeat first | apply qx | apply qy | apply qz); exact HO_3.out) (qya ho8) hb); have n1_ := qa (qxa (Kd.R_new' ho8 (Kd.R_lt (by (with_reducible repeat first | apply qx | apply qy | apply qz); exact HO_3.out))) (qp (by repeat (first | (with_reducible first | exact HB.out | apply qh | apply qe | apply qg) | exact HB.out)))); have n2_ := qa (qba (by repeat (first | (with_reducible first | exact HB.out | apply qh | apply qe | apply qg) | exact HB.out)) hb); clear HO_3; clear HB; have HO_3 := n0_; have HO370 := n1_; have HB := n2_; clear n0_ n1_ n2_; clear hb ho8))
     go_loopg [5, 6] k1 (fun kq v5 v6 w' => ∃ (x5_2 : List ByteArray) (x6_2 : Int), v6 = .int .i64 x6_2 ∧ Aside0 (spec_FormsOf.l1 kq a0 x3_1 x4_1 x5_2 x6_2 = some r) ∧ Aside0 (kq ≤ k1) ∧ Aside0 (Kd.R Kd.string 9 w' w.heap.size (fun k_ => some k_ ≠ (v5 : Value).ownBlock) u3 x3_1) ∧ Aside0 (Kd.R Kd.string 9 w' w.heap.size (fun k_ => some k_ ≠ (u3 : Value).ownBlock) v5 x5_2) ∧ Aside0 (Below w.heap.size w w'))
     case atStart => exact ⟨(y368), (0), (by first | rfl | (simp; done) | (simp [*]; done)), H', ⟨qva _⟩, ⟨by (with_reducible repeat first | apply qx | apply qy | apply qz); exact qga HO_3.out (fun _ hk => hk.2)⟩, ⟨by (with_reducible repeat first | apply qx | apply qy | apply qz); exact qga HO370.out (fun _ hk => hk.2)⟩, ⟨by repeat (first | (with_reducible first | exact HB.out | apply qh | apply qe | apply qg) | exact HB.out)⟩⟩
     case round =>
      clear H'; (try clear p2); (try clear c3); (try clear c6); (try clear c6b0); (try clear c7); (try clear p2); obtain ⟨x5_2, x6_2, rfl, HA, HK2, HO_3, HO_5, HB⟩ := hrel
      cases gk with
      | zero => exact absurd HA.out (by simp [spec_FormsOf.l1])
      | succ k2 =>
       have H := HA.out; clear HA; simp only [spec_FormsOf.l1] at H
       by_cases c9 : x6_2 < (x3_1.length : Int)
       ·rw [if_pos c9] at H
        have c9b0 : decide (x6_2 < (x3_1.length : Int)) = true := qq c9; clear c9; have H' := qa H; clear H; obtain ⟨Ao10, co10, eo10⟩ := Kd.R_slice HO_3.out; subst eo10; go_wp2
        go_loopg [5, 7] k2 (fun kq v5 v7 w' => ∃ (x5_3 : List ByteArray) (x7_3 : Int), v7 = .int .i64 x7_3 ∧ Aside0 (spec_FormsOf.l2 kq a0 x3_1 x4_1 x5_3 x6_2 x7_3 = some r) ∧ Aside0 (kq ≤ k2) ∧ Aside0 (Kd.R Kd.string 9 w' w.heap.size (fun k_ => some k_ ≠ (v5 : Value).ownBlock) (.slice Ao10 x3_1.length co10) x3_1) ∧ Aside0 (Kd.R Kd.string 9 w' w.heap.size (fun k_ => some k_ ≠ ((.slice Ao10 x3_1.length co10) : Value).ownBlock) v5 x5_3) ∧ Aside0 (Below w.heap.size w w'))
        case atStart => exact ⟨(x5_2), (0), (by first | rfl | (simp; done) | (simp [*]; done)), H', ⟨qva _⟩, ⟨by (with_reducible repeat first | apply qx | apply qy | apply qz); exact HO_3.out⟩, ⟨by (with_reducible repeat first | apply qx | apply qy | apply qz); exact HO_5.out⟩, ⟨by repeat (first | (with_reducible first | exact HB.out | apply qh | apply qe | apply qg) | exact HB.out)⟩⟩
        case round =>
         clear H'; (try clear p2); (try clear c3); (try clear c6); (try clear c6b0); (try clear c7); (try clear c9); (try clear c9b0); (try clear p2); obtain ⟨x5_3, x7_3, rfl, HA, HK3, HO_3, HO_5, HB⟩ := hrel
         cases gk with
         | zero => exact absurd HA.out (by simp [spec_FormsOf.l2])
         | succ k3 =>
          have H := HA.out; clear HA; simp only [spec_FormsOf.l2] at H
          by_cases c11 : x7_3 < 7
          ·rw [if_pos c11] at H
           have c11b0 : decide (x7_3 < 7) = true := qq c11; clear c11
           by_cases c12 : 0 ≤ x6_2
           ·rw [if_pos c12] at H
            have c12b0 : decide (0 ≤ x6_2) = true := qq c12; clear c12
            by_cases c13 : x6_2 < (x3_1.length : Int)
            ·rw [if_pos c13] at H
             have c13b0 : decide (x6_2 < (x3_1.length : Int)) = true := qq c13; clear c13
             by_cases c14 : 0 ≤ x7_3
             ·rw [if_pos c14] at H
              have c14b0 := qaa c14; have c14b1 : decide (0 ≤ x7_3) = true := qq c14; clear c14
              by_cases c15 : x7_3 ≤ (wrap64 (x7_3 + 1))
              ·rw [if_pos c15] at H
               have c15b0 := qaa c15; have c15b1 : decide (x7_3 ≤ (wrap64 (x7_3 + 1))) = true := qq c15
               by_cases c16 : (wrap64 (x7_3 + 1)) ≤ 7
               ·rw [if_pos c16] at H
                have c16b0 := qaa c16; have c16b1 : decide ((wrap64 (x7_3 + 1)) ≤ 7) = true := qq c16
                by_cases c17 : (rdOf ByteArray.empty x3_1 x6_2).size + ((⟨#[112, 116, 98, 100, 110, 97, 105]⟩ : ByteArray).extract (x7_3 : Int).toNat ((wrap64 (x7_3 + 1)) : Int).toNat).size ≤ 9223372036854775807
                ·rw [if_pos c17] at H
                 have c17b0 := qaa c17; have c17b1 : decide ((rdOf ByteArray.empty x3_1 x6_2).size + ((⟨#[112, 116, 98, 100, 110, 97, 105]⟩ : ByteArray).extract (x7_3 : Int).toNat ((wrap64 (x7_3 + 1)) : Int).toNat).size ≤ 9223372036854775807) = true := qq c17; (try have c17x : (9223372036854775807 < (rdOf ByteArray.empty x3_1 x6_2).size + ((wrap64 (x7_3 + 1)).toNat - x7_3.toNat)) = False := eq_false (by have h_ := c17; (try simp only [decide_eq_true_eq] at *); (try simp only [ByteArray.size_append, ByteArray.size_extract] at h_); have hl0_ : (⟨#[112, 116, 98, 100, 110, 97, 105]⟩ : ByteArray).size = 7 := rfl; omega))
                 try have c17b2 : (9223372036854775807 < (rdOf ByteArray.empty x3_1 x6_2).size + ((⟨#[112, 116, 98, 100, 110, 97, 105]⟩ : ByteArray).extract (x7_3 : Int).toNat ((wrap64 (x7_3 + 1)) : Int).toNat).size) = False := eq_false (Nat.not_lt.2 c17)
                 by_cases c18 : x5_3.length < 8796093022208
                 ·rw [if_pos c18] at H
                  have LMc18 := qa c18; clear c18
                  obtain ⟨y372, hy372⟩ : ∃ y_ : List ByteArray, y_ = (x5_3 ++ [(rdOf ByteArray.empty x3_1 x6_2) ++ ((⟨#[112, 116, 98, 100, 110, 97, 105]⟩ : ByteArray).extract (x7_3 : Int).toNat ((wrap64 (x7_3 + 1)) : Int).toNat)]) := ⟨_, rfl⟩
                  replace H : (spec_FormsOf.l2 k3 a0 x3_1 x4_1 y372 x6_2 (wrap64 (x7_3 + 1))) = some r := by first | (rw [hy372]; with_reducible exact H) | (have H2_ := (Option.bind_some _ _).symm.trans H; rw [hy372]; with_reducible exact H2_) | (have H2_ := (Option.bind_some _ _).symm.trans H; with_reducible exact H2_) | with_reducible exact H | (rw [hy372]; exact H) | exact H
                  have Ny372 := qa hy372; clear hy372; have H' := qa H; clear H
                  try go_wp2
                  have n0_ := qa (qz HO_3.out); have n1_ := qa (qz HO_5.out); have n2_ := qa (qg HB.out); clear HO_3 HO_5 HB; have HO_3 := n0_; have HO_5 := n1_; have HB := n2_; clear n0_ n1_ n2_; have p371 : 0 ≤ (x6_2 : Int) := qm (by assumption); have q371 : x6_2 < (x3_1.length : Int) := qm (by assumption); obtain ⟨ad371, e371, hx371_0⟩ := Kd.at_string (qra HO_3.out).2.2 x6_2 p371 q371; cases e371; replace p371 := qaa p371; replace q371 := qaa q371; refine start_ (n := 13) (S := fun w' => w'.cell? (ad371.add (x6_2).toNat) = some (.string (rdOf ByteArray.empty x3_1 x6_2))) (ds := [10, 11]) #[false, false, false, false, false, false, false, false, false, false, false, false, false] (by kernel_rfl) rfl rfl (hx371_0) (fun hHeld => ?_); refine with_tabW spec_FormsOf.tab14 spec_FormsOf.bits14 (fun HT_ HW_ => ?_); generalize wr.drew = w19 at HO_3 HO_5 HB hx371_0 hHeld ⊢; refine pure_ (i := 0) (N := some 29) (v := ?_) (a' := ?_) #[true, false, false, false, false, false, false, false, false, false, false, false, false] rfl rfl (qla HT_.out (by kernel_rfl)) (fun _ _ _ h => h) (Or.inl ⟨by rfl, ?_⟩) ?_ ?_; rotate_left
                  ·intro w'
                   go_simp; with_reducible rfl
                  rotate_left
                  ·simp only [Act.put, qb, qc, qd, i64_w, i32_w]
                   rfl
                  refine pure_ (i := 1) (N := some 30) (v := ?_) (a' := ?_) #[true, true, false, false, false, false, false, false, false, false, false, false, false] rfl rfl (qla HT_.out (by kernel_rfl)) (fun _ _ _ h => h) (Or.inl ⟨by rfl, ?_⟩) ?_ ?_; rotate_left
                  ·intro w'
                   go_simp; with_reducible rfl
                  rotate_left
                  ·simp only [Act.put, qb, qc, qd, i64_w, i32_w]
                   rfl
                  refine pure_ (i := 2) (N := some 31) (v := ?_) (a' := ?_) #[true, true, true, false, false, false, false, false, false, false, false, false, false] rfl rfl (qla HT_.out (by kernel_rfl)) (fun _ _ _ h => h) (Or.inl ⟨by rfl, ?_⟩) ?_ ?_; rotate_left
                  ·intro w'
                   go_simp; with_reducible rfl
                  rotate_left
                  ·simp only [Act.put, qb, qc, qd, i64_w, i32_w]
                   rfl
                  refine pure_ (i := 3) (N := some 32) (v := ?_) (a' := ?_) #[true, true, true, true, false, false, false, false, false, false, false, false, false] rfl rfl (qla HT_.out (by kernel_rfl)) (fun _ _ _ h => h) (Or.inl ⟨by rfl, ?_⟩) ?_ ?_; rotate_left
                  ·intro w'
                   go_simp; with_reducible rfl
                  rotate_left
                  ·simp only [Act.put, qb, qc, qd, i64_w, i32_w]
                   rfl
                  refine pure_ (i := 5) (N := some 34) (v := ?_) (a' := ?_) #[true, true, true, true, false, true, false, false, false, false, false, false, false] rfl rfl (qla HT_.out (by kernel_rfl)) (fun _ _ _ h => h) (Or.inl ⟨by rfl, ?_⟩) ?_ ?_; rotate_left
                  ·intro w'
                   go_simp; with_reducible rfl
                  rotate_left
                  ·simp only [Act.put, qb, qc, qd, i64_w, i32_w]
                   rfl
                  refine pure_ (i := 6) (N := some 35) (v := ?_) (a' := ?_) #[true, true, true, true, false, true, true, false, false, false, false, false, false] rfl rfl (qla HT_.out (by kernel_rfl)) (fun _ _ _ h => h) (Or.inl ⟨by rfl, ?_⟩) ?_ ?_; rotate_left
                  ·intro w'
                   go_simp; with_reducible rfl
                  rotate_left
                  ·simp only [Act.put, qb, qc, qd, i64_w, i32_w]
                   rfl
                  refine pure_ (i := 7) (N := some 36) (v := ?_) (a' := ?_) #[true, true, true, true, false, true, true, true, false, false, false, false, false] rfl rfl (qla HT_.out (by kernel_rfl)) (fun _ _ _ h => h) (Or.inl ⟨by rfl, ?_⟩) ?_ ?_; rotate_left
                  ·intro w'
                   go_simp; with_reducible rfl
                  rotate_left
                  ·simp only [Act.put, qb, qc, qd, i64_w, i32_w]
                   rfl
                  refine pure_ (i := 8) (N := some 37) (v := ?_) (a' := ?_) #[true, true, true, true, false, true, true, true, true, false, false, false, false] rfl rfl (qla HT_.out (by kernel_rfl)) (fun _ _ _ h => h) (Or.inl ⟨by rfl, ?_⟩) ?_ ?_; rotate_left
                  ·intro w'
                   go_simp; with_reducible rfl
                  rotate_left
                  ·simp only [Act.put, qb, qc, qd, i64_w, i32_w]
                   rfl
                  refine take_ (i := 4) (N := some 33) (v := ?_) (a' := ?_) #[true, true, true, true, true, true, true, true, true, false, false, false, false] rfl rfl (qma HT_.out HW_.out (by kernel_rfl)) (fun _ _ _ h => h) (Or.inl ⟨by rfl, ?_⟩) hHeld ?_ ?_; rotate_left
                  ·intro w' s0
                   go_simp; with_reducible rfl
                  rotate_left
                  ·simp only [Act.put, qb, qc, qd, i64_w, i32_w]
                   rfl
                  refine pure_ (i := 9) (N := some 38) (v := ?_) (a' := ?_) #[true, true, true, true, true, true, true, true, true, true, false, false, false] rfl rfl (qla HT_.out (by kernel_rfl)) (fun _ _ _ h => h) (Or.inl ⟨by rfl, ?_⟩) ?_ ?_; rotate_left
                  ·intro w'
                   go_simp; with_reducible rfl
                  rotate_left
                  ·simp only [Act.put, qb, qc, qd, i64_w, i32_w]
                   rfl
                  refine last_ (i := 10) (N := some 39) #[true, true, true, true, true, true, true, true, true, true, true, false, false] rfl rfl (qna HT_.out (by kernel_rfl)) (by decide) (fun K hK => ?_); refine value_ (w1 := ?_) (v := ?_) (by rfl) rfl ?_ ?_; rotate_left 2
                  ·go_simp
                   constructor
                   ·rfl
                   ·rfl
                  refine hK.out _ _ ?_; clear hK K; refine norm_ (a' := ?_) ?_ ?_; rotate_left
                  ·show Act.put _ (some 39) _ = _
                   simp only [Act.put, qb, qc, qd, i64_w, i32_w]; rfl
                  refine last_ (i := 11) (N := some 40) #[true, true, true, true, true, true, true, true, true, true, true, true, false] rfl rfl (qna HT_.out (by kernel_rfl)) (by decide) (fun K hK => ?_); refine Kd.R_append_step Kd.string (w0 := w) w.heap.size (by rfl) (.tmp 29) (.tmp 39) 25 9 (.string ⟨#[]⟩) 16 rfl Try.underlying25 info9 rfl (by decide) (by omega) u5 x5_3 ((rdOf ByteArray.empty x3_1 x6_2) ++ ((⟨#[112, 116, 98, 100, 110, 97, 105]⟩ : ByteArray).extract (x7_3 : Int).toNat ((wrap64 (x7_3 + 1)) : Int).toNat)) [.string ((rdOf ByteArray.empty x3_1 x6_2) ++ ((⟨#[112, 116, 98, 100, 110, 97, 105]⟩ : ByteArray).extract (x7_3 : Int).toNat ((wrap64 (x7_3 + 1)) : Int).toNat))] (fun k_ => some k_ ≠ (.slice (some ad371) x3_1.length co10 : Value).ownBlock) (fun _ => False) rfl rfl ?aP (fun _ hk => hk.elim) ?aF ?aO ?aB ?aS ?aL ?_
                  (case aP => exact rfl)
                  (case aB => exact (by repeat (first | (with_reducible first | exact HB.out | apply qh | apply qe | apply qg) | exact HB.out)))
                  (case aF => exact (fun k_ hk => Kd.fresh' (Kd.R_lt (by (with_reducible repeat first | apply qx | apply qy | apply qz); exact HO_3.out)) k_ hk))
                  (case aO => exact (by (with_reducible repeat first | apply qx | apply qy | apply qz); exact HO_5.out))
                  (case aS => exact (qp (by repeat (first | (with_reducible first | exact HB.out | apply qh | apply qe | apply qg) | exact HB.out))))
                  (case aL => have := LMc18.out; omega)
                  intro v373 w20 ho hb hg hat; rw [← Ny372.out] at ho; have n0_ := qa (Kd.R_after (ok := (fun _ => True)) (by (with_reducible repeat first | apply qx | apply qy | apply qz); exact qga HO_3.out (fun _ hk => ⟨trivial, hk⟩)) hg hat); have n1_ := qa (hb); have n2_ := qa (ho); clear HO_3 HB HO_5; have HO_3 := n0_; have HB := n1_; have HO374 := n2_; clear n0_ n1_ n2_ ho hb hg hat; refine hK.out _ _ ?_; clear hK K; refine norm_ (a' := ?_) ?_ ?_; rotate_left
                  ·show Act.put _ (some 40) _ = _
                   simp only [Act.put, qb, qc, qd, i64_w, i32_w]; rfl
                  refine pure_ (i := 12) (N := some 5) (v := ?_) (a' := ?_) #[true, true, true, true, true, true, true, true, true, true, true, true, true] rfl rfl (qla HT_.out (by kernel_rfl)) (fun _ _ _ h => h) (Or.inl ⟨by rfl, ?_⟩) ?_ ?_; rotate_left
                  ·intro w'
                   go_simp; with_reducible rfl
                  rotate_left
                  ·simp only [Act.put, qb, qc, qd, i64_w, i32_w]
                   rfl
                  refine done_ (done_of HT_.out (by kernel_rfl)) ?_
                  try go_wp2
                  go_roundg k3
                  case measure => have := HK1.out; have := HK2.out; have := HK3.out; omega
                  case rel => exact ⟨(y372), (wrap64 (x7_3 + 1)), (by first | rfl | (simp; done) | (simp [*]; done)), H', ⟨by have := HK1.out; have := HK2.out; have := HK3.out; omega⟩, ⟨by (with_reducible repeat first | apply qx | apply qy | apply qz); exact qga HO_3.out (fun _ hk => hk.2)⟩, ⟨by (with_reducible repeat first | apply qx | apply qy | apply qz); exact HO374.out⟩, ⟨by repeat (first | (with_reducible first | exact HB.out | apply qh | apply qe | apply qg) | exact HB.out)⟩⟩
                 ·rw [if_neg c18] at H
                  exact absurd H (by simp)
                ·rw [if_neg c17] at H
                 exact absurd H (by simp)
               ·rw [if_neg c16] at H
                exact absurd H (by simp)
              ·rw [if_neg c15] at H
               exact absurd H (by simp)
             ·rw [if_neg c14] at H
              exact absurd H (by simp)
            ·rw [if_neg c13] at H
             exact absurd H (by simp)
           ·rw [if_neg c12] at H
            exact absurd H (by simp)
          ·rw [if_neg c11] at H
           have c11b0 : decide (x7_3 < 7) = false := qr c11; clear c11; have H' := qa H; clear H; go_wp2
           go_roundg k3
           case measure => have := HK1.out; have := HK2.out; have := HK3.out; omega
           case rel => exact ⟨(x5_3), (wrap64 (x6_2 + 1)), (by first | rfl | (simp; done) | (simp [*]; done)), H', ⟨by have := HK1.out; have := HK2.out; have := HK3.out; omega⟩, ⟨by (with_reducible repeat first | apply qx | apply qy | apply qz); exact HO_3.out⟩, ⟨by (with_reducible repeat first | apply qx | apply qy | apply qz); exact HO_5.out⟩, ⟨by repeat (first | (with_reducible first | exact HB.out | apply qh | apply qe | apply qg) | exact HB.out)⟩⟩
       ·rw [if_neg c9] at H
        have c9b0 : decide (x6_2 < (x3_1.length : Int)) = false := qr c9; clear c9; have H' := qa H; clear H; obtain ⟨Ao21, co21, eo21⟩ := Kd.R_slice HO_3.out; subst eo21; go_wp2
        go_roundg k2
        case measure => have := HK1.out; have := HK2.out; omega
        case rel => exact ⟨(x5_2), (wrap64 (x4_1 + 1)), (by first | rfl | (simp; done) | (simp [*]; done)), H', ⟨by have := HK1.out; have := HK2.out; omega⟩, ⟨by (with_reducible repeat first | apply qx | apply qy | apply qz); exact qga HO_5.out (fun _ hk => trivial)⟩, ⟨by repeat (first | (with_reducible first | exact HB.out | apply qh | apply qe | apply qg) | exact HB.out)⟩⟩
    ·rw [if_neg c6] at H
     have c6b0 : decide (x4_1 < a0) = false := qr c6; clear c6; obtain rfl := qca H; go_wp2; go_ret; exact ⟨_, by first | rfl | (simp [*] <;> rfl), by (with_reducible repeat first | apply qx | apply qy | apply qz); exact HO_3.out, by repeat (first | (with_reducible first | exact HB.out | apply qh | apply qe | apply qg) | exact HB.out)⟩
 ·replace c3 := Bool.eq_false_iff.mpr c3
  subst c3; rw [if_neg (show ¬ (false = true) by decide)] at H; have H1 := H; clear H; have H := H1; clear H1
  obtain ⟨y362, hy362⟩ : ∃ y_ : List ByteArray, y_ = (([] : List ByteArray)) := ⟨_, rfl⟩
  replace H : (some y362) = some r := by first | (rw [hy362]; with_reducible exact H) | (have H2_ := (Option.bind_some _ _).symm.trans H; rw [hy362]; with_reducible exact H2_) | (have H2_ := (Option.bind_some _ _).symm.trans H; with_reducible exact H2_) | with_reducible exact H | (rw [hy362]; exact H) | exact H
  have Ny362 := qa hy362; clear hy362; obtain rfl := qca H; go_enter Try.func38, Try.ntmps38
  go_wp2_with (first | ((with_reducible refine qqa (f := 71) rfl ?_); refine goesL_ (some 9) rfl rfl Try.func71 (by kernel_rfl) rfl #[.int .i64 a0, .int .i64 0, .int .i64 3] rfl (by (try simp only [qs, qv, qw]); first | done | rfl | (simp only [qu, qt]; rfl)) ?_; (with_reducible refine (spec_l1In.calls a0 0 3 false _ A2.out).mono ?_); rintro e w' ⟨rfl, ⟨nd, rfl⟩⟩; refine ⟨_, rfl, ?_⟩) | ((with_reducible refine gate_dst (N := 11) rfl ?_); refine qza Kd.string _ 9 ?hg (N := 11) ?hd (xs := ([] : List ByteArray)) (inner := []) (ok := fun _ => True) (okp := fun _ => True) ?hr ?hp (fun _ hk => hk) trivial (qwa _ _) (qva _) (by simp) ?_; (case hd => rfl); (case hg => rfl); (case hr => first | (go_simp; done) | (go_simp; rfl)); (case hp => exact (Reps.none _ _)); intro v363 w22 ho23 hb hg_ hnew_; clear hg_ hnew_; (first | rw [← Ny362.out] at ho23 | (simp only [Int.reduceToNat] at ho23; rw [← Ny362.out] at ho23)); have n0_ := qa (qxa ho23 (qp (by repeat (first | (with_reducible first | exact HB.out | apply qh | apply qe | apply qg) | exact HB.out)))); have n1_ := qa (qba (by repeat (first | (with_reducible first | exact HB.out | apply qh | apply qe | apply qg) | exact HB.out)) hb); clear HB; have HO364 := n0_; have HB := n1_; clear n0_ n1_; clear hb ho23))
  go_ret; exact ⟨_, by first | rfl | (simp [*] <;> rfl), by (with_reducible repeat first | apply qx | apply qy | apply qz); exact HO364.out, by repeat (first | (with_reducible first | exact HB.out | apply qh | apply qe | apply qg) | exact HB.out)⟩
end Go.Proofs.Ytkjpbhncgjhfeaa.PFnForms
