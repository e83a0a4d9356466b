import Derived.Test.YtkjpbhncgjhfeaaPFnFormsx0
import Derived.Test.YtkjpbhncgjhfeaaPFnFormsx2
import Derived.Test.YtkjpbhncgjhfeaaPFnFormsx3
namespace Go.Proofs.Ytkjpbhncgjhfeaa.PFnForms
open Go.RowKit Go.Proofs.YtkjpbhncgjhfeaaW.PrintWords Go.Proofs.YtkjpbhncgjhfeaaW.PrintLast Go.Proofs.YtkjpbhncgjhfeaaW.PrintMore
attribute [local go_sem] max2_int min2_int max_two min_two max_three min_three max_four min_four
set_option linter.unusedVariables false
set_option linter.unusedSimpArgs false
set_option maxHeartbeats 8000000
set_option maxRecDepth 100000
mutual
def impl_NeighboursOf.j0 : Nat → ByteArray → Bool → Option (List ByteArray)
 | 0, _, _ => none
 | k + 1, x0, x14 => if x14 = true then (some ([] : List ByteArray)) else (impl_NeighboursOf.l0 k x0 (([] : List ByteArray)) (wrap64 ((x0.size : Int) + 1)) 0)
def impl_NeighboursOf.l0 : Nat → ByteArray → List ByteArray → Int → Int → Option (List ByteArray)
 | 0, _, _, _, _ => none
 | k + 1, x0, x3, x18, x19 => if x19 < x18 then (impl_NeighboursOf.l1 k x0 x3 x19 x18 x19 0) else (some x3)
def impl_NeighboursOf.l1 : Nat → ByteArray → List ByteArray → Int → Int → Int → Int → Option (List ByteArray)
 | 0, _, _, _, _, _, _ => none
 | k + 1, x0, x3, x4, x18, x19, x22 => if x22 < 7 then (if 0 ≤ x22 then (if x22 ≤ (wrap64 (x22 + 1)) then (if (wrap64 (x22 + 1)) ≤ 7 then (if 0 ≤ x4 then (if x4 ≤ (x0.size : Int) then (if (x0.extract 0 (x4 : Int).toNat).size + ((⟨#[112, 116, 98, 100, 110, 97, 105]⟩ : ByteArray).extract (x22 : Int).toNat ((wrap64 (x22 + 1)) : Int).toNat).size ≤ 9223372036854775807 then (if ((x0.extract 0 (x4 : Int).toNat) ++ ((⟨#[112, 116, 98, 100, 110, 97, 105]⟩ : ByteArray).extract (x22 : Int).toNat ((wrap64 (x22 + 1)) : Int).toNat)).size + (x0.extract (x4 : Int).toNat x0.size).size ≤ 9223372036854775807 then ((impl_addOnce.f k x3 (((x0.extract 0 (x4 : Int).toNat) ++ ((⟨#[112, 116, 98, 100, 110, 97, 105]⟩ : ByteArray).extract (x22 : Int).toNat ((wrap64 (x22 + 1)) : Int).toNat)) ++ (x0.extract (x4 : Int).toNat x0.size))).bind fun t167 => (if x4 < (x0.size : Int) then (if 0 < (((⟨#[112, 116, 98, 100, 110, 97, 105]⟩ : ByteArray).extract (x22 : Int).toNat ((wrap64 (x22 + 1)) : Int).toNat).size : Int) then (if (bt x0 x4) = (bt ((⟨#[112, 116, 98, 100, 110, 97, 105]⟩ : ByteArray).extract (x22 : Int).toNat ((wrap64 (x22 + 1)) : Int).toNat) 0) then (impl_NeighboursOf.l1 k x0 t167 x4 x18 x19 (wrap64 (x22 + 1))) else (if 0 ≤ (wrap64 (x4 + 1)) then (if (wrap64 (x4 + 1)) ≤ (x0.size : Int) then (if ((x0.extract 0 (x4 : Int).toNat) ++ ((⟨#[112, 116, 98, 100, 110, 97, 105]⟩ : ByteArray).extract (x22 : Int).toNat ((wrap64 (x22 + 1)) : Int).toNat)).size + (x0.extract ((wrap64 (x4 + 1)) : Int).toNat x0.size).size ≤ 9223372036854775807 then ((impl_addOnce.f k t167 (((x0.extract 0 (x4 : Int).toNat) ++ ((⟨#[112, 116, 98, 100, 110, 97, 105]⟩ : ByteArray).extract (x22 : Int).toNat ((wrap64 (x22 + 1)) : Int).toNat)) ++ (x0.extract ((wrap64 (x4 + 1)) : Int).toNat x0.size))).bind fun t170 => (impl_NeighboursOf.l1 k x0 t170 x4 x18 x19 (wrap64 (x22 + 1)))) else (none)) else (none)) else (none))) else (none)) else (impl_NeighboursOf.l1 k x0 t167 x4 x18 x19 (wrap64 (x22 + 1))))) else (none)) else (none)) else (none)) else (none)) else (none)) else (none)) else (none)) else (if x4 < (x0.size : Int) then (if 0 ≤ x4 then (if x4 ≤ (x0.size : Int) then (if 0 ≤ (wrap64 (x4 + 1)) then (if (wrap64 (x4 + 1)) ≤ (x0.size : Int) then (if (x0.extract 0 (x4 : Int).toNat).size + (x0.extract ((wrap64 (x4 + 1)) : Int).toNat x0.size).size ≤ 9223372036854775807 then ((impl_addOnce.f k x3 ((x0.extract 0 (x4 : Int).toNat) ++ (x0.extract ((wrap64 (x4 + 1)) : Int).toNat x0.size))).bind fun t164 => (impl_NeighboursOf.l0 k x0 t164 x18 (wrap64 (x19 + 1)))) else (none)) else (none)) else (none)) else (none)) else (none)) else (impl_NeighboursOf.l0 k x0 x3 x18 (wrap64 (x19 + 1))))
end
def impl_NeighboursOf.f (k : Nat) (a0 : ByteArray) : Option (List ByteArray) := (impl_IsForm.f k a0).bind fun t160 => (if t160 = true then (impl_NeighboursOf.j0 k a0 ((a0.size : Int) == 8)) else (impl_NeighboursOf.j0 k a0 true))
def impl_NeighboursOf.T11 : Bool × List (List Nat × List Nat) := (true, [([], []), ([], []), ([], []), ([1, 2], [1, 2]), ([], []), ([3, 4], [3, 4]), ([], []), ([], []), ([6, 7], [6, 7]), ([5, 8], [5, 8]), ([0, 9], [0, 9]), ([10, 10, 0, 1, 2, 3, 4, 5, 6, 7, 8, 9, 10], [0, 10])])
def impl_NeighboursOf.B11 : List Nat := [0, 0, 0, 6, 0, 30, 0, 0, 192, 510, 1023, 2047]
theorem impl_NeighboursOf.tab11 : rtab .any (opsOf Try.f7 11) = impl_NeighboursOf.T11 := by kernel_rfl
theorem impl_NeighboursOf.bits11 : waitsOk impl_NeighboursOf.T11.2 impl_NeighboursOf.B11 = true := by kernel_rfl
def impl_NeighboursOf.T12 : Bool × List (List Nat × List Nat) := (true, [([], []), ([], []), ([1], [1]), ([0, 2], [0, 2]), ([3], [3]), ([4], [4]), ([4], [4]), ([5, 6, 4], [4, 5, 6]), ([4], [4]), ([8, 4], [4, 8]), ([7, 9, 4], [4, 7, 9]), ([4, 10], [4, 10])])
def impl_NeighboursOf.B12 : List Nat := [0, 0, 2, 7, 15, 31, 31, 127, 31, 287, 1023, 2047]
theorem impl_NeighboursOf.tab12 : rtab .any (opsOf Try.f7 12) = impl_NeighboursOf.T12 := by kernel_rfl
theorem impl_NeighboursOf.bits12 : waitsOk impl_NeighboursOf.T12.2 impl_NeighboursOf.B12 = true := by kernel_rfl
def impl_NeighboursOf.T13 : Bool × List (List Nat × List Nat) := (true, [([], []), ([], []), ([], []), ([1, 2], [1, 2]), ([], []), ([3, 4], [3, 4]), ([], []), ([], []), ([7], [7]), ([6, 8], [6, 8]), ([5, 9], [5, 9]), ([0, 10], [0, 10]), ([11, 11, 0, 1, 2, 3, 4, 5, 6, 7, 8, 9, 10, 11], [0, 11])])
def impl_NeighboursOf.B13 : List Nat := [0, 0, 0, 6, 0, 30, 0, 0, 128, 448, 1022, 2047, 4095]
theorem impl_NeighboursOf.tab13 : rtab .any (opsOf Try.f7 13) = impl_NeighboursOf.T13 := by kernel_rfl
theorem impl_NeighboursOf.bits13 : waitsOk impl_NeighboursOf.T13.2 impl_NeighboursOf.B13 = true := by kernel_rfl
def impl_NeighboursOf.T16 : Bool × List (List Nat × List Nat) := (true, [([], []), ([], []), ([], []), ([1, 2], [1, 2]), ([], []), ([], []), ([5], [5]), ([4, 6], [4, 6]), ([3, 7], [3, 7]), ([0, 8], [0, 8]), ([9, 9, 0, 1, 2, 3, 4, 5, 6, 7, 8, 9], [0, 9])])
def impl_NeighboursOf.B16 : List Nat := [0, 0, 0, 6, 0, 0, 32, 112, 254, 511, 1023]
theorem impl_NeighboursOf.tab16 : rtab .any (opsOf Try.f7 16) = impl_NeighboursOf.T16 := by kernel_rfl
theorem impl_NeighboursOf.bits16 : waitsOk impl_NeighboursOf.T16.2 impl_NeighboursOf.B16 = true := by kernel_rfl
theorem impl_NeighboursOf.calls (k : Nat) (a0 : ByteArray) (r : List ByteArray) (w : World) (h : impl_NeighboursOf.f k a0 = some r) :
  Calls Try.prog 7 #[.string a0] w fun e w' => ∃ v0_ : Value, e = .returned (v0_) ∧ Kd.R Kd.string 9 w' w.heap.size (fun _ => True) v0_ r ∧ Below w.heap.size w w' := by
 have HB := qa (qwa w.heap.size w); have H := h; unfold impl_NeighboursOf.f at H; clear h; have HC2 := qa H; clear H; go_enter Try.func7, Try.ntmps7
 go_upto_region 1 with (fail)
 go_cut [14] (fun v14 wc => ∃ (kq : Nat) (x14_1 : Bool), v14 = .bool x14_1 ∧ Aside0 (impl_NeighboursOf.j0 kq a0 x14_1 = some r) ∧ Aside0 (kq ≤ k) ∧ Aside0 (Below w.heap.size w wc))
 case first =>
  have H := HC2.out; clear HC2; obtain ⟨t160, A30, H⟩ := zb H; (try dsimp only at H); have A3 := qa A30; clear A30
  by_cases c4 : t160 = true
  ·subst c4
   rw [if_pos rfl] at H; have H1 := H; clear H; have H := H1; clear H1; have H' := qa H; clear H
   go_wp2_with (first | ((with_reducible refine qqa (f := 14) rfl ?_); refine goesL_ (some 8) rfl rfl Try.func14 (by kernel_rfl) rfl #[.string a0] rfl (by (try simp only [qs, qv, qw]); first | done | rfl | (simp only [qu, qt]; rfl)) ?_; (with_reducible refine (impl_IsForm.calls k a0 true _ A3.out).mono ?_); rintro e w' ⟨rfl, ⟨nd, rfl⟩⟩; refine ⟨_, rfl, ?_⟩))
   go_meet
   case rel => exact ⟨_, (((a0.size : Int) == 8)), (by first | rfl | (simp; done) | (simp [*]; done)), H', ⟨by first | omega | exact qva _⟩, ⟨by repeat (first | (with_reducible first | exact HB.out | apply qh | apply qe | apply qg) | exact HB.out)⟩⟩
  ·replace c4 := Bool.eq_false_iff.mpr c4
   subst c4; rw [if_neg (show ¬ (false = true) by decide)] at H; have H1 := H; clear H; have H := H1; clear H1; have H' := qa H; clear H
   go_wp2_with (first | ((with_reducible refine qqa (f := 14) rfl ?_); refine goesL_ (some 8) rfl rfl Try.func14 (by kernel_rfl) rfl #[.string a0] rfl (by (try simp only [qs, qv, qw]); first | done | rfl | (simp only [qu, qt]; rfl)) ?_; (with_reducible refine (impl_IsForm.calls k a0 false _ A3.out).mono ?_); rintro e w' ⟨rfl, ⟨nd, rfl⟩⟩; refine ⟨_, rfl, ?_⟩))
   go_meet
   case rel => exact ⟨_, (true), (by first | rfl | (simp; done) | (simp [*]; done)), H', ⟨by first | omega | exact qva _⟩, ⟨by repeat (first | (with_reducible first | exact HB.out | apply qh | apply qe | apply qg) | exact HB.out)⟩⟩
 case rest =>
  clear HC2; (try clear c1); (try clear p2); (try clear c4); obtain ⟨kq, x14_1, rfl, HA, HJ1, HB⟩ := hcut
  cases kq with
  | zero => exact absurd HA.out (by simp [impl_NeighboursOf.j0])
  | succ kj1 =>
   have H := HA.out; clear HA; simp only [impl_NeighboursOf.j0] at H
   by_cases c5 : x14_1 = true
   ·subst c5
    rw [if_pos rfl] at H; have H1 := H; clear H; have H := H1; clear H1; obtain rfl := qca H; go_wp2; go_ret; exact ⟨_, by first | rfl | (simp [*] <;> rfl), by first | exact Kd.R_nil _ _ _ _ _ | exact Kd.N_nil _ _ _ _ _ | exact Kd.V_nil _ _ _ _ _ | exact Kd.Q_nil _ _ _ _ _ | exact Kd.S_nil _ _ _ _ _, by repeat (first | (with_reducible first | exact HB.out | apply qh | apply qe | apply qg) | exact HB.out)⟩
   ·replace c5 := Bool.eq_false_iff.mpr c5
    subst c5; rw [if_neg (show ¬ (false = true) by decide)] at H; have H1 := H; clear H; have H := H1; clear H1
    obtain ⟨y161, hy161⟩ : ∃ y_ : List ByteArray, y_ = (([] : List ByteArray)) := ⟨_, rfl⟩
    replace H : (impl_NeighboursOf.l0 kj1 a0 y161 (wrap64 ((a0.size : Int) + 1)) 0) = some r := by first | (rw [hy161]; with_reducible exact H) | (have H2_ := (Option.bind_some _ _).symm.trans H; rw [hy161]; with_reducible exact H2_) | (have H2_ := (Option.bind_some _ _).symm.trans H; with_reducible exact H2_) | with_reducible exact H | (rw [hy161]; exact H) | exact H
    have Ny161 := qa hy161; clear hy161; have H' := qa H; clear H
    go_wp2_with (first | ((with_reducible refine gate_dst (N := 15) rfl ?_); (try (refine gate_guard (by rfl) ?_; dsimp only)); refine qza Kd.string _ 9 ?hg (N := 15) ?hd (xs := ([] : List ByteArray)) (inner := []) (ok := fun _ => True) (okp := fun _ => True) ?hr ?hp (fun _ hk => hk) trivial (qwa _ _) (qva _) (by simp) ?_; (case hd => rfl); (case hg => rfl); (case hr => first | (go_simp; done) | (go_simp; rfl)); (case hp => exact (Reps.none _ _)); intro v162 w6 ho7 hb hg_ hnew_; clear hg_ hnew_; (first | rw [← Ny161.out] at ho7 | (simp only [Int.reduceToNat] at ho7; rw [← Ny161.out] at ho7)); have n0_ := qa (qxa ho7 (qp (by repeat (first | (with_reducible first | exact HB.out | apply qh | apply qe | apply qg) | exact HB.out)))); have n1_ := qa (qba (by repeat (first | (with_reducible first | exact HB.out | apply qh | apply qe | apply qg) | exact HB.out)) hb); clear HB; have HO163 := n0_; have HB := n1_; clear n0_ n1_; clear hb ho7))
    go_loopg [3, 19] kj1 (fun kq v3 v19 w' => ∃ (x3_2 : List ByteArray) (x19_2 : Int), v19 = .int .i64 x19_2 ∧ Aside0 (impl_NeighboursOf.l0 kq a0 x3_2 (wrap64 ((a0.size : Int) + 1)) x19_2 = some r) ∧ Aside0 (kq ≤ kj1) ∧ Aside0 (Kd.R Kd.string 9 w' w.heap.size (fun _ => True) v3 x3_2) ∧ Aside0 (Below w.heap.size w w'))
    case atStart => exact ⟨(y161), (0), (by first | rfl | (simp; done) | (simp [*]; done)), H', ⟨qva _⟩, ⟨by (with_reducible repeat first | apply qx | apply qy | apply qz); exact HO163.out⟩, ⟨by repeat (first | (with_reducible first | exact HB.out | apply qh | apply qe | apply qg) | exact HB.out)⟩⟩
    case round =>
     clear H'; (try clear c1); (try clear p2); (try clear c4); (try clear c5); (try clear p6); (try clear c7); (try clear p2); obtain ⟨x3_2, x19_2, rfl, HA, HK2, HO_3, HB⟩ := hrel
     cases gk with
     | zero => exact absurd HA.out (by simp [impl_NeighboursOf.l0])
     | succ k2 =>
      have H := HA.out; clear HA; simp only [impl_NeighboursOf.l0] at H
      by_cases c8 : x19_2 < (wrap64 ((a0.size : Int) + 1))
      ·rw [if_pos c8] at H
       have c8b0 : decide (x19_2 < (wrap64 ((a0.size : Int) + 1))) = true := qq c8; clear c8; have H' := qa H; clear H; go_wp2
       go_loopg [3, 22] k2 (fun kq v3 v22 w' => ∃ (x3_3 : List ByteArray) (x22_3 : Int), v22 = .int .i64 x22_3 ∧ Aside0 (impl_NeighboursOf.l1 kq a0 x3_3 x19_2 (wrap64 ((a0.size : Int) + 1)) x19_2 x22_3 = some r) ∧ Aside0 (kq ≤ k2) ∧ Aside0 (Kd.R Kd.string 9 w' w.heap.size (fun _ => True) v3 x3_3) ∧ Aside0 (Below w.heap.size w w'))
       case atStart => exact ⟨(x3_2), (0), (by first | rfl | (simp; done) | (simp [*]; done)), H', ⟨qva _⟩, ⟨by (with_reducible repeat first | apply qx | apply qy | apply qz); exact HO_3.out⟩, ⟨by repeat (first | (with_reducible first | exact HB.out | apply qh | apply qe | apply qg) | exact HB.out)⟩⟩
       case round =>
        clear H'; (try clear c1); (try clear p2); (try clear c4); (try clear c5); (try clear p6); (try clear c7); (try clear c8); (try clear c8b0); (try clear p2); (try clear p6); obtain ⟨x3_3, x22_3, rfl, HA, HK3, HO_3, HB⟩ := hrel
        cases gk with
        | zero => exact absurd HA.out (by simp [impl_NeighboursOf.l1])
        | succ k3 =>
         have H := HA.out; clear HA; simp only [impl_NeighboursOf.l1] at H
         by_cases c9 : x22_3 < 7
         ·rw [if_pos c9] at H
          have c9b0 : decide (x22_3 < 7) = true := qq c9; clear c9
          by_cases c10 : 0 ≤ x22_3
          ·rw [if_pos c10] at H
           have c10b0 := qaa c10; have c10b1 : decide (0 ≤ x22_3) = true := qq c10; clear c10
           by_cases c11 : x22_3 ≤ (wrap64 (x22_3 + 1))
           ·rw [if_pos c11] at H
            have c11b0 := qaa c11; have c11b1 : decide (x22_3 ≤ (wrap64 (x22_3 + 1))) = true := qq c11
            by_cases c12 : (wrap64 (x22_3 + 1)) ≤ 7
            ·rw [if_pos c12] at H
             have c12b0 := qaa c12; have c12b1 : decide ((wrap64 (x22_3 + 1)) ≤ 7) = true := qq c12
             by_cases c13 : 0 ≤ x19_2
             ·rw [if_pos c13] at H
              have c13b0 := qaa c13; have c13b1 : decide (0 ≤ x19_2) = true := qq c13; clear c13
              by_cases c14 : x19_2 ≤ (a0.size : Int)
              ·rw [if_pos c14] at H
               have c14b0 := qaa c14; have c14b1 : decide (x19_2 ≤ (a0.size : Int)) = true := qq c14; clear c14
               by_cases c15 : (a0.extract 0 (x19_2 : Int).toNat).size + ((⟨#[112, 116, 98, 100, 110, 97, 105]⟩ : ByteArray).extract (x22_3 : Int).toNat ((wrap64 (x22_3 + 1)) : Int).toNat).size ≤ 9223372036854775807
               ·rw [if_pos c15] at H
                have c15b0 := qaa c15; have c15b1 : decide ((a0.extract 0 (x19_2 : Int).toNat).size + ((⟨#[112, 116, 98, 100, 110, 97, 105]⟩ : ByteArray).extract (x22_3 : Int).toNat ((wrap64 (x22_3 + 1)) : Int).toNat).size ≤ 9223372036854775807) = true := qq c15; (try have c15x : (9223372036854775807 < x19_2.toNat + ((wrap64 (x22_3 + 1)).toNat - x22_3.toNat)) = False := eq_false (by have h_ := c15; (try simp only [decide_eq_true_eq] at *); (try simp only [ByteArray.size_append, ByteArray.size_extract] at h_); have hl0_ : (⟨#[112, 116, 98, 100, 110, 97, 105]⟩ : ByteArray).size = 7 := rfl; omega))
                try have c15b2 : (9223372036854775807 < (a0.extract 0 (x19_2 : Int).toNat).size + ((⟨#[112, 116, 98, 100, 110, 97, 105]⟩ : ByteArray).extract (x22_3 : Int).toNat ((wrap64 (x22_3 + 1)) : Int).toNat).size) = False := eq_false (Nat.not_lt.2 c15)
                have c16b0 := qaa (qm (by assumption) : 0 ≤ x19_2); have c17b0 := qaa (qm (by assumption) : x19_2 ≤ (a0.size : Int))
                by_cases c18 : ((a0.extract 0 (x19_2 : Int).toNat) ++ ((⟨#[112, 116, 98, 100, 110, 97, 105]⟩ : ByteArray).extract (x22_3 : Int).toNat ((wrap64 (x22_3 + 1)) : Int).toNat)).size + (a0.extract (x19_2 : Int).toNat a0.size).size ≤ 9223372036854775807
                ·rw [if_pos c18] at H
                 have c18b0 := qaa c18; have c18b1 : decide (((a0.extract 0 (x19_2 : Int).toNat) ++ ((⟨#[112, 116, 98, 100, 110, 97, 105]⟩ : ByteArray).extract (x22_3 : Int).toNat ((wrap64 (x22_3 + 1)) : Int).toNat)).size + (a0.extract (x19_2 : Int).toNat a0.size).size ≤ 9223372036854775807) = true := qq c18; (try have c18x : (9223372036854775807 < x19_2.toNat + ((wrap64 (x22_3 + 1)).toNat - x22_3.toNat) + (a0.size - x19_2.toNat)) = False := eq_false (by have h_ := c18; (try simp only [decide_eq_true_eq] at *); (try simp only [ByteArray.size_append, ByteArray.size_extract] at h_); have hl0_ : (⟨#[112, 116, 98, 100, 110, 97, 105]⟩ : ByteArray).size = 7 := rfl; omega))
                 try have c18b2 : (9223372036854775807 < ((a0.extract 0 (x19_2 : Int).toNat) ++ ((⟨#[112, 116, 98, 100, 110, 97, 105]⟩ : ByteArray).extract (x22_3 : Int).toNat ((wrap64 (x22_3 + 1)) : Int).toNat)).size + (a0.extract (x19_2 : Int).toNat a0.size).size) = False := eq_false (Nat.not_lt.2 c18)
                 obtain ⟨t167, A190, H⟩ := zb H; (try dsimp only at H); have A19 := qa A190; clear A190
                 by_cases c20 : x19_2 < (a0.size : Int)
                 ·rw [if_pos c20] at H
                  have c20b0 : decide (x19_2 < (a0.size : Int)) = true := qq c20; clear c20
                  by_cases c22 : 0 < (((⟨#[112, 116, 98, 100, 110, 97, 105]⟩ : ByteArray).extract (x22_3 : Int).toNat ((wrap64 (x22_3 + 1)) : Int).toNat).size : Int)
                  ·rw [if_pos c22] at H
                   have c22b0 : decide (0 < (((⟨#[112, 116, 98, 100, 110, 97, 105]⟩ : ByteArray).extract (x22_3 : Int).toNat ((wrap64 (x22_3 + 1)) : Int).toNat).size : Int)) = true := qq c22; (try have c22y : (0 < ((wrap64 (x22_3 + 1)).toNat - x22_3.toNat)) = True := qaa (by have h_ := c22; (try simp only [decide_eq_true_eq] at *); (try simp only [ByteArray.size_append, ByteArray.size_extract] at h_); have hl0_ : (⟨#[112, 116, 98, 100, 110, 97, 105]⟩ : ByteArray).size = 7 := rfl; omega)); have c22b1 : decide (0 < ((⟨#[112, 116, 98, 100, 110, 97, 105]⟩ : ByteArray).extract (x22_3 : Int).toNat ((wrap64 (x22_3 + 1)) : Int).toNat).size) = true := qq (by omega); clear c22
                   by_cases c24 : (bt a0 x19_2) = (bt ((⟨#[112, 116, 98, 100, 110, 97, 105]⟩ : ByteArray).extract (x22_3 : Int).toNat ((wrap64 (x22_3 + 1)) : Int).toNat) 0)
                   ·rw [if_pos c24] at H
                    have c24b0 : ((bt a0 x19_2) == (bt ((⟨#[112, 116, 98, 100, 110, 97, 105]⟩ : ByteArray).extract (x22_3 : Int).toNat ((wrap64 (x22_3 + 1)) : Int).toNat) 0)) = true := ze c24; have c24b1 : ((bt a0 x19_2) != (bt ((⟨#[112, 116, 98, 100, 110, 97, 105]⟩ : ByteArray).extract (x22_3 : Int).toNat ((wrap64 (x22_3 + 1)) : Int).toNat) 0)) = false := zc c24; clear c24; have H' := qa H; clear H
                    try go_wp2
                    have n0_ := qa (qz HO_3.out); have n1_ := qa (qg HB.out); clear HO_3 HB; have HO_3 := n0_; have HB := n1_; clear n0_ n1_; obtain ⟨Ao26, co26, eo26⟩ := Kd.R_slice HO_3.out
                    (first | subst eo26 | (injection eo26 with f1_ f2_ f3_; have f4_ := f1_.symm; have f5_ := f3_.symm; clear f1_ f2_ f3_; subst f4_; subst f5_))
                    refine start_ (n := 12) (S := fun w' => True) (ds := []) #[false, false, false, false, false, false, false, false, false, false, false, false] (by kernel_rfl) rfl rfl trivial (fun hHeld => ?_); refine with_tabW impl_NeighboursOf.tab11 impl_NeighboursOf.bits11 (fun HT_ HW_ => ?_); generalize wr.drew = w25 at HO_3 HB hHeld ⊢; refine pure_ (i := 0) (N := some 29) (v := ?_) (a' := ?_) #[true, false, false, false, false, false, false, false, false, false, false, false] rfl rfl (qla HT_.out (by kernel_rfl)) (fun _ _ _ h => h) (Or.inl ⟨by rfl, ?_⟩) ?_ ?_; rotate_left
                    ·intro w'
                     go_simp; with_reducible rfl
                    rotate_left
                    ·simp only [Act.put, qb, qc, qd, i64_w, i32_w]
                     rfl
                    refine pure_ (i := 1) (N := some 30) (v := ?_) (a' := ?_) #[true, true, false, false, false, false, false, false, false, false, false, false] rfl rfl (qla HT_.out (by kernel_rfl)) (fun _ _ _ h => h) (Or.inl ⟨by rfl, ?_⟩) ?_ ?_; rotate_left
                    ·intro w'
                     go_simp; with_reducible rfl
                    rotate_left
                    ·simp only [Act.put, qb, qc, qd, i64_w, i32_w]
                     rfl
                    refine pure_ (i := 2) (N := some 31) (v := ?_) (a' := ?_) #[true, true, true, false, false, false, false, false, false, false, false, false] rfl rfl (qla HT_.out (by kernel_rfl)) (fun _ _ _ h => h) (Or.inl ⟨by rfl, ?_⟩) ?_ ?_; rotate_left
                    ·intro w'
                     go_simp; with_reducible rfl
                    rotate_left
                    ·simp only [Act.put, qb, qc, qd, i64_w, i32_w]
                     rfl
                    refine pure_ (i := 3) (N := some 32) (v := ?_) (a' := ?_) #[true, true, true, true, false, false, false, false, false, false, false, false] rfl rfl (qla HT_.out (by kernel_rfl)) (fun _ _ _ h => h) (Or.inl ⟨by rfl, ?_⟩) ?_ ?_; rotate_left
                    ·intro w'
                     go_simp; with_reducible rfl
                    rotate_left
                    ·simp only [Act.put, qb, qc, qd, i64_w, i32_w]
                     rfl
                    refine pure_ (i := 4) (N := some 33) (v := ?_) (a' := ?_) #[true, true, true, true, true, false, false, false, false, false, false, false] rfl rfl (qla HT_.out (by kernel_rfl)) (fun _ _ _ h => h) (Or.inl ⟨by rfl, ?_⟩) ?_ ?_; rotate_left
                    ·intro w'
                     go_simp; with_reducible rfl
                    rotate_left
                    ·simp only [Act.put, qb, qc, qd, i64_w, i32_w]
                     rfl
                    refine pure_ (i := 5) (N := some 34) (v := ?_) (a' := ?_) #[true, true, true, true, true, true, false, false, false, false, false, false] rfl rfl (qla HT_.out (by kernel_rfl)) (fun _ _ _ h => h) (Or.inl ⟨by rfl, ?_⟩) ?_ ?_; rotate_left
                    ·intro w'
                     go_simp; with_reducible rfl
                    rotate_left
                    ·simp only [Act.put, qb, qc, qd, i64_w, i32_w]
                     rfl
                    refine pure_ (i := 6) (N := some 35) (v := ?_) (a' := ?_) #[true, true, true, true, true, true, true, false, false, false, false, false] rfl rfl (qla HT_.out (by kernel_rfl)) (fun _ _ _ h => h) (Or.inl ⟨by rfl, ?_⟩) ?_ ?_; rotate_left
                    ·intro w'
                     go_simp; with_reducible rfl
                    rotate_left
                    ·simp only [Act.put, qb, qc, qd, i64_w, i32_w]
                     rfl
                    refine pure_ (i := 7) (N := some 36) (v := ?_) (a' := ?_) #[true, true, true, true, true, true, true, true, false, false, false, false] rfl rfl (qla HT_.out (by kernel_rfl)) (fun _ _ _ h => h) (Or.inl ⟨by rfl, ?_⟩) ?_ ?_; rotate_left
                    ·intro w'
                     go_simp; with_reducible rfl
                    rotate_left
                    ·simp only [Act.put, qb, qc, qd, i64_w, i32_w]
                     rfl
                    refine pure_ (i := 8) (N := some 37) (v := ?_) (a' := ?_) #[true, true, true, true, true, true, true, true, true, false, false, false] rfl rfl (qla HT_.out (by kernel_rfl)) (fun _ _ _ h => h) (Or.inl ⟨by rfl, ?_⟩) ?_ ?_; rotate_left
                    ·intro w'
                     go_simp; with_reducible rfl
                    rotate_left
                    ·simp only [Act.put, qb, qc, qd, i64_w, i32_w]
                     rfl
                    refine pure_ (i := 9) (N := some 38) (v := ?_) (a' := ?_) #[true, true, true, true, true, true, true, true, true, true, false, false] rfl rfl (qla HT_.out (by kernel_rfl)) (fun _ _ _ h => h) (Or.inl ⟨by rfl, ?_⟩) ?_ ?_; rotate_left
                    ·intro w'
                     go_simp; with_reducible rfl
                    rotate_left
                    ·simp only [Act.put, qb, qc, qd, i64_w, i32_w]
                     rfl
                    refine one_ (i := 10) (N := some 39) #[true, true, true, true, true, true, true, true, true, true, true, false] rfl rfl (qna HT_.out (by kernel_rfl)) (by decide) (fun K hK => ?_); refine goes_ Try.func62 (by kernel_rfl) rfl #[.slice Ao26 x3_3.length co26, .string (((a0.extract 0 (x19_2 : Int).toNat) ++ ((⟨#[112, 116, 98, 100, 110, 97, 105]⟩ : ByteArray).extract (x22_3 : Int).toNat ((wrap64 (x22_3 + 1)) : Int).toNat)) ++ (a0.extract (x19_2 : Int).toNat a0.size))] (by rfl) rfl rfl (by (try simp only [qs, qv, qw]); first | done | rfl | (simp only [qu, qt]; rfl)) ?_; with_reducible refine (impl_addOnce.calls k3 (fun k_ => some k_ = (.slice Ao26 x3_3.length co26 : Value).ownBlock) (.slice Ao26 x3_3.length co26) x3_3 (((a0.extract 0 (x19_2 : Int).toNat) ++ ((⟨#[112, 116, 98, 100, 110, 97, 105]⟩ : ByteArray).extract (x22_3 : Int).toNat ((wrap64 (x22_3 + 1)) : Int).toNat)) ++ (a0.extract (x19_2 : Int).toNat a0.size)) t167 w _ ?side1 ?side2 A19.out).mono ?_
                    (case side1 => repeat (first | (with_reducible first | exact HB.out | apply qh | apply qe | apply qg) | exact HB.out))
                    (case side2 => exact Kd.R_tight rfl HO_3.out)
                    rintro e w27 ⟨v168, rfl, ho0, hb, hkp⟩; refine ⟨_, rfl, ?_⟩; have n0_ := qa (qga (ok' := fun k_ => True) ho0 (fun k_ hk_ => trivial)); have n1_ := qa (hb); clear HB HO_3; have HO169 := n0_; have HB := n1_; clear n0_ n1_; (try clear hb); (try clear hkp); (try clear ho0); refine hK.out _ _ trivial (fun hHeld => ?_); clear hK K; refine norm_ (a' := ?_) ?_ ?_; rotate_left
                    ·show Act.put _ (some 39) _ = _
                     simp only [Act.put, qb, qc, qd, i64_w, i32_w]; rfl
                    refine pure_ (i := 11) (N := some 3) (v := ?_) (a' := ?_) #[true, true, true, true, true, true, true, true, true, true, true, true] rfl rfl (qla HT_.out (by kernel_rfl)) (fun _ _ _ h => h) (Or.inl ⟨by rfl, ?_⟩) ?_ ?_; rotate_left
                    ·intro w'
                     go_simp; with_reducible rfl
                    rotate_left
                    ·simp only [Act.put, qb, qc, qd, i64_w, i32_w]
                     rfl
                    refine done_ (done_of HT_.out (by kernel_rfl)) ?_
                    try go_wp2
                    have n0_ := qa (qz HO169.out); have n1_ := qa (qg HB.out); clear HO169 HB; have HO169 := n0_; have HB := n1_; clear n0_ n1_; have p21 : 0 ≤ (x19_2 : Int) := qm (by assumption); have q21 : x19_2 < (a0.size : Int) := qm (by assumption); have hx21 := bt_at a0 x19_2; replace p21 := qaa p21; replace q21 := qaa q21
                    have p23 : 0 ≤ (0 : Int) := (by omega)
                    have q23 : 0 < ((⟨#[112, 116, 98, 100, 110, 97, 105]⟩ : ByteArray).extract (x22_3 : Int).toNat ((wrap64 (x22_3 + 1)) : Int).toNat).size := (by have : (0 : Int) < (((⟨#[112, 116, 98, 100, 110, 97, 105]⟩ : ByteArray).extract (x22_3 : Int).toNat ((wrap64 (x22_3 + 1)) : Int).toNat).size : Int) := qm (by assumption); omega)
                    have hx23 : ∀ h : 0 < ((⟨#[112, 116, 98, 100, 110, 97, 105]⟩ : ByteArray).extract (x22_3 : Int).toNat ((wrap64 (x22_3 + 1)) : Int).toNat).size, ((((⟨#[112, 116, 98, 100, 110, 97, 105]⟩ : ByteArray).extract (x22_3 : Int).toNat ((wrap64 (x22_3 + 1)) : Int).toNat)[0]'h).toNat : Int) = bt ((⟨#[112, 116, 98, 100, 110, 97, 105]⟩ : ByteArray).extract (x22_3 : Int).toNat ((wrap64 (x22_3 + 1)) : Int).toNat) 0 := bt_at ((⟨#[112, 116, 98, 100, 110, 97, 105]⟩ : ByteArray).extract (x22_3 : Int).toNat ((wrap64 (x22_3 + 1)) : Int).toNat) 0; clear p23; have qi23 : (0 < (((⟨#[112, 116, 98, 100, 110, 97, 105]⟩ : ByteArray).extract (x22_3 : Int).toNat ((wrap64 (x22_3 + 1)) : Int).toNat).size : Int)) = True := qaa (qm (by assumption)); replace q23 := qaa q23; refine start_ (n := 12) (S := fun w' => True) (ds := []) #[false, false, false, false, false, false, false, false, false, false, false, false] (by kernel_rfl) rfl rfl trivial (fun hHeld => ?_); refine with_tabW impl_NeighboursOf.tab12 impl_NeighboursOf.bits12 (fun HT_ HW_ => ?_); generalize w27.drew = w28 at HO169 HB hHeld ⊢; refine pure_ (i := 0) (N := some 40) (v := ?_) (a' := ?_) #[true, false, false, false, false, false, false, false, false, false, false, false] rfl rfl (qla HT_.out (by kernel_rfl)) (fun _ _ _ h => h) (Or.inl ⟨by rfl, ?_⟩) ?_ ?_; rotate_left
                    ·intro w'
                     go_simp; with_reducible rfl
                    rotate_left
                    ·simp only [Act.put, qb, qc, qd, i64_w, i32_w]
                     rfl
                    refine pure_ (i := 1) (N := some 41) (v := ?_) (a' := ?_) #[true, true, false, false, false, false, false, false, false, false, false, false] rfl rfl (qla HT_.out (by kernel_rfl)) (fun _ _ _ h => h) (Or.inl ⟨by rfl, ?_⟩) ?_ ?_; rotate_left
                    ·intro w'
                     go_simp; with_reducible rfl
                    rotate_left
                    ·simp only [Act.put, qb, qc, qd, i64_w, i32_w]
                     rfl
                    refine pure_ (i := 2) (N := some 42) (v := ?_) (a' := ?_) #[true, true, true, false, false, false, false, false, false, false, false, false] rfl rfl (qla HT_.out (by kernel_rfl)) (fun _ _ _ h => h) (Or.inl ⟨by rfl, ?_⟩) ?_ ?_; rotate_left
                    ·intro w'
                     go_simp; with_reducible rfl
                    rotate_left
                    ·simp only [Act.put, qb, qc, qd, i64_w, i32_w]
                     rfl
                    refine pure_ (i := 3) (N := some 43) (v := ?_) (a' := ?_) #[true, true, true, true, false, false, false, false, false, false, false, false] rfl rfl (qla HT_.out (by kernel_rfl)) (fun _ _ _ h => h) (Or.inl ⟨by rfl, ?_⟩) ?_ ?_; rotate_left
                    ·intro w'
                     go_simp; with_reducible rfl
                    rotate_left
                    ·simp only [Act.put, qb, qc, qd, i64_w, i32_w]
                     rfl
                    refine pure_ (i := 4) (N := some 44) (v := ?_) (a' := ?_) #[true, true, true, true, true, false, false, false, false, false, false, false] rfl rfl (qla HT_.out (by kernel_rfl)) (fun _ _ _ h => h) (Or.inl ⟨by rfl, ?_⟩) ?_ ?_; rotate_left
                    ·intro w'
                     go_simp; with_reducible rfl
                    rotate_left
                    ·simp only [Act.put, qb, qc, qd, i64_w, i32_w]
                     rfl
                    refine pure_ (i := 5) (N := some 45) (v := ?_) (a' := ?_) #[true, true, true, true, true, true, false, false, false, false, false, false] rfl rfl (qla HT_.out (by kernel_rfl)) (fun _ _ _ h => h) (Or.inl ⟨by rfl, ?_⟩) ?_ ?_; rotate_left
                    ·intro w'
                     go_simp; with_reducible rfl
                    rotate_left
                    ·simp only [Act.put, qb, qc, qd, i64_w, i32_w]
                     rfl
                    refine pure_ (i := 6) (N := some 46) (v := ?_) (a' := ?_) #[true, true, true, true, true, true, true, false, false, false, false, false] rfl rfl (qla HT_.out (by kernel_rfl)) (fun _ _ _ h => h) (Or.inl ⟨by rfl, ?_⟩) ?_ ?_; rotate_left
                    ·intro w'
                     go_simp; with_reducible rfl
                    rotate_left
                    ·simp only [Act.put, qb, qc, qd, i64_w, i32_w]
                     rfl
                    refine pure_ (i := 8) (N := some 48) (v := ?_) (a' := ?_) #[true, true, true, true, true, true, true, false, true, false, false, false] rfl rfl (qla HT_.out (by kernel_rfl)) (fun _ _ _ h => h) (Or.inl ⟨by rfl, ?_⟩) ?_ ?_; rotate_left
                    ·intro w'
                     go_simp; with_reducible rfl
                    rotate_left
                    ·simp only [Act.put, qb, qc, qd, i64_w, i32_w]
                     rfl
                    refine take_ (i := 7) (N := some 47) (v := ?_) (a' := ?_) #[true, true, true, true, true, true, true, true, true, false, false, false] rfl rfl (qma HT_.out HW_.out (by kernel_rfl)) (fun _ _ _ h => h) (Or.inl ⟨by rfl, ?_⟩) hHeld ?_ ?_; rotate_left
                    ·intro w' _
                     go_simp; with_reducible rfl
                    rotate_left
                    ·simp only [Act.put, qb, qc, qd, i64_w, i32_w]
                     rfl
                    refine take_ (i := 9) (N := some 49) (v := ?_) (a' := ?_) #[true, true, true, true, true, true, true, true, true, true, false, false] rfl rfl (qma HT_.out HW_.out (by kernel_rfl)) (fun _ _ _ h => h) (Or.inl ⟨by rfl, ?_⟩) hHeld ?_ ?_; rotate_left
                    ·intro w' _
                     go_simp; with_reducible rfl
                    rotate_left
                    ·simp only [Act.put, qb, qc, qd, i64_w, i32_w]
                     rfl
                    refine pure_ (i := 10) (N := some 50) (v := ?_) (a' := ?_) #[true, true, true, true, true, true, true, true, true, true, true, false] rfl rfl (qla HT_.out (by kernel_rfl)) (fun _ _ _ h => h) (Or.inl ⟨by rfl, ?_⟩) ?_ ?_; rotate_left
                    ·intro w'
                     go_simp; with_reducible rfl
                    rotate_left
                    ·simp only [Act.put, qb, qc, qd, i64_w, i32_w]
                     rfl
                    refine pure_ (i := 11) (N := some 51) (v := ?_) (a' := ?_) #[true, true, true, true, true, true, true, true, true, true, true, true] rfl rfl (qla HT_.out (by kernel_rfl)) (fun _ _ _ h => h) (Or.inl ⟨by rfl, ?_⟩) ?_ ?_; rotate_left
                    ·intro w'
                     go_simp; with_reducible rfl
                    rotate_left
                    ·simp only [Act.put, qb, qc, qd, i64_w, i32_w]
                     rfl
                    refine done_ (done_of HT_.out (by kernel_rfl)) ?_
                    try go_wp2
                    go_roundg k3
                    case measure => have := HJ1.out; have := HK2.out; have := HK3.out; omega
                    case rel => exact ⟨(t167), (wrap64 (x22_3 + 1)), (by first | rfl | (simp; done) | (simp [*]; done)), H', ⟨by have := HJ1.out; have := HK2.out; have := HK3.out; omega⟩, ⟨by (with_reducible repeat first | apply qx | apply qy | apply qz); exact HO169.out⟩, ⟨by repeat (first | (with_reducible first | exact HB.out | apply qh | apply qe | apply qg) | exact HB.out)⟩⟩
                   ·rw [if_neg c24] at H
                    have c24b0 : ((bt a0 x19_2) == (bt ((⟨#[112, 116, 98, 100, 110, 97, 105]⟩ : ByteArray).extract (x22_3 : Int).toNat ((wrap64 (x22_3 + 1)) : Int).toNat) 0)) = false := zd c24; have c24b1 : ((bt a0 x19_2) != (bt ((⟨#[112, 116, 98, 100, 110, 97, 105]⟩ : ByteArray).extract (x22_3 : Int).toNat ((wrap64 (x22_3 + 1)) : Int).toNat) 0)) = true := zf c24; have c29b0 := qaa (qm (by assumption) : 0 ≤ x19_2); have c30b0 := qaa (qm (by assumption) : x19_2 ≤ (a0.size : Int))
                    obtain ⟨ji31, hji31⟩ : ∃ j_ : Int, (wrap64 (x19_2 + 1)) = j_ := ⟨_, rfl⟩
                    replace H : (if 0 ≤ (ji31) then (if (ji31) ≤ (a0.size : Int) then (if ((a0.extract 0 (x19_2 : Int).toNat) ++ ((⟨#[112, 116, 98, 100, 110, 97, 105]⟩ : ByteArray).extract (x22_3 : Int).toNat ((wrap64 (x22_3 + 1)) : Int).toNat)).size + (a0.extract ((ji31) : Int).toNat a0.size).size ≤ 9223372036854775807 then ((impl_addOnce.f k3 t167 (((a0.extract 0 (x19_2 : Int).toNat) ++ ((⟨#[112, 116, 98, 100, 110, 97, 105]⟩ : ByteArray).extract (x22_3 : Int).toNat ((wrap64 (x22_3 + 1)) : Int).toNat)) ++ (a0.extract ((ji31) : Int).toNat a0.size))).bind fun t170 => (impl_NeighboursOf.l1 k3 a0 t170 x19_2 (wrap64 ((a0.size : Int) + 1)) x19_2 (wrap64 (x22_3 + 1)))) else (none)) else (none)) else (none)) = some r := by first | (rw [hji31] at H; exact H) | (simp only [hji31] at H ⊢; exact H)
                    (try rw [hji31] at A19); have hji31w : (IntKind.i64.wrap (x19_2 + 1)) = ji31 := (i64_w _).trans hji31
                    by_cases c32 : 0 ≤ (ji31)
                    ·rw [if_pos c32] at H
                     have c32b0 := qaa c32; have c32b1 : decide (0 ≤ (ji31)) = true := qq c32; clear c32
                     by_cases c33 : (ji31) ≤ (a0.size : Int)
                     ·rw [if_pos c33] at H
                      have c33b0 := qaa c33; have c33b1 : decide ((ji31) ≤ (a0.size : Int)) = true := qq c33; clear c33
                      by_cases c34 : ((a0.extract 0 (x19_2 : Int).toNat) ++ ((⟨#[112, 116, 98, 100, 110, 97, 105]⟩ : ByteArray).extract (x22_3 : Int).toNat ((wrap64 (x22_3 + 1)) : Int).toNat)).size + (a0.extract ((ji31) : Int).toNat a0.size).size ≤ 9223372036854775807
                      ·rw [if_pos c34] at H
                       have c34b0 := qaa c34; have c34b1 : decide (((a0.extract 0 (x19_2 : Int).toNat) ++ ((⟨#[112, 116, 98, 100, 110, 97, 105]⟩ : ByteArray).extract (x22_3 : Int).toNat ((wrap64 (x22_3 + 1)) : Int).toNat)).size + (a0.extract ((ji31) : Int).toNat a0.size).size ≤ 9223372036854775807) = true := qq c34; (try have c34x : (9223372036854775807 < x19_2.toNat + ((wrap64 (x22_3 + 1)).toNat - x22_3.toNat) + (a0.size - ji31.toNat)) = False := eq_false (by have h_ := c34; (try simp only [decide_eq_true_eq] at *); (try simp only [ByteArray.size_append, ByteArray.size_extract] at h_); have hl0_ : (⟨#[112, 116, 98, 100, 110, 97, 105]⟩ : ByteArray).size = 7 := rfl; omega))
                       try have c34b2 : (9223372036854775807 < ((a0.extract 0 (x19_2 : Int).toNat) ++ ((⟨#[112, 116, 98, 100, 110, 97, 105]⟩ : ByteArray).extract (x22_3 : Int).toNat ((wrap64 (x22_3 + 1)) : Int).toNat)).size + (a0.extract ((ji31) : Int).toNat a0.size).size) = False := eq_false (Nat.not_lt.2 c34)
                       obtain ⟨t170, A350, H⟩ := zb H; (try dsimp only at H); have A35 := qa A350; clear A350; have H' := qa H; clear H
                       try go_wp2
                       have n0_ := qa (qz HO_3.out); have n1_ := qa (qg HB.out); clear HO_3 HB; have HO_3 := n0_; have HB := n1_; clear n0_ n1_; obtain ⟨Ao37, co37, eo37⟩ := Kd.R_slice HO_3.out
                       (first | subst eo37 | (injection eo37 with f1_ f2_ f3_; have f4_ := f1_.symm; have f5_ := f3_.symm; clear f1_ f2_ f3_; subst f4_; subst f5_))
                       refine start_ (n := 12) (S := fun w' => True) (ds := []) #[false, false, false, false, false, false, false, false, false, false, false, false] (by kernel_rfl) rfl rfl trivial (fun hHeld => ?_); refine with_tabW impl_NeighboursOf.tab11 impl_NeighboursOf.bits11 (fun HT_ HW_ => ?_); generalize wr.drew = w36 at HO_3 HB hHeld ⊢; refine pure_ (i := 0) (N := some 29) (v := ?_) (a' := ?_) #[true, false, false, false, false, false, false, false, false, false, false, false] rfl rfl (qla HT_.out (by kernel_rfl)) (fun _ _ _ h => h) (Or.inl ⟨by rfl, ?_⟩) ?_ ?_; rotate_left
                       ·intro w'
                        go_simp; with_reducible rfl
                       rotate_left
                       ·simp only [Act.put, qb, qc, qd, i64_w, i32_w]
                        rfl
                       refine pure_ (i := 1) (N := some 30) (v := ?_) (a' := ?_) #[true, true, false, false, false, false, false, false, false, false, false, false] rfl rfl (qla HT_.out (by kernel_rfl)) (fun _ _ _ h => h) (Or.inl ⟨by rfl, ?_⟩) ?_ ?_; rotate_left
                       ·intro w'
                        go_simp; with_reducible rfl
                       rotate_left
                       ·simp only [Act.put, qb, qc, qd, i64_w, i32_w]
                        rfl
                       refine pure_ (i := 2) (N := some 31) (v := ?_) (a' := ?_) #[true, true, true, false, false, false, false, false, false, false, false, false] rfl rfl (qla HT_.out (by kernel_rfl)) (fun _ _ _ h => h) (Or.inl ⟨by rfl, ?_⟩) ?_ ?_; rotate_left
                       ·intro w'
                        go_simp; with_reducible rfl
                       rotate_left
                       ·simp only [Act.put, qb, qc, qd, i64_w, i32_w]
                        rfl
                       refine pure_ (i := 3) (N := some 32) (v := ?_) (a' := ?_) #[true, true, true, true, false, false, false, false, false, false, false, false] rfl rfl (qla HT_.out (by kernel_rfl)) (fun _ _ _ h => h) (Or.inl ⟨by rfl, ?_⟩) ?_ ?_; rotate_left
                       ·intro w'
                        go_simp; with_reducible rfl
                       rotate_left
                       ·simp only [Act.put, qb, qc, qd, i64_w, i32_w]
                        rfl
                       refine pure_ (i := 4) (N := some 33) (v := ?_) (a' := ?_) #[true, true, true, true, true, false, false, false, false, false, false, false] rfl rfl (qla HT_.out (by kernel_rfl)) (fun _ _ _ h => h) (Or.inl ⟨by rfl, ?_⟩) ?_ ?_; rotate_left
                       ·intro w'
                        go_simp; with_reducible rfl
                       rotate_left
                       ·simp only [Act.put, qb, qc, qd, i64_w, i32_w]
                        rfl
                       refine pure_ (i := 5) (N := some 34) (v := ?_) (a' := ?_) #[true, true, true, true, true, true, false, false, false, false, false, false] rfl rfl (qla HT_.out (by kernel_rfl)) (fun _ _ _ h => h) (Or.inl ⟨by rfl, ?_⟩) ?_ ?_; rotate_left
                       ·intro w'
                        go_simp; with_reducible rfl
                       rotate_left
                       ·simp only [Act.put, qb, qc, qd, i64_w, i32_w]
                        rfl
                       refine pure_ (i := 6) (N := some 35) (v := ?_) (a' := ?_) #[true, true, true, true, true, true, true, false, false, false, false, false] rfl rfl (qla HT_.out (by kernel_rfl)) (fun _ _ _ h => h) (Or.inl ⟨by rfl, ?_⟩) ?_ ?_; rotate_left
                       ·intro w'
                        go_simp; with_reducible rfl
                       rotate_left
                       ·simp only [Act.put, qb, qc, qd, i64_w, i32_w]
                        rfl
                       refine pure_ (i := 7) (N := some 36) (v := ?_) (a' := ?_) #[true, true, true, true, true, true, true, true, false, false, false, false] rfl rfl (qla HT_.out (by kernel_rfl)) (fun _ _ _ h => h) (Or.inl ⟨by rfl, ?_⟩) ?_ ?_; rotate_left
                       ·intro w'
                        go_simp; with_reducible rfl
                       rotate_left
                       ·simp only [Act.put, qb, qc, qd, i64_w, i32_w]
                        rfl
                       refine pure_ (i := 8) (N := some 37) (v := ?_) (a' := ?_) #[true, true, true, true, true, true, true, true, true, false, false, false] rfl rfl (qla HT_.out (by kernel_rfl)) (fun _ _ _ h => h) (Or.inl ⟨by rfl, ?_⟩) ?_ ?_; rotate_left
                       ·intro w'
                        go_simp; with_reducible rfl
                       rotate_left
                       ·simp only [Act.put, qb, qc, qd, i64_w, i32_w]
                        rfl
                       refine pure_ (i := 9) (N := some 38) (v := ?_) (a' := ?_) #[true, true, true, true, true, true, true, true, true, true, false, false] rfl rfl (qla HT_.out (by kernel_rfl)) (fun _ _ _ h => h) (Or.inl ⟨by rfl, ?_⟩) ?_ ?_; rotate_left
                       ·intro w'
                        go_simp; with_reducible rfl
                       rotate_left
                       ·simp only [Act.put, qb, qc, qd, i64_w, i32_w]
                        rfl
                       refine one_ (i := 10) (N := some 39) #[true, true, true, true, true, true, true, true, true, true, true, false] rfl rfl (qna HT_.out (by kernel_rfl)) (by decide) (fun K hK => ?_); refine goes_ Try.func62 (by kernel_rfl) rfl #[.slice Ao37 x3_3.length co37, .string (((a0.extract 0 (x19_2 : Int).toNat) ++ ((⟨#[112, 116, 98, 100, 110, 97, 105]⟩ : ByteArray).extract (x22_3 : Int).toNat ((wrap64 (x22_3 + 1)) : Int).toNat)) ++ (a0.extract (x19_2 : Int).toNat a0.size))] (by rfl) rfl rfl (by (try simp only [qs, qv, qw]); first | done | rfl | (simp only [qu, qt]; rfl)) ?_; with_reducible refine (impl_addOnce.calls k3 (fun k_ => some k_ = (.slice Ao37 x3_3.length co37 : Value).ownBlock) (.slice Ao37 x3_3.length co37) x3_3 (((a0.extract 0 (x19_2 : Int).toNat) ++ ((⟨#[112, 116, 98, 100, 110, 97, 105]⟩ : ByteArray).extract (x22_3 : Int).toNat ((wrap64 (x22_3 + 1)) : Int).toNat)) ++ (a0.extract (x19_2 : Int).toNat a0.size)) t167 w _ ?side1 ?side2 A19.out).mono ?_
                       (case side1 => repeat (first | (with_reducible first | exact HB.out | apply qh | apply qe | apply qg) | exact HB.out))
                       (case side2 => exact Kd.R_tight rfl HO_3.out)
                       rintro e w38 ⟨v168, rfl, ho0, hb, hkp⟩; refine ⟨_, rfl, ?_⟩; have n0_ := qa (qga (ok' := fun k_ => True) ho0 (fun k_ hk_ => trivial)); have n1_ := qa (hb); clear HB HO_3; have HO169 := n0_; have HB := n1_; clear n0_ n1_; (try clear hb); (try clear hkp); (try clear ho0); refine hK.out _ _ trivial (fun hHeld => ?_); clear hK K; refine norm_ (a' := ?_) ?_ ?_; rotate_left
                       ·show Act.put _ (some 39) _ = _
                        simp only [Act.put, qb, qc, qd, i64_w, i32_w]; rfl
                       refine pure_ (i := 11) (N := some 3) (v := ?_) (a' := ?_) #[true, true, true, true, true, true, true, true, true, true, true, true] rfl rfl (qla HT_.out (by kernel_rfl)) (fun _ _ _ h => h) (Or.inl ⟨by rfl, ?_⟩) ?_ ?_; rotate_left
                       ·intro w'
                        go_simp; with_reducible rfl
                       rotate_left
                       ·simp only [Act.put, qb, qc, qd, i64_w, i32_w]
                        rfl
                       refine done_ (done_of HT_.out (by kernel_rfl)) ?_
                       try go_wp2
                       have n0_ := qa (qz HO169.out); have n1_ := qa (qg HB.out); clear HO169 HB; have HO169 := n0_; have HB := n1_; clear n0_ n1_; have p21 : 0 ≤ (x19_2 : Int) := qm (by assumption); have q21 : x19_2 < (a0.size : Int) := qm (by assumption); have hx21 := bt_at a0 x19_2; replace p21 := qaa p21; replace q21 := qaa q21
                       have p23 : 0 ≤ (0 : Int) := (by omega)
                       have q23 : 0 < ((⟨#[112, 116, 98, 100, 110, 97, 105]⟩ : ByteArray).extract (x22_3 : Int).toNat ((wrap64 (x22_3 + 1)) : Int).toNat).size := (by have : (0 : Int) < (((⟨#[112, 116, 98, 100, 110, 97, 105]⟩ : ByteArray).extract (x22_3 : Int).toNat ((wrap64 (x22_3 + 1)) : Int).toNat).size : Int) := qm (by assumption); omega)
                       have hx23 : ∀ h : 0 < ((⟨#[112, 116, 98, 100, 110, 97, 105]⟩ : ByteArray).extract (x22_3 : Int).toNat ((wrap64 (x22_3 + 1)) : Int).toNat).size, ((((⟨#[112, 116, 98, 100, 110, 97, 105]⟩ : ByteArray).extract (x22_3 : Int).toNat ((wrap64 (x22_3 + 1)) : Int).toNat)[0]'h).toNat : Int) = bt ((⟨#[112, 116, 98, 100, 110, 97, 105]⟩ : ByteArray).extract (x22_3 : Int).toNat ((wrap64 (x22_3 + 1)) : Int).toNat) 0 := bt_at ((⟨#[112, 116, 98, 100, 110, 97, 105]⟩ : ByteArray).extract (x22_3 : Int).toNat ((wrap64 (x22_3 + 1)) : Int).toNat) 0; clear p23; have qi23 : (0 < (((⟨#[112, 116, 98, 100, 110, 97, 105]⟩ : ByteArray).extract (x22_3 : Int).toNat ((wrap64 (x22_3 + 1)) : Int).toNat).size : Int)) = True := qaa (qm (by assumption)); replace q23 := qaa q23; refine start_ (n := 12) (S := fun w' => True) (ds := []) #[false, false, false, false, false, false, false, false, false, false, false, false] (by kernel_rfl) rfl rfl trivial (fun hHeld => ?_); refine with_tabW impl_NeighboursOf.tab12 impl_NeighboursOf.bits12 (fun HT_ HW_ => ?_); generalize w38.drew = w39 at HO169 HB hHeld ⊢; refine pure_ (i := 0) (N := some 40) (v := ?_) (a' := ?_) #[true, false, false, false, false, false, false, false, false, false, false, false] rfl rfl (qla HT_.out (by kernel_rfl)) (fun _ _ _ h => h) (Or.inl ⟨by rfl, ?_⟩) ?_ ?_; rotate_left
                       ·intro w'
                        go_simp; with_reducible rfl
                       rotate_left
                       ·simp only [Act.put, qb, qc, qd, i64_w, i32_w]
                        rfl
                       refine pure_ (i := 1) (N := some 41) (v := ?_) (a' := ?_) #[true, true, false, false, false, false, false, false, false, false, false, false] rfl rfl (qla HT_.out (by kernel_rfl)) (fun _ _ _ h => h) (Or.inl ⟨by rfl, ?_⟩) ?_ ?_; rotate_left
                       ·intro w'
                        go_simp; with_reducible rfl
                       rotate_left
                       ·simp only [Act.put, qb, qc, qd, i64_w, i32_w]
                        rfl
                       refine pure_ (i := 2) (N := some 42) (v := ?_) (a' := ?_) #[true, true, true, false, false, false, false, false, false, false, false, false] rfl rfl (qla HT_.out (by kernel_rfl)) (fun _ _ _ h => h) (Or.inl ⟨by rfl, ?_⟩) ?_ ?_; rotate_left
                       ·intro w'
                        go_simp; with_reducible rfl
                       rotate_left
                       ·simp only [Act.put, qb, qc, qd, i64_w, i32_w]
                        rfl
                       refine pure_ (i := 3) (N := some 43) (v := ?_) (a' := ?_) #[true, true, true, true, false, false, false, false, false, false, false, false] rfl rfl (qla HT_.out (by kernel_rfl)) (fun _ _ _ h => h) (Or.inl ⟨by rfl, ?_⟩) ?_ ?_; rotate_left
                       ·intro w'
                        go_simp; with_reducible rfl
                       rotate_left
                       ·simp only [Act.put, qb, qc, qd, i64_w, i32_w]
                        rfl
                       refine pure_ (i := 4) (N := some 44) (v := ?_) (a' := ?_) #[true, true, true, true, true, false, false, false, false, false, false, false] rfl rfl (qla HT_.out (by kernel_rfl)) (fun _ _ _ h => h) (Or.inl ⟨by rfl, ?_⟩) ?_ ?_; rotate_left
                       ·intro w'
                        go_simp; with_reducible rfl
                       rotate_left
                       ·simp only [Act.put, qb, qc, qd, i64_w, i32_w]
                        rfl
                       refine pure_ (i := 5) (N := some 45) (v := ?_) (a' := ?_) #[true, true, true, true, true, true, false, false, false, false, false, false] rfl rfl (qla HT_.out (by kernel_rfl)) (fun _ _ _ h => h) (Or.inl ⟨by rfl, ?_⟩) ?_ ?_; rotate_left
                       ·intro w'
                        go_simp; with_reducible rfl
                       rotate_left
                       ·simp only [Act.put, qb, qc, qd, i64_w, i32_w]
                        rfl
                       refine pure_ (i := 6) (N := some 46) (v := ?_) (a' := ?_) #[true, true, true, true, true, true, true, false, false, false, false, false] rfl rfl (qla HT_.out (by kernel_rfl)) (fun _ _ _ h => h) (Or.inl ⟨by rfl, ?_⟩) ?_ ?_; rotate_left
                       ·intro w'
                        go_simp; with_reducible rfl
                       rotate_left
                       ·simp only [Act.put, qb, qc, qd, i64_w, i32_w]
                        rfl
                       refine pure_ (i := 8) (N := some 48) (v := ?_) (a' := ?_) #[true, true, true, true, true, true, true, false, true, false, false, false] rfl rfl (qla HT_.out (by kernel_rfl)) (fun _ _ _ h => h) (Or.inl ⟨by rfl, ?_⟩) ?_ ?_; rotate_left
                       ·intro w'
                        go_simp; with_reducible rfl
                       rotate_left
                       ·simp only [Act.put, qb, qc, qd, i64_w, i32_w]
                        rfl
                       refine take_ (i := 7) (N := some 47) (v := ?_) (a' := ?_) #[true, true, true, true, true, true, true, true, true, false, false, false] rfl rfl (qma HT_.out HW_.out (by kernel_rfl)) (fun _ _ _ h => h) (Or.inl ⟨by rfl, ?_⟩) hHeld ?_ ?_; rotate_left
                       ·intro w' _
                        go_simp; with_reducible rfl
                       rotate_left
                       ·simp only [Act.put, qb, qc, qd, i64_w, i32_w]
                        rfl
                       refine take_ (i := 9) (N := some 49) (v := ?_) (a' := ?_) #[true, true, true, true, true, true, true, true, true, true, false, false] rfl rfl (qma HT_.out HW_.out (by kernel_rfl)) (fun _ _ _ h => h) (Or.inl ⟨by rfl, ?_⟩) hHeld ?_ ?_; rotate_left
                       ·intro w' _
                        go_simp; with_reducible rfl
                       rotate_left
                       ·simp only [Act.put, qb, qc, qd, i64_w, i32_w]
                        rfl
                       refine pure_ (i := 10) (N := some 50) (v := ?_) (a' := ?_) #[true, true, true, true, true, true, true, true, true, true, true, false] rfl rfl (qla HT_.out (by kernel_rfl)) (fun _ _ _ h => h) (Or.inl ⟨by rfl, ?_⟩) ?_ ?_; rotate_left
                       ·intro w'
                        go_simp; with_reducible rfl
                       rotate_left
                       ·simp only [Act.put, qb, qc, qd, i64_w, i32_w]
                        rfl
                       refine pure_ (i := 11) (N := some 51) (v := ?_) (a' := ?_) #[true, true, true, true, true, true, true, true, true, true, true, true] rfl rfl (qla HT_.out (by kernel_rfl)) (fun _ _ _ h => h) (Or.inl ⟨by rfl, ?_⟩) ?_ ?_; rotate_left
                       ·intro w'
                        go_simp; with_reducible rfl
                       rotate_left
                       ·simp only [Act.put, qb, qc, qd, i64_w, i32_w]
                        rfl
                       refine done_ (done_of HT_.out (by kernel_rfl)) ?_
                       try go_wp2
                       have n0_ := qa (qz HO169.out); have n1_ := qa (qg HB.out); clear HO169 HB; have HO169 := n0_; have HB := n1_; clear n0_ n1_; obtain ⟨Ao41, co41, eo41⟩ := Kd.R_slice HO169.out
                       (first | subst eo41 | (injection eo41 with f1_ f2_ f3_; have f4_ := f1_.symm; have f5_ := f3_.symm; clear f1_ f2_ f3_; subst f4_; subst f5_))
                       refine start_ (n := 13) (S := fun w' => True) (ds := []) #[false, false, false, false, false, false, false, false, false, false, false, false, false] (by kernel_rfl) rfl rfl trivial (fun hHeld => ?_); refine with_tabW impl_NeighboursOf.tab13 impl_NeighboursOf.bits13 (fun HT_ HW_ => ?_); generalize w39.drew = w40 at HO169 HB hHeld ⊢; refine pure_ (i := 0) (N := some 52) (v := ?_) (a' := ?_) #[true, false, false, false, false, false, false, false, false, false, false, false, false] rfl rfl (qla HT_.out (by kernel_rfl)) (fun _ _ _ h => h) (Or.inl ⟨by rfl, ?_⟩) ?_ ?_; rotate_left
                       ·intro w'
                        go_simp; with_reducible rfl
                       rotate_left
                       ·simp only [Act.put, qb, qc, qd, i64_w, i32_w]
                        rfl
                       refine pure_ (i := 1) (N := some 53) (v := ?_) (a' := ?_) #[true, true, false, false, false, false, false, false, false, false, false, false, false] rfl rfl (qla HT_.out (by kernel_rfl)) (fun _ _ _ h => h) (Or.inl ⟨by rfl, ?_⟩) ?_ ?_; rotate_left
                       ·intro w'
                        go_simp; with_reducible rfl
                       rotate_left
                       ·simp only [Act.put, qb, qc, qd, i64_w, i32_w]
                        rfl
                       refine pure_ (i := 2) (N := some 54) (v := ?_) (a' := ?_) #[true, true, true, false, false, false, false, false, false, false, false, false, false] rfl rfl (qla HT_.out (by kernel_rfl)) (fun _ _ _ h => h) (Or.inl ⟨by rfl, ?_⟩) ?_ ?_; rotate_left
                       ·intro w'
                        go_simp; with_reducible rfl
                       rotate_left
                       ·simp only [Act.put, qb, qc, qd, i64_w, i32_w]
                        rfl
                       refine pure_ (i := 3) (N := some 55) (v := ?_) (a' := ?_) #[true, true, true, true, false, false, false, false, false, false, false, false, false] rfl rfl (qla HT_.out (by kernel_rfl)) (fun _ _ _ h => h) (Or.inl ⟨by rfl, ?_⟩) ?_ ?_; rotate_left
                       ·intro w'
                        go_simp; with_reducible rfl
                       rotate_left
                       ·simp only [Act.put, qb, qc, qd, i64_w, i32_w]
                        rfl
                       refine pure_ (i := 4) (N := some 56) (v := ?_) (a' := ?_) #[true, true, true, true, true, false, false, false, false, false, false, false, false] rfl rfl (qla HT_.out (by kernel_rfl)) (fun _ _ _ h => h) (Or.inl ⟨by rfl, ?_⟩) ?_ ?_; rotate_left
                       ·intro w'
                        go_simp; with_reducible rfl
                       rotate_left
                       ·simp only [Act.put, qb, qc, qd, i64_w, i32_w]
                        rfl
                       refine pure_ (i := 5) (N := some 57) (v := ?_) (a' := ?_) #[true, true, true, true, true, true, false, false, false, false, false, false, false] rfl rfl (qla HT_.out (by kernel_rfl)) (fun _ _ _ h => h) (Or.inl ⟨by rfl, ?_⟩) ?_ ?_; rotate_left
                       ·intro w'
                        go_simp; with_reducible rfl
                       rotate_left
                       ·simp only [Act.put, qb, qc, qd, i64_w, i32_w]
                        rfl
                       refine pure_ (i := 6) (N := some 58) (v := ?_) (a' := ?_) #[true, true, true, true, true, true, true, false, false, false, false, false, false] rfl rfl (qla HT_.out (by kernel_rfl)) (fun _ _ _ h => h) (Or.inl ⟨by rfl, ?_⟩) ?_ ?_; rotate_left
                       ·intro w'
                        go_simp; with_reducible rfl
                       rotate_left
                       ·simp only [Act.put, qb, qc, qd, i64_w, i32_w]
                        rfl
                       refine pure_ (i := 7) (N := some 59) (v := ?_) (a' := ?_) #[true, true, true, true, true, true, true, true, false, false, false, false, false] rfl rfl (qla HT_.out (by kernel_rfl)) (fun _ _ _ h => h) (Or.inl ⟨by rfl, ?_⟩) ?_ ?_; rotate_left
                       ·intro w'
                        go_simp; with_reducible rfl
                       rotate_left
                       ·simp only [Act.put, qb, qc, qd, i64_w, i32_w]
                        rfl
                       refine pure_ (i := 8) (N := some 60) (v := ?_) (a' := ?_) #[true, true, true, true, true, true, true, true, true, false, false, false, false] rfl rfl (qla HT_.out (by kernel_rfl)) (fun _ _ _ h => h) (Or.inl ⟨by rfl, ?_⟩) ?_ ?_; rotate_left
                       ·intro w'
                        go_simp; with_reducible rfl
                       rotate_left
                       ·simp only [Act.put, qb, qc, qd, i64_w, i32_w]
                        rfl
                       refine pure_ (i := 9) (N := some 61) (v := ?_) (a' := ?_) #[true, true, true, true, true, true, true, true, true, true, false, false, false] rfl rfl (qla HT_.out (by kernel_rfl)) (fun _ _ _ h => h) (Or.inl ⟨by rfl, ?_⟩) ?_ ?_; rotate_left
                       ·intro w'
                        go_simp; with_reducible rfl
                       rotate_left
                       ·simp only [Act.put, qb, qc, qd, i64_w, i32_w]
                        rfl
                       refine pure_ (i := 10) (N := some 62) (v := ?_) (a' := ?_) #[true, true, true, true, true, true, true, true, true, true, true, false, false] rfl rfl (qla HT_.out (by kernel_rfl)) (fun _ _ _ h => h) (Or.inl ⟨by rfl, ?_⟩) ?_ ?_; rotate_left
                       ·intro w'
                        go_simp; with_reducible rfl
                       rotate_left
                       ·simp only [Act.put, qb, qc, qd, i64_w, i32_w]
                        rfl
                       refine one_ (i := 11) (N := some 63) #[true, true, true, true, true, true, true, true, true, true, true, true, false] rfl rfl (qna HT_.out (by kernel_rfl)) (by decide) (fun K hK => ?_); refine goes_ Try.func62 (by kernel_rfl) rfl #[.slice Ao41 t167.length co41, .string (((a0.extract 0 (x19_2 : Int).toNat) ++ ((⟨#[112, 116, 98, 100, 110, 97, 105]⟩ : ByteArray).extract (x22_3 : Int).toNat ((wrap64 (x22_3 + 1)) : Int).toNat)) ++ (a0.extract ((ji31) : Int).toNat a0.size))] (by rfl) rfl rfl (by (try simp only [qs, qv, qw]); first | done | (simp only [hji31]; rfl) | rfl | (simp only [qu, qt]; rfl)) ?_; with_reducible refine (impl_addOnce.calls k3 (fun k_ => some k_ = (.slice Ao41 t167.length co41 : Value).ownBlock) (.slice Ao41 t167.length co41) t167 (((a0.extract 0 (x19_2 : Int).toNat) ++ ((⟨#[112, 116, 98, 100, 110, 97, 105]⟩ : ByteArray).extract (x22_3 : Int).toNat ((wrap64 (x22_3 + 1)) : Int).toNat)) ++ (a0.extract ((ji31) : Int).toNat a0.size)) t170 w _ ?side1 ?side2 A35.out).mono ?_
                       (case side1 => repeat (first | (with_reducible first | exact HB.out | apply qh | apply qe | apply qg) | exact HB.out))
                       (case side2 => exact Kd.R_tight rfl HO169.out)
                       rintro e w42 ⟨v171, rfl, ho0, hb, hkp⟩; refine ⟨_, rfl, ?_⟩; have n0_ := qa (qga (ok' := fun k_ => True) ho0 (fun k_ hk_ => trivial)); have n1_ := qa (hb); clear HB HO169; have HO172 := n0_; have HB := n1_; clear n0_ n1_; (try clear hb); (try clear hkp); (try clear ho0); refine hK.out _ _ trivial (fun hHeld => ?_); clear hK K; refine norm_ (a' := ?_) ?_ ?_; rotate_left
                       ·show Act.put _ (some 63) _ = _
                        simp only [Act.put, qb, qc, qd, i64_w, i32_w]; rfl
                       refine pure_ (i := 12) (N := some 3) (v := ?_) (a' := ?_) #[true, true, true, true, true, true, true, true, true, true, true, true, true] rfl rfl (qla HT_.out (by kernel_rfl)) (fun _ _ _ h => h) (Or.inl ⟨by rfl, ?_⟩) ?_ ?_; rotate_left
                       ·intro w'
                        go_simp; with_reducible rfl
                       rotate_left
                       ·simp only [Act.put, qb, qc, qd, i64_w, i32_w]
                        rfl
                       refine done_ (done_of HT_.out (by kernel_rfl)) ?_
                       try go_wp2
                       go_roundg k3
                       case measure => have := HJ1.out; have := HK2.out; have := HK3.out; omega
                       case rel => exact ⟨(t170), (wrap64 (x22_3 + 1)), (by first | rfl | (simp; done) | (simp [*]; done)), H', ⟨by have := HJ1.out; have := HK2.out; have := HK3.out; omega⟩, ⟨by (with_reducible repeat first | apply qx | apply qy | apply qz); exact HO172.out⟩, ⟨by repeat (first | (with_reducible first | exact HB.out | apply qh | apply qe | apply qg) | exact HB.out)⟩⟩
                      ·rw [if_neg c34] at H
                       exact absurd H (by simp)
                     ·rw [if_neg c33] at H
                      exact absurd H (by simp)
                    ·rw [if_neg c32] at H
                     exact absurd H (by simp)
                  ·rw [if_neg c22] at H
                   exact absurd H (by simp)
                 ·rw [if_neg c20] at H
                  have c20b0 : decide (x19_2 < (a0.size : Int)) = false := qr c20; clear c20; have H' := qa H; clear H
                  try go_wp2
                  have n0_ := qa (qz HO_3.out); have n1_ := qa (qg HB.out); clear HO_3 HB; have HO_3 := n0_; have HB := n1_; clear n0_ n1_; obtain ⟨Ao44, co44, eo44⟩ := Kd.R_slice HO_3.out
                  (first | subst eo44 | (injection eo44 with f1_ f2_ f3_; have f4_ := f1_.symm; have f5_ := f3_.symm; clear f1_ f2_ f3_; subst f4_; subst f5_))
                  refine start_ (n := 12) (S := fun w' => True) (ds := []) #[false, false, false, false, false, false, false, false, false, false, false, false] (by kernel_rfl) rfl rfl trivial (fun hHeld => ?_); refine with_tabW impl_NeighboursOf.tab11 impl_NeighboursOf.bits11 (fun HT_ HW_ => ?_); generalize wr.drew = w43 at HO_3 HB hHeld ⊢; refine pure_ (i := 0) (N := some 29) (v := ?_) (a' := ?_) #[true, false, false, false, false, false, false, false, false, false, false, false] rfl rfl (qla HT_.out (by kernel_rfl)) (fun _ _ _ h => h) (Or.inl ⟨by rfl, ?_⟩) ?_ ?_; rotate_left
                  ·intro w'
                   go_simp; with_reducible rfl
                  rotate_left
                  ·simp only [Act.put, qb, qc, qd, i64_w, i32_w]
                   rfl
                  refine pure_ (i := 1) (N := some 30) (v := ?_) (a' := ?_) #[true, true, false, false, false, false, false, false, false, false, false, false] rfl rfl (qla HT_.out (by kernel_rfl)) (fun _ _ _ h => h) (Or.inl ⟨by rfl, ?_⟩) ?_ ?_; rotate_left
                  ·intro w'
                   go_simp; with_reducible rfl
                  rotate_left
                  ·simp only [Act.put, qb, qc, qd, i64_w, i32_w]
                   rfl
                  refine pure_ (i := 2) (N := some 31) (v := ?_) (a' := ?_) #[true, true, true, false, false, false, false, false, false, false, false, false] rfl rfl (qla HT_.out (by kernel_rfl)) (fun _ _ _ h => h) (Or.inl ⟨by rfl, ?_⟩) ?_ ?_; rotate_left
                  ·intro w'
                   go_simp; with_reducible rfl
                  rotate_left
                  ·simp only [Act.put, qb, qc, qd, i64_w, i32_w]
                   rfl
                  refine pure_ (i := 3) (N := some 32) (v := ?_) (a' := ?_) #[true, true, true, true, false, false, false, false, false, false, false, false] rfl rfl (qla HT_.out (by kernel_rfl)) (fun _ _ _ h => h) (Or.inl ⟨by rfl, ?_⟩) ?_ ?_; rotate_left
                  ·intro w'
                   go_simp; with_reducible rfl
                  rotate_left
                  ·simp only [Act.put, qb, qc, qd, i64_w, i32_w]
                   rfl
                  refine pure_ (i := 4) (N := some 33) (v := ?_) (a' := ?_) #[true, true, true, true, true, false, false, false, false, false, false, false] rfl rfl (qla HT_.out (by kernel_rfl)) (fun _ _ _ h => h) (Or.inl ⟨by rfl, ?_⟩) ?_ ?_; rotate_left
                  ·intro w'
                   go_simp; with_reducible rfl
                  rotate_left
                  ·simp only [Act.put, qb, qc, qd, i64_w, i32_w]
                   rfl
                  refine pure_ (i := 5) (N := some 34) (v := ?_) (a' := ?_) #[true, true, true, true, true, true, false, false, false, false, false, false] rfl rfl (qla HT_.out (by kernel_rfl)) (fun _ _ _ h => h) (Or.inl ⟨by rfl, ?_⟩) ?_ ?_; rotate_left
                  ·intro w'
                   go_simp; with_reducible rfl
                  rotate_left
                  ·simp only [Act.put, qb, qc, qd, i64_w, i32_w]
                   rfl
                  refine pure_ (i := 6) (N := some 35) (v := ?_) (a' := ?_) #[true, true, true, true, true, true, true, false, false, false, false, false] rfl rfl (qla HT_.out (by kernel_rfl)) (fun _ _ _ h => h) (Or.inl ⟨by rfl, ?_⟩) ?_ ?_; rotate_left
                  ·intro w'
                   go_simp; with_reducible rfl
                  rotate_left
                  ·simp only [Act.put, qb, qc, qd, i64_w, i32_w]
                   rfl
                  refine pure_ (i := 7) (N := some 36) (v := ?_) (a' := ?_) #[true, true, true, true, true, true, true, true, false, false, false, false] rfl rfl (qla HT_.out (by kernel_rfl)) (fun _ _ _ h => h) (Or.inl ⟨by rfl, ?_⟩) ?_ ?_; rotate_left
                  ·intro w'
                   go_simp; with_reducible rfl
                  rotate_left
                  ·simp only [Act.put, qb, qc, qd, i64_w, i32_w]
                   rfl
                  refine pure_ (i := 8) (N := some 37) (v := ?_) (a' := ?_) #[true, true, true, true, true, true, true, true, true, false, false, false] rfl rfl (qla HT_.out (by kernel_rfl)) (fun _ _ _ h => h) (Or.inl ⟨by rfl, ?_⟩) ?_ ?_; rotate_left
                  ·intro w'
                   go_simp; with_reducible rfl
                  rotate_left
                  ·simp only [Act.put, qb, qc, qd, i64_w, i32_w]
                   rfl
                  refine pure_ (i := 9) (N := some 38) (v := ?_) (a' := ?_) #[true, true, true, true, true, true, true, true, true, true, false, false] rfl rfl (qla HT_.out (by kernel_rfl)) (fun _ _ _ h => h) (Or.inl ⟨by rfl, ?_⟩) ?_ ?_; rotate_left
                  ·intro w'
                   go_simp; with_reducible rfl
                  rotate_left
                  ·simp only [Act.put, qb, qc, qd, i64_w, i32_w]
                   rfl
                  refine one_ (i := 10) (N := some 39) #[true, true, true, true, true, true, true, true, true, true, true, false] rfl rfl (qna HT_.out (by kernel_rfl)) (by decide) (fun K hK => ?_); refine goes_ Try.func62 (by kernel_rfl) rfl #[.slice Ao44 x3_3.length co44, .string (((a0.extract 0 (x19_2 : Int).toNat) ++ ((⟨#[112, 116, 98, 100, 110, 97, 105]⟩ : ByteArray).extract (x22_3 : Int).toNat ((wrap64 (x22_3 + 1)) : Int).toNat)) ++ (a0.extract (x19_2 : Int).toNat a0.size))] (by rfl) rfl rfl (by (try simp only [qs, qv, qw]); first | done | rfl | (simp only [qu, qt]; rfl)) ?_; with_reducible refine (impl_addOnce.calls k3 (fun k_ => some k_ = (.slice Ao44 x3_3.length co44 : Value).ownBlock) (.slice Ao44 x3_3.length co44) x3_3 (((a0.extract 0 (x19_2 : Int).toNat) ++ ((⟨#[112, 116, 98, 100, 110, 97, 105]⟩ : ByteArray).extract (x22_3 : Int).toNat ((wrap64 (x22_3 + 1)) : Int).toNat)) ++ (a0.extract (x19_2 : Int).toNat a0.size)) t167 w _ ?side1 ?side2 A19.out).mono ?_
                  (case side1 => repeat (first | (with_reducible first | exact HB.out | apply qh | apply qe | apply qg) | exact HB.out))
                  (case side2 => exact Kd.R_tight rfl HO_3.out)
                  rintro e w45 ⟨v168, rfl, ho0, hb, hkp⟩; refine ⟨_, rfl, ?_⟩; have n0_ := qa (qga (ok' := fun k_ => True) ho0 (fun k_ hk_ => trivial)); have n1_ := qa (hb); clear HB HO_3; have HO169 := n0_; have HB := n1_; clear n0_ n1_; (try clear hb); (try clear hkp); (try clear ho0); refine hK.out _ _ trivial (fun hHeld => ?_); clear hK K; refine norm_ (a' := ?_) ?_ ?_; rotate_left
                  ·show Act.put _ (some 39) _ = _
                   simp only [Act.put, qb, qc, qd, i64_w, i32_w]; rfl
                  refine pure_ (i := 11) (N := some 3) (v := ?_) (a' := ?_) #[true, true, true, true, true, true, true, true, true, true, true, true] rfl rfl (qla HT_.out (by kernel_rfl)) (fun _ _ _ h => h) (Or.inl ⟨by rfl, ?_⟩) ?_ ?_; rotate_left
                  ·intro w'
                   go_simp; with_reducible rfl
                  rotate_left
                  ·simp only [Act.put, qb, qc, qd, i64_w, i32_w]
                   rfl
                  refine done_ (done_of HT_.out (by kernel_rfl)) ?_
                  try go_wp2
                  have n0_ := qa (qz HO169.out); have n1_ := qa (qg HB.out); clear HO169 HB; have HO169 := n0_; have HB := n1_; clear n0_ n1_; refine start_ (n := 12) (S := fun w' => True) (ds := []) #[false, false, false, false, false, false, false, false, false, false, false, false] (by kernel_rfl) rfl rfl trivial (fun hHeld => ?_); refine with_tabW impl_NeighboursOf.tab12 impl_NeighboursOf.bits12 (fun HT_ HW_ => ?_); generalize w45.drew = w46 at HO169 HB hHeld ⊢; refine pure_ (i := 0) (N := some 40) (v := ?_) (a' := ?_) #[true, false, false, false, false, false, false, false, false, false, false, false] rfl rfl (qla HT_.out (by kernel_rfl)) (fun _ _ _ h => h) (Or.inl ⟨by rfl, ?_⟩) ?_ ?_; rotate_left
                  ·intro w'
                   go_simp; with_reducible rfl
                  rotate_left
                  ·simp only [Act.put, qb, qc, qd, i64_w, i32_w]
                   rfl
                  refine pure_ (i := 1) (N := some 41) (v := ?_) (a' := ?_) #[true, true, false, false, false, false, false, false, false, false, false, false] rfl rfl (qla HT_.out (by kernel_rfl)) (fun _ _ _ h => h) (Or.inl ⟨by rfl, ?_⟩) ?_ ?_; rotate_left
                  ·intro w'
                   go_simp; with_reducible rfl
                  rotate_left
                  ·simp only [Act.put, qb, qc, qd, i64_w, i32_w]
                   rfl
                  refine pure_ (i := 2) (N := some 42) (v := ?_) (a' := ?_) #[true, true, true, false, false, false, false, false, false, false, false, false] rfl rfl (qla HT_.out (by kernel_rfl)) (fun _ _ _ h => h) (Or.inl ⟨by rfl, ?_⟩) ?_ ?_; rotate_left
                  ·intro w'
                   go_simp; with_reducible rfl
                  rotate_left
                  ·simp only [Act.put, qb, qc, qd, i64_w, i32_w]
                   rfl
                  refine pure_ (i := 3) (N := some 43) (v := ?_) (a' := ?_) #[true, true, true, true, false, false, false, false, false, false, false, false] rfl rfl (qla HT_.out (by kernel_rfl)) (fun _ _ _ h => h) (Or.inl ⟨by rfl, ?_⟩) ?_ ?_; rotate_left
                  ·intro w'
                   go_simp; with_reducible rfl
                  rotate_left
                  ·simp only [Act.put, qb, qc, qd, i64_w, i32_w]
                   rfl
                  refine pure_ (i := 4) (N := some 44) (v := ?_) (a' := ?_) #[true, true, true, true, true, false, false, false, false, false, false, false] rfl rfl (qla HT_.out (by kernel_rfl)) (fun _ _ _ h => h) (Or.inl ⟨by rfl, ?_⟩) ?_ ?_; rotate_left
                  ·intro w'
                   go_simp; with_reducible rfl
                  rotate_left
                  ·simp only [Act.put, qb, qc, qd, i64_w, i32_w]
                   rfl
                  refine pure_ (i := 5) (N := some 45) (v := undef) (a' := ?_) #[true, true, true, true, true, true, false, false, false, false, false, false] rfl rfl (qla HT_.out (by kernel_rfl)) (fun _ _ _ h => h) (Or.inr ⟨by rfl, rfl⟩) ?_ ?_; rotate_left
                  ·simp only [Act.put, qb, qc, qd, i64_w, i32_w]
                   rfl
                  refine pure_ (i := 6) (N := some 46) (v := undef) (a' := ?_) #[true, true, true, true, true, true, true, false, false, false, false, false] rfl rfl (qla HT_.out (by kernel_rfl)) (fun _ _ _ h => h) (Or.inr ⟨by rfl, rfl⟩) ?_ ?_; rotate_left
                  ·simp only [Act.put, qb, qc, qd, i64_w, i32_w]
                   rfl
                  refine pure_ (i := 7) (N := some 47) (v := undef) (a' := ?_) #[true, true, true, true, true, true, true, true, false, false, false, false] rfl rfl (qla HT_.out (by kernel_rfl)) (fun _ _ _ h => h) (Or.inr ⟨by rfl, rfl⟩) ?_ ?_; rotate_left
                  ·simp only [Act.put, qb, qc, qd, i64_w, i32_w]
                   rfl
                  refine pure_ (i := 8) (N := some 48) (v := undef) (a' := ?_) #[true, true, true, true, true, true, true, true, true, false, false, false] rfl rfl (qla HT_.out (by kernel_rfl)) (fun _ _ _ h => h) (Or.inr ⟨by rfl, rfl⟩) ?_ ?_; rotate_left
                  ·simp only [Act.put, qb, qc, qd, i64_w, i32_w]
                   rfl
                  refine pure_ (i := 9) (N := some 49) (v := undef) (a' := ?_) #[true, true, true, true, true, true, true, true, true, true, false, false] rfl rfl (qla HT_.out (by kernel_rfl)) (fun _ _ _ h => h) (Or.inr ⟨by rfl, rfl⟩) ?_ ?_; rotate_left
                  ·simp only [Act.put, qb, qc, qd, i64_w, i32_w]
                   rfl
                  refine pure_ (i := 10) (N := some 50) (v := undef) (a' := ?_) #[true, true, true, true, true, true, true, true, true, true, true, false] rfl rfl (qla HT_.out (by kernel_rfl)) (fun _ _ _ h => h) (Or.inr ⟨by rfl, rfl⟩) ?_ ?_; rotate_left
                  ·simp only [Act.put, qb, qc, qd, i64_w, i32_w]
                   rfl
                  refine pure_ (i := 11) (N := some 51) (v := ?_) (a' := ?_) #[true, true, true, true, true, true, true, true, true, true, true, true] rfl rfl (qla HT_.out (by kernel_rfl)) (fun _ _ _ h => h) (Or.inl ⟨by rfl, ?_⟩) ?_ ?_; rotate_left
                  ·intro w'
                   go_simp; with_reducible rfl
                  rotate_left
                  ·simp only [Act.put, qb, qc, qd, i64_w, i32_w]
                   rfl
                  refine done_ (done_of HT_.out (by kernel_rfl)) ?_
                  try go_wp2
                  go_roundg k3
                  case measure => have := HJ1.out; have := HK2.out; have := HK3.out; omega
                  case rel => exact ⟨(t167), (wrap64 (x22_3 + 1)), (by first | rfl | (simp; done) | (simp [*]; done)), H', ⟨by have := HJ1.out; have := HK2.out; have := HK3.out; omega⟩, ⟨by (with_reducible repeat first | apply qx | apply qy | apply qz); exact HO169.out⟩, ⟨by repeat (first | (with_reducible first | exact HB.out | apply qh | apply qe | apply qg) | exact HB.out)⟩⟩
                ·rw [if_neg c18] at H
                 exact absurd H (by simp)
               ·rw [if_neg c15] at H
                exact absurd H (by simp)
              ·rw [if_neg c14] at H
               exact absurd H (by simp)
             ·rw [if_neg c13] at H
              exact absurd H (by simp)
            ·rw [if_neg c12] at H
             exact absurd H (by simp)
           ·rw [if_neg c11] at H
            exact absurd H (by simp)
          ·rw [if_neg c10] at H
           exact absurd H (by simp)
         ·rw [if_neg c9] at H
          have c9b0 : decide (x22_3 < 7) = false := qr c9; clear c9
          by_cases c47 : x19_2 < (a0.size : Int)
          ·rw [if_pos c47] at H
           have c47b0 : decide (x19_2 < (a0.size : Int)) = true := qq c47; clear c47
           by_cases c48 : 0 ≤ x19_2
           ·rw [if_pos c48] at H
            have c48b0 := qaa c48; have c48b1 : decide (0 ≤ x19_2) = true := qq c48; clear c48
            by_cases c49 : x19_2 ≤ (a0.size : Int)
            ·rw [if_pos c49] at H
             have c49b0 := qaa c49; have c49b1 : decide (x19_2 ≤ (a0.size : Int)) = true := qq c49; clear c49
             obtain ⟨ji50, hji50⟩ : ∃ j_ : Int, (wrap64 (x19_2 + 1)) = j_ := ⟨_, rfl⟩
             replace H : (if 0 ≤ (ji50) then (if (ji50) ≤ (a0.size : Int) then (if (a0.extract 0 (x19_2 : Int).toNat).size + (a0.extract ((ji50) : Int).toNat a0.size).size ≤ 9223372036854775807 then ((impl_addOnce.f k3 x3_3 ((a0.extract 0 (x19_2 : Int).toNat) ++ (a0.extract ((ji50) : Int).toNat a0.size))).bind fun t164 => (impl_NeighboursOf.l0 k3 a0 t164 (wrap64 ((a0.size : Int) + 1)) ji50)) else (none)) else (none)) else (none)) = some r := by first | (rw [hji50] at H; exact H) | (simp only [hji50] at H ⊢; exact H)
             have hji50w : (IntKind.i64.wrap (x19_2 + 1)) = ji50 := (i64_w _).trans hji50
             by_cases c51 : 0 ≤ (ji50)
             ·rw [if_pos c51] at H
              have c51b0 := qaa c51; have c51b1 : decide (0 ≤ (ji50)) = true := qq c51; clear c51
              by_cases c52 : (ji50) ≤ (a0.size : Int)
              ·rw [if_pos c52] at H
               have c52b0 := qaa c52; have c52b1 : decide ((ji50) ≤ (a0.size : Int)) = true := qq c52; clear c52
               by_cases c53 : (a0.extract 0 (x19_2 : Int).toNat).size + (a0.extract ((ji50) : Int).toNat a0.size).size ≤ 9223372036854775807
               ·rw [if_pos c53] at H
                have c53b0 := qaa c53; have c53b1 : decide ((a0.extract 0 (x19_2 : Int).toNat).size + (a0.extract ((ji50) : Int).toNat a0.size).size ≤ 9223372036854775807) = true := qq c53; (try have c53x : (9223372036854775807 < x19_2.toNat + (a0.size - ji50.toNat)) = False := eq_false (by have h_ := c53; (try simp only [decide_eq_true_eq] at *); (try simp only [ByteArray.size_append, ByteArray.size_extract] at h_); omega))
                try have c53b2 : (9223372036854775807 < (a0.extract 0 (x19_2 : Int).toNat).size + (a0.extract ((ji50) : Int).toNat a0.size).size) = False := eq_false (Nat.not_lt.2 c53)
                obtain ⟨t164, A540, H⟩ := zb H; (try dsimp only at H); have A54 := qa A540; clear A540; have H' := qa H; clear H
                try go_wp2
                have n0_ := qa (qz HO_3.out); have n1_ := qa (qg HB.out); clear HO_3 HB; have HO_3 := n0_; have HB := n1_; clear n0_ n1_; obtain ⟨Ao56, co56, eo56⟩ := Kd.R_slice HO_3.out
                (first | subst eo56 | (injection eo56 with f1_ f2_ f3_; have f4_ := f1_.symm; have f5_ := f3_.symm; clear f1_ f2_ f3_; subst f4_; subst f5_))
                refine start_ (n := 11) (S := fun w' => True) (ds := []) #[false, false, false, false, false, false, false, false, false, false, false] (by kernel_rfl) rfl rfl trivial (fun hHeld => ?_); refine with_tabW impl_NeighboursOf.tab16 impl_NeighboursOf.bits16 (fun HT_ HW_ => ?_); generalize wr.drew = w55 at HO_3 HB hHeld ⊢; refine pure_ (i := 0) (N := some 69) (v := ?_) (a' := ?_) #[true, false, false, false, false, false, false, false, false, false, false] rfl rfl (qla HT_.out (by kernel_rfl)) (fun _ _ _ h => h) (Or.inl ⟨by rfl, ?_⟩) ?_ ?_; rotate_left
                ·intro w'
                 go_simp; with_reducible rfl
                rotate_left
                ·simp only [Act.put, qb, qc, qd, i64_w, i32_w]
                 rfl
                refine pure_ (i := 1) (N := some 70) (v := ?_) (a' := ?_) #[true, true, false, false, false, false, false, false, false, false, false] rfl rfl (qla HT_.out (by kernel_rfl)) (fun _ _ _ h => h) (Or.inl ⟨by rfl, ?_⟩) ?_ ?_; rotate_left
                ·intro w'
                 go_simp; with_reducible rfl
                rotate_left
                ·simp only [Act.put, qb, qc, qd, i64_w, i32_w]
                 rfl
                refine pure_ (i := 2) (N := some 71) (v := ?_) (a' := ?_) #[true, true, true, false, false, false, false, false, false, false, false] rfl rfl (qla HT_.out (by kernel_rfl)) (fun _ _ _ h => h) (Or.inl ⟨by rfl, ?_⟩) ?_ ?_; rotate_left
                ·intro w'
                 go_simp; with_reducible rfl
                rotate_left
                ·simp only [Act.put, qb, qc, qd, i64_w, i32_w]
                 rfl
                refine pure_ (i := 3) (N := some 72) (v := ?_) (a' := ?_) #[true, true, true, true, false, false, false, false, false, false, false] rfl rfl (qla HT_.out (by kernel_rfl)) (fun _ _ _ h => h) (Or.inl ⟨by rfl, ?_⟩) ?_ ?_; rotate_left
                ·intro w'
                 go_simp; with_reducible rfl
                rotate_left
                ·simp only [Act.put, qb, qc, qd, i64_w, i32_w]
                 rfl
                refine pure_ (i := 4) (N := some 73) (v := ?_) (a' := ?_) #[true, true, true, true, true, false, false, false, false, false, false] rfl rfl (qla HT_.out (by kernel_rfl)) (fun _ _ _ h => h) (Or.inl ⟨by rfl, ?_⟩) ?_ ?_; rotate_left
                ·intro w'
                 go_simp; with_reducible rfl
                rotate_left
                ·simp only [Act.put, qb, qc, qd, i64_w, i32_w]
                 rfl
                refine pure_ (i := 5) (N := some 74) (v := ?_) (a' := ?_) #[true, true, true, true, true, true, false, false, false, false, false] rfl rfl (qla HT_.out (by kernel_rfl)) (fun _ _ _ h => h) (Or.inl ⟨by rfl, ?_⟩) ?_ ?_; rotate_left
                ·intro w'
                 go_simp; with_reducible rfl
                rotate_left
                ·simp only [Act.put, qb, qc, qd, i64_w, i32_w]
                 rfl
                refine pure_ (i := 6) (N := some 75) (v := ?_) (a' := ?_) #[true, true, true, true, true, true, true, false, false, false, false] rfl rfl (qla HT_.out (by kernel_rfl)) (fun _ _ _ h => h) (Or.inl ⟨by rfl, ?_⟩) ?_ ?_; rotate_left
                ·intro w'
                 go_simp; with_reducible rfl
                rotate_left
                ·simp only [Act.put, qb, qc, qd, i64_w, i32_w]
                 rfl
                refine pure_ (i := 7) (N := some 76) (v := ?_) (a' := ?_) #[true, true, true, true, true, true, true, true, false, false, false] rfl rfl (qla HT_.out (by kernel_rfl)) (fun _ _ _ h => h) (Or.inl ⟨by rfl, ?_⟩) ?_ ?_; rotate_left
                ·intro w'
                 go_simp; with_reducible rfl
                rotate_left
                ·simp only [Act.put, qb, qc, qd, i64_w, i32_w]
                 rfl
                refine pure_ (i := 8) (N := some 77) (v := ?_) (a' := ?_) #[true, true, true, true, true, true, true, true, true, false, false] rfl rfl (qla HT_.out (by kernel_rfl)) (fun _ _ _ h => h) (Or.inl ⟨by rfl, ?_⟩) ?_ ?_; rotate_left
                ·intro w'
                 go_simp; with_reducible rfl
                rotate_left
                ·simp only [Act.put, qb, qc, qd, i64_w, i32_w]
                 rfl
                refine one_ (i := 9) (N := some 78) #[true, true, true, true, true, true, true, true, true, true, false] rfl rfl (qna HT_.out (by kernel_rfl)) (by decide) (fun K hK => ?_); refine goes_ Try.func62 (by kernel_rfl) rfl #[.slice Ao56 x3_3.length co56, .string ((a0.extract 0 (x19_2 : Int).toNat) ++ (a0.extract ((ji50) : Int).toNat a0.size))] (by rfl) rfl rfl (by (try simp only [qs, qv, qw]); first | done | (simp only [hji50]; rfl) | rfl | (simp only [qu, qt]; rfl)) ?_; with_reducible refine (impl_addOnce.calls k3 (fun k_ => some k_ = (.slice Ao56 x3_3.length co56 : Value).ownBlock) (.slice Ao56 x3_3.length co56) x3_3 ((a0.extract 0 (x19_2 : Int).toNat) ++ (a0.extract ((ji50) : Int).toNat a0.size)) t164 w _ ?side1 ?side2 A54.out).mono ?_
                (case side1 => repeat (first | (with_reducible first | exact HB.out | apply qh | apply qe | apply qg) | exact HB.out))
                (case side2 => exact Kd.R_tight rfl HO_3.out)
                rintro e w57 ⟨v165, rfl, ho0, hb, hkp⟩; refine ⟨_, rfl, ?_⟩; have n0_ := qa (qga (ok' := fun k_ => True) ho0 (fun k_ hk_ => trivial)); have n1_ := qa (hb); clear HB HO_3; have HO166 := n0_; have HB := n1_; clear n0_ n1_; (try clear hb); (try clear hkp); (try clear ho0); refine hK.out _ _ trivial (fun hHeld => ?_); clear hK K; refine norm_ (a' := ?_) ?_ ?_; rotate_left
                ·show Act.put _ (some 78) _ = _
                 simp only [Act.put, qb, qc, qd, i64_w, i32_w]; rfl
                refine pure_ (i := 10) (N := some 3) (v := ?_) (a' := ?_) #[true, true, true, true, true, true, true, true, true, true, true] rfl rfl (qla HT_.out (by kernel_rfl)) (fun _ _ _ h => h) (Or.inl ⟨by rfl, ?_⟩) ?_ ?_; rotate_left
                ·intro w'
                 go_simp; with_reducible rfl
                rotate_left
                ·simp only [Act.put, qb, qc, qd, i64_w, i32_w]
                 rfl
                refine done_ (done_of HT_.out (by kernel_rfl)) ?_
                try go_wp2
                go_roundg k3
                case measure => have := HJ1.out; have := HK2.out; have := HK3.out; omega
                case rel => exact ⟨(t164), (ji50), (by first | rfl | (simp; done) | (simp only [← hji50] <;> (first | rfl | simp)) | (simp [*]; done)), H', ⟨by have := HJ1.out; have := HK2.out; have := HK3.out; omega⟩, ⟨by (with_reducible repeat first | apply qx | apply qy | apply qz); exact HO166.out⟩, ⟨by repeat (first | (with_reducible first | exact HB.out | apply qh | apply qe | apply qg) | exact HB.out)⟩⟩
               ·rw [if_neg c53] at H
                exact absurd H (by simp)
              ·rw [if_neg c52] at H
               exact absurd H (by simp)
             ·rw [if_neg c51] at H
              exact absurd H (by simp)
            ·rw [if_neg c49] at H
             exact absurd H (by simp)
           ·rw [if_neg c48] at H
            exact absurd H (by simp)
          ·rw [if_neg c47] at H
           have c47b0 : decide (x19_2 < (a0.size : Int)) = false := qr c47; clear c47; have H' := qa H; clear H; go_wp2
           go_roundg k3
           case measure => have := HJ1.out; have := HK2.out; have := HK3.out; omega
           case rel => exact ⟨(x3_3), (wrap64 (x19_2 + 1)), (by first | rfl | (simp; done) | (simp [*]; done)), H', ⟨by have := HJ1.out; have := HK2.out; have := HK3.out; omega⟩, ⟨by (with_reducible repeat first | apply qx | apply qy | apply qz); exact HO_3.out⟩, ⟨by repeat (first | (with_reducible first | exact HB.out | apply qh | apply qe | apply qg) | exact HB.out)⟩⟩
      ·rw [if_neg c8] at H
       have c8b0 : decide (x19_2 < (wrap64 ((a0.size : Int) + 1))) = false := qr c8; clear c8; obtain rfl := qca H; go_wp2; go_ret; exact ⟨_, by first | rfl | (simp [*] <;> rfl), by (with_reducible repeat first | apply qx | apply qy | apply qz); exact HO_3.out, by repeat (first | (with_reducible first | exact HB.out | apply qh | apply qe | apply qg) | exact HB.out)⟩
end Go.Proofs.Ytkjpbhncgjhfeaa.PFnForms
