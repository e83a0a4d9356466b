import Derived.Test.YtkjpbhncgjhfeaaPFnFormsx0
import Derived.Test.YtkjpbhncgjhfeaaPFnFormsx5
namespace Go.Proofs.Ytkjpbhncgjhfeaa.PFnForms
open Go.RowKit Go.Proofs.YtkjpbhncgjhfeaaW.PrintWords Go.Proofs.YtkjpbhncgjhfeaaW.PrintLast Go.Proofs.YtkjpbhncgjhfeaaW.PrintMore
attribute [local go_sem] max2_int min2_int max_two min_two max_three min_three max_four min_four
set_option linter.unusedVariables false
set_option linter.unusedSimpArgs false
set_option maxHeartbeats 8000000
set_option maxRecDepth 100000
mutual
def spec_NeighboursOf.j0 : Nat → ByteArray → List ByteArray → Bool → Option (List ByteArray)
 | 0, _, _, _ => none
 | k + 1, x0, x3, x16 => if x16 = true then (some x3) else (spec_NeighboursOf.l0 k x0 x3 0)
def spec_NeighboursOf.l0 : Nat → ByteArray → List ByteArray → Int → Option (List ByteArray)
 | 0, _, _, _ => none
 | k + 1, x0, x3, x4 => if x4 ≤ (x0.size : Int) then (spec_NeighboursOf.l1 k x0 x3 x4 0) else (some x3)
def spec_NeighboursOf.l1 : Nat → ByteArray → List ByteArray → Int → Int → Option (List ByteArray)
 | 0, _, _, _, _ => none
 | k + 1, x0, x3, x4, x5 => if x5 < 7 then (if 0 ≤ x4 then (if x4 ≤ (x0.size : Int) then (if 0 ≤ x5 then (if x5 ≤ (wrap64 (x5 + 1)) then (if (wrap64 (x5 + 1)) ≤ 7 then (if (x0.extract 0 (x4 : Int).toNat).size + ((⟨#[112, 116, 98, 100, 110, 97, 105]⟩ : ByteArray).extract (x5 : Int).toNat ((wrap64 (x5 + 1)) : Int).toNat).size ≤ 9223372036854775807 then (if ((x0.extract 0 (x4 : Int).toNat) ++ ((⟨#[112, 116, 98, 100, 110, 97, 105]⟩ : ByteArray).extract (x5 : Int).toNat ((wrap64 (x5 + 1)) : Int).toNat)).size + (x0.extract (x4 : Int).toNat x0.size).size ≤ 9223372036854775807 then ((spec_l3Has.f k x3 (((x0.extract 0 (x4 : Int).toNat) ++ ((⟨#[112, 116, 98, 100, 110, 97, 105]⟩ : ByteArray).extract (x5 : Int).toNat ((wrap64 (x5 + 1)) : Int).toNat)) ++ (x0.extract (x4 : Int).toNat x0.size))).bind fun t186 => (if t186 = true then (spec_NeighboursOf.j3 k x0 x3 x4 x5) else (if x3.length < 8796093022208 then (spec_NeighboursOf.j3 k x0 (x3 ++ [((x0.extract 0 (x4 : Int).toNat) ++ ((⟨#[112, 116, 98, 100, 110, 97, 105]⟩ : ByteArray).extract (x5 : Int).toNat ((wrap64 (x5 + 1)) : Int).toNat)) ++ (x0.extract (x4 : Int).toNat x0.size)]) x4 x5) else (none)))) else (none)) else (none)) else (none)) else (none)) else (none)) else (none)) else (none)) else (if x4 < (x0.size : Int) then (if 0 ≤ x4 then (if x4 ≤ (x0.size : Int) then (if 0 ≤ (wrap64 (x4 + 1)) then (if (wrap64 (x4 + 1)) ≤ (x0.size : Int) then (if (x0.extract 0 (x4 : Int).toNat).size + (x0.extract ((wrap64 (x4 + 1)) : Int).toNat x0.size).size ≤ 9223372036854775807 then ((spec_l3Has.f k x3 ((x0.extract 0 (x4 : Int).toNat) ++ (x0.extract ((wrap64 (x4 + 1)) : Int).toNat x0.size))).bind fun t182 => (if t182 = true then (spec_NeighboursOf.l0 k x0 x3 (wrap64 (x4 + 1))) else (if x3.length < 8796093022208 then (spec_NeighboursOf.l0 k x0 (x3 ++ [(x0.extract 0 (x4 : Int).toNat) ++ (x0.extract ((wrap64 (x4 + 1)) : Int).toNat x0.size)]) (wrap64 (x4 + 1))) else (none)))) else (none)) else (none)) else (none)) else (none)) else (none)) else (spec_NeighboursOf.l0 k x0 x3 (wrap64 (x4 + 1))))
def spec_NeighboursOf.j3 : Nat → ByteArray → List ByteArray → Int → Int → Option (List ByteArray)
 | 0, _, _, _, _ => none
 | k + 1, x0, x3, x4, x5 => if x4 < (x0.size : Int) then (if 0 ≤ x4 then (if x4 ≤ (x0.size : Int) then (if 0 ≤ x5 then (if x5 ≤ (wrap64 (x5 + 1)) then (if (wrap64 (x5 + 1)) ≤ 7 then (if (x0.extract 0 (x4 : Int).toNat).size + ((⟨#[112, 116, 98, 100, 110, 97, 105]⟩ : ByteArray).extract (x5 : Int).toNat ((wrap64 (x5 + 1)) : Int).toNat).size ≤ 9223372036854775807 then (if 0 ≤ (wrap64 (x4 + 1)) then (if (wrap64 (x4 + 1)) ≤ (x0.size : Int) then (if ((x0.extract 0 (x4 : Int).toNat) ++ ((⟨#[112, 116, 98, 100, 110, 97, 105]⟩ : ByteArray).extract (x5 : Int).toNat ((wrap64 (x5 + 1)) : Int).toNat)).size + (x0.extract ((wrap64 (x4 + 1)) : Int).toNat x0.size).size ≤ 9223372036854775807 then (if (((x0.extract 0 (x4 : Int).toNat) ++ ((⟨#[112, 116, 98, 100, 110, 97, 105]⟩ : ByteArray).extract (x5 : Int).toNat ((wrap64 (x5 + 1)) : Int).toNat)) ++ (x0.extract ((wrap64 (x4 + 1)) : Int).toNat x0.size)).toList = x0.toList then (spec_NeighboursOf.l1 k x0 x3 x4 (wrap64 (x5 + 1))) else ((spec_l3Has.f k x3 (((x0.extract 0 (x4 : Int).toNat) ++ ((⟨#[112, 116, 98, 100, 110, 97, 105]⟩ : ByteArray).extract (x5 : Int).toNat ((wrap64 (x5 + 1)) : Int).toNat)) ++ (x0.extract ((wrap64 (x4 + 1)) : Int).toNat x0.size))).bind fun t190 => (if t190 = true then (spec_NeighboursOf.l1 k x0 x3 x4 (wrap64 (x5 + 1))) else (if x3.length < 8796093022208 then (spec_NeighboursOf.l1 k x0 (x3 ++ [((x0.extract 0 (x4 : Int).toNat) ++ ((⟨#[112, 116, 98, 100, 110, 97, 105]⟩ : ByteArray).extract (x5 : Int).toNat ((wrap64 (x5 + 1)) : Int).toNat)) ++ (x0.extract ((wrap64 (x4 + 1)) : Int).toNat x0.size)]) x4 (wrap64 (x5 + 1))) else (none))))) else (none)) else (none)) else (none)) else (none)) else (none)) else (none)) else (none)) else (none)) else (none)) else (spec_NeighboursOf.l1 k x0 x3 x4 (wrap64 (x5 + 1)))
end
def spec_NeighboursOf.f (k : Nat) (a0 : ByteArray) : Option (List ByteArray) := (some (([] : List ByteArray) : List ByteArray)).bind fun y178 => ((spec_IsForm.f k a0).bind fun t181 => (if t181 = true then (spec_NeighboursOf.j0 k a0 y178 (decide ((a0.size : Int) ≥ 8))) else (spec_NeighboursOf.j0 k a0 y178 true)))
def spec_NeighboursOf.T10 : Bool × List (List Nat × List Nat) := (true, [([], []), ([], []), ([0, 1], [0, 1]), ([], []), ([], []), ([4], [4]), ([3, 5], [3, 5]), ([2, 6], [2, 6]), ([], []), ([], []), ([8, 9], [8, 9]), ([7, 10], [7, 10]), ([11, 0, 1, 2, 3, 4, 5, 6, 7, 8, 9, 10, 11], [11])])
def spec_NeighboursOf.B10 : List Nat := [0, 0, 3, 0, 0, 16, 56, 127, 0, 0, 768, 2047, 4095]
theorem spec_NeighboursOf.tab10 : rtab .any (opsOf Try.f9 10) = spec_NeighboursOf.T10 := by kernel_rfl
theorem spec_NeighboursOf.bits10 : waitsOk spec_NeighboursOf.T10.2 spec_NeighboursOf.B10 = true := by kernel_rfl
def spec_NeighboursOf.T14 : Bool × List (List Nat × List Nat) := (true, [([], []), ([], []), ([0, 1], [0, 1]), ([], []), ([], []), ([4], [4]), ([3, 5], [3, 5]), ([2, 6], [2, 6]), ([], []), ([], []), ([9], [9]), ([8, 10], [8, 10]), ([7, 11], [7, 11]), ([12, 0, 1, 2, 3, 4, 5, 6, 7, 8, 9, 10, 11, 12], [12])])
def spec_NeighboursOf.B14 : List Nat := [0, 0, 3, 0, 0, 16, 56, 127, 0, 0, 512, 1792, 4095, 8191]
theorem spec_NeighboursOf.tab14 : rtab .any (opsOf Try.f9 14) = spec_NeighboursOf.T14 := by kernel_rfl
theorem spec_NeighboursOf.bits14 : waitsOk spec_NeighboursOf.T14.2 spec_NeighboursOf.B14 = true := by kernel_rfl
def spec_NeighboursOf.T17 : Bool × List (List Nat × List Nat) := (true, [([], []), ([], []), ([1], [1]), ([0, 2], [0, 2]), ([3], [3]), ([4], [4]), ([4], [4]), ([4], [4]), ([6, 7, 4], [4, 6, 7]), ([4], [4]), ([4], [4]), ([10, 4], [4, 10]), ([9, 11, 4], [4, 9, 11]), ([8, 12, 4], [4, 8, 12]), ([5, 13, 4, 4], [4, 5, 13]), ([14, 4], [4, 14]), ([4, 15], [4, 15])])
def spec_NeighboursOf.B17 : List Nat := [0, 0, 2, 7, 15, 31, 31, 31, 223, 31, 31, 1055, 3615, 8159, 16383, 32767, 65535]
theorem spec_NeighboursOf.tab17 : rtab .any (opsOf Try.f9 17) = spec_NeighboursOf.T17 := by kernel_rfl
theorem spec_NeighboursOf.bits17 : waitsOk spec_NeighboursOf.T17.2 spec_NeighboursOf.B17 = true := by kernel_rfl
def spec_NeighboursOf.T18 : Bool × List (List Nat × List Nat) := (true, [([], []), ([], []), ([], []), ([1, 2], [1, 2]), ([], []), ([], []), ([5], [5]), ([4, 6], [4, 6]), ([3, 7], [3, 7]), ([8], [8]), ([0, 9], [0, 9]), ([10, 10, 0, 1, 2, 3, 4, 5, 6, 7, 8, 9, 10], [0, 10])])
def spec_NeighboursOf.B18 : List Nat := [0, 0, 0, 6, 0, 0, 32, 112, 254, 510, 1023, 2047]
theorem spec_NeighboursOf.tab18 : rtab .any (opsOf Try.f9 18) = spec_NeighboursOf.T18 := by kernel_rfl
theorem spec_NeighboursOf.bits18 : waitsOk spec_NeighboursOf.T18.2 spec_NeighboursOf.B18 = true := by kernel_rfl
theorem spec_NeighboursOf.calls (k : Nat) (a0 : ByteArray) (r : List ByteArray) (w : World) (h : spec_NeighboursOf.f k a0 = some r) :
  Calls Try.prog 9 #[.string a0] w fun e w' => ∃ v0_ : Value, e = .returned (v0_) ∧ Kd.R Kd.string 9 w' w.heap.size (fun _ => True) v0_ r ∧ Below w.heap.size w w' := by
 have HB := qa (qwa w.heap.size w); have H := h; unfold spec_NeighboursOf.f at H; clear h
 obtain ⟨y178, hy178⟩ : ∃ y_ : List ByteArray, y_ = (([] : List ByteArray)) := ⟨_, rfl⟩
 replace H : ((spec_IsForm.f k a0).bind fun t181 => (if t181 = true then (spec_NeighboursOf.j0 k a0 y178 (decide ((a0.size : Int) ≥ 8))) else (spec_NeighboursOf.j0 k a0 y178 true))) = some r := by first | (rw [hy178]; with_reducible exact H) | (have H2_ := (Option.bind_some _ _).symm.trans H; rw [hy178]; with_reducible exact H2_) | (have H2_ := (Option.bind_some _ _).symm.trans H; with_reducible exact H2_) | with_reducible exact H | (rw [hy178]; exact H) | exact H
 have Ny178 := qa hy178; clear hy178; have HC2 := qa H; clear H; go_enter Try.func9, Try.ntmps9
 go_upto_region 2 with (first | ((with_reducible refine gate_dst (N := 8) rfl ?_); (try (refine gate_guard (by rfl) ?_; dsimp only)); refine qza Kd.string _ 9 ?hg (N := 8) ?hd (xs := ([] : List ByteArray)) (inner := []) (ok := fun _ => True) (okp := fun _ => True) ?hr ?hp (fun _ hk => hk) trivial (qwa _ _) (qva _) (by simp) ?_; (case hd => rfl); (case hg => rfl); (case hr => first | (go_simp; done) | (go_simp; rfl)); (case hp => exact (Reps.none _ _)); intro v179 w3 ho4 hb hg_ hnew_; clear hg_ hnew_; (first | rw [← Ny178.out] at ho4 | (simp only [Int.reduceToNat] at ho4; rw [← Ny178.out] at ho4)); have n0_ := qa (qxa ho4 (qp (by repeat (first | (with_reducible first | exact HB.out | apply qh | apply qe | apply qg) | exact HB.out)))); have n1_ := qa (qba (by repeat (first | (with_reducible first | exact HB.out | apply qh | apply qe | apply qg) | exact HB.out)) hb); clear HB; have HO180 := n0_; have HB := n1_; clear n0_ n1_; clear hb ho4))
 (try simp only [Act.put, qb, qc, qd])
 go_cut [16] (fun v16 wc => ∃ (kq : Nat) (x16_1 : Bool), v16 = .bool x16_1 ∧ Aside0 (spec_NeighboursOf.j0 kq a0 y178 x16_1 = some r) ∧ Aside0 (kq ≤ k) ∧ Aside0 (Kd.R Kd.string 9 wc w.heap.size (fun _ => True) v179 y178) ∧ Aside0 (Below w.heap.size w wc))
 case first =>
  have H := HC2.out; clear HC2; obtain ⟨t181, A50, H⟩ := zb H; (try dsimp only at H); have A5 := qa A50; clear A50
  by_cases c6 : t181 = true
  ·subst c6
   rw [if_pos rfl] at H; have H1 := H; clear H; have H := H1; clear H1; have H' := qa H; clear H
   go_wp2_with (first | ((with_reducible refine qqa (f := 15) rfl ?_); refine goesL_ (some 10) rfl rfl Try.func15 (by kernel_rfl) rfl #[.string a0] rfl (by (try simp only [qs, qv, qw]); first | done | rfl | (simp only [qu, qt]; rfl)) ?_; (with_reducible refine (spec_IsForm.calls k a0 true _ A5.out).mono ?_); rintro e w' ⟨rfl, ⟨nd, rfl⟩⟩; refine ⟨_, rfl, ?_⟩))
   go_meet
   case rel => exact ⟨_, (decide ((a0.size : Int) ≥ 8)), (by first | rfl | (simp; done) | (simp [*]; done)), H', ⟨by first | omega | exact qva _⟩, ⟨by (with_reducible repeat first | apply qx | apply qy | apply qz); exact HO180.out⟩, ⟨by repeat (first | (with_reducible first | exact HB.out | apply qh | apply qe | apply qg) | exact HB.out)⟩⟩
  ·replace c6 := Bool.eq_false_iff.mpr c6
   subst c6; rw [if_neg (show ¬ (false = true) by decide)] at H; have H1 := H; clear H; have H := H1; clear H1; have H' := qa H; clear H
   go_wp2_with (first | ((with_reducible refine qqa (f := 15) rfl ?_); refine goesL_ (some 10) rfl rfl Try.func15 (by kernel_rfl) rfl #[.string a0] rfl (by (try simp only [qs, qv, qw]); first | done | rfl | (simp only [qu, qt]; rfl)) ?_; (with_reducible refine (spec_IsForm.calls k a0 false _ A5.out).mono ?_); rintro e w' ⟨rfl, ⟨nd, rfl⟩⟩; refine ⟨_, rfl, ?_⟩))
   go_meet
   case rel => exact ⟨_, (true), (by first | rfl | (simp; done) | (simp [*]; done)), H', ⟨by first | omega | exact qva _⟩, ⟨by (with_reducible repeat first | apply qx | apply qy | apply qz); exact HO180.out⟩, ⟨by repeat (first | (with_reducible first | exact HB.out | apply qh | apply qe | apply qg) | exact HB.out)⟩⟩
 case rest =>
  clear HC2; (try clear c1); (try clear p2); (try clear c6); obtain ⟨kq, x16_1, rfl, HA, HJ1, HO_3, HB⟩ := hcut
  cases kq with
  | zero => exact absurd HA.out (by simp [spec_NeighboursOf.j0])
  | succ kj1 =>
   have H := HA.out; clear HA; simp only [spec_NeighboursOf.j0] at H
   by_cases c7 : x16_1 = true
   ·subst c7
    rw [if_pos rfl] at H; have H1 := H; clear H; have H := H1; clear H1; obtain rfl := qca H; go_wp2; go_ret; exact ⟨_, by first | rfl | (simp [*] <;> rfl), by (with_reducible repeat first | apply qx | apply qy | apply qz); exact HO_3.out, by repeat (first | (with_reducible first | exact HB.out | apply qh | apply qe | apply qg) | exact HB.out)⟩
   ·replace c7 := Bool.eq_false_iff.mpr c7
    subst c7; rw [if_neg (show ¬ (false = true) by decide)] at H; have H1 := H; clear H; have H := H1; clear H1; have H' := qa H; clear H; go_wp2
    go_loopg [3, 4] kj1 (fun kq v3 v4 w' => ∃ (x3_2 : List ByteArray) (x4_2 : Int), v4 = .int .i64 x4_2 ∧ Aside0 (spec_NeighboursOf.l0 kq a0 x3_2 x4_2 = some r) ∧ Aside0 (kq ≤ kj1) ∧ Aside0 (Kd.R Kd.string 9 w' w.heap.size (fun _ => True) v3 x3_2) ∧ Aside0 (Below w.heap.size w w'))
    case atStart => exact ⟨(y178), (0), (by first | rfl | (simp; done) | (simp [*]; done)), H', ⟨qva _⟩, ⟨by (with_reducible repeat first | apply qx | apply qy | apply qz); exact HO_3.out⟩, ⟨by repeat (first | (with_reducible first | exact HB.out | apply qh | apply qe | apply qg) | exact HB.out)⟩⟩
    case round =>
     clear H'; (try clear c1); (try clear p2); (try clear c6); (try clear c7); (try clear p2); obtain ⟨x3_2, x4_2, rfl, HA, HK2, HO_3, HB⟩ := hrel
     cases gk with
     | zero => exact absurd HA.out (by simp [spec_NeighboursOf.l0])
     | succ k2 =>
      have H := HA.out; clear HA; simp only [spec_NeighboursOf.l0] at H
      by_cases c8 : x4_2 ≤ (a0.size : Int)
      ·rw [if_pos c8] at H
       have c8b0 : decide (x4_2 ≤ (a0.size : Int)) = true := qq c8; clear c8; have H' := qa H; clear H; go_wp2
       go_loopg [3, 5] k2 (fun kq v3 v5 w' => ∃ (x3_3 : List ByteArray) (x5_3 : Int), v5 = .int .i64 x5_3 ∧ Aside0 (spec_NeighboursOf.l1 kq a0 x3_3 x4_2 x5_3 = some r) ∧ Aside0 (kq ≤ k2) ∧ Aside0 (Kd.R Kd.string 9 w' w.heap.size (fun _ => True) v3 x3_3) ∧ Aside0 (Below w.heap.size w w'))
       case atStart => exact ⟨(x3_2), (0), (by first | rfl | (simp; done) | (simp [*]; done)), H', ⟨qva _⟩, ⟨by (with_reducible repeat first | apply qx | apply qy | apply qz); exact HO_3.out⟩, ⟨by repeat (first | (with_reducible first | exact HB.out | apply qh | apply qe | apply qg) | exact HB.out)⟩⟩
       case round =>
        clear H'; (try clear c1); (try clear p2); (try clear c6); (try clear c7); (try clear c8); (try clear c8b0); (try clear p2); obtain ⟨x3_3, x5_3, rfl, HA, HK3, HO_3, HB⟩ := hrel
        cases gk with
        | zero => exact absurd HA.out (by simp [spec_NeighboursOf.l1])
        | succ k3 =>
         have H := HA.out; clear HA; simp only [spec_NeighboursOf.l1] at H
         by_cases c9 : x5_3 < 7
         ·rw [if_pos c9] at H
          have c9b0 : decide (x5_3 < 7) = true := qq c9; clear c9
          by_cases c10 : 0 ≤ x4_2
          ·rw [if_pos c10] at H
           have c10b0 := qaa c10; have c10b1 : decide (0 ≤ x4_2) = true := qq c10; clear c10
           by_cases c11 : x4_2 ≤ (a0.size : Int)
           ·rw [if_pos c11] at H
            have c11b0 := qaa c11; have c11b1 : decide (x4_2 ≤ (a0.size : Int)) = true := qq c11; clear c11
            by_cases c12 : 0 ≤ x5_3
            ·rw [if_pos c12] at H
             have c12b0 := qaa c12; have c12b1 : decide (0 ≤ x5_3) = true := qq c12; clear c12
             by_cases c13 : x5_3 ≤ (wrap64 (x5_3 + 1))
             ·rw [if_pos c13] at H
              have c13b0 := qaa c13; have c13b1 : decide (x5_3 ≤ (wrap64 (x5_3 + 1))) = true := qq c13
              by_cases c14 : (wrap64 (x5_3 + 1)) ≤ 7
              ·rw [if_pos c14] at H
               have c14b0 := qaa c14; have c14b1 : decide ((wrap64 (x5_3 + 1)) ≤ 7) = true := qq c14
               by_cases c15 : (a0.extract 0 (x4_2 : Int).toNat).size + ((⟨#[112, 116, 98, 100, 110, 97, 105]⟩ : ByteArray).extract (x5_3 : Int).toNat ((wrap64 (x5_3 + 1)) : Int).toNat).size ≤ 9223372036854775807
               ·rw [if_pos c15] at H
                have c15b0 := qaa c15; have c15b1 : decide ((a0.extract 0 (x4_2 : Int).toNat).size + ((⟨#[112, 116, 98, 100, 110, 97, 105]⟩ : ByteArray).extract (x5_3 : Int).toNat ((wrap64 (x5_3 + 1)) : Int).toNat).size ≤ 9223372036854775807) = true := qq c15; (try have c15x : (9223372036854775807 < x4_2.toNat + ((wrap64 (x5_3 + 1)).toNat - x5_3.toNat)) = False := eq_false (by have h_ := c15; (try simp only [decide_eq_true_eq] at *); (try simp only [ByteArray.size_append, ByteArray.size_extract] at h_); have hl0_ : (⟨#[112, 116, 98, 100, 110, 97, 105]⟩ : ByteArray).size = 7 := rfl; omega))
                try have c15b2 : (9223372036854775807 < (a0.extract 0 (x4_2 : Int).toNat).size + ((⟨#[112, 116, 98, 100, 110, 97, 105]⟩ : ByteArray).extract (x5_3 : Int).toNat ((wrap64 (x5_3 + 1)) : Int).toNat).size) = False := eq_false (Nat.not_lt.2 c15)
                have c16b0 := qaa (qm (by assumption) : 0 ≤ x4_2); have c17b0 := qaa (qm (by assumption) : x4_2 ≤ (a0.size : Int))
                by_cases c18 : ((a0.extract 0 (x4_2 : Int).toNat) ++ ((⟨#[112, 116, 98, 100, 110, 97, 105]⟩ : ByteArray).extract (x5_3 : Int).toNat ((wrap64 (x5_3 + 1)) : Int).toNat)).size + (a0.extract (x4_2 : Int).toNat a0.size).size ≤ 9223372036854775807
                ·rw [if_pos c18] at H
                 have c18b0 := qaa c18; have c18b1 : decide (((a0.extract 0 (x4_2 : Int).toNat) ++ ((⟨#[112, 116, 98, 100, 110, 97, 105]⟩ : ByteArray).extract (x5_3 : Int).toNat ((wrap64 (x5_3 + 1)) : Int).toNat)).size + (a0.extract (x4_2 : Int).toNat a0.size).size ≤ 9223372036854775807) = true := qq c18; (try have c18x : (9223372036854775807 < x4_2.toNat + ((wrap64 (x5_3 + 1)).toNat - x5_3.toNat) + (a0.size - x4_2.toNat)) = False := eq_false (by have h_ := c18; (try simp only [decide_eq_true_eq] at *); (try simp only [ByteArray.size_append, ByteArray.size_extract] at h_); have hl0_ : (⟨#[112, 116, 98, 100, 110, 97, 105]⟩ : ByteArray).size = 7 := rfl; omega))
                 try have c18b2 : (9223372036854775807 < ((a0.extract 0 (x4_2 : Int).toNat) ++ ((⟨#[112, 116, 98, 100, 110, 97, 105]⟩ : ByteArray).extract (x5_3 : Int).toNat ((wrap64 (x5_3 + 1)) : Int).toNat)).size + (a0.extract (x4_2 : Int).toNat a0.size).size) = False := eq_false (Nat.not_lt.2 c18)
                 obtain ⟨t186, A190, H⟩ := zb H; (try dsimp only at H); have A19 := qa A190; clear A190; have HC20 := qa H; clear H
                 try go_wp2
                 have n0_ := qa (qz HO_3.out); have n1_ := qa (qg HB.out); clear HO_3 HB; have HO_3 := n0_; have HB := n1_; clear n0_ n1_; refine start_ (n := 13) (S := fun w' => True) (ds := []) #[false, false, false, false, false, false, false, false, false, false, false, false, false] (by kernel_rfl) rfl rfl trivial (fun hHeld => ?_); refine with_tabW spec_NeighboursOf.tab10 spec_NeighboursOf.bits10 (fun HT_ HW_ => ?_); generalize wr.drew = w21 at HO_3 HB hHeld ⊢; refine pure_ (i := 0) (N := some 28) (v := ?_) (a' := ?_) #[true, false, false, false, false, false, false, false, false, false, false, false, false] rfl rfl (qla HT_.out (by kernel_rfl)) (fun _ _ _ h => h) (Or.inl ⟨by rfl, ?_⟩) ?_ ?_; rotate_left
                 ·intro w'
                  go_simp; with_reducible rfl
                 rotate_left
                 ·simp only [Act.put, qb, qc, qd, i64_w, i32_w]
                  rfl
                 refine pure_ (i := 1) (N := some 29) (v := ?_) (a' := ?_) #[true, true, false, false, false, false, false, false, false, false, false, false, false] rfl rfl (qla HT_.out (by kernel_rfl)) (fun _ _ _ h => h) (Or.inl ⟨by rfl, ?_⟩) ?_ ?_; rotate_left
                 ·intro w'
                  go_simp; with_reducible rfl
                 rotate_left
                 ·simp only [Act.put, qb, qc, qd, i64_w, i32_w]
                  rfl
                 refine pure_ (i := 2) (N := some 30) (v := ?_) (a' := ?_) #[true, true, true, false, false, false, false, false, false, false, false, false, false] rfl rfl (qla HT_.out (by kernel_rfl)) (fun _ _ _ h => h) (Or.inl ⟨by rfl, ?_⟩) ?_ ?_; rotate_left
                 ·intro w'
                  go_simp; with_reducible rfl
                 rotate_left
                 ·simp only [Act.put, qb, qc, qd, i64_w, i32_w]
                  rfl
                 refine pure_ (i := 3) (N := some 31) (v := ?_) (a' := ?_) #[true, true, true, true, false, false, false, false, false, false, false, false, false] rfl rfl (qla HT_.out (by kernel_rfl)) (fun _ _ _ h => h) (Or.inl ⟨by rfl, ?_⟩) ?_ ?_; rotate_left
                 ·intro w'
                  go_simp; with_reducible rfl
                 rotate_left
                 ·simp only [Act.put, qb, qc, qd, i64_w, i32_w]
                  rfl
                 refine pure_ (i := 4) (N := some 32) (v := ?_) (a' := ?_) #[true, true, true, true, true, false, false, false, false, false, false, false, false] rfl rfl (qla HT_.out (by kernel_rfl)) (fun _ _ _ h => h) (Or.inl ⟨by rfl, ?_⟩) ?_ ?_; rotate_left
                 ·intro w'
                  go_simp; with_reducible rfl
                 rotate_left
                 ·simp only [Act.put, qb, qc, qd, i64_w, i32_w]
                  rfl
                 refine pure_ (i := 5) (N := some 33) (v := ?_) (a' := ?_) #[true, true, true, true, true, true, false, false, false, false, false, false, false] rfl rfl (qla HT_.out (by kernel_rfl)) (fun _ _ _ h => h) (Or.inl ⟨by rfl, ?_⟩) ?_ ?_; rotate_left
                 ·intro w'
                  go_simp; with_reducible rfl
                 rotate_left
                 ·simp only [Act.put, qb, qc, qd, i64_w, i32_w]
                  rfl
                 refine pure_ (i := 6) (N := some 34) (v := ?_) (a' := ?_) #[true, true, true, true, true, true, true, false, false, false, false, false, false] rfl rfl (qla HT_.out (by kernel_rfl)) (fun _ _ _ h => h) (Or.inl ⟨by rfl, ?_⟩) ?_ ?_; rotate_left
                 ·intro w'
                  go_simp; with_reducible rfl
                 rotate_left
                 ·simp only [Act.put, qb, qc, qd, i64_w, i32_w]
                  rfl
                 refine pure_ (i := 7) (N := some 35) (v := ?_) (a' := ?_) #[true, true, true, true, true, true, true, true, false, false, false, false, false] rfl rfl (qla HT_.out (by kernel_rfl)) (fun _ _ _ h => h) (Or.inl ⟨by rfl, ?_⟩) ?_ ?_; rotate_left
                 ·intro w'
                  go_simp; with_reducible rfl
                 rotate_left
                 ·simp only [Act.put, qb, qc, qd, i64_w, i32_w]
                  rfl
                 refine pure_ (i := 8) (N := some 36) (v := ?_) (a' := ?_) #[true, true, true, true, true, true, true, true, true, false, false, false, false] rfl rfl (qla HT_.out (by kernel_rfl)) (fun _ _ _ h => h) (Or.inl ⟨by rfl, ?_⟩) ?_ ?_; rotate_left
                 ·intro w'
                  go_simp; with_reducible rfl
                 rotate_left
                 ·simp only [Act.put, qb, qc, qd, i64_w, i32_w]
                  rfl
                 refine pure_ (i := 9) (N := some 37) (v := ?_) (a' := ?_) #[true, true, true, true, true, true, true, true, true, true, false, false, false] rfl rfl (qla HT_.out (by kernel_rfl)) (fun _ _ _ h => h) (Or.inl ⟨by rfl, ?_⟩) ?_ ?_; rotate_left
                 ·intro w'
                  go_simp; with_reducible rfl
                 rotate_left
                 ·simp only [Act.put, qb, qc, qd, i64_w, i32_w]
                  rfl
                 refine pure_ (i := 10) (N := some 38) (v := ?_) (a' := ?_) #[true, true, true, true, true, true, true, true, true, true, true, false, false] rfl rfl (qla HT_.out (by kernel_rfl)) (fun _ _ _ h => h) (Or.inl ⟨by rfl, ?_⟩) ?_ ?_; rotate_left
                 ·intro w'
                  go_simp; with_reducible rfl
                 rotate_left
                 ·simp only [Act.put, qb, qc, qd, i64_w, i32_w]
                  rfl
                 refine pure_ (i := 11) (N := some 39) (v := ?_) (a' := ?_) #[true, true, true, true, true, true, true, true, true, true, true, true, false] rfl rfl (qla HT_.out (by kernel_rfl)) (fun _ _ _ h => h) (Or.inl ⟨by rfl, ?_⟩) ?_ ?_; rotate_left
                 ·intro w'
                  go_simp; with_reducible rfl
                 rotate_left
                 ·simp only [Act.put, qb, qc, qd, i64_w, i32_w]
                  rfl
                 refine pure_ (i := 12) (N := some 6) (v := ?_) (a' := ?_) #[true, true, true, true, true, true, true, true, true, true, true, true, true] rfl rfl (qla HT_.out (by kernel_rfl)) (fun _ _ _ h => h) (Or.inl ⟨by rfl, ?_⟩) ?_ ?_; rotate_left
                 ·intro w'
                  go_simp; with_reducible rfl
                 rotate_left
                 ·simp only [Act.put, qb, qc, qd, i64_w, i32_w]
                  rfl
                 refine done_ (done_of HT_.out (by kernel_rfl)) ?_; obtain ⟨Ao22, co22, eo22⟩ := Kd.R_slice HO_3.out; subst eo22
                 go_upto_if 43 with (first | ((with_reducible refine qqa (f := 63) rfl ?_); refine goesL_ (some 42) rfl rfl Try.func63 (by kernel_rfl) rfl #[.slice Ao22 x3_3.length co22, .string (((a0.extract 0 (x4_2 : Int).toNat) ++ ((⟨#[112, 116, 98, 100, 110, 97, 105]⟩ : ByteArray).extract (x5_3 : Int).toNat ((wrap64 (x5_3 + 1)) : Int).toNat)) ++ (a0.extract (x4_2 : Int).toNat a0.size))] rfl (by (try simp only [qs, qv, qw]); first | done | rfl | (simp only [qu, qt]; rfl)) ?_; (with_reducible refine (spec_l3Has.calls k3 _ _ x3_3 (((a0.extract 0 (x4_2 : Int).toNat) ++ ((⟨#[112, 116, 98, 100, 110, 97, 105]⟩ : ByteArray).extract (x5_3 : Int).toNat ((wrap64 (x5_3 + 1)) : Int).toNat)) ++ (a0.extract (x4_2 : Int).toNat a0.size)) t186 _ ?side1 ?side2 A19.out).mono ?_); (case side1 => repeat (first | exact (qra HO_3.out).2.2 | (with_reducible first | apply qda | apply qea | apply qfa))); (case side2 => exact (qra HO_3.out).2.1); rintro e w' ⟨rfl, ⟨nd, rfl⟩⟩; refine ⟨_, rfl, ?_⟩))
                 (try simp only [Act.put, qb, qc, qd])
                 go_cut [3] (fun v3 wc => ∃ (kq : Nat) (x3_19 : List ByteArray), Aside0 (spec_NeighboursOf.j3 kq a0 x3_19 x4_2 x5_3 = some r) ∧ Aside0 (kq ≤ k3) ∧ Aside0 (Kd.R Kd.string 9 wc w.heap.size (fun _ => True) v3 x3_19) ∧ Aside0 (Below w.heap.size w wc))
                 case first =>
                  have H := HC20.out; clear HC20
                  by_cases c23 : t186 = true
                  ·subst c23
                   rw [if_pos rfl] at H; have H1 := H; clear H; have H := H1; clear H1; have H' := qa H; clear H; go_wp2; go_meet
                   case rel => exact ⟨_, (x3_3), H', ⟨by have := HJ1.out; have := HK2.out; have := HK3.out; first | omega | exact qva _⟩, ⟨by (with_reducible repeat first | apply qx | apply qy | apply qz); exact HO_3.out⟩, ⟨by repeat (first | (with_reducible first | exact HB.out | apply qh | apply qe | apply qg) | exact HB.out)⟩⟩
                  ·replace c23 := Bool.eq_false_iff.mpr c23
                   subst c23; rw [if_neg (show ¬ (false = true) by decide)] at H; have H1 := H; clear H; have H := H1; clear H1
                   by_cases c24 : x3_3.length < 8796093022208
                   ·rw [if_pos c24] at H
                    have LMc24 := qa c24; clear c24
                    obtain ⟨y187, hy187⟩ : ∃ y_ : List ByteArray, y_ = (x3_3 ++ [((a0.extract 0 (x4_2 : Int).toNat) ++ ((⟨#[112, 116, 98, 100, 110, 97, 105]⟩ : ByteArray).extract (x5_3 : Int).toNat ((wrap64 (x5_3 + 1)) : Int).toNat)) ++ (a0.extract (x4_2 : Int).toNat a0.size)]) := ⟨_, rfl⟩
                    replace H : (spec_NeighboursOf.j3 k3 a0 y187 x4_2 x5_3) = some r := by first | (rw [hy187]; with_reducible exact H) | (have H2_ := (Option.bind_some _ _).symm.trans H; rw [hy187]; with_reducible exact H2_) | (have H2_ := (Option.bind_some _ _).symm.trans H; with_reducible exact H2_) | with_reducible exact H | (rw [hy187]; exact H) | exact H
                    have Ny187 := qa hy187; clear hy187; have H' := qa H; clear H
                    go_wp2_with (first | ((with_reducible refine gate_builtin (b := .append) (xs := #[.tmp 44, .tmp 46]) rfl ?_); (try (refine gate_guard (by rfl) ?_; dsimp only)); at_builtin; refine Kd.R_append Kd.string (w0 := w) w.heap.size rfl (.tmp 44) (.tmp 46) 25 9 (.string ⟨#[]⟩) 16 rfl Try.underlying25 info9 rfl (by decide) (by omega) (.slice Ao22 x3_3.length co22) x3_3 (((a0.extract 0 (x4_2 : Int).toNat) ++ ((⟨#[112, 116, 98, 100, 110, 97, 105]⟩ : ByteArray).extract (x5_3 : Int).toNat ((wrap64 (x5_3 + 1)) : Int).toNat)) ++ (a0.extract (x4_2 : Int).toNat a0.size)) [.string (((a0.extract 0 (x4_2 : Int).toNat) ++ ((⟨#[112, 116, 98, 100, 110, 97, 105]⟩ : ByteArray).extract (x5_3 : Int).toNat ((wrap64 (x5_3 + 1)) : Int).toNat)) ++ (a0.extract (x4_2 : Int).toNat a0.size))] (fun _ => True) (fun _ => False) rfl rfl ?aP (fun _ hk => hk.elim) ?aF ?aO ?aB ?aS ?aL ?_; (case aP => exact rfl); (case aB => exact (by repeat (first | (with_reducible first | exact HB.out | apply qh | apply qe | apply qg) | exact HB.out))); (case aF => exact (fun _ _ => trivial)); (case aO => exact (by (with_reducible repeat first | apply qx | apply qy | apply qz); exact HO_3.out)); (case aS => exact (qp (by repeat (first | (with_reducible first | exact HB.out | apply qh | apply qe | apply qg) | exact HB.out)))); (case aL => have := LMc24.out; omega); intro v188 w25 ho hb hg hat; rw [← Ny187.out] at ho; have n0_ := qa (hb); have n1_ := qa (ho); clear HB; clear HO_3; have HB := n0_; have HO189 := n1_; clear n0_ n1_; clear ho hb hg hat))
                    go_meet
                    case rel => exact ⟨_, (y187), H', ⟨by have := HJ1.out; have := HK2.out; have := HK3.out; first | omega | exact qva _⟩, ⟨by (with_reducible repeat first | apply qx | apply qy | apply qz); exact HO189.out⟩, ⟨by repeat (first | (with_reducible first | exact HB.out | apply qh | apply qe | apply qg) | exact HB.out)⟩⟩
                   ·rw [if_neg c24] at H
                    exact absurd H (by simp)
                 case rest =>
                  clear HC20; (try clear c1); (try clear c2); (try clear p2); (try clear c6); (try clear p6); (try clear c7); (try clear c8); (try clear c8b0); (try clear c9); (try clear c9b0); (try clear c10); (try clear c10b0); (try clear c10b1); (try clear c11); (try clear c11b0); (try clear c11b1); (try clear c12); (try clear c12b0); (try clear c12b1); (try clear c13); (try clear c13b0); (try clear c13b1); (try clear c14); (try clear c14b0); (try clear c14b1); (try clear c15); (try clear c15b0); (try clear c15b1); (try clear c15b2); (try clear c16); (try clear c16b0); (try clear c17); (try clear c17b0); (try clear c18); (try clear c18b0); (try clear c18b1); (try clear c18b2); (try clear c23); (try clear c24); (try clear p2); obtain ⟨kq, x3_19, HA, HJ19, HO_3, HB⟩ := hcut
                  cases kq with
                  | zero => exact absurd HA.out (by simp [spec_NeighboursOf.j3])
                  | succ kj19 =>
                   have H := HA.out; clear HA; simp only [spec_NeighboursOf.j3] at H
                   by_cases c26 : x4_2 < (a0.size : Int)
                   ·rw [if_pos c26] at H
                    have c26b0 : decide (x4_2 < (a0.size : Int)) = true := qq c26; clear c26
                    by_cases c27 : 0 ≤ x4_2
                    ·rw [if_pos c27] at H
                     have c27b0 := qaa c27; have c27b1 : decide (0 ≤ x4_2) = true := qq c27; clear c27
                     by_cases c28 : x4_2 ≤ (a0.size : Int)
                     ·rw [if_pos c28] at H
                      have c28b0 := qaa c28; have c28b1 : decide (x4_2 ≤ (a0.size : Int)) = true := qq c28; clear c28
                      by_cases c29 : 0 ≤ x5_3
                      ·rw [if_pos c29] at H
                       have c29b0 := qaa c29; have c29b1 : decide (0 ≤ x5_3) = true := qq c29; clear c29
                       by_cases c30 : x5_3 ≤ (wrap64 (x5_3 + 1))
                       ·rw [if_pos c30] at H
                        have c30b0 := qaa c30; have c30b1 : decide (x5_3 ≤ (wrap64 (x5_3 + 1))) = true := qq c30
                        by_cases c31 : (wrap64 (x5_3 + 1)) ≤ 7
                        ·rw [if_pos c31] at H
                         have c31b0 := qaa c31; have c31b1 : decide ((wrap64 (x5_3 + 1)) ≤ 7) = true := qq c31
                         by_cases c32 : (a0.extract 0 (x4_2 : Int).toNat).size + ((⟨#[112, 116, 98, 100, 110, 97, 105]⟩ : ByteArray).extract (x5_3 : Int).toNat ((wrap64 (x5_3 + 1)) : Int).toNat).size ≤ 9223372036854775807
                         ·rw [if_pos c32] at H
                          have c32b0 := qaa c32; have c32b1 : decide ((a0.extract 0 (x4_2 : Int).toNat).size + ((⟨#[112, 116, 98, 100, 110, 97, 105]⟩ : ByteArray).extract (x5_3 : Int).toNat ((wrap64 (x5_3 + 1)) : Int).toNat).size ≤ 9223372036854775807) = true := qq c32; (try have c32x : (9223372036854775807 < x4_2.toNat + ((wrap64 (x5_3 + 1)).toNat - x5_3.toNat)) = False := eq_false (by have h_ := c32; (try simp only [decide_eq_true_eq] at *); (try simp only [ByteArray.size_append, ByteArray.size_extract] at h_); have hl0_ : (⟨#[112, 116, 98, 100, 110, 97, 105]⟩ : ByteArray).size = 7 := rfl; omega))
                          try have c32b2 : (9223372036854775807 < (a0.extract 0 (x4_2 : Int).toNat).size + ((⟨#[112, 116, 98, 100, 110, 97, 105]⟩ : ByteArray).extract (x5_3 : Int).toNat ((wrap64 (x5_3 + 1)) : Int).toNat).size) = False := eq_false (Nat.not_lt.2 c32)
                          obtain ⟨ji33, hji33⟩ : ∃ j_ : Int, (wrap64 (x4_2 + 1)) = j_ := ⟨_, rfl⟩
                          replace H : (if 0 ≤ (ji33) then (if (ji33) ≤ (a0.size : Int) then (if ((a0.extract 0 (x4_2 : Int).toNat) ++ ((⟨#[112, 116, 98, 100, 110, 97, 105]⟩ : ByteArray).extract (x5_3 : Int).toNat ((wrap64 (x5_3 + 1)) : Int).toNat)).size + (a0.extract ((ji33) : Int).toNat a0.size).size ≤ 9223372036854775807 then (if (((a0.extract 0 (x4_2 : Int).toNat) ++ ((⟨#[112, 116, 98, 100, 110, 97, 105]⟩ : ByteArray).extract (x5_3 : Int).toNat ((wrap64 (x5_3 + 1)) : Int).toNat)) ++ (a0.extract ((ji33) : Int).toNat a0.size)).toList = a0.toList then (spec_NeighboursOf.l1 kj19 a0 x3_19 x4_2 (wrap64 (x5_3 + 1))) else ((spec_l3Has.f kj19 x3_19 (((a0.extract 0 (x4_2 : Int).toNat) ++ ((⟨#[112, 116, 98, 100, 110, 97, 105]⟩ : ByteArray).extract (x5_3 : Int).toNat ((wrap64 (x5_3 + 1)) : Int).toNat)) ++ (a0.extract ((ji33) : Int).toNat a0.size))).bind fun t190 => (if t190 = true then (spec_NeighboursOf.l1 kj19 a0 x3_19 x4_2 (wrap64 (x5_3 + 1))) else (if x3_19.length < 8796093022208 then (spec_NeighboursOf.l1 kj19 a0 (x3_19 ++ [((a0.extract 0 (x4_2 : Int).toNat) ++ ((⟨#[112, 116, 98, 100, 110, 97, 105]⟩ : ByteArray).extract (x5_3 : Int).toNat ((wrap64 (x5_3 + 1)) : Int).toNat)) ++ (a0.extract ((ji33) : Int).toNat a0.size)]) x4_2 (wrap64 (x5_3 + 1))) else (none))))) else (none)) else (none)) else (none)) = some r := by first | (rw [hji33] at H; exact H) | (simp only [hji33] at H ⊢; exact H)
                          have hji33w : (IntKind.i64.wrap (x4_2 + 1)) = ji33 := (i64_w _).trans hji33
                          by_cases c34 : 0 ≤ (ji33)
                          ·rw [if_pos c34] at H
                           have c34b0 := qaa c34; have c34b1 : decide (0 ≤ (ji33)) = true := qq c34; clear c34
                           by_cases c35 : (ji33) ≤ (a0.size : Int)
                           ·rw [if_pos c35] at H
                            have c35b0 := qaa c35; have c35b1 : decide ((ji33) ≤ (a0.size : Int)) = true := qq c35; clear c35
                            by_cases c36 : ((a0.extract 0 (x4_2 : Int).toNat) ++ ((⟨#[112, 116, 98, 100, 110, 97, 105]⟩ : ByteArray).extract (x5_3 : Int).toNat ((wrap64 (x5_3 + 1)) : Int).toNat)).size + (a0.extract ((ji33) : Int).toNat a0.size).size ≤ 9223372036854775807
                            ·rw [if_pos c36] at H
                             have c36b0 := qaa c36; have c36b1 : decide (((a0.extract 0 (x4_2 : Int).toNat) ++ ((⟨#[112, 116, 98, 100, 110, 97, 105]⟩ : ByteArray).extract (x5_3 : Int).toNat ((wrap64 (x5_3 + 1)) : Int).toNat)).size + (a0.extract ((ji33) : Int).toNat a0.size).size ≤ 9223372036854775807) = true := qq c36; (try have c36x : (9223372036854775807 < x4_2.toNat + ((wrap64 (x5_3 + 1)).toNat - x5_3.toNat) + (a0.size - ji33.toNat)) = False := eq_false (by have h_ := c36; (try simp only [decide_eq_true_eq] at *); (try simp only [ByteArray.size_append, ByteArray.size_extract] at h_); have hl0_ : (⟨#[112, 116, 98, 100, 110, 97, 105]⟩ : ByteArray).size = 7 := rfl; omega))
                             try have c36b2 : (9223372036854775807 < ((a0.extract 0 (x4_2 : Int).toNat) ++ ((⟨#[112, 116, 98, 100, 110, 97, 105]⟩ : ByteArray).extract (x5_3 : Int).toNat ((wrap64 (x5_3 + 1)) : Int).toNat)).size + (a0.extract ((ji33) : Int).toNat a0.size).size) = False := eq_false (Nat.not_lt.2 c36)
                             by_cases c37 : (((a0.extract 0 (x4_2 : Int).toNat) ++ ((⟨#[112, 116, 98, 100, 110, 97, 105]⟩ : ByteArray).extract (x5_3 : Int).toNat ((wrap64 (x5_3 + 1)) : Int).toNat)) ++ (a0.extract ((ji33) : Int).toNat a0.size)).toList = a0.toList
                             ·rw [if_pos c37] at H
                              have c37b0 : ((((a0.extract 0 (x4_2 : Int).toNat) ++ ((⟨#[112, 116, 98, 100, 110, 97, 105]⟩ : ByteArray).extract (x5_3 : Int).toNat ((wrap64 (x5_3 + 1)) : Int).toNat)) ++ (a0.extract ((ji33) : Int).toNat a0.size)).toList == a0.toList) = true := ze c37; have c37b1 : ((((a0.extract 0 (x4_2 : Int).toNat) ++ ((⟨#[112, 116, 98, 100, 110, 97, 105]⟩ : ByteArray).extract (x5_3 : Int).toNat ((wrap64 (x5_3 + 1)) : Int).toNat)) ++ (a0.extract ((ji33) : Int).toNat a0.size)).toList != a0.toList) = false := zc c37; clear c37; have H' := qa H; clear H
                              try go_wp2
                              have n0_ := qa (qz HO_3.out); have n1_ := qa (qg HB.out); clear HO_3 HB; have HO_3 := n0_; have HB := n1_; clear n0_ n1_; refine start_ (n := 14) (S := fun w' => True) (ds := []) #[false, false, false, false, false, false, false, false, false, false, false, false, false, false] (by kernel_rfl) rfl rfl trivial (fun hHeld => ?_); refine with_tabW spec_NeighboursOf.tab14 spec_NeighboursOf.bits14 (fun HT_ HW_ => ?_); generalize wc.drew = w38 at HO_3 HB hHeld ⊢; refine pure_ (i := 0) (N := some 52) (v := ?_) (a' := ?_) #[true, false, false, false, false, false, false, false, false, false, false, false, false, false] rfl rfl (qla HT_.out (by kernel_rfl)) (fun _ _ _ h => h) (Or.inl ⟨by rfl, ?_⟩) ?_ ?_; rotate_left
                              ·intro w'
                               go_simp; with_reducible rfl
                              rotate_left
                              ·simp only [Act.put, qb, qc, qd, i64_w, i32_w]
                               rfl
                              refine pure_ (i := 1) (N := some 53) (v := ?_) (a' := ?_) #[true, true, false, false, false, false, false, false, false, false, false, false, false, false] rfl rfl (qla HT_.out (by kernel_rfl)) (fun _ _ _ h => h) (Or.inl ⟨by rfl, ?_⟩) ?_ ?_; rotate_left
                              ·intro w'
                               go_simp; with_reducible rfl
                              rotate_left
                              ·simp only [Act.put, qb, qc, qd, i64_w, i32_w]
                               rfl
                              refine pure_ (i := 2) (N := some 54) (v := ?_) (a' := ?_) #[true, true, true, false, false, false, false, false, false, false, false, false, false, false] rfl rfl (qla HT_.out (by kernel_rfl)) (fun _ _ _ h => h) (Or.inl ⟨by rfl, ?_⟩) ?_ ?_; rotate_left
                              ·intro w'
                               go_simp; with_reducible rfl
                              rotate_left
                              ·simp only [Act.put, qb, qc, qd, i64_w, i32_w]
                               rfl
                              refine pure_ (i := 3) (N := some 55) (v := ?_) (a' := ?_) #[true, true, true, true, false, false, false, false, false, false, false, false, false, false] rfl rfl (qla HT_.out (by kernel_rfl)) (fun _ _ _ h => h) (Or.inl ⟨by rfl, ?_⟩) ?_ ?_; rotate_left
                              ·intro w'
                               go_simp; with_reducible rfl
                              rotate_left
                              ·simp only [Act.put, qb, qc, qd, i64_w, i32_w]
                               rfl
                              refine pure_ (i := 4) (N := some 56) (v := ?_) (a' := ?_) #[true, true, true, true, true, false, false, false, false, false, false, false, false, false] rfl rfl (qla HT_.out (by kernel_rfl)) (fun _ _ _ h => h) (Or.inl ⟨by rfl, ?_⟩) ?_ ?_; rotate_left
                              ·intro w'
                               go_simp; with_reducible rfl
                              rotate_left
                              ·simp only [Act.put, qb, qc, qd, i64_w, i32_w]
                               rfl
                              refine pure_ (i := 5) (N := some 57) (v := ?_) (a' := ?_) #[true, true, true, true, true, true, false, false, false, false, false, false, false, false] rfl rfl (qla HT_.out (by kernel_rfl)) (fun _ _ _ h => h) (Or.inl ⟨by rfl, ?_⟩) ?_ ?_; rotate_left
                              ·intro w'
                               go_simp; with_reducible rfl
                              rotate_left
                              ·simp only [Act.put, qb, qc, qd, i64_w, i32_w]
                               rfl
                              refine pure_ (i := 6) (N := some 58) (v := ?_) (a' := ?_) #[true, true, true, true, true, true, true, false, false, false, false, false, false, false] rfl rfl (qla HT_.out (by kernel_rfl)) (fun _ _ _ h => h) (Or.inl ⟨by rfl, ?_⟩) ?_ ?_; rotate_left
                              ·intro w'
                               go_simp; with_reducible rfl
                              rotate_left
                              ·simp only [Act.put, qb, qc, qd, i64_w, i32_w]
                               rfl
                              refine pure_ (i := 7) (N := some 59) (v := ?_) (a' := ?_) #[true, true, true, true, true, true, true, true, false, false, false, false, false, false] rfl rfl (qla HT_.out (by kernel_rfl)) (fun _ _ _ h => h) (Or.inl ⟨by rfl, ?_⟩) ?_ ?_; rotate_left
                              ·intro w'
                               go_simp; with_reducible rfl
                              rotate_left
                              ·simp only [Act.put, qb, qc, qd, i64_w, i32_w]
                               rfl
                              refine pure_ (i := 8) (N := some 60) (v := ?_) (a' := ?_) #[true, true, true, true, true, true, true, true, true, false, false, false, false, false] rfl rfl (qla HT_.out (by kernel_rfl)) (fun _ _ _ h => h) (Or.inl ⟨by rfl, ?_⟩) ?_ ?_; rotate_left
                              ·intro w'
                               go_simp; with_reducible rfl
                              rotate_left
                              ·simp only [Act.put, qb, qc, qd, i64_w, i32_w]
                               rfl
                              refine pure_ (i := 9) (N := some 61) (v := ?_) (a' := ?_) #[true, true, true, true, true, true, true, true, true, true, false, false, false, false] rfl rfl (qla HT_.out (by kernel_rfl)) (fun _ _ _ h => h) (Or.inl ⟨by rfl, ?_⟩) ?_ ?_; rotate_left
                              ·intro w'
                               go_simp; with_reducible rfl
                              rotate_left
                              ·simp only [Act.put, qb, qc, qd, i64_w, i32_w]
                               rfl
                              refine pure_ (i := 10) (N := some 62) (v := ?_) (a' := ?_) #[true, true, true, true, true, true, true, true, true, true, true, false, false, false] rfl rfl (qla HT_.out (by kernel_rfl)) (fun _ _ _ h => h) (Or.inl ⟨by rfl, ?_⟩) ?_ ?_; rotate_left
                              ·intro w'
                               go_simp; with_reducible rfl
                              rotate_left
                              ·simp only [Act.put, qb, qc, qd, i64_w, i32_w]
                               rfl
                              refine pure_ (i := 11) (N := some 63) (v := ?_) (a' := ?_) #[true, true, true, true, true, true, true, true, true, true, true, true, false, false] rfl rfl (qla HT_.out (by kernel_rfl)) (fun _ _ _ h => h) (Or.inl ⟨by rfl, ?_⟩) ?_ ?_; rotate_left
                              ·intro w'
                               go_simp; with_reducible rfl
                              rotate_left
                              ·simp only [Act.put, qb, qc, qd, i64_w, i32_w]
                               rfl
                              refine pure_ (i := 12) (N := some 64) (v := ?_) (a' := ?_) #[true, true, true, true, true, true, true, true, true, true, true, true, true, false] rfl rfl (qla HT_.out (by kernel_rfl)) (fun _ _ _ h => h) (Or.inl ⟨by rfl, ?_⟩) ?_ ?_; rotate_left
                              ·intro w'
                               go_simp; with_reducible rfl
                              rotate_left
                              ·simp only [Act.put, qb, qc, qd, i64_w, i32_w]
                               rfl
                              refine pure_ (i := 13) (N := some 7) (v := ?_) (a' := ?_) #[true, true, true, true, true, true, true, true, true, true, true, true, true, true] rfl rfl (qla HT_.out (by kernel_rfl)) (fun _ _ _ h => h) (Or.inl ⟨by rfl, ?_⟩) ?_ ?_; rotate_left
                              ·intro w'
                               go_simp; with_reducible rfl
                              rotate_left
                              ·simp only [Act.put, qb, qc, qd, i64_w, i32_w]
                               rfl
                              refine done_ (done_of HT_.out (by kernel_rfl)) ?_
                              try go_wp2
                              go_roundg kj19
                              case measure => have := HJ1.out; have := HK2.out; have := HK3.out; have := HJ19.out; omega
                              case rel => exact ⟨(x3_19), (wrap64 (x5_3 + 1)), (by first | rfl | (simp; done) | (simp [*]; done)), H', ⟨by have := HJ1.out; have := HK2.out; have := HK3.out; have := HJ19.out; omega⟩, ⟨by (with_reducible repeat first | apply qx | apply qy | apply qz); exact HO_3.out⟩, ⟨by repeat (first | (with_reducible first | exact HB.out | apply qh | apply qe | apply qg) | exact HB.out)⟩⟩
                             ·rw [if_neg c37] at H
                              have c37b0 : ((((a0.extract 0 (x4_2 : Int).toNat) ++ ((⟨#[112, 116, 98, 100, 110, 97, 105]⟩ : ByteArray).extract (x5_3 : Int).toNat ((wrap64 (x5_3 + 1)) : Int).toNat)) ++ (a0.extract ((ji33) : Int).toNat a0.size)).toList == a0.toList) = false := zd c37; have c37b1 : ((((a0.extract 0 (x4_2 : Int).toNat) ++ ((⟨#[112, 116, 98, 100, 110, 97, 105]⟩ : ByteArray).extract (x5_3 : Int).toNat ((wrap64 (x5_3 + 1)) : Int).toNat)) ++ (a0.extract ((ji33) : Int).toNat a0.size)).toList != a0.toList) = true := zf c37; obtain ⟨t190, A390, H⟩ := zb H; (try dsimp only at H); have A39 := qa A390; clear A390
                              by_cases c40 : t190 = true
                              ·subst c40
                               rw [if_pos rfl] at H; have H1 := H; clear H; have H := H1; clear H1; have H' := qa H; clear H
                               try go_wp2
                               have n0_ := qa (qz HO_3.out); have n1_ := qa (qg HB.out); clear HO_3 HB; have HO_3 := n0_; have HB := n1_; clear n0_ n1_; refine start_ (n := 14) (S := fun w' => True) (ds := []) #[false, false, false, false, false, false, false, false, false, false, false, false, false, false] (by kernel_rfl) rfl rfl trivial (fun hHeld => ?_); refine with_tabW spec_NeighboursOf.tab14 spec_NeighboursOf.bits14 (fun HT_ HW_ => ?_); generalize wc.drew = w41 at HO_3 HB hHeld ⊢; refine pure_ (i := 0) (N := some 52) (v := ?_) (a' := ?_) #[true, false, false, false, false, false, false, false, false, false, false, false, false, false] rfl rfl (qla HT_.out (by kernel_rfl)) (fun _ _ _ h => h) (Or.inl ⟨by rfl, ?_⟩) ?_ ?_; rotate_left
                               ·intro w'
                                go_simp; with_reducible rfl
                               rotate_left
                               ·simp only [Act.put, qb, qc, qd, i64_w, i32_w]
                                rfl
                               refine pure_ (i := 1) (N := some 53) (v := ?_) (a' := ?_) #[true, true, false, false, false, false, false, false, false, false, false, false, false, false] rfl rfl (qla HT_.out (by kernel_rfl)) (fun _ _ _ h => h) (Or.inl ⟨by rfl, ?_⟩) ?_ ?_; rotate_left
                               ·intro w'
                                go_simp; with_reducible rfl
                               rotate_left
                               ·simp only [Act.put, qb, qc, qd, i64_w, i32_w]
                                rfl
                               refine pure_ (i := 2) (N := some 54) (v := ?_) (a' := ?_) #[true, true, true, false, false, false, false, false, false, false, false, false, false, false] rfl rfl (qla HT_.out (by kernel_rfl)) (fun _ _ _ h => h) (Or.inl ⟨by rfl, ?_⟩) ?_ ?_; rotate_left
                               ·intro w'
                                go_simp; with_reducible rfl
                               rotate_left
                               ·simp only [Act.put, qb, qc, qd, i64_w, i32_w]
                                rfl
                               refine pure_ (i := 3) (N := some 55) (v := ?_) (a' := ?_) #[true, true, true, true, false, false, false, false, false, false, false, false, false, false] rfl rfl (qla HT_.out (by kernel_rfl)) (fun _ _ _ h => h) (Or.inl ⟨by rfl, ?_⟩) ?_ ?_; rotate_left
                               ·intro w'
                                go_simp; with_reducible rfl
                               rotate_left
                               ·simp only [Act.put, qb, qc, qd, i64_w, i32_w]
                                rfl
                               refine pure_ (i := 4) (N := some 56) (v := ?_) (a' := ?_) #[true, true, true, true, true, false, false, false, false, false, false, false, false, false] rfl rfl (qla HT_.out (by kernel_rfl)) (fun _ _ _ h => h) (Or.inl ⟨by rfl, ?_⟩) ?_ ?_; rotate_left
                               ·intro w'
                                go_simp; with_reducible rfl
                               rotate_left
                               ·simp only [Act.put, qb, qc, qd, i64_w, i32_w]
                                rfl
                               refine pure_ (i := 5) (N := some 57) (v := ?_) (a' := ?_) #[true, true, true, true, true, true, false, false, false, false, false, false, false, false] rfl rfl (qla HT_.out (by kernel_rfl)) (fun _ _ _ h => h) (Or.inl ⟨by rfl, ?_⟩) ?_ ?_; rotate_left
                               ·intro w'
                                go_simp; with_reducible rfl
                               rotate_left
                               ·simp only [Act.put, qb, qc, qd, i64_w, i32_w]
                                rfl
                               refine pure_ (i := 6) (N := some 58) (v := ?_) (a' := ?_) #[true, true, true, true, true, true, true, false, false, false, false, false, false, false] rfl rfl (qla HT_.out (by kernel_rfl)) (fun _ _ _ h => h) (Or.inl ⟨by rfl, ?_⟩) ?_ ?_; rotate_left
                               ·intro w'
                                go_simp; with_reducible rfl
                               rotate_left
                               ·simp only [Act.put, qb, qc, qd, i64_w, i32_w]
                                rfl
                               refine pure_ (i := 7) (N := some 59) (v := ?_) (a' := ?_) #[true, true, true, true, true, true, true, true, false, false, false, false, false, false] rfl rfl (qla HT_.out (by kernel_rfl)) (fun _ _ _ h => h) (Or.inl ⟨by rfl, ?_⟩) ?_ ?_; rotate_left
                               ·intro w'
                                go_simp; with_reducible rfl
                               rotate_left
                               ·simp only [Act.put, qb, qc, qd, i64_w, i32_w]
                                rfl
                               refine pure_ (i := 8) (N := some 60) (v := ?_) (a' := ?_) #[true, true, true, true, true, true, true, true, true, false, false, false, false, false] rfl rfl (qla HT_.out (by kernel_rfl)) (fun _ _ _ h => h) (Or.inl ⟨by rfl, ?_⟩) ?_ ?_; rotate_left
                               ·intro w'
                                go_simp; with_reducible rfl
                               rotate_left
                               ·simp only [Act.put, qb, qc, qd, i64_w, i32_w]
                                rfl
                               refine pure_ (i := 9) (N := some 61) (v := ?_) (a' := ?_) #[true, true, true, true, true, true, true, true, true, true, false, false, false, false] rfl rfl (qla HT_.out (by kernel_rfl)) (fun _ _ _ h => h) (Or.inl ⟨by rfl, ?_⟩) ?_ ?_; rotate_left
                               ·intro w'
                                go_simp; with_reducible rfl
                               rotate_left
                               ·simp only [Act.put, qb, qc, qd, i64_w, i32_w]
                                rfl
                               refine pure_ (i := 10) (N := some 62) (v := ?_) (a' := ?_) #[true, true, true, true, true, true, true, true, true, true, true, false, false, false] rfl rfl (qla HT_.out (by kernel_rfl)) (fun _ _ _ h => h) (Or.inl ⟨by rfl, ?_⟩) ?_ ?_; rotate_left
                               ·intro w'
                                go_simp; with_reducible rfl
                               rotate_left
                               ·simp only [Act.put, qb, qc, qd, i64_w, i32_w]
                                rfl
                               refine pure_ (i := 11) (N := some 63) (v := ?_) (a' := ?_) #[true, true, true, true, true, true, true, true, true, true, true, true, false, false] rfl rfl (qla HT_.out (by kernel_rfl)) (fun _ _ _ h => h) (Or.inl ⟨by rfl, ?_⟩) ?_ ?_; rotate_left
                               ·intro w'
                                go_simp; with_reducible rfl
                               rotate_left
                               ·simp only [Act.put, qb, qc, qd, i64_w, i32_w]
                                rfl
                               refine pure_ (i := 12) (N := some 64) (v := ?_) (a' := ?_) #[true, true, true, true, true, true, true, true, true, true, true, true, true, false] rfl rfl (qla HT_.out (by kernel_rfl)) (fun _ _ _ h => h) (Or.inl ⟨by rfl, ?_⟩) ?_ ?_; rotate_left
                               ·intro w'
                                go_simp; with_reducible rfl
                               rotate_left
                               ·simp only [Act.put, qb, qc, qd, i64_w, i32_w]
                                rfl
                               refine pure_ (i := 13) (N := some 7) (v := ?_) (a' := ?_) #[true, true, true, true, true, true, true, true, true, true, true, true, true, true] rfl rfl (qla HT_.out (by kernel_rfl)) (fun _ _ _ h => h) (Or.inl ⟨by rfl, ?_⟩) ?_ ?_; rotate_left
                               ·intro w'
                                go_simp; with_reducible rfl
                               rotate_left
                               ·simp only [Act.put, qb, qc, qd, i64_w, i32_w]
                                rfl
                               refine done_ (done_of HT_.out (by kernel_rfl)) ?_; obtain ⟨Ao42, co42, eo42⟩ := Kd.R_slice HO_3.out; subst eo42
                               try go_wp2_with (first | (go_at_call 63; (with_reducible refine (spec_l3Has.calls kj19 _ _ x3_19 (((a0.extract 0 (x4_2 : Int).toNat) ++ ((⟨#[112, 116, 98, 100, 110, 97, 105]⟩ : ByteArray).extract (x5_3 : Int).toNat ((wrap64 (x5_3 + 1)) : Int).toNat)) ++ (a0.extract ((ji33) : Int).toNat a0.size)) true _ ?side1 ?side2 A39.out).mono ?_); (case side1 => repeat (first | exact (qra HO_3.out).2.2 | (with_reducible first | apply qda | apply qea | apply qfa))); (case side2 => exact (qra HO_3.out).2.1); rintro e w' ⟨rfl, ⟨nd, rfl⟩⟩))
                               go_roundg kj19
                               case measure => have := HJ1.out; have := HK2.out; have := HK3.out; have := HJ19.out; omega
                               case rel => exact ⟨(x3_19), (wrap64 (x5_3 + 1)), (by first | rfl | (simp; done) | (simp [*]; done)), H', ⟨by have := HJ1.out; have := HK2.out; have := HK3.out; have := HJ19.out; omega⟩, ⟨by (with_reducible repeat first | apply qx | apply qy | apply qz); exact HO_3.out⟩, ⟨by repeat (first | (with_reducible first | exact HB.out | apply qh | apply qe | apply qg) | exact HB.out)⟩⟩
                              ·replace c40 := Bool.eq_false_iff.mpr c40
                               subst c40; rw [if_neg (show ¬ (false = true) by decide)] at H; have H1 := H; clear H; have H := H1; clear H1
                               by_cases c43 : x3_19.length < 8796093022208
                               ·rw [if_pos c43] at H
                                have LMc43 := qa c43; clear c43
                                obtain ⟨y191, hy191⟩ : ∃ y_ : List ByteArray, y_ = (x3_19 ++ [((a0.extract 0 (x4_2 : Int).toNat) ++ ((⟨#[112, 116, 98, 100, 110, 97, 105]⟩ : ByteArray).extract (x5_3 : Int).toNat ((wrap64 (x5_3 + 1)) : Int).toNat)) ++ (a0.extract ((ji33) : Int).toNat a0.size)]) := ⟨_, rfl⟩
                                replace H : (spec_NeighboursOf.l1 kj19 a0 y191 x4_2 (wrap64 (x5_3 + 1))) = some r := by first | (rw [hy191]; with_reducible exact H) | (have H2_ := (Option.bind_some _ _).symm.trans H; rw [hy191]; with_reducible exact H2_) | (have H2_ := (Option.bind_some _ _).symm.trans H; with_reducible exact H2_) | with_reducible exact H | (rw [hy191]; exact H) | exact H
                                have Ny191 := qa hy191; clear hy191; have H' := qa H; clear H
                                try go_wp2
                                have n0_ := qa (qz HO_3.out); have n1_ := qa (qg HB.out); clear HO_3 HB; have HO_3 := n0_; have HB := n1_; clear n0_ n1_; refine start_ (n := 14) (S := fun w' => True) (ds := []) #[false, false, false, false, false, false, false, false, false, false, false, false, false, false] (by kernel_rfl) rfl rfl trivial (fun hHeld => ?_); refine with_tabW spec_NeighboursOf.tab14 spec_NeighboursOf.bits14 (fun HT_ HW_ => ?_); generalize wc.drew = w44 at HO_3 HB hHeld ⊢; refine pure_ (i := 0) (N := some 52) (v := ?_) (a' := ?_) #[true, false, false, false, false, false, false, false, false, false, false, false, false, false] rfl rfl (qla HT_.out (by kernel_rfl)) (fun _ _ _ h => h) (Or.inl ⟨by rfl, ?_⟩) ?_ ?_; rotate_left
                                ·intro w'
                                 go_simp; with_reducible rfl
                                rotate_left
                                ·simp only [Act.put, qb, qc, qd, i64_w, i32_w]
                                 rfl
                                refine pure_ (i := 1) (N := some 53) (v := ?_) (a' := ?_) #[true, true, false, false, false, false, false, false, false, false, false, false, false, false] rfl rfl (qla HT_.out (by kernel_rfl)) (fun _ _ _ h => h) (Or.inl ⟨by rfl, ?_⟩) ?_ ?_; rotate_left
                                ·intro w'
                                 go_simp; with_reducible rfl
                                rotate_left
                                ·simp only [Act.put, qb, qc, qd, i64_w, i32_w]
                                 rfl
                                refine pure_ (i := 2) (N := some 54) (v := ?_) (a' := ?_) #[true, true, true, false, false, false, false, false, false, false, false, false, false, false] rfl rfl (qla HT_.out (by kernel_rfl)) (fun _ _ _ h => h) (Or.inl ⟨by rfl, ?_⟩) ?_ ?_; rotate_left
                                ·intro w'
                                 go_simp; with_reducible rfl
                                rotate_left
                                ·simp only [Act.put, qb, qc, qd, i64_w, i32_w]
                                 rfl
                                refine pure_ (i := 3) (N := some 55) (v := ?_) (a' := ?_) #[true, true, true, true, false, false, false, false, false, false, false, false, false, false] rfl rfl (qla HT_.out (by kernel_rfl)) (fun _ _ _ h => h) (Or.inl ⟨by rfl, ?_⟩) ?_ ?_; rotate_left
                                ·intro w'
                                 go_simp; with_reducible rfl
                                rotate_left
                                ·simp only [Act.put, qb, qc, qd, i64_w, i32_w]
                                 rfl
                                refine pure_ (i := 4) (N := some 56) (v := ?_) (a' := ?_) #[true, true, true, true, true, false, false, false, false, false, false, false, false, false] rfl rfl (qla HT_.out (by kernel_rfl)) (fun _ _ _ h => h) (Or.inl ⟨by rfl, ?_⟩) ?_ ?_; rotate_left
                                ·intro w'
                                 go_simp; with_reducible rfl
                                rotate_left
                                ·simp only [Act.put, qb, qc, qd, i64_w, i32_w]
                                 rfl
                                refine pure_ (i := 5) (N := some 57) (v := ?_) (a' := ?_) #[true, true, true, true, true, true, false, false, false, false, false, false, false, false] rfl rfl (qla HT_.out (by kernel_rfl)) (fun _ _ _ h => h) (Or.inl ⟨by rfl, ?_⟩) ?_ ?_; rotate_left
                                ·intro w'
                                 go_simp; with_reducible rfl
                                rotate_left
                                ·simp only [Act.put, qb, qc, qd, i64_w, i32_w]
                                 rfl
                                refine pure_ (i := 6) (N := some 58) (v := ?_) (a' := ?_) #[true, true, true, true, true, true, true, false, false, false, false, false, false, false] rfl rfl (qla HT_.out (by kernel_rfl)) (fun _ _ _ h => h) (Or.inl ⟨by rfl, ?_⟩) ?_ ?_; rotate_left
                                ·intro w'
                                 go_simp; with_reducible rfl
                                rotate_left
                                ·simp only [Act.put, qb, qc, qd, i64_w, i32_w]
                                 rfl
                                refine pure_ (i := 7) (N := some 59) (v := ?_) (a' := ?_) #[true, true, true, true, true, true, true, true, false, false, false, false, false, false] rfl rfl (qla HT_.out (by kernel_rfl)) (fun _ _ _ h => h) (Or.inl ⟨by rfl, ?_⟩) ?_ ?_; rotate_left
                                ·intro w'
                                 go_simp; with_reducible rfl
                                rotate_left
                                ·simp only [Act.put, qb, qc, qd, i64_w, i32_w]
                                 rfl
                                refine pure_ (i := 8) (N := some 60) (v := ?_) (a' := ?_) #[true, true, true, true, true, true, true, true, true, false, false, false, false, false] rfl rfl (qla HT_.out (by kernel_rfl)) (fun _ _ _ h => h) (Or.inl ⟨by rfl, ?_⟩) ?_ ?_; rotate_left
                                ·intro w'
                                 go_simp; with_reducible rfl
                                rotate_left
                                ·simp only [Act.put, qb, qc, qd, i64_w, i32_w]
                                 rfl
                                refine pure_ (i := 9) (N := some 61) (v := ?_) (a' := ?_) #[true, true, true, true, true, true, true, true, true, true, false, false, false, false] rfl rfl (qla HT_.out (by kernel_rfl)) (fun _ _ _ h => h) (Or.inl ⟨by rfl, ?_⟩) ?_ ?_; rotate_left
                                ·intro w'
                                 go_simp; with_reducible rfl
                                rotate_left
                                ·simp only [Act.put, qb, qc, qd, i64_w, i32_w]
                                 rfl
                                refine pure_ (i := 10) (N := some 62) (v := ?_) (a' := ?_) #[true, true, true, true, true, true, true, true, true, true, true, false, false, false] rfl rfl (qla HT_.out (by kernel_rfl)) (fun _ _ _ h => h) (Or.inl ⟨by rfl, ?_⟩) ?_ ?_; rotate_left
                                ·intro w'
                                 go_simp; with_reducible rfl
                                rotate_left
                                ·simp only [Act.put, qb, qc, qd, i64_w, i32_w]
                                 rfl
                                refine pure_ (i := 11) (N := some 63) (v := ?_) (a' := ?_) #[true, true, true, true, true, true, true, true, true, true, true, true, false, false] rfl rfl (qla HT_.out (by kernel_rfl)) (fun _ _ _ h => h) (Or.inl ⟨by rfl, ?_⟩) ?_ ?_; rotate_left
                                ·intro w'
                                 go_simp; with_reducible rfl
                                rotate_left
                                ·simp only [Act.put, qb, qc, qd, i64_w, i32_w]
                                 rfl
                                refine pure_ (i := 12) (N := some 64) (v := ?_) (a' := ?_) #[true, true, true, true, true, true, true, true, true, true, true, true, true, false] rfl rfl (qla HT_.out (by kernel_rfl)) (fun _ _ _ h => h) (Or.inl ⟨by rfl, ?_⟩) ?_ ?_; rotate_left
                                ·intro w'
                                 go_simp; with_reducible rfl
                                rotate_left
                                ·simp only [Act.put, qb, qc, qd, i64_w, i32_w]
                                 rfl
                                refine pure_ (i := 13) (N := some 7) (v := ?_) (a' := ?_) #[true, true, true, true, true, true, true, true, true, true, true, true, true, true] rfl rfl (qla HT_.out (by kernel_rfl)) (fun _ _ _ h => h) (Or.inl ⟨by rfl, ?_⟩) ?_ ?_; rotate_left
                                ·intro w'
                                 go_simp; with_reducible rfl
                                rotate_left
                                ·simp only [Act.put, qb, qc, qd, i64_w, i32_w]
                                 rfl
                                refine done_ (done_of HT_.out (by kernel_rfl)) ?_; obtain ⟨Ao45, co45, eo45⟩ := Kd.R_slice HO_3.out; subst eo45
                                try go_wp2_with (first | (go_at_call 63; (with_reducible refine (spec_l3Has.calls kj19 _ _ x3_19 (((a0.extract 0 (x4_2 : Int).toNat) ++ ((⟨#[112, 116, 98, 100, 110, 97, 105]⟩ : ByteArray).extract (x5_3 : Int).toNat ((wrap64 (x5_3 + 1)) : Int).toNat)) ++ (a0.extract ((ji33) : Int).toNat a0.size)) false _ ?side1 ?side2 A39.out).mono ?_); (case side1 => repeat (first | exact (qra HO_3.out).2.2 | (with_reducible first | apply qda | apply qea | apply qfa))); (case side2 => exact (qra HO_3.out).2.1); rintro e w' ⟨rfl, ⟨nd, rfl⟩⟩) | ((with_reducible refine gate_builtin (b := .append) (xs := #[.tmp 74, .tmp 76]) rfl ?_); (try (refine gate_guard (by rfl) ?_; dsimp only)); at_builtin; refine Kd.R_append Kd.string (w0 := w) w.heap.size rfl (.tmp 74) (.tmp 76) 25 9 (.string ⟨#[]⟩) 16 rfl Try.underlying25 info9 rfl (by decide) (by omega) (.slice Ao45 x3_19.length co45) x3_19 (((a0.extract 0 (x4_2 : Int).toNat) ++ ((⟨#[112, 116, 98, 100, 110, 97, 105]⟩ : ByteArray).extract (x5_3 : Int).toNat ((wrap64 (x5_3 + 1)) : Int).toNat)) ++ (a0.extract ((ji33) : Int).toNat a0.size)) [.string (((a0.extract 0 (x4_2 : Int).toNat) ++ ((⟨#[112, 116, 98, 100, 110, 97, 105]⟩ : ByteArray).extract (x5_3 : Int).toNat ((wrap64 (x5_3 + 1)) : Int).toNat)) ++ (a0.extract ((ji33) : Int).toNat a0.size))] (fun _ => True) (fun _ => False) rfl rfl ?aP (fun _ hk => hk.elim) ?aF ?aO ?aB ?aS ?aL ?_; (case aP => exact rfl); (case aB => exact (by repeat (first | (with_reducible first | exact HB.out | apply qh | apply qe | apply qg) | exact HB.out))); (case aF => exact (fun _ _ => trivial)); (case aO => exact (by (with_reducible repeat first | apply qx | apply qy | apply qz); exact HO_3.out)); (case aS => exact (qp (by repeat (first | (with_reducible first | exact HB.out | apply qh | apply qe | apply qg) | exact HB.out)))); (case aL => have := LMc43.out; omega); intro v192 w46 ho hb hg hat; rw [← Ny191.out] at ho; have n0_ := qa (hb); have n1_ := qa (ho); clear HB; clear HO_3; have HB := n0_; have HO193 := n1_; clear n0_ n1_; clear ho hb hg hat))
                                go_roundg kj19
                                case measure => have := HJ1.out; have := HK2.out; have := HK3.out; have := HJ19.out; omega
                                case rel => exact ⟨(y191), (wrap64 (x5_3 + 1)), (by first | rfl | (simp; done) | (simp [*]; done)), H', ⟨by have := HJ1.out; have := HK2.out; have := HK3.out; have := HJ19.out; omega⟩, ⟨by (with_reducible repeat first | apply qx | apply qy | apply qz); exact HO193.out⟩, ⟨by repeat (first | (with_reducible first | exact HB.out | apply qh | apply qe | apply qg) | exact HB.out)⟩⟩
                               ·rw [if_neg c43] at H
                                exact absurd H (by simp)
                            ·rw [if_neg c36] at H
                             exact absurd H (by simp)
                           ·rw [if_neg c35] at H
                            exact absurd H (by simp)
                          ·rw [if_neg c34] at H
                           exact absurd H (by simp)
                         ·rw [if_neg c32] at H
                          exact absurd H (by simp)
                        ·rw [if_neg c31] at H
                         exact absurd H (by simp)
                       ·rw [if_neg c30] at H
                        exact absurd H (by simp)
                      ·rw [if_neg c29] at H
                       exact absurd H (by simp)
                     ·rw [if_neg c28] at H
                      exact absurd H (by simp)
                    ·rw [if_neg c27] at H
                     exact absurd H (by simp)
                   ·rw [if_neg c26] at H
                    have c26b0 : decide (x4_2 < (a0.size : Int)) = false := qr c26; clear c26; have H' := qa H; clear H; go_wp2
                    go_roundg kj19
                    case measure => have := HJ1.out; have := HK2.out; have := HK3.out; have := HJ19.out; omega
                    case rel => exact ⟨(x3_19), (wrap64 (x5_3 + 1)), (by first | rfl | (simp; done) | (simp [*]; done)), H', ⟨by have := HJ1.out; have := HK2.out; have := HK3.out; have := HJ19.out; omega⟩, ⟨by (with_reducible repeat first | apply qx | apply qy | apply qz); exact HO_3.out⟩, ⟨by repeat (first | (with_reducible first | exact HB.out | apply qh | apply qe | apply qg) | exact HB.out)⟩⟩
                ·rw [if_neg c18] at H
                 exact absurd H (by simp)
               ·rw [if_neg c15] at H
                exact absurd H (by simp)
              ·rw [if_neg c14] at H
               exact absurd H (by simp)
             ·rw [if_neg c13] at H
              exact absurd H (by simp)
            ·rw [if_neg c12] at H
             exact absurd H (by simp)
           ·rw [if_neg c11] at H
            exact absurd H (by simp)
          ·rw [if_neg c10] at H
           exact absurd H (by simp)
         ·rw [if_neg c9] at H
          have c9b0 : decide (x5_3 < 7) = false := qr c9; clear c9
          by_cases c47 : x4_2 < (a0.size : Int)
          ·rw [if_pos c47] at H
           have c47b0 : decide (x4_2 < (a0.size : Int)) = true := qq c47; clear c47
           by_cases c48 : 0 ≤ x4_2
           ·rw [if_pos c48] at H
            have c48b0 := qaa c48; have c48b1 : decide (0 ≤ x4_2) = true := qq c48; clear c48
            by_cases c49 : x4_2 ≤ (a0.size : Int)
            ·rw [if_pos c49] at H
             have c49b0 := qaa c49; have c49b1 : decide (x4_2 ≤ (a0.size : Int)) = true := qq c49; clear c49
             obtain ⟨ji50, hji50⟩ : ∃ j_ : Int, (wrap64 (x4_2 + 1)) = j_ := ⟨_, rfl⟩
             replace H : (if 0 ≤ (ji50) then (if (ji50) ≤ (a0.size : Int) then (if (a0.extract 0 (x4_2 : Int).toNat).size + (a0.extract ((ji50) : Int).toNat a0.size).size ≤ 9223372036854775807 then ((spec_l3Has.f k3 x3_3 ((a0.extract 0 (x4_2 : Int).toNat) ++ (a0.extract ((ji50) : Int).toNat a0.size))).bind fun t182 => (if t182 = true then (spec_NeighboursOf.l0 k3 a0 x3_3 ji50) else (if x3_3.length < 8796093022208 then (spec_NeighboursOf.l0 k3 a0 (x3_3 ++ [(a0.extract 0 (x4_2 : Int).toNat) ++ (a0.extract ((ji50) : Int).toNat a0.size)]) ji50) else (none)))) else (none)) else (none)) else (none)) = some r := by first | (rw [hji50] at H; exact H) | (simp only [hji50] at H ⊢; exact H)
             have hji50w : (IntKind.i64.wrap (x4_2 + 1)) = ji50 := (i64_w _).trans hji50
             by_cases c51 : 0 ≤ (ji50)
             ·rw [if_pos c51] at H
              have c51b0 := qaa c51; have c51b1 : decide (0 ≤ (ji50)) = true := qq c51; clear c51
              by_cases c52 : (ji50) ≤ (a0.size : Int)
              ·rw [if_pos c52] at H
               have c52b0 := qaa c52; have c52b1 : decide ((ji50) ≤ (a0.size : Int)) = true := qq c52; clear c52
               by_cases c53 : (a0.extract 0 (x4_2 : Int).toNat).size + (a0.extract ((ji50) : Int).toNat a0.size).size ≤ 9223372036854775807
               ·rw [if_pos c53] at H
                have c53b0 := qaa c53; have c53b1 : decide ((a0.extract 0 (x4_2 : Int).toNat).size + (a0.extract ((ji50) : Int).toNat a0.size).size ≤ 9223372036854775807) = true := qq c53; (try have c53x : (9223372036854775807 < x4_2.toNat + (a0.size - ji50.toNat)) = False := eq_false (by have h_ := c53; (try simp only [decide_eq_true_eq] at *); (try simp only [ByteArray.size_append, ByteArray.size_extract] at h_); omega))
                try have c53b2 : (9223372036854775807 < (a0.extract 0 (x4_2 : Int).toNat).size + (a0.extract ((ji50) : Int).toNat a0.size).size) = False := eq_false (Nat.not_lt.2 c53)
                obtain ⟨t182, A540, H⟩ := zb H; (try dsimp only at H); have A54 := qa A540; clear A540
                by_cases c55 : t182 = true
                ·subst c55
                 rw [if_pos rfl] at H; have H1 := H; clear H; have H := H1; clear H1; have H' := qa H; clear H
                 try go_wp2
                 have n0_ := qa (qz HO_3.out); have n1_ := qa (qg HB.out); clear HO_3 HB; have HO_3 := n0_; have HB := n1_; clear n0_ n1_; obtain ⟨Ao57, co57, eo57⟩ := Kd.R_slice HO_3.out
                 (first | subst eo57 | (injection eo57 with f1_ f2_ f3_; have f4_ := f1_.symm; have f5_ := f3_.symm; clear f1_ f2_ f3_; subst f4_; subst f5_))
                 refine start_ (n := 17) (S := fun w' => True) (ds := []) #[false, false, false, false, false, false, false, false, false, false, false, false, false, false, false, false, false] (by kernel_rfl) rfl rfl trivial (fun hHeld => ?_); refine with_tabW spec_NeighboursOf.tab17 spec_NeighboursOf.bits17 (fun HT_ HW_ => ?_); generalize wr.drew = w56 at HO_3 HB hHeld ⊢; refine pure_ (i := 0) (N := some 78) (v := ?_) (a' := ?_) #[true, false, false, false, false, false, false, false, false, false, false, false, false, false, false, false, false] rfl rfl (qla HT_.out (by kernel_rfl)) (fun _ _ _ h => h) (Or.inl ⟨by rfl, ?_⟩) ?_ ?_; rotate_left
                 ·intro w'
                  go_simp; with_reducible rfl
                 rotate_left
                 ·simp only [Act.put, qb, qc, qd, i64_w, i32_w]
                  rfl
                 refine pure_ (i := 1) (N := some 79) (v := ?_) (a' := ?_) #[true, true, false, false, false, false, false, false, false, false, false, false, false, false, false, false, false] rfl rfl (qla HT_.out (by kernel_rfl)) (fun _ _ _ h => h) (Or.inl ⟨by rfl, ?_⟩) ?_ ?_; rotate_left
                 ·intro w'
                  go_simp; with_reducible rfl
                 rotate_left
                 ·simp only [Act.put, qb, qc, qd, i64_w, i32_w]
                  rfl
                 refine pure_ (i := 2) (N := some 80) (v := ?_) (a' := ?_) #[true, true, true, false, false, false, false, false, false, false, false, false, false, false, false, false, false] rfl rfl (qla HT_.out (by kernel_rfl)) (fun _ _ _ h => h) (Or.inl ⟨by rfl, ?_⟩) ?_ ?_; rotate_left
                 ·intro w'
                  go_simp; with_reducible rfl
                 rotate_left
                 ·simp only [Act.put, qb, qc, qd, i64_w, i32_w]
                  rfl
                 refine pure_ (i := 3) (N := some 81) (v := ?_) (a' := ?_) #[true, true, true, true, false, false, false, false, false, false, false, false, false, false, false, false, false] rfl rfl (qla HT_.out (by kernel_rfl)) (fun _ _ _ h => h) (Or.inl ⟨by rfl, ?_⟩) ?_ ?_; rotate_left
                 ·intro w'
                  go_simp; with_reducible rfl
                 rotate_left
                 ·simp only [Act.put, qb, qc, qd, i64_w, i32_w]
                  rfl
                 refine pure_ (i := 4) (N := some 82) (v := ?_) (a' := ?_) #[true, true, true, true, true, false, false, false, false, false, false, false, false, false, false, false, false] rfl rfl (qla HT_.out (by kernel_rfl)) (fun _ _ _ h => h) (Or.inl ⟨by rfl, ?_⟩) ?_ ?_; rotate_left
                 ·intro w'
                  go_simp; with_reducible rfl
                 rotate_left
                 ·simp only [Act.put, qb, qc, qd, i64_w, i32_w]
                  rfl
                 refine pure_ (i := 5) (N := some 83) (v := ?_) (a' := ?_) #[true, true, true, true, true, true, false, false, false, false, false, false, false, false, false, false, false] rfl rfl (qla HT_.out (by kernel_rfl)) (fun _ _ _ h => h) (Or.inl ⟨by rfl, ?_⟩) ?_ ?_; rotate_left
                 ·intro w'
                  go_simp; with_reducible rfl
                 rotate_left
                 ·simp only [Act.put, qb, qc, qd, i64_w, i32_w]
                  rfl
                 refine pure_ (i := 6) (N := some 84) (v := ?_) (a' := ?_) #[true, true, true, true, true, true, true, false, false, false, false, false, false, false, false, false, false] rfl rfl (qla HT_.out (by kernel_rfl)) (fun _ _ _ h => h) (Or.inl ⟨by rfl, ?_⟩) ?_ ?_; rotate_left
                 ·intro w'
                  go_simp; with_reducible rfl
                 rotate_left
                 ·simp only [Act.put, qb, qc, qd, i64_w, i32_w]
                  rfl
                 refine pure_ (i := 7) (N := some 85) (v := ?_) (a' := ?_) #[true, true, true, true, true, true, true, true, false, false, false, false, false, false, false, false, false] rfl rfl (qla HT_.out (by kernel_rfl)) (fun _ _ _ h => h) (Or.inl ⟨by rfl, ?_⟩) ?_ ?_; rotate_left
                 ·intro w'
                  go_simp; with_reducible rfl
                 rotate_left
                 ·simp only [Act.put, qb, qc, qd, i64_w, i32_w]
                  rfl
                 refine pure_ (i := 8) (N := some 86) (v := ?_) (a' := ?_) #[true, true, true, true, true, true, true, true, true, false, false, false, false, false, false, false, false] rfl rfl (qla HT_.out (by kernel_rfl)) (fun _ _ _ h => h) (Or.inl ⟨by rfl, ?_⟩) ?_ ?_; rotate_left
                 ·intro w'
                  go_simp; with_reducible rfl
                 rotate_left
                 ·simp only [Act.put, qb, qc, qd, i64_w, i32_w]
                  rfl
                 refine pure_ (i := 9) (N := some 87) (v := ?_) (a' := ?_) #[true, true, true, true, true, true, true, true, true, true, false, false, false, false, false, false, false] rfl rfl (qla HT_.out (by kernel_rfl)) (fun _ _ _ h => h) (Or.inl ⟨by rfl, ?_⟩) ?_ ?_; rotate_left
                 ·intro w'
                  go_simp; with_reducible rfl
                 rotate_left
                 ·simp only [Act.put, qb, qc, qd, i64_w, i32_w]
                  rfl
                 refine pure_ (i := 10) (N := some 88) (v := ?_) (a' := ?_) #[true, true, true, true, true, true, true, true, true, true, true, false, false, false, false, false, false] rfl rfl (qla HT_.out (by kernel_rfl)) (fun _ _ _ h => h) (Or.inl ⟨by rfl, ?_⟩) ?_ ?_; rotate_left
                 ·intro w'
                  go_simp; with_reducible rfl
                 rotate_left
                 ·simp only [Act.put, qb, qc, qd, i64_w, i32_w]
                  rfl
                 refine pure_ (i := 11) (N := some 89) (v := ?_) (a' := ?_) #[true, true, true, true, true, true, true, true, true, true, true, true, false, false, false, false, false] rfl rfl (qla HT_.out (by kernel_rfl)) (fun _ _ _ h => h) (Or.inl ⟨by rfl, ?_⟩) ?_ ?_; rotate_left
                 ·intro w'
                  go_simp; with_reducible rfl
                 rotate_left
                 ·simp only [Act.put, qb, qc, qd, i64_w, i32_w]
                  rfl
                 refine pure_ (i := 12) (N := some 90) (v := ?_) (a' := ?_) #[true, true, true, true, true, true, true, true, true, true, true, true, true, false, false, false, false] rfl rfl (qla HT_.out (by kernel_rfl)) (fun _ _ _ h => h) (Or.inl ⟨by rfl, ?_⟩) ?_ ?_; rotate_left
                 ·intro w'
                  go_simp; with_reducible rfl
                 rotate_left
                 ·simp only [Act.put, qb, qc, qd, i64_w, i32_w]
                  rfl
                 refine pure_ (i := 13) (N := some 91) (v := ?_) (a' := ?_) #[true, true, true, true, true, true, true, true, true, true, true, true, true, true, false, false, false] rfl rfl (qla HT_.out (by kernel_rfl)) (fun _ _ _ h => h) (Or.inl ⟨by rfl, ?_⟩) ?_ ?_; rotate_left
                 ·intro w'
                  go_simp; with_reducible rfl
                 rotate_left
                 ·simp only [Act.put, qb, qc, qd, i64_w, i32_w]
                  rfl
                 refine one_ (i := 14) (N := some 92) #[true, true, true, true, true, true, true, true, true, true, true, true, true, true, true, false, false] rfl rfl (qna HT_.out (by kernel_rfl)) (by decide) (fun K hK => ?_); refine goes_ Try.func63 (by kernel_rfl) rfl #[.slice Ao57 x3_3.length co57, .string ((a0.extract 0 (x4_2 : Int).toNat) ++ (a0.extract ((ji50) : Int).toNat a0.size))] (by rfl) rfl rfl (by (try simp only [qs, qv, qw]); first | done | (simp only [hji50]; rfl) | rfl | (simp only [qu, qt]; rfl)) ?_; with_reducible refine (spec_l3Has.calls k3 _ _ x3_3 ((a0.extract 0 (x4_2 : Int).toNat) ++ (a0.extract ((ji50) : Int).toNat a0.size)) true _ ?side1 ?side2 A54.out).mono ?_
                 (case side1 => repeat (first | exact (qra HO_3.out).2.2 | (with_reducible first | apply qda | apply qea | apply qfa)))
                 (case side2 => exact (qra HO_3.out).2.1)
                 rintro e w' ⟨rfl, ⟨nd, rfl⟩⟩; refine ⟨_, rfl, ?_⟩; refine hK.out _ _ trivial (fun hHeld => ?_); clear hK K; refine norm_ (a' := ?_) ?_ ?_; rotate_left
                 ·show Act.put _ (some 92) _ = _
                  simp only [Act.put, qb, qc, qd, i64_w, i32_w]; rfl
                 refine pure_ (i := 15) (N := some 93) (v := ?_) (a' := ?_) #[true, true, true, true, true, true, true, true, true, true, true, true, true, true, true, true, false] rfl rfl (qla HT_.out (by kernel_rfl)) (fun _ _ _ h => h) (Or.inl ⟨by rfl, ?_⟩) ?_ ?_; rotate_left
                 ·intro w'
                  go_simp; with_reducible rfl
                 rotate_left
                 ·simp only [Act.put, qb, qc, qd, i64_w, i32_w]
                  rfl
                 refine pure_ (i := 16) (N := some 94) (v := ?_) (a' := ?_) #[true, true, true, true, true, true, true, true, true, true, true, true, true, true, true, true, true] rfl rfl (qla HT_.out (by kernel_rfl)) (fun _ _ _ h => h) (Or.inl ⟨by rfl, ?_⟩) ?_ ?_; rotate_left
                 ·intro w'
                  go_simp; with_reducible rfl
                 rotate_left
                 ·simp only [Act.put, qb, qc, qd, i64_w, i32_w]
                  rfl
                 refine done_ (done_of HT_.out (by kernel_rfl)) ?_
                 try go_wp2
                 go_roundg k3
                 case measure => have := HJ1.out; have := HK2.out; have := HK3.out; omega
                 case rel => exact ⟨(x3_3), (ji50), (by first | rfl | (simp; done) | (simp only [← hji50] <;> (first | rfl | simp)) | (simp [*]; done)), H', ⟨by have := HJ1.out; have := HK2.out; have := HK3.out; omega⟩, ⟨by (with_reducible repeat first | apply qx | apply qy | apply qz); exact HO_3.out⟩, ⟨by repeat (first | (with_reducible first | exact HB.out | apply qh | apply qe | apply qg) | exact HB.out)⟩⟩
                ·replace c55 := Bool.eq_false_iff.mpr c55
                 subst c55; rw [if_neg (show ¬ (false = true) by decide)] at H; have H1 := H; clear H; have H := H1; clear H1; have c58b0 := qaa (qm (by assumption) : 0 ≤ x4_2); have c59b0 := qaa (qm (by assumption) : x4_2 ≤ (a0.size : Int)); have c60b0 := qaa (qm (by assumption) : 0 ≤ (ji50)); have c61b0 := qaa (qm (by assumption) : (ji50) ≤ (a0.size : Int))
                 by_cases c62 : x3_3.length < 8796093022208
                 ·rw [if_pos c62] at H
                  have LMc62 := qa c62; clear c62
                  obtain ⟨y183, hy183⟩ : ∃ y_ : List ByteArray, y_ = (x3_3 ++ [(a0.extract 0 (x4_2 : Int).toNat) ++ (a0.extract ((ji50) : Int).toNat a0.size)]) := ⟨_, rfl⟩
                  replace H : (spec_NeighboursOf.l0 k3 a0 y183 ji50) = some r := by first | (rw [hy183]; with_reducible exact H) | (have H2_ := (Option.bind_some _ _).symm.trans H; rw [hy183]; with_reducible exact H2_) | (have H2_ := (Option.bind_some _ _).symm.trans H; with_reducible exact H2_) | with_reducible exact H | (rw [hy183]; exact H) | exact H
                  have Ny183 := qa hy183; clear hy183; have H' := qa H; clear H
                  try go_wp2
                  have n0_ := qa (qz HO_3.out); have n1_ := qa (qg HB.out); clear HO_3 HB; have HO_3 := n0_; have HB := n1_; clear n0_ n1_; obtain ⟨Ao64, co64, eo64⟩ := Kd.R_slice HO_3.out
                  (first | subst eo64 | (injection eo64 with f1_ f2_ f3_; have f4_ := f1_.symm; have f5_ := f3_.symm; clear f1_ f2_ f3_; subst f4_; subst f5_))
                  refine start_ (n := 17) (S := fun w' => True) (ds := []) #[false, false, false, false, false, false, false, false, false, false, false, false, false, false, false, false, false] (by kernel_rfl) rfl rfl trivial (fun hHeld => ?_); refine with_tabW spec_NeighboursOf.tab17 spec_NeighboursOf.bits17 (fun HT_ HW_ => ?_); generalize wr.drew = w63 at HO_3 HB hHeld ⊢; refine pure_ (i := 0) (N := some 78) (v := ?_) (a' := ?_) #[true, false, false, false, false, false, false, false, false, false, false, false, false, false, false, false, false] rfl rfl (qla HT_.out (by kernel_rfl)) (fun _ _ _ h => h) (Or.inl ⟨by rfl, ?_⟩) ?_ ?_; rotate_left
                  ·intro w'
                   go_simp; with_reducible rfl
                  rotate_left
                  ·simp only [Act.put, qb, qc, qd, i64_w, i32_w]
                   rfl
                  refine pure_ (i := 1) (N := some 79) (v := ?_) (a' := ?_) #[true, true, false, false, false, false, false, false, false, false, false, false, false, false, false, false, false] rfl rfl (qla HT_.out (by kernel_rfl)) (fun _ _ _ h => h) (Or.inl ⟨by rfl, ?_⟩) ?_ ?_; rotate_left
                  ·intro w'
                   go_simp; with_reducible rfl
                  rotate_left
                  ·simp only [Act.put, qb, qc, qd, i64_w, i32_w]
                   rfl
                  refine pure_ (i := 2) (N := some 80) (v := ?_) (a' := ?_) #[true, true, true, false, false, false, false, false, false, false, false, false, false, false, false, false, false] rfl rfl (qla HT_.out (by kernel_rfl)) (fun _ _ _ h => h) (Or.inl ⟨by rfl, ?_⟩) ?_ ?_; rotate_left
                  ·intro w'
                   go_simp; with_reducible rfl
                  rotate_left
                  ·simp only [Act.put, qb, qc, qd, i64_w, i32_w]
                   rfl
                  refine pure_ (i := 3) (N := some 81) (v := ?_) (a' := ?_) #[true, true, true, true, false, false, false, false, false, false, false, false, false, false, false, false, false] rfl rfl (qla HT_.out (by kernel_rfl)) (fun _ _ _ h => h) (Or.inl ⟨by rfl, ?_⟩) ?_ ?_; rotate_left
                  ·intro w'
                   go_simp; with_reducible rfl
                  rotate_left
                  ·simp only [Act.put, qb, qc, qd, i64_w, i32_w]
                   rfl
                  refine pure_ (i := 4) (N := some 82) (v := ?_) (a' := ?_) #[true, true, true, true, true, false, false, false, false, false, false, false, false, false, false, false, false] rfl rfl (qla HT_.out (by kernel_rfl)) (fun _ _ _ h => h) (Or.inl ⟨by rfl, ?_⟩) ?_ ?_; rotate_left
                  ·intro w'
                   go_simp; with_reducible rfl
                  rotate_left
                  ·simp only [Act.put, qb, qc, qd, i64_w, i32_w]
                   rfl
                  refine pure_ (i := 5) (N := some 83) (v := ?_) (a' := ?_) #[true, true, true, true, true, true, false, false, false, false, false, false, false, false, false, false, false] rfl rfl (qla HT_.out (by kernel_rfl)) (fun _ _ _ h => h) (Or.inl ⟨by rfl, ?_⟩) ?_ ?_; rotate_left
                  ·intro w'
                   go_simp; with_reducible rfl
                  rotate_left
                  ·simp only [Act.put, qb, qc, qd, i64_w, i32_w]
                   rfl
                  refine pure_ (i := 6) (N := some 84) (v := ?_) (a' := ?_) #[true, true, true, true, true, true, true, false, false, false, false, false, false, false, false, false, false] rfl rfl (qla HT_.out (by kernel_rfl)) (fun _ _ _ h => h) (Or.inl ⟨by rfl, ?_⟩) ?_ ?_; rotate_left
                  ·intro w'
                   go_simp; with_reducible rfl
                  rotate_left
                  ·simp only [Act.put, qb, qc, qd, i64_w, i32_w]
                   rfl
                  refine pure_ (i := 7) (N := some 85) (v := ?_) (a' := ?_) #[true, true, true, true, true, true, true, true, false, false, false, false, false, false, false, false, false] rfl rfl (qla HT_.out (by kernel_rfl)) (fun _ _ _ h => h) (Or.inl ⟨by rfl, ?_⟩) ?_ ?_; rotate_left
                  ·intro w'
                   go_simp; with_reducible rfl
                  rotate_left
                  ·simp only [Act.put, qb, qc, qd, i64_w, i32_w]
                   rfl
                  refine pure_ (i := 8) (N := some 86) (v := ?_) (a' := ?_) #[true, true, true, true, true, true, true, true, true, false, false, false, false, false, false, false, false] rfl rfl (qla HT_.out (by kernel_rfl)) (fun _ _ _ h => h) (Or.inl ⟨by rfl, ?_⟩) ?_ ?_; rotate_left
                  ·intro w'
                   go_simp; with_reducible rfl
                  rotate_left
                  ·simp only [Act.put, qb, qc, qd, i64_w, i32_w]
                   rfl
                  refine pure_ (i := 9) (N := some 87) (v := ?_) (a' := ?_) #[true, true, true, true, true, true, true, true, true, true, false, false, false, false, false, false, false] rfl rfl (qla HT_.out (by kernel_rfl)) (fun _ _ _ h => h) (Or.inl ⟨by rfl, ?_⟩) ?_ ?_; rotate_left
                  ·intro w'
                   go_simp; with_reducible rfl
                  rotate_left
                  ·simp only [Act.put, qb, qc, qd, i64_w, i32_w]
                   rfl
                  refine pure_ (i := 10) (N := some 88) (v := ?_) (a' := ?_) #[true, true, true, true, true, true, true, true, true, true, true, false, false, false, false, false, false] rfl rfl (qla HT_.out (by kernel_rfl)) (fun _ _ _ h => h) (Or.inl ⟨by rfl, ?_⟩) ?_ ?_; rotate_left
                  ·intro w'
                   go_simp; with_reducible rfl
                  rotate_left
                  ·simp only [Act.put, qb, qc, qd, i64_w, i32_w]
                   rfl
                  refine pure_ (i := 11) (N := some 89) (v := ?_) (a' := ?_) #[true, true, true, true, true, true, true, true, true, true, true, true, false, false, false, false, false] rfl rfl (qla HT_.out (by kernel_rfl)) (fun _ _ _ h => h) (Or.inl ⟨by rfl, ?_⟩) ?_ ?_; rotate_left
                  ·intro w'
                   go_simp; with_reducible rfl
                  rotate_left
                  ·simp only [Act.put, qb, qc, qd, i64_w, i32_w]
                   rfl
                  refine pure_ (i := 12) (N := some 90) (v := ?_) (a' := ?_) #[true, true, true, true, true, true, true, true, true, true, true, true, true, false, false, false, false] rfl rfl (qla HT_.out (by kernel_rfl)) (fun _ _ _ h => h) (Or.inl ⟨by rfl, ?_⟩) ?_ ?_; rotate_left
                  ·intro w'
                   go_simp; with_reducible rfl
                  rotate_left
                  ·simp only [Act.put, qb, qc, qd, i64_w, i32_w]
                   rfl
                  refine pure_ (i := 13) (N := some 91) (v := ?_) (a' := ?_) #[true, true, true, true, true, true, true, true, true, true, true, true, true, true, false, false, false] rfl rfl (qla HT_.out (by kernel_rfl)) (fun _ _ _ h => h) (Or.inl ⟨by rfl, ?_⟩) ?_ ?_; rotate_left
                  ·intro w'
                   go_simp; with_reducible rfl
                  rotate_left
                  ·simp only [Act.put, qb, qc, qd, i64_w, i32_w]
                   rfl
                  refine one_ (i := 14) (N := some 92) #[true, true, true, true, true, true, true, true, true, true, true, true, true, true, true, false, false] rfl rfl (qna HT_.out (by kernel_rfl)) (by decide) (fun K hK => ?_); refine goes_ Try.func63 (by kernel_rfl) rfl #[.slice Ao64 x3_3.length co64, .string ((a0.extract 0 (x4_2 : Int).toNat) ++ (a0.extract ((ji50) : Int).toNat a0.size))] (by rfl) rfl rfl (by (try simp only [qs, qv, qw]); first | done | (simp only [hji50]; rfl) | rfl | (simp only [qu, qt]; rfl)) ?_; with_reducible refine (spec_l3Has.calls k3 _ _ x3_3 ((a0.extract 0 (x4_2 : Int).toNat) ++ (a0.extract ((ji50) : Int).toNat a0.size)) false _ ?side1 ?side2 A54.out).mono ?_
                  (case side1 => repeat (first | exact (qra HO_3.out).2.2 | (with_reducible first | apply qda | apply qea | apply qfa)))
                  (case side2 => exact (qra HO_3.out).2.1)
                  rintro e w' ⟨rfl, ⟨nd, rfl⟩⟩; refine ⟨_, rfl, ?_⟩; refine hK.out _ _ trivial (fun hHeld => ?_); clear hK K; refine norm_ (a' := ?_) ?_ ?_; rotate_left
                  ·show Act.put _ (some 92) _ = _
                   simp only [Act.put, qb, qc, qd, i64_w, i32_w]; rfl
                  refine pure_ (i := 15) (N := some 93) (v := ?_) (a' := ?_) #[true, true, true, true, true, true, true, true, true, true, true, true, true, true, true, true, false] rfl rfl (qla HT_.out (by kernel_rfl)) (fun _ _ _ h => h) (Or.inl ⟨by rfl, ?_⟩) ?_ ?_; rotate_left
                  ·intro w'
                   go_simp; with_reducible rfl
                  rotate_left
                  ·simp only [Act.put, qb, qc, qd, i64_w, i32_w]
                   rfl
                  refine pure_ (i := 16) (N := some 94) (v := ?_) (a' := ?_) #[true, true, true, true, true, true, true, true, true, true, true, true, true, true, true, true, true] rfl rfl (qla HT_.out (by kernel_rfl)) (fun _ _ _ h => h) (Or.inl ⟨by rfl, ?_⟩) ?_ ?_; rotate_left
                  ·intro w'
                   go_simp; with_reducible rfl
                  rotate_left
                  ·simp only [Act.put, qb, qc, qd, i64_w, i32_w]
                   rfl
                  refine done_ (done_of HT_.out (by kernel_rfl)) ?_
                  try go_wp2
                  (try (rw [drewN_self w63]; generalize hq_ : World.drewN w63 _ = w63; have n0_ : Aside0 (Kd.R Kd.string 9 w63 w.heap.size (fun _ => True) (.slice Ao64 x3_3.length co64) x3_3) := ⟨by rw [← hq_]; exact (by (with_reducible repeat first | apply qx | apply qy | apply qz); exact HO_3.out)⟩; have n1_ : Aside0 (Below w.heap.size w w63) := ⟨by rw [← hq_]; exact (by repeat (first | (with_reducible first | exact HB.out | apply qh | apply qe | apply qg) | exact HB.out))⟩; clear HO_3 HB hq_; have HO_3 := n0_; have HB := n1_; clear n0_ n1_)); have n0_ := qa (qz HO_3.out); have n1_ := qa (qg HB.out); clear HO_3 HB; have HO_3 := n0_; have HB := n1_; clear n0_ n1_; refine start_ (n := 12) (S := fun w' => True) (ds := []) #[false, false, false, false, false, false, false, false, false, false, false, false] (by kernel_rfl) rfl rfl trivial (fun hHeld => ?_); refine with_tabW spec_NeighboursOf.tab18 spec_NeighboursOf.bits18 (fun HT_ HW_ => ?_); generalize w63.drew = w65 at HO_3 HB hHeld ⊢; refine pure_ (i := 0) (N := some 95) (v := ?_) (a' := ?_) #[true, false, false, false, false, false, false, false, false, false, false, false] rfl rfl (qla HT_.out (by kernel_rfl)) (fun _ _ _ h => h) (Or.inl ⟨by rfl, ?_⟩) ?_ ?_; rotate_left
                  ·intro w'
                   go_simp; with_reducible rfl
                  rotate_left
                  ·simp only [Act.put, qb, qc, qd, i64_w, i32_w]
                   rfl
                  refine pure_ (i := 1) (N := some 96) (v := ?_) (a' := ?_) #[true, true, false, false, false, false, false, false, false, false, false, false] rfl rfl (qla HT_.out (by kernel_rfl)) (fun _ _ _ h => h) (Or.inl ⟨by rfl, ?_⟩) ?_ ?_; rotate_left
                  ·intro w'
                   go_simp; with_reducible rfl
                  rotate_left
                  ·simp only [Act.put, qb, qc, qd, i64_w, i32_w]
                   rfl
                  refine pure_ (i := 2) (N := some 97) (v := ?_) (a' := ?_) #[true, true, true, false, false, false, false, false, false, false, false, false] rfl rfl (qla HT_.out (by kernel_rfl)) (fun _ _ _ h => h) (Or.inl ⟨by rfl, ?_⟩) ?_ ?_; rotate_left
                  ·intro w'
                   go_simp; with_reducible rfl
                  rotate_left
                  ·simp only [Act.put, qb, qc, qd, i64_w, i32_w]
                   rfl
                  refine pure_ (i := 3) (N := some 98) (v := ?_) (a' := ?_) #[true, true, true, true, false, false, false, false, false, false, false, false] rfl rfl (qla HT_.out (by kernel_rfl)) (fun _ _ _ h => h) (Or.inl ⟨by rfl, ?_⟩) ?_ ?_; rotate_left
                  ·intro w'
                   go_simp; with_reducible rfl
                  rotate_left
                  ·simp only [Act.put, qb, qc, qd, i64_w, i32_w]
                   rfl
                  refine pure_ (i := 4) (N := some 99) (v := ?_) (a' := ?_) #[true, true, true, true, true, false, false, false, false, false, false, false] rfl rfl (qla HT_.out (by kernel_rfl)) (fun _ _ _ h => h) (Or.inl ⟨by rfl, ?_⟩) ?_ ?_; rotate_left
                  ·intro w'
                   go_simp; with_reducible rfl
                  rotate_left
                  ·simp only [Act.put, qb, qc, qd, i64_w, i32_w]
                   rfl
                  refine pure_ (i := 5) (N := some 100) (v := ?_) (a' := ?_) #[true, true, true, true, true, true, false, false, false, false, false, false] rfl rfl (qla HT_.out (by kernel_rfl)) (fun _ _ _ h => h) (Or.inl ⟨by rfl, ?_⟩) ?_ ?_; rotate_left
                  ·intro w'
                   go_simp; with_reducible rfl
                  rotate_left
                  ·simp only [Act.put, qb, qc, qd, i64_w, i32_w]
                   rfl
                  refine pure_ (i := 6) (N := some 101) (v := ?_) (a' := ?_) #[true, true, true, true, true, true, true, false, false, false, false, false] rfl rfl (qla HT_.out (by kernel_rfl)) (fun _ _ _ h => h) (Or.inl ⟨by rfl, ?_⟩) ?_ ?_; rotate_left
                  ·intro w'
                   go_simp; with_reducible rfl
                  rotate_left
                  ·simp only [Act.put, qb, qc, qd, i64_w, i32_w]
                   rfl
                  refine pure_ (i := 7) (N := some 102) (v := ?_) (a' := ?_) #[true, true, true, true, true, true, true, true, false, false, false, false] rfl rfl (qla HT_.out (by kernel_rfl)) (fun _ _ _ h => h) (Or.inl ⟨by rfl, ?_⟩) ?_ ?_; rotate_left
                  ·intro w'
                   go_simp; with_reducible rfl
                  rotate_left
                  ·simp only [Act.put, qb, qc, qd, i64_w, i32_w]
                   rfl
                  refine pure_ (i := 8) (N := some 103) (v := ?_) (a' := ?_) #[true, true, true, true, true, true, true, true, true, false, false, false] rfl rfl (qla HT_.out (by kernel_rfl)) (fun _ _ _ h => h) (Or.inl ⟨by rfl, ?_⟩) ?_ ?_; rotate_left
                  ·intro w'
                   go_simp; with_reducible rfl
                  rotate_left
                  ·simp only [Act.put, qb, qc, qd, i64_w, i32_w]
                   rfl
                  refine one_ (i := 9) (N := some 104) #[true, true, true, true, true, true, true, true, true, true, false, false] rfl rfl (qna HT_.out (by kernel_rfl)) (by decide) (fun K hK => ?_); refine value_ (w1 := ?_) (v := ?_) (by rfl) rfl ?_ ?_; rotate_left 2
                  ·go_simp
                   constructor
                   ·rfl
                   ·rfl
                  refine hK.out _ _ trivial (fun hHeld => ?_); clear hK K; refine norm_ (a' := ?_) ?_ ?_; rotate_left
                  ·show Act.put _ (some 104) _ = _
                   simp only [Act.put, qb, qc, qd, i64_w, i32_w]; rfl
                  refine one_ (i := 10) (N := some 105) #[true, true, true, true, true, true, true, true, true, true, true, false] rfl rfl (qna HT_.out (by kernel_rfl)) (by decide) (fun K hK => ?_); refine Kd.R_append_step Kd.string (w0 := w) w.heap.size (by rfl) (.tmp 95) (.tmp 104) 25 9 (.string ⟨#[]⟩) 16 rfl Try.underlying25 info9 rfl (by decide) (by omega) (.slice Ao64 x3_3.length co64) x3_3 ((a0.extract 0 (x4_2 : Int).toNat) ++ (a0.extract ((ji50) : Int).toNat a0.size)) [.string ((a0.extract 0 (x4_2 : Int).toNat) ++ (a0.extract ((ji50) : Int).toNat a0.size))] (fun _ => True) (fun _ => False) rfl rfl ?aP (fun _ hk => hk.elim) ?aF ?aO ?aB ?aS ?aL ?_
                  (case aP => exact rfl)
                  (case aB => exact (by repeat (first | (with_reducible first | exact HB.out | apply qh | apply qe | apply qg) | exact HB.out)))
                  (case aF => exact (fun _ _ => trivial))
                  (case aO => exact (by (with_reducible repeat first | apply qx | apply qy | apply qz); exact HO_3.out))
                  (case aS => exact (qp (by repeat (first | (with_reducible first | exact HB.out | apply qh | apply qe | apply qg) | exact HB.out))))
                  (case aL => have := LMc62.out; omega)
                  intro v184 w66 ho hb hg hat; rw [← Ny183.out] at ho; have n0_ := qa (hb); have n1_ := qa (ho); clear HB HO_3; have HB := n0_; have HO185 := n1_; clear n0_ n1_ ho hb hg hat; refine hK.out _ _ trivial (fun hHeld => ?_); clear hK K; refine norm_ (a' := ?_) ?_ ?_; rotate_left
                  ·show Act.put _ (some 105) _ = _
                   simp only [Act.put, qb, qc, qd, i64_w, i32_w]; rfl
                  refine pure_ (i := 11) (N := some 3) (v := ?_) (a' := ?_) #[true, true, true, true, true, true, true, true, true, true, true, true] rfl rfl (qla HT_.out (by kernel_rfl)) (fun _ _ _ h => h) (Or.inl ⟨by rfl, ?_⟩) ?_ ?_; rotate_left
                  ·intro w'
                   go_simp; with_reducible rfl
                  rotate_left
                  ·simp only [Act.put, qb, qc, qd, i64_w, i32_w]
                   rfl
                  refine done_ (done_of HT_.out (by kernel_rfl)) ?_
                  try go_wp2
                  go_roundg k3
                  case measure => have := HJ1.out; have := HK2.out; have := HK3.out; omega
                  case rel => exact ⟨(y183), (ji50), (by first | rfl | (simp; done) | (simp only [← hji50] <;> (first | rfl | simp)) | (simp [*]; done)), H', ⟨by have := HJ1.out; have := HK2.out; have := HK3.out; omega⟩, ⟨by (with_reducible repeat first | apply qx | apply qy | apply qz); exact HO185.out⟩, ⟨by repeat (first | (with_reducible first | exact HB.out | apply qh | apply qe | apply qg) | exact HB.out)⟩⟩
                 ·rw [if_neg c62] at H
                  exact absurd H (by simp)
               ·rw [if_neg c53] at H
                exact absurd H (by simp)
              ·rw [if_neg c52] at H
               exact absurd H (by simp)
             ·rw [if_neg c51] at H
              exact absurd H (by simp)
            ·rw [if_neg c49] at H
             exact absurd H (by simp)
           ·rw [if_neg c48] at H
            exact absurd H (by simp)
          ·rw [if_neg c47] at H
           have c47b0 : decide (x4_2 < (a0.size : Int)) = false := qr c47; clear c47; have H' := qa H; clear H
           try go_wp2
           have n0_ := qa (qz HO_3.out); have n1_ := qa (qg HB.out); clear HO_3 HB; have HO_3 := n0_; have HB := n1_; clear n0_ n1_; refine start_ (n := 17) (S := fun w' => True) (ds := []) #[false, false, false, false, false, false, false, false, false, false, false, false, false, false, false, false, false] (by kernel_rfl) rfl rfl trivial (fun hHeld => ?_); refine with_tabW spec_NeighboursOf.tab17 spec_NeighboursOf.bits17 (fun HT_ HW_ => ?_); generalize wr.drew = w67 at HO_3 HB hHeld ⊢; refine pure_ (i := 0) (N := some 78) (v := ?_) (a' := ?_) #[true, false, false, false, false, false, false, false, false, false, false, false, false, false, false, false, false] rfl rfl (qla HT_.out (by kernel_rfl)) (fun _ _ _ h => h) (Or.inl ⟨by rfl, ?_⟩) ?_ ?_; rotate_left
           ·intro w'
            go_simp; with_reducible rfl
           rotate_left
           ·simp only [Act.put, qb, qc, qd, i64_w, i32_w]
            rfl
           refine pure_ (i := 1) (N := some 79) (v := ?_) (a' := ?_) #[true, true, false, false, false, false, false, false, false, false, false, false, false, false, false, false, false] rfl rfl (qla HT_.out (by kernel_rfl)) (fun _ _ _ h => h) (Or.inl ⟨by rfl, ?_⟩) ?_ ?_; rotate_left
           ·intro w'
            go_simp; with_reducible rfl
           rotate_left
           ·simp only [Act.put, qb, qc, qd, i64_w, i32_w]
            rfl
           refine pure_ (i := 2) (N := some 80) (v := ?_) (a' := ?_) #[true, true, true, false, false, false, false, false, false, false, false, false, false, false, false, false, false] rfl rfl (qla HT_.out (by kernel_rfl)) (fun _ _ _ h => h) (Or.inl ⟨by rfl, ?_⟩) ?_ ?_; rotate_left
           ·intro w'
            go_simp; with_reducible rfl
           rotate_left
           ·simp only [Act.put, qb, qc, qd, i64_w, i32_w]
            rfl
           refine pure_ (i := 3) (N := some 81) (v := ?_) (a' := ?_) #[true, true, true, true, false, false, false, false, false, false, false, false, false, false, false, false, false] rfl rfl (qla HT_.out (by kernel_rfl)) (fun _ _ _ h => h) (Or.inl ⟨by rfl, ?_⟩) ?_ ?_; rotate_left
           ·intro w'
            go_simp; with_reducible rfl
           rotate_left
           ·simp only [Act.put, qb, qc, qd, i64_w, i32_w]
            rfl
           refine pure_ (i := 4) (N := some 82) (v := ?_) (a' := ?_) #[true, true, true, true, true, false, false, false, false, false, false, false, false, false, false, false, false] rfl rfl (qla HT_.out (by kernel_rfl)) (fun _ _ _ h => h) (Or.inl ⟨by rfl, ?_⟩) ?_ ?_; rotate_left
           ·intro w'
            go_simp; with_reducible rfl
           rotate_left
           ·simp only [Act.put, qb, qc, qd, i64_w, i32_w]
            rfl
           refine pure_ (i := 5) (N := some 83) (v := undef) (a' := ?_) #[true, true, true, true, true, true, false, false, false, false, false, false, false, false, false, false, false] rfl rfl (qla HT_.out (by kernel_rfl)) (fun _ _ _ h => h) (Or.inr ⟨by rfl, rfl⟩) ?_ ?_; rotate_left
           ·simp only [Act.put, qb, qc, qd, i64_w, i32_w]
            rfl
           refine pure_ (i := 6) (N := some 84) (v := undef) (a' := ?_) #[true, true, true, true, true, true, true, false, false, false, false, false, false, false, false, false, false] rfl rfl (qla HT_.out (by kernel_rfl)) (fun _ _ _ h => h) (Or.inr ⟨by rfl, rfl⟩) ?_ ?_; rotate_left
           ·simp only [Act.put, qb, qc, qd, i64_w, i32_w]
            rfl
           refine pure_ (i := 7) (N := some 85) (v := undef) (a' := ?_) #[true, true, true, true, true, true, true, true, false, false, false, false, false, false, false, false, false] rfl rfl (qla HT_.out (by kernel_rfl)) (fun _ _ _ h => h) (Or.inr ⟨by rfl, rfl⟩) ?_ ?_; rotate_left
           ·simp only [Act.put, qb, qc, qd, i64_w, i32_w]
            rfl
           refine pure_ (i := 8) (N := some 86) (v := undef) (a' := ?_) #[true, true, true, true, true, true, true, true, true, false, false, false, false, false, false, false, false] rfl rfl (qla HT_.out (by kernel_rfl)) (fun _ _ _ h => h) (Or.inr ⟨by rfl, rfl⟩) ?_ ?_; rotate_left
           ·simp only [Act.put, qb, qc, qd, i64_w, i32_w]
            rfl
           refine pure_ (i := 9) (N := some 87) (v := undef) (a' := ?_) #[true, true, true, true, true, true, true, true, true, true, false, false, false, false, false, false, false] rfl rfl (qla HT_.out (by kernel_rfl)) (fun _ _ _ h => h) (Or.inr ⟨by rfl, rfl⟩) ?_ ?_; rotate_left
           ·simp only [Act.put, qb, qc, qd, i64_w, i32_w]
            rfl
           refine pure_ (i := 10) (N := some 88) (v := undef) (a' := ?_) #[true, true, true, true, true, true, true, true, true, true, true, false, false, false, false, false, false] rfl rfl (qla HT_.out (by kernel_rfl)) (fun _ _ _ h => h) (Or.inr ⟨by rfl, rfl⟩) ?_ ?_; rotate_left
           ·simp only [Act.put, qb, qc, qd, i64_w, i32_w]
            rfl
           refine pure_ (i := 11) (N := some 89) (v := undef) (a' := ?_) #[true, true, true, true, true, true, true, true, true, true, true, true, false, false, false, false, false] rfl rfl (qla HT_.out (by kernel_rfl)) (fun _ _ _ h => h) (Or.inr ⟨by rfl, rfl⟩) ?_ ?_; rotate_left
           ·simp only [Act.put, qb, qc, qd, i64_w, i32_w]
            rfl
           refine pure_ (i := 12) (N := some 90) (v := undef) (a' := ?_) #[true, true, true, true, true, true, true, true, true, true, true, true, true, false, false, false, false] rfl rfl (qla HT_.out (by kernel_rfl)) (fun _ _ _ h => h) (Or.inr ⟨by rfl, rfl⟩) ?_ ?_; rotate_left
           ·simp only [Act.put, qb, qc, qd, i64_w, i32_w]
            rfl
           refine pure_ (i := 13) (N := some 91) (v := undef) (a' := ?_) #[true, true, true, true, true, true, true, true, true, true, true, true, true, true, false, false, false] rfl rfl (qla HT_.out (by kernel_rfl)) (fun _ _ _ h => h) (Or.inr ⟨by rfl, rfl⟩) ?_ ?_; rotate_left
           ·simp only [Act.put, qb, qc, qd, i64_w, i32_w]
            rfl
           refine pure_ (i := 14) (N := some 92) (v := undef) (a' := ?_) #[true, true, true, true, true, true, true, true, true, true, true, true, true, true, true, false, false] rfl rfl (qla HT_.out (by kernel_rfl)) (fun _ _ _ h => h) (Or.inr ⟨by rfl, rfl⟩) ?_ ?_; rotate_left
           ·simp only [Act.put, qb, qc, qd, i64_w, i32_w]
            rfl
           refine pure_ (i := 15) (N := some 93) (v := undef) (a' := ?_) #[true, true, true, true, true, true, true, true, true, true, true, true, true, true, true, true, false] rfl rfl (qla HT_.out (by kernel_rfl)) (fun _ _ _ h => h) (Or.inr ⟨by rfl, rfl⟩) ?_ ?_; rotate_left
           ·simp only [Act.put, qb, qc, qd, i64_w, i32_w]
            rfl
           refine pure_ (i := 16) (N := some 94) (v := ?_) (a' := ?_) #[true, true, true, true, true, true, true, true, true, true, true, true, true, true, true, true, true] rfl rfl (qla HT_.out (by kernel_rfl)) (fun _ _ _ h => h) (Or.inl ⟨by rfl, ?_⟩) ?_ ?_; rotate_left
           ·intro w'
            go_simp; with_reducible rfl
           rotate_left
           ·simp only [Act.put, qb, qc, qd, i64_w, i32_w]
            rfl
           refine done_ (done_of HT_.out (by kernel_rfl)) ?_
           try go_wp2
           go_roundg k3
           case measure => have := HJ1.out; have := HK2.out; have := HK3.out; omega
           case rel => exact ⟨(x3_3), (wrap64 (x4_2 + 1)), (by first | rfl | (simp; done) | (simp [*]; done)), H', ⟨by have := HJ1.out; have := HK2.out; have := HK3.out; omega⟩, ⟨by (with_reducible repeat first | apply qx | apply qy | apply qz); exact HO_3.out⟩, ⟨by repeat (first | (with_reducible first | exact HB.out | apply qh | apply qe | apply qg) | exact HB.out)⟩⟩
      ·rw [if_neg c8] at H
       have c8b0 : decide (x4_2 ≤ (a0.size : Int)) = false := qr c8; clear c8; obtain rfl := qca H; go_wp2; go_ret; exact ⟨_, by first | rfl | (simp [*] <;> rfl), by (with_reducible repeat first | apply qx | apply qy | apply qz); exact HO_3.out, by repeat (first | (with_reducible first | exact HB.out | apply qh | apply qe | apply qg) | exact HB.out)⟩
end Go.Proofs.Ytkjpbhncgjhfeaa.PFnForms
