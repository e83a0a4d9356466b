import Derived.Test.YtkjpbhncgjhfeaaPFnFormsx0
import Derived.Test.YtkjpbhncgjhfeaaPFnFormsx2
import Derived.Test.YtkjpbhncgjhfeaaPFnFormsx7
namespace Go.Proofs.Ytkjpbhncgjhfeaa.PFnForms
open Go.RowKit Go.Proofs.YtkjpbhncgjhfeaaW.PrintWords Go.Proofs.YtkjpbhncgjhfeaaW.PrintLast Go.Proofs.YtkjpbhncgjhfeaaW.PrintMore
attribute [local go_sem] max2_int min2_int max_two min_two max_three min_three max_four min_four
set_option linter.unusedVariables false
set_option linter.unusedSimpArgs false
set_option maxHeartbeats 8000000
set_option maxRecDepth 100000
mutual
def impl_SyllablesOf.j0 : Nat → ByteArray → Bool → Option ((List (S38)))
 | 0, _, _ => none
 | k + 1, x0, x15 => if x15 = true then (some ([] : List (S38))) else (impl_SyllablesOf.l0 k x0 (([] : List (S38))) 0 (x0.size : Int) 0)
def impl_SyllablesOf.l0 : Nat → ByteArray → List (S38) → Int → Int → Int → Option ((List (S38)))
 | 0, _, _, _, _, _ => none
 | k + 1, x0, x3, x4, x18, x19 => if x19 < x18 then (if 0 ≤ x19 then (if x19 < (x0.size : Int) then ((impl_isVowel.f (bt x0 x19)).bind fun t265 => (if t265 = true then (if (x3.length : Int) > 0 then (if x4 < x19 then (if 0 ≤ x4 then (if x4 ≤ (wrap64 (x19 - 1)) then (if (wrap64 (x19 - 1)) ≤ (x0.size : Int) then (if 0 ≤ (wrap64 ((x3.length : Int) - 1)) then (if (wrap64 ((x3.length : Int) - 1)) < (x3.length : Int) then ((some (x3.set ((wrap64 ((x3.length : Int) - 1)) : Int).toNat (⟨(rd_T38 x3 (wrap64 ((x3.length : Int) - 1))).f0, (rd_T38 x3 (wrap64 ((x3.length : Int) - 1))).f1, x0.extract (x4 : Int).toNat ((wrap64 (x19 - 1)) : Int).toNat⟩ : S38) : List (S38))).bind fun y266 => (if 0 ≤ (wrap64 (x19 - 1)) then (if (wrap64 (x19 - 1)) ≤ x19 then (if x19 ≤ (x0.size : Int) then (if x19 ≤ (wrap64 (x19 + 1)) then (if (wrap64 (x19 + 1)) ≤ (x0.size : Int) then (if y266.length < 2932031007402 then (impl_SyllablesOf.l0 k x0 (y266 ++ [(⟨x0.extract ((wrap64 (x19 - 1)) : Int).toNat (x19 : Int).toNat, x0.extract (x19 : Int).toNat ((wrap64 (x19 + 1)) : Int).toNat, (⟨#[]⟩ : ByteArray)⟩ : S38)]) (wrap64 (x19 + 1)) x18 (wrap64 (x19 + 1))) else (none)) else (none)) else (none)) else (none)) else (none)) else (none))) else (none)) else (none)) else (none)) else (none)) else (none)) else (if 0 ≤ x4 then (if x4 ≤ x19 then (if x19 ≤ (x0.size : Int) then (if x19 ≤ (wrap64 (x19 + 1)) then (if (wrap64 (x19 + 1)) ≤ (x0.size : Int) then (if x3.length < 2932031007402 then (impl_SyllablesOf.l0 k x0 (x3 ++ [(⟨x0.extract (x4 : Int).toNat (x19 : Int).toNat, x0.extract (x19 : Int).toNat ((wrap64 (x19 + 1)) : Int).toNat, (⟨#[]⟩ : ByteArray)⟩ : S38)]) (wrap64 (x19 + 1)) x18 (wrap64 (x19 + 1))) else (none)) else (none)) else (none)) else (none)) else (none)) else (none))) else (if 0 ≤ x4 then (if x4 ≤ x19 then (if x19 ≤ (x0.size : Int) then (if x19 ≤ (wrap64 (x19 + 1)) then (if (wrap64 (x19 + 1)) ≤ (x0.size : Int) then (if x3.length < 2932031007402 then (impl_SyllablesOf.l0 k x0 (x3 ++ [(⟨x0.extract (x4 : Int).toNat (x19 : Int).toNat, x0.extract (x19 : Int).toNat ((wrap64 (x19 + 1)) : Int).toNat, (⟨#[]⟩ : ByteArray)⟩ : S38)]) (wrap64 (x19 + 1)) x18 (wrap64 (x19 + 1))) else (none)) else (none)) else (none)) else (none)) else (none)) else (none))) else (impl_SyllablesOf.l0 k x0 x3 x4 x18 (wrap64 (x19 + 1))))) else (none)) else (none)) else (if 0 ≤ x4 then (if x4 ≤ (x0.size : Int) then (if 0 ≤ (wrap64 ((x3.length : Int) - 1)) then (if (wrap64 ((x3.length : Int) - 1)) < (x3.length : Int) then (some (x3.set ((wrap64 ((x3.length : Int) - 1)) : Int).toNat (⟨(rd_T38 x3 (wrap64 ((x3.length : Int) - 1))).f0, (rd_T38 x3 (wrap64 ((x3.length : Int) - 1))).f1, x0.extract (x4 : Int).toNat x0.size⟩ : S38))) else (none)) else (none)) else (none)) else (none))
end
def impl_SyllablesOf.f (k : Nat) (a0 : ByteArray) : Option ((List (S38))) := (impl_IsForm.f k a0).bind fun t259 => (if t259 = true then ((impl_CountVowels.f k a0).bind fun t260 => (impl_SyllablesOf.j0 k a0 (t260 == 0))) else (impl_SyllablesOf.j0 k a0 true))
def impl_SyllablesOf.T13 : Bool × List (List Nat × List Nat) := (true, [([], []), ([], []), ([], []), ([], []), ([1, 2, 3], [1, 2, 3]), ([], []), ([], []), ([], []), ([7], [7]), ([5, 6, 8], [5, 6, 8]), ([4, 9], [4, 9]), ([10], [10]), ([0, 11], [0, 11]), ([12, 12, 0, 1, 2, 3, 4, 5, 6, 7, 8, 9, 10, 11, 12], [0, 12])])
def impl_SyllablesOf.B13 : List Nat := [0, 0, 0, 0, 14, 0, 0, 0, 128, 480, 1022, 2046, 4095, 8191]
theorem impl_SyllablesOf.tab13 : rtab .any (opsOf Try.f21 13) = impl_SyllablesOf.T13 := by kernel_rfl
theorem impl_SyllablesOf.bits13 : waitsOk impl_SyllablesOf.T13.2 impl_SyllablesOf.B13 = true := by kernel_rfl
theorem impl_SyllablesOf.calls (k : Nat) (a0 : ByteArray) (r : List (S38)) (w : World) (h : impl_SyllablesOf.f k a0 = some r) :
  Calls Try.prog 21 #[.string a0] w fun e w' => ∃ v0_ : Value, e = .returned (v0_) ∧ Kd.R k38 38 w' w.heap.size (fun _ => True) v0_ r ∧ Below w.heap.size w w' := by
 have hu38 := Try.underlying38; have HB := qa (qwa w.heap.size w); have H := h; unfold impl_SyllablesOf.f at H; clear h; have HC2 := qa H; clear H; go_enter Try.func21, Try.ntmps21
 go_upto_region 1 with (fail)
 go_cut [15] (fun v15 wc => ∃ (kq : Nat) (x15_1 : Bool), v15 = .bool x15_1 ∧ Aside0 (impl_SyllablesOf.j0 kq a0 x15_1 = some r) ∧ Aside0 (kq ≤ k) ∧ Aside0 (Below w.heap.size w wc))
 case first =>
  have H := HC2.out; clear HC2; obtain ⟨t259, A30, H⟩ := zb H; (try dsimp only at H); have A3 := qa A30; clear A30
  by_cases c4 : t259 = true
  ·subst c4
   rw [if_pos rfl] at H; have H1 := H; clear H; have H := H1; clear H1; obtain ⟨t260, A50, H⟩ := zb H; (try dsimp only at H); have A5 := qa A50; clear A50; have H' := qa H; clear H
   go_wp2_with (first | ((with_reducible refine qqa (f := 14) rfl ?_); refine goesL_ (some 9) rfl rfl Try.func14 (by kernel_rfl) rfl #[.string a0] rfl (by (try simp only [qs, qv, qw]); first | done | rfl | (simp only [qu, qt]; rfl)) ?_; (with_reducible refine (impl_IsForm.calls k a0 true _ A3.out).mono ?_); rintro e w' ⟨rfl, ⟨nd, rfl⟩⟩; refine ⟨_, rfl, ?_⟩) | (go_at_call 12; (with_reducible refine (impl_CountVowels.calls k a0 t260 _ A5.out).mono ?_); rintro e w6 ⟨rfl, hb⟩; have n0_ := qa (qba (by repeat (first | (with_reducible first | exact HB.out | apply qh | apply qe | apply qg) | exact HB.out)) hb); clear HB; have HB := n0_; clear n0_; (try clear hb); (try clear hb2); (try clear hk); (try clear hi)))
   go_meet
   case rel => exact ⟨_, ((t260 == 0)), (by first | rfl | (simp; done) | (simp [*]; done)), H', ⟨by first | omega | exact qva _⟩, ⟨by repeat (first | (with_reducible first | exact HB.out | apply qh | apply qe | apply qg) | exact HB.out)⟩⟩
  ·replace c4 := Bool.eq_false_iff.mpr c4
   subst c4; rw [if_neg (show ¬ (false = true) by decide)] at H; have H1 := H; clear H; have H := H1; clear H1; have H' := qa H; clear H
   go_wp2_with (first | ((with_reducible refine qqa (f := 14) rfl ?_); refine goesL_ (some 9) rfl rfl Try.func14 (by kernel_rfl) rfl #[.string a0] rfl (by (try simp only [qs, qv, qw]); first | done | rfl | (simp only [qu, qt]; rfl)) ?_; (with_reducible refine (impl_IsForm.calls k a0 false _ A3.out).mono ?_); rintro e w' ⟨rfl, ⟨nd, rfl⟩⟩; refine ⟨_, rfl, ?_⟩))
   go_meet
   case rel => exact ⟨_, (true), (by first | rfl | (simp; done) | (simp [*]; done)), H', ⟨by first | omega | exact qva _⟩, ⟨by repeat (first | (with_reducible first | exact HB.out | apply qh | apply qe | apply qg) | exact HB.out)⟩⟩
 case rest =>
  clear HC2; (try clear c1); (try clear c2); (try clear p2); (try clear c4); obtain ⟨kq, x15_1, rfl, HA, HJ1, HB⟩ := hcut
  cases kq with
  | zero => exact absurd HA.out (by simp [impl_SyllablesOf.j0])
  | succ kj1 =>
   have H := HA.out; clear HA; simp only [impl_SyllablesOf.j0] at H
   by_cases c7 : x15_1 = true
   ·subst c7
    rw [if_pos rfl] at H; have H1 := H; clear H; have H := H1; clear H1; obtain rfl := qca H; go_wp2; go_ret; exact ⟨_, by first | rfl | (simp [*] <;> rfl), by first | exact Kd.R_nil _ _ _ _ _ | exact Kd.N_nil _ _ _ _ _ | exact Kd.V_nil _ _ _ _ _ | exact Kd.Q_nil _ _ _ _ _ | exact Kd.S_nil _ _ _ _ _, by repeat (first | (with_reducible first | exact HB.out | apply qh | apply qe | apply qg) | exact HB.out)⟩
   ·replace c7 := Bool.eq_false_iff.mpr c7
    subst c7; rw [if_neg (show ¬ (false = true) by decide)] at H; have H1 := H; clear H; have H := H1; clear H1
    obtain ⟨y261, hy261⟩ : ∃ y_ : List (S38), y_ = (([] : List (S38))) := ⟨_, rfl⟩
    replace H : (impl_SyllablesOf.l0 kj1 a0 y261 0 (a0.size : Int) 0) = some r := by first | (rw [hy261]; with_reducible exact H) | (have H2_ := (Option.bind_some _ _).symm.trans H; rw [hy261]; with_reducible exact H2_) | (have H2_ := (Option.bind_some _ _).symm.trans H; with_reducible exact H2_) | with_reducible exact H | (rw [hy261]; exact H) | exact H
    have Ny261 := qa hy261; clear hy261; have H' := qa H; clear H
    go_wp2_with (first | ((with_reducible refine gate_dst (N := 16) rfl ?_); refine qza k38 _ 38 ?hg (N := 16) ?hd (xs := ([] : List (S38))) (inner := []) (ok := fun _ => True) (okp := fun _ => True) ?hr ?hp (fun _ hk => hk) trivial (qwa _ _) (qva _) (by simp) ?_; (case hd => rfl); (case hg => rfl); (case hr => first | (go_simp; done) | (go_simp; rfl)); (case hp => exact (Reps.none _ _)); intro v262 w8 ho9 hb hg_ hnew_; clear hg_ hnew_; (first | rw [← Ny261.out] at ho9 | (simp only [Int.reduceToNat] at ho9; rw [← Ny261.out] at ho9)); have n0_ := qa (qxa ho9 (qp (by repeat (first | (with_reducible first | exact HB.out | apply qh | apply qe | apply qg) | exact HB.out)))); have n1_ := qa (qba (by repeat (first | (with_reducible first | exact HB.out | apply qh | apply qe | apply qg) | exact HB.out)) hb); clear HB; have HO263 := n0_; have HB := n1_; clear n0_ n1_; clear hb ho9))
    go_loopg [3, 4, 19] kj1 (fun kq v3 v4 v19 w' => ∃ (x3_2 : List (S38)) (x4_2 : Int) (x19_2 : Int), v4 = .int .i64 x4_2 ∧ v19 = .int .i64 x19_2 ∧ Aside0 (impl_SyllablesOf.l0 kq a0 x3_2 x4_2 (a0.size : Int) x19_2 = some r) ∧ Aside0 (kq ≤ kj1) ∧ Aside0 (Kd.R k38 38 w' w.heap.size (fun _ => True) v3 x3_2) ∧ Aside0 (Below w.heap.size w w'))
    case atStart => exact ⟨(y261), (0), (0), (by first | rfl | (simp; done) | (simp [*]; done)), (by first | rfl | (simp; done) | (simp [*]; done)), H', ⟨qva _⟩, ⟨by (with_reducible repeat first | apply qx | apply qy | apply qz); exact HO263.out⟩, ⟨by repeat (first | (with_reducible first | exact HB.out | apply qh | apply qe | apply qg) | exact HB.out)⟩⟩
    case round =>
     clear H'; (try clear c1); (try clear c2); (try clear p2); (try clear c4); (try clear c7); (try clear p2); obtain ⟨x3_2, x4_2, x19_2, rfl, rfl, HA, HK2, HO_3, HB⟩ := hrel
     cases gk with
     | zero => exact absurd HA.out (by simp [impl_SyllablesOf.l0])
     | succ k2 =>
      have H := HA.out; clear HA; simp only [impl_SyllablesOf.l0] at H
      by_cases c10 : x19_2 < (a0.size : Int)
      ·rw [if_pos c10] at H
       have c10b0 : decide (x19_2 < (a0.size : Int)) = true := qq c10; clear c10
       by_cases c11 : 0 ≤ x19_2
       ·rw [if_pos c11] at H
        have c11b0 : decide (0 ≤ x19_2) = true := qq c11; clear c11
        by_cases c12 : x19_2 < (a0.size : Int)
        ·rw [if_pos c12] at H
         have c12b0 : decide (x19_2 < (a0.size : Int)) = true := qq c12; clear c12; obtain ⟨t265, A140, H⟩ := zb H; (try dsimp only at H); have A14 := qa A140; clear A140
         by_cases c15 : t265 = true
         ·subst c15
          rw [if_pos rfl] at H; have H1 := H; clear H; have H := H1; clear H1
          by_cases c16 : (x3_2.length : Int) > 0
          ·rw [if_pos c16] at H
           have c16b0 : decide (0 < (x3_2.length : Int)) = true := qq c16; have c16b1 : decide (0 < x3_2.length) = true := qq (by omega); clear c16
           by_cases c17 : x4_2 < x19_2
           ·rw [if_pos c17] at H
            have c17b0 : decide (x4_2 < x19_2) = true := qq c17; clear c17
            by_cases c18 : 0 ≤ x4_2
            ·rw [if_pos c18] at H
             have c18b0 := qaa c18; have c18b1 : decide (0 ≤ x4_2) = true := qq c18; clear c18
             by_cases c19 : x4_2 ≤ (wrap64 (x19_2 - 1))
             ·rw [if_pos c19] at H
              have c19b0 := qaa c19; have c19b1 : decide (x4_2 ≤ (wrap64 (x19_2 - 1))) = true := qq c19; clear c19
              by_cases c20 : (wrap64 (x19_2 - 1)) ≤ (a0.size : Int)
              ·rw [if_pos c20] at H
               have c20b0 := qaa c20; have c20b1 : decide ((wrap64 (x19_2 - 1)) ≤ (a0.size : Int)) = true := qq c20; clear c20
               obtain ⟨ji21, hji21⟩ : ∃ j_ : Int, (wrap64 ((x3_2.length : Int) - 1)) = j_ := ⟨_, rfl⟩
               replace H : (if 0 ≤ (ji21) then (if (ji21) < (x3_2.length : Int) then ((some (x3_2.set ((ji21) : Int).toNat (⟨(rd_T38 x3_2 (ji21)).f0, (rd_T38 x3_2 (ji21)).f1, a0.extract (x4_2 : Int).toNat ((wrap64 (x19_2 - 1)) : Int).toNat⟩ : S38) : List (S38))).bind fun y266 => (if 0 ≤ (wrap64 (x19_2 - 1)) then (if (wrap64 (x19_2 - 1)) ≤ x19_2 then (if x19_2 ≤ (a0.size : Int) then (if x19_2 ≤ (wrap64 (x19_2 + 1)) then (if (wrap64 (x19_2 + 1)) ≤ (a0.size : Int) then (if y266.length < 2932031007402 then (impl_SyllablesOf.l0 k2 a0 (y266 ++ [(⟨a0.extract ((wrap64 (x19_2 - 1)) : Int).toNat (x19_2 : Int).toNat, a0.extract (x19_2 : Int).toNat ((wrap64 (x19_2 + 1)) : Int).toNat, (⟨#[]⟩ : ByteArray)⟩ : S38)]) (wrap64 (x19_2 + 1)) (a0.size : Int) (wrap64 (x19_2 + 1))) else (none)) else (none)) else (none)) else (none)) else (none)) else (none))) else (none)) else (none)) = some r := by first | (rw [hji21] at H; exact H) | (simp only [hji21] at H ⊢; exact H)
               (try rw [hji21] at A14); have hji21w : (IntKind.i64.wrap ((x3_2.length : Int) - 1)) = ji21 := (i64_w _).trans hji21
               by_cases c22 : 0 ≤ (ji21)
               ·rw [if_pos c22] at H
                have c22b0 : decide (0 ≤ (ji21)) = true := qq c22; clear c22
                by_cases c23 : (ji21) < (x3_2.length : Int)
                ·rw [if_pos c23] at H
                 have c23b0 : decide ((ji21) < (x3_2.length : Int)) = true := qq c23; clear c23
                 obtain ⟨y266, hy266⟩ : ∃ y_ : List (S38), y_ = (x3_2.set ((ji21) : Int).toNat (⟨(rd_T38 x3_2 (ji21)).f0, (rd_T38 x3_2 (ji21)).f1, a0.extract (x4_2 : Int).toNat ((wrap64 (x19_2 - 1)) : Int).toNat⟩ : S38)) := ⟨_, rfl⟩
                 replace H : (if 0 ≤ (wrap64 (x19_2 - 1)) then (if (wrap64 (x19_2 - 1)) ≤ x19_2 then (if x19_2 ≤ (a0.size : Int) then (if x19_2 ≤ (wrap64 (x19_2 + 1)) then (if (wrap64 (x19_2 + 1)) ≤ (a0.size : Int) then (if y266.length < 2932031007402 then (impl_SyllablesOf.l0 k2 a0 (y266 ++ [(⟨a0.extract ((wrap64 (x19_2 - 1)) : Int).toNat (x19_2 : Int).toNat, a0.extract (x19_2 : Int).toNat ((wrap64 (x19_2 + 1)) : Int).toNat, (⟨#[]⟩ : ByteArray)⟩ : S38)]) (wrap64 (x19_2 + 1)) (a0.size : Int) (wrap64 (x19_2 + 1))) else (none)) else (none)) else (none)) else (none)) else (none)) else (none)) = some r := by first | (rw [hy266]; with_reducible exact H) | (have H2_ := (Option.bind_some _ _).symm.trans H; rw [hy266]; with_reducible exact H2_) | (have H2_ := (Option.bind_some _ _).symm.trans H; with_reducible exact H2_) | with_reducible exact H | (rw [hy266]; exact H) | exact H
                 have Ny266 := qa hy266; clear hy266
                 obtain ⟨ji25, hji25⟩ : ∃ j_ : Int, (wrap64 (x19_2 - 1)) = j_ := ⟨_, rfl⟩
                 replace H : (if 0 ≤ (ji25) then (if (ji25) ≤ x19_2 then (if x19_2 ≤ (a0.size : Int) then (if x19_2 ≤ (wrap64 (x19_2 + 1)) then (if (wrap64 (x19_2 + 1)) ≤ (a0.size : Int) then (if y266.length < 2932031007402 then (impl_SyllablesOf.l0 k2 a0 (y266 ++ [(⟨a0.extract ((ji25) : Int).toNat (x19_2 : Int).toNat, a0.extract (x19_2 : Int).toNat ((wrap64 (x19_2 + 1)) : Int).toNat, (⟨#[]⟩ : ByteArray)⟩ : S38)]) (wrap64 (x19_2 + 1)) (a0.size : Int) (wrap64 (x19_2 + 1))) else (none)) else (none)) else (none)) else (none)) else (none)) else (none)) = some r := by first | (rw [hji25] at H; exact H) | (simp only [hji25] at H ⊢; exact H)
                 (try rw [hji25] at c19b0); (try rw [hji25] at c19b1); (try rw [hji25] at c20b0); (try rw [hji25] at c20b1); (try rw [hji25] at A14); (try rw [hji25] at Ny266); have hji25w : (IntKind.i64.wrap (x19_2 - 1)) = ji25 := (i64_w _).trans hji25
                 by_cases c26 : 0 ≤ (ji25)
                 ·rw [if_pos c26] at H
                  have c26b0 := qaa c26; have c26b1 : decide (0 ≤ (ji25)) = true := qq c26; clear c26
                  by_cases c27 : (ji25) ≤ x19_2
                  ·rw [if_pos c27] at H
                   have c27b0 := qaa c27; have c27b1 : decide ((ji25) ≤ x19_2) = true := qq c27; clear c27
                   by_cases c28 : x19_2 ≤ (a0.size : Int)
                   ·rw [if_pos c28] at H
                    have c28b0 := qaa c28; have c28b1 : decide (x19_2 ≤ (a0.size : Int)) = true := qq c28; clear c28; have c29b0 := qaa (qm (by assumption) : 0 ≤ x19_2)
                    by_cases c30 : x19_2 ≤ (wrap64 (x19_2 + 1))
                    ·rw [if_pos c30] at H
                     have c30b0 := qaa c30; have c30b1 : decide (x19_2 ≤ (wrap64 (x19_2 + 1))) = true := qq c30
                     by_cases c31 : (wrap64 (x19_2 + 1)) ≤ (a0.size : Int)
                     ·rw [if_pos c31] at H
                      have c31b0 := qaa c31; have c31b1 : decide ((wrap64 (x19_2 + 1)) ≤ (a0.size : Int)) = true := qq c31
                      by_cases c32 : y266.length < 2932031007402
                      ·rw [if_pos c32] at H
                       have LMc32 := qa c32; clear c32
                       obtain ⟨y267, hy267⟩ : ∃ y_ : List (S38), y_ = (y266 ++ [(⟨a0.extract ((ji25) : Int).toNat (x19_2 : Int).toNat, a0.extract (x19_2 : Int).toNat ((wrap64 (x19_2 + 1)) : Int).toNat, (⟨#[]⟩ : ByteArray)⟩ : S38)]) := ⟨_, rfl⟩
                       replace H : (impl_SyllablesOf.l0 k2 a0 y267 (wrap64 (x19_2 + 1)) (a0.size : Int) (wrap64 (x19_2 + 1))) = some r := by first | (rw [hy267]; with_reducible exact H) | (have H2_ := (Option.bind_some _ _).symm.trans H; rw [hy267]; with_reducible exact H2_) | (have H2_ := (Option.bind_some _ _).symm.trans H; with_reducible exact H2_) | with_reducible exact H | (rw [hy267]; exact H) | exact H
                       have Ny267 := qa hy267; clear hy267; have H' := qa H; clear H; have p13 : 0 ≤ (x19_2 : Int) := qm (by assumption); have q13 : x19_2 < (a0.size : Int) := qm (by assumption); have hx13 := bt_at a0 x19_2; replace p13 := qaa p13; replace q13 := qaa q13
                       try go_wp2_with (first | ((with_reducible refine qqa (f := 64) rfl ?_); refine goesL_ (some 25) rfl rfl Try.func64 (by kernel_rfl) rfl #[.int .u8 (bt a0 x19_2)] rfl (by (try simp only [qs, qv, qw]); first | done | rfl | (simp only [qu, qt]; rfl)) ?_; (with_reducible refine (impl_isVowel.calls (bt a0 x19_2) true _ A14.out).mono ?_); rintro e w33 ⟨rfl, hb⟩; refine ⟨_, rfl, ?_⟩; have n0_ := qa (qoa (by (with_reducible repeat first | apply qx | apply qy | apply qz); exact HO_3.out) hb); have n1_ := qa (qba (by repeat (first | (with_reducible first | exact HB.out | apply qh | apply qe | apply qg) | exact HB.out)) hb); clear HO_3; clear HB; have HO_3 := n0_; have HB := n1_; clear n0_ n1_; (try clear hb); (try clear hb2); (try clear hk); (try clear hi); obtain ⟨Ao34, co34, eo34⟩ := Kd.R_slice HO_3.out; subst eo34; have p24 : 0 ≤ ((ji21) : Int) := qm (by assumption); have q24 : ((ji21) : Int) < ((x3_2.length : Int) : Int) := qm (by assumption); obtain ⟨go24, co24, eo24, gb24, gl24, cl24, HG24⟩ := Kd.R_form HO_3.out (by omega); (first | cases eo24 | (injection eo24 with ea_ en_ ec_; (first | subst ea_ | (injection ea_ with ea_; subst ea_)); subst ec_; clear en_)); have GB24 := qa gb24; have GG24 := qa HG24; clear gb24 gl24 HG24; obtain ⟨ce24, hcl24, hM24, hcc24, hfr24⟩ := Kd.R_elem HO_3.out z38 ((ji21) : Int) p24 q24; obtain rfl := k38_openM hM24; have hx24_0 : w33.cell? ⟨go24, ((ji21) : Int).toNat * 3, none⟩ = some (.string ((rd_T38 x3_2 (ji21)).f0)) := hcc24 0 _ rfl; have hx24_1 : w33.cell? ⟨go24, ((ji21) : Int).toNat * 3 + 1, none⟩ = some (.string ((rd_T38 x3_2 (ji21)).f1)) := hcc24 1 _ rfl; have hx24_2 : w33.cell? ⟨go24, ((ji21) : Int).toNat * 3 + 2, none⟩ = some (.string ((rd_T38 x3_2 (ji21)).f2)) := hcc24 2 _ rfl; have hf24_0 : w33.frozen? ⟨go24, ((ji21) : Int).toNat * 3, none⟩ = false := hfr24 0; have hf24_1 : w33.frozen? ⟨go24, ((ji21) : Int).toNat * 3 + 1, none⟩ = false := hfr24 1; have hf24_2 : w33.frozen? ⟨go24, ((ji21) : Int).toNat * 3 + 2, none⟩ = false := hfr24 2; clear hcl24 hcc24 hfr24 hM24; replace p24 := qaa p24; replace q24 := qaa q24; have HX35 := qa (show Kd.R k38 38 w33 w.heap.size (fun _ => True) (.slice (some ⟨go24, 0, none⟩) x3_2.length co34) x3_2 from (by (with_reducible repeat first | apply qx | apply qy | apply qz); exact HO_3.out)); obtain ⟨ce35, hcl35, hM35, hcc35, hfr35⟩ := Kd.R_elem HX35.out z38 ((ji21) : Int) (qm (by assumption)) (by have h_ : ((ji21) : Int) < ((x3_2.length : Int) : Int) := qm (by assumption); first | exact h_ | (have e_ := (qra HO_3.out).1; omega) | simpa using h_); obtain rfl := k38_openM hM35; have HP35 := Kd.R_seg HX35.out ((ji21) : Int) (qm (by assumption)) (by have h_ : ((ji21) : Int) < ((x3_2.length : Int) : Int) := qm (by assumption); first | exact h_ | (have e_ := (qra HO_3.out).1; omega) | simpa using h_) (seg := [.string (a0.extract (x4_2 : Int).toNat ((ji25) : Int).toNat)]) (j := 2) hcl35 hcc35 (show 3 ≤ 3 from by decide) (x' := (⟨(rd_T38 x3_2 (ji21)).f0, (rd_T38 x3_2 (ji21)).f1, a0.extract (x4_2 : Int).toNat ((ji25) : Int).toNat⟩ : S38)) (k38_mkM _ _ _ (⟨(rd_T38 x3_2 (ji21)).f0, (rd_T38 x3_2 (ji21)).f1, a0.extract (x4_2 : Int).toNat ((ji25) : Int).toNat⟩ : S38) ) (fun _ hk => hk); have hx35_2 := hcc35 2 _ rfl; (try simp only [show (k38).sz = 3 from rfl, Nat.mul_one, Nat.add_zero] at hx35_2); have hf35_2 := hfr35 2; (try simp only [show (k38).sz = 3 from rfl, Nat.mul_one, Nat.add_zero] at hf35_2); clear hcl35 hcc35 hfr35 hM35) | ((with_reducible refine gate_store (t := 9) (p := 47) rfl ?_); refine store_event (t := 9) (p := 47) (v := ?vo_w36) (w1 := (w33.setCell ⟨go24, ((ji21) : Int).toNat * 3 + 2, none⟩ (.string (a0.extract (x4_2 : Int).toNat ((ji25) : Int).toNat)))) ?hg ?ho ?hn ?hr ?_; (case ho => rfl); (case hg => rfl); (case hn => rfl); (case hr => first | (go_simp; done) | (go_simp; rfl)); intro w36 hw; have hg : w33.grownBy w36 (some go24) := (by rw [hw]; exact HP35.2); have hp_ : Kd.R k38 38 w36 w.heap.size (fun _ => True) (.slice (some ⟨go24, 0, none⟩) x3_2.length co34) y266 := (by rw [hw, Ny266.out]; exact HP35.1); clear HP35; have n0_ := qa (hp_); have n1_ := qa ((by rw [hw]; exact qj (HB.out) GB24.out : Below w.heap.size w w36)); clear HO_3; clear HB; have HO_3 := n0_; have HB := n1_; clear n0_ n1_; clear hg hw hp_))
                       have n0_ := qa (qz HO_3.out); have n1_ := qa (qg HB.out); clear HO_3 HB; have HO_3 := n0_; have HB := n1_; clear n0_ n1_; refine start_ (n := 14) (S := fun w' => True) (ds := []) #[false, false, false, false, false, false, false, false, false, false, false, false, false, false] (by kernel_rfl) rfl rfl trivial (fun hHeld => ?_); refine with_tabW impl_SyllablesOf.tab13 impl_SyllablesOf.bits13 (fun HT_ HW_ => ?_); generalize w36.drew = w37 at HO_3 HB hHeld ⊢; refine pure_ (i := 0) (N := some 48) (v := ?_) (a' := ?_) #[true, false, false, false, false, false, false, false, false, false, false, false, false, false] rfl rfl (qla HT_.out (by kernel_rfl)) (fun _ _ _ h => h) (Or.inl ⟨by rfl, ?_⟩) ?_ ?_; rotate_left
                       ·intro w'
                        go_simp; with_reducible rfl
                       rotate_left
                       ·simp only [Act.put, qb, qc, qd, i64_w, i32_w]
                        rfl
                       refine pure_ (i := 1) (N := some 49) (v := ?_) (a' := ?_) #[true, true, false, false, false, false, false, false, false, false, false, false, false, false] rfl rfl (qla HT_.out (by kernel_rfl)) (fun _ _ _ h => h) (Or.inl ⟨by rfl, ?_⟩) ?_ ?_; rotate_left
                       ·intro w'
                        go_simp; with_reducible rfl
                       rotate_left
                       ·simp only [Act.put, qb, qc, qd, i64_w, i32_w]
                        rfl
                       refine pure_ (i := 2) (N := some 50) (v := ?_) (a' := ?_) #[true, true, true, false, false, false, false, false, false, false, false, false, false, false] rfl rfl (qla HT_.out (by kernel_rfl)) (fun _ _ _ h => h) (Or.inl ⟨by rfl, ?_⟩) ?_ ?_; rotate_left
                       ·intro w'
                        go_simp; with_reducible rfl
                       rotate_left
                       ·simp only [Act.put, qb, qc, qd, i64_w, i32_w]
                        rfl
                       refine pure_ (i := 3) (N := some 51) (v := ?_) (a' := ?_) #[true, true, true, true, false, false, false, false, false, false, false, false, false, false] rfl rfl (qla HT_.out (by kernel_rfl)) (fun _ _ _ h => h) (Or.inl ⟨by rfl, ?_⟩) ?_ ?_; rotate_left
                       ·intro w'
                        go_simp; with_reducible rfl
                       rotate_left
                       ·simp only [Act.put, qb, qc, qd, i64_w, i32_w]
                        rfl
                       refine pure_ (i := 4) (N := some 52) (v := ?_) (a' := ?_) #[true, true, true, true, true, false, false, false, false, false, false, false, false, false] rfl rfl (qla HT_.out (by kernel_rfl)) (fun _ _ _ h => h) (Or.inl ⟨by rfl, ?_⟩) ?_ ?_; rotate_left
                       ·intro w'
                        go_simp; with_reducible rfl
                       rotate_left
                       ·simp only [Act.put, qb, qc, qd, i64_w, i32_w]
                        rfl
                       refine pure_ (i := 5) (N := some 53) (v := ?_) (a' := ?_) #[true, true, true, true, true, true, false, false, false, false, false, false, false, false] rfl rfl (qla HT_.out (by kernel_rfl)) (fun _ _ _ h => h) (Or.inl ⟨by rfl, ?_⟩) ?_ ?_; rotate_left
                       ·intro w'
                        go_simp; with_reducible rfl
                       rotate_left
                       ·simp only [Act.put, qb, qc, qd, i64_w, i32_w]
                        rfl
                       refine pure_ (i := 6) (N := some 54) (v := ?_) (a' := ?_) #[true, true, true, true, true, true, true, false, false, false, false, false, false, false] rfl rfl (qla HT_.out (by kernel_rfl)) (fun _ _ _ h => h) (Or.inl ⟨by rfl, ?_⟩) ?_ ?_; rotate_left
                       ·intro w'
                        go_simp; with_reducible rfl
                       rotate_left
                       ·simp only [Act.put, qb, qc, qd, i64_w, i32_w]
                        rfl
                       refine pure_ (i := 7) (N := some 55) (v := ?_) (a' := ?_) #[true, true, true, true, true, true, true, true, false, false, false, false, false, false] rfl rfl (qla HT_.out (by kernel_rfl)) (fun _ _ _ h => h) (Or.inl ⟨by rfl, ?_⟩) ?_ ?_; rotate_left
                       ·intro w'
                        go_simp; with_reducible rfl
                       rotate_left
                       ·simp only [Act.put, qb, qc, qd, i64_w, i32_w]
                        rfl
                       refine pure_ (i := 8) (N := some 56) (v := ?_) (a' := ?_) #[true, true, true, true, true, true, true, true, true, false, false, false, false, false] rfl rfl (qla HT_.out (by kernel_rfl)) (fun _ _ _ h => h) (Or.inl ⟨by rfl, ?_⟩) ?_ ?_; rotate_left
                       ·intro w'
                        go_simp; with_reducible rfl
                       rotate_left
                       ·simp only [Act.put, qb, qc, qd, i64_w, i32_w]
                        rfl
                       refine pure_ (i := 9) (N := some 57) (v := ?_) (a' := ?_) #[true, true, true, true, true, true, true, true, true, true, false, false, false, false] rfl rfl (qla HT_.out (by kernel_rfl)) (fun _ _ _ h => h) (Or.inl ⟨by rfl, ?_⟩) ?_ ?_; rotate_left
                       ·intro w'
                        go_simp; with_reducible rfl
                       rotate_left
                       ·simp only [Act.put, qb, qc, qd, i64_w, i32_w]
                        rfl
                       refine pure_ (i := 10) (N := some 58) (v := ?_) (a' := ?_) #[true, true, true, true, true, true, true, true, true, true, true, false, false, false] rfl rfl (qla HT_.out (by kernel_rfl)) (fun _ _ _ h => h) (Or.inl ⟨by rfl, ?_⟩) ?_ ?_; rotate_left
                       ·intro w'
                        go_simp; with_reducible rfl
                       rotate_left
                       ·simp only [Act.put, qb, qc, qd, i64_w, i32_w]
                        rfl
                       refine one_ (i := 11) (N := some 59) #[true, true, true, true, true, true, true, true, true, true, true, true, false, false] rfl rfl (qna HT_.out (by kernel_rfl)) (by decide) (fun K hK => ?_); refine value_ (w1 := ?_) (v := ?_) (by rfl) rfl ?_ ?_; rotate_left 2
                       ·go_simp
                        constructor
                        ·rfl
                        ·rfl
                       refine hK.out _ _ trivial (fun hHeld => ?_); clear hK K; refine norm_ (a' := ?_) ?_ ?_; rotate_left
                       ·show Act.put _ (some 59) _ = _
                        simp only [Act.put, qb, qc, qd, i64_w, i32_w]; rfl
                       refine one_ (i := 12) (N := some 60) #[true, true, true, true, true, true, true, true, true, true, true, true, true, false] rfl rfl (qna HT_.out (by kernel_rfl)) (by decide) (fun K hK => ?_); refine Kd.R_append_step k38 (w0 := w) w.heap.size (by rfl) (.tmp 48) (.tmp 59) 34 38 (.agg #[(.string ⟨#[]⟩), (.string ⟨#[]⟩), (.string ⟨#[]⟩)]) 48 rfl Try.underlying34 info38 rfl (by decide) (by omega) (.slice (some ⟨go24, 0, none⟩) x3_2.length co34) y266 (⟨a0.extract ((ji25) : Int).toNat (x19_2 : Int).toNat, a0.extract (x19_2 : Int).toNat ((wrap64 (x19_2 + 1)) : Int).toNat, (⟨#[]⟩ : ByteArray)⟩ : S38) [.string (a0.extract ((ji25) : Int).toNat (x19_2 : Int).toNat), .string (a0.extract (x19_2 : Int).toNat ((wrap64 (x19_2 + 1)) : Int).toNat), .string (⟨#[]⟩ : ByteArray)] (fun _ => True) (fun _ => False) rfl rfl ?aP (fun _ hk => hk.elim) ?aF ?aO ?aB ?aS ?aL ?_
                       (case aP => exact k38_mkM _ _ _ (⟨a0.extract ((ji25) : Int).toNat (x19_2 : Int).toNat, a0.extract (x19_2 : Int).toNat ((wrap64 (x19_2 + 1)) : Int).toNat, (⟨#[]⟩ : ByteArray)⟩ : S38))
                       (case aB => exact (by repeat (first | (with_reducible first | exact HB.out | apply qh | apply qe | apply qg) | exact HB.out)))
                       (case aF => exact (fun _ _ => trivial))
                       (case aO => exact (by (with_reducible repeat first | apply qx | apply qy | apply qz); exact HO_3.out))
                       (case aS => exact (qp (by repeat (first | (with_reducible first | exact HB.out | apply qh | apply qe | apply qg) | exact HB.out))))
                       (case aL => have := LMc32.out; omega)
                       intro v268 w38 ho hb hg hat; rw [← Ny267.out] at ho; have n0_ := qa (hb); have n1_ := qa (ho); clear HB HO_3; have HB := n0_; have HO269 := n1_; clear n0_ n1_ ho hb hg hat; refine hK.out _ _ trivial (fun hHeld => ?_); clear hK K; refine norm_ (a' := ?_) ?_ ?_; rotate_left
                       ·show Act.put _ (some 60) _ = _
                        simp only [Act.put, qb, qc, qd, i64_w, i32_w]; rfl
                       refine pure_ (i := 13) (N := some 3) (v := ?_) (a' := ?_) #[true, true, true, true, true, true, true, true, true, true, true, true, true, true] rfl rfl (qla HT_.out (by kernel_rfl)) (fun _ _ _ h => h) (Or.inl ⟨by rfl, ?_⟩) ?_ ?_; rotate_left
                       ·intro w'
                        go_simp; with_reducible rfl
                       rotate_left
                       ·simp only [Act.put, qb, qc, qd, i64_w, i32_w]
                        rfl
                       refine done_ (done_of HT_.out (by kernel_rfl)) ?_
                       try go_wp2
                       go_roundg k2
                       case measure => have := HJ1.out; have := HK2.out; omega
                       case rel => exact ⟨(y267), (wrap64 (x19_2 + 1)), (wrap64 (x19_2 + 1)), (by first | rfl | (simp; done) | (simp [*]; done)), (by first | rfl | (simp; done) | (simp [*]; done)), H', ⟨by have := HJ1.out; have := HK2.out; omega⟩, ⟨by (with_reducible repeat first | apply qx | apply qy | apply qz); exact HO269.out⟩, ⟨by repeat (first | (with_reducible first | exact HB.out | apply qh | apply qe | apply qg) | exact HB.out)⟩⟩
                      ·rw [if_neg c32] at H
                       exact absurd H (by simp)
                     ·rw [if_neg c31] at H
                      exact absurd H (by simp)
                    ·rw [if_neg c30] at H
                     exact absurd H (by simp)
                   ·rw [if_neg c28] at H
                    exact absurd H (by simp)
                  ·rw [if_neg c27] at H
                   exact absurd H (by simp)
                 ·rw [if_neg c26] at H
                  exact absurd H (by simp)
                ·rw [if_neg c23] at H
                 exact absurd H (by simp)
               ·rw [if_neg c22] at H
                exact absurd H (by simp)
              ·rw [if_neg c20] at H
               exact absurd H (by simp)
             ·rw [if_neg c19] at H
              exact absurd H (by simp)
            ·rw [if_neg c18] at H
             exact absurd H (by simp)
           ·rw [if_neg c17] at H
            have c17b0 : decide (x4_2 < x19_2) = false := qr c17; clear c17
            by_cases c39 : 0 ≤ x4_2
            ·rw [if_pos c39] at H
             have c39b0 := qaa c39; have c39b1 : decide (0 ≤ x4_2) = true := qq c39; clear c39
             by_cases c40 : x4_2 ≤ x19_2
             ·rw [if_pos c40] at H
              have c40b0 := qaa c40; have c40b1 : decide (x4_2 ≤ x19_2) = true := qq c40; clear c40
              by_cases c41 : x19_2 ≤ (a0.size : Int)
              ·rw [if_pos c41] at H
               have c41b0 := qaa c41; have c41b1 : decide (x19_2 ≤ (a0.size : Int)) = true := qq c41; clear c41; have c42b0 := qaa (qm (by assumption) : 0 ≤ x19_2)
               by_cases c43 : x19_2 ≤ (wrap64 (x19_2 + 1))
               ·rw [if_pos c43] at H
                have c43b0 := qaa c43; have c43b1 : decide (x19_2 ≤ (wrap64 (x19_2 + 1))) = true := qq c43
                by_cases c44 : (wrap64 (x19_2 + 1)) ≤ (a0.size : Int)
                ·rw [if_pos c44] at H
                 have c44b0 := qaa c44; have c44b1 : decide ((wrap64 (x19_2 + 1)) ≤ (a0.size : Int)) = true := qq c44
                 by_cases c45 : x3_2.length < 2932031007402
                 ·rw [if_pos c45] at H
                  have LMc45 := qa c45; clear c45
                  obtain ⟨y270, hy270⟩ : ∃ y_ : List (S38), y_ = (x3_2 ++ [(⟨a0.extract (x4_2 : Int).toNat (x19_2 : Int).toNat, a0.extract (x19_2 : Int).toNat ((wrap64 (x19_2 + 1)) : Int).toNat, (⟨#[]⟩ : ByteArray)⟩ : S38)]) := ⟨_, rfl⟩
                  replace H : (impl_SyllablesOf.l0 k2 a0 y270 (wrap64 (x19_2 + 1)) (a0.size : Int) (wrap64 (x19_2 + 1))) = some r := by first | (rw [hy270]; with_reducible exact H) | (have H2_ := (Option.bind_some _ _).symm.trans H; rw [hy270]; with_reducible exact H2_) | (have H2_ := (Option.bind_some _ _).symm.trans H; with_reducible exact H2_) | with_reducible exact H | (rw [hy270]; exact H) | exact H
                  have Ny270 := qa hy270; clear hy270; have H' := qa H; clear H; have p13 : 0 ≤ (x19_2 : Int) := qm (by assumption); have q13 : x19_2 < (a0.size : Int) := qm (by assumption); have hx13 := bt_at a0 x19_2; replace p13 := qaa p13; replace q13 := qaa q13
                  try go_wp2_with (first | ((with_reducible refine qqa (f := 64) rfl ?_); refine goesL_ (some 25) rfl rfl Try.func64 (by kernel_rfl) rfl #[.int .u8 (bt a0 x19_2)] rfl (by (try simp only [qs, qv, qw]); first | done | rfl | (simp only [qu, qt]; rfl)) ?_; (with_reducible refine (impl_isVowel.calls (bt a0 x19_2) true _ A14.out).mono ?_); rintro e w46 ⟨rfl, hb⟩; refine ⟨_, rfl, ?_⟩; have n0_ := qa (qoa (by (with_reducible repeat first | apply qx | apply qy | apply qz); exact HO_3.out) hb); have n1_ := qa (qba (by repeat (first | (with_reducible first | exact HB.out | apply qh | apply qe | apply qg) | exact HB.out)) hb); clear HO_3; clear HB; have HO_3 := n0_; have HB := n1_; clear n0_ n1_; (try clear hb); (try clear hb2); (try clear hk); (try clear hi); obtain ⟨Ao47, co47, eo47⟩ := Kd.R_slice HO_3.out; subst eo47))
                  have n0_ := qa (qz HO_3.out); have n1_ := qa (qg HB.out); clear HO_3 HB; have HO_3 := n0_; have HB := n1_; clear n0_ n1_; refine start_ (n := 14) (S := fun w' => True) (ds := []) #[false, false, false, false, false, false, false, false, false, false, false, false, false, false] (by kernel_rfl) rfl rfl trivial (fun hHeld => ?_); refine with_tabW impl_SyllablesOf.tab13 impl_SyllablesOf.bits13 (fun HT_ HW_ => ?_); generalize w46.drew = w48 at HO_3 HB hHeld ⊢; refine pure_ (i := 0) (N := some 48) (v := ?_) (a' := ?_) #[true, false, false, false, false, false, false, false, false, false, false, false, false, false] rfl rfl (qla HT_.out (by kernel_rfl)) (fun _ _ _ h => h) (Or.inl ⟨by rfl, ?_⟩) ?_ ?_; rotate_left
                  ·intro w'
                   go_simp; with_reducible rfl
                  rotate_left
                  ·simp only [Act.put, qb, qc, qd, i64_w, i32_w]
                   rfl
                  refine pure_ (i := 1) (N := some 49) (v := ?_) (a' := ?_) #[true, true, false, false, false, false, false, false, false, false, false, false, false, false] rfl rfl (qla HT_.out (by kernel_rfl)) (fun _ _ _ h => h) (Or.inl ⟨by rfl, ?_⟩) ?_ ?_; rotate_left
                  ·intro w'
                   go_simp; with_reducible rfl
                  rotate_left
                  ·simp only [Act.put, qb, qc, qd, i64_w, i32_w]
                   rfl
                  refine pure_ (i := 2) (N := some 50) (v := ?_) (a' := ?_) #[true, true, true, false, false, false, false, false, false, false, false, false, false, false] rfl rfl (qla HT_.out (by kernel_rfl)) (fun _ _ _ h => h) (Or.inl ⟨by rfl, ?_⟩) ?_ ?_; rotate_left
                  ·intro w'
                   go_simp; with_reducible rfl
                  rotate_left
                  ·simp only [Act.put, qb, qc, qd, i64_w, i32_w]
                   rfl
                  refine pure_ (i := 3) (N := some 51) (v := ?_) (a' := ?_) #[true, true, true, true, false, false, false, false, false, false, false, false, false, false] rfl rfl (qla HT_.out (by kernel_rfl)) (fun _ _ _ h => h) (Or.inl ⟨by rfl, ?_⟩) ?_ ?_; rotate_left
                  ·intro w'
                   go_simp; with_reducible rfl
                  rotate_left
                  ·simp only [Act.put, qb, qc, qd, i64_w, i32_w]
                   rfl
                  refine pure_ (i := 4) (N := some 52) (v := ?_) (a' := ?_) #[true, true, true, true, true, false, false, false, false, false, false, false, false, false] rfl rfl (qla HT_.out (by kernel_rfl)) (fun _ _ _ h => h) (Or.inl ⟨by rfl, ?_⟩) ?_ ?_; rotate_left
                  ·intro w'
                   go_simp; with_reducible rfl
                  rotate_left
                  ·simp only [Act.put, qb, qc, qd, i64_w, i32_w]
                   rfl
                  refine pure_ (i := 5) (N := some 53) (v := ?_) (a' := ?_) #[true, true, true, true, true, true, false, false, false, false, false, false, false, false] rfl rfl (qla HT_.out (by kernel_rfl)) (fun _ _ _ h => h) (Or.inl ⟨by rfl, ?_⟩) ?_ ?_; rotate_left
                  ·intro w'
                   go_simp; with_reducible rfl
                  rotate_left
                  ·simp only [Act.put, qb, qc, qd, i64_w, i32_w]
                   rfl
                  refine pure_ (i := 6) (N := some 54) (v := ?_) (a' := ?_) #[true, true, true, true, true, true, true, false, false, false, false, false, false, false] rfl rfl (qla HT_.out (by kernel_rfl)) (fun _ _ _ h => h) (Or.inl ⟨by rfl, ?_⟩) ?_ ?_; rotate_left
                  ·intro w'
                   go_simp; with_reducible rfl
                  rotate_left
                  ·simp only [Act.put, qb, qc, qd, i64_w, i32_w]
                   rfl
                  refine pure_ (i := 7) (N := some 55) (v := ?_) (a' := ?_) #[true, true, true, true, true, true, true, true, false, false, false, false, false, false] rfl rfl (qla HT_.out (by kernel_rfl)) (fun _ _ _ h => h) (Or.inl ⟨by rfl, ?_⟩) ?_ ?_; rotate_left
                  ·intro w'
                   go_simp; with_reducible rfl
                  rotate_left
                  ·simp only [Act.put, qb, qc, qd, i64_w, i32_w]
                   rfl
                  refine pure_ (i := 8) (N := some 56) (v := ?_) (a' := ?_) #[true, true, true, true, true, true, true, true, true, false, false, false, false, false] rfl rfl (qla HT_.out (by kernel_rfl)) (fun _ _ _ h => h) (Or.inl ⟨by rfl, ?_⟩) ?_ ?_; rotate_left
                  ·intro w'
                   go_simp; with_reducible rfl
                  rotate_left
                  ·simp only [Act.put, qb, qc, qd, i64_w, i32_w]
                   rfl
                  refine pure_ (i := 9) (N := some 57) (v := ?_) (a' := ?_) #[true, true, true, true, true, true, true, true, true, true, false, false, false, false] rfl rfl (qla HT_.out (by kernel_rfl)) (fun _ _ _ h => h) (Or.inl ⟨by rfl, ?_⟩) ?_ ?_; rotate_left
                  ·intro w'
                   go_simp; with_reducible rfl
                  rotate_left
                  ·simp only [Act.put, qb, qc, qd, i64_w, i32_w]
                   rfl
                  refine pure_ (i := 10) (N := some 58) (v := ?_) (a' := ?_) #[true, true, true, true, true, true, true, true, true, true, true, false, false, false] rfl rfl (qla HT_.out (by kernel_rfl)) (fun _ _ _ h => h) (Or.inl ⟨by rfl, ?_⟩) ?_ ?_; rotate_left
                  ·intro w'
                   go_simp; with_reducible rfl
                  rotate_left
                  ·simp only [Act.put, qb, qc, qd, i64_w, i32_w]
                   rfl
                  refine one_ (i := 11) (N := some 59) #[true, true, true, true, true, true, true, true, true, true, true, true, false, false] rfl rfl (qna HT_.out (by kernel_rfl)) (by decide) (fun K hK => ?_); refine value_ (w1 := ?_) (v := ?_) (by rfl) rfl ?_ ?_; rotate_left 2
                  ·go_simp
                   constructor
                   ·rfl
                   ·rfl
                  refine hK.out _ _ trivial (fun hHeld => ?_); clear hK K; refine norm_ (a' := ?_) ?_ ?_; rotate_left
                  ·show Act.put _ (some 59) _ = _
                   simp only [Act.put, qb, qc, qd, i64_w, i32_w]; rfl
                  refine one_ (i := 12) (N := some 60) #[true, true, true, true, true, true, true, true, true, true, true, true, true, false] rfl rfl (qna HT_.out (by kernel_rfl)) (by decide) (fun K hK => ?_); refine Kd.R_append_step k38 (w0 := w) w.heap.size (by rfl) (.tmp 48) (.tmp 59) 34 38 (.agg #[(.string ⟨#[]⟩), (.string ⟨#[]⟩), (.string ⟨#[]⟩)]) 48 rfl Try.underlying34 info38 rfl (by decide) (by omega) (.slice Ao47 x3_2.length co47) x3_2 (⟨a0.extract (x4_2 : Int).toNat (x19_2 : Int).toNat, a0.extract (x19_2 : Int).toNat ((wrap64 (x19_2 + 1)) : Int).toNat, (⟨#[]⟩ : ByteArray)⟩ : S38) [.string (a0.extract (x4_2 : Int).toNat (x19_2 : Int).toNat), .string (a0.extract (x19_2 : Int).toNat ((wrap64 (x19_2 + 1)) : Int).toNat), .string (⟨#[]⟩ : ByteArray)] (fun _ => True) (fun _ => False) rfl rfl ?aP (fun _ hk => hk.elim) ?aF ?aO ?aB ?aS ?aL ?_
                  (case aP => exact k38_mkM _ _ _ (⟨a0.extract (x4_2 : Int).toNat (x19_2 : Int).toNat, a0.extract (x19_2 : Int).toNat ((wrap64 (x19_2 + 1)) : Int).toNat, (⟨#[]⟩ : ByteArray)⟩ : S38))
                  (case aB => exact (by repeat (first | (with_reducible first | exact HB.out | apply qh | apply qe | apply qg) | exact HB.out)))
                  (case aF => exact (fun _ _ => trivial))
                  (case aO => exact (by (with_reducible repeat first | apply qx | apply qy | apply qz); exact HO_3.out))
                  (case aS => exact (qp (by repeat (first | (with_reducible first | exact HB.out | apply qh | apply qe | apply qg) | exact HB.out))))
                  (case aL => have := LMc45.out; omega)
                  intro v271 w49 ho hb hg hat; rw [← Ny270.out] at ho; have n0_ := qa (hb); have n1_ := qa (ho); clear HB HO_3; have HB := n0_; have HO272 := n1_; clear n0_ n1_ ho hb hg hat; refine hK.out _ _ trivial (fun hHeld => ?_); clear hK K; refine norm_ (a' := ?_) ?_ ?_; rotate_left
                  ·show Act.put _ (some 60) _ = _
                   simp only [Act.put, qb, qc, qd, i64_w, i32_w]; rfl
                  refine pure_ (i := 13) (N := some 3) (v := ?_) (a' := ?_) #[true, true, true, true, true, true, true, true, true, true, true, true, true, true] rfl rfl (qla HT_.out (by kernel_rfl)) (fun _ _ _ h => h) (Or.inl ⟨by rfl, ?_⟩) ?_ ?_; rotate_left
                  ·intro w'
                   go_simp; with_reducible rfl
                  rotate_left
                  ·simp only [Act.put, qb, qc, qd, i64_w, i32_w]
                   rfl
                  refine done_ (done_of HT_.out (by kernel_rfl)) ?_
                  try go_wp2
                  go_roundg k2
                  case measure => have := HJ1.out; have := HK2.out; omega
                  case rel => exact ⟨(y270), (wrap64 (x19_2 + 1)), (wrap64 (x19_2 + 1)), (by first | rfl | (simp; done) | (simp [*]; done)), (by first | rfl | (simp; done) | (simp [*]; done)), H', ⟨by have := HJ1.out; have := HK2.out; omega⟩, ⟨by (with_reducible repeat first | apply qx | apply qy | apply qz); exact HO272.out⟩, ⟨by repeat (first | (with_reducible first | exact HB.out | apply qh | apply qe | apply qg) | exact HB.out)⟩⟩
                 ·rw [if_neg c45] at H
                  exact absurd H (by simp)
                ·rw [if_neg c44] at H
                 exact absurd H (by simp)
               ·rw [if_neg c43] at H
                exact absurd H (by simp)
              ·rw [if_neg c41] at H
               exact absurd H (by simp)
             ·rw [if_neg c40] at H
              exact absurd H (by simp)
            ·rw [if_neg c39] at H
             exact absurd H (by simp)
          ·rw [if_neg c16] at H
           have c16b0 : decide (0 < (x3_2.length : Int)) = false := qr c16; have c16b1 : decide (0 < x3_2.length) = false := qr (by omega); clear c16
           by_cases c50 : 0 ≤ x4_2
           ·rw [if_pos c50] at H
            have c50b0 := qaa c50; have c50b1 : decide (0 ≤ x4_2) = true := qq c50; clear c50
            by_cases c51 : x4_2 ≤ x19_2
            ·rw [if_pos c51] at H
             have c51b0 := qaa c51; have c51b1 : decide (x4_2 ≤ x19_2) = true := qq c51; clear c51
             by_cases c52 : x19_2 ≤ (a0.size : Int)
             ·rw [if_pos c52] at H
              have c52b0 := qaa c52; have c52b1 : decide (x19_2 ≤ (a0.size : Int)) = true := qq c52; clear c52; have c53b0 := qaa (qm (by assumption) : 0 ≤ x19_2)
              by_cases c54 : x19_2 ≤ (wrap64 (x19_2 + 1))
              ·rw [if_pos c54] at H
               have c54b0 := qaa c54; have c54b1 : decide (x19_2 ≤ (wrap64 (x19_2 + 1))) = true := qq c54
               by_cases c55 : (wrap64 (x19_2 + 1)) ≤ (a0.size : Int)
               ·rw [if_pos c55] at H
                have c55b0 := qaa c55; have c55b1 : decide ((wrap64 (x19_2 + 1)) ≤ (a0.size : Int)) = true := qq c55
                by_cases c56 : x3_2.length < 2932031007402
                ·rw [if_pos c56] at H
                 have LMc56 := qa c56; clear c56
                 obtain ⟨y273, hy273⟩ : ∃ y_ : List (S38), y_ = (x3_2 ++ [(⟨a0.extract (x4_2 : Int).toNat (x19_2 : Int).toNat, a0.extract (x19_2 : Int).toNat ((wrap64 (x19_2 + 1)) : Int).toNat, (⟨#[]⟩ : ByteArray)⟩ : S38)]) := ⟨_, rfl⟩
                 replace H : (impl_SyllablesOf.l0 k2 a0 y273 (wrap64 (x19_2 + 1)) (a0.size : Int) (wrap64 (x19_2 + 1))) = some r := by first | (rw [hy273]; with_reducible exact H) | (have H2_ := (Option.bind_some _ _).symm.trans H; rw [hy273]; with_reducible exact H2_) | (have H2_ := (Option.bind_some _ _).symm.trans H; with_reducible exact H2_) | with_reducible exact H | (rw [hy273]; exact H) | exact H
                 have Ny273 := qa hy273; clear hy273; have H' := qa H; clear H; have p13 : 0 ≤ (x19_2 : Int) := qm (by assumption); have q13 : x19_2 < (a0.size : Int) := qm (by assumption); have hx13 := bt_at a0 x19_2; replace p13 := qaa p13; replace q13 := qaa q13
                 try go_wp2_with (first | ((with_reducible refine qqa (f := 64) rfl ?_); refine goesL_ (some 25) rfl rfl Try.func64 (by kernel_rfl) rfl #[.int .u8 (bt a0 x19_2)] rfl (by (try simp only [qs, qv, qw]); first | done | rfl | (simp only [qu, qt]; rfl)) ?_; (with_reducible refine (impl_isVowel.calls (bt a0 x19_2) true _ A14.out).mono ?_); rintro e w57 ⟨rfl, hb⟩; refine ⟨_, rfl, ?_⟩; have n0_ := qa (qoa (by (with_reducible repeat first | apply qx | apply qy | apply qz); exact HO_3.out) hb); have n1_ := qa (qba (by repeat (first | (with_reducible first | exact HB.out | apply qh | apply qe | apply qg) | exact HB.out)) hb); clear HO_3; clear HB; have HO_3 := n0_; have HB := n1_; clear n0_ n1_; (try clear hb); (try clear hb2); (try clear hk); (try clear hi); obtain ⟨Ao58, co58, eo58⟩ := Kd.R_slice HO_3.out; subst eo58))
                 have n0_ := qa (qz HO_3.out); have n1_ := qa (qg HB.out); clear HO_3 HB; have HO_3 := n0_; have HB := n1_; clear n0_ n1_; refine start_ (n := 14) (S := fun w' => True) (ds := []) #[false, false, false, false, false, false, false, false, false, false, false, false, false, false] (by kernel_rfl) rfl rfl trivial (fun hHeld => ?_); refine with_tabW impl_SyllablesOf.tab13 impl_SyllablesOf.bits13 (fun HT_ HW_ => ?_); generalize w57.drew = w59 at HO_3 HB hHeld ⊢; refine pure_ (i := 0) (N := some 48) (v := ?_) (a' := ?_) #[true, false, false, false, false, false, false, false, false, false, false, false, false, false] rfl rfl (qla HT_.out (by kernel_rfl)) (fun _ _ _ h => h) (Or.inl ⟨by rfl, ?_⟩) ?_ ?_; rotate_left
                 ·intro w'
                  go_simp; with_reducible rfl
                 rotate_left
                 ·simp only [Act.put, qb, qc, qd, i64_w, i32_w]
                  rfl
                 refine pure_ (i := 1) (N := some 49) (v := ?_) (a' := ?_) #[true, true, false, false, false, false, false, false, false, false, false, false, false, false] rfl rfl (qla HT_.out (by kernel_rfl)) (fun _ _ _ h => h) (Or.inl ⟨by rfl, ?_⟩) ?_ ?_; rotate_left
                 ·intro w'
                  go_simp; with_reducible rfl
                 rotate_left
                 ·simp only [Act.put, qb, qc, qd, i64_w, i32_w]
                  rfl
                 refine pure_ (i := 2) (N := some 50) (v := ?_) (a' := ?_) #[true, true, true, false, false, false, false, false, false, false, false, false, false, false] rfl rfl (qla HT_.out (by kernel_rfl)) (fun _ _ _ h => h) (Or.inl ⟨by rfl, ?_⟩) ?_ ?_; rotate_left
                 ·intro w'
                  go_simp; with_reducible rfl
                 rotate_left
                 ·simp only [Act.put, qb, qc, qd, i64_w, i32_w]
                  rfl
                 refine pure_ (i := 3) (N := some 51) (v := ?_) (a' := ?_) #[true, true, true, true, false, false, false, false, false, false, false, false, false, false] rfl rfl (qla HT_.out (by kernel_rfl)) (fun _ _ _ h => h) (Or.inl ⟨by rfl, ?_⟩) ?_ ?_; rotate_left
                 ·intro w'
                  go_simp; with_reducible rfl
                 rotate_left
                 ·simp only [Act.put, qb, qc, qd, i64_w, i32_w]
                  rfl
                 refine pure_ (i := 4) (N := some 52) (v := ?_) (a' := ?_) #[true, true, true, true, true, false, false, false, false, false, false, false, false, false] rfl rfl (qla HT_.out (by kernel_rfl)) (fun _ _ _ h => h) (Or.inl ⟨by rfl, ?_⟩) ?_ ?_; rotate_left
                 ·intro w'
                  go_simp; with_reducible rfl
                 rotate_left
                 ·simp only [Act.put, qb, qc, qd, i64_w, i32_w]
                  rfl
                 refine pure_ (i := 5) (N := some 53) (v := ?_) (a' := ?_) #[true, true, true, true, true, true, false, false, false, false, false, false, false, false] rfl rfl (qla HT_.out (by kernel_rfl)) (fun _ _ _ h => h) (Or.inl ⟨by rfl, ?_⟩) ?_ ?_; rotate_left
                 ·intro w'
                  go_simp; with_reducible rfl
                 rotate_left
                 ·simp only [Act.put, qb, qc, qd, i64_w, i32_w]
                  rfl
                 refine pure_ (i := 6) (N := some 54) (v := ?_) (a' := ?_) #[true, true, true, true, true, true, true, false, false, false, false, false, false, false] rfl rfl (qla HT_.out (by kernel_rfl)) (fun _ _ _ h => h) (Or.inl ⟨by rfl, ?_⟩) ?_ ?_; rotate_left
                 ·intro w'
                  go_simp; with_reducible rfl
                 rotate_left
                 ·simp only [Act.put, qb, qc, qd, i64_w, i32_w]
                  rfl
                 refine pure_ (i := 7) (N := some 55) (v := ?_) (a' := ?_) #[true, true, true, true, true, true, true, true, false, false, false, false, false, false] rfl rfl (qla HT_.out (by kernel_rfl)) (fun _ _ _ h => h) (Or.inl ⟨by rfl, ?_⟩) ?_ ?_; rotate_left
                 ·intro w'
                  go_simp; with_reducible rfl
                 rotate_left
                 ·simp only [Act.put, qb, qc, qd, i64_w, i32_w]
                  rfl
                 refine pure_ (i := 8) (N := some 56) (v := ?_) (a' := ?_) #[true, true, true, true, true, true, true, true, true, false, false, false, false, false] rfl rfl (qla HT_.out (by kernel_rfl)) (fun _ _ _ h => h) (Or.inl ⟨by rfl, ?_⟩) ?_ ?_; rotate_left
                 ·intro w'
                  go_simp; with_reducible rfl
                 rotate_left
                 ·simp only [Act.put, qb, qc, qd, i64_w, i32_w]
                  rfl
                 refine pure_ (i := 9) (N := some 57) (v := ?_) (a' := ?_) #[true, true, true, true, true, true, true, true, true, true, false, false, false, false] rfl rfl (qla HT_.out (by kernel_rfl)) (fun _ _ _ h => h) (Or.inl ⟨by rfl, ?_⟩) ?_ ?_; rotate_left
                 ·intro w'
                  go_simp; with_reducible rfl
                 rotate_left
                 ·simp only [Act.put, qb, qc, qd, i64_w, i32_w]
                  rfl
                 refine pure_ (i := 10) (N := some 58) (v := ?_) (a' := ?_) #[true, true, true, true, true, true, true, true, true, true, true, false, false, false] rfl rfl (qla HT_.out (by kernel_rfl)) (fun _ _ _ h => h) (Or.inl ⟨by rfl, ?_⟩) ?_ ?_; rotate_left
                 ·intro w'
                  go_simp; with_reducible rfl
                 rotate_left
                 ·simp only [Act.put, qb, qc, qd, i64_w, i32_w]
                  rfl
                 refine one_ (i := 11) (N := some 59) #[true, true, true, true, true, true, true, true, true, true, true, true, false, false] rfl rfl (qna HT_.out (by kernel_rfl)) (by decide) (fun K hK => ?_); refine value_ (w1 := ?_) (v := ?_) (by rfl) rfl ?_ ?_; rotate_left 2
                 ·go_simp
                  constructor
                  ·rfl
                  ·rfl
                 refine hK.out _ _ trivial (fun hHeld => ?_); clear hK K; refine norm_ (a' := ?_) ?_ ?_; rotate_left
                 ·show Act.put _ (some 59) _ = _
                  simp only [Act.put, qb, qc, qd, i64_w, i32_w]; rfl
                 refine one_ (i := 12) (N := some 60) #[true, true, true, true, true, true, true, true, true, true, true, true, true, false] rfl rfl (qna HT_.out (by kernel_rfl)) (by decide) (fun K hK => ?_); refine Kd.R_append_step k38 (w0 := w) w.heap.size (by rfl) (.tmp 48) (.tmp 59) 34 38 (.agg #[(.string ⟨#[]⟩), (.string ⟨#[]⟩), (.string ⟨#[]⟩)]) 48 rfl Try.underlying34 info38 rfl (by decide) (by omega) (.slice Ao58 x3_2.length co58) x3_2 (⟨a0.extract (x4_2 : Int).toNat (x19_2 : Int).toNat, a0.extract (x19_2 : Int).toNat ((wrap64 (x19_2 + 1)) : Int).toNat, (⟨#[]⟩ : ByteArray)⟩ : S38) [.string (a0.extract (x4_2 : Int).toNat (x19_2 : Int).toNat), .string (a0.extract (x19_2 : Int).toNat ((wrap64 (x19_2 + 1)) : Int).toNat), .string (⟨#[]⟩ : ByteArray)] (fun _ => True) (fun _ => False) rfl rfl ?aP (fun _ hk => hk.elim) ?aF ?aO ?aB ?aS ?aL ?_
                 (case aP => exact k38_mkM _ _ _ (⟨a0.extract (x4_2 : Int).toNat (x19_2 : Int).toNat, a0.extract (x19_2 : Int).toNat ((wrap64 (x19_2 + 1)) : Int).toNat, (⟨#[]⟩ : ByteArray)⟩ : S38))
                 (case aB => exact (by repeat (first | (with_reducible first | exact HB.out | apply qh | apply qe | apply qg) | exact HB.out)))
                 (case aF => exact (fun _ _ => trivial))
                 (case aO => exact (by (with_reducible repeat first | apply qx | apply qy | apply qz); exact HO_3.out))
                 (case aS => exact (qp (by repeat (first | (with_reducible first | exact HB.out | apply qh | apply qe | apply qg) | exact HB.out))))
                 (case aL => have := LMc56.out; omega)
                 intro v274 w60 ho hb hg hat; rw [← Ny273.out] at ho; have n0_ := qa (hb); have n1_ := qa (ho); clear HB HO_3; have HB := n0_; have HO275 := n1_; clear n0_ n1_ ho hb hg hat; refine hK.out _ _ trivial (fun hHeld => ?_); clear hK K; refine norm_ (a' := ?_) ?_ ?_; rotate_left
                 ·show Act.put _ (some 60) _ = _
                  simp only [Act.put, qb, qc, qd, i64_w, i32_w]; rfl
                 refine pure_ (i := 13) (N := some 3) (v := ?_) (a' := ?_) #[true, true, true, true, true, true, true, true, true, true, true, true, true, true] rfl rfl (qla HT_.out (by kernel_rfl)) (fun _ _ _ h => h) (Or.inl ⟨by rfl, ?_⟩) ?_ ?_; rotate_left
                 ·intro w'
                  go_simp; with_reducible rfl
                 rotate_left
                 ·simp only [Act.put, qb, qc, qd, i64_w, i32_w]
                  rfl
                 refine done_ (done_of HT_.out (by kernel_rfl)) ?_
                 try go_wp2
                 go_roundg k2
                 case measure => have := HJ1.out; have := HK2.out; omega
                 case rel => exact ⟨(y273), (wrap64 (x19_2 + 1)), (wrap64 (x19_2 + 1)), (by first | rfl | (simp; done) | (simp [*]; done)), (by first | rfl | (simp; done) | (simp [*]; done)), H', ⟨by have := HJ1.out; have := HK2.out; omega⟩, ⟨by (with_reducible repeat first | apply qx | apply qy | apply qz); exact HO275.out⟩, ⟨by repeat (first | (with_reducible first | exact HB.out | apply qh | apply qe | apply qg) | exact HB.out)⟩⟩
                ·rw [if_neg c56] at H
                 exact absurd H (by simp)
               ·rw [if_neg c55] at H
                exact absurd H (by simp)
              ·rw [if_neg c54] at H
               exact absurd H (by simp)
             ·rw [if_neg c52] at H
              exact absurd H (by simp)
            ·rw [if_neg c51] at H
             exact absurd H (by simp)
           ·rw [if_neg c50] at H
            exact absurd H (by simp)
         ·replace c15 := Bool.eq_false_iff.mpr c15
          subst c15; rw [if_neg (show ¬ (false = true) by decide)] at H; have H1 := H; clear H; have H := H1; clear H1; have H' := qa H; clear H; have p13 : 0 ≤ (x19_2 : Int) := qm (by assumption); have q13 : x19_2 < (a0.size : Int) := qm (by assumption); have hx13 := bt_at a0 x19_2; replace p13 := qaa p13; replace q13 := qaa q13
          go_wp2_with (first | ((with_reducible refine qqa (f := 64) rfl ?_); refine goesL_ (some 25) rfl rfl Try.func64 (by kernel_rfl) rfl #[.int .u8 (bt a0 x19_2)] rfl (by (try simp only [qs, qv, qw]); first | done | rfl | (simp only [qu, qt]; rfl)) ?_; (with_reducible refine (impl_isVowel.calls (bt a0 x19_2) false _ A14.out).mono ?_); rintro e w61 ⟨rfl, hb⟩; refine ⟨_, rfl, ?_⟩; have n0_ := qa (qoa (by (with_reducible repeat first | apply qx | apply qy | apply qz); exact HO_3.out) hb); have n1_ := qa (qba (by repeat (first | (with_reducible first | exact HB.out | apply qh | apply qe | apply qg) | exact HB.out)) hb); clear HO_3; clear HB; have HO_3 := n0_; have HB := n1_; clear n0_ n1_; (try clear hb); (try clear hb2); (try clear hk); (try clear hi)))
          go_roundg k2
          case measure => have := HJ1.out; have := HK2.out; omega
          case rel => exact ⟨(x3_2), (x4_2), (wrap64 (x19_2 + 1)), (by first | rfl | (simp; done) | (simp [*]; done)), (by first | rfl | (simp; done) | (simp [*]; done)), H', ⟨by have := HJ1.out; have := HK2.out; omega⟩, ⟨by (with_reducible repeat first | apply qx | apply qy | apply qz); exact HO_3.out⟩, ⟨by repeat (first | (with_reducible first | exact HB.out | apply qh | apply qe | apply qg) | exact HB.out)⟩⟩
        ·rw [if_neg c12] at H
         exact absurd H (by simp)
       ·rw [if_neg c11] at H
        exact absurd H (by simp)
      ·rw [if_neg c10] at H
       have c10b0 : decide (x19_2 < (a0.size : Int)) = false := qr c10; clear c10
       by_cases c62 : 0 ≤ x4_2
       ·rw [if_pos c62] at H
        have c62b0 := qaa c62; have c62b1 : decide (0 ≤ x4_2) = true := qq c62; clear c62
        by_cases c63 : x4_2 ≤ (a0.size : Int)
        ·rw [if_pos c63] at H
         have c63b0 := qaa c63; have c63b1 : decide (x4_2 ≤ (a0.size : Int)) = true := qq c63; clear c63
         obtain ⟨ji64, hji64⟩ : ∃ j_ : Int, (wrap64 ((x3_2.length : Int) - 1)) = j_ := ⟨_, rfl⟩
         replace H : (if 0 ≤ (ji64) then (if (ji64) < (x3_2.length : Int) then (some (x3_2.set ((ji64) : Int).toNat (⟨(rd_T38 x3_2 (ji64)).f0, (rd_T38 x3_2 (ji64)).f1, a0.extract (x4_2 : Int).toNat a0.size⟩ : S38))) else (none)) else (none)) = some r := by first | (rw [hji64] at H; exact H) | (simp only [hji64] at H ⊢; exact H)
         have hji64w : (IntKind.i64.wrap ((x3_2.length : Int) - 1)) = ji64 := (i64_w _).trans hji64
         by_cases c65 : 0 ≤ (ji64)
         ·rw [if_pos c65] at H
          have c65b0 : decide (0 ≤ (ji64)) = true := qq c65; clear c65
          by_cases c66 : (ji64) < (x3_2.length : Int)
          ·rw [if_pos c66] at H
           have c66b0 : decide ((ji64) < (x3_2.length : Int)) = true := qq c66; clear c66
           obtain ⟨y264, hy264⟩ : ∃ y_ : List (S38), y_ = (x3_2.set ((ji64) : Int).toNat (⟨(rd_T38 x3_2 (ji64)).f0, (rd_T38 x3_2 (ji64)).f1, a0.extract (x4_2 : Int).toNat a0.size⟩ : S38)) := ⟨_, rfl⟩
           replace H : (some y264) = some r := by first | (rw [hy264]; with_reducible exact H) | (have H2_ := (Option.bind_some _ _).symm.trans H; rw [hy264]; with_reducible exact H2_) | (have H2_ := (Option.bind_some _ _).symm.trans H; with_reducible exact H2_) | with_reducible exact H | (rw [hy264]; exact H) | exact H
           have Ny264 := qa hy264; clear hy264; obtain rfl := qca H; obtain ⟨Ao68, co68, eo68⟩ := Kd.R_slice HO_3.out; subst eo68; have p67 : 0 ≤ ((ji64) : Int) := qm (by assumption); have q67 : ((ji64) : Int) < ((x3_2.length : Int) : Int) := qm (by assumption); obtain ⟨go67, co67, eo67, gb67, gl67, cl67, HG67⟩ := Kd.R_form HO_3.out (by omega)
           (first | cases eo67 | (injection eo67 with ea_ en_ ec_; (first | subst ea_ | (injection ea_ with ea_; subst ea_)); subst ec_; clear en_))
           have GB67 := qa gb67; have GG67 := qa HG67; clear gb67 gl67 HG67; obtain ⟨ce67, hcl67, hM67, hcc67, hfr67⟩ := Kd.R_elem HO_3.out z38 ((ji64) : Int) p67 q67; obtain rfl := k38_openM hM67; have hx67_0 : wr.cell? ⟨go67, ((ji64) : Int).toNat * 3, none⟩ = some (.string ((rd_T38 x3_2 (ji64)).f0)) := hcc67 0 _ rfl; have hx67_1 : wr.cell? ⟨go67, ((ji64) : Int).toNat * 3 + 1, none⟩ = some (.string ((rd_T38 x3_2 (ji64)).f1)) := hcc67 1 _ rfl; have hx67_2 : wr.cell? ⟨go67, ((ji64) : Int).toNat * 3 + 2, none⟩ = some (.string ((rd_T38 x3_2 (ji64)).f2)) := hcc67 2 _ rfl; have hf67_0 : wr.frozen? ⟨go67, ((ji64) : Int).toNat * 3, none⟩ = false := hfr67 0; have hf67_1 : wr.frozen? ⟨go67, ((ji64) : Int).toNat * 3 + 1, none⟩ = false := hfr67 1; have hf67_2 : wr.frozen? ⟨go67, ((ji64) : Int).toNat * 3 + 2, none⟩ = false := hfr67 2; clear hcl67 hcc67 hfr67 hM67; replace p67 := qaa p67; replace q67 := qaa q67; have HX69 := qa (show Kd.R k38 38 wr w.heap.size (fun _ => True) (.slice (some ⟨go67, 0, none⟩) x3_2.length co68) x3_2 from (by (with_reducible repeat first | apply qx | apply qy | apply qz); exact HO_3.out)); obtain ⟨ce69, hcl69, hM69, hcc69, hfr69⟩ := Kd.R_elem HX69.out z38 ((ji64) : Int) (qm (by assumption)) (by have h_ : ((ji64) : Int) < ((x3_2.length : Int) : Int) := qm (by assumption); first | exact h_ | (have e_ := (qra HO_3.out).1; omega) | simpa using h_); obtain rfl := k38_openM hM69; have HP69 := Kd.R_seg HX69.out ((ji64) : Int) (qm (by assumption)) (by have h_ : ((ji64) : Int) < ((x3_2.length : Int) : Int) := qm (by assumption); first | exact h_ | (have e_ := (qra HO_3.out).1; omega) | simpa using h_) (seg := [.string (a0.extract (x4_2 : Int).toNat a0.size)]) (j := 2) hcl69 hcc69 (show 3 ≤ 3 from by decide) (x' := (⟨(rd_T38 x3_2 (ji64)).f0, (rd_T38 x3_2 (ji64)).f1, a0.extract (x4_2 : Int).toNat a0.size⟩ : S38)) (k38_mkM _ _ _ (⟨(rd_T38 x3_2 (ji64)).f0, (rd_T38 x3_2 (ji64)).f1, a0.extract (x4_2 : Int).toNat a0.size⟩ : S38) ) (fun _ hk => hk); have hx69_2 := hcc69 2 _ rfl; (try simp only [show (k38).sz = 3 from rfl, Nat.mul_one, Nat.add_zero] at hx69_2); have hf69_2 := hfr69 2; (try simp only [show (k38).sz = 3 from rfl, Nat.mul_one, Nat.add_zero] at hf69_2); clear hcl69 hcc69 hfr69 hM69
           go_wp2_with (first | ((with_reducible refine gate_store (t := 9) (p := 72) rfl ?_); refine store_event (t := 9) (p := 72) (v := ?vo_w70) (w1 := (wr.setCell ⟨go67, ((ji64) : Int).toNat * 3 + 2, none⟩ (.string (a0.extract (x4_2 : Int).toNat a0.size)))) ?hg ?ho ?hn ?hr ?_; (case ho => rfl); (case hg => rfl); (case hn => rfl); (case hr => first | (go_simp; done) | (go_simp; rfl)); intro w70 hw; have hg : wr.grownBy w70 (some go67) := (by rw [hw]; exact HP69.2); have hp_ : Kd.R k38 38 w70 w.heap.size (fun _ => True) (.slice (some ⟨go67, 0, none⟩) x3_2.length co68) y264 := (by rw [hw, Ny264.out]; exact HP69.1); clear HP69; have n0_ := qa (hp_); have n1_ := qa ((by rw [hw]; exact qj (HB.out) GB67.out : Below w.heap.size w w70)); clear HO_3; clear HB; have HO_3 := n0_; have HB := n1_; clear n0_ n1_; clear hg hw hp_))
           go_ret; exact ⟨_, by first | rfl | (simp [errW_none, errW_some] <;> rfl) | (simp only [← hji64]; first | rfl | (simp [errW_none, errW_some] <;> rfl)) | (simp [*, errW_none, errW_some] <;> rfl), by (with_reducible repeat first | apply qx | apply qy | apply qz); exact HO_3.out, by repeat (first | (with_reducible first | exact HB.out | apply qh | apply qe | apply qg) | exact HB.out)⟩
          ·rw [if_neg c66] at H
           exact absurd H (by simp)
         ·rw [if_neg c65] at H
          exact absurd H (by simp)
        ·rw [if_neg c63] at H
         exact absurd H (by simp)
       ·rw [if_neg c62] at H
        exact absurd H (by simp)
end Go.Proofs.Ytkjpbhncgjhfeaa.PFnForms
