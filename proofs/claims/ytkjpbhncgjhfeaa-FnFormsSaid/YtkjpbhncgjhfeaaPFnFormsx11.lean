import Derived.Test.YtkjpbhncgjhfeaaPFnFormsx0
import Derived.Test.YtkjpbhncgjhfeaaPFnFormsx5
import Derived.Test.YtkjpbhncgjhfeaaPFnFormsx7
import Derived.Test.YtkjpbhncgjhfeaaPFnFormsx10
namespace Go.Proofs.Ytkjpbhncgjhfeaa.PFnForms
open Go.RowKit Go.Proofs.YtkjpbhncgjhfeaaW.PrintWords Go.Proofs.YtkjpbhncgjhfeaaW.PrintLast Go.Proofs.YtkjpbhncgjhfeaaW.PrintMore
attribute [local go_sem] max2_int min2_int max_two min_two max_three min_three max_four min_four
set_option linter.unusedVariables false
set_option linter.unusedSimpArgs false
set_option maxHeartbeats 8000000
set_option maxRecDepth 100000
mutual
def spec_SyllablesOf.j0 : Nat → ByteArray → List (S38) → Bool → Option ((List (S38)))
 | 0, _, _, _ => none
 | k + 1, x0, x3, x15 => if x15 = true then (some x3) else (spec_SyllablesOf.l0 k x0 x3 0 (⟨#[]⟩ : ByteArray) (⟨#[]⟩ : ByteArray) (⟨#[]⟩ : ByteArray))
def spec_SyllablesOf.l0 : Nat → ByteArray → List (S38) → Int → ByteArray → ByteArray → ByteArray → Option ((List (S38)))
 | 0, _, _, _, _, _, _ => none
 | k + 1, x0, x3, x5, x282000, x282001, x282002 => if x5 < (x0.size : Int) then (if 0 ≤ x5 then (if x5 ≤ (wrap64 (x5 + 1)) then (if (wrap64 (x5 + 1)) ≤ (x0.size : Int) then ((spec_IsVowelAt.f x0 x5).bind fun t285 => (if t285 = true then (if x282001.toList = ([] : List UInt8) then (spec_SyllablesOf.l0 k x0 x3 (wrap64 (x5 + 1)) x282000 (x0.extract (x5 : Int).toNat ((wrap64 (x5 + 1)) : Int).toNat) x282002) else (if x3.length < 2932031007402 then (spec_SyllablesOf.l0 k x0 (x3 ++ [(⟨x282000, x282001, x282002⟩ : S38)]) (wrap64 (x5 + 1)) (⟨#[]⟩ : ByteArray) (x0.extract (x5 : Int).toNat ((wrap64 (x5 + 1)) : Int).toNat) (⟨#[]⟩ : ByteArray)) else (none))) else (if x282001.toList = ([] : List UInt8) then (if x282000.size + (x0.extract (x5 : Int).toNat ((wrap64 (x5 + 1)) : Int).toNat).size ≤ 9223372036854775807 then (spec_SyllablesOf.l0 k x0 x3 (wrap64 (x5 + 1)) (x282000 ++ (x0.extract (x5 : Int).toNat ((wrap64 (x5 + 1)) : Int).toNat)) x282001 x282002) else (none)) else ((spec_IsVowelAt.f x0 (wrap64 (x5 + 1))).bind fun t289 => (if t289 = true then (if x3.length < 2932031007402 then (spec_SyllablesOf.l0 k x0 (x3 ++ [(⟨x282000, x282001, x282002⟩ : S38)]) (wrap64 (x5 + 1)) (x0.extract (x5 : Int).toNat ((wrap64 (x5 + 1)) : Int).toNat) (⟨#[]⟩ : ByteArray) (⟨#[]⟩ : ByteArray)) else (none)) else (if x282002.size + (x0.extract (x5 : Int).toNat ((wrap64 (x5 + 1)) : Int).toNat).size ≤ 9223372036854775807 then (spec_SyllablesOf.l0 k x0 x3 (wrap64 (x5 + 1)) x282000 x282001 (x282002 ++ (x0.extract (x5 : Int).toNat ((wrap64 (x5 + 1)) : Int).toNat))) else (none))))))) else (none)) else (none)) else (none)) else (if x3.length < 2932031007402 then (some (x3 ++ [(⟨x282000, x282001, x282002⟩ : S38)])) else (none))
end
def spec_SyllablesOf.f (k : Nat) (a0 : ByteArray) : Option ((List (S38))) := (some (([] : List (S38)) : List (S38))).bind fun y276 => ((spec_IsForm.f k a0).bind fun t279 => (if t279 = true then ((spec_CountVowels.f k a0).bind fun t280 => (spec_SyllablesOf.j0 k a0 y276 (t280 == 0))) else (spec_SyllablesOf.j0 k a0 y276 true)))
theorem spec_SyllablesOf.calls (k : Nat) (a0 : ByteArray) (r : List (S38)) (w : World) (h : spec_SyllablesOf.f k a0 = some r) :
  Calls Try.prog 22 #[.string a0] w fun e w' => ∃ v0_ : Value, e = .returned (v0_) ∧ Kd.R k38 38 w' w.heap.size (fun _ => True) v0_ r ∧ Below w.heap.size w w' := by
 have hu38 := Try.underlying38; have HB := qa (qwa w.heap.size w); have H := h; unfold spec_SyllablesOf.f at H; clear h
 obtain ⟨y276, hy276⟩ : ∃ y_ : List (S38), y_ = (([] : List (S38))) := ⟨_, rfl⟩
 replace H : ((spec_IsForm.f k a0).bind fun t279 => (if t279 = true then ((spec_CountVowels.f k a0).bind fun t280 => (spec_SyllablesOf.j0 k a0 y276 (t280 == 0))) else (spec_SyllablesOf.j0 k a0 y276 true))) = some r := by first | (rw [hy276]; with_reducible exact H) | (have H2_ := (Option.bind_some _ _).symm.trans H; rw [hy276]; with_reducible exact H2_) | (have H2_ := (Option.bind_some _ _).symm.trans H; with_reducible exact H2_) | with_reducible exact H | (rw [hy276]; exact H) | exact H
 have Ny276 := qa hy276; clear hy276; have HC2 := qa H; clear H; go_enter Try.func22, Try.ntmps22
 go_upto_region 2 with (first | ((with_reducible refine gate_dst (N := 7) rfl ?_); refine qza k38 _ 38 ?hg (N := 7) ?hd (xs := ([] : List (S38))) (inner := []) (ok := fun _ => True) (okp := fun _ => True) ?hr ?hp (fun _ hk => hk) trivial (qwa _ _) (qva _) (by simp) ?_; (case hd => rfl); (case hg => rfl); (case hr => first | (go_simp; done) | (go_simp; rfl)); (case hp => exact (Reps.none _ _)); intro v277 w3 ho4 hb hg_ hnew_; clear hg_ hnew_; (first | rw [← Ny276.out] at ho4 | (simp only [Int.reduceToNat] at ho4; rw [← Ny276.out] at ho4)); have n0_ := qa (qxa ho4 (qp (by repeat (first | (with_reducible first | exact HB.out | apply qh | apply qe | apply qg) | exact HB.out)))); have n1_ := qa (qba (by repeat (first | (with_reducible first | exact HB.out | apply qh | apply qe | apply qg) | exact HB.out)) hb); clear HB; have HO278 := n0_; have HB := n1_; clear n0_ n1_; clear hb ho4))
 (try simp only [Act.put, qb, qc, qd])
 go_cut [15] (fun v15 wc => ∃ (kq : Nat) (x15_1 : Bool), v15 = .bool x15_1 ∧ Aside0 (spec_SyllablesOf.j0 kq a0 y276 x15_1 = some r) ∧ Aside0 (kq ≤ k) ∧ Aside0 (Kd.R k38 38 wc w.heap.size (fun _ => True) v277 y276) ∧ Aside0 (Below w.heap.size w wc))
 case first =>
  have H := HC2.out; clear HC2; obtain ⟨t279, A50, H⟩ := zb H; (try dsimp only at H); have A5 := qa A50; clear A50
  by_cases c6 : t279 = true
  ·subst c6
   rw [if_pos rfl] at H; have H1 := H; clear H; have H := H1; clear H1; obtain ⟨t280, A70, H⟩ := zb H; (try dsimp only at H); have A7 := qa A70; clear A70; have H' := qa H; clear H
   go_wp2_with (first | ((with_reducible refine qqa (f := 15) rfl ?_); refine goesL_ (some 9) rfl rfl Try.func15 (by kernel_rfl) rfl #[.string a0] rfl (by (try simp only [qs, qv, qw]); first | done | rfl | (simp only [qu, qt]; rfl)) ?_; (with_reducible refine (spec_IsForm.calls k a0 true _ A5.out).mono ?_); rintro e w' ⟨rfl, ⟨nd, rfl⟩⟩; refine ⟨_, rfl, ?_⟩) | (go_at_call 13; (with_reducible refine (spec_CountVowels.calls k a0 t280 _ A7.out).mono ?_); rintro e w' ⟨rfl, ⟨nd, rfl⟩⟩))
   go_meet
   case rel => exact ⟨_, ((t280 == 0)), (by first | rfl | (simp; done) | (simp [*]; done)), H', ⟨by first | omega | exact qva _⟩, ⟨by (with_reducible repeat first | apply qx | apply qy | apply qz); exact HO278.out⟩, ⟨by repeat (first | (with_reducible first | exact HB.out | apply qh | apply qe | apply qg) | exact HB.out)⟩⟩
  ·replace c6 := Bool.eq_false_iff.mpr c6
   subst c6; rw [if_neg (show ¬ (false = true) by decide)] at H; have H1 := H; clear H; have H := H1; clear H1; have H' := qa H; clear H
   go_wp2_with (first | ((with_reducible refine qqa (f := 15) rfl ?_); refine goesL_ (some 9) rfl rfl Try.func15 (by kernel_rfl) rfl #[.string a0] rfl (by (try simp only [qs, qv, qw]); first | done | rfl | (simp only [qu, qt]; rfl)) ?_; (with_reducible refine (spec_IsForm.calls k a0 false _ A5.out).mono ?_); rintro e w' ⟨rfl, ⟨nd, rfl⟩⟩; refine ⟨_, rfl, ?_⟩))
   go_meet
   case rel => exact ⟨_, (true), (by first | rfl | (simp; done) | (simp [*]; done)), H', ⟨by first | omega | exact qva _⟩, ⟨by (with_reducible repeat first | apply qx | apply qy | apply qz); exact HO278.out⟩, ⟨by repeat (first | (with_reducible first | exact HB.out | apply qh | apply qe | apply qg) | exact HB.out)⟩⟩
 case rest =>
  clear HC2; (try clear c1); (try clear c2); (try clear p2); (try clear c6); obtain ⟨kq, x15_1, rfl, HA, HJ1, HO_3, HB⟩ := hcut
  cases kq with
  | zero => exact absurd HA.out (by simp [spec_SyllablesOf.j0])
  | succ kj1 =>
   have H := HA.out; clear HA; simp only [spec_SyllablesOf.j0] at H
   by_cases c8 : x15_1 = true
   ·subst c8
    rw [if_pos rfl] at H; have H1 := H; clear H; have H := H1; clear H1; obtain rfl := qca H; go_wp2; go_ret; exact ⟨_, by first | rfl | (simp [*] <;> rfl), by (with_reducible repeat first | apply qx | apply qy | apply qz); exact HO_3.out, by repeat (first | (with_reducible first | exact HB.out | apply qh | apply qe | apply qg) | exact HB.out)⟩
   ·replace c8 := Bool.eq_false_iff.mpr c8
    subst c8; rw [if_neg (show ¬ (false = true) by decide)] at H; have H1 := H; clear H; have H := H1; clear H1; have H' := qa H; clear H
    go_wp2_with (first | ((with_reducible refine gate_dst (N := 4) rfl ?_); refine box_event ?hg (N := 4) ?hd (cs := #[.string (⟨#[]⟩ : ByteArray), .string (⟨#[]⟩ : ByteArray), .string (⟨#[]⟩ : ByteArray)]) (t := 38) ?hr ?_; (case hd => rfl); (case hg => rfl); (case hr => first | (go_simp; done) | (go_simp; rfl)); intro gb281 hg w9 hbox hb; have n0_ := qa (qoa (Kd.R_elderB (by (with_reducible repeat first | apply qx | apply qy | apply qz); exact HO_3.out) gb281 (Nat.le_of_eq hg.symm)) hb); have n1_ := qa (qba (by repeat (first | (with_reducible first | exact HB.out | apply qh | apply qe | apply qg) | exact HB.out)) hb); have n2_ := qa (hbox); have n3_ := qa ((by rw [hg]; exact (qp (by repeat (first | (with_reducible first | exact HB.out | apply qh | apply qe | apply qg) | exact HB.out))) : w.heap.size ≤ gb281)); have n4_ := qa ((by rw [hg]; exact (qp (by repeat (first | (with_reducible first | exact HB.out | apply qh | apply qe | apply qg) | exact HB.out))) : w.heap.size ≤ gb281)); clear HO_3; clear HB; have HO_3 := n0_; have HB := n1_; have BK281 := n2_; have GW281 := n3_; have GE281 := n4_; clear n0_ n1_ n2_ n3_ n4_; clear hb hbox hg; have hcz10_0 : w9.cell? ⟨gb281, 0, none⟩ = some (.string (⟨#[]⟩ : ByteArray)) := (qi BK281.out 0).trans rfl; have hcz10_1 : w9.cell? ⟨gb281, 1, none⟩ = some (.string (⟨#[]⟩ : ByteArray)) := (qi BK281.out 1).trans rfl; have hcz10_2 : w9.cell? ⟨gb281, 2, none⟩ = some (.string (⟨#[]⟩ : ByteArray)) := (qi BK281.out 2).trans rfl; have hfz10_0 := qo BK281.out 0; have hfz10_1 := qo BK281.out 1; have hfz10_2 := qo BK281.out 2))
    go_loopg [3, 5] kj1 (fun kq v3 v5 w' => ∃ (x3_2 : List (S38)) (x5_2 : Int) (x282000_2 : ByteArray) (x282001_2 : ByteArray) (x282002_2 : ByteArray), v5 = .int .i64 x5_2 ∧ Aside0 (spec_SyllablesOf.l0 kq a0 x3_2 x5_2 x282000_2 x282001_2 x282002_2 = some r) ∧ Aside0 (kq ≤ kj1) ∧ Aside0 (Kd.R k38 38 w' w.heap.size (fun k_ => k_ ≠ gb281) v3 x3_2) ∧ Aside0 (w'.heap[gb281]? = some (.cells #[.string x282000_2, .string x282001_2, .string x282002_2] 38 (0, 0))) ∧ Aside0 (Below w.heap.size w w'))
    case atStart => exact ⟨(y276), (0), ((⟨#[]⟩ : ByteArray)), ((⟨#[]⟩ : ByteArray)), ((⟨#[]⟩ : ByteArray)), (by first | rfl | (simp; done) | (simp [*]; done)), H', ⟨qva _⟩, ⟨by (with_reducible repeat first | apply qx | apply qy | apply qz); exact qga (qua (p := ⟨gb281, 2, none⟩) (qua (p := ⟨gb281, 1, none⟩) (qua (p := ⟨gb281, 0, none⟩) (qga HO_3.out (fun k_ hk => (⟨hk, hk.2⟩ : _ ∧ k_ ≠ gb281))) (fun _ hk => hk.2) (.string (⟨#[]⟩ : ByteArray))) (fun _ hk => hk.2) (.string (⟨#[]⟩ : ByteArray))) (fun _ hk => hk.2) (.string (⟨#[]⟩ : ByteArray))) (fun _ hk => hk.1.2)⟩, ⟨by (with_reducible repeat first | apply ql | apply qn | apply qk); refine qta (cs := #[.string (⟨#[]⟩ : ByteArray), .string (⟨#[]⟩ : ByteArray), .string (⟨#[]⟩ : ByteArray)]) ?_ 2 _ rfl; (with_reducible repeat first | apply ql | apply qn | apply qk); refine qta (cs := #[.string (⟨#[]⟩ : ByteArray), .string (⟨#[]⟩ : ByteArray), .string (⟨#[]⟩ : ByteArray)]) ?_ 1 _ rfl; (with_reducible repeat first | apply ql | apply qn | apply qk); refine qta (cs := #[.string (⟨#[]⟩ : ByteArray), .string (⟨#[]⟩ : ByteArray), .string (⟨#[]⟩ : ByteArray)]) ?_ 0 _ rfl; (with_reducible repeat first | apply ql | apply qn | apply qk); exact BK281.out⟩, ⟨by repeat (first | (with_reducible first | exact HB.out | apply qh | apply qe | apply qg | refine qj ?_ GE281.out) | exact HB.out)⟩⟩
    case round =>
     clear H'; (try clear c1); (try clear c2); (try clear p2); (try clear c6); (try clear c8); (try clear hcz10_0); (try clear hcz10_1); (try clear hcz10_2); (try clear hfz10_0); (try clear hfz10_1); (try clear hfz10_2); (try clear p2); obtain ⟨x3_2, x5_2, x282000_2, x282001_2, x282002_2, rfl, HA, HK2, HO_3, BK281, HB⟩ := hrel
     cases gk with
     | zero => exact absurd HA.out (by simp [spec_SyllablesOf.l0])
     | succ k2 =>
      have H := HA.out; clear HA; simp only [spec_SyllablesOf.l0] at H
      by_cases c11 : x5_2 < (a0.size : Int)
      ·rw [if_pos c11] at H
       have c11b0 : decide (x5_2 < (a0.size : Int)) = true := qq c11; clear c11
       by_cases c12 : 0 ≤ x5_2
       ·rw [if_pos c12] at H
        have c12b0 := qaa c12; have c12b1 : decide (0 ≤ x5_2) = true := qq c12; clear c12
        by_cases c13 : x5_2 ≤ (wrap64 (x5_2 + 1))
        ·rw [if_pos c13] at H
         have c13b0 := qaa c13; have c13b1 : decide (x5_2 ≤ (wrap64 (x5_2 + 1))) = true := qq c13
         by_cases c14 : (wrap64 (x5_2 + 1)) ≤ (a0.size : Int)
         ·rw [if_pos c14] at H
          have c14b0 := qaa c14; have c14b1 : decide ((wrap64 (x5_2 + 1)) ≤ (a0.size : Int)) = true := qq c14; obtain ⟨t285, A150, H⟩ := zb H; (try dsimp only at H); have A15 := qa A150; clear A150
          by_cases c16 : t285 = true
          ·subst c16
           rw [if_pos rfl] at H; have H1 := H; clear H; have H := H1; clear H1
           by_cases c17 : x282001_2.toList = ([] : List UInt8)
           ·rw [if_pos c17] at H
            have c17b0 : (x282001_2.toList == ([] : List UInt8)) = true := ze c17; have c17b1 : (x282001_2.toList != ([] : List UInt8)) = false := zc c17; clear c17; have H' := qa H; clear H
            go_wp2_with (first | ((with_reducible refine qqa (f := 36) rfl ?_); refine goesL_ (some 37) rfl rfl Try.func36 (by kernel_rfl) rfl #[.string a0, .int .i64 x5_2] rfl (by (try simp only [qs, qv, qw]); first | done | rfl | (simp only [qu, qt]; rfl)) ?_; (with_reducible refine (spec_IsVowelAt.calls a0 x5_2 true _ A15.out).mono ?_); rintro e w' ⟨rfl, ⟨nd, rfl⟩⟩; refine ⟨_, rfl, ?_⟩; (try (rw [drewN_self wr]; generalize hq_ : World.drewN wr _ = wr; have n0_ : Aside0 (Kd.R k38 38 wr w.heap.size (fun k_ => k_ ≠ gb281) u3 x3_2) := ⟨by rw [← hq_]; exact (by (with_reducible repeat first | apply qx | apply qy | apply qz); exact HO_3.out)⟩; have n1_ : Aside0 (wr.heap[gb281]? = some (.cells #[.string x282000_2, .string x282001_2, .string x282002_2] 38 (0, 0))) := ⟨by rw [← hq_]; exact (by (with_reducible repeat first | apply ql | apply qn | apply qk); exact BK281.out)⟩; have n2_ : Aside0 (Below w.heap.size w wr) := ⟨by rw [← hq_]; exact (by repeat (first | (with_reducible first | exact HB.out | apply qh | apply qe | apply qg | refine qj ?_ GE281.out) | exact HB.out))⟩; clear HO_3 BK281 HB hq_; have HO_3 := n0_; have BK281 := n1_; have HB := n2_; clear n0_ n1_ n2_)); have hcz18_0 : wr.cell? ⟨gb281, 0, none⟩ = some (.string x282000_2) := (qi BK281.out 0).trans rfl; have hcz18_1 : wr.cell? ⟨gb281, 1, none⟩ = some (.string x282001_2) := (qi BK281.out 1).trans rfl; have hcz18_2 : wr.cell? ⟨gb281, 2, none⟩ = some (.string x282002_2) := (qi BK281.out 2).trans rfl; have hfz18_0 := qo BK281.out 0; have hfz18_1 := qo BK281.out 1; have hfz18_2 := qo BK281.out 2))
            go_roundg k2
            case measure => have := HJ1.out; have := HK2.out; omega
            case rel => exact ⟨(x3_2), (wrap64 (x5_2 + 1)), (x282000_2), (a0.extract (x5_2 : Int).toNat ((wrap64 (x5_2 + 1)) : Int).toNat), (x282002_2), (by first | rfl | (simp; done) | (simp [*]; done)), H', ⟨by have := HJ1.out; have := HK2.out; omega⟩, ⟨by (with_reducible repeat first | apply qx | apply qy | apply qz); exact qga (qua (p := ⟨gb281, 1, none⟩) (qga HO_3.out (fun k_ hk => (⟨hk, hk⟩ : _ ∧ k_ ≠ gb281))) (fun _ hk => hk.2) (.string (a0.extract (x5_2 : Int).toNat ((wrap64 (x5_2 + 1)) : Int).toNat))) (fun _ hk => hk.1)⟩, ⟨by (with_reducible repeat first | apply ql | apply qn | apply qk); refine qta (cs := #[.string x282000_2, .string x282001_2, .string x282002_2]) ?_ 1 _ rfl; (with_reducible repeat first | apply ql | apply qn | apply qk); exact BK281.out⟩, ⟨by repeat (first | (with_reducible first | exact HB.out | apply qh | apply qe | apply qg | refine qj ?_ GE281.out) | exact HB.out)⟩⟩
           ·rw [if_neg c17] at H
            have c17b0 : (x282001_2.toList == ([] : List UInt8)) = false := zd c17; have c17b1 : (x282001_2.toList != ([] : List UInt8)) = true := zf c17
            by_cases c19 : x3_2.length < 2932031007402
            ·rw [if_pos c19] at H
             have LMc19 := qa c19; clear c19
             obtain ⟨y286, hy286⟩ : ∃ y_ : List (S38), y_ = (x3_2 ++ [(⟨x282000_2, x282001_2, x282002_2⟩ : S38)]) := ⟨_, rfl⟩
             replace H : (spec_SyllablesOf.l0 k2 a0 y286 (wrap64 (x5_2 + 1)) (⟨#[]⟩ : ByteArray) (a0.extract (x5_2 : Int).toNat ((wrap64 (x5_2 + 1)) : Int).toNat) (⟨#[]⟩ : ByteArray)) = some r := by first | (rw [hy286]; with_reducible exact H) | (have H2_ := (Option.bind_some _ _).symm.trans H; rw [hy286]; with_reducible exact H2_) | (have H2_ := (Option.bind_some _ _).symm.trans H; with_reducible exact H2_) | with_reducible exact H | (rw [hy286]; exact H) | exact H
             have Ny286 := qa hy286; clear hy286; have H' := qa H; clear H
             go_wp2_with (first | ((with_reducible refine qqa (f := 36) rfl ?_); refine goesL_ (some 37) rfl rfl Try.func36 (by kernel_rfl) rfl #[.string a0, .int .i64 x5_2] rfl (by (try simp only [qs, qv, qw]); first | done | rfl | (simp only [qu, qt]; rfl)) ?_; (with_reducible refine (spec_IsVowelAt.calls a0 x5_2 true _ A15.out).mono ?_); rintro e w' ⟨rfl, ⟨nd, rfl⟩⟩; refine ⟨_, rfl, ?_⟩; (try (rw [drewN_self wr]; generalize hq_ : World.drewN wr _ = wr; have n0_ : Aside0 (Kd.R k38 38 wr w.heap.size (fun k_ => k_ ≠ gb281) u3 x3_2) := ⟨by rw [← hq_]; exact (by (with_reducible repeat first | apply qx | apply qy | apply qz); exact HO_3.out)⟩; have n1_ : Aside0 (wr.heap[gb281]? = some (.cells #[.string x282000_2, .string x282001_2, .string x282002_2] 38 (0, 0))) := ⟨by rw [← hq_]; exact (by (with_reducible repeat first | apply ql | apply qn | apply qk); exact BK281.out)⟩; have n2_ : Aside0 (Below w.heap.size w wr) := ⟨by rw [← hq_]; exact (by repeat (first | (with_reducible first | exact HB.out | apply qh | apply qe | apply qg | refine qj ?_ GE281.out) | exact HB.out))⟩; clear HO_3 BK281 HB hq_; have HO_3 := n0_; have BK281 := n1_; have HB := n2_; clear n0_ n1_ n2_)); have hcz20_0 : wr.cell? ⟨gb281, 0, none⟩ = some (.string x282000_2) := (qi BK281.out 0).trans rfl; have hcz20_1 : wr.cell? ⟨gb281, 1, none⟩ = some (.string x282001_2) := (qi BK281.out 1).trans rfl; have hcz20_2 : wr.cell? ⟨gb281, 2, none⟩ = some (.string x282002_2) := (qi BK281.out 2).trans rfl; have hfz20_0 := qo BK281.out 0; have hfz20_1 := qo BK281.out 1; have hfz20_2 := qo BK281.out 2) | ((with_reducible refine gate_builtin (b := .append) (xs := #[.tmp 41, .tmp 43]) rfl ?_); at_builtin; refine Kd.R_append k38 (w0 := w) w.heap.size rfl (.tmp 41) (.tmp 43) 34 38 (.agg #[(.string ⟨#[]⟩), (.string ⟨#[]⟩), (.string ⟨#[]⟩)]) 48 rfl Try.underlying34 info38 rfl (by decide) (by omega) u3 x3_2 (⟨x282000_2, x282001_2, x282002_2⟩ : S38) [.string x282000_2, .string x282001_2, .string x282002_2] (fun k_ => k_ ≠ gb281) (fun _ => False) rfl rfl ?aP (fun _ hk => hk.elim) ?aF ?aO ?aB ?aS ?aL ?_; (case aP => exact k38_mkM _ _ _ (⟨x282000_2, x282001_2, x282002_2⟩ : S38)); (case aB => exact (by repeat (first | (with_reducible first | exact HB.out | apply qh | apply qe | apply qg | refine qj ?_ GE281.out) | exact HB.out))); (case aF => exact (fun k_ hk => Kd.freshB (g := gb281) (o := .cells #[.string x282000_2, .string x282001_2, .string x282002_2] 38 (0, 0)) (by (with_reducible repeat first | apply ql | apply qn | apply qk); exact BK281.out) k_ hk)); (case aO => exact (by (with_reducible repeat first | apply qx | apply qy | apply qz); exact HO_3.out)); (case aS => exact (qp (by repeat (first | (with_reducible first | exact HB.out | apply qh | apply qe | apply qg | refine qj ?_ GE281.out) | exact HB.out)))); (case aL => have := LMc19.out; omega); intro v287 w21 ho hb hg hat; rw [← Ny286.out] at ho; have n0_ := qa (blk_grown (g := gb281) (o := .cells #[.string x282000_2, .string x282001_2, .string x282002_2] 38 (0, 0)) (by (with_reducible repeat first | apply ql | apply qn | apply qk); exact BK281.out) hg (Kd.R_away HO_3.out (fun _ hk => hk))); have n1_ := qa (hb); have n2_ := qa (ho); clear BK281; clear HB; clear HO_3; have BK281 := n0_; have HB := n1_; have HO288 := n2_; clear n0_ n1_ n2_; clear ho hb hg hat; have hcz22_0 : w21.cell? ⟨gb281, 0, none⟩ = some (.string x282000_2) := (qi BK281.out 0).trans rfl; have hcz22_1 : w21.cell? ⟨gb281, 1, none⟩ = some (.string x282001_2) := (qi BK281.out 1).trans rfl; have hcz22_2 : w21.cell? ⟨gb281, 2, none⟩ = some (.string x282002_2) := (qi BK281.out 2).trans rfl; have hfz22_0 := qo BK281.out 0; have hfz22_1 := qo BK281.out 1; have hfz22_2 := qo BK281.out 2))
             go_roundg k2
             case measure => have := HJ1.out; have := HK2.out; omega
             case rel => exact ⟨(y286), (wrap64 (x5_2 + 1)), ((⟨#[]⟩ : ByteArray)), (a0.extract (x5_2 : Int).toNat ((wrap64 (x5_2 + 1)) : Int).toNat), ((⟨#[]⟩ : ByteArray)), (by first | rfl | (simp; done) | (simp [*]; done)), H', ⟨by have := HJ1.out; have := HK2.out; omega⟩, ⟨by (with_reducible repeat first | apply qx | apply qy | apply qz); exact qga (qua (p := ⟨gb281, 1, none⟩) (qua (p := ⟨gb281, 2, none⟩) (qua (p := ⟨gb281, 1, none⟩) (qua (p := ⟨gb281, 0, none⟩) (qga HO288.out (fun k_ hk => (⟨hk, hk⟩ : _ ∧ k_ ≠ gb281))) (fun _ hk => hk.2) (.string (⟨#[]⟩ : ByteArray))) (fun _ hk => hk.2) (.string (⟨#[]⟩ : ByteArray))) (fun _ hk => hk.2) (.string (⟨#[]⟩ : ByteArray))) (fun _ hk => hk.2) (.string (a0.extract (x5_2 : Int).toNat ((wrap64 (x5_2 + 1)) : Int).toNat))) (fun _ hk => hk.1)⟩, ⟨by (with_reducible repeat first | apply ql | apply qn | apply qk); refine qta (cs := #[.string (⟨#[]⟩ : ByteArray), .string (⟨#[]⟩ : ByteArray), .string (⟨#[]⟩ : ByteArray)]) ?_ 1 _ rfl; (with_reducible repeat first | apply ql | apply qn | apply qk); refine qta (cs := #[.string (⟨#[]⟩ : ByteArray), .string (⟨#[]⟩ : ByteArray), .string x282002_2]) ?_ 2 _ rfl; (with_reducible repeat first | apply ql | apply qn | apply qk); refine qta (cs := #[.string (⟨#[]⟩ : ByteArray), .string x282001_2, .string x282002_2]) ?_ 1 _ rfl; (with_reducible repeat first | apply ql | apply qn | apply qk); refine qta (cs := #[.string x282000_2, .string x282001_2, .string x282002_2]) ?_ 0 _ rfl; (with_reducible repeat first | apply ql | apply qn | apply qk); exact BK281.out⟩, ⟨by repeat (first | (with_reducible first | exact HB.out | apply qh | apply qe | apply qg | refine qj ?_ GE281.out) | exact HB.out)⟩⟩
            ·rw [if_neg c19] at H
             exact absurd H (by simp)
          ·replace c16 := Bool.eq_false_iff.mpr c16
           subst c16; rw [if_neg (show ¬ (false = true) by decide)] at H; have H1 := H; clear H; have H := H1; clear H1
           by_cases c23 : x282001_2.toList = ([] : List UInt8)
           ·rw [if_pos c23] at H
            have c23b0 : (x282001_2.toList == ([] : List UInt8)) = true := ze c23; have c23b1 : (x282001_2.toList != ([] : List UInt8)) = false := zc c23; clear c23
            by_cases c24 : x282000_2.size + (a0.extract (x5_2 : Int).toNat ((wrap64 (x5_2 + 1)) : Int).toNat).size ≤ 9223372036854775807
            ·rw [if_pos c24] at H
             have c24b0 := qaa c24; have c24b1 : decide (x282000_2.size + (a0.extract (x5_2 : Int).toNat ((wrap64 (x5_2 + 1)) : Int).toNat).size ≤ 9223372036854775807) = true := qq c24; (try have c24x : (9223372036854775807 < x282000_2.size + ((wrap64 (x5_2 + 1)).toNat - x5_2.toNat)) = False := eq_false (by have h_ := c24; (try simp only [decide_eq_true_eq] at *); (try simp only [ByteArray.size_append, ByteArray.size_extract] at h_); omega))
             try have c24b2 : (9223372036854775807 < x282000_2.size + (a0.extract (x5_2 : Int).toNat ((wrap64 (x5_2 + 1)) : Int).toNat).size) = False := eq_false (Nat.not_lt.2 c24)
             have H' := qa H; clear H
             go_wp2_with (first | ((with_reducible refine qqa (f := 36) rfl ?_); refine goesL_ (some 37) rfl rfl Try.func36 (by kernel_rfl) rfl #[.string a0, .int .i64 x5_2] rfl (by (try simp only [qs, qv, qw]); first | done | rfl | (simp only [qu, qt]; rfl)) ?_; (with_reducible refine (spec_IsVowelAt.calls a0 x5_2 false _ A15.out).mono ?_); rintro e w' ⟨rfl, ⟨nd, rfl⟩⟩; refine ⟨_, rfl, ?_⟩; (try (rw [drewN_self wr]; generalize hq_ : World.drewN wr _ = wr; have n0_ : Aside0 (Kd.R k38 38 wr w.heap.size (fun k_ => k_ ≠ gb281) u3 x3_2) := ⟨by rw [← hq_]; exact (by (with_reducible repeat first | apply qx | apply qy | apply qz); exact HO_3.out)⟩; have n1_ : Aside0 (wr.heap[gb281]? = some (.cells #[.string x282000_2, .string x282001_2, .string x282002_2] 38 (0, 0))) := ⟨by rw [← hq_]; exact (by (with_reducible repeat first | apply ql | apply qn | apply qk); exact BK281.out)⟩; have n2_ : Aside0 (Below w.heap.size w wr) := ⟨by rw [← hq_]; exact (by repeat (first | (with_reducible first | exact HB.out | apply qh | apply qe | apply qg | refine qj ?_ GE281.out) | exact HB.out))⟩; clear HO_3 BK281 HB hq_; have HO_3 := n0_; have BK281 := n1_; have HB := n2_; clear n0_ n1_ n2_)); have hcz25_0 : wr.cell? ⟨gb281, 0, none⟩ = some (.string x282000_2) := (qi BK281.out 0).trans rfl; have hcz25_1 : wr.cell? ⟨gb281, 1, none⟩ = some (.string x282001_2) := (qi BK281.out 1).trans rfl; have hcz25_2 : wr.cell? ⟨gb281, 2, none⟩ = some (.string x282002_2) := (qi BK281.out 2).trans rfl; have hfz25_0 := qo BK281.out 0; have hfz25_1 := qo BK281.out 1; have hfz25_2 := qo BK281.out 2))
             go_roundg k2
             case measure => have := HJ1.out; have := HK2.out; omega
             case rel => exact ⟨(x3_2), (wrap64 (x5_2 + 1)), (x282000_2 ++ (a0.extract (x5_2 : Int).toNat ((wrap64 (x5_2 + 1)) : Int).toNat)), (x282001_2), (x282002_2), (by first | rfl | (simp; done) | (simp [*]; done)), H', ⟨by have := HJ1.out; have := HK2.out; omega⟩, ⟨by (with_reducible repeat first | apply qx | apply qy | apply qz); exact qga (qua (p := ⟨gb281, 0, none⟩) (qga HO_3.out (fun k_ hk => (⟨hk, hk⟩ : _ ∧ k_ ≠ gb281))) (fun _ hk => hk.2) (.string (x282000_2 ++ (a0.extract (x5_2 : Int).toNat ((wrap64 (x5_2 + 1)) : Int).toNat)))) (fun _ hk => hk.1)⟩, ⟨by (with_reducible repeat first | apply ql | apply qn | apply qk); refine qta (cs := #[.string x282000_2, .string x282001_2, .string x282002_2]) ?_ 0 _ rfl; (with_reducible repeat first | apply ql | apply qn | apply qk); exact BK281.out⟩, ⟨by repeat (first | (with_reducible first | exact HB.out | apply qh | apply qe | apply qg | refine qj ?_ GE281.out) | exact HB.out)⟩⟩
            ·rw [if_neg c24] at H
             exact absurd H (by simp)
           ·rw [if_neg c23] at H
            have c23b0 : (x282001_2.toList == ([] : List UInt8)) = false := zd c23; have c23b1 : (x282001_2.toList != ([] : List UInt8)) = true := zf c23; obtain ⟨t289, A260, H⟩ := zb H; (try dsimp only at H); have A26 := qa A260; clear A260
            by_cases c27 : t289 = true
            ·subst c27
             rw [if_pos rfl] at H; have H1 := H; clear H; have H := H1; clear H1
             by_cases c28 : x3_2.length < 2932031007402
             ·rw [if_pos c28] at H
              have LMc28 := qa c28; clear c28
              obtain ⟨y290, hy290⟩ : ∃ y_ : List (S38), y_ = (x3_2 ++ [(⟨x282000_2, x282001_2, x282002_2⟩ : S38)]) := ⟨_, rfl⟩
              replace H : (spec_SyllablesOf.l0 k2 a0 y290 (wrap64 (x5_2 + 1)) (a0.extract (x5_2 : Int).toNat ((wrap64 (x5_2 + 1)) : Int).toNat) (⟨#[]⟩ : ByteArray) (⟨#[]⟩ : ByteArray)) = some r := by first | (rw [hy290]; with_reducible exact H) | (have H2_ := (Option.bind_some _ _).symm.trans H; rw [hy290]; with_reducible exact H2_) | (have H2_ := (Option.bind_some _ _).symm.trans H; with_reducible exact H2_) | with_reducible exact H | (rw [hy290]; exact H) | exact H
              have Ny290 := qa hy290; clear hy290; have H' := qa H; clear H
              go_wp2_with (first | ((with_reducible refine qqa (f := 36) rfl ?_); refine goesL_ (some 37) rfl rfl Try.func36 (by kernel_rfl) rfl #[.string a0, .int .i64 x5_2] rfl (by (try simp only [qs, qv, qw]); first | done | rfl | (simp only [qu, qt]; rfl)) ?_; (with_reducible refine (spec_IsVowelAt.calls a0 x5_2 false _ A15.out).mono ?_); rintro e w' ⟨rfl, ⟨nd, rfl⟩⟩; refine ⟨_, rfl, ?_⟩; (try (rw [drewN_self wr]; generalize hq_ : World.drewN wr _ = wr; have n0_ : Aside0 (Kd.R k38 38 wr w.heap.size (fun k_ => k_ ≠ gb281) u3 x3_2) := ⟨by rw [← hq_]; exact (by (with_reducible repeat first | apply qx | apply qy | apply qz); exact HO_3.out)⟩; have n1_ : Aside0 (wr.heap[gb281]? = some (.cells #[.string x282000_2, .string x282001_2, .string x282002_2] 38 (0, 0))) := ⟨by rw [← hq_]; exact (by (with_reducible repeat first | apply ql | apply qn | apply qk); exact BK281.out)⟩; have n2_ : Aside0 (Below w.heap.size w wr) := ⟨by rw [← hq_]; exact (by repeat (first | (with_reducible first | exact HB.out | apply qh | apply qe | apply qg | refine qj ?_ GE281.out) | exact HB.out))⟩; clear HO_3 BK281 HB hq_; have HO_3 := n0_; have BK281 := n1_; have HB := n2_; clear n0_ n1_ n2_)); have hcz29_0 : wr.cell? ⟨gb281, 0, none⟩ = some (.string x282000_2) := (qi BK281.out 0).trans rfl; have hcz29_1 : wr.cell? ⟨gb281, 1, none⟩ = some (.string x282001_2) := (qi BK281.out 1).trans rfl; have hcz29_2 : wr.cell? ⟨gb281, 2, none⟩ = some (.string x282002_2) := (qi BK281.out 2).trans rfl; have hfz29_0 := qo BK281.out 0; have hfz29_1 := qo BK281.out 1; have hfz29_2 := qo BK281.out 2) | ((with_reducible refine qqa (f := 36) rfl ?_); refine goesL_ (some 61) rfl rfl Try.func36 (by kernel_rfl) rfl #[.string a0, .int .i64 (wrap64 (x5_2 + 1))] rfl (by (try simp only [qs, qv, qw]); first | done | rfl | (simp only [qu, qt]; rfl)) ?_; (with_reducible refine (spec_IsVowelAt.calls a0 (wrap64 (x5_2 + 1)) true _ A26.out).mono ?_); rintro e w' ⟨rfl, ⟨nd, rfl⟩⟩; refine ⟨_, rfl, ?_⟩; (try (rw [drewN_self wr]; generalize hq_ : World.drewN wr _ = wr; have n0_ : Aside0 (Kd.R k38 38 wr w.heap.size (fun k_ => k_ ≠ gb281) u3 x3_2) := ⟨by rw [← hq_]; exact (by (with_reducible repeat first | apply qx | apply qy | apply qz); exact HO_3.out)⟩; have n1_ : Aside0 (wr.heap[gb281]? = some (.cells #[.string x282000_2, .string x282001_2, .string x282002_2] 38 (0, 0))) := ⟨by rw [← hq_]; exact (by (with_reducible repeat first | apply ql | apply qn | apply qk); exact BK281.out)⟩; have n2_ : Aside0 (Below w.heap.size w wr) := ⟨by rw [← hq_]; exact (by repeat (first | (with_reducible first | exact HB.out | apply qh | apply qe | apply qg | refine qj ?_ GE281.out) | exact HB.out))⟩; clear HO_3 BK281 HB hq_; have HO_3 := n0_; have BK281 := n1_; have HB := n2_; clear n0_ n1_ n2_)); have hcz29_0 : wr.cell? ⟨gb281, 0, none⟩ = some (.string x282000_2) := (qi BK281.out 0).trans rfl; have hcz29_1 : wr.cell? ⟨gb281, 1, none⟩ = some (.string x282001_2) := (qi BK281.out 1).trans rfl; have hcz29_2 : wr.cell? ⟨gb281, 2, none⟩ = some (.string x282002_2) := (qi BK281.out 2).trans rfl; have hfz29_0 := qo BK281.out 0; have hfz29_1 := qo BK281.out 1; have hfz29_2 := qo BK281.out 2) | ((with_reducible refine gate_builtin (b := .append) (xs := #[.tmp 62, .tmp 64]) rfl ?_); at_builtin; refine Kd.R_append k38 (w0 := w) w.heap.size rfl (.tmp 62) (.tmp 64) 34 38 (.agg #[(.string ⟨#[]⟩), (.string ⟨#[]⟩), (.string ⟨#[]⟩)]) 48 rfl Try.underlying34 info38 rfl (by decide) (by omega) u3 x3_2 (⟨x282000_2, x282001_2, x282002_2⟩ : S38) [.string x282000_2, .string x282001_2, .string x282002_2] (fun k_ => k_ ≠ gb281) (fun _ => False) rfl rfl ?aP (fun _ hk => hk.elim) ?aF ?aO ?aB ?aS ?aL ?_; (case aP => exact k38_mkM _ _ _ (⟨x282000_2, x282001_2, x282002_2⟩ : S38)); (case aB => exact (by repeat (first | (with_reducible first | exact HB.out | apply qh | apply qe | apply qg | refine qj ?_ GE281.out) | exact HB.out))); (case aF => exact (fun k_ hk => Kd.freshB (g := gb281) (o := .cells #[.string x282000_2, .string x282001_2, .string x282002_2] 38 (0, 0)) (by (with_reducible repeat first | apply ql | apply qn | apply qk); exact BK281.out) k_ hk)); (case aO => exact (by (with_reducible repeat first | apply qx | apply qy | apply qz); exact HO_3.out)); (case aS => exact (qp (by repeat (first | (with_reducible first | exact HB.out | apply qh | apply qe | apply qg | refine qj ?_ GE281.out) | exact HB.out)))); (case aL => have := LMc28.out; omega); intro v291 w30 ho hb hg hat; rw [← Ny290.out] at ho; have n0_ := qa (blk_grown (g := gb281) (o := .cells #[.string x282000_2, .string x282001_2, .string x282002_2] 38 (0, 0)) (by (with_reducible repeat first | apply ql | apply qn | apply qk); exact BK281.out) hg (Kd.R_away HO_3.out (fun _ hk => hk))); have n1_ := qa (hb); have n2_ := qa (ho); clear BK281; clear HB; clear HO_3; have BK281 := n0_; have HB := n1_; have HO292 := n2_; clear n0_ n1_ n2_; clear ho hb hg hat; have hcz31_0 : w30.cell? ⟨gb281, 0, none⟩ = some (.string x282000_2) := (qi BK281.out 0).trans rfl; have hcz31_1 : w30.cell? ⟨gb281, 1, none⟩ = some (.string x282001_2) := (qi BK281.out 1).trans rfl; have hcz31_2 : w30.cell? ⟨gb281, 2, none⟩ = some (.string x282002_2) := (qi BK281.out 2).trans rfl; have hfz31_0 := qo BK281.out 0; have hfz31_1 := qo BK281.out 1; have hfz31_2 := qo BK281.out 2))
              go_roundg k2
              case measure => have := HJ1.out; have := HK2.out; omega
              case rel => exact ⟨(y290), (wrap64 (x5_2 + 1)), (a0.extract (x5_2 : Int).toNat ((wrap64 (x5_2 + 1)) : Int).toNat), ((⟨#[]⟩ : ByteArray)), ((⟨#[]⟩ : ByteArray)), (by first | rfl | (simp; done) | (simp [*]; done)), H', ⟨by have := HJ1.out; have := HK2.out; omega⟩, ⟨by (with_reducible repeat first | apply qx | apply qy | apply qz); exact qga (qua (p := ⟨gb281, 2, none⟩) (qua (p := ⟨gb281, 1, none⟩) (qua (p := ⟨gb281, 0, none⟩) (qga HO292.out (fun k_ hk => (⟨hk, hk⟩ : _ ∧ k_ ≠ gb281))) (fun _ hk => hk.2) (.string (a0.extract (x5_2 : Int).toNat ((wrap64 (x5_2 + 1)) : Int).toNat))) (fun _ hk => hk.2) (.string (⟨#[]⟩ : ByteArray))) (fun _ hk => hk.2) (.string (⟨#[]⟩ : ByteArray))) (fun _ hk => hk.1)⟩, ⟨by (with_reducible repeat first | apply ql | apply qn | apply qk); refine qta (cs := #[.string (a0.extract (x5_2 : Int).toNat ((wrap64 (x5_2 + 1)) : Int).toNat), .string (⟨#[]⟩ : ByteArray), .string x282002_2]) ?_ 2 _ rfl; (with_reducible repeat first | apply ql | apply qn | apply qk); refine qta (cs := #[.string (a0.extract (x5_2 : Int).toNat ((wrap64 (x5_2 + 1)) : Int).toNat), .string x282001_2, .string x282002_2]) ?_ 1 _ rfl; (with_reducible repeat first | apply ql | apply qn | apply qk); refine qta (cs := #[.string x282000_2, .string x282001_2, .string x282002_2]) ?_ 0 _ rfl; (with_reducible repeat first | apply ql | apply qn | apply qk); exact BK281.out⟩, ⟨by repeat (first | (with_reducible first | exact HB.out | apply qh | apply qe | apply qg | refine qj ?_ GE281.out) | exact HB.out)⟩⟩
             ·rw [if_neg c28] at H
              exact absurd H (by simp)
            ·replace c27 := Bool.eq_false_iff.mpr c27
             subst c27; rw [if_neg (show ¬ (false = true) by decide)] at H; have H1 := H; clear H; have H := H1; clear H1
             by_cases c32 : x282002_2.size + (a0.extract (x5_2 : Int).toNat ((wrap64 (x5_2 + 1)) : Int).toNat).size ≤ 9223372036854775807
             ·rw [if_pos c32] at H
              have c32b0 := qaa c32; have c32b1 : decide (x282002_2.size + (a0.extract (x5_2 : Int).toNat ((wrap64 (x5_2 + 1)) : Int).toNat).size ≤ 9223372036854775807) = true := qq c32; (try have c32x : (9223372036854775807 < x282002_2.size + ((wrap64 (x5_2 + 1)).toNat - x5_2.toNat)) = False := eq_false (by have h_ := c32; (try simp only [decide_eq_true_eq] at *); (try simp only [ByteArray.size_append, ByteArray.size_extract] at h_); omega))
              try have c32b2 : (9223372036854775807 < x282002_2.size + (a0.extract (x5_2 : Int).toNat ((wrap64 (x5_2 + 1)) : Int).toNat).size) = False := eq_false (Nat.not_lt.2 c32)
              have H' := qa H; clear H
              go_wp2_with (first | ((with_reducible refine qqa (f := 36) rfl ?_); refine goesL_ (some 37) rfl rfl Try.func36 (by kernel_rfl) rfl #[.string a0, .int .i64 x5_2] rfl (by (try simp only [qs, qv, qw]); first | done | rfl | (simp only [qu, qt]; rfl)) ?_; (with_reducible refine (spec_IsVowelAt.calls a0 x5_2 false _ A15.out).mono ?_); rintro e w' ⟨rfl, ⟨nd, rfl⟩⟩; refine ⟨_, rfl, ?_⟩; (try (rw [drewN_self wr]; generalize hq_ : World.drewN wr _ = wr; have n0_ : Aside0 (Kd.R k38 38 wr w.heap.size (fun k_ => k_ ≠ gb281) u3 x3_2) := ⟨by rw [← hq_]; exact (by (with_reducible repeat first | apply qx | apply qy | apply qz); exact HO_3.out)⟩; have n1_ : Aside0 (wr.heap[gb281]? = some (.cells #[.string x282000_2, .string x282001_2, .string x282002_2] 38 (0, 0))) := ⟨by rw [← hq_]; exact (by (with_reducible repeat first | apply ql | apply qn | apply qk); exact BK281.out)⟩; have n2_ : Aside0 (Below w.heap.size w wr) := ⟨by rw [← hq_]; exact (by repeat (first | (with_reducible first | exact HB.out | apply qh | apply qe | apply qg | refine qj ?_ GE281.out) | exact HB.out))⟩; clear HO_3 BK281 HB hq_; have HO_3 := n0_; have BK281 := n1_; have HB := n2_; clear n0_ n1_ n2_)); have hcz33_0 : wr.cell? ⟨gb281, 0, none⟩ = some (.string x282000_2) := (qi BK281.out 0).trans rfl; have hcz33_1 : wr.cell? ⟨gb281, 1, none⟩ = some (.string x282001_2) := (qi BK281.out 1).trans rfl; have hcz33_2 : wr.cell? ⟨gb281, 2, none⟩ = some (.string x282002_2) := (qi BK281.out 2).trans rfl; have hfz33_0 := qo BK281.out 0; have hfz33_1 := qo BK281.out 1; have hfz33_2 := qo BK281.out 2) | ((with_reducible refine qqa (f := 36) rfl ?_); refine goesL_ (some 61) rfl rfl Try.func36 (by kernel_rfl) rfl #[.string a0, .int .i64 (wrap64 (x5_2 + 1))] rfl (by (try simp only [qs, qv, qw]); first | done | rfl | (simp only [qu, qt]; rfl)) ?_; (with_reducible refine (spec_IsVowelAt.calls a0 (wrap64 (x5_2 + 1)) false _ A26.out).mono ?_); rintro e w' ⟨rfl, ⟨nd, rfl⟩⟩; refine ⟨_, rfl, ?_⟩; (try (rw [drewN_self wr]; generalize hq_ : World.drewN wr _ = wr; have n0_ : Aside0 (Kd.R k38 38 wr w.heap.size (fun k_ => k_ ≠ gb281) u3 x3_2) := ⟨by rw [← hq_]; exact (by (with_reducible repeat first | apply qx | apply qy | apply qz); exact HO_3.out)⟩; have n1_ : Aside0 (wr.heap[gb281]? = some (.cells #[.string x282000_2, .string x282001_2, .string x282002_2] 38 (0, 0))) := ⟨by rw [← hq_]; exact (by (with_reducible repeat first | apply ql | apply qn | apply qk); exact BK281.out)⟩; have n2_ : Aside0 (Below w.heap.size w wr) := ⟨by rw [← hq_]; exact (by repeat (first | (with_reducible first | exact HB.out | apply qh | apply qe | apply qg | refine qj ?_ GE281.out) | exact HB.out))⟩; clear HO_3 BK281 HB hq_; have HO_3 := n0_; have BK281 := n1_; have HB := n2_; clear n0_ n1_ n2_)); have hcz33_0 : wr.cell? ⟨gb281, 0, none⟩ = some (.string x282000_2) := (qi BK281.out 0).trans rfl; have hcz33_1 : wr.cell? ⟨gb281, 1, none⟩ = some (.string x282001_2) := (qi BK281.out 1).trans rfl; have hcz33_2 : wr.cell? ⟨gb281, 2, none⟩ = some (.string x282002_2) := (qi BK281.out 2).trans rfl; have hfz33_0 := qo BK281.out 0; have hfz33_1 := qo BK281.out 1; have hfz33_2 := qo BK281.out 2))
              go_roundg k2
              case measure => have := HJ1.out; have := HK2.out; omega
              case rel => exact ⟨(x3_2), (wrap64 (x5_2 + 1)), (x282000_2), (x282001_2), (x282002_2 ++ (a0.extract (x5_2 : Int).toNat ((wrap64 (x5_2 + 1)) : Int).toNat)), (by first | rfl | (simp; done) | (simp [*]; done)), H', ⟨by have := HJ1.out; have := HK2.out; omega⟩, ⟨by (with_reducible repeat first | apply qx | apply qy | apply qz); exact qga (qua (p := ⟨gb281, 2, none⟩) (qga HO_3.out (fun k_ hk => (⟨hk, hk⟩ : _ ∧ k_ ≠ gb281))) (fun _ hk => hk.2) (.string (x282002_2 ++ (a0.extract (x5_2 : Int).toNat ((wrap64 (x5_2 + 1)) : Int).toNat)))) (fun _ hk => hk.1)⟩, ⟨by (with_reducible repeat first | apply ql | apply qn | apply qk); refine qta (cs := #[.string x282000_2, .string x282001_2, .string x282002_2]) ?_ 2 _ rfl; (with_reducible repeat first | apply ql | apply qn | apply qk); exact BK281.out⟩, ⟨by repeat (first | (with_reducible first | exact HB.out | apply qh | apply qe | apply qg | refine qj ?_ GE281.out) | exact HB.out)⟩⟩
             ·rw [if_neg c32] at H
              exact absurd H (by simp)
         ·rw [if_neg c14] at H
          exact absurd H (by simp)
        ·rw [if_neg c13] at H
         exact absurd H (by simp)
       ·rw [if_neg c12] at H
        exact absurd H (by simp)
      ·rw [if_neg c11] at H
       have c11b0 : decide (x5_2 < (a0.size : Int)) = false := qr c11; clear c11
       by_cases c34 : x3_2.length < 2932031007402
       ·rw [if_pos c34] at H
        have LMc34 := qa c34; clear c34
        obtain ⟨y282, hy282⟩ : ∃ y_ : List (S38), y_ = (x3_2 ++ [(⟨x282000_2, x282001_2, x282002_2⟩ : S38)]) := ⟨_, rfl⟩
        replace H : (some y282) = some r := by first | (rw [hy282]; with_reducible exact H) | (have H2_ := (Option.bind_some _ _).symm.trans H; rw [hy282]; with_reducible exact H2_) | (have H2_ := (Option.bind_some _ _).symm.trans H; with_reducible exact H2_) | with_reducible exact H | (rw [hy282]; exact H) | exact H
        have Ny282 := qa hy282; clear hy282; obtain rfl := qca H; have hcz35_0 : wr.cell? ⟨gb281, 0, none⟩ = some (.string x282000_2) := (qi BK281.out 0).trans rfl; have hcz35_1 : wr.cell? ⟨gb281, 1, none⟩ = some (.string x282001_2) := (qi BK281.out 1).trans rfl; have hcz35_2 : wr.cell? ⟨gb281, 2, none⟩ = some (.string x282002_2) := (qi BK281.out 2).trans rfl; have hfz35_0 := qo BK281.out 0; have hfz35_1 := qo BK281.out 1; have hfz35_2 := qo BK281.out 2
        go_wp2_with (first | ((with_reducible refine gate_builtin (b := .append) (xs := #[.tmp 68, .tmp 70]) rfl ?_); at_builtin; refine Kd.R_append k38 (w0 := w) w.heap.size rfl (.tmp 68) (.tmp 70) 34 38 (.agg #[(.string ⟨#[]⟩), (.string ⟨#[]⟩), (.string ⟨#[]⟩)]) 48 rfl Try.underlying34 info38 rfl (by decide) (by omega) u3 x3_2 (⟨x282000_2, x282001_2, x282002_2⟩ : S38) [.string x282000_2, .string x282001_2, .string x282002_2] (fun k_ => k_ ≠ gb281) (fun _ => False) rfl rfl ?aP (fun _ hk => hk.elim) ?aF ?aO ?aB ?aS ?aL ?_; (case aP => exact k38_mkM _ _ _ (⟨x282000_2, x282001_2, x282002_2⟩ : S38)); (case aB => exact (by repeat (first | (with_reducible first | exact HB.out | apply qh | apply qe | apply qg | refine qj ?_ GE281.out) | exact HB.out))); (case aF => exact (fun k_ hk => Kd.freshB (g := gb281) (o := .cells #[.string x282000_2, .string x282001_2, .string x282002_2] 38 (0, 0)) (by (with_reducible repeat first | apply ql | apply qn | apply qk); exact BK281.out) k_ hk)); (case aO => exact (by (with_reducible repeat first | apply qx | apply qy | apply qz); exact HO_3.out)); (case aS => exact (qp (by repeat (first | (with_reducible first | exact HB.out | apply qh | apply qe | apply qg | refine qj ?_ GE281.out) | exact HB.out)))); (case aL => have := LMc34.out; omega); intro v283 w36 ho hb hg hat; rw [← Ny282.out] at ho; have n0_ := qa (blk_grown (g := gb281) (o := .cells #[.string x282000_2, .string x282001_2, .string x282002_2] 38 (0, 0)) (by (with_reducible repeat first | apply ql | apply qn | apply qk); exact BK281.out) hg (Kd.R_away HO_3.out (fun _ hk => hk))); have n1_ := qa (hb); have n2_ := qa (ho); clear BK281; clear HB; clear HO_3; have BK281 := n0_; have HB := n1_; have HO284 := n2_; clear n0_ n1_ n2_; clear ho hb hg hat))
        go_ret; exact ⟨_, by first | rfl | (simp [*] <;> rfl), by (with_reducible repeat first | apply qx | apply qy | apply qz); exact qga HO284.out (fun _ hk => trivial), by repeat (first | (with_reducible first | exact HB.out | apply qh | apply qe | apply qg | refine qj ?_ GE281.out) | exact HB.out)⟩
       ·rw [if_neg c34] at H
        exact absurd H (by simp)
def impl_CountSyllables.f (k : Nat) (a0 : ByteArray) : Option (Int) := (impl_SyllablesOf.f k a0).bind fun t293 => (some (t293.length : Int))
theorem impl_CountSyllables.calls (k : Nat) (a0 : ByteArray) (r : Int) (w : World) (h : impl_CountSyllables.f k a0 = some r) :
  Calls Try.prog 23 #[.string a0] w fun e w' => e = .returned (.int .i64 r) ∧ Below w.heap.size w w' := by
 have HB := qa (qwa w.heap.size w); have H := h; unfold impl_CountSyllables.f at H; clear h; obtain ⟨t293, A20, H⟩ := zb H; (try dsimp only at H); have A2 := qa A20; clear A20; obtain rfl := qca H; go_enter Try.func23, Try.ntmps23
 go_wp2_with (first | ((with_reducible refine qqa (f := 21) rfl ?_); refine goesL_ (some 4) rfl rfl Try.func21 (by kernel_rfl) rfl #[.string a0] rfl (by (try simp only [qs, qv, qw]); first | done | rfl | (simp only [qu, qt]; rfl)) ?_; (with_reducible refine (impl_SyllablesOf.calls k a0 t293 _ A2.out).mono ?_); rintro e w3 ⟨v294, rfl, ho0, hb⟩; refine ⟨_, rfl, ?_⟩; have n0_ := qa (qxa ho0 (qp (by repeat (first | (with_reducible first | exact HB.out | apply qh | apply qe | apply qg) | exact HB.out)))); have n1_ := qa (qba (by repeat (first | (with_reducible first | exact HB.out | apply qh | apply qe | apply qg) | exact HB.out)) hb); clear HB; have HO295 := n0_; have HB := n1_; clear n0_ n1_; (try clear hb); (try clear hb2); (try clear hk); (try clear hi); (try clear ho0); obtain ⟨Ao4, co4, eo4⟩ := Kd.R_slice HO295.out; subst eo4))
 go_ret; exact ⟨by first | rfl | (simp [*] <;> rfl), by repeat (first | (with_reducible first | exact HB.out | apply qh | apply qe | apply qg) | exact HB.out)⟩
def impl_JoinSyllables.l0 : Nat → ByteArray → List (S38) → Int → Int → Option (ByteArray)
 | 0, _, _, _, _ => none
 | k + 1, x3, x6, x7, x8 => if x8 < x7 then (if 0 ≤ x8 then (if x8 < (x6.length : Int) then (if ((rd_T38 x6 x8).f0).size + ((rd_T38 x6 x8).f1).size ≤ 9223372036854775807 then (if (((rd_T38 x6 x8).f0) ++ ((rd_T38 x6 x8).f1)).size + ((rd_T38 x6 x8).f2).size ≤ 9223372036854775807 then (if x3.size + ((((rd_T38 x6 x8).f0) ++ ((rd_T38 x6 x8).f1)) ++ ((rd_T38 x6 x8).f2)).size ≤ 9223372036854775807 then (impl_JoinSyllables.l0 k (x3 ++ ((((rd_T38 x6 x8).f0) ++ ((rd_T38 x6 x8).f1)) ++ ((rd_T38 x6 x8).f2))) x6 x7 (wrap64 (x8 + 1))) else (none)) else (none)) else (none)) else (none)) else (none)) else (some x3)
def impl_JoinSyllables.f (k : Nat) (l0 : List (S38)) : Option (ByteArray) := impl_JoinSyllables.l0 k (⟨#[]⟩ : ByteArray) l0 (l0.length : Int) 0
theorem impl_JoinSyllables.calls (k : Nat) (A0 : Option Addr) (c0 : Nat) (l0 : List (S38)) (r : ByteArray) (w : World) (hr0 : Kd.C k38 w A0 l0.length l0) (hc0 : l0.length ≤ c0) (h : impl_JoinSyllables.f k l0 = some r) :
  Calls Try.prog 24 #[.slice A0 l0.length c0] w fun e w' => e = .returned (.string r) ∧ Below w.heap.size w w' := by
 have hu38 := Try.underlying38; have HR0 := qa hr0; have HC0 := qa hc0; clear hr0 hc0; have HB := qa (qwa w.heap.size w); have H := h; unfold impl_JoinSyllables.f at H; clear h; have H' := qa H; clear H; go_enter Try.func24, Try.ntmps24; go_wp2
 go_loopg [3, 8] k (fun kq v3 v8 w' => ∃ (x3_1 : ByteArray) (x8_1 : Int), v3 = .string x3_1 ∧ v8 = .int .i64 x8_1 ∧ Aside0 (impl_JoinSyllables.l0 kq x3_1 l0 (l0.length : Int) x8_1 = some r) ∧ Aside0 (kq ≤ k) ∧ Aside0 (Below w.heap.size w w'))
 case atStart => exact ⟨((⟨#[]⟩ : ByteArray)), (0), (by first | rfl | (simp; done) | (simp [*]; done)), (by first | rfl | (simp; done) | (simp [*]; done)), H', ⟨qva _⟩, ⟨by repeat (first | (with_reducible first | exact HB.out | apply qh | apply qe | apply qg) | exact HB.out)⟩⟩
 case round =>
  clear H'; obtain ⟨x3_1, x8_1, rfl, rfl, HA, HK1, HB⟩ := hrel
  cases gk with
  | zero => exact absurd HA.out (by simp [impl_JoinSyllables.l0])
  | succ k1 =>
   have H := HA.out; clear HA; simp only [impl_JoinSyllables.l0] at H
   by_cases c2 : x8_1 < (l0.length : Int)
   ·rw [if_pos c2] at H
    have c2b0 : decide (x8_1 < (l0.length : Int)) = true := qq c2; clear c2
    by_cases c3 : 0 ≤ x8_1
    ·rw [if_pos c3] at H
     have c3b0 : decide (0 ≤ x8_1) = true := qq c3; clear c3
     by_cases c4 : x8_1 < (l0.length : Int)
     ·rw [if_pos c4] at H
      have c4b0 : decide (x8_1 < (l0.length : Int)) = true := qq c4; clear c4
      by_cases c5 : ((rd_T38 l0 x8_1).f0).size + ((rd_T38 l0 x8_1).f1).size ≤ 9223372036854775807
      ·rw [if_pos c5] at H
       have c5b0 := qaa c5; have c5b1 : decide (((rd_T38 l0 x8_1).f0).size + ((rd_T38 l0 x8_1).f1).size ≤ 9223372036854775807) = true := qq c5
       try have c5b2 : (9223372036854775807 < ((rd_T38 l0 x8_1).f0).size + ((rd_T38 l0 x8_1).f1).size) = False := eq_false (Nat.not_lt.2 c5)
       by_cases c6 : (((rd_T38 l0 x8_1).f0) ++ ((rd_T38 l0 x8_1).f1)).size + ((rd_T38 l0 x8_1).f2).size ≤ 9223372036854775807
       ·rw [if_pos c6] at H
        have c6b0 := qaa c6; have c6b1 : decide ((((rd_T38 l0 x8_1).f0) ++ ((rd_T38 l0 x8_1).f1)).size + ((rd_T38 l0 x8_1).f2).size ≤ 9223372036854775807) = true := qq c6
        try have c6b2 : (9223372036854775807 < (((rd_T38 l0 x8_1).f0) ++ ((rd_T38 l0 x8_1).f1)).size + ((rd_T38 l0 x8_1).f2).size) = False := eq_false (Nat.not_lt.2 c6)
        by_cases c7 : x3_1.size + ((((rd_T38 l0 x8_1).f0) ++ ((rd_T38 l0 x8_1).f1)) ++ ((rd_T38 l0 x8_1).f2)).size ≤ 9223372036854775807
        ·rw [if_pos c7] at H
         have c7b0 := qaa c7; have c7b1 : decide (x3_1.size + ((((rd_T38 l0 x8_1).f0) ++ ((rd_T38 l0 x8_1).f1)) ++ ((rd_T38 l0 x8_1).f2)).size ≤ 9223372036854775807) = true := qq c7
         try have c7b2 : (9223372036854775807 < x3_1.size + ((((rd_T38 l0 x8_1).f0) ++ ((rd_T38 l0 x8_1).f1)) ++ ((rd_T38 l0 x8_1).f2)).size) = False := eq_false (Nat.not_lt.2 c7)
         have H' := qa H; clear H; have p296 : 0 ≤ (x8_1 : Int) := qm (by assumption); have q296 : x8_1 < (l0.length : Int) := qm (by assumption); obtain ⟨ad296, e296, hx296_0, hx296_1, hx296_2⟩ := at_T38 HR0.out x8_1 p296 q296; cases e296; replace hx296_0 := (HB.out.cell (qf w _ hx296_0)).trans hx296_0; replace hx296_1 := (HB.out.cell (qf w _ hx296_1)).trans hx296_1; replace hx296_2 := (HB.out.cell (qf w _ hx296_2)).trans hx296_2; replace p296 := qaa p296; replace q296 := qaa q296
         go_wp2_with (first | ((with_reducible refine gate_dst (N := 5) rfl ?_); refine box_event ?hg (N := 5) ?hd (cs := #[.string (⟨#[]⟩ : ByteArray), .string (⟨#[]⟩ : ByteArray), .string (⟨#[]⟩ : ByteArray)]) (t := 38) ?hr ?_; (case hd => rfl); (case hg => rfl); (case hr => first | (go_simp; done) | (go_simp; rfl)); intro gb297 hg w8 hbox hb; have n0_ := qa (qba (by repeat (first | (with_reducible first | exact HB.out | apply qh | apply qe | apply qg) | exact HB.out)) hb); have n1_ := qa (hbox); have n2_ := qa ((by rw [hg]; exact (qp (by repeat (first | (with_reducible first | exact HB.out | apply qh | apply qe | apply qg) | exact HB.out))) : w.heap.size ≤ gb297)); have n3_ := qa ((by rw [hg]; exact (qp (by repeat (first | (with_reducible first | exact HB.out | apply qh | apply qe | apply qg) | exact HB.out))) : w.heap.size ≤ gb297)); clear HB; have HB := n0_; have BK297 := n1_; have GW297 := n2_; have GE297 := n3_; clear n0_ n1_ n2_ n3_; clear hb hbox hg; have hcz9_0 : w8.cell? ⟨gb297, 0, none⟩ = some (.string (⟨#[]⟩ : ByteArray)) := (qi BK297.out 0).trans rfl; have hcz9_1 : w8.cell? ⟨gb297, 1, none⟩ = some (.string (⟨#[]⟩ : ByteArray)) := (qi BK297.out 1).trans rfl; have hcz9_2 : w8.cell? ⟨gb297, 2, none⟩ = some (.string (⟨#[]⟩ : ByteArray)) := (qi BK297.out 2).trans rfl; have hfz9_0 := qo BK297.out 0; have hfz9_1 := qo BK297.out 1; have hfz9_2 := qo BK297.out 2))
         go_roundg k1
         case measure => have := HK1.out; omega
         case rel => exact ⟨(x3_1 ++ ((((rd_T38 l0 x8_1).f0) ++ ((rd_T38 l0 x8_1).f1)) ++ ((rd_T38 l0 x8_1).f2))), (wrap64 (x8_1 + 1)), (by first | rfl | (simp; done) | (simp [*]; done)), (by first | rfl | (simp; done) | (simp [*]; done)), H', ⟨by have := HK1.out; omega⟩, ⟨by repeat (first | (with_reducible first | exact HB.out | apply qh | apply qe | apply qg | refine qj ?_ GE297.out) | exact HB.out)⟩⟩
        ·rw [if_neg c7] at H
         exact absurd H (by simp)
       ·rw [if_neg c6] at H
        exact absurd H (by simp)
      ·rw [if_neg c5] at H
       exact absurd H (by simp)
     ·rw [if_neg c4] at H
      exact absurd H (by simp)
    ·rw [if_neg c3] at H
     exact absurd H (by simp)
   ·rw [if_neg c2] at H
    have c2b0 : decide (x8_1 < (l0.length : Int)) = false := qr c2; clear c2; obtain rfl := qca H; go_wp2; go_ret; exact ⟨by first | rfl | (simp [*] <;> rfl), by repeat (first | (with_reducible first | exact HB.out | apply qh | apply qe | apply qg) | exact HB.out)⟩
def strings_Join.f (l0 : List ByteArray) (a1 : ByteArray) : Option (ByteArray) := if l0.length ≤ 140737488355328 ∧ (Lib.join (l0.map (·.data.toList)) a1.data.toList).length ≤ 140737488355328 then some ⟨(Lib.join (l0.map (·.data.toList)) a1.data.toList).toArray⟩ else none
set_option maxHeartbeats 1000000 in
theorem strings_Join.calls (A0 : Option Addr) (c0 : Nat) (l0 : List ByteArray) (a1 : ByteArray) (r : ByteArray) (w : World) (hr0 : Kd.C Kd.string w A0 l0.length l0) (hc0 : l0.length ≤ c0) (h : strings_Join.f l0 a1 = some r) :
  Calls Try.prog 69 #[.slice A0 l0.length c0, .string a1] w fun e w' => e = .returned (.string r) ∧ Below w.heap.size w w' := by
 unfold strings_Join.f at h
 split at h
 ·rename_i hh
  obtain rfl := qca h
  rcases l0 with _ | ⟨x, l⟩
  ·exact (Go.Proofs.Try.strings_Join_none A0 c0 a1 w).mono fun e w' ⟨he, hw⟩ => ⟨he, hw ▸ qwa _ _⟩
  ·obtain ⟨ad, rfl, h0⟩ := Kd.at_string hr0 0 (Int.le_refl 0) (by simp only [List.length_cons]; omega)
   obtain ⟨bk, o, sp⟩ := ad
   have hsp : sp = none := by
    cases sp with
    | none => rfl
    | some z =>
     exfalso
     unfold World.cell? at h0; simp only [Addr.add, Int.toNat_zero, if_true] at h0
     split at h0 <;> simp at h0
   subst hsp
   have hbk : bk < w.heap.size := by
    unfold World.cell? at h0; simp only [Addr.add, Int.toNat_zero, if_true] at h0
    rcases Nat.lt_or_ge bk w.heap.size with hz | hz
    ·exact hz
    ·rw [Array.getElem?_eq_none hz] at h0; simp at h0
   refine (Go.Proofs.Try.strings_Join bk o c0 (x :: l) a1 w (fun j y hj => ?_) hbk hh.1 hc0 hh.2); obtain ⟨ad2, e2, h2⟩ := Kd.at_string hr0 (j : Int) (Int.natCast_nonneg j) (by have := (List.getElem?_eq_some_iff.1 hj).1; omega); obtain rfl := qca e2
   have hy : rdOf ByteArray.empty (x :: l) (j : Int) = y := by
    unfold rdOf; rw [Int.toNat_natCast, List.getD_eq_getElem?_getD, hj]; rfl
   rw [hy, Int.toNat_natCast] at h2
   have ha : (Addr.add ⟨bk, o, none⟩ j) = ⟨bk, o + j, none⟩ := by
    unfold Addr.add
    split
    ·rename_i hj0; subst hj0; rfl
    ·rfl
   rw [ha] at h2; exact h2
 ·simp at h
def impl_FormatSyllables.l0 : Nat → List ByteArray → List (S38) → Int → Int → Option (ByteArray)
 | 0, _, _, _, _ => none
 | k + 1, x3, x7, x8, x9 => if x9 < x8 then (if 0 ≤ x9 then (if x9 < (x7.length : Int) then ((impl_JoinSyllables.f k (([(⟨(rd_T38 x7 x9).f0, (rd_T38 x7 x9).f1, (rd_T38 x7 x9).f2⟩ : S38)] : List (S38)))).bind fun t306 => (if x3.length < 8796093022208 then (impl_FormatSyllables.l0 k (x3 ++ [t306]) x7 x8 (wrap64 (x9 + 1))) else (none))) else (none)) else (none)) else ((strings_Join.f x3 (⟨#[46]⟩ : ByteArray)).bind fun t310 => (some t310))
def impl_FormatSyllables.f (k : Nat) (l0 : List (S38)) : Option (ByteArray) := impl_FormatSyllables.l0 k (([] : List ByteArray)) l0 (l0.length : Int) 0
theorem impl_FormatSyllables.calls (k : Nat) (A0 : Option Addr) (c0 : Nat) (l0 : List (S38)) (r : ByteArray) (w : World) (hr0 : Kd.C k38 w A0 l0.length l0) (hc0 : l0.length ≤ c0) (h : impl_FormatSyllables.f k l0 = some r) :
  Calls Try.prog 25 #[.slice A0 l0.length c0] w fun e w' => e = .returned (.string r) ∧ Below w.heap.size w w' := by
 have hu38 := Try.underlying38; have HR0 := qa hr0; have HC0 := qa hc0; clear hr0 hc0; have HB := qa (qwa w.heap.size w); have H := h; unfold impl_FormatSyllables.f at H; clear h
 obtain ⟨y298, hy298⟩ : ∃ y_ : List ByteArray, y_ = (([] : List ByteArray)) := ⟨_, rfl⟩
 replace H : (impl_FormatSyllables.l0 k y298 l0 (l0.length : Int) 0) = some r := by first | (rw [hy298]; with_reducible exact H) | (have H2_ := (Option.bind_some _ _).symm.trans H; rw [hy298]; with_reducible exact H2_) | (have H2_ := (Option.bind_some _ _).symm.trans H; with_reducible exact H2_) | with_reducible exact H | (rw [hy298]; exact H) | exact H
 have Ny298 := qa hy298; clear hy298; have H' := qa H; clear H; go_enter Try.func25, Try.ntmps25
 go_wp2_with (first | ((with_reducible refine gate_dst (N := 6) rfl ?_); refine qza Kd.string _ 9 ?hg (N := 6) ?hd (xs := ([] : List ByteArray)) (inner := []) (ok := fun _ => True) (okp := fun _ => True) ?hr ?hp (fun _ hk => hk) trivial (qwa _ _) (qva _) (by simp) ?_; (case hd => rfl); (case hg => rfl); (case hr => first | (go_simp; done) | (go_simp; rfl)); (case hp => exact (Reps.none _ _)); intro v299 w2 ho3 hb hg_ hnew_; clear hg_ hnew_; (first | rw [← Ny298.out] at ho3 | (simp only [Int.reduceToNat] at ho3; rw [← Ny298.out] at ho3)); have n0_ := qa (qxa ho3 (qp (by repeat (first | (with_reducible first | exact HB.out | apply qh | apply qe | apply qg) | exact HB.out)))); have n1_ := qa (qba (by repeat (first | (with_reducible first | exact HB.out | apply qh | apply qe | apply qg) | exact HB.out)) hb); clear HB; have HO300 := n0_; have HB := n1_; clear n0_ n1_; clear hb ho3))
 go_loopg [3, 9] k (fun kq v3 v9 w' => ∃ (x3_1 : List ByteArray) (x9_1 : Int), v9 = .int .i64 x9_1 ∧ Aside0 (impl_FormatSyllables.l0 kq x3_1 l0 (l0.length : Int) x9_1 = some r) ∧ Aside0 (kq ≤ k) ∧ Aside0 (Kd.R Kd.string 9 w' w.heap.size (fun _ => True) v3 x3_1) ∧ Aside0 (Below w.heap.size w w'))
 case atStart => exact ⟨(y298), (0), (by first | rfl | (simp; done) | (simp [*]; done)), H', ⟨qva _⟩, ⟨by (with_reducible repeat first | apply qx | apply qy | apply qz); exact HO300.out⟩, ⟨by repeat (first | (with_reducible first | exact HB.out | apply qh | apply qe | apply qg) | exact HB.out)⟩⟩
 case round =>
  clear H'; (try clear c2); (try clear p2); obtain ⟨x3_1, x9_1, rfl, HA, HK1, HO_3, HB⟩ := hrel
  cases gk with
  | zero => exact absurd HA.out (by simp [impl_FormatSyllables.l0])
  | succ k1 =>
   have H := HA.out; clear HA; simp only [impl_FormatSyllables.l0] at H
   by_cases c4 : x9_1 < (l0.length : Int)
   ·rw [if_pos c4] at H
    have c4b0 : decide (x9_1 < (l0.length : Int)) = true := qq c4; clear c4
    by_cases c5 : 0 ≤ x9_1
    ·rw [if_pos c5] at H
     have c5b0 : decide (0 ≤ x9_1) = true := qq c5; clear c5
     by_cases c6 : x9_1 < (l0.length : Int)
     ·rw [if_pos c6] at H
      have c6b0 : decide (x9_1 < (l0.length : Int)) = true := qq c6; clear c6
      obtain ⟨y303, hy303⟩ : ∃ y_ : List (S38), y_ = (([(⟨(rd_T38 l0 x9_1).f0, (rd_T38 l0 x9_1).f1, (rd_T38 l0 x9_1).f2⟩ : S38)] : List (S38))) := ⟨_, rfl⟩
      replace H : ((impl_JoinSyllables.f k1 y303).bind fun t306 => (if x3_1.length < 8796093022208 then (impl_FormatSyllables.l0 k1 (x3_1 ++ [t306]) l0 (l0.length : Int) (wrap64 (x9_1 + 1))) else (none))) = some r := by first | (rw [hy303]; with_reducible exact H) | (have H2_ := (Option.bind_some _ _).symm.trans H; rw [hy303]; with_reducible exact H2_) | (have H2_ := (Option.bind_some _ _).symm.trans H; with_reducible exact H2_) | with_reducible exact H | (rw [hy303]; exact H) | exact H
      have Ny303 := qa hy303; clear hy303; obtain ⟨t306, A70, H⟩ := zb H; (try dsimp only at H); have A7 := qa A70; clear A70
      by_cases c8 : x3_1.length < 8796093022208
      ·rw [if_pos c8] at H
       have LMc8 := qa c8; clear c8
       obtain ⟨y307, hy307⟩ : ∃ y_ : List ByteArray, y_ = (x3_1 ++ [t306]) := ⟨_, rfl⟩
       replace H : (impl_FormatSyllables.l0 k1 y307 l0 (l0.length : Int) (wrap64 (x9_1 + 1))) = some r := by first | (rw [hy307]; with_reducible exact H) | (have H2_ := (Option.bind_some _ _).symm.trans H; rw [hy307]; with_reducible exact H2_) | (have H2_ := (Option.bind_some _ _).symm.trans H; with_reducible exact H2_) | with_reducible exact H | (rw [hy307]; exact H) | exact H
       have Ny307 := qa hy307; clear hy307; have H' := qa H; clear H; have p301 : 0 ≤ (x9_1 : Int) := qm (by assumption); have q301 : x9_1 < (l0.length : Int) := qm (by assumption); obtain ⟨ad301, e301, hx301_0, hx301_1, hx301_2⟩ := at_T38 HR0.out x9_1 p301 q301; cases e301; replace hx301_0 := (HB.out.cell (qf w _ hx301_0)).trans hx301_0; replace hx301_1 := (HB.out.cell (qf w _ hx301_1)).trans hx301_1; replace hx301_2 := (HB.out.cell (qf w _ hx301_2)).trans hx301_2; replace p301 := qaa p301; replace q301 := qaa q301
       go_wp2_with (first | ((with_reducible refine gate_dst (N := 5) rfl ?_); refine box_event ?hg (N := 5) ?hd (cs := #[.string (⟨#[]⟩ : ByteArray), .string (⟨#[]⟩ : ByteArray), .string (⟨#[]⟩ : ByteArray)]) (t := 38) ?hr ?_; (case hd => rfl); (case hg => rfl); (case hr => first | (go_simp; done) | (go_simp; rfl)); intro gb302 hg w9 hbox hb; have n0_ := qa (qoa (by (with_reducible repeat first | apply qx | apply qy | apply qz); exact HO_3.out) hb); have n1_ := qa (qba (by repeat (first | (with_reducible first | exact HB.out | apply qh | apply qe | apply qg) | exact HB.out)) hb); have n2_ := qa (hbox); have n3_ := qa ((by rw [hg]; exact (qp (by repeat (first | (with_reducible first | exact HB.out | apply qh | apply qe | apply qg) | exact HB.out))) : w.heap.size ≤ gb302)); have n4_ := qa ((by rw [hg]; exact (qp (by repeat (first | (with_reducible first | exact HB.out | apply qh | apply qe | apply qg) | exact HB.out))) : w.heap.size ≤ gb302)); clear HO_3; clear HB; have HO_3 := n0_; have HB := n1_; have BK302 := n2_; have GW302 := n3_; have GE302 := n4_; clear n0_ n1_ n2_ n3_ n4_; clear hb hbox hg; have hcz10_0 : w9.cell? ⟨gb302, 0, none⟩ = some (.string (⟨#[]⟩ : ByteArray)) := (qi BK302.out 0).trans rfl; have hcz10_1 : w9.cell? ⟨gb302, 1, none⟩ = some (.string (⟨#[]⟩ : ByteArray)) := (qi BK302.out 1).trans rfl; have hcz10_2 : w9.cell? ⟨gb302, 2, none⟩ = some (.string (⟨#[]⟩ : ByteArray)) := (qi BK302.out 2).trans rfl; have hfz10_0 := qo BK302.out 0; have hfz10_1 := qo BK302.out 1; have hfz10_2 := qo BK302.out 2) | ((with_reducible refine gate_dst (N := 15) rfl ?_); refine qza k38 _ 38 ?hg (N := 15) ?hd (xs := ([(⟨(rd_T38 l0 x9_1).f0, (rd_T38 l0 x9_1).f1, (rd_T38 l0 x9_1).f2⟩ : S38)] : List (S38))) (inner := [.string ((rd_T38 l0 x9_1).f0), .string ((rd_T38 l0 x9_1).f1), .string ((rd_T38 l0 x9_1).f2)]) (ok := fun _ => True) (okp := fun _ => True) ?hr ?hp (fun _ hk => hk) trivial (qwa _ _) (qva _) (by simp) ?_; (case hd => rfl); (case hg => rfl); (case hr => first | (go_simp; done) | (go_simp; rfl)); (case hp => exact (Reps.c3 (show Kd.M k38 _ _ _ (⟨(rd_T38 l0 x9_1).f0, (rd_T38 l0 x9_1).f1, (rd_T38 l0 x9_1).f2⟩ : S38) [.string ((rd_T38 l0 x9_1).f0), .string ((rd_T38 l0 x9_1).f1), .string ((rd_T38 l0 x9_1).f2)] from (k38_mkM _ _ _ (⟨(rd_T38 l0 x9_1).f0, (rd_T38 l0 x9_1).f1, (rd_T38 l0 x9_1).f2⟩ : S38) )) (Reps.none _ _))); intro v304 w11 ho12 hb hg_ hnew_; clear hg_ hnew_; (first | rw [← Ny303.out] at ho12 | (simp only [Int.reduceToNat] at ho12; rw [← Ny303.out] at ho12)); have n0_ := qa (qoa (by (with_reducible repeat first | apply qx | apply qy | apply qz); exact (qga (qua (p := ⟨gb302, 2, none⟩) (qua (p := ⟨gb302, 1, none⟩) (qua (p := ⟨gb302, 0, none⟩) (Kd.R_types HO_3.out BK302.out (by decide)) (fun _ hk => hk.2) (.string ((rd_T38 l0 x9_1).f0))) (fun _ hk => hk.2) (.string ((rd_T38 l0 x9_1).f1))) (fun _ hk => hk.2) (.string ((rd_T38 l0 x9_1).f2))) (fun _ h_ => h_.1))) hb); have n1_ := qa (qxa (Kd.R_newB ho12 (g := gb302) (o := .cells #[.string ((rd_T38 l0 x9_1).f0), .string ((rd_T38 l0 x9_1).f1), .string ((rd_T38 l0 x9_1).f2)] 38 (0, 0)) (by (with_reducible repeat first | apply ql | apply qn | apply qk); refine qta (cs := #[.string ((rd_T38 l0 x9_1).f0), .string ((rd_T38 l0 x9_1).f1), .string (⟨#[]⟩ : ByteArray)]) ?_ 2 _ rfl; (with_reducible repeat first | apply ql | apply qn | apply qk); refine qta (cs := #[.string ((rd_T38 l0 x9_1).f0), .string (⟨#[]⟩ : ByteArray), .string (⟨#[]⟩ : ByteArray)]) ?_ 1 _ rfl; (with_reducible repeat first | apply ql | apply qn | apply qk); refine qta (cs := #[.string (⟨#[]⟩ : ByteArray), .string (⟨#[]⟩ : ByteArray), .string (⟨#[]⟩ : ByteArray)]) ?_ 0 _ rfl; (with_reducible repeat first | apply ql | apply qn | apply qk); exact BK302.out)) (qp (by repeat (first | (with_reducible first | exact HB.out | apply qh | apply qe | apply qg | refine qj ?_ GE302.out) | exact HB.out)))); have n2_ := qa (blk_below (g := gb302) (o := .cells #[.string ((rd_T38 l0 x9_1).f0), .string ((rd_T38 l0 x9_1).f1), .string ((rd_T38 l0 x9_1).f2)] 38 (0, 0)) (by (with_reducible repeat first | apply ql | apply qn | apply qk); refine qta (cs := #[.string ((rd_T38 l0 x9_1).f0), .string ((rd_T38 l0 x9_1).f1), .string (⟨#[]⟩ : ByteArray)]) ?_ 2 _ rfl; (with_reducible repeat first | apply ql | apply qn | apply qk); refine qta (cs := #[.string ((rd_T38 l0 x9_1).f0), .string (⟨#[]⟩ : ByteArray), .string (⟨#[]⟩ : ByteArray)]) ?_ 1 _ rfl; (with_reducible repeat first | apply ql | apply qn | apply qk); refine qta (cs := #[.string (⟨#[]⟩ : ByteArray), .string (⟨#[]⟩ : ByteArray), .string (⟨#[]⟩ : ByteArray)]) ?_ 0 _ rfl; (with_reducible repeat first | apply ql | apply qn | apply qk); exact BK302.out) hb); have n3_ := qa (qba (by repeat (first | (with_reducible first | exact HB.out | apply qh | apply qe | apply qg | refine qj ?_ GE302.out) | exact HB.out)) hb); clear HO_3; clear BK302; clear HB; have HO_3 := n0_; have HO305 := n1_; have BK302 := n2_; have HB := n3_; clear n0_ n1_ n2_ n3_; clear hb ho12; obtain ⟨Ao13, co13, eo13⟩ := Kd.R_slice HO305.out; subst eo13) | ((with_reducible refine qqa (f := 24) rfl ?_); refine goesL_ (some 16) rfl rfl Try.func24 (by kernel_rfl) rfl #[.slice Ao13 y303.length co13] rfl (by (try simp only [qs, qv, qw]); first | done | rfl | (simp only [qu, qt]; rfl)) ?_; (with_reducible refine (impl_JoinSyllables.calls k1 _ _ y303 t306 _ ?side1 ?side2 A7.out).mono ?_); (case side1 => repeat (first | exact (qra HO305.out).2.2 | (with_reducible first | apply qda | apply qea | apply qfa))); (case side2 => exact (qra HO305.out).2.1); rintro e w14 ⟨rfl, hb⟩; refine ⟨_, rfl, ?_⟩; have n0_ := qa (qoa (by (with_reducible repeat first | apply qx | apply qy | apply qz); exact HO_3.out) hb); have n1_ := qa (qoa (by (with_reducible repeat first | apply qx | apply qy | apply qz); exact HO305.out) hb); have n2_ := qa (blk_below (g := gb302) (o := .cells #[.string ((rd_T38 l0 x9_1).f0), .string ((rd_T38 l0 x9_1).f1), .string ((rd_T38 l0 x9_1).f2)] 38 (0, 0)) (by (with_reducible repeat first | apply ql | apply qn | apply qk); exact BK302.out) hb); have n3_ := qa (qba (by repeat (first | (with_reducible first | exact HB.out | apply qh | apply qe | apply qg | refine qj ?_ GE302.out) | exact HB.out)) hb); clear HO_3; clear HO305; clear BK302; clear HB; have HO_3 := n0_; have HO305 := n1_; have BK302 := n2_; have HB := n3_; clear n0_ n1_ n2_ n3_; (try clear hb); (try clear hb2); (try clear hk); (try clear hi)) | ((with_reducible refine gate_builtin (b := .append) (xs := #[.tmp 13, .tmp 17]) rfl ?_); at_builtin; refine Kd.R_append Kd.string (w0 := w) w.heap.size rfl (.tmp 13) (.tmp 17) 25 9 (.string ⟨#[]⟩) 16 rfl Try.underlying25 info9 rfl (by decide) (by omega) u3 x3_1 t306 [.string t306] (fun _ => True) (fun _ => False) rfl rfl ?aP (fun _ hk => hk.elim) ?aF ?aO ?aB ?aS ?aL ?_; (case aP => exact rfl); (case aB => exact (by repeat (first | (with_reducible first | exact HB.out | apply qh | apply qe | apply qg | refine qj ?_ GE302.out) | exact HB.out))); (case aF => exact (fun _ _ => trivial)); (case aO => exact (by (with_reducible repeat first | apply qx | apply qy | apply qz); exact HO_3.out)); (case aS => exact (qp (by repeat (first | (with_reducible first | exact HB.out | apply qh | apply qe | apply qg | refine qj ?_ GE302.out) | exact HB.out)))); (case aL => have := LMc8.out; omega); intro v308 w15 ho hb hg hat; rw [← Ny307.out] at ho; have n0_ := qa (blk_grown (g := gb302) (o := .cells #[.string ((rd_T38 l0 x9_1).f0), .string ((rd_T38 l0 x9_1).f1), .string ((rd_T38 l0 x9_1).f2)] 38 (0, 0)) (by (with_reducible repeat first | apply ql | apply qn | apply qk); exact BK302.out) hg (Kd.R_ne HO_3.out BK302.out (by decide))); have n1_ := qa (Kd.R_over' (by (with_reducible repeat first | apply qx | apply qy | apply qz); exact HO305.out) (Kd.R_typed (by (with_reducible repeat first | apply qx | apply qy | apply qz); exact HO_3.out)) (by decide) hg); have n2_ := qa (hb); have n3_ := qa (ho); clear BK302; clear HO305; clear HB; clear HO_3; have BK302 := n0_; have HO305 := n1_; have HB := n2_; have HO309 := n3_; clear n0_ n1_ n2_ n3_; clear ho hb hg hat))
       go_roundg k1
       case measure => have := HK1.out; omega
       case rel => exact ⟨(y307), (wrap64 (x9_1 + 1)), (by first | rfl | (simp; done) | (simp [*]; done)), H', ⟨by have := HK1.out; omega⟩, ⟨by (with_reducible repeat first | apply qx | apply qy | apply qz); exact HO309.out⟩, ⟨by repeat (first | (with_reducible first | exact HB.out | apply qh | apply qe | apply qg | refine qj ?_ GE302.out) | exact HB.out)⟩⟩
      ·rw [if_neg c8] at H
       exact absurd H (by simp)
     ·rw [if_neg c6] at H
      exact absurd H (by simp)
    ·rw [if_neg c5] at H
     exact absurd H (by simp)
   ·rw [if_neg c4] at H
    have c4b0 : decide (x9_1 < (l0.length : Int)) = false := qr c4; clear c4; obtain ⟨t310, A160, H⟩ := zb H; (try dsimp only at H); have A16 := qa A160; clear A160; obtain rfl := qca H; obtain ⟨Ao17, co17, eo17⟩ := Kd.R_slice HO_3.out; subst eo17
    go_wp2_with (first | ((with_reducible refine qqa (f := 69) rfl ?_); refine goesL_ (some 21) rfl rfl Try.func69 (by kernel_rfl) rfl #[.slice Ao17 x3_1.length co17, .string (⟨#[46]⟩ : ByteArray)] rfl (by (try simp only [qs, qv, qw]); first | done | rfl | (simp only [qu, qt]; rfl)) ?_; (with_reducible refine (strings_Join.calls _ _ x3_1 (⟨#[46]⟩ : ByteArray) t310 _ ?side1 ?side2 A16.out).mono ?_); (case side1 => repeat (first | exact (qra HO_3.out).2.2 | (with_reducible first | apply qda | apply qea | apply qfa))); (case side2 => exact (qra HO_3.out).2.1); rintro e w18 ⟨rfl, hb⟩; refine ⟨_, rfl, ?_⟩; have n0_ := qa (qoa (by (with_reducible repeat first | apply qx | apply qy | apply qz); exact HO_3.out) hb); have n1_ := qa (qba (by repeat (first | (with_reducible first | exact HB.out | apply qh | apply qe | apply qg) | exact HB.out)) hb); clear HO_3; clear HB; have HO_3 := n0_; have HB := n1_; clear n0_ n1_; (try clear hb); (try clear hb2); (try clear hk); (try clear hi)))
    go_ret; exact ⟨by first | rfl | (simp [*] <;> rfl), by repeat (first | (with_reducible first | exact HB.out | apply qh | apply qe | apply qg) | exact HB.out)⟩
def spec_FormatSyllables.l0 : Nat → List (S38) → ByteArray → Int → Option (ByteArray)
 | 0, _, _, _ => none
 | k + 1, x0, x3, x4 => if x4 < (x0.length : Int) then (if x4 > 0 then (if x3.size + 1 ≤ 9223372036854775807 then (if 0 ≤ x4 then (if (x3 ++ (⟨#[46]⟩ : ByteArray)).size + ((rd_T38 x0 x4).f0).size ≤ 9223372036854775807 then (if ((x3 ++ (⟨#[46]⟩ : ByteArray)) ++ ((rd_T38 x0 x4).f0)).size + ((rd_T38 x0 x4).f1).size ≤ 9223372036854775807 then (if (((x3 ++ (⟨#[46]⟩ : ByteArray)) ++ ((rd_T38 x0 x4).f0)) ++ ((rd_T38 x0 x4).f1)).size + ((rd_T38 x0 x4).f2).size ≤ 9223372036854775807 then (spec_FormatSyllables.l0 k x0 ((((x3 ++ (⟨#[46]⟩ : ByteArray)) ++ ((rd_T38 x0 x4).f0)) ++ ((rd_T38 x0 x4).f1)) ++ ((rd_T38 x0 x4).f2)) (wrap64 (x4 + 1))) else (none)) else (none)) else (none)) else (none)) else (none)) else (if 0 ≤ x4 then (if x3.size + ((rd_T38 x0 x4).f0).size ≤ 9223372036854775807 then (if (x3 ++ ((rd_T38 x0 x4).f0)).size + ((rd_T38 x0 x4).f1).size ≤ 9223372036854775807 then (if ((x3 ++ ((rd_T38 x0 x4).f0)) ++ ((rd_T38 x0 x4).f1)).size + ((rd_T38 x0 x4).f2).size ≤ 9223372036854775807 then (spec_FormatSyllables.l0 k x0 (((x3 ++ ((rd_T38 x0 x4).f0)) ++ ((rd_T38 x0 x4).f1)) ++ ((rd_T38 x0 x4).f2)) (wrap64 (x4 + 1))) else (none)) else (none)) else (none)) else (none))) else (some x3)
def spec_FormatSyllables.f (k : Nat) (l0 : List (S38)) : Option (ByteArray) := spec_FormatSyllables.l0 k l0 (⟨#[]⟩ : ByteArray) 0
theorem spec_FormatSyllables.calls (k : Nat) (A0 : Option Addr) (c0 : Nat) (l0 : List (S38)) (r : ByteArray) (w : World) (hr0 : Kd.C k38 w A0 l0.length l0) (hc0 : l0.length ≤ c0) (h : spec_FormatSyllables.f k l0 = some r) :
  Calls Try.prog 26 #[.slice A0 l0.length c0] w fun e w' => e = .returned (.string r) ∧ Drawn0 w w' := by
 have HR0 := qa hr0; have HC0 := qa hc0; clear hr0 hc0; have H := h; unfold spec_FormatSyllables.f at H; clear h; have H' := qa H; clear H; go_enter Try.func26, Try.ntmps26; go_wp2
 repeat (go_quiet (fail); try go_wp2)
 go_loopg [3, 4] k (fun kq v3 v4 w' => ∃ (x3_1 : ByteArray) (x4_1 : Int), v3 = .string x3_1 ∧ v4 = .int .i64 x4_1 ∧ Aside0 (spec_FormatSyllables.l0 kq l0 x3_1 x4_1 = some r) ∧ Aside0 (kq ≤ k) ∧ Drawn0 w w')
 case atStart => exact ⟨((⟨#[]⟩ : ByteArray)), (0), (by first | rfl | (simp; done) | (simp [*]; done)), (by first | rfl | (simp; done) | (simp [*]; done)), H', ⟨qva _⟩, by repeat (first | exact Drawn0.refl _ | apply Drawn0.step)⟩
 case round =>
  clear H'; obtain ⟨x3_1, x4_1, rfl, rfl, HA, HK1, ⟨m1, rfl⟩⟩ := hrel
  cases gk with
  | zero => exact absurd HA.out (by simp [spec_FormatSyllables.l0])
  | succ k1 =>
   have H := HA.out; clear HA; simp only [spec_FormatSyllables.l0] at H
   by_cases c2 : x4_1 < (l0.length : Int)
   ·rw [if_pos c2] at H
    have c2b0 : decide (x4_1 < (l0.length : Int)) = true := qq c2; clear c2
    by_cases c3 : x4_1 > 0
    ·rw [if_pos c3] at H
     have c3b0 : decide (0 < x4_1) = true := qq c3; clear c3
     by_cases c4 : x3_1.size + 1 ≤ 9223372036854775807
     ·rw [if_pos c4] at H
      have c4b0 := qaa c4; have c4b1 : decide (x3_1.size + 1 ≤ 9223372036854775807) = true := qq c4
      try have c4b2 : (9223372036854775807 < x3_1.size + 1) = False := eq_false (Nat.not_lt.2 c4)
      by_cases c5 : 0 ≤ x4_1
      ·rw [if_pos c5] at H
       have c5b0 : decide (0 ≤ x4_1) = true := qq c5; clear c5
       by_cases c6 : (x3_1 ++ (⟨#[46]⟩ : ByteArray)).size + ((rd_T38 l0 x4_1).f0).size ≤ 9223372036854775807
       ·rw [if_pos c6] at H
        have c6b0 := qaa c6; have c6b1 : decide ((x3_1 ++ (⟨#[46]⟩ : ByteArray)).size + ((rd_T38 l0 x4_1).f0).size ≤ 9223372036854775807) = true := qq c6
        try have c6b2 : (9223372036854775807 < (x3_1 ++ (⟨#[46]⟩ : ByteArray)).size + ((rd_T38 l0 x4_1).f0).size) = False := eq_false (Nat.not_lt.2 c6)
        by_cases c7 : ((x3_1 ++ (⟨#[46]⟩ : ByteArray)) ++ ((rd_T38 l0 x4_1).f0)).size + ((rd_T38 l0 x4_1).f1).size ≤ 9223372036854775807
        ·rw [if_pos c7] at H
         have c7b0 := qaa c7; have c7b1 : decide (((x3_1 ++ (⟨#[46]⟩ : ByteArray)) ++ ((rd_T38 l0 x4_1).f0)).size + ((rd_T38 l0 x4_1).f1).size ≤ 9223372036854775807) = true := qq c7
         try have c7b2 : (9223372036854775807 < ((x3_1 ++ (⟨#[46]⟩ : ByteArray)) ++ ((rd_T38 l0 x4_1).f0)).size + ((rd_T38 l0 x4_1).f1).size) = False := eq_false (Nat.not_lt.2 c7)
         by_cases c8 : (((x3_1 ++ (⟨#[46]⟩ : ByteArray)) ++ ((rd_T38 l0 x4_1).f0)) ++ ((rd_T38 l0 x4_1).f1)).size + ((rd_T38 l0 x4_1).f2).size ≤ 9223372036854775807
         ·rw [if_pos c8] at H
          have c8b0 := qaa c8; have c8b1 : decide ((((x3_1 ++ (⟨#[46]⟩ : ByteArray)) ++ ((rd_T38 l0 x4_1).f0)) ++ ((rd_T38 l0 x4_1).f1)).size + ((rd_T38 l0 x4_1).f2).size ≤ 9223372036854775807) = true := qq c8
          try have c8b2 : (9223372036854775807 < (((x3_1 ++ (⟨#[46]⟩ : ByteArray)) ++ ((rd_T38 l0 x4_1).f0)) ++ ((rd_T38 l0 x4_1).f1)).size + ((rd_T38 l0 x4_1).f2).size) = False := eq_false (Nat.not_lt.2 c8)
          have H' := qa H; clear H; have p311 : 0 ≤ (x4_1 : Int) := qm (by assumption); have q311 : x4_1 < (l0.length : Int) := qm (by assumption); obtain ⟨ad311, e311, hx311_0, hx311_1, hx311_2⟩ := at_T38 HR0.out x4_1 p311 q311; cases e311; replace p311 := qaa p311; replace q311 := qaa q311; have p312 : 0 ≤ (x4_1 : Int) := qm (by assumption); have q312 : x4_1 < (l0.length : Int) := qm (by assumption); obtain ⟨ad312, e312, hx312_0, hx312_1, hx312_2⟩ := at_T38 HR0.out x4_1 p312 q312
          obtain rfl : ad311 = ad312 := (by injection e312)
          replace p312 := qaa p312; replace q312 := qaa q312; have p313 : 0 ≤ (x4_1 : Int) := qm (by assumption); have q313 : x4_1 < (l0.length : Int) := qm (by assumption); obtain ⟨ad313, e313, hx313_0, hx313_1, hx313_2⟩ := at_T38 HR0.out x4_1 p313 q313
          obtain rfl : ad311 = ad313 := (by injection e313)
          replace p313 := qaa p313; replace q313 := qaa q313; go_wp2
          repeat (go_quiet (fail); try go_wp2)
          go_roundg k1
          case measure => have := HK1.out; omega
          case rel => exact ⟨((((x3_1 ++ (⟨#[46]⟩ : ByteArray)) ++ ((rd_T38 l0 x4_1).f0)) ++ ((rd_T38 l0 x4_1).f1)) ++ ((rd_T38 l0 x4_1).f2)), (wrap64 (x4_1 + 1)), (by first | rfl | (simp; done) | (simp [*]; done)), (by first | rfl | (simp; done) | (simp [*]; done)), H', ⟨by have := HK1.out; omega⟩, by repeat (first | exact Drawn0.refl _ | apply Drawn0.step)⟩
         ·rw [if_neg c8] at H
          exact absurd H (by simp)
        ·rw [if_neg c7] at H
         exact absurd H (by simp)
       ·rw [if_neg c6] at H
        exact absurd H (by simp)
      ·rw [if_neg c5] at H
       exact absurd H (by simp)
     ·rw [if_neg c4] at H
      exact absurd H (by simp)
    ·rw [if_neg c3] at H
     have c3b0 : decide (0 < x4_1) = false := qr c3; clear c3
     by_cases c9 : 0 ≤ x4_1
     ·rw [if_pos c9] at H
      have c9b0 : decide (0 ≤ x4_1) = true := qq c9; clear c9
      by_cases c10 : x3_1.size + ((rd_T38 l0 x4_1).f0).size ≤ 9223372036854775807
      ·rw [if_pos c10] at H
       have c10b0 := qaa c10; have c10b1 : decide (x3_1.size + ((rd_T38 l0 x4_1).f0).size ≤ 9223372036854775807) = true := qq c10
       try have c10b2 : (9223372036854775807 < x3_1.size + ((rd_T38 l0 x4_1).f0).size) = False := eq_false (Nat.not_lt.2 c10)
       by_cases c11 : (x3_1 ++ ((rd_T38 l0 x4_1).f0)).size + ((rd_T38 l0 x4_1).f1).size ≤ 9223372036854775807
       ·rw [if_pos c11] at H
        have c11b0 := qaa c11; have c11b1 : decide ((x3_1 ++ ((rd_T38 l0 x4_1).f0)).size + ((rd_T38 l0 x4_1).f1).size ≤ 9223372036854775807) = true := qq c11
        try have c11b2 : (9223372036854775807 < (x3_1 ++ ((rd_T38 l0 x4_1).f0)).size + ((rd_T38 l0 x4_1).f1).size) = False := eq_false (Nat.not_lt.2 c11)
        by_cases c12 : ((x3_1 ++ ((rd_T38 l0 x4_1).f0)) ++ ((rd_T38 l0 x4_1).f1)).size + ((rd_T38 l0 x4_1).f2).size ≤ 9223372036854775807
        ·rw [if_pos c12] at H
         have c12b0 := qaa c12; have c12b1 : decide (((x3_1 ++ ((rd_T38 l0 x4_1).f0)) ++ ((rd_T38 l0 x4_1).f1)).size + ((rd_T38 l0 x4_1).f2).size ≤ 9223372036854775807) = true := qq c12
         try have c12b2 : (9223372036854775807 < ((x3_1 ++ ((rd_T38 l0 x4_1).f0)) ++ ((rd_T38 l0 x4_1).f1)).size + ((rd_T38 l0 x4_1).f2).size) = False := eq_false (Nat.not_lt.2 c12)
         have H' := qa H; clear H; have p314 : 0 ≤ (x4_1 : Int) := qm (by assumption); have q314 : x4_1 < (l0.length : Int) := qm (by assumption); obtain ⟨ad314, e314, hx314_0, hx314_1, hx314_2⟩ := at_T38 HR0.out x4_1 p314 q314; cases e314; replace p314 := qaa p314; replace q314 := qaa q314; have p315 : 0 ≤ (x4_1 : Int) := qm (by assumption); have q315 : x4_1 < (l0.length : Int) := qm (by assumption); obtain ⟨ad315, e315, hx315_0, hx315_1, hx315_2⟩ := at_T38 HR0.out x4_1 p315 q315
         obtain rfl : ad314 = ad315 := (by injection e315)
         replace p315 := qaa p315; replace q315 := qaa q315; have p316 : 0 ≤ (x4_1 : Int) := qm (by assumption); have q316 : x4_1 < (l0.length : Int) := qm (by assumption); obtain ⟨ad316, e316, hx316_0, hx316_1, hx316_2⟩ := at_T38 HR0.out x4_1 p316 q316
         obtain rfl : ad314 = ad316 := (by injection e316)
         replace p316 := qaa p316; replace q316 := qaa q316; go_wp2
         repeat (go_quiet (fail); try go_wp2)
         go_roundg k1
         case measure => have := HK1.out; omega
         case rel => exact ⟨(((x3_1 ++ ((rd_T38 l0 x4_1).f0)) ++ ((rd_T38 l0 x4_1).f1)) ++ ((rd_T38 l0 x4_1).f2)), (wrap64 (x4_1 + 1)), (by first | rfl | (simp; done) | (simp [*]; done)), (by first | rfl | (simp; done) | (simp [*]; done)), H', ⟨by have := HK1.out; omega⟩, by repeat (first | exact Drawn0.refl _ | apply Drawn0.step)⟩
        ·rw [if_neg c12] at H
         exact absurd H (by simp)
       ·rw [if_neg c11] at H
        exact absurd H (by simp)
      ·rw [if_neg c10] at H
       exact absurd H (by simp)
     ·rw [if_neg c9] at H
      exact absurd H (by simp)
   ·rw [if_neg c2] at H
    have c2b0 : decide (x4_1 < (l0.length : Int)) = false := qr c2; clear c2; obtain rfl := qca H; go_wp2
    repeat (go_quiet (fail); try go_wp2)
    go_ret; exact ⟨by first | rfl | (simp; done) | (simp [*]; done), by repeat (first | exact Drawn0.refl _ | apply Drawn0.step)⟩
end Go.Proofs.Ytkjpbhncgjhfeaa.PFnForms
