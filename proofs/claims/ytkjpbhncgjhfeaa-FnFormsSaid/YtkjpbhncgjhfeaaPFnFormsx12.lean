import Derived.Test.YtkjpbhncgjhfeaaPFnFormsx0
import Derived.Test.YtkjpbhncgjhfeaaPFnFormsx2
import Derived.Test.YtkjpbhncgjhfeaaPFnFormsx7
import Derived.Test.YtkjpbhncgjhfeaaPFnFormsx10
import Derived.Test.YtkjpbhncgjhfeaaPFnFormsx11
namespace Go.Proofs.Ytkjpbhncgjhfeaa.PFnForms
open Go.RowKit Go.Proofs.YtkjpbhncgjhfeaaW.PrintWords Go.Proofs.YtkjpbhncgjhfeaaW.PrintLast Go.Proofs.YtkjpbhncgjhfeaaW.PrintMore
attribute [local go_sem] max2_int min2_int max_two min_two max_three min_three max_four min_four
set_option linter.unusedVariables false
set_option linter.unusedSimpArgs false
set_option maxHeartbeats 8000000
set_option maxRecDepth 100000
def impl_IsRegular.l0 : Nat → List (S38) → List (S38) → Int → Int → Option (Bool)
 | 0, _, _, _, _ => none
 | k + 1, x3, x8, x9, x10 => if x10 < x9 then (if 0 ≤ x10 then (if x10 < (x8.length : Int) then (if (((rd_T38 x8 x10).f0).size : Int) = 1 then (if (((rd_T38 x8 x10).f2).size : Int) > 1 then (some false) else (impl_IsRegular.l0 k x3 x8 x9 (wrap64 (x10 + 1)))) else (some false)) else (none)) else (none)) else (some (decide ((x3.length : Int) > 0)))
def impl_IsRegular.f (k : Nat) (a0 : ByteArray) : Option (Bool) := (impl_SyllablesOf.f k a0).bind fun t317 => (impl_IsRegular.l0 k t317 t317 (t317.length : Int) 0)
theorem impl_IsRegular.calls (k : Nat) (a0 : ByteArray) (r : Bool) (w : World) (h : impl_IsRegular.f k a0 = some r) :
  Calls Try.prog 27 #[.string a0] w fun e w' => e = .returned (.bool r) ∧ Below w.heap.size w w' := by
 have hu38 := Try.underlying38; have HB := qa (qwa w.heap.size w); have H := h; unfold impl_IsRegular.f at H; clear h; obtain ⟨t317, A20, H⟩ := zb H; (try dsimp only at H); have A2 := qa A20; clear A20; have H' := qa H; clear H; go_enter Try.func27, Try.ntmps27
 go_wp2_with (first | ((with_reducible refine qqa (f := 21) rfl ?_); refine goesL_ (some 7) rfl rfl Try.func21 (by kernel_rfl) rfl #[.string a0] rfl (by (try simp only [qs, qv, qw]); first | done | rfl | (simp only [qu, qt]; rfl)) ?_; (with_reducible refine (impl_SyllablesOf.calls k a0 t317 _ A2.out).mono ?_); rintro e w3 ⟨v318, rfl, ho0, hb⟩; refine ⟨_, rfl, ?_⟩; have n0_ := qa (qxa ho0 (qp (by repeat (first | (with_reducible first | exact HB.out | apply qh | apply qe | apply qg) | exact HB.out)))); have n1_ := qa (qba (by repeat (first | (with_reducible first | exact HB.out | apply qh | apply qe | apply qg) | exact HB.out)) hb); clear HB; have HO319 := n0_; have HB := n1_; clear n0_ n1_; (try clear hb); (try clear hb2); (try clear hk); (try clear hi); (try clear ho0); obtain ⟨Ao4, co4, eo4⟩ := Kd.R_slice HO319.out; subst eo4))
 go_loopg [10] k (fun kq v10 w' => ∃ (x10_1 : Int), v10 = .int .i64 x10_1 ∧ Aside0 (impl_IsRegular.l0 kq t317 t317 (t317.length : Int) x10_1 = some r) ∧ Aside0 (kq ≤ k) ∧ Aside0 (Kd.R k38 38 w' w.heap.size (fun _ => True) (.slice Ao4 t317.length co4) t317) ∧ Aside0 (Kd.R k38 38 w' w.heap.size (fun _ => True) (.slice Ao4 t317.length co4) t317) ∧ Aside0 (Below w.heap.size w w'))
 case atStart => exact ⟨(0), (by first | rfl | (simp; done) | (simp [*]; done)), H', ⟨qva _⟩, ⟨by (with_reducible repeat first | apply qx | apply qy | apply qz); exact HO319.out⟩, ⟨by (with_reducible repeat first | apply qx | apply qy | apply qz); exact HO319.out⟩, ⟨by repeat (first | (with_reducible first | exact HB.out | apply qh | apply qe | apply qg) | exact HB.out)⟩⟩
 case round =>
  clear H'; (try clear c2); (try clear p2); obtain ⟨x10_1, rfl, HA, HK1, HO_3, HO_8, HB⟩ := hrel
  cases gk with
  | zero => exact absurd HA.out (by simp [impl_IsRegular.l0])
  | succ k1 =>
   have H := HA.out; clear HA; simp only [impl_IsRegular.l0] at H
   by_cases c5 : x10_1 < (t317.length : Int)
   ·rw [if_pos c5] at H
    have c5b0 : decide (x10_1 < (t317.length : Int)) = true := qq c5; clear c5
    by_cases c6 : 0 ≤ x10_1
    ·rw [if_pos c6] at H
     have c6b0 : decide (0 ≤ x10_1) = true := qq c6; clear c6
     by_cases c7 : x10_1 < (t317.length : Int)
     ·rw [if_pos c7] at H
      have c7b0 : decide (x10_1 < (t317.length : Int)) = true := qq c7; clear c7
      by_cases c8 : (((rd_T38 t317 x10_1).f0).size : Int) = 1
      ·rw [if_pos c8] at H
       have c8b0 : ((((rd_T38 t317 x10_1).f0).size : Int) == 1) = true := ze c8; have c8b1 : ((((rd_T38 t317 x10_1).f0).size : Int) != 1) = false := zc c8; clear c8
       by_cases c9 : (((rd_T38 t317 x10_1).f2).size : Int) > 1
       ·rw [if_pos c9] at H
        have c9b0 : decide (1 < (((rd_T38 t317 x10_1).f2).size : Int)) = true := qq c9; have c9b1 : decide (1 < ((rd_T38 t317 x10_1).f2).size) = true := qq (by omega); clear c9; obtain rfl := qca H; have p320 : 0 ≤ (x10_1 : Int) := qm (by assumption); have q320 : x10_1 < (t317.length : Int) := qm (by assumption); obtain ⟨ad320, e320, hx320_0, hx320_1, hx320_2⟩ := at_T38 (qra HO_8.out).2.2 x10_1 p320 q320; cases e320; replace p320 := qaa p320; replace q320 := qaa q320
        go_wp2_with (first | ((with_reducible refine gate_dst (N := 5) rfl ?_); (try (refine gate_guard (by rfl) ?_; dsimp only)); refine box_event ?hg (N := 5) ?hd (cs := #[.string (⟨#[]⟩ : ByteArray), .string (⟨#[]⟩ : ByteArray), .string (⟨#[]⟩ : ByteArray)]) (t := 38) ?hr ?_; (case hd => rfl); (case hg => rfl); (case hr => first | (go_simp; done) | (go_simp; rfl)); intro gb321 hg w10 hbox hb; have n0_ := qa (qoa (Kd.R_elderB (by (with_reducible repeat first | apply qx | apply qy | apply qz); exact HO_3.out) gb321 (Nat.le_of_eq hg.symm)) hb); have n1_ := qa (qoa (Kd.R_elderB (by (with_reducible repeat first | apply qx | apply qy | apply qz); exact HO_8.out) gb321 (Nat.le_of_eq hg.symm)) hb); have n2_ := qa (qba (by repeat (first | (with_reducible first | exact HB.out | apply qh | apply qe | apply qg) | exact HB.out)) hb); have n3_ := qa (hbox); have n4_ := qa ((by rw [hg]; exact (qp (by repeat (first | (with_reducible first | exact HB.out | apply qh | apply qe | apply qg) | exact HB.out))) : w.heap.size ≤ gb321)); have n5_ := qa ((by rw [hg]; exact (qp (by repeat (first | (with_reducible first | exact HB.out | apply qh | apply qe | apply qg) | exact HB.out))) : w.heap.size ≤ gb321)); clear HO_3; clear HO_8; clear HB; have HO_3 := n0_; have HO_8 := n1_; have HB := n2_; have BK321 := n3_; have GW321 := n4_; have GE321 := n5_; clear n0_ n1_ n2_ n3_ n4_ n5_; clear hb hbox hg; have hcz11_0 : w10.cell? ⟨gb321, 0, none⟩ = some (.string (⟨#[]⟩ : ByteArray)) := (qi BK321.out 0).trans rfl; have hcz11_1 : w10.cell? ⟨gb321, 1, none⟩ = some (.string (⟨#[]⟩ : ByteArray)) := (qi BK321.out 1).trans rfl; have hcz11_2 : w10.cell? ⟨gb321, 2, none⟩ = some (.string (⟨#[]⟩ : ByteArray)) := (qi BK321.out 2).trans rfl; have hfz11_0 := qo BK321.out 0; have hfz11_1 := qo BK321.out 1; have hfz11_2 := qo BK321.out 2))
        go_ret; exact ⟨by first | rfl | (simp [*] <;> rfl), by repeat (first | (with_reducible first | exact HB.out | apply qh | apply qe | apply qg | refine qj ?_ GE321.out) | exact HB.out)⟩
       ·rw [if_neg c9] at H
        have c9b0 : decide (1 < (((rd_T38 t317 x10_1).f2).size : Int)) = false := qr c9; have c9b1 : decide (1 < ((rd_T38 t317 x10_1).f2).size) = false := qr (by omega); clear c9; have H' := qa H; clear H; have p320 : 0 ≤ (x10_1 : Int) := qm (by assumption); have q320 : x10_1 < (t317.length : Int) := qm (by assumption); obtain ⟨ad320, e320, hx320_0, hx320_1, hx320_2⟩ := at_T38 (qra HO_8.out).2.2 x10_1 p320 q320; cases e320; replace p320 := qaa p320; replace q320 := qaa q320
        go_wp2_with (first | ((with_reducible refine gate_dst (N := 5) rfl ?_); (try (refine gate_guard (by rfl) ?_; dsimp only)); refine box_event ?hg (N := 5) ?hd (cs := #[.string (⟨#[]⟩ : ByteArray), .string (⟨#[]⟩ : ByteArray), .string (⟨#[]⟩ : ByteArray)]) (t := 38) ?hr ?_; (case hd => rfl); (case hg => rfl); (case hr => first | (go_simp; done) | (go_simp; rfl)); intro gb321 hg w12 hbox hb; have n0_ := qa (qoa (Kd.R_elderB (by (with_reducible repeat first | apply qx | apply qy | apply qz); exact HO_3.out) gb321 (Nat.le_of_eq hg.symm)) hb); have n1_ := qa (qoa (Kd.R_elderB (by (with_reducible repeat first | apply qx | apply qy | apply qz); exact HO_8.out) gb321 (Nat.le_of_eq hg.symm)) hb); have n2_ := qa (qba (by repeat (first | (with_reducible first | exact HB.out | apply qh | apply qe | apply qg) | exact HB.out)) hb); have n3_ := qa (hbox); have n4_ := qa ((by rw [hg]; exact (qp (by repeat (first | (with_reducible first | exact HB.out | apply qh | apply qe | apply qg) | exact HB.out))) : w.heap.size ≤ gb321)); have n5_ := qa ((by rw [hg]; exact (qp (by repeat (first | (with_reducible first | exact HB.out | apply qh | apply qe | apply qg) | exact HB.out))) : w.heap.size ≤ gb321)); clear HO_3; clear HO_8; clear HB; have HO_3 := n0_; have HO_8 := n1_; have HB := n2_; have BK321 := n3_; have GW321 := n4_; have GE321 := n5_; clear n0_ n1_ n2_ n3_ n4_ n5_; clear hb hbox hg; have hcz13_0 : w12.cell? ⟨gb321, 0, none⟩ = some (.string (⟨#[]⟩ : ByteArray)) := (qi BK321.out 0).trans rfl; have hcz13_1 : w12.cell? ⟨gb321, 1, none⟩ = some (.string (⟨#[]⟩ : ByteArray)) := (qi BK321.out 1).trans rfl; have hcz13_2 : w12.cell? ⟨gb321, 2, none⟩ = some (.string (⟨#[]⟩ : ByteArray)) := (qi BK321.out 2).trans rfl; have hfz13_0 := qo BK321.out 0; have hfz13_1 := qo BK321.out 1; have hfz13_2 := qo BK321.out 2))
        go_roundg k1
        case measure => have := HK1.out; omega
        case rel => exact ⟨(wrap64 (x10_1 + 1)), (by first | rfl | (simp; done) | (simp [*]; done)), H', ⟨by have := HK1.out; omega⟩, ⟨by (with_reducible repeat first | apply qx | apply qy | apply qz); exact qga (qua (p := ⟨gb321, 2, none⟩) (qua (p := ⟨gb321, 1, none⟩) (qua (p := ⟨gb321, 0, none⟩) (qga HO_3.out (fun k_ hk => (⟨hk, hk.2⟩ : _ ∧ k_ ≠ gb321))) (fun _ hk => hk.2) (.string ((rd_T38 t317 x10_1).f0))) (fun _ hk => hk.2) (.string ((rd_T38 t317 x10_1).f1))) (fun _ hk => hk.2) (.string ((rd_T38 t317 x10_1).f2))) (fun _ hk => trivial)⟩, ⟨by (with_reducible repeat first | apply qx | apply qy | apply qz); exact qga (qua (p := ⟨gb321, 2, none⟩) (qua (p := ⟨gb321, 1, none⟩) (qua (p := ⟨gb321, 0, none⟩) (qga HO_8.out (fun k_ hk => (⟨hk, hk.2⟩ : _ ∧ k_ ≠ gb321))) (fun _ hk => hk.2) (.string ((rd_T38 t317 x10_1).f0))) (fun _ hk => hk.2) (.string ((rd_T38 t317 x10_1).f1))) (fun _ hk => hk.2) (.string ((rd_T38 t317 x10_1).f2))) (fun _ hk => trivial)⟩, ⟨by repeat (first | (with_reducible first | exact HB.out | apply qh | apply qe | apply qg | refine qj ?_ GE321.out) | exact HB.out)⟩⟩
      ·rw [if_neg c8] at H
       have c8b0 : ((((rd_T38 t317 x10_1).f0).size : Int) == 1) = false := zd c8; have c8b1 : ((((rd_T38 t317 x10_1).f0).size : Int) != 1) = true := zf c8; obtain rfl := qca H; have p320 : 0 ≤ (x10_1 : Int) := qm (by assumption); have q320 : x10_1 < (t317.length : Int) := qm (by assumption); obtain ⟨ad320, e320, hx320_0, hx320_1, hx320_2⟩ := at_T38 (qra HO_8.out).2.2 x10_1 p320 q320; cases e320; replace p320 := qaa p320; replace q320 := qaa q320
       go_wp2_with (first | ((with_reducible refine gate_dst (N := 5) rfl ?_); (try (refine gate_guard (by rfl) ?_; dsimp only)); refine box_event ?hg (N := 5) ?hd (cs := #[.string (⟨#[]⟩ : ByteArray), .string (⟨#[]⟩ : ByteArray), .string (⟨#[]⟩ : ByteArray)]) (t := 38) ?hr ?_; (case hd => rfl); (case hg => rfl); (case hr => first | (go_simp; done) | (go_simp; rfl)); intro gb321 hg w14 hbox hb; have n0_ := qa (qoa (Kd.R_elderB (by (with_reducible repeat first | apply qx | apply qy | apply qz); exact HO_3.out) gb321 (Nat.le_of_eq hg.symm)) hb); have n1_ := qa (qoa (Kd.R_elderB (by (with_reducible repeat first | apply qx | apply qy | apply qz); exact HO_8.out) gb321 (Nat.le_of_eq hg.symm)) hb); have n2_ := qa (qba (by repeat (first | (with_reducible first | exact HB.out | apply qh | apply qe | apply qg) | exact HB.out)) hb); have n3_ := qa (hbox); have n4_ := qa ((by rw [hg]; exact (qp (by repeat (first | (with_reducible first | exact HB.out | apply qh | apply qe | apply qg) | exact HB.out))) : w.heap.size ≤ gb321)); have n5_ := qa ((by rw [hg]; exact (qp (by repeat (first | (with_reducible first | exact HB.out | apply qh | apply qe | apply qg) | exact HB.out))) : w.heap.size ≤ gb321)); clear HO_3; clear HO_8; clear HB; have HO_3 := n0_; have HO_8 := n1_; have HB := n2_; have BK321 := n3_; have GW321 := n4_; have GE321 := n5_; clear n0_ n1_ n2_ n3_ n4_ n5_; clear hb hbox hg; have hcz15_0 : w14.cell? ⟨gb321, 0, none⟩ = some (.string (⟨#[]⟩ : ByteArray)) := (qi BK321.out 0).trans rfl; have hcz15_1 : w14.cell? ⟨gb321, 1, none⟩ = some (.string (⟨#[]⟩ : ByteArray)) := (qi BK321.out 1).trans rfl; have hcz15_2 : w14.cell? ⟨gb321, 2, none⟩ = some (.string (⟨#[]⟩ : ByteArray)) := (qi BK321.out 2).trans rfl; have hfz15_0 := qo BK321.out 0; have hfz15_1 := qo BK321.out 1; have hfz15_2 := qo BK321.out 2))
       go_ret; exact ⟨by first | rfl | (simp [*] <;> rfl), by repeat (first | (with_reducible first | exact HB.out | apply qh | apply qe | apply qg | refine qj ?_ GE321.out) | exact HB.out)⟩
     ·rw [if_neg c7] at H
      exact absurd H (by simp)
    ·rw [if_neg c6] at H
     exact absurd H (by simp)
   ·rw [if_neg c5] at H
    have c5b0 : decide (x10_1 < (t317.length : Int)) = false := qr c5; clear c5; obtain rfl := qca H; go_wp2; go_ret; exact ⟨by first | rfl | (simp [*] <;> rfl), by repeat (first | (with_reducible first | exact HB.out | apply qh | apply qe | apply qg) | exact HB.out)⟩
def spec_IsRegular.l0 : Nat → List (S38) → Int → Option (Bool)
 | 0, _, _ => none
 | k + 1, x3, x4 => if x4 < (x3.length : Int) then (if 0 ≤ x4 then (if (((rd_T38 x3 x4).f0).size : Int) = 1 then (if (((rd_T38 x3 x4).f2).size : Int) > 1 then (some false) else (spec_IsRegular.l0 k x3 (wrap64 (x4 + 1)))) else (some false)) else (none)) else (some (decide ((x3.length : Int) > 0)))
def spec_IsRegular.f (k : Nat) (a0 : ByteArray) : Option (Bool) := (spec_SyllablesOf.f k a0).bind fun t322 => (spec_IsRegular.l0 k t322 0)
theorem spec_IsRegular.calls (k : Nat) (a0 : ByteArray) (r : Bool) (w : World) (h : spec_IsRegular.f k a0 = some r) :
  Calls Try.prog 28 #[.string a0] w fun e w' => e = .returned (.bool r) ∧ Below w.heap.size w w' := by
 have HB := qa (qwa w.heap.size w); have H := h; unfold spec_IsRegular.f at H; clear h; obtain ⟨t322, A20, H⟩ := zb H; (try dsimp only at H); have A2 := qa A20; clear A20; have H' := qa H; clear H; go_enter Try.func28, Try.ntmps28
 go_wp2_with (first | ((with_reducible refine qqa (f := 22) rfl ?_); refine goesL_ (some 6) rfl rfl Try.func22 (by kernel_rfl) rfl #[.string a0] rfl (by (try simp only [qs, qv, qw]); first | done | rfl | (simp only [qu, qt]; rfl)) ?_; (with_reducible refine (spec_SyllablesOf.calls k a0 t322 _ A2.out).mono ?_); rintro e w3 ⟨v323, rfl, ho0, hb⟩; refine ⟨_, rfl, ?_⟩; have n0_ := qa (qxa ho0 (qp (by repeat (first | (with_reducible first | exact HB.out | apply qh | apply qe | apply qg) | exact HB.out)))); have n1_ := qa (qba (by repeat (first | (with_reducible first | exact HB.out | apply qh | apply qe | apply qg) | exact HB.out)) hb); clear HB; have HO324 := n0_; have HB := n1_; clear n0_ n1_; (try clear hb); (try clear hb2); (try clear hk); (try clear hi); (try clear ho0)))
 go_loopg [4] k (fun kq v4 w' => ∃ (x4_1 : Int), v4 = .int .i64 x4_1 ∧ Aside0 (spec_IsRegular.l0 kq t322 x4_1 = some r) ∧ Aside0 (kq ≤ k) ∧ Aside0 (Kd.R k38 38 w' w.heap.size (fun _ => True) v323 t322) ∧ Aside0 (Below w.heap.size w w'))
 case atStart => exact ⟨(0), (by first | rfl | (simp; done) | (simp [*]; done)), H', ⟨qva _⟩, ⟨by (with_reducible repeat first | apply qx | apply qy | apply qz); exact HO324.out⟩, ⟨by repeat (first | (with_reducible first | exact HB.out | apply qh | apply qe | apply qg) | exact HB.out)⟩⟩
 case round =>
  clear H'; (try clear c2); (try clear p2); obtain ⟨x4_1, rfl, HA, HK1, HO_3, HB⟩ := hrel
  cases gk with
  | zero => exact absurd HA.out (by simp [spec_IsRegular.l0])
  | succ k1 =>
   have H := HA.out; clear HA; simp only [spec_IsRegular.l0] at H
   by_cases c4 : x4_1 < (t322.length : Int)
   ·rw [if_pos c4] at H
    have c4b0 : decide (x4_1 < (t322.length : Int)) = true := qq c4; clear c4
    by_cases c5 : 0 ≤ x4_1
    ·rw [if_pos c5] at H
     have c5b0 : decide (0 ≤ x4_1) = true := qq c5; clear c5
     by_cases c6 : (((rd_T38 t322 x4_1).f0).size : Int) = 1
     ·rw [if_pos c6] at H
      have c6b0 : ((((rd_T38 t322 x4_1).f0).size : Int) == 1) = true := ze c6; have c6b1 : ((((rd_T38 t322 x4_1).f0).size : Int) != 1) = false := zc c6; clear c6
      by_cases c7 : (((rd_T38 t322 x4_1).f2).size : Int) > 1
      ·rw [if_pos c7] at H
       have c7b0 : decide (1 < (((rd_T38 t322 x4_1).f2).size : Int)) = true := qq c7; have c7b1 : decide (1 < ((rd_T38 t322 x4_1).f2).size) = true := qq (by omega); clear c7; obtain rfl := qca H; obtain ⟨Ao8, co8, eo8⟩ := Kd.R_slice HO_3.out; subst eo8; have p325 : 0 ≤ (x4_1 : Int) := qm (by assumption); have q325 : x4_1 < (t322.length : Int) := qm (by assumption); obtain ⟨ad325, e325, hx325_0, hx325_1, hx325_2⟩ := at_T38 (qra HO_3.out).2.2 x4_1 p325 q325; cases e325; replace p325 := qaa p325; replace q325 := qaa q325; have p326 : 0 ≤ (x4_1 : Int) := qm (by assumption); have q326 : x4_1 < (t322.length : Int) := qm (by assumption); obtain ⟨ad326, e326, hx326_0, hx326_1, hx326_2⟩ := at_T38 (qra HO_3.out).2.2 x4_1 p326 q326
       obtain rfl : ad325 = ad326 := (by injection e326)
       replace p326 := qaa p326; replace q326 := qaa q326; go_wp2; go_ret; exact ⟨by first | rfl | (simp [*] <;> rfl), by repeat (first | (with_reducible first | exact HB.out | apply qh | apply qe | apply qg) | exact HB.out)⟩
      ·rw [if_neg c7] at H
       have c7b0 : decide (1 < (((rd_T38 t322 x4_1).f2).size : Int)) = false := qr c7; have c7b1 : decide (1 < ((rd_T38 t322 x4_1).f2).size) = false := qr (by omega); clear c7; have H' := qa H; clear H; obtain ⟨Ao9, co9, eo9⟩ := Kd.R_slice HO_3.out; subst eo9; have p325 : 0 ≤ (x4_1 : Int) := qm (by assumption); have q325 : x4_1 < (t322.length : Int) := qm (by assumption); obtain ⟨ad325, e325, hx325_0, hx325_1, hx325_2⟩ := at_T38 (qra HO_3.out).2.2 x4_1 p325 q325; cases e325; replace p325 := qaa p325; replace q325 := qaa q325; have p326 : 0 ≤ (x4_1 : Int) := qm (by assumption); have q326 : x4_1 < (t322.length : Int) := qm (by assumption); obtain ⟨ad326, e326, hx326_0, hx326_1, hx326_2⟩ := at_T38 (qra HO_3.out).2.2 x4_1 p326 q326
       obtain rfl : ad325 = ad326 := (by injection e326)
       replace p326 := qaa p326; replace q326 := qaa q326; go_wp2
       go_roundg k1
       case measure => have := HK1.out; omega
       case rel => exact ⟨(wrap64 (x4_1 + 1)), (by first | rfl | (simp; done) | (simp [*]; done)), H', ⟨by have := HK1.out; omega⟩, ⟨by (with_reducible repeat first | apply qx | apply qy | apply qz); exact HO_3.out⟩, ⟨by repeat (first | (with_reducible first | exact HB.out | apply qh | apply qe | apply qg) | exact HB.out)⟩⟩
     ·rw [if_neg c6] at H
      have c6b0 : ((((rd_T38 t322 x4_1).f0).size : Int) == 1) = false := zd c6; have c6b1 : ((((rd_T38 t322 x4_1).f0).size : Int) != 1) = true := zf c6; obtain rfl := qca H; obtain ⟨Ao10, co10, eo10⟩ := Kd.R_slice HO_3.out; subst eo10; have p325 : 0 ≤ (x4_1 : Int) := qm (by assumption); have q325 : x4_1 < (t322.length : Int) := qm (by assumption); obtain ⟨ad325, e325, hx325_0, hx325_1, hx325_2⟩ := at_T38 (qra HO_3.out).2.2 x4_1 p325 q325; cases e325; replace p325 := qaa p325; replace q325 := qaa q325; go_wp2; go_ret; exact ⟨by first | rfl | (simp [*] <;> rfl), by repeat (first | (with_reducible first | exact HB.out | apply qh | apply qe | apply qg) | exact HB.out)⟩
    ·rw [if_neg c5] at H
     exact absurd H (by simp)
   ·rw [if_neg c4] at H
    have c4b0 : decide (x4_1 < (t322.length : Int)) = false := qr c4; clear c4; obtain rfl := qca H; obtain ⟨Ao11, co11, eo11⟩ := Kd.R_slice HO_3.out; subst eo11; go_wp2; go_ret; exact ⟨by first | rfl | (simp [*] <;> rfl), by repeat (first | (with_reducible first | exact HB.out | apply qh | apply qe | apply qg) | exact HB.out)⟩
def impl_IsOpen.f (a0_0 : ByteArray) (a0_1 : ByteArray) (a0_2 : ByteArray) : Option (Bool) := some (a0_2.toList == ([] : List UInt8))
theorem impl_IsOpen.calls (a0_0 : ByteArray) (a0_1 : ByteArray) (a0_2 : ByteArray) (r : Bool) (w : World) (h : impl_IsOpen.f a0_0 a0_1 a0_2 = some r) :
  Calls Try.prog 29 #[.agg #[.string a0_0, .string a0_1, .string a0_2]] w fun e w' => e = .returned (.bool r) ∧ Below w.heap.size w w' := by
 have hu38 := Try.underlying38; have HB := qa (qwa w.heap.size w); have H := h; unfold impl_IsOpen.f at H; clear h; obtain rfl := qca H; go_enter Try.func29, Try.ntmps29
 go_wp2_with (first | ((with_reducible refine gate_dst (N := 1) rfl ?_); refine box_event ?hg (N := 1) ?hd (cs := #[.string a0_0, .string a0_1, .string a0_2]) (t := 38) ?hr ?_; (case hd => rfl); (case hg => rfl); (case hr => first | (go_simp; done) | (go_simp; rfl)); intro gb327 hg w2 hbox hb; have n0_ := qa (qba (by repeat (first | (with_reducible first | exact HB.out | apply qh | apply qe | apply qg) | exact HB.out)) hb); have n1_ := qa (hbox); have n2_ := qa ((by rw [hg]; exact (qp (by repeat (first | (with_reducible first | exact HB.out | apply qh | apply qe | apply qg) | exact HB.out))) : w.heap.size ≤ gb327)); have n3_ := qa ((by rw [hg]; exact (qp (by repeat (first | (with_reducible first | exact HB.out | apply qh | apply qe | apply qg) | exact HB.out))) : w.heap.size ≤ gb327)); clear HB; have HB := n0_; have BK327 := n1_; have GW327 := n2_; have GE327 := n3_; clear n0_ n1_ n2_ n3_; clear hb hbox hg; have hcz3_0 : w2.cell? ⟨gb327, 0, none⟩ = some (.string a0_0) := (qi BK327.out 0).trans rfl; have hcz3_1 : w2.cell? ⟨gb327, 1, none⟩ = some (.string a0_1) := (qi BK327.out 1).trans rfl; have hcz3_2 : w2.cell? ⟨gb327, 2, none⟩ = some (.string a0_2) := (qi BK327.out 2).trans rfl; have hfz3_0 := qo BK327.out 0; have hfz3_1 := qo BK327.out 1; have hfz3_2 := qo BK327.out 2))
 go_ret; exact ⟨by first | rfl | (simp [*] <;> rfl), by repeat (first | (with_reducible first | exact HB.out | apply qh | apply qe | apply qg | refine qj ?_ GE327.out) | exact HB.out)⟩
def spec_IsOpen.f (a0_0 : ByteArray) (a0_1 : ByteArray) (a0_2 : ByteArray) : Option (Bool) := some (a0_2.toList == ([] : List UInt8))
theorem spec_IsOpen.calls (a0_0 : ByteArray) (a0_1 : ByteArray) (a0_2 : ByteArray) (r : Bool) (w : World) (h : spec_IsOpen.f a0_0 a0_1 a0_2 = some r) :
  Calls Try.prog 30 #[.agg #[.string a0_0, .string a0_1, .string a0_2]] w fun e w' => e = .returned (.bool r) ∧ Below w.heap.size w w' := by
 have hu38 := Try.underlying38; have HB := qa (qwa w.heap.size w); have H := h; unfold spec_IsOpen.f at H; clear h; obtain rfl := qca H; go_enter Try.func30, Try.ntmps30
 go_wp2_with (first | ((with_reducible refine gate_dst (N := 1) rfl ?_); refine box_event ?hg (N := 1) ?hd (cs := #[.string a0_0, .string a0_1, .string a0_2]) (t := 38) ?hr ?_; (case hd => rfl); (case hg => rfl); (case hr => first | (go_simp; done) | (go_simp; rfl)); intro gb328 hg w2 hbox hb; have n0_ := qa (qba (by repeat (first | (with_reducible first | exact HB.out | apply qh | apply qe | apply qg) | exact HB.out)) hb); have n1_ := qa (hbox); have n2_ := qa ((by rw [hg]; exact (qp (by repeat (first | (with_reducible first | exact HB.out | apply qh | apply qe | apply qg) | exact HB.out))) : w.heap.size ≤ gb328)); have n3_ := qa ((by rw [hg]; exact (qp (by repeat (first | (with_reducible first | exact HB.out | apply qh | apply qe | apply qg) | exact HB.out))) : w.heap.size ≤ gb328)); clear HB; have HB := n0_; have BK328 := n1_; have GW328 := n2_; have GE328 := n3_; clear n0_ n1_ n2_ n3_; clear hb hbox hg; have hcz3_0 : w2.cell? ⟨gb328, 0, none⟩ = some (.string a0_0) := (qi BK328.out 0).trans rfl; have hcz3_1 : w2.cell? ⟨gb328, 1, none⟩ = some (.string a0_1) := (qi BK328.out 1).trans rfl; have hcz3_2 : w2.cell? ⟨gb328, 2, none⟩ = some (.string a0_2) := (qi BK328.out 2).trans rfl; have hfz3_0 := qo BK328.out 0; have hfz3_1 := qo BK328.out 1; have hfz3_2 := qo BK328.out 2))
 go_ret; exact ⟨by first | rfl | (simp [*] <;> rfl), by repeat (first | (with_reducible first | exact HB.out | apply qh | apply qe | apply qg | refine qj ?_ GE328.out) | exact HB.out)⟩
def impl_WeightOf.f (a0_0 : ByteArray) (a0_1 : ByteArray) (a0_2 : ByteArray) : Option (Int) := if a0_1.toList = ([] : List UInt8) then (some 0) else (if a0_2.toList = ([] : List UInt8) then (some 1) else (some 2))
theorem impl_WeightOf.calls (a0_0 : ByteArray) (a0_1 : ByteArray) (a0_2 : ByteArray) (r : Int) (w : World) (h : impl_WeightOf.f a0_0 a0_1 a0_2 = some r) :
  Calls Try.prog 31 #[.agg #[.string a0_0, .string a0_1, .string a0_2]] w fun e w' => e = .returned (.int .i64 r) ∧ Below w.heap.size w w' := by
 have hu38 := Try.underlying38; have HB := qa (qwa w.heap.size w); have H := h; unfold impl_WeightOf.f at H; clear h
 by_cases c2 : a0_1.toList = ([] : List UInt8)
 ·rw [if_pos c2] at H
  have c2b0 : (a0_1.toList == ([] : List UInt8)) = true := ze c2; have c2b1 : (a0_1.toList != ([] : List UInt8)) = false := zc c2; clear c2; obtain rfl := qca H; go_enter Try.func31, Try.ntmps31
  go_wp2_with (first | ((with_reducible refine gate_dst (N := 1) rfl ?_); refine box_event ?hg (N := 1) ?hd (cs := #[.string a0_0, .string a0_1, .string a0_2]) (t := 38) ?hr ?_; (case hd => rfl); (case hg => rfl); (case hr => first | (go_simp; done) | (go_simp; rfl)); intro gb329 hg w3 hbox hb; have n0_ := qa (qba (by repeat (first | (with_reducible first | exact HB.out | apply qh | apply qe | apply qg) | exact HB.out)) hb); have n1_ := qa (hbox); have n2_ := qa ((by rw [hg]; exact (qp (by repeat (first | (with_reducible first | exact HB.out | apply qh | apply qe | apply qg) | exact HB.out))) : w.heap.size ≤ gb329)); have n3_ := qa ((by rw [hg]; exact (qp (by repeat (first | (with_reducible first | exact HB.out | apply qh | apply qe | apply qg) | exact HB.out))) : w.heap.size ≤ gb329)); clear HB; have HB := n0_; have BK329 := n1_; have GW329 := n2_; have GE329 := n3_; clear n0_ n1_ n2_ n3_; clear hb hbox hg; have hcz4_0 : w3.cell? ⟨gb329, 0, none⟩ = some (.string a0_0) := (qi BK329.out 0).trans rfl; have hcz4_1 : w3.cell? ⟨gb329, 1, none⟩ = some (.string a0_1) := (qi BK329.out 1).trans rfl; have hcz4_2 : w3.cell? ⟨gb329, 2, none⟩ = some (.string a0_2) := (qi BK329.out 2).trans rfl; have hfz4_0 := qo BK329.out 0; have hfz4_1 := qo BK329.out 1; have hfz4_2 := qo BK329.out 2))
  go_ret; exact ⟨by first | rfl | (simp [*] <;> rfl), by repeat (first | (with_reducible first | exact HB.out | apply qh | apply qe | apply qg | refine qj ?_ GE329.out) | exact HB.out)⟩
 ·rw [if_neg c2] at H
  have c2b0 : (a0_1.toList == ([] : List UInt8)) = false := zd c2; have c2b1 : (a0_1.toList != ([] : List UInt8)) = true := zf c2
  by_cases c5 : a0_2.toList = ([] : List UInt8)
  ·rw [if_pos c5] at H
   have c5b0 : (a0_2.toList == ([] : List UInt8)) = true := ze c5; have c5b1 : (a0_2.toList != ([] : List UInt8)) = false := zc c5; clear c5; obtain rfl := qca H; go_enter Try.func31, Try.ntmps31
   go_wp2_with (first | ((with_reducible refine gate_dst (N := 1) rfl ?_); refine box_event ?hg (N := 1) ?hd (cs := #[.string a0_0, .string a0_1, .string a0_2]) (t := 38) ?hr ?_; (case hd => rfl); (case hg => rfl); (case hr => first | (go_simp; done) | (go_simp; rfl)); intro gb329 hg w6 hbox hb; have n0_ := qa (qba (by repeat (first | (with_reducible first | exact HB.out | apply qh | apply qe | apply qg) | exact HB.out)) hb); have n1_ := qa (hbox); have n2_ := qa ((by rw [hg]; exact (qp (by repeat (first | (with_reducible first | exact HB.out | apply qh | apply qe | apply qg) | exact HB.out))) : w.heap.size ≤ gb329)); have n3_ := qa ((by rw [hg]; exact (qp (by repeat (first | (with_reducible first | exact HB.out | apply qh | apply qe | apply qg) | exact HB.out))) : w.heap.size ≤ gb329)); clear HB; have HB := n0_; have BK329 := n1_; have GW329 := n2_; have GE329 := n3_; clear n0_ n1_ n2_ n3_; clear hb hbox hg; have hcz7_0 : w6.cell? ⟨gb329, 0, none⟩ = some (.string a0_0) := (qi BK329.out 0).trans rfl; have hcz7_1 : w6.cell? ⟨gb329, 1, none⟩ = some (.string a0_1) := (qi BK329.out 1).trans rfl; have hcz7_2 : w6.cell? ⟨gb329, 2, none⟩ = some (.string a0_2) := (qi BK329.out 2).trans rfl; have hfz7_0 := qo BK329.out 0; have hfz7_1 := qo BK329.out 1; have hfz7_2 := qo BK329.out 2))
   go_ret; exact ⟨by first | rfl | (simp [*] <;> rfl), by repeat (first | (with_reducible first | exact HB.out | apply qh | apply qe | apply qg | refine qj ?_ GE329.out) | exact HB.out)⟩
  ·rw [if_neg c5] at H
   have c5b0 : (a0_2.toList == ([] : List UInt8)) = false := zd c5; have c5b1 : (a0_2.toList != ([] : List UInt8)) = true := zf c5; obtain rfl := qca H; go_enter Try.func31, Try.ntmps31
   go_wp2_with (first | ((with_reducible refine gate_dst (N := 1) rfl ?_); refine box_event ?hg (N := 1) ?hd (cs := #[.string a0_0, .string a0_1, .string a0_2]) (t := 38) ?hr ?_; (case hd => rfl); (case hg => rfl); (case hr => first | (go_simp; done) | (go_simp; rfl)); intro gb329 hg w8 hbox hb; have n0_ := qa (qba (by repeat (first | (with_reducible first | exact HB.out | apply qh | apply qe | apply qg) | exact HB.out)) hb); have n1_ := qa (hbox); have n2_ := qa ((by rw [hg]; exact (qp (by repeat (first | (with_reducible first | exact HB.out | apply qh | apply qe | apply qg) | exact HB.out))) : w.heap.size ≤ gb329)); have n3_ := qa ((by rw [hg]; exact (qp (by repeat (first | (with_reducible first | exact HB.out | apply qh | apply qe | apply qg) | exact HB.out))) : w.heap.size ≤ gb329)); clear HB; have HB := n0_; have BK329 := n1_; have GW329 := n2_; have GE329 := n3_; clear n0_ n1_ n2_ n3_; clear hb hbox hg; have hcz9_0 : w8.cell? ⟨gb329, 0, none⟩ = some (.string a0_0) := (qi BK329.out 0).trans rfl; have hcz9_1 : w8.cell? ⟨gb329, 1, none⟩ = some (.string a0_1) := (qi BK329.out 1).trans rfl; have hcz9_2 : w8.cell? ⟨gb329, 2, none⟩ = some (.string a0_2) := (qi BK329.out 2).trans rfl; have hfz9_0 := qo BK329.out 0; have hfz9_1 := qo BK329.out 1; have hfz9_2 := qo BK329.out 2))
   go_ret; exact ⟨by first | rfl | (simp [*] <;> rfl), by repeat (first | (with_reducible first | exact HB.out | apply qh | apply qe | apply qg | refine qj ?_ GE329.out) | exact HB.out)⟩
def spec_WeightOf.f (a0_0 : ByteArray) (a0_1 : ByteArray) (a0_2 : ByteArray) : Option (Int) := if a0_1.toList = ([] : List UInt8) then (some 0) else (if a0_2.toList = ([] : List UInt8) then (some 1) else (some 2))
theorem spec_WeightOf.calls (a0_0 : ByteArray) (a0_1 : ByteArray) (a0_2 : ByteArray) (r : Int) (w : World) (h : spec_WeightOf.f a0_0 a0_1 a0_2 = some r) :
  Calls Try.prog 32 #[.agg #[.string a0_0, .string a0_1, .string a0_2]] w fun e w' => e = .returned (.int .i64 r) ∧ Below w.heap.size w w' := by
 have hu38 := Try.underlying38; have HB := qa (qwa w.heap.size w); have H := h; unfold spec_WeightOf.f at H; clear h
 by_cases c2 : a0_1.toList = ([] : List UInt8)
 ·rw [if_pos c2] at H
  have c2b0 : (a0_1.toList == ([] : List UInt8)) = true := ze c2; have c2b1 : (a0_1.toList != ([] : List UInt8)) = false := zc c2; clear c2; obtain rfl := qca H; go_enter Try.func32, Try.ntmps32
  go_wp2_with (first | ((with_reducible refine gate_dst (N := 1) rfl ?_); refine box_event ?hg (N := 1) ?hd (cs := #[.string a0_0, .string a0_1, .string a0_2]) (t := 38) ?hr ?_; (case hd => rfl); (case hg => rfl); (case hr => first | (go_simp; done) | (go_simp; rfl)); intro gb330 hg w3 hbox hb; have n0_ := qa (qba (by repeat (first | (with_reducible first | exact HB.out | apply qh | apply qe | apply qg) | exact HB.out)) hb); have n1_ := qa (hbox); have n2_ := qa ((by rw [hg]; exact (qp (by repeat (first | (with_reducible first | exact HB.out | apply qh | apply qe | apply qg) | exact HB.out))) : w.heap.size ≤ gb330)); have n3_ := qa ((by rw [hg]; exact (qp (by repeat (first | (with_reducible first | exact HB.out | apply qh | apply qe | apply qg) | exact HB.out))) : w.heap.size ≤ gb330)); clear HB; have HB := n0_; have BK330 := n1_; have GW330 := n2_; have GE330 := n3_; clear n0_ n1_ n2_ n3_; clear hb hbox hg; have hcz4_0 : w3.cell? ⟨gb330, 0, none⟩ = some (.string a0_0) := (qi BK330.out 0).trans rfl; have hcz4_1 : w3.cell? ⟨gb330, 1, none⟩ = some (.string a0_1) := (qi BK330.out 1).trans rfl; have hcz4_2 : w3.cell? ⟨gb330, 2, none⟩ = some (.string a0_2) := (qi BK330.out 2).trans rfl; have hfz4_0 := qo BK330.out 0; have hfz4_1 := qo BK330.out 1; have hfz4_2 := qo BK330.out 2))
  go_ret; exact ⟨by first | rfl | (simp [*] <;> rfl), by repeat (first | (with_reducible first | exact HB.out | apply qh | apply qe | apply qg | refine qj ?_ GE330.out) | exact HB.out)⟩
 ·rw [if_neg c2] at H
  have c2b0 : (a0_1.toList == ([] : List UInt8)) = false := zd c2; have c2b1 : (a0_1.toList != ([] : List UInt8)) = true := zf c2
  by_cases c5 : a0_2.toList = ([] : List UInt8)
  ·rw [if_pos c5] at H
   have c5b0 : (a0_2.toList == ([] : List UInt8)) = true := ze c5; have c5b1 : (a0_2.toList != ([] : List UInt8)) = false := zc c5; clear c5; obtain rfl := qca H; go_enter Try.func32, Try.ntmps32
   go_wp2_with (first | ((with_reducible refine gate_dst (N := 1) rfl ?_); refine box_event ?hg (N := 1) ?hd (cs := #[.string a0_0, .string a0_1, .string a0_2]) (t := 38) ?hr ?_; (case hd => rfl); (case hg => rfl); (case hr => first | (go_simp; done) | (go_simp; rfl)); intro gb330 hg w6 hbox hb; have n0_ := qa (qba (by repeat (first | (with_reducible first | exact HB.out | apply qh | apply qe | apply qg) | exact HB.out)) hb); have n1_ := qa (hbox); have n2_ := qa ((by rw [hg]; exact (qp (by repeat (first | (with_reducible first | exact HB.out | apply qh | apply qe | apply qg) | exact HB.out))) : w.heap.size ≤ gb330)); have n3_ := qa ((by rw [hg]; exact (qp (by repeat (first | (with_reducible first | exact HB.out | apply qh | apply qe | apply qg) | exact HB.out))) : w.heap.size ≤ gb330)); clear HB; have HB := n0_; have BK330 := n1_; have GW330 := n2_; have GE330 := n3_; clear n0_ n1_ n2_ n3_; clear hb hbox hg; have hcz7_0 : w6.cell? ⟨gb330, 0, none⟩ = some (.string a0_0) := (qi BK330.out 0).trans rfl; have hcz7_1 : w6.cell? ⟨gb330, 1, none⟩ = some (.string a0_1) := (qi BK330.out 1).trans rfl; have hcz7_2 : w6.cell? ⟨gb330, 2, none⟩ = some (.string a0_2) := (qi BK330.out 2).trans rfl; have hfz7_0 := qo BK330.out 0; have hfz7_1 := qo BK330.out 1; have hfz7_2 := qo BK330.out 2))
   go_ret; exact ⟨by first | rfl | (simp [*] <;> rfl), by repeat (first | (with_reducible first | exact HB.out | apply qh | apply qe | apply qg | refine qj ?_ GE330.out) | exact HB.out)⟩
  ·rw [if_neg c5] at H
   have c5b0 : (a0_2.toList == ([] : List UInt8)) = false := zd c5; have c5b1 : (a0_2.toList != ([] : List UInt8)) = true := zf c5; obtain rfl := qca H; go_enter Try.func32, Try.ntmps32
   go_wp2_with (first | ((with_reducible refine gate_dst (N := 1) rfl ?_); refine box_event ?hg (N := 1) ?hd (cs := #[.string a0_0, .string a0_1, .string a0_2]) (t := 38) ?hr ?_; (case hd => rfl); (case hg => rfl); (case hr => first | (go_simp; done) | (go_simp; rfl)); intro gb330 hg w8 hbox hb; have n0_ := qa (qba (by repeat (first | (with_reducible first | exact HB.out | apply qh | apply qe | apply qg) | exact HB.out)) hb); have n1_ := qa (hbox); have n2_ := qa ((by rw [hg]; exact (qp (by repeat (first | (with_reducible first | exact HB.out | apply qh | apply qe | apply qg) | exact HB.out))) : w.heap.size ≤ gb330)); have n3_ := qa ((by rw [hg]; exact (qp (by repeat (first | (with_reducible first | exact HB.out | apply qh | apply qe | apply qg) | exact HB.out))) : w.heap.size ≤ gb330)); clear HB; have HB := n0_; have BK330 := n1_; have GW330 := n2_; have GE330 := n3_; clear n0_ n1_ n2_ n3_; clear hb hbox hg; have hcz9_0 : w8.cell? ⟨gb330, 0, none⟩ = some (.string a0_0) := (qi BK330.out 0).trans rfl; have hcz9_1 : w8.cell? ⟨gb330, 1, none⟩ = some (.string a0_1) := (qi BK330.out 1).trans rfl; have hcz9_2 : w8.cell? ⟨gb330, 2, none⟩ = some (.string a0_2) := (qi BK330.out 2).trans rfl; have hfz9_0 := qo BK330.out 0; have hfz9_1 := qo BK330.out 1; have hfz9_2 := qo BK330.out 2))
   go_ret; exact ⟨by first | rfl | (simp [*] <;> rfl), by repeat (first | (with_reducible first | exact HB.out | apply qh | apply qe | apply qg | refine qj ?_ GE330.out) | exact HB.out)⟩
def spec_DrawIsVowelAt.f (k : Nat) (l0 : List Int) : Option (ByteArray × Int) := (spec_l1New.f k l0).bind fun bt331 => ((spec_l3Any.f k bt331.1 bt331.2.1 bt331.2.2).bind fun bt335 => ((spec_l1Below.f bt331.1 bt335.2.1 bt335.2.2 7).bind fun bt338 => (some (bt335.1, wrap64 (bt338.1 - 1)))))
theorem spec_DrawIsVowelAt.calls (k : Nat) (A0 : Option Addr) (c0 : Nat) (l0 : List Int) (r1 : ByteArray) (r2 : Int) (w : World) (hr0 : Kd.C (Kd.int .u8) w A0 l0.length l0) (hc0 : l0.length ≤ c0) (h : spec_DrawIsVowelAt.f k l0 = some (r1, r2)) :
  Calls Try.prog 33 #[.slice A0 l0.length c0] w fun e w' => e = .returned (.tuple #[.string r1, .int .i64 r2]) ∧ Below w.heap.size w w' := by
 have HR0 := qa hr0; have HC0 := qa hc0; clear hr0 hc0; have HB := qa (qwa w.heap.size w); have H := h; unfold spec_DrawIsVowelAt.f at H; clear h; obtain ⟨⟨t331, t332, t333⟩, A20, H⟩ := zb H; (try dsimp only at H); have A2 := qa A20; clear A20; obtain ⟨⟨t335, t336, t337⟩, A30, H⟩ := zb H; (try dsimp only at H); have A3 := qa A30; clear A30; obtain ⟨⟨t338, t339, t340⟩, A40, H⟩ := zb H; (try dsimp only at H); have A4 := qa A40; clear A40; simp only [Option.some.injEq, Prod.mk.injEq] at H; obtain ⟨rfl, rfl⟩ := H; go_enter Try.func33, Try.ntmps33
 go_wp2_with (first | ((with_reducible refine qqa (f := 61) rfl ?_); refine goesL_ (some 7) rfl rfl Try.func61 (by kernel_rfl) rfl #[.slice A0 l0.length c0] rfl (by (try simp only [qs, qv, qw]); first | done | rfl | (simp only [qu, qt]; rfl)) ?_; (with_reducible refine (spec_l1New.calls k _ _ l0 t331 t332 t333 w _ ?side1 ?side2 ?side3 A2.out).mono ?_); (case side1 => repeat (first | (with_reducible first | exact HB.out | apply qh | apply qe | apply qg) | exact HB.out)); (case side2 => exact HR0.out); (case side3 => exact HC0.out); rintro e w5 ⟨g334, rfl, hi, hb, hb2⟩; refine ⟨_, rfl, ?_⟩; have n0_ := qa (hb); have n1_ := qa (hi); clear HB; have HB := n0_; have HI334 := n1_; clear n0_ n1_; (try clear hb); (try clear hb2); (try clear hk); (try clear hi)) | ((with_reducible refine qqa (f := 60) rfl ?_); refine goesL_ (some 9) rfl rfl Try.func60 (by kernel_rfl) rfl #[.pointer (some ⟨g334, 0, none⟩)] rfl (by (try simp only [qs, qv, qw]); first | done | rfl | (simp only [qu, qt]; rfl)) ?_; (with_reducible refine (spec_l3Any.calls k g334 t331 t332 t333 t335 t336 t337 w _ ?side1 ?side2 A3.out).mono ?_); (case side1 => repeat (first | (with_reducible first | exact HI334.out | apply IsS74.alloc | apply IsS74.drewN | apply IsS74.drew | apply IsS74.set_1 | apply IsS74.set_2) | exact HI334.out)); (case side2 => repeat (first | (with_reducible first | exact HB.out | apply qh | apply qe | apply qg | refine qj ?_ (IsS74.ge HI334.out)) | exact HB.out)); rintro e w6 ⟨rfl, hi, hb, hk⟩; refine ⟨_, rfl, ?_⟩; have n0_ := qa (hb); have n1_ := qa (hi); clear HB; clear HI334; have HB := n0_; have HI334 := n1_; clear n0_ n1_; (try clear hb); (try clear hb2); (try clear hk); (try clear hi)) | ((with_reducible refine qqa (f := 68) rfl ?_); refine goesL_ (some 12) rfl rfl Try.func68 (by kernel_rfl) rfl #[.pointer (some ⟨g334, 0, none⟩), .int .i64 7] rfl (by (try simp only [qs, qv, qw]); first | done | rfl | (simp only [qu, qt]; rfl)) ?_; (with_reducible refine (spec_l1Below.calls g334 t331 t336 t337 7 t338 t339 t340 w _ ?side1 ?side2 A4.out).mono ?_); (case side1 => repeat (first | (with_reducible first | exact HI334.out | apply IsS74.alloc | apply IsS74.drewN | apply IsS74.drew | apply IsS74.set_1 | apply IsS74.set_2) | exact HI334.out)); (case side2 => repeat (first | (with_reducible first | exact HB.out | apply qh | apply qe | apply qg | refine qj ?_ (IsS74.ge HI334.out)) | exact HB.out)); rintro e w7 ⟨rfl, hi, hb, hk⟩; refine ⟨_, rfl, ?_⟩; have n0_ := qa (hb); have n1_ := qa (hi); clear HB; clear HI334; have HB := n0_; have HI334 := n1_; clear n0_ n1_; (try clear hb); (try clear hb2); (try clear hk); (try clear hi)))
 go_ret2; exact ⟨by first | rfl | (simp [*] <;> rfl), by repeat (first | (with_reducible first | exact HB.out | apply qh | apply qe | apply qg | refine qj ?_ (IsS74.ge HI334.out)) | exact HB.out)⟩
def spec_DrawFormsOf.f (k : Nat) (l0 : List Int) : Option (Int) := (spec_l1New.f k l0).bind fun bt341 => ((spec_l1Below.f bt341.1 bt341.2.1 bt341.2.2 6).bind fun bt345 => (some (wrap64 (bt345.1 - 1))))
theorem spec_DrawFormsOf.calls (k : Nat) (A0 : Option Addr) (c0 : Nat) (l0 : List Int) (r : Int) (w : World) (hr0 : Kd.C (Kd.int .u8) w A0 l0.length l0) (hc0 : l0.length ≤ c0) (h : spec_DrawFormsOf.f k l0 = some r) :
  Calls Try.prog 34 #[.slice A0 l0.length c0] w fun e w' => e = .returned (.int .i64 r) ∧ Below w.heap.size w w' := by
 have HR0 := qa hr0; have HC0 := qa hc0; clear hr0 hc0; have HB := qa (qwa w.heap.size w); have H := h; unfold spec_DrawFormsOf.f at H; clear h; obtain ⟨⟨t341, t342, t343⟩, A20, H⟩ := zb H; (try dsimp only at H); have A2 := qa A20; clear A20; obtain ⟨⟨t345, t346, t347⟩, A30, H⟩ := zb H; (try dsimp only at H); have A3 := qa A30; clear A30; obtain rfl := qca H; go_enter Try.func34, Try.ntmps34
 go_wp2_with (first | ((with_reducible refine qqa (f := 61) rfl ?_); refine goesL_ (some 4) rfl rfl Try.func61 (by kernel_rfl) rfl #[.slice A0 l0.length c0] rfl (by (try simp only [qs, qv, qw]); first | done | rfl | (simp only [qu, qt]; rfl)) ?_; (with_reducible refine (spec_l1New.calls k _ _ l0 t341 t342 t343 w _ ?side1 ?side2 ?side3 A2.out).mono ?_); (case side1 => repeat (first | (with_reducible first | exact HB.out | apply qh | apply qe | apply qg) | exact HB.out)); (case side2 => exact HR0.out); (case side3 => exact HC0.out); rintro e w4 ⟨g344, rfl, hi, hb, hb2⟩; refine ⟨_, rfl, ?_⟩; have n0_ := qa (hb); have n1_ := qa (hi); clear HB; have HB := n0_; have HI344 := n1_; clear n0_ n1_; (try clear hb); (try clear hb2); (try clear hk); (try clear hi)) | ((with_reducible refine qqa (f := 68) rfl ?_); refine goesL_ (some 5) rfl rfl Try.func68 (by kernel_rfl) rfl #[.pointer (some ⟨g344, 0, none⟩), .int .i64 6] rfl (by (try simp only [qs, qv, qw]); first | done | rfl | (simp only [qu, qt]; rfl)) ?_; (with_reducible refine (spec_l1Below.calls g344 t341 t342 t343 6 t345 t346 t347 w _ ?side1 ?side2 A3.out).mono ?_); (case side1 => repeat (first | (with_reducible first | exact HI344.out | apply IsS74.alloc | apply IsS74.drewN | apply IsS74.drew | apply IsS74.set_1 | apply IsS74.set_2) | exact HI344.out)); (case side2 => repeat (first | (with_reducible first | exact HB.out | apply qh | apply qe | apply qg | refine qj ?_ (IsS74.ge HI344.out)) | exact HB.out)); rintro e w5 ⟨rfl, hi, hb, hk⟩; refine ⟨_, rfl, ?_⟩; have n0_ := qa (hb); have n1_ := qa (hi); clear HB; clear HI344; have HB := n0_; have HI344 := n1_; clear n0_ n1_; (try clear hb); (try clear hb2); (try clear hk); (try clear hi)))
 go_ret; exact ⟨by first | rfl | (simp [*] <;> rfl), by repeat (first | (with_reducible first | exact HB.out | apply qh | apply qe | apply qg | refine qj ?_ (IsS74.ge HI344.out)) | exact HB.out)⟩
def impl_IsVowelAt.f (a0 : ByteArray) (a1 : Int) : Option (Bool) := (impl_within.f a1 0 (wrap64 ((a0.size : Int) - 1))).bind fun t348 => (if t348 = true then (if 0 ≤ a1 then (if a1 < (a0.size : Int) then ((impl_isVowel.f (bt a0 a1)).bind fun t349 => (some t349)) else (none)) else (none)) else (some false))
theorem impl_IsVowelAt.calls (a0 : ByteArray) (a1 : Int) (r : Bool) (w : World) (h : impl_IsVowelAt.f a0 a1 = some r) :
  Calls Try.prog 35 #[.string a0, .int .i64 a1] w fun e w' => e = .returned (.bool r) ∧ Below w.heap.size w w' := by
 have HB := qa (qwa w.heap.size w); have H := h; unfold impl_IsVowelAt.f at H; clear h; obtain ⟨t348, A30, H⟩ := zb H; (try dsimp only at H); have A3 := qa A30; clear A30
 by_cases c4 : t348 = true
 ·subst c4
  rw [if_pos rfl] at H; have H1 := H; clear H; have H := H1; clear H1
  by_cases c5 : 0 ≤ a1
  ·rw [if_pos c5] at H
   have c5b0 : decide (0 ≤ a1) = true := qq c5; clear c5
   by_cases c6 : a1 < (a0.size : Int)
   ·rw [if_pos c6] at H
    have c6b0 : decide (a1 < (a0.size : Int)) = true := qq c6; clear c6; obtain ⟨t349, A80, H⟩ := zb H; (try dsimp only at H); have A8 := qa A80; clear A80; obtain rfl := qca H; go_enter Try.func35, Try.ntmps35
    go_wp2_with (first | ((with_reducible refine qqa (f := 70) rfl ?_); refine goesL_ (some 9) rfl rfl Try.func70 (by kernel_rfl) rfl #[.int .i64 a1, .int .i64 0, .int .i64 (wrap64 ((a0.size : Int) - 1))] rfl (by (try simp only [qs, qv, qw]); first | done | rfl | (simp only [qu, qt]; rfl)) ?_; (with_reducible refine (impl_within.calls a1 0 (wrap64 ((a0.size : Int) - 1)) true _ A3.out).mono ?_); rintro e w' ⟨rfl, ⟨nd, rfl⟩⟩; refine ⟨_, rfl, ?_⟩; have p7 : 0 ≤ (a1 : Int) := qm (by assumption); have q7 : a1 < (a0.size : Int) := qm (by assumption); have hx7 := bt_at a0 a1; replace p7 := qaa p7; replace q7 := qaa q7) | (go_at_call 64; (with_reducible refine (impl_isVowel.calls (bt a0 a1) t349 _ A8.out).mono ?_); rintro e w9 ⟨rfl, hb⟩; have n0_ := qa (qba (by repeat (first | (with_reducible first | exact HB.out | apply qh | apply qe | apply qg) | exact HB.out)) hb); clear HB; have HB := n0_; clear n0_; (try clear hb); (try clear hb2); (try clear hk); (try clear hi)))
    go_ret; exact ⟨by first | rfl | (simp [*] <;> rfl), by repeat (first | (with_reducible first | exact HB.out | apply qh | apply qe | apply qg) | exact HB.out)⟩
   ·rw [if_neg c6] at H
    exact absurd H (by simp)
  ·rw [if_neg c5] at H
   exact absurd H (by simp)
 ·replace c4 := Bool.eq_false_iff.mpr c4
  subst c4; rw [if_neg (show ¬ (false = true) by decide)] at H; have H1 := H; clear H; have H := H1; clear H1; obtain rfl := qca H; go_enter Try.func35, Try.ntmps35
  go_wp2_with (first | ((with_reducible refine qqa (f := 70) rfl ?_); refine goesL_ (some 9) rfl rfl Try.func70 (by kernel_rfl) rfl #[.int .i64 a1, .int .i64 0, .int .i64 (wrap64 ((a0.size : Int) - 1))] rfl (by (try simp only [qs, qv, qw]); first | done | rfl | (simp only [qu, qt]; rfl)) ?_; (with_reducible refine (impl_within.calls a1 0 (wrap64 ((a0.size : Int) - 1)) false _ A3.out).mono ?_); rintro e w' ⟨rfl, ⟨nd, rfl⟩⟩; refine ⟨_, rfl, ?_⟩))
  go_ret; exact ⟨by first | rfl | (simp [*] <;> rfl), by repeat (first | (with_reducible first | exact HB.out | apply qh | apply qe | apply qg) | exact HB.out)⟩
mutual
def impl_FormsOf.l0 : Nat → List ByteArray → Int → Int → Option (List ByteArray)
 | 0, _, _, _ => none
 | k + 1, x3, x12, x13 => if x13 < x12 then (impl_FormsOf.l1 k (([] : List ByteArray)) x12 x13 x3 (x3.length : Int) 0) else (some x3)
def impl_FormsOf.l1 : Nat → List ByteArray → Int → Int → List ByteArray → Int → Int → Option (List ByteArray)
 | 0, _, _, _, _, _, _ => none
 | k + 1, x4, x12, x13, x16, x17, x18 => if x18 < x17 then (if 0 ≤ x18 then (if x18 < (x16.length : Int) then (impl_FormsOf.l2 k x4 (rdOf ByteArray.empty x16 x18) x12 x13 x16 x17 x18 0) else (none)) else (none)) else (impl_FormsOf.l0 k x4 x12 (wrap64 (x13 + 1)))
def impl_FormsOf.l2 : Nat → List ByteArray → ByteArray → Int → Int → List ByteArray → Int → Int → Int → Option (List ByteArray)
 | 0, _, _, _, _, _, _, _, _ => none
 | k + 1, x4, x6, x12, x13, x16, x17, x18, x22 => if x22 < 7 then (if 0 ≤ x22 then (if x22 ≤ (wrap64 (x22 + 1)) then (if (wrap64 (x22 + 1)) ≤ 7 then (if x6.size + ((⟨#[112, 116, 98, 100, 110, 97, 105]⟩ : ByteArray).extract (x22 : Int).toNat ((wrap64 (x22 + 1)) : Int).toNat).size ≤ 9223372036854775807 then (if x4.length < 8796093022208 then (impl_FormsOf.l2 k (x4 ++ [x6 ++ ((⟨#[112, 116, 98, 100, 110, 97, 105]⟩ : ByteArray).extract (x22 : Int).toNat ((wrap64 (x22 + 1)) : Int).toNat)]) x6 x12 x13 x16 x17 x18 (wrap64 (x22 + 1))) else (none)) else (none)) else (none)) else (none)) else (none)) else (impl_FormsOf.l1 k x4 x12 x13 x16 x17 (wrap64 (x18 + 1)))
end
def impl_FormsOf.f (k : Nat) (a0 : Int) : Option (List ByteArray) := (impl_within.f a0 0 3).bind fun t350 => (if t350 = true then (impl_FormsOf.l0 k (([(⟨#[]⟩ : ByteArray)] : List ByteArray)) a0 0) else (some ([] : List ByteArray)))
theorem impl_FormsOf.mono_l : ∀ k, (∀ y0 y1 y2, LeO (impl_FormsOf.l0 k y0 y1 y2) (impl_FormsOf.l0 (k + 1) y0 y1 y2)) ∧ (∀ y0 y1 y2 y3 y4 y5, LeO (impl_FormsOf.l1 k y0 y1 y2 y3 y4 y5) (impl_FormsOf.l1 (k + 1) y0 y1 y2 y3 y4 y5)) ∧ (∀ y0 y1 y2 y3 y4 y5 y6 y7, LeO (impl_FormsOf.l2 k y0 y1 y2 y3 y4 y5 y6 y7) (impl_FormsOf.l2 (k + 1) y0 y1 y2 y3 y4 y5 y6 y7))
 | 0 => ⟨fun _ _ _ r h => by simp [impl_FormsOf.l0] at h, fun _ _ _ _ _ _ r h => by simp [impl_FormsOf.l1] at h, fun _ _ _ _ _ _ _ _ r h => by simp [impl_FormsOf.l2] at h⟩
 | k + 1 => by
  obtain ⟨ih0, ih1, ih2⟩ := impl_FormsOf.mono_l k; refine ⟨?_, ?_, ?_⟩
  ·intro y0 y1 y2
   unfold impl_FormsOf.l0
   repeat' first
   | (with_reducible exact ih0 _ _ _)
   | (with_reducible exact ih1 _ _ _ _ _ _)
   | (with_reducible exact ih2 _ _ _ _ _ _ _ _)
   | (with_reducible exact LeO.refl _)
   | (with_reducible exact LeO.none _)
   | (with_reducible refine LeO.ite ?_ ?_)
   | (with_reducible refine LeO.bind ?_ (fun _ => ?_))
   | exact ih0 _ _ _
   | exact ih1 _ _ _ _ _ _
   | exact ih2 _ _ _ _ _ _ _ _
   | exact LeO.none _
   | refine LeO.ite ?_ ?_
   | refine LeO.bind ?_ (fun _ => ?_)
  ·intro y0 y1 y2 y3 y4 y5
   unfold impl_FormsOf.l1
   repeat' first
   | (with_reducible exact ih0 _ _ _)
   | (with_reducible exact ih1 _ _ _ _ _ _)
   | (with_reducible exact ih2 _ _ _ _ _ _ _ _)
   | (with_reducible exact LeO.refl _)
   | (with_reducible exact LeO.none _)
   | (with_reducible refine LeO.ite ?_ ?_)
   | (with_reducible refine LeO.bind ?_ (fun _ => ?_))
   | exact ih0 _ _ _
   | exact ih1 _ _ _ _ _ _
   | exact ih2 _ _ _ _ _ _ _ _
   | exact LeO.none _
   | refine LeO.ite ?_ ?_
   | refine LeO.bind ?_ (fun _ => ?_)
  ·intro y0 y1 y2 y3 y4 y5 y6 y7
   unfold impl_FormsOf.l2
   repeat' first
   | (with_reducible exact ih0 _ _ _)
   | (with_reducible exact ih1 _ _ _ _ _ _)
   | (with_reducible exact ih2 _ _ _ _ _ _ _ _)
   | (with_reducible exact LeO.refl _)
   | (with_reducible exact LeO.none _)
   | (with_reducible refine LeO.ite ?_ ?_)
   | (with_reducible refine LeO.bind ?_ (fun _ => ?_))
   | exact ih0 _ _ _
   | exact ih1 _ _ _ _ _ _
   | exact ih2 _ _ _ _ _ _ _ _
   | exact LeO.none _
   | refine LeO.ite ?_ ?_
   | refine LeO.bind ?_ (fun _ => ?_)
theorem impl_FormsOf.mono : ∀ a0 k, LeO (impl_FormsOf.f k a0) (impl_FormsOf.f (k + 1) a0) := by
 intro a0 k; obtain ⟨ih0, ih1, ih2⟩ := impl_FormsOf.mono_l k; unfold impl_FormsOf.f
 repeat' first
   | (with_reducible exact ih0 _ _ _)
   | (with_reducible exact ih1 _ _ _ _ _ _)
   | (with_reducible exact ih2 _ _ _ _ _ _ _ _)
   | (with_reducible exact LeO.refl _)
   | (with_reducible exact LeO.none _)
   | (with_reducible refine LeO.ite ?_ ?_)
   | (with_reducible refine LeO.bind ?_ (fun _ => ?_))
   | exact ih0 _ _ _
   | exact ih1 _ _ _ _ _ _
   | exact ih2 _ _ _ _ _ _ _ _
   | exact LeO.none _
   | refine LeO.ite ?_ ?_
   | refine LeO.bind ?_ (fun _ => ?_)
theorem impl_FormsOf.calls (k : Nat) (a0 : Int) (r : List ByteArray) (w : World) (h : impl_FormsOf.f k a0 = some r) :
  Calls Try.prog 37 #[.int .i64 a0] w fun e w' => ∃ v0_ : Value, e = .returned (v0_) ∧ Kd.R Kd.string 9 w' w.heap.size (fun _ => True) v0_ r ∧ Below w.heap.size w w' := by
 have HB := qa (qwa w.heap.size w); have H := h; unfold impl_FormsOf.f at H; clear h; obtain ⟨t350, A20, H⟩ := zb H; (try dsimp only at H); have A2 := qa A20; clear A20
 by_cases c3 : t350 = true
 ·subst c3
  rw [if_pos rfl] at H; have H1 := H; clear H; have H := H1; clear H1
  obtain ⟨y351, hy351⟩ : ∃ y_ : List ByteArray, y_ = (([(⟨#[]⟩ : ByteArray)] : List ByteArray)) := ⟨_, rfl⟩
  replace H : (impl_FormsOf.l0 k y351 a0 0) = some r := by first | (rw [hy351]; with_reducible exact H) | (have H2_ := (Option.bind_some _ _).symm.trans H; rw [hy351]; with_reducible exact H2_) | (have H2_ := (Option.bind_some _ _).symm.trans H; with_reducible exact H2_) | with_reducible exact H | (rw [hy351]; exact H) | exact H
  have Ny351 := qa hy351; clear hy351; have H' := qa H; clear H; go_enter Try.func37, Try.ntmps37
  go_wp2_with (first | ((with_reducible refine qqa (f := 70) rfl ?_); refine goesL_ (some 9) rfl rfl Try.func70 (by kernel_rfl) rfl #[.int .i64 a0, .int .i64 0, .int .i64 3] rfl (by (try simp only [qs, qv, qw]); first | done | rfl | (simp only [qu, qt]; rfl)) ?_; (with_reducible refine (impl_within.calls a0 0 3 true _ A2.out).mono ?_); rintro e w' ⟨rfl, ⟨nd, rfl⟩⟩; refine ⟨_, rfl, ?_⟩) | ((with_reducible refine gate_dst (N := 11) rfl ?_); refine qza Kd.string _ 9 ?hg (N := 11) ?hd (xs := ([(⟨#[]⟩ : ByteArray)] : List ByteArray)) (inner := [.string (⟨#[]⟩ : ByteArray)]) (ok := fun _ => True) (okp := fun _ => True) ?hr ?hp (fun _ hk => hk) trivial (qwa _ _) (qva _) (by simp) ?_; (case hd => rfl); (case hg => rfl); (case hr => first | (go_simp; done) | (go_simp; rfl)); (case hp => exact (Reps.one (show Kd.M Kd.string _ _ _ (⟨#[]⟩ : ByteArray) [.string (⟨#[]⟩ : ByteArray)] from rfl) (Reps.none _ _))); intro v352 w4 ho5 hb hg_ hnew_; clear hg_ hnew_; (first | rw [← Ny351.out] at ho5 | (simp only [Int.reduceToNat] at ho5; rw [← Ny351.out] at ho5)); have n0_ := qa (qxa ho5 (qp (by repeat (first | (with_reducible first | exact HB.out | apply qh | apply qe | apply qg) | exact HB.out)))); have n1_ := qa (qba (by repeat (first | (with_reducible first | exact HB.out | apply qh | apply qe | apply qg) | exact HB.out)) hb); clear HB; have HO353 := n0_; have HB := n1_; clear n0_ n1_; clear hb ho5))
  go_loopg [3, 13] k (fun kq v3 v13 w' => ∃ (x3_1 : List ByteArray) (x13_1 : Int), v13 = .int .i64 x13_1 ∧ Aside0 (impl_FormsOf.l0 kq x3_1 a0 x13_1 = some r) ∧ Aside0 (kq ≤ k) ∧ Aside0 (Kd.R Kd.string 9 w' w.heap.size (fun _ => True) v3 x3_1) ∧ Aside0 (Below w.heap.size w w'))
  case atStart => exact ⟨(y351), (0), (by first | rfl | (simp; done) | (simp [*]; done)), H', ⟨qva _⟩, ⟨by (with_reducible repeat first | apply qx | apply qy | apply qz); exact HO353.out⟩, ⟨by repeat (first | (with_reducible first | exact HB.out | apply qh | apply qe | apply qg) | exact HB.out)⟩⟩
  case round =>
   clear H'; (try clear p2); (try clear c3); obtain ⟨x3_1, x13_1, rfl, HA, HK1, HO_3, HB⟩ := hrel
   cases gk with
   | zero => exact absurd HA.out (by simp [impl_FormsOf.l0])
   | succ k1 =>
    have H := HA.out; clear HA; simp only [impl_FormsOf.l0] at H
    by_cases c6 : x13_1 < a0
    ·rw [if_pos c6] at H
     have c6b0 : decide (x13_1 < a0) = true := qq c6; clear c6
     obtain ⟨y354, hy354⟩ : ∃ y_ : List ByteArray, y_ = (([] : List ByteArray)) := ⟨_, rfl⟩
     replace H : (impl_FormsOf.l1 k1 y354 a0 x13_1 x3_1 (x3_1.length : Int) 0) = some r := by first | (rw [hy354]; with_reducible exact H) | (have H2_ := (Option.bind_some _ _).symm.trans H; rw [hy354]; with_reducible exact H2_) | (have H2_ := (Option.bind_some _ _).symm.trans H; with_reducible exact H2_) | with_reducible exact H | (rw [hy354]; exact H) | exact H
     have Ny354 := qa hy354; clear hy354; have H' := qa H; clear H
     go_wp2_with (first | ((with_reducible refine gate_dst (N := 15) rfl ?_); refine qza Kd.string _ 9 ?hg (N := 15) ?hd (xs := ([] : List ByteArray)) (inner := []) (ok := fun _ => True) (okp := fun _ => True) ?hr ?hp (fun _ hk => hk) trivial (qwa _ _) (qva _) (by simp) ?_; (case hd => rfl); (case hg => rfl); (case hr => first | (go_simp; done) | (go_simp; rfl)); (case hp => exact (Reps.none _ _)); intro v355 w7 ho8 hb hg_ hnew_; clear hg_ hnew_; (first | rw [← Ny354.out] at ho8 | (simp only [Int.reduceToNat] at ho8; rw [← Ny354.out] at ho8)); have n0_ := qa (qsa (by (with_reducible repeat first | apply qx | apply qy | apply qz); exact HO_3.out) (qya ho8) hb); have n1_ := qa (qxa (Kd.R_new' ho8 (Kd.R_lt (by (with_reducible repeat first | apply qx | apply qy | apply qz); exact HO_3.out))) (qp (by repeat (first | (with_reducible first | exact HB.out | apply qh | apply qe | apply qg) | exact HB.out)))); have n2_ := qa (qba (by repeat (first | (with_reducible first | exact HB.out | apply qh | apply qe | apply qg) | exact HB.out)) hb); clear HO_3; clear HB; have HO_3 := n0_; have HO356 := n1_; have HB := n2_; clear n0_ n1_ n2_; clear hb ho8; obtain ⟨Ao9, co9, eo9⟩ := Kd.R_slice HO_3.out; subst eo9))
     go_loopg [4, 18] k1 (fun kq v4 v18 w' => ∃ (x4_2 : List ByteArray) (x18_2 : Int), v18 = .int .i64 x18_2 ∧ Aside0 (impl_FormsOf.l1 kq x4_2 a0 x13_1 x3_1 (x3_1.length : Int) x18_2 = some r) ∧ Aside0 (kq ≤ k1) ∧ Aside0 (Kd.R Kd.string 9 w' w.heap.size (fun k_ => some k_ ≠ ((.slice Ao9 x3_1.length co9) : Value).ownBlock) v4 x4_2) ∧ Aside0 (Kd.R Kd.string 9 w' w.heap.size (fun k_ => some k_ ≠ (v4 : Value).ownBlock) (.slice Ao9 x3_1.length co9) x3_1) ∧ Aside0 (Below w.heap.size w w'))
     case atStart => exact ⟨(y354), (0), (by first | rfl | (simp; done) | (simp [*]; done)), H', ⟨qva _⟩, ⟨by (with_reducible repeat first | apply qx | apply qy | apply qz); exact qga HO356.out (fun _ hk => hk.2)⟩, ⟨by (with_reducible repeat first | apply qx | apply qy | apply qz); exact qga HO_3.out (fun _ hk => hk.2)⟩, ⟨by repeat (first | (with_reducible first | exact HB.out | apply qh | apply qe | apply qg) | exact HB.out)⟩⟩
     case round =>
      clear H'; (try clear p2); (try clear c3); (try clear c6); (try clear c6b0); (try clear c7); (try clear p2); obtain ⟨x4_2, x18_2, rfl, HA, HK2, HO_4, HO_16, HB⟩ := hrel
      cases gk with
      | zero => exact absurd HA.out (by simp [impl_FormsOf.l1])
      | succ k2 =>
       have H := HA.out; clear HA; simp only [impl_FormsOf.l1] at H
       by_cases c10 : x18_2 < (x3_1.length : Int)
       ·rw [if_pos c10] at H
        have c10b0 : decide (x18_2 < (x3_1.length : Int)) = true := qq c10; clear c10
        by_cases c11 : 0 ≤ x18_2
        ·rw [if_pos c11] at H
         have c11b0 : decide (0 ≤ x18_2) = true := qq c11; clear c11
         by_cases c12 : x18_2 < (x3_1.length : Int)
         ·rw [if_pos c12] at H
          have c12b0 : decide (x18_2 < (x3_1.length : Int)) = true := qq c12; clear c12; have H' := qa H; clear H; have p357 : 0 ≤ (x18_2 : Int) := qm (by assumption); have q357 : x18_2 < (x3_1.length : Int) := qm (by assumption); obtain ⟨ad357, e357, hx357_0⟩ := Kd.at_string (qra HO_16.out).2.2 x18_2 p357 q357; cases e357; replace p357 := qaa p357; replace q357 := qaa q357; go_wp2
          go_loopg [4, 22] k2 (fun kq v4 v22 w' => ∃ (x4_3 : List ByteArray) (x22_3 : Int), v22 = .int .i64 x22_3 ∧ Aside0 (impl_FormsOf.l2 kq x4_3 (rdOf ByteArray.empty x3_1 x18_2) a0 x13_1 x3_1 (x3_1.length : Int) x18_2 x22_3 = some r) ∧ Aside0 (kq ≤ k2) ∧ Aside0 (Kd.R Kd.string 9 w' w.heap.size (fun k_ => some k_ ≠ ((.slice (some ad357) x3_1.length co9) : Value).ownBlock) v4 x4_3) ∧ Aside0 (Kd.R Kd.string 9 w' w.heap.size (fun k_ => some k_ ≠ (v4 : Value).ownBlock) (.slice (some ad357) x3_1.length co9) x3_1) ∧ Aside0 (Below w.heap.size w w'))
          case atStart => exact ⟨(x4_2), (0), (by first | rfl | (simp; done) | (simp [*]; done)), H', ⟨qva _⟩, ⟨by (with_reducible repeat first | apply qx | apply qy | apply qz); exact HO_4.out⟩, ⟨by (with_reducible repeat first | apply qx | apply qy | apply qz); exact HO_16.out⟩, ⟨by repeat (first | (with_reducible first | exact HB.out | apply qh | apply qe | apply qg) | exact HB.out)⟩⟩
          case round =>
           clear H'; (try clear c1); (try clear p2); (try clear c3); (try clear p3); (try clear q3); (try clear hx3); (try clear c6); (try clear c6b0); (try clear c7); (try clear c10); (try clear c10b0); (try clear c11); (try clear c11b0); (try clear c12); (try clear c12b0); (try clear hx357_0); (try clear p2); (try clear p357); (try clear q357); obtain ⟨x4_3, x22_3, rfl, HA, HK3, HO_4, HO_16, HB⟩ := hrel
           cases gk with
           | zero => exact absurd HA.out (by simp [impl_FormsOf.l2])
           | succ k3 =>
            have H := HA.out; clear HA; simp only [impl_FormsOf.l2] at H
            by_cases c13 : x22_3 < 7
            ·rw [if_pos c13] at H
             have c13b0 : decide (x22_3 < 7) = true := qq c13; clear c13
             by_cases c14 : 0 ≤ x22_3
             ·rw [if_pos c14] at H
              have c14b0 := qaa c14; have c14b1 : decide (0 ≤ x22_3) = true := qq c14; clear c14
              by_cases c15 : x22_3 ≤ (wrap64 (x22_3 + 1))
              ·rw [if_pos c15] at H
               have c15b0 := qaa c15; have c15b1 : decide (x22_3 ≤ (wrap64 (x22_3 + 1))) = true := qq c15
               by_cases c16 : (wrap64 (x22_3 + 1)) ≤ 7
               ·rw [if_pos c16] at H
                have c16b0 := qaa c16; have c16b1 : decide ((wrap64 (x22_3 + 1)) ≤ 7) = true := qq c16
                by_cases c17 : (rdOf ByteArray.empty x3_1 x18_2).size + ((⟨#[112, 116, 98, 100, 110, 97, 105]⟩ : ByteArray).extract (x22_3 : Int).toNat ((wrap64 (x22_3 + 1)) : Int).toNat).size ≤ 9223372036854775807
                ·rw [if_pos c17] at H
                 have c17b0 := qaa c17; have c17b1 : decide ((rdOf ByteArray.empty x3_1 x18_2).size + ((⟨#[112, 116, 98, 100, 110, 97, 105]⟩ : ByteArray).extract (x22_3 : Int).toNat ((wrap64 (x22_3 + 1)) : Int).toNat).size ≤ 9223372036854775807) = true := qq c17; (try have c17x : (9223372036854775807 < (rdOf ByteArray.empty x3_1 x18_2).size + ((wrap64 (x22_3 + 1)).toNat - x22_3.toNat)) = False := eq_false (by have h_ := c17; (try simp only [decide_eq_true_eq] at *); (try simp only [ByteArray.size_append, ByteArray.size_extract] at h_); have hl0_ : (⟨#[112, 116, 98, 100, 110, 97, 105]⟩ : ByteArray).size = 7 := rfl; omega))
                 try have c17b2 : (9223372036854775807 < (rdOf ByteArray.empty x3_1 x18_2).size + ((⟨#[112, 116, 98, 100, 110, 97, 105]⟩ : ByteArray).extract (x22_3 : Int).toNat ((wrap64 (x22_3 + 1)) : Int).toNat).size) = False := eq_false (Nat.not_lt.2 c17)
                 by_cases c18 : x4_3.length < 8796093022208
                 ·rw [if_pos c18] at H
                  have LMc18 := qa c18; clear c18
                  obtain ⟨y358, hy358⟩ : ∃ y_ : List ByteArray, y_ = (x4_3 ++ [(rdOf ByteArray.empty x3_1 x18_2) ++ ((⟨#[112, 116, 98, 100, 110, 97, 105]⟩ : ByteArray).extract (x22_3 : Int).toNat ((wrap64 (x22_3 + 1)) : Int).toNat)]) := ⟨_, rfl⟩
                  replace H : (impl_FormsOf.l2 k3 y358 (rdOf ByteArray.empty x3_1 x18_2) a0 x13_1 x3_1 (x3_1.length : Int) x18_2 (wrap64 (x22_3 + 1))) = some r := by first | (rw [hy358]; with_reducible exact H) | (have H2_ := (Option.bind_some _ _).symm.trans H; rw [hy358]; with_reducible exact H2_) | (have H2_ := (Option.bind_some _ _).symm.trans H; with_reducible exact H2_) | with_reducible exact H | (rw [hy358]; exact H) | exact H
                  have Ny358 := qa hy358; clear hy358; have H' := qa H; clear H
                  go_wp2_with (first | ((with_reducible refine gate_builtin (b := .append) (xs := #[.tmp 25, .tmp 32]) rfl ?_); at_builtin; refine Kd.R_append Kd.string (w0 := w) w.heap.size rfl (.tmp 25) (.tmp 32) 25 9 (.string ⟨#[]⟩) 16 rfl Try.underlying25 info9 rfl (by decide) (by omega) u4 x4_3 ((rdOf ByteArray.empty x3_1 x18_2) ++ ((⟨#[112, 116, 98, 100, 110, 97, 105]⟩ : ByteArray).extract (x22_3 : Int).toNat ((wrap64 (x22_3 + 1)) : Int).toNat)) [.string ((rdOf ByteArray.empty x3_1 x18_2) ++ ((⟨#[112, 116, 98, 100, 110, 97, 105]⟩ : ByteArray).extract (x22_3 : Int).toNat ((wrap64 (x22_3 + 1)) : Int).toNat))] (fun k_ => some k_ ≠ (.slice (some ad357) x3_1.length co9 : Value).ownBlock) (fun _ => False) rfl rfl ?aP (fun _ hk => hk.elim) ?aF ?aO ?aB ?aS ?aL ?_; (case aP => exact rfl); (case aB => exact (by repeat (first | (with_reducible first | exact HB.out | apply qh | apply qe | apply qg) | exact HB.out))); (case aF => exact (fun k_ hk => Kd.fresh' (Kd.R_lt (by (with_reducible repeat first | apply qx | apply qy | apply qz); exact HO_16.out)) k_ hk)); (case aO => exact (by (with_reducible repeat first | apply qx | apply qy | apply qz); exact HO_4.out)); (case aS => exact (qp (by repeat (first | (with_reducible first | exact HB.out | apply qh | apply qe | apply qg) | exact HB.out)))); (case aL => have := LMc18.out; omega); intro v359 w19 ho hb hg hat; rw [← Ny358.out] at ho; have n0_ := qa (Kd.R_after (ok := (fun _ => True)) (by (with_reducible repeat first | apply qx | apply qy | apply qz); exact qga HO_16.out (fun _ hk => ⟨trivial, hk⟩)) hg hat); have n1_ := qa (hb); have n2_ := qa (ho); clear HO_16; clear HB; clear HO_4; have HO_16 := n0_; have HB := n1_; have HO360 := n2_; clear n0_ n1_ n2_; clear ho hb hg hat))
                  go_roundg k3
                  case measure => have := HK1.out; have := HK2.out; have := HK3.out; omega
                  case rel => exact ⟨(y358), (wrap64 (x22_3 + 1)), (by first | rfl | (simp; done) | (simp [*]; done)), H', ⟨by have := HK1.out; have := HK2.out; have := HK3.out; omega⟩, ⟨by (with_reducible repeat first | apply qx | apply qy | apply qz); exact HO360.out⟩, ⟨by (with_reducible repeat first | apply qx | apply qy | apply qz); exact qga HO_16.out (fun _ hk => hk.2)⟩, ⟨by repeat (first | (with_reducible first | exact HB.out | apply qh | apply qe | apply qg) | exact HB.out)⟩⟩
                 ·rw [if_neg c18] at H
                  exact absurd H (by simp)
                ·rw [if_neg c17] at H
                 exact absurd H (by simp)
               ·rw [if_neg c16] at H
                exact absurd H (by simp)
              ·rw [if_neg c15] at H
               exact absurd H (by simp)
             ·rw [if_neg c14] at H
              exact absurd H (by simp)
            ·rw [if_neg c13] at H
             have c13b0 : decide (x22_3 < 7) = false := qr c13; clear c13; have H' := qa H; clear H; go_wp2
             go_roundg k3
             case measure => have := HK1.out; have := HK2.out; have := HK3.out; omega
             case rel => exact ⟨(x4_3), (wrap64 (x18_2 + 1)), (by first | rfl | (simp; done) | (simp [*]; done)), H', ⟨by have := HK1.out; have := HK2.out; have := HK3.out; omega⟩, ⟨by (with_reducible repeat first | apply qx | apply qy | apply qz); exact HO_4.out⟩, ⟨by (with_reducible repeat first | apply qx | apply qy | apply qz); exact HO_16.out⟩, ⟨by repeat (first | (with_reducible first | exact HB.out | apply qh | apply qe | apply qg) | exact HB.out)⟩⟩
         ·rw [if_neg c12] at H
          exact absurd H (by simp)
        ·rw [if_neg c11] at H
         exact absurd H (by simp)
       ·rw [if_neg c10] at H
        have c10b0 : decide (x18_2 < (x3_1.length : Int)) = false := qr c10; clear c10; have H' := qa H; clear H; go_wp2
        go_roundg k2
        case measure => have := HK1.out; have := HK2.out; omega
        case rel => exact ⟨(x4_2), (wrap64 (x13_1 + 1)), (by first | rfl | (simp; done) | (simp [*]; done)), H', ⟨by have := HK1.out; have := HK2.out; omega⟩, ⟨by (with_reducible repeat first | apply qx | apply qy | apply qz); exact qga HO_4.out (fun _ hk => trivial)⟩, ⟨by repeat (first | (with_reducible first | exact HB.out | apply qh | apply qe | apply qg) | exact HB.out)⟩⟩
    ·rw [if_neg c6] at H
     have c6b0 : decide (x13_1 < a0) = false := qr c6; clear c6; obtain rfl := qca H; go_wp2; go_ret; exact ⟨_, by first | rfl | (simp [*] <;> rfl), by (with_reducible repeat first | apply qx | apply qy | apply qz); exact HO_3.out, by repeat (first | (with_reducible first | exact HB.out | apply qh | apply qe | apply qg) | exact HB.out)⟩
 ·replace c3 := Bool.eq_false_iff.mpr c3
  subst c3; rw [if_neg (show ¬ (false = true) by decide)] at H; have H1 := H; clear H; have H := H1; clear H1; obtain rfl := qca H; go_enter Try.func37, Try.ntmps37
  go_wp2_with (first | ((with_reducible refine qqa (f := 70) rfl ?_); refine goesL_ (some 9) rfl rfl Try.func70 (by kernel_rfl) rfl #[.int .i64 a0, .int .i64 0, .int .i64 3] rfl (by (try simp only [qs, qv, qw]); first | done | rfl | (simp only [qu, qt]; rfl)) ?_; (with_reducible refine (impl_within.calls a0 0 3 false _ A2.out).mono ?_); rintro e w' ⟨rfl, ⟨nd, rfl⟩⟩; refine ⟨_, rfl, ?_⟩))
  go_ret; exact ⟨_, by first | rfl | (simp [*] <;> rfl), by first | exact Kd.R_nil _ _ _ _ _ | exact Kd.N_nil _ _ _ _ _ | exact Kd.V_nil _ _ _ _ _ | exact Kd.Q_nil _ _ _ _ _ | exact Kd.S_nil _ _ _ _ _, by repeat (first | (with_reducible first | exact HB.out | apply qh | apply qe | apply qg) | exact HB.out)⟩
def spec_l1In.f (a0 : Int) (a1 : Int) (a2 : Int) : Option (Bool) := if a0 ≥ a1 then (some (decide (a0 ≤ a2))) else (some false)
theorem spec_l1In.calls (a0 : Int) (a1 : Int) (a2 : Int) (r : Bool) (w : World) (h : spec_l1In.f a0 a1 a2 = some r) :
  Calls Try.prog 71 #[.int .i64 a0, .int .i64 a1, .int .i64 a2] w fun e w' => e = .returned (.bool r) ∧ Drawn0 w w' := by
 have H := h; unfold spec_l1In.f at H; clear h
 by_cases c4 : a0 ≥ a1
 ·rw [if_pos c4] at H
  have c4b0 : decide (a1 ≤ a0) = true := qq c4; clear c4; obtain rfl := qca H; go_enter Try.func71, Try.ntmps71; go_wp2; go_ret; exact ⟨by first | rfl | (simp; done) | (simp [*]; done), by repeat (first | exact Drawn0.refl _ | apply Drawn0.step)⟩
 ·rw [if_neg c4] at H
  have c4b0 : decide (a1 ≤ a0) = false := qr c4; clear c4; obtain rfl := qca H; go_enter Try.func71, Try.ntmps71; go_wp2; go_ret; exact ⟨by first | rfl | (simp; done) | (simp [*]; done), by repeat (first | exact Drawn0.refl _ | apply Drawn0.step)⟩
end Go.Proofs.Ytkjpbhncgjhfeaa.PFnForms
