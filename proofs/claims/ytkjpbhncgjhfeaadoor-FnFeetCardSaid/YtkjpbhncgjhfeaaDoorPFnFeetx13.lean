import Derived.Test.YtkjpbhncgjhfeaaDoorPFnFeetx0
import Derived.Test.YtkjpbhncgjhfeaaDoorPFnFeetx6
namespace Go.Proofs.YtkjpbhncgjhfeaaDoor.PFnFeet
open Go.RowKit Go.Proofs.YtkjpbhncgjhfeaaDoorW.PrintWords Go.Proofs.YtkjpbhncgjhfeaaDoorW.PrintLast Go.Proofs.YtkjpbhncgjhfeaaDoorW.PrintMore
attribute [local go_sem] max2_int min2_int max_two min_two max_three min_three max_four min_four
set_option linter.unusedVariables false
set_option linter.unusedSimpArgs false
set_option maxHeartbeats 8000000
set_option maxRecDepth 100000
def strconv_Itoa.f (a0 : Int) : Option (ByteArray) := if 0 ≤ a0 ∧ a0 < 100 then some ⟨(Lib.decDigits a0.toNat).toArray⟩ else none
set_option maxHeartbeats 1000000 in
theorem strconv_Itoa.calls (a0 : Int) (r : ByteArray) (w : World) (h : strconv_Itoa.f a0 = some r) :
  Calls Tryd.prog 53 #[.int .i64 a0] w fun e w' => e = .returned (.string r) ∧ Drawn0 w w' := by
 unfold strconv_Itoa.f at h
 split at h
 ·rename_i hh
  obtain rfl := qia h
  obtain ⟨i, rfl⟩ : ∃ i : Nat, a0 = (i : Int) := ⟨a0.toNat, by omega⟩
  refine (Go.Proofs.Tryd.strconv_Itoa_small i (by omega) w).mono ?_; rintro e w' ⟨rfl, rfl⟩; exact ⟨by rw [Int.toNat_natCast], Drawn0.refl _⟩
 ·simp at h
def impl_FormatInt.f (a0 : Int) : Option (ByteArray) := (strconv_Itoa.f a0).bind fun t404 => (some t404)
theorem impl_FormatInt.calls (a0 : Int) (r : ByteArray) (w : World) (h : impl_FormatInt.f a0 = some r) :
  Calls Tryd.prog 35 #[.int .i64 a0] w fun e w' => e = .returned (.string r) ∧ Drawn0 w w' := by
 have H := h; unfold impl_FormatInt.f at H; clear h; obtain ⟨t404, A20, H⟩ := zb H; (try dsimp only at H); have A2 := qa A20; clear A20; obtain rfl := qia H; go_enter Tryd.func35, Tryd.ntmps35
 go_wp2_with (first | ((with_reducible refine qeb (f := 53) rfl ?_); refine goesL_ (some 4) rfl rfl Tryd.func53 (by kernel_rfl) rfl #[.int .i64 a0] rfl (by (try simp only [qs, qv, qw]); first | done | rfl | (simp only [qu, qt]; rfl)) ?_; (with_reducible refine (strconv_Itoa.calls a0 t404 _ A2.out).mono ?_); rintro e w' ⟨rfl, ⟨nd, rfl⟩⟩; refine ⟨_, rfl, ?_⟩))
 go_ret; exact ⟨by first | rfl | (simp; done) | (simp [*]; done), by repeat (first | exact Drawn0.refl _ | apply Drawn0.step)⟩
mutual
def impl_FormatFooting.l0 : Nat → ByteArray → List Int → Int → Int → Int → List (S59) → Int → Option (ByteArray)
 | 0, _, _, _, _, _, _, _ => none
 | k + 1, x3, x11, x12, x13, x406000, x406001, x406002 => if x13 < x12 then (if 0 ≤ x13 then (if x13 < (x11.length : Int) then (impl_FormatFooting.l1 k x3 x13 (rd x11 x13) x11 x12 x13 x406001 (x406001.length : Int) 0 x406000 x406001 x406002) else (none)) else (none)) else (some x3)
def impl_FormatFooting.l1 : Nat → ByteArray → Int → Int → List Int → Int → Int → List (S59) → Int → Int → Int → List (S59) → Int → Option (ByteArray)
 | 0, _, _, _, _, _, _, _, _, _, _, _, _ => none
 | k + 1, x3, x4, x5, x11, x12, x13, x19, x20, x21, x406000, x406001, x406002 => if x21 < x20 then (if 0 ≤ x21 then (if x21 < (x19.length : Int) then (if ((rd_T59 x19 x21).f0) = x4 then (if x3.size + 1 ≤ 9223372036854775807 then (impl_FormatFooting.l1 k (x3 ++ (⟨#[40]⟩ : ByteArray)) x4 x5 x11 x12 x13 x19 x20 (wrap64 (x21 + 1)) x406000 x406001 x406002) else (none)) else (impl_FormatFooting.l1 k x3 x4 x5 x11 x12 x13 x19 x20 (wrap64 (x21 + 1)) x406000 x406001 x406002)) else (none)) else (none)) else ((impl_FormatInt.f x5).bind fun t412 => (if x3.size + t412.size ≤ 9223372036854775807 then (impl_FormatFooting.l2 k (x3 ++ t412) x4 x11 x12 x13 x406001 (x406001.length : Int) 0 x406000 x406001 x406002) else (none)))
def impl_FormatFooting.l2 : Nat → ByteArray → Int → List Int → Int → Int → List (S59) → Int → Int → Int → List (S59) → Int → Option (ByteArray)
 | 0, _, _, _, _, _, _, _, _, _, _, _ => none
 | k + 1, x3, x4, x11, x12, x13, x37, x38, x39, x406000, x406001, x406002 => if x39 < x38 then (if 0 ≤ x39 then (if x39 < (x37.length : Int) then (if (wrap64 ((wrap64 (((rd_T59 x37 x39).f0) + ((rd_T59 x37 x39).f1))) - 1)) = x4 then (if x3.size + 1 ≤ 9223372036854775807 then (impl_FormatFooting.l2 k (x3 ++ (⟨#[41]⟩ : ByteArray)) x4 x11 x12 x13 x37 x38 (wrap64 (x39 + 1)) x406000 x406001 x406002) else (none)) else (impl_FormatFooting.l2 k x3 x4 x11 x12 x13 x37 x38 (wrap64 (x39 + 1)) x406000 x406001 x406002)) else (none)) else (none)) else (impl_FormatFooting.l0 k x3 x11 x12 (wrap64 (x13 + 1)) x406000 x406001 x406002)
end
def impl_FormatFooting.f (k : Nat) (a0_0 : Int) (l0_1 : List (S59)) (a0_2 : Int) : Option (ByteArray) := (impl_StressesOf.f k a0_0 l0_1 a0_2).bind fun t406 => (impl_FormatFooting.l0 k (⟨#[]⟩ : ByteArray) t406 (t406.length : Int) 0 a0_0 l0_1 a0_2)
theorem impl_FormatFooting.mono_l : ∀ k, (∀ y0 y1 y2 y3 y4 y5 y6, LeO (impl_FormatFooting.l0 k y0 y1 y2 y3 y4 y5 y6) (impl_FormatFooting.l0 (k + 1) y0 y1 y2 y3 y4 y5 y6)) ∧ (∀ y0 y1 y2 y3 y4 y5 y6 y7 y8 y9 y10 y11, LeO (impl_FormatFooting.l1 k y0 y1 y2 y3 y4 y5 y6 y7 y8 y9 y10 y11) (impl_FormatFooting.l1 (k + 1) y0 y1 y2 y3 y4 y5 y6 y7 y8 y9 y10 y11)) ∧ (∀ y0 y1 y2 y3 y4 y5 y6 y7 y8 y9 y10, LeO (impl_FormatFooting.l2 k y0 y1 y2 y3 y4 y5 y6 y7 y8 y9 y10) (impl_FormatFooting.l2 (k + 1) y0 y1 y2 y3 y4 y5 y6 y7 y8 y9 y10))
 | 0 => ⟨fun _ _ _ _ _ _ _ r h => by simp [impl_FormatFooting.l0] at h, fun _ _ _ _ _ _ _ _ _ _ _ _ r h => by simp [impl_FormatFooting.l1] at h, fun _ _ _ _ _ _ _ _ _ _ _ r h => by simp [impl_FormatFooting.l2] at h⟩
 | k + 1 => by
  obtain ⟨ih0, ih1, ih2⟩ := impl_FormatFooting.mono_l k; refine ⟨?_, ?_, ?_⟩
  ·intro y0 y1 y2 y3 y4 y5 y6
   unfold impl_FormatFooting.l0
   repeat' first
   | (with_reducible exact ih0 _ _ _ _ _ _ _)
   | (with_reducible exact ih1 _ _ _ _ _ _ _ _ _ _ _ _)
   | (with_reducible exact ih2 _ _ _ _ _ _ _ _ _ _ _)
   | (with_reducible exact impl_StressesOf.mono _ _ _ _)
   | (with_reducible exact LeO.refl _)
   | (with_reducible exact LeO.none _)
   | (with_reducible refine LeO.ite ?_ ?_)
   | (with_reducible refine LeO.bind ?_ (fun _ => ?_))
   | exact ih0 _ _ _ _ _ _ _
   | exact ih1 _ _ _ _ _ _ _ _ _ _ _ _
   | exact ih2 _ _ _ _ _ _ _ _ _ _ _
   | exact impl_StressesOf.mono _ _ _ _
   | exact LeO.none _
   | refine LeO.ite ?_ ?_
   | refine LeO.bind ?_ (fun _ => ?_)
  ·intro y0 y1 y2 y3 y4 y5 y6 y7 y8 y9 y10 y11
   unfold impl_FormatFooting.l1
   repeat' first
   | (with_reducible exact ih0 _ _ _ _ _ _ _)
   | (with_reducible exact ih1 _ _ _ _ _ _ _ _ _ _ _ _)
   | (with_reducible exact ih2 _ _ _ _ _ _ _ _ _ _ _)
   | (with_reducible exact impl_StressesOf.mono _ _ _ _)
   | (with_reducible exact LeO.refl _)
   | (with_reducible exact LeO.none _)
   | (with_reducible refine LeO.ite ?_ ?_)
   | (with_reducible refine LeO.bind ?_ (fun _ => ?_))
   | exact ih0 _ _ _ _ _ _ _
   | exact ih1 _ _ _ _ _ _ _ _ _ _ _ _
   | exact ih2 _ _ _ _ _ _ _ _ _ _ _
   | exact impl_StressesOf.mono _ _ _ _
   | exact LeO.none _
   | refine LeO.ite ?_ ?_
   | refine LeO.bind ?_ (fun _ => ?_)
  ·intro y0 y1 y2 y3 y4 y5 y6 y7 y8 y9 y10
   unfold impl_FormatFooting.l2
   repeat' first
   | (with_reducible exact ih0 _ _ _ _ _ _ _)
   | (with_reducible exact ih1 _ _ _ _ _ _ _ _ _ _ _ _)
   | (with_reducible exact ih2 _ _ _ _ _ _ _ _ _ _ _)
   | (with_reducible exact impl_StressesOf.mono _ _ _ _)
   | (with_reducible exact LeO.refl _)
   | (with_reducible exact LeO.none _)
   | (with_reducible refine LeO.ite ?_ ?_)
   | (with_reducible refine LeO.bind ?_ (fun _ => ?_))
   | exact ih0 _ _ _ _ _ _ _
   | exact ih1 _ _ _ _ _ _ _ _ _ _ _ _
   | exact ih2 _ _ _ _ _ _ _ _ _ _ _
   | exact impl_StressesOf.mono _ _ _ _
   | exact LeO.none _
   | refine LeO.ite ?_ ?_
   | refine LeO.bind ?_ (fun _ => ?_)
theorem impl_FormatFooting.mono : ∀ a0 a1 a2 k, LeO (impl_FormatFooting.f k a0 a1 a2) (impl_FormatFooting.f (k + 1) a0 a1 a2) := by
 intro a0 a1 a2 k; obtain ⟨ih0, ih1, ih2⟩ := impl_FormatFooting.mono_l k; unfold impl_FormatFooting.f
 repeat' first
   | (with_reducible exact ih0 _ _ _ _ _ _ _)
   | (with_reducible exact ih1 _ _ _ _ _ _ _ _ _ _ _ _)
   | (with_reducible exact ih2 _ _ _ _ _ _ _ _ _ _ _)
   | (with_reducible exact impl_StressesOf.mono _ _ _ _)
   | (with_reducible exact LeO.refl _)
   | (with_reducible exact LeO.none _)
   | (with_reducible refine LeO.ite ?_ ?_)
   | (with_reducible refine LeO.bind ?_ (fun _ => ?_))
   | exact ih0 _ _ _ _ _ _ _
   | exact ih1 _ _ _ _ _ _ _ _ _ _ _ _
   | exact ih2 _ _ _ _ _ _ _ _ _ _ _
   | exact impl_StressesOf.mono _ _ _ _
   | exact LeO.none _
   | refine LeO.ite ?_ ?_
   | refine LeO.bind ?_ (fun _ => ?_)
theorem impl_FormatFooting.calls (k : Nat) (a0_0 : Int) (A0_1 : Option Addr) (c0_1 : Nat) (l0_1 : List (S59)) (a0_2 : Int) (r : ByteArray) (w : World) (hr0_1 : Kd.C k59 w A0_1 l0_1.length l0_1) (hc0_1 : l0_1.length ≤ c0_1) (h : impl_FormatFooting.f k a0_0 l0_1 a0_2 = some r) :
  Calls Tryd.prog 20 #[.agg #[.int .i64 a0_0, .slice A0_1 l0_1.length c0_1, .int .i64 a0_2]] w fun e w' => e = .returned (.string r) ∧ Below w.heap.size w w' := by
 have hu31 := Tryd.underlying31; have hu59 := Tryd.underlying59; have HR0_1 := qa hr0_1; have HC0_1 := qa hc0_1; clear hr0_1 hc0_1; have HB := qa (qsb w.heap.size w); have H := h; unfold impl_FormatFooting.f at H; clear h; obtain ⟨t406, A20, H⟩ := zb H; (try dsimp only at H); have A2 := qa A20; clear A20; have H' := qa H; clear H; go_enter Tryd.func20, Tryd.ntmps20
 go_wp2_with (first | ((with_reducible refine gate_dst (N := 1) rfl ?_); refine box_event ?hg (N := 1) ?hd (cs := #[.int .i64 a0_0, .slice A0_1 l0_1.length c0_1, .int .i64 a0_2]) (t := 31) ?hr ?_; (case hd => rfl); (case hg => rfl); (case hr => first | (go_simp; done) | (go_simp; rfl)); intro gb405 hg w3 hbox hb; have n0_ := qa (qha (by repeat (first | (with_reducible first | exact HB.out | apply qh | apply qe | apply qg) | exact HB.out)) hb); have n1_ := qa (hbox); have n2_ := qa ((by rw [hg]; exact (qp (by repeat (first | (with_reducible first | exact HB.out | apply qh | apply qe | apply qg) | exact HB.out))) : w.heap.size ≤ gb405)); have n3_ := qa ((by rw [hg]; exact (qp (by repeat (first | (with_reducible first | exact HB.out | apply qh | apply qe | apply qg) | exact HB.out))) : w.heap.size ≤ gb405)); clear HB; have HB := n0_; have BK405 := n1_; have GW405 := n2_; have GE405 := n3_; clear n0_ n1_ n2_ n3_; clear hb hbox hg; have hcz4_0 : w3.cell? ⟨gb405, 0, none⟩ = some (.int .i64 a0_0) := (qi BK405.out 0).trans rfl; have hcz4_1 : w3.cell? ⟨gb405, 1, none⟩ = some (.slice A0_1 l0_1.length c0_1) := (qi BK405.out 1).trans rfl; have hcz4_2 : w3.cell? ⟨gb405, 2, none⟩ = some (.int .i64 a0_2) := (qi BK405.out 2).trans rfl; have hfz4_0 := qo BK405.out 0; have hfz4_1 := qo BK405.out 1; have hfz4_2 := qo BK405.out 2) | ((with_reducible refine qeb (f := 12) rfl ?_); refine goesL_ (some 11) rfl rfl Tryd.func12 (by kernel_rfl) rfl #[.agg #[.int .i64 a0_0, .slice A0_1 l0_1.length c0_1, .int .i64 a0_2]] rfl (by (try simp only [qs, qv, qw]); first | done | rfl | (simp only [qu, qt]; rfl)) ?_; (with_reducible refine (impl_StressesOf.calls k a0_0 _ _ l0_1 a0_2 t406 _ ?side1 ?side2 A2.out).mono ?_); (case side1 => repeat (first | exact (qab HR0_1.out HB.out) | (with_reducible first | apply qka | apply qla | apply qma))); (case side2 => exact HC0_1.out); rintro e w5 ⟨v407, rfl, ho0, hb⟩; refine ⟨_, rfl, ?_⟩; have n0_ := qa (qvb ho0 (qp (by repeat (first | (with_reducible first | exact HB.out | apply qh | apply qe | apply qg | refine qj ?_ GE405.out) | exact HB.out)))); have n1_ := qa (qja (g := gb405) (o := .cells #[.int .i64 a0_0, .slice A0_1 l0_1.length c0_1, .int .i64 a0_2] 31 (0, 0)) (by (with_reducible repeat first | apply ql | apply qn | apply qk); exact BK405.out) hb); have n2_ := qa (qha (by repeat (first | (with_reducible first | exact HB.out | apply qh | apply qe | apply qg | refine qj ?_ GE405.out) | exact HB.out)) hb); clear BK405; clear HB; have HO408 := n0_; have BK405 := n1_; have HB := n2_; clear n0_ n1_ n2_; (try clear hb); (try clear hb2); (try clear hk); (try clear hi); (try clear ho0); obtain ⟨Ao6, co6, eo6⟩ := Kd.R_slice HO408.out; subst eo6))
 go_loopg [3, 13] k (fun kq v3 v13 w' => ∃ (x3_1 : ByteArray) (x13_1 : Int), v3 = .string x3_1 ∧ v13 = .int .i64 x13_1 ∧ Aside0 (impl_FormatFooting.l0 kq x3_1 t406 (t406.length : Int) x13_1 a0_0 l0_1 a0_2 = some r) ∧ Aside0 (kq ≤ k) ∧ Aside0 (Kd.R (Kd.int .i64) 3 w' w.heap.size (fun _ => True) (.slice Ao6 t406.length co6) t406) ∧ Aside0 (w'.heap[gb405]? = some (.cells #[.int .i64 a0_0, (.slice A0_1 l0_1.length c0_1), .int .i64 a0_2] 31 (0, 0))) ∧ Aside0 (Below w.heap.size w w'))
 case atStart => exact ⟨((⟨#[]⟩ : ByteArray)), (0), (by first | rfl | (simp; done) | (simp [*]; done)), (by first | rfl | (simp; done) | (simp [*]; done)), H', ⟨qqb _⟩, ⟨by (with_reducible repeat first | apply qx | apply qy | apply qz); exact HO408.out⟩, ⟨by (with_reducible repeat first | apply ql | apply qn | apply qk); exact BK405.out⟩, ⟨by repeat (first | (with_reducible first | exact HB.out | apply qh | apply qe | apply qg | refine qj ?_ GE405.out) | exact HB.out)⟩⟩
 case round =>
  clear H'; (try clear c1); (try clear c2); (try clear p2); (try clear hcz4_0); (try clear hcz4_1); (try clear hcz4_2); (try clear hfz4_0); (try clear hfz4_1); (try clear hfz4_2); obtain ⟨x3_1, x13_1, rfl, rfl, HA, HK1, HO_11, BK405, HB⟩ := hrel
  cases gk with
  | zero => exact absurd HA.out (by simp [impl_FormatFooting.l0])
  | succ k1 =>
   have H := HA.out; clear HA; simp only [impl_FormatFooting.l0] at H
   by_cases c7 : x13_1 < (t406.length : Int)
   ·rw [if_pos c7] at H
    have c7b0 : decide (x13_1 < (t406.length : Int)) = true := qq c7; clear c7
    by_cases c8 : 0 ≤ x13_1
    ·rw [if_pos c8] at H
     have c8b0 : decide (0 ≤ x13_1) = true := qq c8; clear c8
     by_cases c9 : x13_1 < (t406.length : Int)
     ·rw [if_pos c9] at H
      have c9b0 : decide (x13_1 < (t406.length : Int)) = true := qq c9; clear c9; have H' := qa H; clear H; have p409 : 0 ≤ (x13_1 : Int) := qm (by assumption); have q409 : x13_1 < (t406.length : Int) := qm (by assumption); obtain ⟨ad409, e409, hx409_0⟩ := Kd.at_int (qgb HO_11.out).2.2 x13_1 p409 q409; cases e409; replace p409 := qga p409; replace q409 := qga q409; have hcz10_0 : wr.cell? ⟨gb405, 0, none⟩ = some (.int .i64 a0_0) := (qi BK405.out 0).trans rfl; have hcz10_1 : wr.cell? ⟨gb405, 1, none⟩ = some (.slice A0_1 l0_1.length c0_1) := (qi BK405.out 1).trans rfl; have hcz10_2 : wr.cell? ⟨gb405, 2, none⟩ = some (.int .i64 a0_2) := (qi BK405.out 2).trans rfl; have hfz10_0 := qo BK405.out 0; have hfz10_1 := qo BK405.out 1; have hfz10_2 := qo BK405.out 2; go_wp2
      go_loopg [3, 21] k1 (fun kq v3 v21 w' => ∃ (x3_2 : ByteArray) (x21_2 : Int), v3 = .string x3_2 ∧ v21 = .int .i64 x21_2 ∧ Aside0 (impl_FormatFooting.l1 kq x3_2 x13_1 (rd t406 x13_1) t406 (t406.length : Int) x13_1 l0_1 (l0_1.length : Int) x21_2 a0_0 l0_1 a0_2 = some r) ∧ Aside0 (kq ≤ k1) ∧ Aside0 (Kd.R (Kd.int .i64) 3 w' w.heap.size (fun _ => True) (.slice (some ad409) t406.length co6) t406) ∧ Aside0 (w'.heap[gb405]? = some (.cells #[.int .i64 a0_0, (.slice A0_1 l0_1.length c0_1), .int .i64 a0_2] 31 (0, 0))) ∧ Aside0 (Below w.heap.size w w'))
      case atStart => exact ⟨(x3_1), (0), (by first | rfl | (simp; done) | (simp [*]; done)), (by first | rfl | (simp; done) | (simp [*]; done)), H', ⟨qqb _⟩, ⟨by (with_reducible repeat first | apply qx | apply qy | apply qz); exact HO_11.out⟩, ⟨by (with_reducible repeat first | apply ql | apply qn | apply qk); exact BK405.out⟩, ⟨by repeat (first | (with_reducible first | exact HB.out | apply qh | apply qe | apply qg | refine qj ?_ GE405.out) | exact HB.out)⟩⟩
      case round =>
       clear H'; (try clear c1); (try clear c2); (try clear p2); (try clear p4); (try clear q4); (try clear hx4); (try clear c7); (try clear c7b0); (try clear c8); (try clear c8b0); (try clear c9); (try clear c9b0); (try clear hcz10_0); (try clear hcz10_1); (try clear hcz10_2); (try clear hcz4_0); (try clear hcz4_1); (try clear hcz4_2); (try clear hfz10_0); (try clear hfz10_1); (try clear hfz10_2); (try clear hfz4_0); (try clear hfz4_1); (try clear hfz4_2); (try clear hx409_0); (try clear p2); (try clear p409); (try clear q409); obtain ⟨x3_2, x21_2, rfl, rfl, HA, HK2, HO_11, BK405, HB⟩ := hrel
       cases gk with
       | zero => exact absurd HA.out (by simp [impl_FormatFooting.l1])
       | succ k2 =>
        have H := HA.out; clear HA; simp only [impl_FormatFooting.l1] at H
        by_cases c11 : x21_2 < (l0_1.length : Int)
        ·rw [if_pos c11] at H
         have c11b0 : decide (x21_2 < (l0_1.length : Int)) = true := qq c11; clear c11
         by_cases c12 : 0 ≤ x21_2
         ·rw [if_pos c12] at H
          have c12b0 : decide (0 ≤ x21_2) = true := qq c12; clear c12
          by_cases c13 : x21_2 < (l0_1.length : Int)
          ·rw [if_pos c13] at H
           have c13b0 : decide (x21_2 < (l0_1.length : Int)) = true := qq c13; clear c13
           by_cases c14 : ((rd_T59 l0_1 x21_2).f0) = x13_1
           ·rw [if_pos c14] at H
            have c14b0 : (((rd_T59 l0_1 x21_2).f0) == x13_1) = true := ze c14; have c14b1 : (((rd_T59 l0_1 x21_2).f0) != x13_1) = false := zc c14; clear c14
            by_cases c15 : x3_2.size + 1 ≤ 9223372036854775807
            ·rw [if_pos c15] at H
             have c15b0 := qga c15; have c15b1 : decide (x3_2.size + 1 ≤ 9223372036854775807) = true := qq c15
             try have c15b2 : (9223372036854775807 < x3_2.size + 1) = False := eq_false (Nat.not_lt.2 c15)
             have H' := qa H; clear H; have p410 : 0 ≤ (x21_2 : Int) := qm (by assumption); have q410 : x21_2 < (l0_1.length : Int) := qm (by assumption); obtain ⟨ad410, e410, hx410_0, hx410_1, hx410_2⟩ := at_T59 HR0_1.out x21_2 p410 q410; cases e410; replace hx410_0 := (HB.out.cell (qf w _ hx410_0)).trans hx410_0; replace hx410_1 := (HB.out.cell (qf w _ hx410_1)).trans hx410_1; replace hx410_2 := (HB.out.cell (qf w _ hx410_2)).trans hx410_2; replace p410 := qga p410; replace q410 := qga q410
             go_wp2_with (first | ((with_reducible refine gate_dst (N := 7) rfl ?_); refine box_event ?hg (N := 7) ?hd (cs := #[.int .i64 0, .int .i64 0, .int .i64 0]) (t := 59) ?hr ?_; (case hd => rfl); (case hg => rfl); (case hr => first | (go_simp; done) | (go_simp; rfl)); intro gb411 hg w16 hbox hb; have n0_ := qa (qya (by (with_reducible repeat first | apply qx | apply qy | apply qz); exact HO_11.out) hb); have n1_ := qa (qja (g := gb405) (o := .cells #[.int .i64 a0_0, .slice (some ad410) l0_1.length c0_1, .int .i64 a0_2] 31 (0, 0)) (by (with_reducible repeat first | apply ql | apply qn | apply qk); exact BK405.out) hb); have n2_ := qa (qha (by repeat (first | (with_reducible first | exact HB.out | apply qh | apply qe | apply qg | refine qj ?_ GE405.out) | exact HB.out)) hb); have n3_ := qa (hbox); have n4_ := qa ((by rw [hg]; exact (qp (by repeat (first | (with_reducible first | exact HB.out | apply qh | apply qe | apply qg | refine qj ?_ GE405.out) | exact HB.out))) : w.heap.size ≤ gb411)); have n5_ := qa ((by rw [hg]; exact (qp (by repeat (first | (with_reducible first | exact HB.out | apply qh | apply qe | apply qg | refine qj ?_ GE405.out) | exact HB.out))) : w.heap.size ≤ gb411)); have n6_ := qa ((by rw [hg]; exact Nat.ne_of_lt (blk_lt (g := gb405) (o := .cells #[.int .i64 a0_0, .slice (some ad410) l0_1.length c0_1, .int .i64 a0_2] 31 (0, 0)) (by (with_reducible repeat first | apply ql | apply qn | apply qk); exact BK405.out)) : gb405 ≠ gb411)); have n7_ := qa ((by rw [hg]; exact Nat.ne_of_gt (blk_lt (g := gb405) (o := .cells #[.int .i64 a0_0, .slice (some ad410) l0_1.length c0_1, .int .i64 a0_2] 31 (0, 0)) (by (with_reducible repeat first | apply ql | apply qn | apply qk); exact BK405.out)) : gb411 ≠ gb405)); clear HO_11; clear BK405; clear HB; have HO_11 := n0_; have BK405 := n1_; have HB := n2_; have BK411 := n3_; have GW411 := n4_; have GE411 := n5_; have NB405_411 := n6_; have NB411_405 := n7_; clear n0_ n1_ n2_ n3_ n4_ n5_ n6_ n7_; clear hb hbox hg; have hnb17 := NB411_405.out; have hnc17 := NB405_411.out; have hcz18_0 : w16.cell? ⟨gb411, 0, none⟩ = some (.int .i64 0) := (qi BK411.out 0).trans rfl; have hcz18_1 : w16.cell? ⟨gb411, 1, none⟩ = some (.int .i64 0) := (qi BK411.out 1).trans rfl; have hcz18_2 : w16.cell? ⟨gb411, 2, none⟩ = some (.int .i64 0) := (qi BK411.out 2).trans rfl; have hfz18_0 := qo BK411.out 0; have hfz18_1 := qo BK411.out 1; have hfz18_2 := qo BK411.out 2))
             go_roundg k2
             case measure => have := HK1.out; have := HK2.out; omega
             case rel => exact ⟨(x3_2 ++ (⟨#[40]⟩ : ByteArray)), (wrap64 (x21_2 + 1)), (by first | rfl | (simp; done) | (simp [*]; done)), (by first | rfl | (simp; done) | (simp [*]; done)), H', ⟨by have := HK1.out; have := HK2.out; omega⟩, ⟨by (with_reducible repeat first | apply qx | apply qy | apply qz); exact qoa (qob (p := ⟨gb411, 2, none⟩) (qob (p := ⟨gb411, 1, none⟩) (qob (p := ⟨gb411, 0, none⟩) (Kd.R_types HO_11.out BK411.out (by decide)) (fun _ hk => hk.2) (.int .i64 ((rd_T59 l0_1 x21_2).f0))) (fun _ hk => hk.2) (.int .i64 ((rd_T59 l0_1 x21_2).f1))) (fun _ hk => hk.2) (.int .i64 ((rd_T59 l0_1 x21_2).f2))) (fun _ hk => trivial)⟩, ⟨by (with_reducible repeat first | apply ql | apply qn | apply qk); refine qlb ?_ NB405_411.out _; (with_reducible repeat first | apply ql | apply qn | apply qk); refine qlb ?_ NB405_411.out _; (with_reducible repeat first | apply ql | apply qn | apply qk); refine qlb ?_ NB405_411.out _; (with_reducible repeat first | apply ql | apply qn | apply qk); exact BK405.out⟩, ⟨by repeat (first | (with_reducible first | exact HB.out | apply qh | apply qe | apply qg | refine qj ?_ GE405.out | refine qj ?_ GE411.out) | exact HB.out)⟩⟩
            ·rw [if_neg c15] at H
             exact absurd H (by simp)
           ·rw [if_neg c14] at H
            have c14b0 : (((rd_T59 l0_1 x21_2).f0) == x13_1) = false := zd c14; have c14b1 : (((rd_T59 l0_1 x21_2).f0) != x13_1) = true := zf c14; have H' := qa H; clear H; have p410 : 0 ≤ (x21_2 : Int) := qm (by assumption); have q410 : x21_2 < (l0_1.length : Int) := qm (by assumption); obtain ⟨ad410, e410, hx410_0, hx410_1, hx410_2⟩ := at_T59 HR0_1.out x21_2 p410 q410; cases e410; replace hx410_0 := (HB.out.cell (qf w _ hx410_0)).trans hx410_0; replace hx410_1 := (HB.out.cell (qf w _ hx410_1)).trans hx410_1; replace hx410_2 := (HB.out.cell (qf w _ hx410_2)).trans hx410_2; replace p410 := qga p410; replace q410 := qga q410
            go_wp2_with (first | ((with_reducible refine gate_dst (N := 7) rfl ?_); refine box_event ?hg (N := 7) ?hd (cs := #[.int .i64 0, .int .i64 0, .int .i64 0]) (t := 59) ?hr ?_; (case hd => rfl); (case hg => rfl); (case hr => first | (go_simp; done) | (go_simp; rfl)); intro gb411 hg w19 hbox hb; have n0_ := qa (qya (by (with_reducible repeat first | apply qx | apply qy | apply qz); exact HO_11.out) hb); have n1_ := qa (qja (g := gb405) (o := .cells #[.int .i64 a0_0, .slice (some ad410) l0_1.length c0_1, .int .i64 a0_2] 31 (0, 0)) (by (with_reducible repeat first | apply ql | apply qn | apply qk); exact BK405.out) hb); have n2_ := qa (qha (by repeat (first | (with_reducible first | exact HB.out | apply qh | apply qe | apply qg | refine qj ?_ GE405.out) | exact HB.out)) hb); have n3_ := qa (hbox); have n4_ := qa ((by rw [hg]; exact (qp (by repeat (first | (with_reducible first | exact HB.out | apply qh | apply qe | apply qg | refine qj ?_ GE405.out) | exact HB.out))) : w.heap.size ≤ gb411)); have n5_ := qa ((by rw [hg]; exact (qp (by repeat (first | (with_reducible first | exact HB.out | apply qh | apply qe | apply qg | refine qj ?_ GE405.out) | exact HB.out))) : w.heap.size ≤ gb411)); have n6_ := qa ((by rw [hg]; exact Nat.ne_of_lt (blk_lt (g := gb405) (o := .cells #[.int .i64 a0_0, .slice (some ad410) l0_1.length c0_1, .int .i64 a0_2] 31 (0, 0)) (by (with_reducible repeat first | apply ql | apply qn | apply qk); exact BK405.out)) : gb405 ≠ gb411)); have n7_ := qa ((by rw [hg]; exact Nat.ne_of_gt (blk_lt (g := gb405) (o := .cells #[.int .i64 a0_0, .slice (some ad410) l0_1.length c0_1, .int .i64 a0_2] 31 (0, 0)) (by (with_reducible repeat first | apply ql | apply qn | apply qk); exact BK405.out)) : gb411 ≠ gb405)); clear HO_11; clear BK405; clear HB; have HO_11 := n0_; have BK405 := n1_; have HB := n2_; have BK411 := n3_; have GW411 := n4_; have GE411 := n5_; have NB405_411 := n6_; have NB411_405 := n7_; clear n0_ n1_ n2_ n3_ n4_ n5_ n6_ n7_; clear hb hbox hg; have hnb20 := NB411_405.out; have hnc20 := NB405_411.out; have hcz21_0 : w19.cell? ⟨gb411, 0, none⟩ = some (.int .i64 0) := (qi BK411.out 0).trans rfl; have hcz21_1 : w19.cell? ⟨gb411, 1, none⟩ = some (.int .i64 0) := (qi BK411.out 1).trans rfl; have hcz21_2 : w19.cell? ⟨gb411, 2, none⟩ = some (.int .i64 0) := (qi BK411.out 2).trans rfl; have hfz21_0 := qo BK411.out 0; have hfz21_1 := qo BK411.out 1; have hfz21_2 := qo BK411.out 2))
            go_roundg k2
            case measure => have := HK1.out; have := HK2.out; omega
            case rel => exact ⟨(x3_2), (wrap64 (x21_2 + 1)), (by first | rfl | (simp; done) | (simp [*]; done)), (by first | rfl | (simp; done) | (simp [*]; done)), H', ⟨by have := HK1.out; have := HK2.out; omega⟩, ⟨by (with_reducible repeat first | apply qx | apply qy | apply qz); exact qoa (qob (p := ⟨gb411, 2, none⟩) (qob (p := ⟨gb411, 1, none⟩) (qob (p := ⟨gb411, 0, none⟩) (Kd.R_types HO_11.out BK411.out (by decide)) (fun _ hk => hk.2) (.int .i64 ((rd_T59 l0_1 x21_2).f0))) (fun _ hk => hk.2) (.int .i64 ((rd_T59 l0_1 x21_2).f1))) (fun _ hk => hk.2) (.int .i64 ((rd_T59 l0_1 x21_2).f2))) (fun _ hk => trivial)⟩, ⟨by (with_reducible repeat first | apply ql | apply qn | apply qk); refine qlb ?_ NB405_411.out _; (with_reducible repeat first | apply ql | apply qn | apply qk); refine qlb ?_ NB405_411.out _; (with_reducible repeat first | apply ql | apply qn | apply qk); refine qlb ?_ NB405_411.out _; (with_reducible repeat first | apply ql | apply qn | apply qk); exact BK405.out⟩, ⟨by repeat (first | (with_reducible first | exact HB.out | apply qh | apply qe | apply qg | refine qj ?_ GE405.out | refine qj ?_ GE411.out) | exact HB.out)⟩⟩
          ·rw [if_neg c13] at H
           exact absurd H (by simp)
         ·rw [if_neg c12] at H
          exact absurd H (by simp)
        ·rw [if_neg c11] at H
         have c11b0 : decide (x21_2 < (l0_1.length : Int)) = false := qr c11; clear c11; obtain ⟨t412, A220, H⟩ := zb H; (try dsimp only at H); have A22 := qa A220; clear A220
         by_cases c23 : x3_2.size + t412.size ≤ 9223372036854775807
         ·rw [if_pos c23] at H
          have c23b0 := qga c23; have c23b1 : decide (x3_2.size + t412.size ≤ 9223372036854775807) = true := qq c23
          try have c23b2 : (9223372036854775807 < x3_2.size + t412.size) = False := eq_false (Nat.not_lt.2 c23)
          have H' := qa H; clear H
          go_wp2_with (first | ((with_reducible refine qeb (f := 35) rfl ?_); refine goesL_ (some 34) rfl rfl Tryd.func35 (by kernel_rfl) rfl #[.int .i64 (rd t406 x13_1)] rfl (by (try simp only [qs, qv, qw]); first | done | rfl | (simp only [qu, qt]; rfl)) ?_; (with_reducible refine (impl_FormatInt.calls (rd t406 x13_1) t412 _ A22.out).mono ?_); rintro e w' ⟨rfl, ⟨nd, rfl⟩⟩; refine ⟨_, rfl, ?_⟩; have hcz24_0 : wr.cell? ⟨gb405, 0, none⟩ = some (.int .i64 a0_0) := (qi BK405.out 0).trans rfl; have hcz24_1 : wr.cell? ⟨gb405, 1, none⟩ = some (.slice A0_1 l0_1.length c0_1) := (qi BK405.out 1).trans rfl; have hcz24_2 : wr.cell? ⟨gb405, 2, none⟩ = some (.int .i64 a0_2) := (qi BK405.out 2).trans rfl; have hfz24_0 := qo BK405.out 0; have hfz24_1 := qo BK405.out 1; have hfz24_2 := qo BK405.out 2))
          go_loopg [3, 39] k2 (fun kq v3 v39 w' => ∃ (x3_3 : ByteArray) (x39_3 : Int), v3 = .string x3_3 ∧ v39 = .int .i64 x39_3 ∧ Aside0 (impl_FormatFooting.l2 kq x3_3 x13_1 t406 (t406.length : Int) x13_1 l0_1 (l0_1.length : Int) x39_3 a0_0 l0_1 a0_2 = some r) ∧ Aside0 (kq ≤ k2) ∧ Aside0 (Kd.R (Kd.int .i64) 3 w' w.heap.size (fun _ => True) (.slice (some ad409) t406.length co6) t406) ∧ Aside0 (w'.heap[gb405]? = some (.cells #[.int .i64 a0_0, (.slice A0_1 l0_1.length c0_1), .int .i64 a0_2] 31 (0, 0))) ∧ Aside0 (Below w.heap.size w w'))
          case atStart => exact ⟨(x3_2 ++ t412), (0), (by first | rfl | (simp; done) | (simp [*]; done)), (by first | rfl | (simp; done) | (simp [*]; done)), H', ⟨qqb _⟩, ⟨by (with_reducible repeat first | apply qx | apply qy | apply qz); exact HO_11.out⟩, ⟨by (with_reducible repeat first | apply ql | apply qn | apply qk); exact BK405.out⟩, ⟨by repeat (first | (with_reducible first | exact HB.out | apply qh | apply qe | apply qg | refine qj ?_ GE405.out) | exact HB.out)⟩⟩
          case round =>
           clear H'; (try clear c1); (try clear c2); (try clear p2); (try clear c3); (try clear p4); (try clear q4); (try clear hx4); (try clear p6); (try clear c7); (try clear c7b0); (try clear c8); (try clear c8b0); (try clear c9); (try clear c9b0); (try clear c11); (try clear c11b0); (try clear c12); (try clear c12b0); (try clear c13); (try clear c13b0); (try clear c14); (try clear c14b0); (try clear c14b1); (try clear c15); (try clear c15b0); (try clear c15b1); (try clear c15b2); (try clear c17); (try clear c20); (try clear c23); (try clear c23b0); (try clear c23b1); (try clear c23b2); (try clear hcz10_0); (try clear hcz10_1); (try clear hcz10_2); (try clear hcz18_0); (try clear hcz18_1); (try clear hcz18_2); (try clear hcz21_0); (try clear hcz21_1); (try clear hcz21_2); (try clear hcz24_0); (try clear hcz24_1); (try clear hcz24_2); (try clear hcz4_0); (try clear hcz4_1); (try clear hcz4_2); (try clear hfz10_0); (try clear hfz10_1); (try clear hfz10_2); (try clear hfz18_0); (try clear hfz18_1); (try clear hfz18_2); (try clear hfz21_0); (try clear hfz21_1); (try clear hfz21_2); (try clear hfz24_0); (try clear hfz24_1); (try clear hfz24_2); (try clear hfz4_0); (try clear hfz4_1); (try clear hfz4_2); (try clear hx409_0); (try clear hx410_0); (try clear hx410_1); (try clear hx410_2); (try clear p2); (try clear p4); (try clear p409); (try clear p410); (try clear q4); (try clear q409); (try clear q410); obtain ⟨x3_3, x39_3, rfl, rfl, HA, HK3, HO_11, BK405, HB⟩ := hrel
           cases gk with
           | zero => exact absurd HA.out (by simp [impl_FormatFooting.l2])
           | succ k3 =>
            have H := HA.out; clear HA; simp only [impl_FormatFooting.l2] at H
            by_cases c25 : x39_3 < (l0_1.length : Int)
            ·rw [if_pos c25] at H
             have c25b0 : decide (x39_3 < (l0_1.length : Int)) = true := qq c25; clear c25
             by_cases c26 : 0 ≤ x39_3
             ·rw [if_pos c26] at H
              have c26b0 : decide (0 ≤ x39_3) = true := qq c26; clear c26
              by_cases c27 : x39_3 < (l0_1.length : Int)
              ·rw [if_pos c27] at H
               have c27b0 : decide (x39_3 < (l0_1.length : Int)) = true := qq c27; clear c27
               by_cases c28 : (wrap64 ((wrap64 (((rd_T59 l0_1 x39_3).f0) + ((rd_T59 l0_1 x39_3).f1))) - 1)) = x13_1
               ·rw [if_pos c28] at H
                have c28b0 : ((wrap64 ((wrap64 (((rd_T59 l0_1 x39_3).f0) + ((rd_T59 l0_1 x39_3).f1))) - 1)) == x13_1) = true := ze c28; have c28b1 : ((wrap64 ((wrap64 (((rd_T59 l0_1 x39_3).f0) + ((rd_T59 l0_1 x39_3).f1))) - 1)) != x13_1) = false := zc c28; clear c28
                by_cases c29 : x3_3.size + 1 ≤ 9223372036854775807
                ·rw [if_pos c29] at H
                 have c29b0 := qga c29; have c29b1 : decide (x3_3.size + 1 ≤ 9223372036854775807) = true := qq c29
                 try have c29b2 : (9223372036854775807 < x3_3.size + 1) = False := eq_false (Nat.not_lt.2 c29)
                 have H' := qa H; clear H; have p413 : 0 ≤ (x39_3 : Int) := qm (by assumption); have q413 : x39_3 < (l0_1.length : Int) := qm (by assumption); obtain ⟨ad413, e413, hx413_0, hx413_1, hx413_2⟩ := at_T59 HR0_1.out x39_3 p413 q413; cases e413; replace hx413_0 := (HB.out.cell (qf w _ hx413_0)).trans hx413_0; replace hx413_1 := (HB.out.cell (qf w _ hx413_1)).trans hx413_1; replace hx413_2 := (HB.out.cell (qf w _ hx413_2)).trans hx413_2; replace p413 := qga p413; replace q413 := qga q413
                 go_wp2_with (first | ((with_reducible refine gate_dst (N := 9) rfl ?_); refine box_event ?hg (N := 9) ?hd (cs := #[.int .i64 0, .int .i64 0, .int .i64 0]) (t := 59) ?hr ?_; (case hd => rfl); (case hg => rfl); (case hr => first | (go_simp; done) | (go_simp; rfl)); intro gb414 hg w30 hbox hb; have n0_ := qa (qya (by (with_reducible repeat first | apply qx | apply qy | apply qz); exact HO_11.out) hb); have n1_ := qa (qja (g := gb405) (o := .cells #[.int .i64 a0_0, .slice (some ad413) l0_1.length c0_1, .int .i64 a0_2] 31 (0, 0)) (by (with_reducible repeat first | apply ql | apply qn | apply qk); exact BK405.out) hb); have n2_ := qa (qha (by repeat (first | (with_reducible first | exact HB.out | apply qh | apply qe | apply qg | refine qj ?_ GE405.out) | exact HB.out)) hb); have n3_ := qa (hbox); have n4_ := qa ((by rw [hg]; exact (qp (by repeat (first | (with_reducible first | exact HB.out | apply qh | apply qe | apply qg | refine qj ?_ GE405.out) | exact HB.out))) : w.heap.size ≤ gb414)); have n5_ := qa ((by rw [hg]; exact (qp (by repeat (first | (with_reducible first | exact HB.out | apply qh | apply qe | apply qg | refine qj ?_ GE405.out) | exact HB.out))) : w.heap.size ≤ gb414)); have n6_ := qa ((by rw [hg]; exact Nat.ne_of_lt (blk_lt (g := gb405) (o := .cells #[.int .i64 a0_0, .slice (some ad413) l0_1.length c0_1, .int .i64 a0_2] 31 (0, 0)) (by (with_reducible repeat first | apply ql | apply qn | apply qk); exact BK405.out)) : gb405 ≠ gb414)); have n7_ := qa ((by rw [hg]; exact Nat.ne_of_gt (blk_lt (g := gb405) (o := .cells #[.int .i64 a0_0, .slice (some ad413) l0_1.length c0_1, .int .i64 a0_2] 31 (0, 0)) (by (with_reducible repeat first | apply ql | apply qn | apply qk); exact BK405.out)) : gb414 ≠ gb405)); clear HO_11; clear BK405; clear HB; have HO_11 := n0_; have BK405 := n1_; have HB := n2_; have BK414 := n3_; have GW414 := n4_; have GE414 := n5_; have NB405_414 := n6_; have NB414_405 := n7_; clear n0_ n1_ n2_ n3_ n4_ n5_ n6_ n7_; clear hb hbox hg; have hnb31 := NB414_405.out; have hnc31 := NB405_414.out; have hcz32_0 : w30.cell? ⟨gb414, 0, none⟩ = some (.int .i64 0) := (qi BK414.out 0).trans rfl; have hcz32_1 : w30.cell? ⟨gb414, 1, none⟩ = some (.int .i64 0) := (qi BK414.out 1).trans rfl; have hcz32_2 : w30.cell? ⟨gb414, 2, none⟩ = some (.int .i64 0) := (qi BK414.out 2).trans rfl; have hfz32_0 := qo BK414.out 0; have hfz32_1 := qo BK414.out 1; have hfz32_2 := qo BK414.out 2))
                 go_roundg k3
                 case measure => have := HK1.out; have := HK2.out; have := HK3.out; omega
                 case rel => exact ⟨(x3_3 ++ (⟨#[41]⟩ : ByteArray)), (wrap64 (x39_3 + 1)), (by first | rfl | (simp; done) | (simp [*]; done)), (by first | rfl | (simp; done) | (simp [*]; done)), H', ⟨by have := HK1.out; have := HK2.out; have := HK3.out; omega⟩, ⟨by (with_reducible repeat first | apply qx | apply qy | apply qz); exact qoa (qob (p := ⟨gb414, 2, none⟩) (qob (p := ⟨gb414, 1, none⟩) (qob (p := ⟨gb414, 0, none⟩) (Kd.R_types HO_11.out BK414.out (by decide)) (fun _ hk => hk.2) (.int .i64 ((rd_T59 l0_1 x39_3).f0))) (fun _ hk => hk.2) (.int .i64 ((rd_T59 l0_1 x39_3).f1))) (fun _ hk => hk.2) (.int .i64 ((rd_T59 l0_1 x39_3).f2))) (fun _ hk => trivial)⟩, ⟨by (with_reducible repeat first | apply ql | apply qn | apply qk); refine qlb ?_ NB405_414.out _; (with_reducible repeat first | apply ql | apply qn | apply qk); refine qlb ?_ NB405_414.out _; (with_reducible repeat first | apply ql | apply qn | apply qk); refine qlb ?_ NB405_414.out _; (with_reducible repeat first | apply ql | apply qn | apply qk); exact BK405.out⟩, ⟨by repeat (first | (with_reducible first | exact HB.out | apply qh | apply qe | apply qg | refine qj ?_ GE405.out | refine qj ?_ GE414.out) | exact HB.out)⟩⟩
                ·rw [if_neg c29] at H
                 exact absurd H (by simp)
               ·rw [if_neg c28] at H
                have c28b0 : ((wrap64 ((wrap64 (((rd_T59 l0_1 x39_3).f0) + ((rd_T59 l0_1 x39_3).f1))) - 1)) == x13_1) = false := zd c28; have c28b1 : ((wrap64 ((wrap64 (((rd_T59 l0_1 x39_3).f0) + ((rd_T59 l0_1 x39_3).f1))) - 1)) != x13_1) = true := zf c28; have H' := qa H; clear H; have p413 : 0 ≤ (x39_3 : Int) := qm (by assumption); have q413 : x39_3 < (l0_1.length : Int) := qm (by assumption); obtain ⟨ad413, e413, hx413_0, hx413_1, hx413_2⟩ := at_T59 HR0_1.out x39_3 p413 q413; cases e413; replace hx413_0 := (HB.out.cell (qf w _ hx413_0)).trans hx413_0; replace hx413_1 := (HB.out.cell (qf w _ hx413_1)).trans hx413_1; replace hx413_2 := (HB.out.cell (qf w _ hx413_2)).trans hx413_2; replace p413 := qga p413; replace q413 := qga q413
                go_wp2_with (first | ((with_reducible refine gate_dst (N := 9) rfl ?_); refine box_event ?hg (N := 9) ?hd (cs := #[.int .i64 0, .int .i64 0, .int .i64 0]) (t := 59) ?hr ?_; (case hd => rfl); (case hg => rfl); (case hr => first | (go_simp; done) | (go_simp; rfl)); intro gb414 hg w33 hbox hb; have n0_ := qa (qya (by (with_reducible repeat first | apply qx | apply qy | apply qz); exact HO_11.out) hb); have n1_ := qa (qja (g := gb405) (o := .cells #[.int .i64 a0_0, .slice (some ad413) l0_1.length c0_1, .int .i64 a0_2] 31 (0, 0)) (by (with_reducible repeat first | apply ql | apply qn | apply qk); exact BK405.out) hb); have n2_ := qa (qha (by repeat (first | (with_reducible first | exact HB.out | apply qh | apply qe | apply qg | refine qj ?_ GE405.out) | exact HB.out)) hb); have n3_ := qa (hbox); have n4_ := qa ((by rw [hg]; exact (qp (by repeat (first | (with_reducible first | exact HB.out | apply qh | apply qe | apply qg | refine qj ?_ GE405.out) | exact HB.out))) : w.heap.size ≤ gb414)); have n5_ := qa ((by rw [hg]; exact (qp (by repeat (first | (with_reducible first | exact HB.out | apply qh | apply qe | apply qg | refine qj ?_ GE405.out) | exact HB.out))) : w.heap.size ≤ gb414)); have n6_ := qa ((by rw [hg]; exact Nat.ne_of_lt (blk_lt (g := gb405) (o := .cells #[.int .i64 a0_0, .slice (some ad413) l0_1.length c0_1, .int .i64 a0_2] 31 (0, 0)) (by (with_reducible repeat first | apply ql | apply qn | apply qk); exact BK405.out)) : gb405 ≠ gb414)); have n7_ := qa ((by rw [hg]; exact Nat.ne_of_gt (blk_lt (g := gb405) (o := .cells #[.int .i64 a0_0, .slice (some ad413) l0_1.length c0_1, .int .i64 a0_2] 31 (0, 0)) (by (with_reducible repeat first | apply ql | apply qn | apply qk); exact BK405.out)) : gb414 ≠ gb405)); clear HO_11; clear BK405; clear HB; have HO_11 := n0_; have BK405 := n1_; have HB := n2_; have BK414 := n3_; have GW414 := n4_; have GE414 := n5_; have NB405_414 := n6_; have NB414_405 := n7_; clear n0_ n1_ n2_ n3_ n4_ n5_ n6_ n7_; clear hb hbox hg; have hnb34 := NB414_405.out; have hnc34 := NB405_414.out; have hcz35_0 : w33.cell? ⟨gb414, 0, none⟩ = some (.int .i64 0) := (qi BK414.out 0).trans rfl; have hcz35_1 : w33.cell? ⟨gb414, 1, none⟩ = some (.int .i64 0) := (qi BK414.out 1).trans rfl; have hcz35_2 : w33.cell? ⟨gb414, 2, none⟩ = some (.int .i64 0) := (qi BK414.out 2).trans rfl; have hfz35_0 := qo BK414.out 0; have hfz35_1 := qo BK414.out 1; have hfz35_2 := qo BK414.out 2))
                go_roundg k3
                case measure => have := HK1.out; have := HK2.out; have := HK3.out; omega
                case rel => exact ⟨(x3_3), (wrap64 (x39_3 + 1)), (by first | rfl | (simp; done) | (simp [*]; done)), (by first | rfl | (simp; done) | (simp [*]; done)), H', ⟨by have := HK1.out; have := HK2.out; have := HK3.out; omega⟩, ⟨by (with_reducible repeat first | apply qx | apply qy | apply qz); exact qoa (qob (p := ⟨gb414, 2, none⟩) (qob (p := ⟨gb414, 1, none⟩) (qob (p := ⟨gb414, 0, none⟩) (Kd.R_types HO_11.out BK414.out (by decide)) (fun _ hk => hk.2) (.int .i64 ((rd_T59 l0_1 x39_3).f0))) (fun _ hk => hk.2) (.int .i64 ((rd_T59 l0_1 x39_3).f1))) (fun _ hk => hk.2) (.int .i64 ((rd_T59 l0_1 x39_3).f2))) (fun _ hk => trivial)⟩, ⟨by (with_reducible repeat first | apply ql | apply qn | apply qk); refine qlb ?_ NB405_414.out _; (with_reducible repeat first | apply ql | apply qn | apply qk); refine qlb ?_ NB405_414.out _; (with_reducible repeat first | apply ql | apply qn | apply qk); refine qlb ?_ NB405_414.out _; (with_reducible repeat first | apply ql | apply qn | apply qk); exact BK405.out⟩, ⟨by repeat (first | (with_reducible first | exact HB.out | apply qh | apply qe | apply qg | refine qj ?_ GE405.out | refine qj ?_ GE414.out) | exact HB.out)⟩⟩
              ·rw [if_neg c27] at H
               exact absurd H (by simp)
             ·rw [if_neg c26] at H
              exact absurd H (by simp)
            ·rw [if_neg c25] at H
             have c25b0 : decide (x39_3 < (l0_1.length : Int)) = false := qr c25; clear c25; have H' := qa H; clear H; go_wp2
             go_roundg k3
             case measure => have := HK1.out; have := HK2.out; have := HK3.out; omega
             case rel => exact ⟨(x3_3), (wrap64 (x13_1 + 1)), (by first | rfl | (simp; done) | (simp [*]; done)), (by first | rfl | (simp; done) | (simp [*]; done)), H', ⟨by have := HK1.out; have := HK2.out; have := HK3.out; omega⟩, ⟨by (with_reducible repeat first | apply qx | apply qy | apply qz); exact HO_11.out⟩, ⟨by (with_reducible repeat first | apply ql | apply qn | apply qk); exact BK405.out⟩, ⟨by repeat (first | (with_reducible first | exact HB.out | apply qh | apply qe | apply qg | refine qj ?_ GE405.out) | exact HB.out)⟩⟩
         ·rw [if_neg c23] at H
          exact absurd H (by simp)
     ·rw [if_neg c9] at H
      exact absurd H (by simp)
    ·rw [if_neg c8] at H
     exact absurd H (by simp)
   ·rw [if_neg c7] at H
    have c7b0 : decide (x13_1 < (t406.length : Int)) = false := qr c7; clear c7; obtain rfl := qia H; go_wp2; go_ret; exact ⟨by first | rfl | (simp [*] <;> rfl), by repeat (first | (with_reducible first | exact HB.out | apply qh | apply qe | apply qg | refine qj ?_ GE405.out) | exact HB.out)⟩
def spec_FormatInt.l0 : Nat → Int → ByteArray → Bool → Option (ByteArray)
 | 0, _, _, _ => none
 | k + 1, x0, x3, x4 => if x0 = 0 then (if x4 = true then (if 1 + x3.size ≤ 9223372036854775807 then (some ((⟨#[45]⟩ : ByteArray) ++ x3)) else (none)) else (some x3)) else (if (Int.tmod x0 10) < 0 then ((some (([(wrap64 (48 + (wrap64 (-(Int.tmod x0 10))))) % 256] : List Int) : List Int)).bind fun y415 => (if (strOfNums y415).size + x3.size ≤ 9223372036854775807 then (spec_FormatInt.l0 k (wrap64 (Int.tdiv x0 10)) ((strOfNums y415) ++ x3) x4) else (none))) else ((some (([(wrap64 (48 + (Int.tmod x0 10))) % 256] : List Int) : List Int)).bind fun y418 => (if (strOfNums y418).size + x3.size ≤ 9223372036854775807 then (spec_FormatInt.l0 k (wrap64 (Int.tdiv x0 10)) ((strOfNums y418) ++ x3) x4) else (none))))
def spec_FormatInt.f (k : Nat) (a0 : Int) : Option (ByteArray) := if a0 = 0 then (some (⟨#[48]⟩ : ByteArray)) else (spec_FormatInt.l0 k a0 (⟨#[]⟩ : ByteArray) (decide (a0 < 0)))
theorem spec_FormatInt.mono_l : ∀ k, (∀ y0 y1 y2, LeO (spec_FormatInt.l0 k y0 y1 y2) (spec_FormatInt.l0 (k + 1) y0 y1 y2))
 | 0 => fun _ _ _ r h => by simp [spec_FormatInt.l0] at h
 | k + 1 => by
  have ih0 := spec_FormatInt.mono_l k
  ·intro y0 y1 y2
   unfold spec_FormatInt.l0
   repeat' first
   | (with_reducible exact ih0 _ _ _)
   | (with_reducible exact LeO.refl _)
   | (with_reducible exact LeO.none _)
   | (with_reducible refine LeO.ite ?_ ?_)
   | (with_reducible refine LeO.bind ?_ (fun _ => ?_))
   | exact ih0 _ _ _
   | exact LeO.none _
   | refine LeO.ite ?_ ?_
   | refine LeO.bind ?_ (fun _ => ?_)
theorem spec_FormatInt.mono : ∀ a0 k, LeO (spec_FormatInt.f k a0) (spec_FormatInt.f (k + 1) a0) := by
 intro a0 k; have ih0 := spec_FormatInt.mono_l k; unfold spec_FormatInt.f
 repeat' first
   | (with_reducible exact ih0 _ _ _)
   | (with_reducible exact LeO.refl _)
   | (with_reducible exact LeO.none _)
   | (with_reducible refine LeO.ite ?_ ?_)
   | (with_reducible refine LeO.bind ?_ (fun _ => ?_))
   | exact ih0 _ _ _
   | exact LeO.none _
   | refine LeO.ite ?_ ?_
   | refine LeO.bind ?_ (fun _ => ?_)
theorem spec_FormatInt.calls (k : Nat) (a0 : Int) (r : ByteArray) (w : World) (h : spec_FormatInt.f k a0 = some r) :
  Calls Tryd.prog 37 #[.int .i64 a0] w fun e w' => e = .returned (.string r) ∧ Below w.heap.size w w' := by
 have HB := qa (qsb w.heap.size w); have H := h; unfold spec_FormatInt.f at H; clear h
 by_cases c2 : a0 = 0
 ·rw [if_pos c2] at H
  have c2b0 : (a0 == 0) = true := ze c2; have c2b1 : (a0 != 0) = false := zc c2; clear c2; obtain rfl := qia H; go_enter Tryd.func37, Tryd.ntmps37; go_wp2; go_ret; exact ⟨by first | rfl | (simp [*] <;> rfl), by repeat (first | (with_reducible first | exact HB.out | apply qh | apply qe | apply qg) | exact HB.out)⟩
 ·rw [if_neg c2] at H
  have c2b0 : (a0 == 0) = false := zd c2; have c2b1 : (a0 != 0) = true := zf c2; have H' := qa H; clear H; go_enter Tryd.func37, Tryd.ntmps37; go_wp2
  go_loopg [0, 3] k (fun kq v0 v3 w' => ∃ (x0_1 : Int) (x3_1 : ByteArray), v0 = .int .i64 x0_1 ∧ v3 = .string x3_1 ∧ Aside0 (spec_FormatInt.l0 kq x0_1 x3_1 (decide (a0 < 0)) = some r) ∧ Aside0 (kq ≤ k) ∧ Aside0 (Below w.heap.size w w'))
  case atStart => exact ⟨(a0), ((⟨#[]⟩ : ByteArray)), (by first | rfl | (simp; done) | (simp [*]; done)), (by first | rfl | (simp; done) | (simp [*]; done)), H', ⟨qqb _⟩, ⟨by repeat (first | (with_reducible first | exact HB.out | apply qh | apply qe | apply qg) | exact HB.out)⟩⟩
  case round =>
   clear H'; (try clear c2); (try clear c2b0); (try clear c2b1); (try clear p2); obtain ⟨x0_1, x3_1, rfl, rfl, HA, HK1, HB⟩ := hrel
   cases gk with
   | zero => exact absurd HA.out (by simp [spec_FormatInt.l0])
   | succ k1 =>
    have H := HA.out; clear HA; simp only [spec_FormatInt.l0] at H
    by_cases c3 : x0_1 = 0
    ·rw [if_pos c3] at H
     have c3b0 : (x0_1 == 0) = true := ze c3; have c3b1 : (x0_1 != 0) = false := zc c3; clear c3
     by_cases c4 : (decide (a0 < 0)) = true
     ·rw [if_pos c4] at H
      have c4b0 : (decide (a0 < 0)) = true := c4; clear c4
      by_cases c5 : 1 + x3_1.size ≤ 9223372036854775807
      ·rw [if_pos c5] at H
       have c5b0 := qga c5; have c5b1 : decide (1 + x3_1.size ≤ 9223372036854775807) = true := qq c5
       try have c5b2 : (9223372036854775807 < 1 + x3_1.size) = False := eq_false (Nat.not_lt.2 c5)
       obtain rfl := qia H; go_wp2
       all_goals (first | (exfalso; have h_ := qm c4b0; omega) | (go_ret; exact ⟨by first | rfl | (simp [*] <;> rfl), by repeat (first | (with_reducible first | exact HB.out | apply qh | apply qe | apply qg) | exact HB.out)⟩))
      ·rw [if_neg c5] at H
       exact absurd H (by simp)
     ·rw [if_neg c4] at H
      have c4b0 : (decide (a0 < 0)) = false := by simpa using c4
      clear c4; obtain rfl := qia H; go_wp2
      all_goals (first | (exfalso; have h_ := of_decide_eq_false c4b0; omega) | (go_ret; exact ⟨by first | rfl | (simp [*] <;> rfl), by repeat (first | (with_reducible first | exact HB.out | apply qh | apply qe | apply qg) | exact HB.out)⟩))
    ·rw [if_neg c3] at H
     have c3b0 : (x0_1 == 0) = false := zd c3; have c3b1 : (x0_1 != 0) = true := zf c3
     by_cases c6 : (Int.tmod x0_1 10) < 0
     ·rw [if_pos c6] at H
      have c6b0 : decide ((Int.tmod x0_1 10) < 0) = true := qq c6; clear c6
      obtain ⟨y415, hy415⟩ : ∃ y_ : List Int, y_ = (([(wrap64 (48 + (wrap64 (-(Int.tmod x0_1 10))))) % 256] : List Int)) := ⟨_, rfl⟩
      replace H : (if (strOfNums y415).size + x3_1.size ≤ 9223372036854775807 then (spec_FormatInt.l0 k1 (wrap64 (Int.tdiv x0_1 10)) ((strOfNums y415) ++ x3_1) (decide (a0 < 0))) else (none)) = some r := by first | (rw [hy415]; with_reducible exact H) | (have H2_ := (Option.bind_some _ _).symm.trans H; rw [hy415]; with_reducible exact H2_) | (have H2_ := (Option.bind_some _ _).symm.trans H; with_reducible exact H2_) | with_reducible exact H | (rw [hy415]; exact H) | exact H
      have Ny415 := qa hy415; clear hy415
      by_cases c7 : (strOfNums y415).size + x3_1.size ≤ 9223372036854775807
      ·rw [if_pos c7] at H
       have c7b0 := qga c7; have c7b1 : decide ((strOfNums y415).size + x3_1.size ≤ 9223372036854775807) = true := qq c7
       try have c7b2 : (9223372036854775807 < (strOfNums y415).size + x3_1.size) = False := eq_false (Nat.not_lt.2 c7)
       have H' := qa H; clear H
       go_wp2_with (first | ((with_reducible refine gate_dst (N := 21) rfl ?_); refine qcc (Kd.int .u8) _ 5 ?hg (N := 21) ?hd (xs := ([(wrap64 (48 + (wrap64 (-(Int.tmod x0_1 10))))) % 256] : List Int)) (inner := [.int .u8 ((wrap64 (48 + (wrap64 (-(Int.tmod x0_1 10))))) % 256)]) (ok := fun _ => True) (okp := fun _ => True) ?hr ?hp (fun _ hk => hk) trivial (qsb _ _) (qqb _) (by simp) ?_; (case hd => rfl); (case hg => rfl); (case hr => first | (go_simp; done) | (go_simp; rfl)); (case hp => exact (Reps.one (show Kd.M (Kd.int .u8) _ _ _ ((wrap64 (48 + (wrap64 (-(Int.tmod x0_1 10))))) % 256) [.int .u8 ((wrap64 (48 + (wrap64 (-(Int.tmod x0_1 10))))) % 256)] from rfl) (Reps.none _ _))); intro v416 w8 ho9 hb hg_ hnew_; clear hg_ hnew_; (first | rw [← Ny415.out] at ho9 | (simp only [Int.reduceToNat] at ho9; rw [← Ny415.out] at ho9)); have n0_ := qa (qvb ho9 (qp (by repeat (first | (with_reducible first | exact HB.out | apply qh | apply qe | apply qg) | exact HB.out)))); have n1_ := qa (qha (by repeat (first | (with_reducible first | exact HB.out | apply qh | apply qe | apply qg) | exact HB.out)) hb); clear HB; have HO417 := n0_; have HB := n1_; clear n0_ n1_; clear hb ho9; have hcv10 := own_string (P := Tryd.prog) Tryd.underlying22 Tryd.underlying5 Tryd.underlying9 (Kd.own_of_R HO417.out)))
       go_roundg k1
       case measure => have := HK1.out; omega
       case rel => exact ⟨(wrap64 (Int.tdiv x0_1 10)), ((strOfNums y415) ++ x3_1), (by first | rfl | (simp; done) | (simp [*]; done)), (by first | rfl | (simp; done) | (simp [*]; done)), H', ⟨by have := HK1.out; omega⟩, ⟨by repeat (first | (with_reducible first | exact HB.out | apply qh | apply qe | apply qg) | exact HB.out)⟩⟩
      ·rw [if_neg c7] at H
       exact absurd H (by simp)
     ·rw [if_neg c6] at H
      have c6b0 : decide ((Int.tmod x0_1 10) < 0) = false := qr c6; clear c6
      obtain ⟨y418, hy418⟩ : ∃ y_ : List Int, y_ = (([(wrap64 (48 + (Int.tmod x0_1 10))) % 256] : List Int)) := ⟨_, rfl⟩
      replace H : (if (strOfNums y418).size + x3_1.size ≤ 9223372036854775807 then (spec_FormatInt.l0 k1 (wrap64 (Int.tdiv x0_1 10)) ((strOfNums y418) ++ x3_1) (decide (a0 < 0))) else (none)) = some r := by first | (rw [hy418]; with_reducible exact H) | (have H2_ := (Option.bind_some _ _).symm.trans H; rw [hy418]; with_reducible exact H2_) | (have H2_ := (Option.bind_some _ _).symm.trans H; with_reducible exact H2_) | with_reducible exact H | (rw [hy418]; exact H) | exact H
      have Ny418 := qa hy418; clear hy418
      by_cases c11 : (strOfNums y418).size + x3_1.size ≤ 9223372036854775807
      ·rw [if_pos c11] at H
       have c11b0 := qga c11; have c11b1 : decide ((strOfNums y418).size + x3_1.size ≤ 9223372036854775807) = true := qq c11
       try have c11b2 : (9223372036854775807 < (strOfNums y418).size + x3_1.size) = False := eq_false (Nat.not_lt.2 c11)
       have H' := qa H; clear H
       go_wp2_with (first | ((with_reducible refine gate_dst (N := 21) rfl ?_); refine qcc (Kd.int .u8) _ 5 ?hg (N := 21) ?hd (xs := ([(wrap64 (48 + (Int.tmod x0_1 10))) % 256] : List Int)) (inner := [.int .u8 ((wrap64 (48 + (Int.tmod x0_1 10))) % 256)]) (ok := fun _ => True) (okp := fun _ => True) ?hr ?hp (fun _ hk => hk) trivial (qsb _ _) (qqb _) (by simp) ?_; (case hd => rfl); (case hg => rfl); (case hr => first | (go_simp; done) | (go_simp; rfl)); (case hp => exact (Reps.one (show Kd.M (Kd.int .u8) _ _ _ ((wrap64 (48 + (Int.tmod x0_1 10))) % 256) [.int .u8 ((wrap64 (48 + (Int.tmod x0_1 10))) % 256)] from rfl) (Reps.none _ _))); intro v419 w12 ho13 hb hg_ hnew_; clear hg_ hnew_; (first | rw [← Ny418.out] at ho13 | (simp only [Int.reduceToNat] at ho13; rw [← Ny418.out] at ho13)); have n0_ := qa (qvb ho13 (qp (by repeat (first | (with_reducible first | exact HB.out | apply qh | apply qe | apply qg) | exact HB.out)))); have n1_ := qa (qha (by repeat (first | (with_reducible first | exact HB.out | apply qh | apply qe | apply qg) | exact HB.out)) hb); clear HB; have HO420 := n0_; have HB := n1_; clear n0_ n1_; clear hb ho13; have hcv14 := own_string (P := Tryd.prog) Tryd.underlying22 Tryd.underlying5 Tryd.underlying9 (Kd.own_of_R HO420.out)))
       go_roundg k1
       case measure => have := HK1.out; omega
       case rel => exact ⟨(wrap64 (Int.tdiv x0_1 10)), ((strOfNums y418) ++ x3_1), (by first | rfl | (simp; done) | (simp [*]; done)), (by first | rfl | (simp; done) | (simp [*]; done)), H', ⟨by have := HK1.out; omega⟩, ⟨by repeat (first | (with_reducible first | exact HB.out | apply qh | apply qe | apply qg) | exact HB.out)⟩⟩
      ·rw [if_neg c11] at H
       exact absurd H (by simp)
end Go.Proofs.YtkjpbhncgjhfeaaDoor.PFnFeet
