-- written for this claim by a program of this session (wip/patch_print.py over the kit's print)
import Derived.Test.YtkjpbhncgjhfeaaDoorPFnIntegerEncodingsx0
import Derived.Test.YtkjpbhncgjhfeaaDoorPFnIntegerEncodingsx1
import Derived.Test.YtkjpbhncgjhfeaaDoorPFnIntegerEncodingsx2
import Derived.Test.YtkjpbhncgjhfeaaDoorPFnIntegerEncodingsx3
namespace Go.Proofs.YtkjpbhncgjhfeaaDoor.PFnIntegerEncodings
open Go.RowKit Go.Proofs.YtkjpbhncgjhfeaaDoorW.PrintWords Go.Proofs.YtkjpbhncgjhfeaaDoorW.PrintLast Go.Proofs.YtkjpbhncgjhfeaaDoorW.PrintMore
attribute [local go_sem] max2_int min2_int max_two min_two max_three min_three max_four min_four   -- for this text's walks alone
set_option linter.unusedVariables false
set_option linter.unusedSimpArgs false

/-! ### spec_FormatInt: function 37 -/
def spec_FormatInt.l0 : Nat → Int → ByteArray → Bool → Option (ByteArray)
  | 0, _, _, _ => none
  | k + 1, x0, x3, x4 => if x0 = 0 then (if x4 = true then (if 1 + x3.size ≤ 9223372036854775807 then (some ((⟨#[45]⟩ : ByteArray) ++ x3)) else (none)) else (some x3)) else (if (Int.tmod x0 10) < 0 then ((some (([(wrap64 (48 + (wrap64 (-(Int.tmod x0 10))))) % 256] : List Int) : List Int)).bind fun y234 => (if (strOfNums y234).size + x3.size ≤ 9223372036854775807 then (spec_FormatInt.l0 k (wrap64 (Int.tdiv x0 10)) ((strOfNums y234) ++ x3) x4) else (none))) else ((some (([(wrap64 (48 + (Int.tmod x0 10))) % 256] : List Int) : List Int)).bind fun y237 => (if (strOfNums y237).size + x3.size ≤ 9223372036854775807 then (spec_FormatInt.l0 k (wrap64 (Int.tdiv x0 10)) ((strOfNums y237) ++ x3) x4) else (none))))
def spec_FormatInt.f (k : Nat) (a0 : Int) : Option (ByteArray) := if a0 = 0 then (some (⟨#[48]⟩ : ByteArray)) else (spec_FormatInt.l0 k a0 (⟨#[]⟩ : ByteArray) (decide (a0 < 0)))
theorem spec_FormatInt.mono_l : ∀ k, (∀ y0 y1 y2, LeO (spec_FormatInt.l0 k y0 y1 y2) (spec_FormatInt.l0 (k + 1) y0 y1 y2))
  | 0 => fun _ _ _ r h => by simp [spec_FormatInt.l0] at h
  | k + 1 => by
    have ih0 := spec_FormatInt.mono_l k
    · intro y0 y1 y2
      unfold spec_FormatInt.l0
      repeat' first
      | (with_reducible exact ih0 _ _ _)
      | (with_reducible exact LeO.refl _)
      | (with_reducible exact LeO.none _)
      | (with_reducible refine LeO.ite ?_ ?_)
      | (with_reducible refine LeO.bind ?_ (fun _ => ?_))
      | exact ih0 _ _ _
      | exact LeO.none _
      | refine LeO.ite ?_ ?_
      | refine LeO.bind ?_ (fun _ => ?_)
theorem spec_FormatInt.mono : ∀ a0 k, LeO (spec_FormatInt.f k a0) (spec_FormatInt.f (k + 1) a0) := by
  intro a0 k
  have ih0 := spec_FormatInt.mono_l k
  unfold spec_FormatInt.f
  repeat' first
      | (with_reducible exact ih0 _ _ _)
      | (with_reducible exact LeO.refl _)
      | (with_reducible exact LeO.none _)
      | (with_reducible refine LeO.ite ?_ ?_)
      | (with_reducible refine LeO.bind ?_ (fun _ => ?_))
      | exact ih0 _ _ _
      | exact LeO.none _
      | refine LeO.ite ?_ ?_
      | refine LeO.bind ?_ (fun _ => ?_)
set_option maxHeartbeats 8000000 in
set_option maxRecDepth 100000 in
theorem spec_FormatInt.calls (k : Nat) (a0 : Int) (r : ByteArray) (w : World) (h : spec_FormatInt.f k a0 = some r) :
    Calls Tryd.prog 37 #[.int .i64 a0] w fun e w' => e = .returned (.string r) ∧ Below w.heap.size w w' := by
  have HB := Aside0.mk (Below.refl w.heap.size w)
  have H : (if a0 = 0 then (some (⟨#[48]⟩ : ByteArray)) else (spec_FormatInt.l0 k a0 (⟨#[]⟩ : ByteArray) (decide (a0 < 0)))) = some r := h
  clear h
  by_cases c2 : a0 = 0
  · rw [if_pos c2] at H
    have c2b0 : (a0 == 0) = true := beq_iff_eq.mpr c2
    have c2b1 : (a0 != 0) = false := bne_eq_false_iff_eq.mpr c2
    clear c2
    obtain rfl := Option.some.inj H
    go_enter Tryd.func37, Tryd.ntmps37
    go_wp2
    go_ret
    exact ⟨by first | rfl | (simp [errW_none, errW_some] <;> rfl) | (simp [*, errW_none, errW_some] <;> rfl), by repeat (first | (with_reducible first | exact HB.out | apply below_alloc | apply pw_below_drewN | apply below_drew1) | exact HB.out)⟩
  · rw [if_neg c2] at H
    have c2b0 : (a0 == 0) = false := beq_eq_false_iff_ne.mpr c2
    have c2b1 : (a0 != 0) = true := bne_iff_ne.mpr c2
    have H' := Aside0.mk H
    clear H
    go_enter Tryd.func37, Tryd.ntmps37
    go_wp2
    go_loopg [0, 3] k (fun kq v0 v3 w' => ∃ (x0_1 : Int) (x3_1 : ByteArray), v0 = .int .i64 x0_1 ∧ v3 = .string x3_1 ∧ Aside0 (spec_FormatInt.l0 kq x0_1 x3_1 (decide (a0 < 0)) = some r) ∧ Aside0 (kq ≤ k) ∧ Aside0 (Below w.heap.size w w'))
    case atStart => exact ⟨(a0), ((⟨#[]⟩ : ByteArray)), (by first | rfl | (simp; done) | (simp [*]; done)), (by first | rfl | (simp; done) | (simp [*]; done)), H', ⟨Nat.le_refl _⟩, ⟨by repeat (first | (with_reducible first | exact HB.out | apply below_alloc | apply pw_below_drewN | apply below_drew1) | exact HB.out)⟩⟩
    case round =>
      clear H'
      try clear c2
      try clear c2b0
      try clear c2b1
      try clear p2
      obtain ⟨x0_1, x3_1, rfl, rfl, HA, HK1, HB⟩ := hrel
      cases gk with
      | zero => exact absurd HA.out (by simp [spec_FormatInt.l0])
      | succ k1 =>
        have H := HA.out
        clear HA
        simp only [spec_FormatInt.l0] at H
        by_cases c3 : x0_1 = 0
        · rw [if_pos c3] at H
          have c3b0 : (x0_1 == 0) = true := beq_iff_eq.mpr c3
          have c3b1 : (x0_1 != 0) = false := bne_eq_false_iff_eq.mpr c3
          clear c3
          by_cases c4 : (decide (a0 < 0)) = true
          · rw [if_pos c4] at H
            have c4b0 : (decide (a0 < 0)) = true := c4
            clear c4
            by_cases c5 : 1 + x3_1.size ≤ 9223372036854775807
            · rw [if_pos c5] at H
              have c5b0 := eq_true c5
              have c5b1 : decide (1 + x3_1.size ≤ 9223372036854775807) = true := decide_eq_true c5
              try have c5b2 : (9223372036854775807 < 1 + x3_1.size) = False := eq_false (Nat.not_lt.2 c5)
              obtain rfl := Option.some.inj H
              go_wp2
              all_goals (first | (exfalso; have h_ := of_decide_eq_true c4b0; omega) | (go_ret; exact ⟨by first | rfl | (simp [errW_none, errW_some] <;> rfl) | (simp [*, errW_none, errW_some] <;> rfl), by repeat (first | (with_reducible first | exact HB.out | apply below_alloc | apply pw_below_drewN | apply below_drew1) | exact HB.out)⟩))
            · rw [if_neg c5] at H
              exact absurd H (by simp)
          · rw [if_neg c4] at H
            have c4b0 : (decide (a0 < 0)) = false := by simpa using c4
            clear c4
            obtain rfl := Option.some.inj H
            go_wp2
            all_goals (first | (exfalso; have h_ := of_decide_eq_false c4b0; omega) | (go_ret; exact ⟨by first | rfl | (simp [errW_none, errW_some] <;> rfl) | (simp [*, errW_none, errW_some] <;> rfl), by repeat (first | (with_reducible first | exact HB.out | apply below_alloc | apply pw_below_drewN | apply below_drew1) | exact HB.out)⟩))
        · rw [if_neg c3] at H
          have c3b0 : (x0_1 == 0) = false := beq_eq_false_iff_ne.mpr c3
          have c3b1 : (x0_1 != 0) = true := bne_iff_ne.mpr c3
          by_cases c6 : (Int.tmod x0_1 10) < 0
          · rw [if_pos c6] at H
            have c6b0 : decide ((Int.tmod x0_1 10) < 0) = true := decide_eq_true c6
            clear c6
            obtain ⟨y234, hy234⟩ : ∃ y_ : List Int, y_ = (([(wrap64 (48 + (wrap64 (-(Int.tmod x0_1 10))))) % 256] : List Int)) := ⟨_, rfl⟩
            replace H : (if (strOfNums y234).size + x3_1.size ≤ 9223372036854775807 then (spec_FormatInt.l0 k1 (wrap64 (Int.tdiv x0_1 10)) ((strOfNums y234) ++ x3_1) (decide (a0 < 0))) else (none)) = some r := by first | (rw [hy234]; with_reducible exact H) | (have H2_ := (Option.bind_some _ _).symm.trans H; rw [hy234]; with_reducible exact H2_) | (have H2_ := (Option.bind_some _ _).symm.trans H; with_reducible exact H2_) | with_reducible exact H | (rw [hy234]; exact H) | exact H
            have Ny234 := Aside0.mk hy234
            clear hy234
            by_cases c7 : (strOfNums y234).size + x3_1.size ≤ 9223372036854775807
            · rw [if_pos c7] at H
              have c7b0 := eq_true c7
              have c7b1 : decide ((strOfNums y234).size + x3_1.size ≤ 9223372036854775807) = true := decide_eq_true c7
              try have c7b2 : (9223372036854775807 < (strOfNums y234).size + x3_1.size) = False := eq_false (Nat.not_lt.2 c7)
              have H' := Aside0.mk H
              clear H
              go_wp2_with (first | ((with_reducible refine gate_dst (N := 21) rfl ?_); refine Kd.R_lit (Kd.int .u8) _ 5 ?hg (N := 21) ?hd (xs := ([(wrap64 (48 + (wrap64 (-(Int.tmod x0_1 10))))) % 256] : List Int)) (inner := [.int .u8 ((wrap64 (48 + (wrap64 (-(Int.tmod x0_1 10))))) % 256)]) (ok := fun _ => True) (okp := fun _ => True) ?hr ?hp (fun _ hk => hk) trivial (Below.refl _ _) (Nat.le_refl _) (by simp) ?_; (case hd => rfl); (case hg => rfl); (case hr => first | (go_simp; done) | (go_simp; rfl)); (case hp => exact (Reps.one (show Kd.M (Kd.int .u8) _ _ _ ((wrap64 (48 + (wrap64 (-(Int.tmod x0_1 10))))) % 256) [.int .u8 ((wrap64 (48 + (wrap64 (-(Int.tmod x0_1 10))))) % 256)] from rfl) (Reps.none _ _))); intro v235 w8 ho9 hb hg_ hnew_; clear hg_ hnew_; (first | rw [← Ny234.out] at ho9 | (simp only [Int.reduceToNat] at ho9; rw [← Ny234.out] at ho9)); have n0_ := Aside0.mk (Kd.R_lower ho9 (below_size (by repeat (first | (with_reducible first | exact HB.out | apply below_alloc | apply pw_below_drewN | apply below_drew1) | exact HB.out)))); have n1_ := Aside0.mk (below_step (by repeat (first | (with_reducible first | exact HB.out | apply below_alloc | apply pw_below_drewN | apply below_drew1) | exact HB.out)) hb); clear HB; have HO236 := n0_; have HB := n1_; clear n0_ n1_; clear hb ho9; have hcv10 := own_string (P := Tryd.prog) Tryd.underlying22 Tryd.underlying5 Tryd.underlying9 (Kd.own_of_R HO236.out)))
              go_roundg k1
              case measure => have := HK1.out; omega
              case rel => exact ⟨(wrap64 (Int.tdiv x0_1 10)), ((strOfNums y234) ++ x3_1), (by first | rfl | (simp; done) | (simp [*]; done)), (by first | rfl | (simp; done) | (simp [*]; done)), H', ⟨by have := HK1.out; omega⟩, ⟨by repeat (first | (with_reducible first | exact HB.out | apply below_alloc | apply pw_below_drewN | apply below_drew1) | exact HB.out)⟩⟩
            · rw [if_neg c7] at H
              exact absurd H (by simp)
          · rw [if_neg c6] at H
            have c6b0 : decide ((Int.tmod x0_1 10) < 0) = false := decide_eq_false c6
            clear c6
            obtain ⟨y237, hy237⟩ : ∃ y_ : List Int, y_ = (([(wrap64 (48 + (Int.tmod x0_1 10))) % 256] : List Int)) := ⟨_, rfl⟩
            replace H : (if (strOfNums y237).size + x3_1.size ≤ 9223372036854775807 then (spec_FormatInt.l0 k1 (wrap64 (Int.tdiv x0_1 10)) ((strOfNums y237) ++ x3_1) (decide (a0 < 0))) else (none)) = some r := by first | (rw [hy237]; with_reducible exact H) | (have H2_ := (Option.bind_some _ _).symm.trans H; rw [hy237]; with_reducible exact H2_) | (have H2_ := (Option.bind_some _ _).symm.trans H; with_reducible exact H2_) | with_reducible exact H | (rw [hy237]; exact H) | exact H
            have Ny237 := Aside0.mk hy237
            clear hy237
            by_cases c11 : (strOfNums y237).size + x3_1.size ≤ 9223372036854775807
            · rw [if_pos c11] at H
              have c11b0 := eq_true c11
              have c11b1 : decide ((strOfNums y237).size + x3_1.size ≤ 9223372036854775807) = true := decide_eq_true c11
              try have c11b2 : (9223372036854775807 < (strOfNums y237).size + x3_1.size) = False := eq_false (Nat.not_lt.2 c11)
              have H' := Aside0.mk H
              clear H
              go_wp2_with (first | ((with_reducible refine gate_dst (N := 21) rfl ?_); refine Kd.R_lit (Kd.int .u8) _ 5 ?hg (N := 21) ?hd (xs := ([(wrap64 (48 + (Int.tmod x0_1 10))) % 256] : List Int)) (inner := [.int .u8 ((wrap64 (48 + (Int.tmod x0_1 10))) % 256)]) (ok := fun _ => True) (okp := fun _ => True) ?hr ?hp (fun _ hk => hk) trivial (Below.refl _ _) (Nat.le_refl _) (by simp) ?_; (case hd => rfl); (case hg => rfl); (case hr => first | (go_simp; done) | (go_simp; rfl)); (case hp => exact (Reps.one (show Kd.M (Kd.int .u8) _ _ _ ((wrap64 (48 + (Int.tmod x0_1 10))) % 256) [.int .u8 ((wrap64 (48 + (Int.tmod x0_1 10))) % 256)] from rfl) (Reps.none _ _))); intro v238 w12 ho13 hb hg_ hnew_; clear hg_ hnew_; (first | rw [← Ny237.out] at ho13 | (simp only [Int.reduceToNat] at ho13; rw [← Ny237.out] at ho13)); have n0_ := Aside0.mk (Kd.R_lower ho13 (below_size (by repeat (first | (with_reducible first | exact HB.out | apply below_alloc | apply pw_below_drewN | apply below_drew1) | exact HB.out)))); have n1_ := Aside0.mk (below_step (by repeat (first | (with_reducible first | exact HB.out | apply below_alloc | apply pw_below_drewN | apply below_drew1) | exact HB.out)) hb); clear HB; have HO239 := n0_; have HB := n1_; clear n0_ n1_; clear hb ho13; have hcv14 := own_string (P := Tryd.prog) Tryd.underlying22 Tryd.underlying5 Tryd.underlying9 (Kd.own_of_R HO239.out)))
              go_roundg k1
              case measure => have := HK1.out; omega
              case rel => exact ⟨(wrap64 (Int.tdiv x0_1 10)), ((strOfNums y237) ++ x3_1), (by first | rfl | (simp; done) | (simp [*]; done)), (by first | rfl | (simp; done) | (simp [*]; done)), H', ⟨by have := HK1.out; omega⟩, ⟨by repeat (first | (with_reducible first | exact HB.out | apply below_alloc | apply pw_below_drewN | apply below_drew1) | exact HB.out)⟩⟩
            · rw [if_neg c11] at H
              exact absurd H (by simp)

/-! ### laws_FnIntegerEncodings: function 4 -/
mutual
def laws_FnIntegerEncodings.j0 : Nat → List Int → ByteArray → Bool → Option (Bool)
  | 0, _, _, _ => none
  | k + 1, x0, x4, x57 => if x57 = true then (some false) else ((spec_DrawEncodeFixed.f k x0).bind fun bt246 => ((impl_EncodeFixed.f k bt246.1 bt246.2).bind fun t248 => (if t248.size + x4.size ≤ 9223372036854775807 then ((impl_DecodeFixed.f k (t248 ++ x4) bt246.2).bind fun bt249 => (if t248.toList = ([] : List UInt8) then ((spec_EncodeFixed.f k bt246.1 bt246.2).bind fun t251 => (laws_FnIntegerEncodings.j1 k x4 bt246.1 ((t248.toList != ([] : List UInt8)) != (t251.toList != ([] : List UInt8))))) else (if bt249.2 = true then (if bt249.1 = bt246.1 then (if (t248.size : Int) = bt246.2 then ((spec_EncodeFixed.f k bt246.1 bt246.2).bind fun t252 => (laws_FnIntegerEncodings.j1 k x4 bt246.1 ((t248.toList != ([] : List UInt8)) != (t252.toList != ([] : List UInt8))))) else (laws_FnIntegerEncodings.j1 k x4 bt246.1 true)) else (laws_FnIntegerEncodings.j1 k x4 bt246.1 true)) else (laws_FnIntegerEncodings.j1 k x4 bt246.1 true)))) else (none))))
def laws_FnIntegerEncodings.j1 : Nat → ByteArray → Int → Bool → Option (Bool)
  | 0, _, _, _ => none
  | k + 1, x4, x8, x99 => if x99 = true then (some false) else ((impl_EncodeHex.f k x4).bind fun t253 => ((impl_DecodeHex.f k t253).bind fun bt254 => ((impl_FormatInt.f k x8).bind fun t256 => ((impl_ParseInt.f k t256).bind fun bt257 => (if bt254.2 = true then (if bt254.1.toList = x4.toList then (if (t253.size : Int) = (wrap64 (2 * (x4.size : Int))) then ((spec_FormatInt.f k x8).bind fun t259 => (if t256.toList = t259.toList then (if bt257.2 = true then (if bt257.1 = x8 then (if x8 > (-1000000000) then (some (bt257.2 == (decide (x8 < 1000000000)))) else (some (bt257.2 == false))) else (some false)) else (if x8 > (-1000000000) then (some (bt257.2 == (decide (x8 < 1000000000)))) else (some (bt257.2 == false)))) else (some false))) else (some false)) else (some false)) else (some false))))))
end
def laws_FnIntegerEncodings.f (k : Nat) (l0 : List Int) : Option (Bool) := (laws_big.f l0).bind fun t240 => (if t240 = true then (some true) else ((spec_DrawEncodeVarint.f k l0).bind fun t241 => ((spec_DrawEncodeHex.f k l0).bind fun t242 => ((impl_EncodeVarint.f k t241).bind fun t243 => (if t243.size + t242.size ≤ 9223372036854775807 then ((impl_DecodeVarint.f k (t243 ++ t242)).bind fun bt244 => (if t241 ≥ 0 then (if ((t243.toList != ([] : List UInt8)) != (decide (t241 ≤ 562949953421311))) = true then (laws_FnIntegerEncodings.j0 k l0 t242 true) else (if t243.toList = ([] : List UInt8) then (laws_FnIntegerEncodings.j0 k l0 t242 false) else (if bt244.1 = t241 then (laws_FnIntegerEncodings.j0 k l0 t242 (bt244.2 != (t243.size : Int))) else (laws_FnIntegerEncodings.j0 k l0 t242 true)))) else (if ((t243.toList != ([] : List UInt8)) != false) = true then (laws_FnIntegerEncodings.j0 k l0 t242 true) else (if t243.toList = ([] : List UInt8) then (laws_FnIntegerEncodings.j0 k l0 t242 false) else (if bt244.1 = t241 then (laws_FnIntegerEncodings.j0 k l0 t242 (bt244.2 != (t243.size : Int))) else (laws_FnIntegerEncodings.j0 k l0 t242 true)))))) else (none))))))
theorem laws_FnIntegerEncodings.mono_l : ∀ k, (∀ y0 y1 y2, LeO (laws_FnIntegerEncodings.j0 k y0 y1 y2) (laws_FnIntegerEncodings.j0 (k + 1) y0 y1 y2)) ∧ (∀ y0 y1 y2, LeO (laws_FnIntegerEncodings.j1 k y0 y1 y2) (laws_FnIntegerEncodings.j1 (k + 1) y0 y1 y2))
  | 0 => ⟨fun _ _ _ r h => by simp [laws_FnIntegerEncodings.j0] at h, fun _ _ _ r h => by simp [laws_FnIntegerEncodings.j1] at h⟩
  | k + 1 => by
    obtain ⟨ih0, ih1⟩ := laws_FnIntegerEncodings.mono_l k
    refine ⟨?_, ?_⟩
    · intro y0 y1 y2
      unfold laws_FnIntegerEncodings.j0
      repeat' first
      | (with_reducible exact ih0 _ _ _)
      | (with_reducible exact ih1 _ _ _)
      | (with_reducible exact impl_DecodeFixed.mono _ _ _)
      | (with_reducible exact impl_DecodeHex.mono _ _)
      | (with_reducible exact impl_DecodeVarint.mono _ _)
      | (with_reducible exact impl_EncodeFixed.mono _ _ _)
      | (with_reducible exact impl_EncodeHex.mono _ _)
      | (with_reducible exact impl_EncodeVarint.mono _ _)
      | (with_reducible exact impl_FormatInt.mono _ _)
      | (with_reducible exact impl_ParseInt.mono _ _)
      | (with_reducible exact spec_DrawEncodeFixed.mono _ _)
      | (with_reducible exact spec_DrawEncodeHex.mono _ _)
      | (with_reducible exact spec_DrawEncodeVarint.mono _ _)
      | (with_reducible exact spec_EncodeFixed.mono _ _ _)
      | (with_reducible exact spec_FormatInt.mono _ _)
      | (with_reducible exact LeO.refl _)
      | (with_reducible exact LeO.none _)
      | (with_reducible refine LeO.ite ?_ ?_)
      | (with_reducible refine LeO.bind ?_ (fun _ => ?_))
      | exact ih0 _ _ _
      | exact ih1 _ _ _
      | exact impl_DecodeFixed.mono _ _ _
      | exact impl_DecodeHex.mono _ _
      | exact impl_DecodeVarint.mono _ _
      | exact impl_EncodeFixed.mono _ _ _
      | exact impl_EncodeHex.mono _ _
      | exact impl_EncodeVarint.mono _ _
      | exact impl_FormatInt.mono _ _
      | exact impl_ParseInt.mono _ _
      | exact spec_DrawEncodeFixed.mono _ _
      | exact spec_DrawEncodeHex.mono _ _
      | exact spec_DrawEncodeVarint.mono _ _
      | exact spec_EncodeFixed.mono _ _ _
      | exact spec_FormatInt.mono _ _
      | exact LeO.none _
      | refine LeO.ite ?_ ?_
      | refine LeO.bind ?_ (fun _ => ?_)
    · intro y0 y1 y2
      unfold laws_FnIntegerEncodings.j1
      repeat' first
      | (with_reducible exact ih0 _ _ _)
      | (with_reducible exact ih1 _ _ _)
      | (with_reducible exact impl_DecodeFixed.mono _ _ _)
      | (with_reducible exact impl_DecodeHex.mono _ _)
      | (with_reducible exact impl_DecodeVarint.mono _ _)
      | (with_reducible exact impl_EncodeFixed.mono _ _ _)
      | (with_reducible exact impl_EncodeHex.mono _ _)
      | (with_reducible exact impl_EncodeVarint.mono _ _)
      | (with_reducible exact impl_FormatInt.mono _ _)
      | (with_reducible exact impl_ParseInt.mono _ _)
      | (with_reducible exact spec_DrawEncodeFixed.mono _ _)
      | (with_reducible exact spec_DrawEncodeHex.mono _ _)
      | (with_reducible exact spec_DrawEncodeVarint.mono _ _)
      | (with_reducible exact spec_EncodeFixed.mono _ _ _)
      | (with_reducible exact spec_FormatInt.mono _ _)
      | (with_reducible exact LeO.refl _)
      | (with_reducible exact LeO.none _)
      | (with_reducible refine LeO.ite ?_ ?_)
      | (with_reducible refine LeO.bind ?_ (fun _ => ?_))
      | exact ih0 _ _ _
      | exact ih1 _ _ _
      | exact impl_DecodeFixed.mono _ _ _
      | exact impl_DecodeHex.mono _ _
      | exact impl_DecodeVarint.mono _ _
      | exact impl_EncodeFixed.mono _ _ _
      | exact impl_EncodeHex.mono _ _
      | exact impl_EncodeVarint.mono _ _
      | exact impl_FormatInt.mono _ _
      | exact impl_ParseInt.mono _ _
      | exact spec_DrawEncodeFixed.mono _ _
      | exact spec_DrawEncodeHex.mono _ _
      | exact spec_DrawEncodeVarint.mono _ _
      | exact spec_EncodeFixed.mono _ _ _
      | exact spec_FormatInt.mono _ _
      | exact LeO.none _
      | refine LeO.ite ?_ ?_
      | refine LeO.bind ?_ (fun _ => ?_)
theorem laws_FnIntegerEncodings.mono : ∀ a0 k, LeO (laws_FnIntegerEncodings.f k a0) (laws_FnIntegerEncodings.f (k + 1) a0) := by
  intro a0 k
  obtain ⟨ih0, ih1⟩ := laws_FnIntegerEncodings.mono_l k
  unfold laws_FnIntegerEncodings.f
  repeat' first
      | (with_reducible exact ih0 _ _ _)
      | (with_reducible exact ih1 _ _ _)
      | (with_reducible exact impl_DecodeFixed.mono _ _ _)
      | (with_reducible exact impl_DecodeHex.mono _ _)
      | (with_reducible exact impl_DecodeVarint.mono _ _)
      | (with_reducible exact impl_EncodeFixed.mono _ _ _)
      | (with_reducible exact impl_EncodeHex.mono _ _)
      | (with_reducible exact impl_EncodeVarint.mono _ _)
      | (with_reducible exact impl_FormatInt.mono _ _)
      | (with_reducible exact impl_ParseInt.mono _ _)
      | (with_reducible exact spec_DrawEncodeFixed.mono _ _)
      | (with_reducible exact spec_DrawEncodeHex.mono _ _)
      | (with_reducible exact spec_DrawEncodeVarint.mono _ _)
      | (with_reducible exact spec_EncodeFixed.mono _ _ _)
      | (with_reducible exact spec_FormatInt.mono _ _)
      | (with_reducible exact LeO.refl _)
      | (with_reducible exact LeO.none _)
      | (with_reducible refine LeO.ite ?_ ?_)
      | (with_reducible refine LeO.bind ?_ (fun _ => ?_))
      | exact ih0 _ _ _
      | exact ih1 _ _ _
      | exact impl_DecodeFixed.mono _ _ _
      | exact impl_DecodeHex.mono _ _
      | exact impl_DecodeVarint.mono _ _
      | exact impl_EncodeFixed.mono _ _ _
      | exact impl_EncodeHex.mono _ _
      | exact impl_EncodeVarint.mono _ _
      | exact impl_FormatInt.mono _ _
      | exact impl_ParseInt.mono _ _
      | exact spec_DrawEncodeFixed.mono _ _
      | exact spec_DrawEncodeHex.mono _ _
      | exact spec_DrawEncodeVarint.mono _ _
      | exact spec_EncodeFixed.mono _ _ _
      | exact spec_FormatInt.mono _ _
      | exact LeO.none _
      | refine LeO.ite ?_ ?_
      | refine LeO.bind ?_ (fun _ => ?_)
set_option maxHeartbeats 8000000 in
set_option maxRecDepth 100000 in
theorem laws_FnIntegerEncodings.calls (k : Nat) (A0 : Option Addr) (c0 : Nat) (l0 : List Int) (r : Bool) (w : World) (hq : Num.WQ w) (hr0 : Kd.C (Kd.int .u8) w A0 l0.length l0) (hc0 : l0.length ≤ c0) (h : laws_FnIntegerEncodings.f k l0 = some r) :
    Calls Tryd.prog 4 #[.slice A0 l0.length c0] w fun e w' => e = .returned (.bool r) ∧ Below w.heap.size w w' := by
  have HR0 := Aside0.mk hr0
  have HC0 := Aside0.mk hc0
  clear hr0 hc0
  have HQ := Aside0.mk hq
  clear hq
  have HB := Aside0.mk (Below.refl w.heap.size w)
  have H : ((laws_big.f l0).bind fun t240 => (if t240 = true then (some true) else ((spec_DrawEncodeVarint.f k l0).bind fun t241 => ((spec_DrawEncodeHex.f k l0).bind fun t242 => ((impl_EncodeVarint.f k t241).bind fun t243 => (if t243.size + t242.size ≤ 9223372036854775807 then ((impl_DecodeVarint.f k (t243 ++ t242)).bind fun bt244 => (if t241 ≥ 0 then (if ((t243.toList != ([] : List UInt8)) != (decide (t241 ≤ 562949953421311))) = true then (laws_FnIntegerEncodings.j0 k l0 t242 true) else (if t243.toList = ([] : List UInt8) then (laws_FnIntegerEncodings.j0 k l0 t242 false) else (if bt244.1 = t241 then (laws_FnIntegerEncodings.j0 k l0 t242 (bt244.2 != (t243.size : Int))) else (laws_FnIntegerEncodings.j0 k l0 t242 true)))) else (if ((t243.toList != ([] : List UInt8)) != false) = true then (laws_FnIntegerEncodings.j0 k l0 t242 true) else (if t243.toList = ([] : List UInt8) then (laws_FnIntegerEncodings.j0 k l0 t242 false) else (if bt244.1 = t241 then (laws_FnIntegerEncodings.j0 k l0 t242 (bt244.2 != (t243.size : Int))) else (laws_FnIntegerEncodings.j0 k l0 t242 true)))))) else (none))))))) = some r := h
  clear h
  replace H := Option.bind_eq_some_iff.mp H
  obtain ⟨t240, A20, H⟩ := H
  replace H : (if t240 = true then (some true) else ((spec_DrawEncodeVarint.f k l0).bind fun t241 => ((spec_DrawEncodeHex.f k l0).bind fun t242 => ((impl_EncodeVarint.f k t241).bind fun t243 => (if t243.size + t242.size ≤ 9223372036854775807 then ((impl_DecodeVarint.f k (t243 ++ t242)).bind fun bt244 => (if t241 ≥ 0 then (if ((t243.toList != ([] : List UInt8)) != (decide (t241 ≤ 562949953421311))) = true then (laws_FnIntegerEncodings.j0 k l0 t242 true) else (if t243.toList = ([] : List UInt8) then (laws_FnIntegerEncodings.j0 k l0 t242 false) else (if bt244.1 = t241 then (laws_FnIntegerEncodings.j0 k l0 t242 (bt244.2 != (t243.size : Int))) else (laws_FnIntegerEncodings.j0 k l0 t242 true)))) else (if ((t243.toList != ([] : List UInt8)) != false) = true then (laws_FnIntegerEncodings.j0 k l0 t242 true) else (if t243.toList = ([] : List UInt8) then (laws_FnIntegerEncodings.j0 k l0 t242 false) else (if bt244.1 = t241 then (laws_FnIntegerEncodings.j0 k l0 t242 (bt244.2 != (t243.size : Int))) else (laws_FnIntegerEncodings.j0 k l0 t242 true)))))) else (none)))))) = some r := H
  have A2 := Aside0.mk A20
  clear A20
  by_cases c3 : t240 = true
  · subst c3
    have H1 : (some true) = some r := by rw [if_pos rfl] at H; exact H
    clear H
    have H := H1
    clear H1
    obtain rfl := Option.some.inj H
    go_enter Tryd.func4, Tryd.ntmps4
    go_wp2_with (first | ((with_reducible refine gate_callee (f := 5) rfl ?_); refine goesL_ (some 20) rfl rfl Tryd.func5 (by kernel_rfl) rfl #[.slice A0 l0.length c0] rfl (by (try simp only [List.map_toArray, List.map_cons, List.map_nil]); first | done | rfl | (simp only [List.length_drop, List.length_take]; rfl)) ?_; (with_reducible refine (laws_big.calls _ _ l0 true _ ?side1 ?side2 A2.out).mono ?_); (case side1 => repeat (first | exact HR0.out | (with_reducible refine Kd.C_alloc ?_ _) | (with_reducible refine Kd.C_drewN ?_ _) | (with_reducible refine Kd.C_drew ?_))); (case side2 => exact HC0.out); rintro e w' ⟨rfl, ⟨nd, rfl⟩⟩; refine ⟨_, rfl, ?_⟩))
    go_ret
    exact ⟨by first | rfl | (simp [errW_none, errW_some] <;> rfl) | (simp [*, errW_none, errW_some] <;> rfl), by repeat (first | (with_reducible first | exact HB.out | apply below_alloc | apply pw_below_drewN | apply below_drew1) | exact HB.out)⟩
  · replace c3 := Bool.eq_false_iff.mpr c3
    subst c3
    have H1 : ((spec_DrawEncodeVarint.f k l0).bind fun t241 => ((spec_DrawEncodeHex.f k l0).bind fun t242 => ((impl_EncodeVarint.f k t241).bind fun t243 => (if t243.size + t242.size ≤ 9223372036854775807 then ((impl_DecodeVarint.f k (t243 ++ t242)).bind fun bt244 => (if t241 ≥ 0 then (if ((t243.toList != ([] : List UInt8)) != (decide (t241 ≤ 562949953421311))) = true then (laws_FnIntegerEncodings.j0 k l0 t242 true) else (if t243.toList = ([] : List UInt8) then (laws_FnIntegerEncodings.j0 k l0 t242 false) else (if bt244.1 = t241 then (laws_FnIntegerEncodings.j0 k l0 t242 (bt244.2 != (t243.size : Int))) else (laws_FnIntegerEncodings.j0 k l0 t242 true)))) else (if ((t243.toList != ([] : List UInt8)) != false) = true then (laws_FnIntegerEncodings.j0 k l0 t242 true) else (if t243.toList = ([] : List UInt8) then (laws_FnIntegerEncodings.j0 k l0 t242 false) else (if bt244.1 = t241 then (laws_FnIntegerEncodings.j0 k l0 t242 (bt244.2 != (t243.size : Int))) else (laws_FnIntegerEncodings.j0 k l0 t242 true)))))) else (none))))) = some r := by rw [if_neg (show ¬ (false = true) by decide)] at H; exact H
    clear H
    have H := H1
    clear H1
    replace H := Option.bind_eq_some_iff.mp H
    obtain ⟨t241, A40, H⟩ := H
    replace H : ((spec_DrawEncodeHex.f k l0).bind fun t242 => ((impl_EncodeVarint.f k t241).bind fun t243 => (if t243.size + t242.size ≤ 9223372036854775807 then ((impl_DecodeVarint.f k (t243 ++ t242)).bind fun bt244 => (if t241 ≥ 0 then (if ((t243.toList != ([] : List UInt8)) != (decide (t241 ≤ 562949953421311))) = true then (laws_FnIntegerEncodings.j0 k l0 t242 true) else (if t243.toList = ([] : List UInt8) then (laws_FnIntegerEncodings.j0 k l0 t242 false) else (if bt244.1 = t241 then (laws_FnIntegerEncodings.j0 k l0 t242 (bt244.2 != (t243.size : Int))) else (laws_FnIntegerEncodings.j0 k l0 t242 true)))) else (if ((t243.toList != ([] : List UInt8)) != false) = true then (laws_FnIntegerEncodings.j0 k l0 t242 true) else (if t243.toList = ([] : List UInt8) then (laws_FnIntegerEncodings.j0 k l0 t242 false) else (if bt244.1 = t241 then (laws_FnIntegerEncodings.j0 k l0 t242 (bt244.2 != (t243.size : Int))) else (laws_FnIntegerEncodings.j0 k l0 t242 true)))))) else (none)))) = some r := H
    have A4 := Aside0.mk A40
    clear A40
    replace H := Option.bind_eq_some_iff.mp H
    obtain ⟨t242, A50, H⟩ := H
    replace H : ((impl_EncodeVarint.f k t241).bind fun t243 => (if t243.size + t242.size ≤ 9223372036854775807 then ((impl_DecodeVarint.f k (t243 ++ t242)).bind fun bt244 => (if t241 ≥ 0 then (if ((t243.toList != ([] : List UInt8)) != (decide (t241 ≤ 562949953421311))) = true then (laws_FnIntegerEncodings.j0 k l0 t242 true) else (if t243.toList = ([] : List UInt8) then (laws_FnIntegerEncodings.j0 k l0 t242 false) else (if bt244.1 = t241 then (laws_FnIntegerEncodings.j0 k l0 t242 (bt244.2 != (t243.size : Int))) else (laws_FnIntegerEncodings.j0 k l0 t242 true)))) else (if ((t243.toList != ([] : List UInt8)) != false) = true then (laws_FnIntegerEncodings.j0 k l0 t242 true) else (if t243.toList = ([] : List UInt8) then (laws_FnIntegerEncodings.j0 k l0 t242 false) else (if bt244.1 = t241 then (laws_FnIntegerEncodings.j0 k l0 t242 (bt244.2 != (t243.size : Int))) else (laws_FnIntegerEncodings.j0 k l0 t242 true)))))) else (none))) = some r := H
    have A5 := Aside0.mk A50
    clear A50
    replace H := Option.bind_eq_some_iff.mp H
    obtain ⟨t243, A60, H⟩ := H
    replace H : (if t243.size + t242.size ≤ 9223372036854775807 then ((impl_DecodeVarint.f k (t243 ++ t242)).bind fun bt244 => (if t241 ≥ 0 then (if ((t243.toList != ([] : List UInt8)) != (decide (t241 ≤ 562949953421311))) = true then (laws_FnIntegerEncodings.j0 k l0 t242 true) else (if t243.toList = ([] : List UInt8) then (laws_FnIntegerEncodings.j0 k l0 t242 false) else (if bt244.1 = t241 then (laws_FnIntegerEncodings.j0 k l0 t242 (bt244.2 != (t243.size : Int))) else (laws_FnIntegerEncodings.j0 k l0 t242 true)))) else (if ((t243.toList != ([] : List UInt8)) != false) = true then (laws_FnIntegerEncodings.j0 k l0 t242 true) else (if t243.toList = ([] : List UInt8) then (laws_FnIntegerEncodings.j0 k l0 t242 false) else (if bt244.1 = t241 then (laws_FnIntegerEncodings.j0 k l0 t242 (bt244.2 != (t243.size : Int))) else (laws_FnIntegerEncodings.j0 k l0 t242 true)))))) else (none)) = some r := H
    have A6 := Aside0.mk A60
    clear A60
    by_cases c7 : t243.size + t242.size ≤ 9223372036854775807
    · rw [if_pos c7] at H
      have c7b0 := eq_true c7
      have c7b1 : decide (t243.size + t242.size ≤ 9223372036854775807) = true := decide_eq_true c7
      try have c7b2 : (9223372036854775807 < t243.size + t242.size) = False := eq_false (Nat.not_lt.2 c7)
      replace H := Option.bind_eq_some_iff.mp H
      obtain ⟨⟨t244, t245⟩, A80, H⟩ := H
      replace H : (if t241 ≥ 0 then (if ((t243.toList != ([] : List UInt8)) != (decide (t241 ≤ 562949953421311))) = true then (laws_FnIntegerEncodings.j0 k l0 t242 true) else (if t243.toList = ([] : List UInt8) then (laws_FnIntegerEncodings.j0 k l0 t242 false) else (if t244 = t241 then (laws_FnIntegerEncodings.j0 k l0 t242 (t245 != (t243.size : Int))) else (laws_FnIntegerEncodings.j0 k l0 t242 true)))) else (if ((t243.toList != ([] : List UInt8)) != false) = true then (laws_FnIntegerEncodings.j0 k l0 t242 true) else (if t243.toList = ([] : List UInt8) then (laws_FnIntegerEncodings.j0 k l0 t242 false) else (if t244 = t241 then (laws_FnIntegerEncodings.j0 k l0 t242 (t245 != (t243.size : Int))) else (laws_FnIntegerEncodings.j0 k l0 t242 true))))) = some r := H
      have A8 := Aside0.mk A80
      clear A80
      have HC9 := Aside0.mk H
      clear H
      go_enter Tryd.func4, Tryd.ntmps4
      go_upto_region 7 with (first | ((with_reducible refine gate_callee (f := 5) rfl ?_); refine goesL_ (some 20) rfl rfl Tryd.func5 (by kernel_rfl) rfl #[.slice A0 l0.length c0] rfl (by (try simp only [List.map_toArray, List.map_cons, List.map_nil]); first | done | rfl | (simp only [List.length_drop, List.length_take]; rfl)) ?_; (with_reducible refine (laws_big.calls _ _ l0 false _ ?side1 ?side2 A2.out).mono ?_); (case side1 => repeat (first | exact HR0.out | (with_reducible refine Kd.C_alloc ?_ _) | (with_reducible refine Kd.C_drewN ?_ _) | (with_reducible refine Kd.C_drew ?_))); (case side2 => exact HC0.out); rintro e w' ⟨rfl, ⟨nd, rfl⟩⟩; refine ⟨_, rfl, ?_⟩) | ((with_reducible refine gate_callee (f := 25) rfl ?_); refine goesL_ (some 22) rfl rfl Tryd.func25 (by kernel_rfl) rfl #[.slice A0 l0.length c0] rfl (by (try simp only [List.map_toArray, List.map_cons, List.map_nil]); first | done | rfl | (simp only [List.length_drop, List.length_take]; rfl)) ?_; (with_reducible refine (spec_DrawEncodeVarint.calls k _ _ l0 t241 _ ?side1 ?side2 A4.out).mono ?_); (case side1 => repeat (first | exact HR0.out | (with_reducible refine Kd.C_alloc ?_ _) | (with_reducible refine Kd.C_drewN ?_ _) | (with_reducible refine Kd.C_drew ?_))); (case side2 => exact HC0.out); rintro e w10 ⟨rfl, hb⟩; refine ⟨_, rfl, ?_⟩; have n0_ := Aside0.mk (below_step (by repeat (first | (with_reducible first | exact HB.out | apply below_alloc | apply pw_below_drewN | apply below_drew1) | exact HB.out)) hb); clear HB; have HB := n0_; clear n0_; (try clear hb); (try clear hb2); (try clear hk); (try clear hi)) | ((with_reducible refine gate_callee (f := 26) rfl ?_); refine goesL_ (some 24) rfl rfl Tryd.func26 (by kernel_rfl) rfl #[.slice A0 l0.length c0] rfl (by (try simp only [List.map_toArray, List.map_cons, List.map_nil]); first | done | rfl | (simp only [List.length_drop, List.length_take]; rfl)) ?_; (with_reducible refine (spec_DrawEncodeHex.calls k _ _ l0 t242 _ ?side1 ?side2 A5.out).mono ?_); (case side1 => repeat (first | exact (Kd.C_below HR0.out HB.out) | (with_reducible refine Kd.C_alloc ?_ _) | (with_reducible refine Kd.C_drewN ?_ _) | (with_reducible refine Kd.C_drew ?_))); (case side2 => exact HC0.out); rintro e w11 ⟨rfl, hb⟩; refine ⟨_, rfl, ?_⟩; have n0_ := Aside0.mk (below_step (by repeat (first | (with_reducible first | exact HB.out | apply below_alloc | apply pw_below_drewN | apply below_drew1) | exact HB.out)) hb); clear HB; have HB := n0_; clear n0_; (try clear hb); (try clear hb2); (try clear hk); (try clear hi)) | ((with_reducible refine gate_callee (f := 27) rfl ?_); refine goesL_ (some 26) rfl rfl Tryd.func27 (by kernel_rfl) rfl #[.int .i64 t241] rfl (by (try simp only [List.map_toArray, List.map_cons, List.map_nil]); first | done | rfl | (simp only [List.length_drop, List.length_take]; rfl)) ?_; (with_reducible refine (impl_EncodeVarint.calls k t241 t243 _ A6.out).mono ?_); rintro e w12 ⟨rfl, hb⟩; refine ⟨_, rfl, ?_⟩; have n0_ := Aside0.mk (below_step (by repeat (first | (with_reducible first | exact HB.out | apply below_alloc | apply pw_below_drewN | apply below_drew1) | exact HB.out)) hb); clear HB; have HB := n0_; clear n0_; (try clear hb); (try clear hb2); (try clear hk); (try clear hi)) | ((with_reducible refine gate_callee (f := 28) rfl ?_); refine goesL_ (some 31) rfl rfl Tryd.func28 (by kernel_rfl) rfl #[.string (t243 ++ t242)] rfl (by (try simp only [List.map_toArray, List.map_cons, List.map_nil]); first | done | rfl | (simp only [List.length_drop, List.length_take]; rfl)) ?_; (with_reducible refine (impl_DecodeVarint.calls k (t243 ++ t242) t244 t245 _ A8.out).mono ?_); rintro e w13 ⟨rfl, hb⟩; refine ⟨_, rfl, ?_⟩; have n0_ := Aside0.mk (below_step (by repeat (first | (with_reducible first | exact HB.out | apply below_alloc | apply pw_below_drewN | apply below_drew1) | exact HB.out)) hb); clear HB; have HB := n0_; clear n0_; (try clear hb); (try clear hb2); (try clear hk); (try clear hi)))
      (try simp only [Act.put, List.setIfInBounds_toArray, List.set_cons_zero, List.set_cons_succ])
      go_cut [57] (fun v57 wc => ∃ (kq : Nat) (x57_8 : Bool), v57 = .bool x57_8 ∧ Aside0 (laws_FnIntegerEncodings.j0 kq l0 t242 x57_8 = some r) ∧ Aside0 (kq ≤ k) ∧ Aside0 (Below w.heap.size w wc))
      case first =>
        have H := HC9.out
        clear HC9
        by_cases cN : t241 ≥ 0
        · rw [if_pos cN] at H
          have cN0 : decide (0 ≤ t241) = true := decide_eq_true cN
          (first | rw [cN0] | (simp only [i64_w, i32_w]; rw [cN0]) | skip)
          by_cases cA : t241 ≤ 562949953421311
          · have cA0 : decide (t241 ≤ 562949953421311) = true := decide_eq_true cA
            rw [cA0] at H
            clear cN cA
            by_cases cB : t243.toList = ([] : List UInt8)
            · skip
              have cB0 : (t243.toList == ([] : List UInt8)) = true := beq_iff_eq.mpr cB
              have cB1 : (t243.toList != ([] : List UInt8)) = false := bne_eq_false_iff_eq.mpr cB
              rw [cB1, if_pos (by decide)] at H
              clear cB
              have H' := Aside0.mk H
              clear H
              go_wp2
              go_meet
              case rel => exact ⟨_, (true), (by first | rfl | (simp; done) | (simp [*]; done)), H', ⟨by first | omega | exact Nat.le_refl _⟩, ⟨by repeat (first | (with_reducible first | exact HB.out | apply below_alloc | apply pw_below_drewN | apply below_drew1) | exact HB.out)⟩⟩
            · skip
              have cB0 : (t243.toList == ([] : List UInt8)) = false := beq_eq_false_iff_ne.mpr cB
              have cB1 : (t243.toList != ([] : List UInt8)) = true := bne_iff_ne.mpr cB
              rw [cB1, if_neg (by decide), if_neg cB] at H
              by_cases cX : t244 = t241
              · rw [if_pos cX] at H
                have cX0 : (t244 == t241) = true := beq_iff_eq.mpr cX
                have cX1 : (t244 != t241) = false := bne_eq_false_iff_eq.mpr cX
                clear cX
                have H' := Aside0.mk H
                clear H
                go_wp2
                go_meet
                case rel => exact ⟨_, ((t245 != (t243.size : Int))), (by first | rfl | (simp; done) | (simp [*]; done)), H', ⟨by first | omega | exact Nat.le_refl _⟩, ⟨by repeat (first | (with_reducible first | exact HB.out | apply below_alloc | apply pw_below_drewN | apply below_drew1) | exact HB.out)⟩⟩
              · rw [if_neg cX] at H
                have cX0 : (t244 == t241) = false := beq_eq_false_iff_ne.mpr cX
                have cX1 : (t244 != t241) = true := bne_iff_ne.mpr cX
                have H' := Aside0.mk H
                clear H
                go_wp2
                go_meet
                case rel => exact ⟨_, (true), (by first | rfl | (simp; done) | (simp [*]; done)), H', ⟨by first | omega | exact Nat.le_refl _⟩, ⟨by repeat (first | (with_reducible first | exact HB.out | apply below_alloc | apply pw_below_drewN | apply below_drew1) | exact HB.out)⟩⟩
          · have cA0 : decide (t241 ≤ 562949953421311) = false := decide_eq_false cA
            rw [cA0] at H
            clear cN cA
            by_cases cB : t243.toList = ([] : List UInt8)
            · skip
              have cB0 : (t243.toList == ([] : List UInt8)) = true := beq_iff_eq.mpr cB
              have cB1 : (t243.toList != ([] : List UInt8)) = false := bne_eq_false_iff_eq.mpr cB
              rw [cB1, if_neg (by decide), if_pos cB] at H
              clear cB
              have H' := Aside0.mk H
              clear H
              go_wp2
              go_meet
              case rel => exact ⟨_, (false), (by first | rfl | (simp; done) | (simp [*]; done)), H', ⟨by first | omega | exact Nat.le_refl _⟩, ⟨by repeat (first | (with_reducible first | exact HB.out | apply below_alloc | apply pw_below_drewN | apply below_drew1) | exact HB.out)⟩⟩
            · skip
              have cB0 : (t243.toList == ([] : List UInt8)) = false := beq_eq_false_iff_ne.mpr cB
              have cB1 : (t243.toList != ([] : List UInt8)) = true := bne_iff_ne.mpr cB
              rw [cB1, if_pos (by decide)] at H
              have H' := Aside0.mk H
              clear H
              go_wp2
              go_meet
              case rel => exact ⟨_, (true), (by first | rfl | (simp; done) | (simp [*]; done)), H', ⟨by first | omega | exact Nat.le_refl _⟩, ⟨by repeat (first | (with_reducible first | exact HB.out | apply below_alloc | apply pw_below_drewN | apply below_drew1) | exact HB.out)⟩⟩
        · rw [if_neg cN] at H
          have cN0 : decide (0 ≤ t241) = false := decide_eq_false cN
          (first | rw [cN0] | (simp only [i64_w, i32_w]; rw [cN0]) | skip)
          clear cN
          by_cases cB : t243.toList = ([] : List UInt8)
          · skip
            have cB0 : (t243.toList == ([] : List UInt8)) = true := beq_iff_eq.mpr cB
            have cB1 : (t243.toList != ([] : List UInt8)) = false := bne_eq_false_iff_eq.mpr cB
            rw [cB1, if_neg (by decide), if_pos cB] at H
            clear cB
            have H' := Aside0.mk H
            clear H
            go_wp2
            go_meet
            case rel => exact ⟨_, (false), (by first | rfl | (simp; done) | (simp [*]; done)), H', ⟨by first | omega | exact Nat.le_refl _⟩, ⟨by repeat (first | (with_reducible first | exact HB.out | apply below_alloc | apply pw_below_drewN | apply below_drew1) | exact HB.out)⟩⟩
          · skip
            have cB0 : (t243.toList == ([] : List UInt8)) = false := beq_eq_false_iff_ne.mpr cB
            have cB1 : (t243.toList != ([] : List UInt8)) = true := bne_iff_ne.mpr cB
            rw [cB1, if_pos (by decide)] at H
            have H' := Aside0.mk H
            clear H
            go_wp2
            go_meet
            case rel => exact ⟨_, (true), (by first | rfl | (simp; done) | (simp [*]; done)), H', ⟨by first | omega | exact Nat.le_refl _⟩, ⟨by repeat (first | (with_reducible first | exact HB.out | apply below_alloc | apply pw_below_drewN | apply below_drew1) | exact HB.out)⟩⟩
      case rest =>
        clear HC9
        try clear c1
        try clear c2
        try clear p2
        try clear c3
        try clear c4
        try clear c5
        try clear c7
        try clear c7b0
        try clear c7b1
        try clear c7b2
        try clear c14
        try clear c14b0
        try clear c15
        try clear c15b0
        try clear c15b1
        try clear c15b2
        try clear c16
        try clear c16b0
        try clear c16b1
        try clear c17
        try clear c17b0
        try clear c17b1
        try clear c18
        try clear c18b0
        try clear c18b1
        try clear c18b2
        try clear c19
        try clear c19b0
        try clear c19b1
        try clear c20
        try clear c20b0
        try clear c20b1
        obtain ⟨kq, x57_8, rfl, HA, HJ8, HB⟩ := hcut
        cases kq with
        | zero => exact absurd HA.out (by simp [laws_FnIntegerEncodings.j0])
        | succ kj8 =>
          have H := HA.out
          clear HA
          simp only [laws_FnIntegerEncodings.j0] at H
          by_cases c21 : x57_8 = true
          · subst c21
            have H1 : (some false) = some r := by rw [if_pos rfl] at H; exact H
            clear H
            have H := H1
            clear H1
            obtain rfl := Option.some.inj H
            go_wp2
            go_ret
            exact ⟨by first | rfl | (simp [errW_none, errW_some] <;> rfl) | (simp [*, errW_none, errW_some] <;> rfl), by repeat (first | (with_reducible first | exact HB.out | apply below_alloc | apply pw_below_drewN | apply below_drew1) | exact HB.out)⟩
          · replace c21 := Bool.eq_false_iff.mpr c21
            subst c21
            have H1 : ((spec_DrawEncodeFixed.f kj8 l0).bind fun bt246 => ((impl_EncodeFixed.f kj8 bt246.1 bt246.2).bind fun t248 => (if t248.size + t242.size ≤ 9223372036854775807 then ((impl_DecodeFixed.f kj8 (t248 ++ t242) bt246.2).bind fun bt249 => (if t248.toList = ([] : List UInt8) then ((spec_EncodeFixed.f kj8 bt246.1 bt246.2).bind fun t251 => (laws_FnIntegerEncodings.j1 kj8 t242 bt246.1 ((t248.toList != ([] : List UInt8)) != (t251.toList != ([] : List UInt8))))) else (if bt249.2 = true then (if bt249.1 = bt246.1 then (if (t248.size : Int) = bt246.2 then ((spec_EncodeFixed.f kj8 bt246.1 bt246.2).bind fun t252 => (laws_FnIntegerEncodings.j1 kj8 t242 bt246.1 ((t248.toList != ([] : List UInt8)) != (t252.toList != ([] : List UInt8))))) else (laws_FnIntegerEncodings.j1 kj8 t242 bt246.1 true)) else (laws_FnIntegerEncodings.j1 kj8 t242 bt246.1 true)) else (laws_FnIntegerEncodings.j1 kj8 t242 bt246.1 true)))) else (none)))) = some r := by rw [if_neg (show ¬ (false = true) by decide)] at H; exact H
            clear H
            have H := H1
            clear H1
            replace H := Option.bind_eq_some_iff.mp H
            obtain ⟨⟨t246, t247⟩, A220, H⟩ := H
            replace H : ((impl_EncodeFixed.f kj8 t246 t247).bind fun t248 => (if t248.size + t242.size ≤ 9223372036854775807 then ((impl_DecodeFixed.f kj8 (t248 ++ t242) t247).bind fun bt249 => (if t248.toList = ([] : List UInt8) then ((spec_EncodeFixed.f kj8 t246 t247).bind fun t251 => (laws_FnIntegerEncodings.j1 kj8 t242 t246 ((t248.toList != ([] : List UInt8)) != (t251.toList != ([] : List UInt8))))) else (if bt249.2 = true then (if bt249.1 = t246 then (if (t248.size : Int) = t247 then ((spec_EncodeFixed.f kj8 t246 t247).bind fun t252 => (laws_FnIntegerEncodings.j1 kj8 t242 t246 ((t248.toList != ([] : List UInt8)) != (t252.toList != ([] : List UInt8))))) else (laws_FnIntegerEncodings.j1 kj8 t242 t246 true)) else (laws_FnIntegerEncodings.j1 kj8 t242 t246 true)) else (laws_FnIntegerEncodings.j1 kj8 t242 t246 true)))) else (none))) = some r := H
            have A22 := Aside0.mk A220
            clear A220
            replace H := Option.bind_eq_some_iff.mp H
            obtain ⟨t248, A230, H⟩ := H
            replace H : (if t248.size + t242.size ≤ 9223372036854775807 then ((impl_DecodeFixed.f kj8 (t248 ++ t242) t247).bind fun bt249 => (if t248.toList = ([] : List UInt8) then ((spec_EncodeFixed.f kj8 t246 t247).bind fun t251 => (laws_FnIntegerEncodings.j1 kj8 t242 t246 ((t248.toList != ([] : List UInt8)) != (t251.toList != ([] : List UInt8))))) else (if bt249.2 = true then (if bt249.1 = t246 then (if (t248.size : Int) = t247 then ((spec_EncodeFixed.f kj8 t246 t247).bind fun t252 => (laws_FnIntegerEncodings.j1 kj8 t242 t246 ((t248.toList != ([] : List UInt8)) != (t252.toList != ([] : List UInt8))))) else (laws_FnIntegerEncodings.j1 kj8 t242 t246 true)) else (laws_FnIntegerEncodings.j1 kj8 t242 t246 true)) else (laws_FnIntegerEncodings.j1 kj8 t242 t246 true)))) else (none)) = some r := H
            have A23 := Aside0.mk A230
            clear A230
            by_cases c24 : t248.size + t242.size ≤ 9223372036854775807
            · rw [if_pos c24] at H
              have c24b0 := eq_true c24
              have c24b1 : decide (t248.size + t242.size ≤ 9223372036854775807) = true := decide_eq_true c24
              try have c24b2 : (9223372036854775807 < t248.size + t242.size) = False := eq_false (Nat.not_lt.2 c24)
              replace H := Option.bind_eq_some_iff.mp H
              obtain ⟨⟨t249, t250⟩, A250, H⟩ := H
              replace H : (if t248.toList = ([] : List UInt8) then ((spec_EncodeFixed.f kj8 t246 t247).bind fun t251 => (laws_FnIntegerEncodings.j1 kj8 t242 t246 ((t248.toList != ([] : List UInt8)) != (t251.toList != ([] : List UInt8))))) else (if t250 = true then (if t249 = t246 then (if (t248.size : Int) = t247 then ((spec_EncodeFixed.f kj8 t246 t247).bind fun t252 => (laws_FnIntegerEncodings.j1 kj8 t242 t246 ((t248.toList != ([] : List UInt8)) != (t252.toList != ([] : List UInt8))))) else (laws_FnIntegerEncodings.j1 kj8 t242 t246 true)) else (laws_FnIntegerEncodings.j1 kj8 t242 t246 true)) else (laws_FnIntegerEncodings.j1 kj8 t242 t246 true))) = some r := H
              have A25 := Aside0.mk A250
              clear A250
              have HC26 := Aside0.mk H
              clear H
              go_upto_region 12 with (first | ((with_reducible refine gate_callee (f := 29) rfl ?_); refine goesL_ (some 60) rfl rfl Tryd.func29 (by kernel_rfl) rfl #[.slice A0 l0.length c0] rfl (by (try simp only [List.map_toArray, List.map_cons, List.map_nil]); first | done | rfl | (simp only [List.length_drop, List.length_take]; rfl)) ?_; (with_reducible refine (spec_DrawEncodeFixed.calls kj8 _ _ l0 t246 t247 _ ?side1 ?side2 A22.out).mono ?_); (case side1 => repeat (first | exact (Kd.C_below HR0.out HB.out) | (with_reducible refine Kd.C_alloc ?_ _) | (with_reducible refine Kd.C_drewN ?_ _) | (with_reducible refine Kd.C_drew ?_))); (case side2 => exact HC0.out); rintro e w27 ⟨rfl, hb⟩; refine ⟨_, rfl, ?_⟩; have n0_ := Aside0.mk (below_step (by repeat (first | (with_reducible first | exact HB.out | apply below_alloc | apply pw_below_drewN | apply below_drew1) | exact HB.out)) hb); clear HB; have HB := n0_; clear n0_; (try clear hb); (try clear hb2); (try clear hk); (try clear hi)) | ((with_reducible refine gate_callee (f := 30) rfl ?_); refine goesL_ (some 65) rfl rfl Tryd.func30 (by kernel_rfl) rfl #[.int .i64 t246, .int .i64 t247] rfl (by (try simp only [List.map_toArray, List.map_cons, List.map_nil]); first | done | rfl | (simp only [List.length_drop, List.length_take]; rfl)) ?_; (with_reducible refine (impl_EncodeFixed.calls kj8 t246 t247 t248 _ A23.out).mono ?_); rintro e w28 ⟨rfl, hb⟩; refine ⟨_, rfl, ?_⟩; have n0_ := Aside0.mk (below_step (by repeat (first | (with_reducible first | exact HB.out | apply below_alloc | apply pw_below_drewN | apply below_drew1) | exact HB.out)) hb); clear HB; have HB := n0_; clear n0_; (try clear hb); (try clear hb2); (try clear hk); (try clear hi)) | ((with_reducible refine gate_callee (f := 31) rfl ?_); refine goesL_ (some 71) rfl rfl Tryd.func31 (by kernel_rfl) rfl #[.string (t248 ++ t242), .int .i64 t247] rfl (by (try simp only [List.map_toArray, List.map_cons, List.map_nil]); first | done | rfl | (simp only [List.length_drop, List.length_take]; rfl)) ?_; (with_reducible refine (impl_DecodeFixed.calls kj8 (t248 ++ t242) t247 t249 t250 _ A25.out).mono ?_); rintro e w' ⟨rfl, ⟨nd, rfl⟩⟩; refine ⟨_, rfl, ?_⟩))
              (try simp only [Act.put, List.setIfInBounds_toArray, List.set_cons_zero, List.set_cons_succ])
              go_cut [99] (fun v99 wc => ∃ (kq : Nat) (x99_25 : Bool), v99 = .bool x99_25 ∧ Aside0 (laws_FnIntegerEncodings.j1 kq t242 t246 x99_25 = some r) ∧ Aside0 (kq ≤ kj8) ∧ Aside0 (Below w.heap.size w wc))
              case first =>
                have H := HC26.out
                clear HC26
                by_cases c29 : t248.toList = ([] : List UInt8)
                · rw [if_pos c29] at H
                  have c29b0 : (t248.toList == ([] : List UInt8)) = true := beq_iff_eq.mpr c29
                  have c29b1 : (t248.toList != ([] : List UInt8)) = false := bne_eq_false_iff_eq.mpr c29
                  clear c29
                  (first | rw [c29b0] | (simp only [i64_w, i32_w]; rw [c29b0]) | skip)
                  replace H := Option.bind_eq_some_iff.mp H
                  obtain ⟨t251, A300, H⟩ := H
                  replace H : (laws_FnIntegerEncodings.j1 kj8 t242 t246 ((t248.toList != ([] : List UInt8)) != (t251.toList != ([] : List UInt8)))) = some r := H
                  have A30 := Aside0.mk A300
                  clear A300
                  by_cases cD : t251.toList = ([] : List UInt8)
                  · have cD0 : (t251.toList == ([] : List UInt8)) = true := beq_iff_eq.mpr cD
                    have cD1 : (t251.toList != ([] : List UInt8)) = false := bne_eq_false_iff_eq.mpr cD
                    rw [c29b1, cD1] at H
                    clear cD
                    have H' := Aside0.mk H
                    clear H
                    go_wp2_with (first | (go_at_call 32; (with_reducible refine (spec_EncodeFixed.calls kj8 t246 t247 t251 _ A30.out).mono ?_); rintro e w31 ⟨rfl, hb⟩; have n0_ := Aside0.mk (below_step (by repeat (first | (with_reducible first | exact HB.out | apply below_alloc | apply pw_below_drewN | apply below_drew1) | exact HB.out)) hb); clear HB; have HB := n0_; clear n0_; (try clear hb); (try clear hb2); (try clear hk); (try clear hi)))
                    go_meet
                    case rel => exact ⟨_, ((false != false)), (by first | rfl | (simp; done) | (simp [*]; done)), H', ⟨by have := HJ8.out; first | omega | exact Nat.le_refl _⟩, ⟨by repeat (first | (with_reducible first | exact HB.out | apply below_alloc | apply pw_below_drewN | apply below_drew1) | exact HB.out)⟩⟩
                  · have cD0 : (t251.toList == ([] : List UInt8)) = false := beq_eq_false_iff_ne.mpr cD
                    have cD1 : (t251.toList != ([] : List UInt8)) = true := bne_iff_ne.mpr cD
                    rw [c29b1, cD1] at H
                    skip
                    have H' := Aside0.mk H
                    clear H
                    go_wp2_with (first | (go_at_call 32; (with_reducible refine (spec_EncodeFixed.calls kj8 t246 t247 t251 _ A30.out).mono ?_); rintro e w31 ⟨rfl, hb⟩; have n0_ := Aside0.mk (below_step (by repeat (first | (with_reducible first | exact HB.out | apply below_alloc | apply pw_below_drewN | apply below_drew1) | exact HB.out)) hb); clear HB; have HB := n0_; clear n0_; (try clear hb); (try clear hb2); (try clear hk); (try clear hi)))
                    go_meet
                    case rel => exact ⟨_, ((false != true)), (by first | rfl | (simp; done) | (simp [*]; done)), H', ⟨by have := HJ8.out; first | omega | exact Nat.le_refl _⟩, ⟨by repeat (first | (with_reducible first | exact HB.out | apply below_alloc | apply pw_below_drewN | apply below_drew1) | exact HB.out)⟩⟩
                · rw [if_neg c29] at H
                  have c29b0 : (t248.toList == ([] : List UInt8)) = false := beq_eq_false_iff_ne.mpr c29
                  have c29b1 : (t248.toList != ([] : List UInt8)) = true := bne_iff_ne.mpr c29
                  (first | rw [c29b0] | (simp only [i64_w, i32_w]; rw [c29b0]) | skip)
                  by_cases c32 : t250 = true
                  · subst c32
                    have H1 : (if t249 = t246 then (if (t248.size : Int) = t247 then ((spec_EncodeFixed.f kj8 t246 t247).bind fun t252 => (laws_FnIntegerEncodings.j1 kj8 t242 t246 ((t248.toList != ([] : List UInt8)) != (t252.toList != ([] : List UInt8))))) else (laws_FnIntegerEncodings.j1 kj8 t242 t246 true)) else (laws_FnIntegerEncodings.j1 kj8 t242 t246 true)) = some r := by rw [if_pos rfl] at H; exact H
                    clear H
                    have H := H1
                    clear H1
                    by_cases c33 : t249 = t246
                    · rw [if_pos c33] at H
                      have c33b0 : (t249 == t246) = true := beq_iff_eq.mpr c33
                      have c33b1 : (t249 != t246) = false := bne_eq_false_iff_eq.mpr c33
                      clear c33
                      by_cases c34 : (t248.size : Int) = t247
                      · rw [if_pos c34] at H
                        have c34b0 : ((t248.size : Int) == t247) = true := beq_iff_eq.mpr c34
                        have c34b1 : ((t248.size : Int) != t247) = false := bne_eq_false_iff_eq.mpr c34
                        clear c34
                        replace H := Option.bind_eq_some_iff.mp H
                        obtain ⟨t252, A350, H⟩ := H
                        replace H : (laws_FnIntegerEncodings.j1 kj8 t242 t246 ((t248.toList != ([] : List UInt8)) != (t252.toList != ([] : List UInt8)))) = some r := H
                        have A35 := Aside0.mk A350
                        clear A350
                        by_cases cD : t252.toList = ([] : List UInt8)
                        · have cD0 : (t252.toList == ([] : List UInt8)) = true := beq_iff_eq.mpr cD
                          have cD1 : (t252.toList != ([] : List UInt8)) = false := bne_eq_false_iff_eq.mpr cD
                          rw [c29b1, cD1] at H
                          clear cD
                          have H' := Aside0.mk H
                          clear H
                          go_wp2_with (first | (go_at_call 32; (with_reducible refine (spec_EncodeFixed.calls kj8 t246 t247 t252 _ A35.out).mono ?_); rintro e w36 ⟨rfl, hb⟩; have n0_ := Aside0.mk (below_step (by repeat (first | (with_reducible first | exact HB.out | apply below_alloc | apply pw_below_drewN | apply below_drew1) | exact HB.out)) hb); clear HB; have HB := n0_; clear n0_; (try clear hb); (try clear hb2); (try clear hk); (try clear hi)))
                          go_meet
                          case rel => exact ⟨_, ((true != false)), (by first | rfl | (simp; done) | (simp [*]; done)), H', ⟨by have := HJ8.out; first | omega | exact Nat.le_refl _⟩, ⟨by repeat (first | (with_reducible first | exact HB.out | apply below_alloc | apply pw_below_drewN | apply below_drew1) | exact HB.out)⟩⟩
                        · have cD0 : (t252.toList == ([] : List UInt8)) = false := beq_eq_false_iff_ne.mpr cD
                          have cD1 : (t252.toList != ([] : List UInt8)) = true := bne_iff_ne.mpr cD
                          rw [c29b1, cD1] at H
                          skip
                          have H' := Aside0.mk H
                          clear H
                          go_wp2_with (first | (go_at_call 32; (with_reducible refine (spec_EncodeFixed.calls kj8 t246 t247 t252 _ A35.out).mono ?_); rintro e w36 ⟨rfl, hb⟩; have n0_ := Aside0.mk (below_step (by repeat (first | (with_reducible first | exact HB.out | apply below_alloc | apply pw_below_drewN | apply below_drew1) | exact HB.out)) hb); clear HB; have HB := n0_; clear n0_; (try clear hb); (try clear hb2); (try clear hk); (try clear hi)))
                          go_meet
                          case rel => exact ⟨_, ((true != true)), (by first | rfl | (simp; done) | (simp [*]; done)), H', ⟨by have := HJ8.out; first | omega | exact Nat.le_refl _⟩, ⟨by repeat (first | (with_reducible first | exact HB.out | apply below_alloc | apply pw_below_drewN | apply below_drew1) | exact HB.out)⟩⟩
                      · rw [if_neg c34] at H
                        have c34b0 : ((t248.size : Int) == t247) = false := beq_eq_false_iff_ne.mpr c34
                        have c34b1 : ((t248.size : Int) != t247) = true := bne_iff_ne.mpr c34
                        have H' := Aside0.mk H
                        clear H
                        go_wp2
                        go_meet
                        case rel => exact ⟨_, (true), (by first | rfl | (simp; done) | (simp [*]; done)), H', ⟨by have := HJ8.out; first | omega | exact Nat.le_refl _⟩, ⟨by repeat (first | (with_reducible first | exact HB.out | apply below_alloc | apply pw_below_drewN | apply below_drew1) | exact HB.out)⟩⟩
                    · rw [if_neg c33] at H
                      have c33b0 : (t249 == t246) = false := beq_eq_false_iff_ne.mpr c33
                      have c33b1 : (t249 != t246) = true := bne_iff_ne.mpr c33
                      have H' := Aside0.mk H
                      clear H
                      go_wp2
                      go_meet
                      case rel => exact ⟨_, (true), (by first | rfl | (simp; done) | (simp [*]; done)), H', ⟨by have := HJ8.out; first | omega | exact Nat.le_refl _⟩, ⟨by repeat (first | (with_reducible first | exact HB.out | apply below_alloc | apply pw_below_drewN | apply below_drew1) | exact HB.out)⟩⟩
                  · replace c32 := Bool.eq_false_iff.mpr c32
                    subst c32
                    have H1 : (laws_FnIntegerEncodings.j1 kj8 t242 t246 true) = some r := by rw [if_neg (show ¬ (false = true) by decide)] at H; exact H
                    clear H
                    have H := H1
                    clear H1
                    have H' := Aside0.mk H
                    clear H
                    go_wp2
                    go_meet
                    case rel => exact ⟨_, (true), (by first | rfl | (simp; done) | (simp [*]; done)), H', ⟨by have := HJ8.out; first | omega | exact Nat.le_refl _⟩, ⟨by repeat (first | (with_reducible first | exact HB.out | apply below_alloc | apply pw_below_drewN | apply below_drew1) | exact HB.out)⟩⟩
              case rest =>
                clear HC26
                try clear c1
                try clear c2
                try clear p2
                try clear c3
                try clear c4
                try clear c5
                try clear c7
                try clear c7b0
                try clear c7b1
                try clear c7b2
                try clear c14
                try clear c14b0
                try clear c15
                try clear c15b0
                try clear c15b1
                try clear c15b2
                try clear c16
                try clear c16b0
                try clear c16b1
                try clear c17
                try clear c17b0
                try clear c17b1
                try clear c18
                try clear c18b0
                try clear c18b1
                try clear c18b2
                try clear c19
                try clear c19b0
                try clear c19b1
                try clear c20
                try clear c20b0
                try clear c20b1
                try clear c21
                try clear c24
                try clear c24b0
                try clear c24b1
                try clear c24b2
                try clear c25
                try clear c26
                try clear c27
                try clear c28
                try clear c29
                try clear c29b0
                try clear c29b1
                try clear c30
                try clear c31
                try clear c32
                try clear c33
                try clear c33b0
                try clear c33b1
                try clear c34
                try clear c34b0
                try clear c34b1
                try clear p2
                obtain ⟨kq, x99_25, rfl, HA, HJ25, HB⟩ := hcut
                cases kq with
                | zero => exact absurd HA.out (by simp [laws_FnIntegerEncodings.j1])
                | succ kj25 =>
                  have H := HA.out
                  clear HA
                  simp only [laws_FnIntegerEncodings.j1] at H
                  by_cases c37 : x99_25 = true
                  · subst c37
                    have H1 : (some false) = some r := by rw [if_pos rfl] at H; exact H
                    clear H
                    have H := H1
                    clear H1
                    obtain rfl := Option.some.inj H
                    go_wp2
                    go_ret
                    exact ⟨by first | rfl | (simp [errW_none, errW_some] <;> rfl) | (simp [*, errW_none, errW_some] <;> rfl), by repeat (first | (with_reducible first | exact HB.out | apply below_alloc | apply pw_below_drewN | apply below_drew1) | exact HB.out)⟩
                  · replace c37 := Bool.eq_false_iff.mpr c37
                    subst c37
                    have H1 : ((impl_EncodeHex.f kj25 t242).bind fun t253 => ((impl_DecodeHex.f kj25 t253).bind fun bt254 => ((impl_FormatInt.f kj25 t246).bind fun t256 => ((impl_ParseInt.f kj25 t256).bind fun bt257 => (if bt254.2 = true then (if bt254.1.toList = t242.toList then (if (t253.size : Int) = (wrap64 (2 * (t242.size : Int))) then ((spec_FormatInt.f kj25 t246).bind fun t259 => (if t256.toList = t259.toList then (if bt257.2 = true then (if bt257.1 = t246 then (if t246 > (-1000000000) then (some (bt257.2 == (decide (t246 < 1000000000)))) else (some (bt257.2 == false))) else (some false)) else (if t246 > (-1000000000) then (some (bt257.2 == (decide (t246 < 1000000000)))) else (some (bt257.2 == false)))) else (some false))) else (some false)) else (some false)) else (some false)))))) = some r := by rw [if_neg (show ¬ (false = true) by decide)] at H; exact H
                    clear H
                    have H := H1
                    clear H1
                    replace H := Option.bind_eq_some_iff.mp H
                    obtain ⟨t253, A380, H⟩ := H
                    replace H : ((impl_DecodeHex.f kj25 t253).bind fun bt254 => ((impl_FormatInt.f kj25 t246).bind fun t256 => ((impl_ParseInt.f kj25 t256).bind fun bt257 => (if bt254.2 = true then (if bt254.1.toList = t242.toList then (if (t253.size : Int) = (wrap64 (2 * (t242.size : Int))) then ((spec_FormatInt.f kj25 t246).bind fun t259 => (if t256.toList = t259.toList then (if bt257.2 = true then (if bt257.1 = t246 then (if t246 > (-1000000000) then (some (bt257.2 == (decide (t246 < 1000000000)))) else (some (bt257.2 == false))) else (some false)) else (if t246 > (-1000000000) then (some (bt257.2 == (decide (t246 < 1000000000)))) else (some (bt257.2 == false)))) else (some false))) else (some false)) else (some false)) else (some false))))) = some r := H
                    have A38 := Aside0.mk A380
                    clear A380
                    replace H := Option.bind_eq_some_iff.mp H
                    obtain ⟨⟨t254, t255⟩, A390, H⟩ := H
                    replace H : ((impl_FormatInt.f kj25 t246).bind fun t256 => ((impl_ParseInt.f kj25 t256).bind fun bt257 => (if t255 = true then (if t254.toList = t242.toList then (if (t253.size : Int) = (wrap64 (2 * (t242.size : Int))) then ((spec_FormatInt.f kj25 t246).bind fun t259 => (if t256.toList = t259.toList then (if bt257.2 = true then (if bt257.1 = t246 then (if t246 > (-1000000000) then (some (bt257.2 == (decide (t246 < 1000000000)))) else (some (bt257.2 == false))) else (some false)) else (if t246 > (-1000000000) then (some (bt257.2 == (decide (t246 < 1000000000)))) else (some (bt257.2 == false)))) else (some false))) else (some false)) else (some false)) else (some false)))) = some r := H
                    have A39 := Aside0.mk A390
                    clear A390
                    replace H := Option.bind_eq_some_iff.mp H
                    obtain ⟨t256, A400, H⟩ := H
                    replace H : ((impl_ParseInt.f kj25 t256).bind fun bt257 => (if t255 = true then (if t254.toList = t242.toList then (if (t253.size : Int) = (wrap64 (2 * (t242.size : Int))) then ((spec_FormatInt.f kj25 t246).bind fun t259 => (if t256.toList = t259.toList then (if bt257.2 = true then (if bt257.1 = t246 then (if t246 > (-1000000000) then (some (bt257.2 == (decide (t246 < 1000000000)))) else (some (bt257.2 == false))) else (some false)) else (if t246 > (-1000000000) then (some (bt257.2 == (decide (t246 < 1000000000)))) else (some (bt257.2 == false)))) else (some false))) else (some false)) else (some false)) else (some false))) = some r := H
                    have A40 := Aside0.mk A400
                    clear A400
                    replace H := Option.bind_eq_some_iff.mp H
                    obtain ⟨⟨t257, t258⟩, A410, H⟩ := H
                    replace H : (if t255 = true then (if t254.toList = t242.toList then (if (t253.size : Int) = (wrap64 (2 * (t242.size : Int))) then ((spec_FormatInt.f kj25 t246).bind fun t259 => (if t256.toList = t259.toList then (if t258 = true then (if t257 = t246 then (if t246 > (-1000000000) then (some (t258 == (decide (t246 < 1000000000)))) else (some (t258 == false))) else (some false)) else (if t246 > (-1000000000) then (some (t258 == (decide (t246 < 1000000000)))) else (some (t258 == false)))) else (some false))) else (some false)) else (some false)) else (some false)) = some r := H
                    have A41 := Aside0.mk A410
                    clear A410
                    by_cases c42 : t255 = true
                    · subst c42
                      have H1 : (if t254.toList = t242.toList then (if (t253.size : Int) = (wrap64 (2 * (t242.size : Int))) then ((spec_FormatInt.f kj25 t246).bind fun t259 => (if t256.toList = t259.toList then (if t258 = true then (if t257 = t246 then (if t246 > (-1000000000) then (some (t258 == (decide (t246 < 1000000000)))) else (some (t258 == false))) else (some false)) else (if t246 > (-1000000000) then (some (t258 == (decide (t246 < 1000000000)))) else (some (t258 == false)))) else (some false))) else (some false)) else (some false)) = some r := by rw [if_pos rfl] at H; exact H
                      clear H
                      have H := H1
                      clear H1
                      by_cases c43 : t254.toList = t242.toList
                      · rw [if_pos c43] at H
                        have c43b0 : (t254.toList == t242.toList) = true := beq_iff_eq.mpr c43
                        have c43b1 : (t254.toList != t242.toList) = false := bne_eq_false_iff_eq.mpr c43
                        clear c43
                        by_cases c44 : (t253.size : Int) = (wrap64 (2 * (t242.size : Int)))
                        · rw [if_pos c44] at H
                          have c44b0 : ((t253.size : Int) == (wrap64 (2 * (t242.size : Int)))) = true := beq_iff_eq.mpr c44
                          have c44b1 : ((t253.size : Int) != (wrap64 (2 * (t242.size : Int)))) = false := bne_eq_false_iff_eq.mpr c44
                          clear c44
                          replace H := Option.bind_eq_some_iff.mp H
                          obtain ⟨t259, A450, H⟩ := H
                          replace H : (if t256.toList = t259.toList then (if t258 = true then (if t257 = t246 then (if t246 > (-1000000000) then (some (t258 == (decide (t246 < 1000000000)))) else (some (t258 == false))) else (some false)) else (if t246 > (-1000000000) then (some (t258 == (decide (t246 < 1000000000)))) else (some (t258 == false)))) else (some false)) = some r := H
                          have A45 := Aside0.mk A450
                          clear A450
                          by_cases c46 : t256.toList = t259.toList
                          · rw [if_pos c46] at H
                            have c46b0 : (t256.toList == t259.toList) = true := beq_iff_eq.mpr c46
                            have c46b1 : (t256.toList != t259.toList) = false := bne_eq_false_iff_eq.mpr c46
                            clear c46
                            by_cases c47 : t258 = true
                            · subst c47
                              have H1 : (if t257 = t246 then (if t246 > (-1000000000) then (some (true == (decide (t246 < 1000000000)))) else (some (true == false))) else (some false)) = some r := by rw [if_pos rfl] at H; exact H
                              clear H
                              have H := H1
                              clear H1
                              by_cases c48 : t257 = t246
                              · rw [if_pos c48] at H
                                have c48b0 : (t257 == t246) = true := beq_iff_eq.mpr c48
                                have c48b1 : (t257 != t246) = false := bne_eq_false_iff_eq.mpr c48
                                clear c48
                                by_cases c49 : t246 > (-1000000000)
                                · rw [if_pos c49] at H
                                  have c49b0 : decide ((-1000000000) < t246) = true := decide_eq_true c49
                                  clear c49
                                  obtain rfl := Option.some.inj H
                                  go_wp2_with (first | ((with_reducible refine gate_callee (f := 33) rfl ?_); refine goesL_ (some 101) rfl rfl Tryd.func33 (by kernel_rfl) rfl #[.string t242] rfl (by (try simp only [List.map_toArray, List.map_cons, List.map_nil]); first | done | rfl | (simp only [List.length_drop, List.length_take]; rfl)) ?_; (with_reducible refine (impl_EncodeHex.calls kj25 t242 t253 _ A38.out).mono ?_); rintro e w50 ⟨rfl, hb⟩; refine ⟨_, rfl, ?_⟩; have n0_ := Aside0.mk (below_step (by repeat (first | (with_reducible first | exact HB.out | apply below_alloc | apply pw_below_drewN | apply below_drew1) | exact HB.out)) hb); clear HB; have HB := n0_; clear n0_; (try clear hb); (try clear hb2); (try clear hk); (try clear hi)) | ((with_reducible refine gate_callee (f := 34) rfl ?_); refine goesL_ (some 104) rfl rfl Tryd.func34 (by kernel_rfl) rfl #[.string t253] rfl (by (try simp only [List.map_toArray, List.map_cons, List.map_nil]); first | done | rfl | (simp only [List.length_drop, List.length_take]; rfl)) ?_; (with_reducible refine (impl_DecodeHex.calls kj25 t253 t254 true _ A39.out).mono ?_); rintro e w51 ⟨rfl, hb⟩; refine ⟨_, rfl, ?_⟩; have n0_ := Aside0.mk (below_step (by repeat (first | (with_reducible first | exact HB.out | apply below_alloc | apply pw_below_drewN | apply below_drew1) | exact HB.out)) hb); clear HB; have HB := n0_; clear n0_; (try clear hb); (try clear hb2); (try clear hk); (try clear hi)) | ((with_reducible refine gate_callee (f := 35) rfl ?_); refine goesL_ (some 108) rfl rfl Tryd.func35 (by kernel_rfl) rfl #[.int .i64 t246] rfl (by (try simp only [List.map_toArray, List.map_cons, List.map_nil]); first | done | rfl | (simp only [List.length_drop, List.length_take]; rfl)) ?_; (with_reducible refine (impl_FormatInt.calls kj25 t246 t256 _ (Num.WQ.on HQ.out (by repeat (first | (with_reducible first | exact HB.out | apply below_alloc | apply pw_below_drewN | apply below_drew1) | exact HB.out))) A40.out).mono ?_); rintro e w52 ⟨rfl, hb⟩; refine ⟨_, rfl, ?_⟩; have n0_ := Aside0.mk (below_step (by repeat (first | (with_reducible first | exact HB.out | apply below_alloc | apply pw_below_drewN | apply below_drew1) | exact HB.out)) hb); clear HB; have HB := n0_; clear n0_; (try clear hb); (try clear hb2); (try clear hk); (try clear hi)) | ((with_reducible refine gate_callee (f := 36) rfl ?_); refine goesL_ (some 111) rfl rfl Tryd.func36 (by kernel_rfl) rfl #[.string t256] rfl (by (try simp only [List.map_toArray, List.map_cons, List.map_nil]); first | done | rfl | (simp only [List.length_drop, List.length_take]; rfl)) ?_; (with_reducible refine (impl_ParseInt.calls kj25 t256 t257 true _ (Num.WQ.on HQ.out (by repeat (first | (with_reducible first | exact HB.out | apply below_alloc | apply pw_below_drewN | apply below_drew1) | exact HB.out))) A41.out).mono ?_); rintro e w53 ⟨rfl, hb⟩; refine ⟨_, rfl, ?_⟩; have n0_ := Aside0.mk (below_step (by repeat (first | (with_reducible first | exact HB.out | apply below_alloc | apply pw_below_drewN | apply below_drew1) | exact HB.out)) hb); clear HB; have HB := n0_; clear n0_; (try clear hb); (try clear hb2); (try clear hk); (try clear hi)) | (go_at_call 37; (with_reducible refine (spec_FormatInt.calls kj25 t246 t259 _ A45.out).mono ?_); rintro e w54 ⟨rfl, hb⟩; have n0_ := Aside0.mk (below_step (by repeat (first | (with_reducible first | exact HB.out | apply below_alloc | apply pw_below_drewN | apply below_drew1) | exact HB.out)) hb); clear HB; have HB := n0_; clear n0_; (try clear hb); (try clear hb2); (try clear hk); (try clear hi)))
                                  go_ret
                                  exact ⟨by first | rfl | (simp [errW_none, errW_some] <;> rfl) | (simp [*, errW_none, errW_some] <;> rfl), by repeat (first | (with_reducible first | exact HB.out | apply below_alloc | apply pw_below_drewN | apply below_drew1) | exact HB.out)⟩
                                · rw [if_neg c49] at H
                                  have c49b0 : decide ((-1000000000) < t246) = false := decide_eq_false c49
                                  clear c49
                                  obtain rfl := Option.some.inj H
                                  go_wp2_with (first | ((with_reducible refine gate_callee (f := 33) rfl ?_); refine goesL_ (some 101) rfl rfl Tryd.func33 (by kernel_rfl) rfl #[.string t242] rfl (by (try simp only [List.map_toArray, List.map_cons, List.map_nil]); first | done | rfl | (simp only [List.length_drop, List.length_take]; rfl)) ?_; (with_reducible refine (impl_EncodeHex.calls kj25 t242 t253 _ A38.out).mono ?_); rintro e w55 ⟨rfl, hb⟩; refine ⟨_, rfl, ?_⟩; have n0_ := Aside0.mk (below_step (by repeat (first | (with_reducible first | exact HB.out | apply below_alloc | apply pw_below_drewN | apply below_drew1) | exact HB.out)) hb); clear HB; have HB := n0_; clear n0_; (try clear hb); (try clear hb2); (try clear hk); (try clear hi)) | ((with_reducible refine gate_callee (f := 34) rfl ?_); refine goesL_ (some 104) rfl rfl Tryd.func34 (by kernel_rfl) rfl #[.string t253] rfl (by (try simp only [List.map_toArray, List.map_cons, List.map_nil]); first | done | rfl | (simp only [List.length_drop, List.length_take]; rfl)) ?_; (with_reducible refine (impl_DecodeHex.calls kj25 t253 t254 true _ A39.out).mono ?_); rintro e w56 ⟨rfl, hb⟩; refine ⟨_, rfl, ?_⟩; have n0_ := Aside0.mk (below_step (by repeat (first | (with_reducible first | exact HB.out | apply below_alloc | apply pw_below_drewN | apply below_drew1) | exact HB.out)) hb); clear HB; have HB := n0_; clear n0_; (try clear hb); (try clear hb2); (try clear hk); (try clear hi)) | ((with_reducible refine gate_callee (f := 35) rfl ?_); refine goesL_ (some 108) rfl rfl Tryd.func35 (by kernel_rfl) rfl #[.int .i64 t246] rfl (by (try simp only [List.map_toArray, List.map_cons, List.map_nil]); first | done | rfl | (simp only [List.length_drop, List.length_take]; rfl)) ?_; (with_reducible refine (impl_FormatInt.calls kj25 t246 t256 _ (Num.WQ.on HQ.out (by repeat (first | (with_reducible first | exact HB.out | apply below_alloc | apply pw_below_drewN | apply below_drew1) | exact HB.out))) A40.out).mono ?_); rintro e w57 ⟨rfl, hb⟩; refine ⟨_, rfl, ?_⟩; have n0_ := Aside0.mk (below_step (by repeat (first | (with_reducible first | exact HB.out | apply below_alloc | apply pw_below_drewN | apply below_drew1) | exact HB.out)) hb); clear HB; have HB := n0_; clear n0_; (try clear hb); (try clear hb2); (try clear hk); (try clear hi)) | ((with_reducible refine gate_callee (f := 36) rfl ?_); refine goesL_ (some 111) rfl rfl Tryd.func36 (by kernel_rfl) rfl #[.string t256] rfl (by (try simp only [List.map_toArray, List.map_cons, List.map_nil]); first | done | rfl | (simp only [List.length_drop, List.length_take]; rfl)) ?_; (with_reducible refine (impl_ParseInt.calls kj25 t256 t257 true _ (Num.WQ.on HQ.out (by repeat (first | (with_reducible first | exact HB.out | apply below_alloc | apply pw_below_drewN | apply below_drew1) | exact HB.out))) A41.out).mono ?_); rintro e w58 ⟨rfl, hb⟩; refine ⟨_, rfl, ?_⟩; have n0_ := Aside0.mk (below_step (by repeat (first | (with_reducible first | exact HB.out | apply below_alloc | apply pw_below_drewN | apply below_drew1) | exact HB.out)) hb); clear HB; have HB := n0_; clear n0_; (try clear hb); (try clear hb2); (try clear hk); (try clear hi)) | (go_at_call 37; (with_reducible refine (spec_FormatInt.calls kj25 t246 t259 _ A45.out).mono ?_); rintro e w59 ⟨rfl, hb⟩; have n0_ := Aside0.mk (below_step (by repeat (first | (with_reducible first | exact HB.out | apply below_alloc | apply pw_below_drewN | apply below_drew1) | exact HB.out)) hb); clear HB; have HB := n0_; clear n0_; (try clear hb); (try clear hb2); (try clear hk); (try clear hi)))
                                  go_ret
                                  exact ⟨by first | rfl | (simp [errW_none, errW_some] <;> rfl) | (simp [*, errW_none, errW_some] <;> rfl), by repeat (first | (with_reducible first | exact HB.out | apply below_alloc | apply pw_below_drewN | apply below_drew1) | exact HB.out)⟩
                              · rw [if_neg c48] at H
                                have c48b0 : (t257 == t246) = false := beq_eq_false_iff_ne.mpr c48
                                have c48b1 : (t257 != t246) = true := bne_iff_ne.mpr c48
                                obtain rfl := Option.some.inj H
                                go_wp2_with (first | ((with_reducible refine gate_callee (f := 33) rfl ?_); refine goesL_ (some 101) rfl rfl Tryd.func33 (by kernel_rfl) rfl #[.string t242] rfl (by (try simp only [List.map_toArray, List.map_cons, List.map_nil]); first | done | rfl | (simp only [List.length_drop, List.length_take]; rfl)) ?_; (with_reducible refine (impl_EncodeHex.calls kj25 t242 t253 _ A38.out).mono ?_); rintro e w60 ⟨rfl, hb⟩; refine ⟨_, rfl, ?_⟩; have n0_ := Aside0.mk (below_step (by repeat (first | (with_reducible first | exact HB.out | apply below_alloc | apply pw_below_drewN | apply below_drew1) | exact HB.out)) hb); clear HB; have HB := n0_; clear n0_; (try clear hb); (try clear hb2); (try clear hk); (try clear hi)) | ((with_reducible refine gate_callee (f := 34) rfl ?_); refine goesL_ (some 104) rfl rfl Tryd.func34 (by kernel_rfl) rfl #[.string t253] rfl (by (try simp only [List.map_toArray, List.map_cons, List.map_nil]); first | done | rfl | (simp only [List.length_drop, List.length_take]; rfl)) ?_; (with_reducible refine (impl_DecodeHex.calls kj25 t253 t254 true _ A39.out).mono ?_); rintro e w61 ⟨rfl, hb⟩; refine ⟨_, rfl, ?_⟩; have n0_ := Aside0.mk (below_step (by repeat (first | (with_reducible first | exact HB.out | apply below_alloc | apply pw_below_drewN | apply below_drew1) | exact HB.out)) hb); clear HB; have HB := n0_; clear n0_; (try clear hb); (try clear hb2); (try clear hk); (try clear hi)) | ((with_reducible refine gate_callee (f := 35) rfl ?_); refine goesL_ (some 108) rfl rfl Tryd.func35 (by kernel_rfl) rfl #[.int .i64 t246] rfl (by (try simp only [List.map_toArray, List.map_cons, List.map_nil]); first | done | rfl | (simp only [List.length_drop, List.length_take]; rfl)) ?_; (with_reducible refine (impl_FormatInt.calls kj25 t246 t256 _ (Num.WQ.on HQ.out (by repeat (first | (with_reducible first | exact HB.out | apply below_alloc | apply pw_below_drewN | apply below_drew1) | exact HB.out))) A40.out).mono ?_); rintro e w62 ⟨rfl, hb⟩; refine ⟨_, rfl, ?_⟩; have n0_ := Aside0.mk (below_step (by repeat (first | (with_reducible first | exact HB.out | apply below_alloc | apply pw_below_drewN | apply below_drew1) | exact HB.out)) hb); clear HB; have HB := n0_; clear n0_; (try clear hb); (try clear hb2); (try clear hk); (try clear hi)) | ((with_reducible refine gate_callee (f := 36) rfl ?_); refine goesL_ (some 111) rfl rfl Tryd.func36 (by kernel_rfl) rfl #[.string t256] rfl (by (try simp only [List.map_toArray, List.map_cons, List.map_nil]); first | done | rfl | (simp only [List.length_drop, List.length_take]; rfl)) ?_; (with_reducible refine (impl_ParseInt.calls kj25 t256 t257 true _ (Num.WQ.on HQ.out (by repeat (first | (with_reducible first | exact HB.out | apply below_alloc | apply pw_below_drewN | apply below_drew1) | exact HB.out))) A41.out).mono ?_); rintro e w63 ⟨rfl, hb⟩; refine ⟨_, rfl, ?_⟩; have n0_ := Aside0.mk (below_step (by repeat (first | (with_reducible first | exact HB.out | apply below_alloc | apply pw_below_drewN | apply below_drew1) | exact HB.out)) hb); clear HB; have HB := n0_; clear n0_; (try clear hb); (try clear hb2); (try clear hk); (try clear hi)) | (go_at_call 37; (with_reducible refine (spec_FormatInt.calls kj25 t246 t259 _ A45.out).mono ?_); rintro e w64 ⟨rfl, hb⟩; have n0_ := Aside0.mk (below_step (by repeat (first | (with_reducible first | exact HB.out | apply below_alloc | apply pw_below_drewN | apply below_drew1) | exact HB.out)) hb); clear HB; have HB := n0_; clear n0_; (try clear hb); (try clear hb2); (try clear hk); (try clear hi)))
                                go_ret
                                exact ⟨by first | rfl | (simp [errW_none, errW_some] <;> rfl) | (simp [*, errW_none, errW_some] <;> rfl), by repeat (first | (with_reducible first | exact HB.out | apply below_alloc | apply pw_below_drewN | apply below_drew1) | exact HB.out)⟩
                            · replace c47 := Bool.eq_false_iff.mpr c47
                              subst c47
                              have H1 : (if t246 > (-1000000000) then (some (false == (decide (t246 < 1000000000)))) else (some (false == false))) = some r := by rw [if_neg (show ¬ (false = true) by decide)] at H; exact H
                              clear H
                              have H := H1
                              clear H1
                              by_cases c65 : t246 > (-1000000000)
                              · rw [if_pos c65] at H
                                have c65b0 : decide ((-1000000000) < t246) = true := decide_eq_true c65
                                clear c65
                                obtain rfl := Option.some.inj H
                                go_wp2_with (first | ((with_reducible refine gate_callee (f := 33) rfl ?_); refine goesL_ (some 101) rfl rfl Tryd.func33 (by kernel_rfl) rfl #[.string t242] rfl (by (try simp only [List.map_toArray, List.map_cons, List.map_nil]); first | done | rfl | (simp only [List.length_drop, List.length_take]; rfl)) ?_; (with_reducible refine (impl_EncodeHex.calls kj25 t242 t253 _ A38.out).mono ?_); rintro e w66 ⟨rfl, hb⟩; refine ⟨_, rfl, ?_⟩; have n0_ := Aside0.mk (below_step (by repeat (first | (with_reducible first | exact HB.out | apply below_alloc | apply pw_below_drewN | apply below_drew1) | exact HB.out)) hb); clear HB; have HB := n0_; clear n0_; (try clear hb); (try clear hb2); (try clear hk); (try clear hi)) | ((with_reducible refine gate_callee (f := 34) rfl ?_); refine goesL_ (some 104) rfl rfl Tryd.func34 (by kernel_rfl) rfl #[.string t253] rfl (by (try simp only [List.map_toArray, List.map_cons, List.map_nil]); first | done | rfl | (simp only [List.length_drop, List.length_take]; rfl)) ?_; (with_reducible refine (impl_DecodeHex.calls kj25 t253 t254 true _ A39.out).mono ?_); rintro e w67 ⟨rfl, hb⟩; refine ⟨_, rfl, ?_⟩; have n0_ := Aside0.mk (below_step (by repeat (first | (with_reducible first | exact HB.out | apply below_alloc | apply pw_below_drewN | apply below_drew1) | exact HB.out)) hb); clear HB; have HB := n0_; clear n0_; (try clear hb); (try clear hb2); (try clear hk); (try clear hi)) | ((with_reducible refine gate_callee (f := 35) rfl ?_); refine goesL_ (some 108) rfl rfl Tryd.func35 (by kernel_rfl) rfl #[.int .i64 t246] rfl (by (try simp only [List.map_toArray, List.map_cons, List.map_nil]); first | done | rfl | (simp only [List.length_drop, List.length_take]; rfl)) ?_; (with_reducible refine (impl_FormatInt.calls kj25 t246 t256 _ (Num.WQ.on HQ.out (by repeat (first | (with_reducible first | exact HB.out | apply below_alloc | apply pw_below_drewN | apply below_drew1) | exact HB.out))) A40.out).mono ?_); rintro e w68 ⟨rfl, hb⟩; refine ⟨_, rfl, ?_⟩; have n0_ := Aside0.mk (below_step (by repeat (first | (with_reducible first | exact HB.out | apply below_alloc | apply pw_below_drewN | apply below_drew1) | exact HB.out)) hb); clear HB; have HB := n0_; clear n0_; (try clear hb); (try clear hb2); (try clear hk); (try clear hi)) | ((with_reducible refine gate_callee (f := 36) rfl ?_); refine goesL_ (some 111) rfl rfl Tryd.func36 (by kernel_rfl) rfl #[.string t256] rfl (by (try simp only [List.map_toArray, List.map_cons, List.map_nil]); first | done | rfl | (simp only [List.length_drop, List.length_take]; rfl)) ?_; (with_reducible refine (impl_ParseInt.calls kj25 t256 t257 false _ (Num.WQ.on HQ.out (by repeat (first | (with_reducible first | exact HB.out | apply below_alloc | apply pw_below_drewN | apply below_drew1) | exact HB.out))) A41.out).mono ?_); rintro e w69 ⟨rfl, hb⟩; refine ⟨_, rfl, ?_⟩; have n0_ := Aside0.mk (below_step (by repeat (first | (with_reducible first | exact HB.out | apply below_alloc | apply pw_below_drewN | apply below_drew1) | exact HB.out)) hb); clear HB; have HB := n0_; clear n0_; (try clear hb); (try clear hb2); (try clear hk); (try clear hi)) | (go_at_call 37; (with_reducible refine (spec_FormatInt.calls kj25 t246 t259 _ A45.out).mono ?_); rintro e w70 ⟨rfl, hb⟩; have n0_ := Aside0.mk (below_step (by repeat (first | (with_reducible first | exact HB.out | apply below_alloc | apply pw_below_drewN | apply below_drew1) | exact HB.out)) hb); clear HB; have HB := n0_; clear n0_; (try clear hb); (try clear hb2); (try clear hk); (try clear hi)))
                                go_ret
                                exact ⟨by first | rfl | (simp [errW_none, errW_some] <;> rfl) | (simp [*, errW_none, errW_some] <;> rfl), by repeat (first | (with_reducible first | exact HB.out | apply below_alloc | apply pw_below_drewN | apply below_drew1) | exact HB.out)⟩
                              · rw [if_neg c65] at H
                                have c65b0 : decide ((-1000000000) < t246) = false := decide_eq_false c65
                                clear c65
                                obtain rfl := Option.some.inj H
                                go_wp2_with (first | ((with_reducible refine gate_callee (f := 33) rfl ?_); refine goesL_ (some 101) rfl rfl Tryd.func33 (by kernel_rfl) rfl #[.string t242] rfl (by (try simp only [List.map_toArray, List.map_cons, List.map_nil]); first | done | rfl | (simp only [List.length_drop, List.length_take]; rfl)) ?_; (with_reducible refine (impl_EncodeHex.calls kj25 t242 t253 _ A38.out).mono ?_); rintro e w71 ⟨rfl, hb⟩; refine ⟨_, rfl, ?_⟩; have n0_ := Aside0.mk (below_step (by repeat (first | (with_reducible first | exact HB.out | apply below_alloc | apply pw_below_drewN | apply below_drew1) | exact HB.out)) hb); clear HB; have HB := n0_; clear n0_; (try clear hb); (try clear hb2); (try clear hk); (try clear hi)) | ((with_reducible refine gate_callee (f := 34) rfl ?_); refine goesL_ (some 104) rfl rfl Tryd.func34 (by kernel_rfl) rfl #[.string t253] rfl (by (try simp only [List.map_toArray, List.map_cons, List.map_nil]); first | done | rfl | (simp only [List.length_drop, List.length_take]; rfl)) ?_; (with_reducible refine (impl_DecodeHex.calls kj25 t253 t254 true _ A39.out).mono ?_); rintro e w72 ⟨rfl, hb⟩; refine ⟨_, rfl, ?_⟩; have n0_ := Aside0.mk (below_step (by repeat (first | (with_reducible first | exact HB.out | apply below_alloc | apply pw_below_drewN | apply below_drew1) | exact HB.out)) hb); clear HB; have HB := n0_; clear n0_; (try clear hb); (try clear hb2); (try clear hk); (try clear hi)) | ((with_reducible refine gate_callee (f := 35) rfl ?_); refine goesL_ (some 108) rfl rfl Tryd.func35 (by kernel_rfl) rfl #[.int .i64 t246] rfl (by (try simp only [List.map_toArray, List.map_cons, List.map_nil]); first | done | rfl | (simp only [List.length_drop, List.length_take]; rfl)) ?_; (with_reducible refine (impl_FormatInt.calls kj25 t246 t256 _ (Num.WQ.on HQ.out (by repeat (first | (with_reducible first | exact HB.out | apply below_alloc | apply pw_below_drewN | apply below_drew1) | exact HB.out))) A40.out).mono ?_); rintro e w73 ⟨rfl, hb⟩; refine ⟨_, rfl, ?_⟩; have n0_ := Aside0.mk (below_step (by repeat (first | (with_reducible first | exact HB.out | apply below_alloc | apply pw_below_drewN | apply below_drew1) | exact HB.out)) hb); clear HB; have HB := n0_; clear n0_; (try clear hb); (try clear hb2); (try clear hk); (try clear hi)) | ((with_reducible refine gate_callee (f := 36) rfl ?_); refine goesL_ (some 111) rfl rfl Tryd.func36 (by kernel_rfl) rfl #[.string t256] rfl (by (try simp only [List.map_toArray, List.map_cons, List.map_nil]); first | done | rfl | (simp only [List.length_drop, List.length_take]; rfl)) ?_; (with_reducible refine (impl_ParseInt.calls kj25 t256 t257 false _ (Num.WQ.on HQ.out (by repeat (first | (with_reducible first | exact HB.out | apply below_alloc | apply pw_below_drewN | apply below_drew1) | exact HB.out))) A41.out).mono ?_); rintro e w74 ⟨rfl, hb⟩; refine ⟨_, rfl, ?_⟩; have n0_ := Aside0.mk (below_step (by repeat (first | (with_reducible first | exact HB.out | apply below_alloc | apply pw_below_drewN | apply below_drew1) | exact HB.out)) hb); clear HB; have HB := n0_; clear n0_; (try clear hb); (try clear hb2); (try clear hk); (try clear hi)) | (go_at_call 37; (with_reducible refine (spec_FormatInt.calls kj25 t246 t259 _ A45.out).mono ?_); rintro e w75 ⟨rfl, hb⟩; have n0_ := Aside0.mk (below_step (by repeat (first | (with_reducible first | exact HB.out | apply below_alloc | apply pw_below_drewN | apply below_drew1) | exact HB.out)) hb); clear HB; have HB := n0_; clear n0_; (try clear hb); (try clear hb2); (try clear hk); (try clear hi)))
                                go_ret
                                exact ⟨by first | rfl | (simp [errW_none, errW_some] <;> rfl) | (simp [*, errW_none, errW_some] <;> rfl), by repeat (first | (with_reducible first | exact HB.out | apply below_alloc | apply pw_below_drewN | apply below_drew1) | exact HB.out)⟩
                          · rw [if_neg c46] at H
                            have c46b0 : (t256.toList == t259.toList) = false := beq_eq_false_iff_ne.mpr c46
                            have c46b1 : (t256.toList != t259.toList) = true := bne_iff_ne.mpr c46
                            obtain rfl := Option.some.inj H
                            go_wp2_with (first | ((with_reducible refine gate_callee (f := 33) rfl ?_); refine goesL_ (some 101) rfl rfl Tryd.func33 (by kernel_rfl) rfl #[.string t242] rfl (by (try simp only [List.map_toArray, List.map_cons, List.map_nil]); first | done | rfl | (simp only [List.length_drop, List.length_take]; rfl)) ?_; (with_reducible refine (impl_EncodeHex.calls kj25 t242 t253 _ A38.out).mono ?_); rintro e w76 ⟨rfl, hb⟩; refine ⟨_, rfl, ?_⟩; have n0_ := Aside0.mk (below_step (by repeat (first | (with_reducible first | exact HB.out | apply below_alloc | apply pw_below_drewN | apply below_drew1) | exact HB.out)) hb); clear HB; have HB := n0_; clear n0_; (try clear hb); (try clear hb2); (try clear hk); (try clear hi)) | ((with_reducible refine gate_callee (f := 34) rfl ?_); refine goesL_ (some 104) rfl rfl Tryd.func34 (by kernel_rfl) rfl #[.string t253] rfl (by (try simp only [List.map_toArray, List.map_cons, List.map_nil]); first | done | rfl | (simp only [List.length_drop, List.length_take]; rfl)) ?_; (with_reducible refine (impl_DecodeHex.calls kj25 t253 t254 true _ A39.out).mono ?_); rintro e w77 ⟨rfl, hb⟩; refine ⟨_, rfl, ?_⟩; have n0_ := Aside0.mk (below_step (by repeat (first | (with_reducible first | exact HB.out | apply below_alloc | apply pw_below_drewN | apply below_drew1) | exact HB.out)) hb); clear HB; have HB := n0_; clear n0_; (try clear hb); (try clear hb2); (try clear hk); (try clear hi)) | ((with_reducible refine gate_callee (f := 35) rfl ?_); refine goesL_ (some 108) rfl rfl Tryd.func35 (by kernel_rfl) rfl #[.int .i64 t246] rfl (by (try simp only [List.map_toArray, List.map_cons, List.map_nil]); first | done | rfl | (simp only [List.length_drop, List.length_take]; rfl)) ?_; (with_reducible refine (impl_FormatInt.calls kj25 t246 t256 _ (Num.WQ.on HQ.out (by repeat (first | (with_reducible first | exact HB.out | apply below_alloc | apply pw_below_drewN | apply below_drew1) | exact HB.out))) A40.out).mono ?_); rintro e w78 ⟨rfl, hb⟩; refine ⟨_, rfl, ?_⟩; have n0_ := Aside0.mk (below_step (by repeat (first | (with_reducible first | exact HB.out | apply below_alloc | apply pw_below_drewN | apply below_drew1) | exact HB.out)) hb); clear HB; have HB := n0_; clear n0_; (try clear hb); (try clear hb2); (try clear hk); (try clear hi)) | ((with_reducible refine gate_callee (f := 36) rfl ?_); refine goesL_ (some 111) rfl rfl Tryd.func36 (by kernel_rfl) rfl #[.string t256] rfl (by (try simp only [List.map_toArray, List.map_cons, List.map_nil]); first | done | rfl | (simp only [List.length_drop, List.length_take]; rfl)) ?_; (with_reducible refine (impl_ParseInt.calls kj25 t256 t257 t258 _ (Num.WQ.on HQ.out (by repeat (first | (with_reducible first | exact HB.out | apply below_alloc | apply pw_below_drewN | apply below_drew1) | exact HB.out))) A41.out).mono ?_); rintro e w79 ⟨rfl, hb⟩; refine ⟨_, rfl, ?_⟩; have n0_ := Aside0.mk (below_step (by repeat (first | (with_reducible first | exact HB.out | apply below_alloc | apply pw_below_drewN | apply below_drew1) | exact HB.out)) hb); clear HB; have HB := n0_; clear n0_; (try clear hb); (try clear hb2); (try clear hk); (try clear hi)) | (go_at_call 37; (with_reducible refine (spec_FormatInt.calls kj25 t246 t259 _ A45.out).mono ?_); rintro e w80 ⟨rfl, hb⟩; have n0_ := Aside0.mk (below_step (by repeat (first | (with_reducible first | exact HB.out | apply below_alloc | apply pw_below_drewN | apply below_drew1) | exact HB.out)) hb); clear HB; have HB := n0_; clear n0_; (try clear hb); (try clear hb2); (try clear hk); (try clear hi)))
                            go_ret
                            exact ⟨by first | rfl | (simp [errW_none, errW_some] <;> rfl) | (simp [*, errW_none, errW_some] <;> rfl), by repeat (first | (with_reducible first | exact HB.out | apply below_alloc | apply pw_below_drewN | apply below_drew1) | exact HB.out)⟩
                        · rw [if_neg c44] at H
                          have c44b0 : ((t253.size : Int) == (wrap64 (2 * (t242.size : Int)))) = false := beq_eq_false_iff_ne.mpr c44
                          have c44b1 : ((t253.size : Int) != (wrap64 (2 * (t242.size : Int)))) = true := bne_iff_ne.mpr c44
                          obtain rfl := Option.some.inj H
                          go_wp2_with (first | ((with_reducible refine gate_callee (f := 33) rfl ?_); refine goesL_ (some 101) rfl rfl Tryd.func33 (by kernel_rfl) rfl #[.string t242] rfl (by (try simp only [List.map_toArray, List.map_cons, List.map_nil]); first | done | rfl | (simp only [List.length_drop, List.length_take]; rfl)) ?_; (with_reducible refine (impl_EncodeHex.calls kj25 t242 t253 _ A38.out).mono ?_); rintro e w81 ⟨rfl, hb⟩; refine ⟨_, rfl, ?_⟩; have n0_ := Aside0.mk (below_step (by repeat (first | (with_reducible first | exact HB.out | apply below_alloc | apply pw_below_drewN | apply below_drew1) | exact HB.out)) hb); clear HB; have HB := n0_; clear n0_; (try clear hb); (try clear hb2); (try clear hk); (try clear hi)) | ((with_reducible refine gate_callee (f := 34) rfl ?_); refine goesL_ (some 104) rfl rfl Tryd.func34 (by kernel_rfl) rfl #[.string t253] rfl (by (try simp only [List.map_toArray, List.map_cons, List.map_nil]); first | done | rfl | (simp only [List.length_drop, List.length_take]; rfl)) ?_; (with_reducible refine (impl_DecodeHex.calls kj25 t253 t254 true _ A39.out).mono ?_); rintro e w82 ⟨rfl, hb⟩; refine ⟨_, rfl, ?_⟩; have n0_ := Aside0.mk (below_step (by repeat (first | (with_reducible first | exact HB.out | apply below_alloc | apply pw_below_drewN | apply below_drew1) | exact HB.out)) hb); clear HB; have HB := n0_; clear n0_; (try clear hb); (try clear hb2); (try clear hk); (try clear hi)) | ((with_reducible refine gate_callee (f := 35) rfl ?_); refine goesL_ (some 108) rfl rfl Tryd.func35 (by kernel_rfl) rfl #[.int .i64 t246] rfl (by (try simp only [List.map_toArray, List.map_cons, List.map_nil]); first | done | rfl | (simp only [List.length_drop, List.length_take]; rfl)) ?_; (with_reducible refine (impl_FormatInt.calls kj25 t246 t256 _ (Num.WQ.on HQ.out (by repeat (first | (with_reducible first | exact HB.out | apply below_alloc | apply pw_below_drewN | apply below_drew1) | exact HB.out))) A40.out).mono ?_); rintro e w83 ⟨rfl, hb⟩; refine ⟨_, rfl, ?_⟩; have n0_ := Aside0.mk (below_step (by repeat (first | (with_reducible first | exact HB.out | apply below_alloc | apply pw_below_drewN | apply below_drew1) | exact HB.out)) hb); clear HB; have HB := n0_; clear n0_; (try clear hb); (try clear hb2); (try clear hk); (try clear hi)) | ((with_reducible refine gate_callee (f := 36) rfl ?_); refine goesL_ (some 111) rfl rfl Tryd.func36 (by kernel_rfl) rfl #[.string t256] rfl (by (try simp only [List.map_toArray, List.map_cons, List.map_nil]); first | done | rfl | (simp only [List.length_drop, List.length_take]; rfl)) ?_; (with_reducible refine (impl_ParseInt.calls kj25 t256 t257 t258 _ (Num.WQ.on HQ.out (by repeat (first | (with_reducible first | exact HB.out | apply below_alloc | apply pw_below_drewN | apply below_drew1) | exact HB.out))) A41.out).mono ?_); rintro e w84 ⟨rfl, hb⟩; refine ⟨_, rfl, ?_⟩; have n0_ := Aside0.mk (below_step (by repeat (first | (with_reducible first | exact HB.out | apply below_alloc | apply pw_below_drewN | apply below_drew1) | exact HB.out)) hb); clear HB; have HB := n0_; clear n0_; (try clear hb); (try clear hb2); (try clear hk); (try clear hi)))
                          go_ret
                          exact ⟨by first | rfl | (simp [errW_none, errW_some] <;> rfl) | (simp [*, errW_none, errW_some] <;> rfl), by repeat (first | (with_reducible first | exact HB.out | apply below_alloc | apply pw_below_drewN | apply below_drew1) | exact HB.out)⟩
                      · rw [if_neg c43] at H
                        have c43b0 : (t254.toList == t242.toList) = false := beq_eq_false_iff_ne.mpr c43
                        have c43b1 : (t254.toList != t242.toList) = true := bne_iff_ne.mpr c43
                        obtain rfl := Option.some.inj H
                        go_wp2_with (first | ((with_reducible refine gate_callee (f := 33) rfl ?_); refine goesL_ (some 101) rfl rfl Tryd.func33 (by kernel_rfl) rfl #[.string t242] rfl (by (try simp only [List.map_toArray, List.map_cons, List.map_nil]); first | done | rfl | (simp only [List.length_drop, List.length_take]; rfl)) ?_; (with_reducible refine (impl_EncodeHex.calls kj25 t242 t253 _ A38.out).mono ?_); rintro e w85 ⟨rfl, hb⟩; refine ⟨_, rfl, ?_⟩; have n0_ := Aside0.mk (below_step (by repeat (first | (with_reducible first | exact HB.out | apply below_alloc | apply pw_below_drewN | apply below_drew1) | exact HB.out)) hb); clear HB; have HB := n0_; clear n0_; (try clear hb); (try clear hb2); (try clear hk); (try clear hi)) | ((with_reducible refine gate_callee (f := 34) rfl ?_); refine goesL_ (some 104) rfl rfl Tryd.func34 (by kernel_rfl) rfl #[.string t253] rfl (by (try simp only [List.map_toArray, List.map_cons, List.map_nil]); first | done | rfl | (simp only [List.length_drop, List.length_take]; rfl)) ?_; (with_reducible refine (impl_DecodeHex.calls kj25 t253 t254 true _ A39.out).mono ?_); rintro e w86 ⟨rfl, hb⟩; refine ⟨_, rfl, ?_⟩; have n0_ := Aside0.mk (below_step (by repeat (first | (with_reducible first | exact HB.out | apply below_alloc | apply pw_below_drewN | apply below_drew1) | exact HB.out)) hb); clear HB; have HB := n0_; clear n0_; (try clear hb); (try clear hb2); (try clear hk); (try clear hi)) | ((with_reducible refine gate_callee (f := 35) rfl ?_); refine goesL_ (some 108) rfl rfl Tryd.func35 (by kernel_rfl) rfl #[.int .i64 t246] rfl (by (try simp only [List.map_toArray, List.map_cons, List.map_nil]); first | done | rfl | (simp only [List.length_drop, List.length_take]; rfl)) ?_; (with_reducible refine (impl_FormatInt.calls kj25 t246 t256 _ (Num.WQ.on HQ.out (by repeat (first | (with_reducible first | exact HB.out | apply below_alloc | apply pw_below_drewN | apply below_drew1) | exact HB.out))) A40.out).mono ?_); rintro e w87 ⟨rfl, hb⟩; refine ⟨_, rfl, ?_⟩; have n0_ := Aside0.mk (below_step (by repeat (first | (with_reducible first | exact HB.out | apply below_alloc | apply pw_below_drewN | apply below_drew1) | exact HB.out)) hb); clear HB; have HB := n0_; clear n0_; (try clear hb); (try clear hb2); (try clear hk); (try clear hi)) | ((with_reducible refine gate_callee (f := 36) rfl ?_); refine goesL_ (some 111) rfl rfl Tryd.func36 (by kernel_rfl) rfl #[.string t256] rfl (by (try simp only [List.map_toArray, List.map_cons, List.map_nil]); first | done | rfl | (simp only [List.length_drop, List.length_take]; rfl)) ?_; (with_reducible refine (impl_ParseInt.calls kj25 t256 t257 t258 _ (Num.WQ.on HQ.out (by repeat (first | (with_reducible first | exact HB.out | apply below_alloc | apply pw_below_drewN | apply below_drew1) | exact HB.out))) A41.out).mono ?_); rintro e w88 ⟨rfl, hb⟩; refine ⟨_, rfl, ?_⟩; have n0_ := Aside0.mk (below_step (by repeat (first | (with_reducible first | exact HB.out | apply below_alloc | apply pw_below_drewN | apply below_drew1) | exact HB.out)) hb); clear HB; have HB := n0_; clear n0_; (try clear hb); (try clear hb2); (try clear hk); (try clear hi)))
                        go_ret
                        exact ⟨by first | rfl | (simp [errW_none, errW_some] <;> rfl) | (simp [*, errW_none, errW_some] <;> rfl), by repeat (first | (with_reducible first | exact HB.out | apply below_alloc | apply pw_below_drewN | apply below_drew1) | exact HB.out)⟩
                    · replace c42 := Bool.eq_false_iff.mpr c42
                      subst c42
                      have H1 : (some false) = some r := by rw [if_neg (show ¬ (false = true) by decide)] at H; exact H
                      clear H
                      have H := H1
                      clear H1
                      obtain rfl := Option.some.inj H
                      go_wp2_with (first | ((with_reducible refine gate_callee (f := 33) rfl ?_); refine goesL_ (some 101) rfl rfl Tryd.func33 (by kernel_rfl) rfl #[.string t242] rfl (by (try simp only [List.map_toArray, List.map_cons, List.map_nil]); first | done | rfl | (simp only [List.length_drop, List.length_take]; rfl)) ?_; (with_reducible refine (impl_EncodeHex.calls kj25 t242 t253 _ A38.out).mono ?_); rintro e w89 ⟨rfl, hb⟩; refine ⟨_, rfl, ?_⟩; have n0_ := Aside0.mk (below_step (by repeat (first | (with_reducible first | exact HB.out | apply below_alloc | apply pw_below_drewN | apply below_drew1) | exact HB.out)) hb); clear HB; have HB := n0_; clear n0_; (try clear hb); (try clear hb2); (try clear hk); (try clear hi)) | ((with_reducible refine gate_callee (f := 34) rfl ?_); refine goesL_ (some 104) rfl rfl Tryd.func34 (by kernel_rfl) rfl #[.string t253] rfl (by (try simp only [List.map_toArray, List.map_cons, List.map_nil]); first | done | rfl | (simp only [List.length_drop, List.length_take]; rfl)) ?_; (with_reducible refine (impl_DecodeHex.calls kj25 t253 t254 false _ A39.out).mono ?_); rintro e w90 ⟨rfl, hb⟩; refine ⟨_, rfl, ?_⟩; have n0_ := Aside0.mk (below_step (by repeat (first | (with_reducible first | exact HB.out | apply below_alloc | apply pw_below_drewN | apply below_drew1) | exact HB.out)) hb); clear HB; have HB := n0_; clear n0_; (try clear hb); (try clear hb2); (try clear hk); (try clear hi)) | ((with_reducible refine gate_callee (f := 35) rfl ?_); refine goesL_ (some 108) rfl rfl Tryd.func35 (by kernel_rfl) rfl #[.int .i64 t246] rfl (by (try simp only [List.map_toArray, List.map_cons, List.map_nil]); first | done | rfl | (simp only [List.length_drop, List.length_take]; rfl)) ?_; (with_reducible refine (impl_FormatInt.calls kj25 t246 t256 _ (Num.WQ.on HQ.out (by repeat (first | (with_reducible first | exact HB.out | apply below_alloc | apply pw_below_drewN | apply below_drew1) | exact HB.out))) A40.out).mono ?_); rintro e w91 ⟨rfl, hb⟩; refine ⟨_, rfl, ?_⟩; have n0_ := Aside0.mk (below_step (by repeat (first | (with_reducible first | exact HB.out | apply below_alloc | apply pw_below_drewN | apply below_drew1) | exact HB.out)) hb); clear HB; have HB := n0_; clear n0_; (try clear hb); (try clear hb2); (try clear hk); (try clear hi)) | ((with_reducible refine gate_callee (f := 36) rfl ?_); refine goesL_ (some 111) rfl rfl Tryd.func36 (by kernel_rfl) rfl #[.string t256] rfl (by (try simp only [List.map_toArray, List.map_cons, List.map_nil]); first | done | rfl | (simp only [List.length_drop, List.length_take]; rfl)) ?_; (with_reducible refine (impl_ParseInt.calls kj25 t256 t257 t258 _ (Num.WQ.on HQ.out (by repeat (first | (with_reducible first | exact HB.out | apply below_alloc | apply pw_below_drewN | apply below_drew1) | exact HB.out))) A41.out).mono ?_); rintro e w92 ⟨rfl, hb⟩; refine ⟨_, rfl, ?_⟩; have n0_ := Aside0.mk (below_step (by repeat (first | (with_reducible first | exact HB.out | apply below_alloc | apply pw_below_drewN | apply below_drew1) | exact HB.out)) hb); clear HB; have HB := n0_; clear n0_; (try clear hb); (try clear hb2); (try clear hk); (try clear hi)))
                      go_ret
                      exact ⟨by first | rfl | (simp [errW_none, errW_some] <;> rfl) | (simp [*, errW_none, errW_some] <;> rfl), by repeat (first | (with_reducible first | exact HB.out | apply below_alloc | apply pw_below_drewN | apply below_drew1) | exact HB.out)⟩
            · rw [if_neg c24] at H
              exact absurd H (by simp)
    · rw [if_neg c7] at H
      exact absurd H (by simp)

/-- THE ONE PURE STATEMENT of laws_FnIntegerEncodings: yours. -/
def laws_FnIntegerEncodings.Pure : Prop := ∀ (l0 : List Int), l0.length ≤ maxLen → l0.length * 1 ≤ 140737488351232 → (∀ x ∈ l0, (Lit.int .u8 x).wf = true) → ∃ k, laws_FnIntegerEncodings.f k l0 = some true
theorem laws_FnIntegerEncodings.walk (P : laws_FnIntegerEncodings.Pure) (a0 : Option Addr) (len0 cap0 : Nat) (z0 : List Int) (w : World) (hq : Num.WQ w) (w0 : (a0 = none ∧ len0 = 0 ∧ cap0 = 0 ∧ z0 = []) ∨ ∃ x, a0 = some x ∧ len0 ≤ cap0 ∧ cap0 ≤ maxLen ∧ z0.length = cap0 ∧ (∀ i, i < z0.length → w.cell? (x.add i) = some (.int .u8 (z0.getD i 0))) ∧ ∀ n ∈ z0, (Lit.int .u8 n).wf = true) (y0 : len0 * 1 ≤ 140737488351232) :
    Calls Tryd.prog 4 #[.slice a0 len0 cap0] w fun e w' => e = .returned (.bool true) ∧ Below w.heap.size w w' := by
  obtain ⟨l0, rfl, hr0, hm0, hw0, hc0⟩ := ReadsInt.ofRowC w0
  obtain ⟨k, h⟩ := P l0 hm0 y0 hw0
  refine (laws_FnIntegerEncodings.calls k _ _ l0 true w hq (Kd.C_of_reads (d := (0 : Int)) (h1 := fun _ => rfl) hr0) hc0 h).mono ?_
  rintro e w' ⟨rfl, hd⟩
  exact ⟨rfl, hd⟩

end Go.Proofs.YtkjpbhncgjhfeaaDoor.PFnIntegerEncodings
