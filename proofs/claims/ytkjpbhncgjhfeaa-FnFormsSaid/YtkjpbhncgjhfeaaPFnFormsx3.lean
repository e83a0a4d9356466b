import Derived.Test.YtkjpbhncgjhfeaaPFnFormsx0
namespace Go.Proofs.Ytkjpbhncgjhfeaa.PFnForms
open Go.RowKit Go.Proofs.YtkjpbhncgjhfeaaW.PrintWords Go.Proofs.YtkjpbhncgjhfeaaW.PrintLast Go.Proofs.YtkjpbhncgjhfeaaW.PrintMore
attribute [local go_sem] max2_int min2_int max_two min_two max_three min_three max_four min_four
set_option linter.unusedVariables false
set_option linter.unusedSimpArgs false
set_option maxHeartbeats 8000000
set_option maxRecDepth 100000
def slices_Index_string_string.l0 : Nat → List ByteArray → ByteArray → Int → Int → Option (Int)
 | 0, _, _, _, _ => none
 | k + 1, x0, x1, x7, x8 => if x8 < x7 then (if 0 ≤ x8 then (if x8 < (x0.length : Int) then (if x1.toList = (rdOf ByteArray.empty x0 x8).toList then (some x8) else (slices_Index_string_string.l0 k x0 x1 x7 (wrap64 (x8 + 1)))) else (none)) else (none)) else (some (-1))
def slices_Index_string_string.f (k : Nat) (l0 : List ByteArray) (a1 : ByteArray) : Option (Int) := slices_Index_string_string.l0 k l0 a1 (l0.length : Int) 0
theorem slices_Index_string_string.calls (k : Nat) (A0 : Option Addr) (c0 : Nat) (l0 : List ByteArray) (a1 : ByteArray) (r : Int) (w : World) (hr0 : Kd.C Kd.string w A0 l0.length l0) (hc0 : l0.length ≤ c0) (h : slices_Index_string_string.f k l0 a1 = some r) :
  Calls Try.prog 83 #[.slice A0 l0.length c0, .string a1] w fun e w' => e = .returned (.int .i64 r) ∧ Drawn0 w w' := by
 have HR0 := qa hr0; have HC0 := qa hc0; clear hr0 hc0; have H := h; unfold slices_Index_string_string.f at H; clear h; have H' := qa H; clear H; go_enter Try.func83, Try.ntmps83; go_wp2
 go_loopg [8] k (fun kq v8 w' => ∃ (x8_1 : Int), v8 = .int .i64 x8_1 ∧ Aside0 (slices_Index_string_string.l0 kq l0 a1 (l0.length : Int) x8_1 = some r) ∧ Aside0 (kq ≤ k) ∧ Drawn0 w w')
 case atStart => exact ⟨(0), (by first | rfl | (simp; done) | (simp [*]; done)), H', ⟨qva _⟩, by repeat (first | exact Drawn0.refl _ | apply Drawn0.step)⟩
 case round =>
  clear H'; (try clear p2); obtain ⟨x8_1, rfl, HA, HK1, ⟨m1, rfl⟩⟩ := hrel
  cases gk with
  | zero => exact absurd HA.out (by simp [slices_Index_string_string.l0])
  | succ k1 =>
   have H := HA.out; clear HA; simp only [slices_Index_string_string.l0] at H
   by_cases c3 : x8_1 < (l0.length : Int)
   ·rw [if_pos c3] at H
    have c3b0 : decide (x8_1 < (l0.length : Int)) = true := qq c3; clear c3
    by_cases c4 : 0 ≤ x8_1
    ·rw [if_pos c4] at H
     have c4b0 : decide (0 ≤ x8_1) = true := qq c4; clear c4
     by_cases c5 : x8_1 < (l0.length : Int)
     ·rw [if_pos c5] at H
      have c5b0 : decide (x8_1 < (l0.length : Int)) = true := qq c5; clear c5
      by_cases c6 : a1.toList = (rdOf ByteArray.empty l0 x8_1).toList
      ·rw [if_pos c6] at H
       have c6b0 : (a1.toList == (rdOf ByteArray.empty l0 x8_1).toList) = true := ze c6; have c6b1 : (a1.toList != (rdOf ByteArray.empty l0 x8_1).toList) = false := zc c6; clear c6; obtain rfl := qca H; have p154 : 0 ≤ (x8_1 : Int) := qm (by assumption); have q154 : x8_1 < (l0.length : Int) := qm (by assumption); obtain ⟨ad154, e154, hx154_0⟩ := Kd.at_string HR0.out x8_1 p154 q154; cases e154; replace p154 := qaa p154; replace q154 := qaa q154; go_wp2; go_ret; exact ⟨by first | rfl | (simp; done) | (simp [*]; done), by repeat (first | exact Drawn0.refl _ | apply Drawn0.step)⟩
      ·rw [if_neg c6] at H
       have c6b0 : (a1.toList == (rdOf ByteArray.empty l0 x8_1).toList) = false := zd c6; have c6b1 : (a1.toList != (rdOf ByteArray.empty l0 x8_1).toList) = true := zf c6; have H' := qa H; clear H; have p154 : 0 ≤ (x8_1 : Int) := qm (by assumption); have q154 : x8_1 < (l0.length : Int) := qm (by assumption); obtain ⟨ad154, e154, hx154_0⟩ := Kd.at_string HR0.out x8_1 p154 q154; cases e154; replace p154 := qaa p154; replace q154 := qaa q154; go_wp2
       go_roundg k1
       case measure => have := HK1.out; omega
       case rel => exact ⟨(wrap64 (x8_1 + 1)), (by first | rfl | (simp; done) | (simp [*]; done)), H', ⟨by have := HK1.out; omega⟩, by repeat (first | exact Drawn0.refl _ | apply Drawn0.step)⟩
     ·rw [if_neg c5] at H
      exact absurd H (by simp)
    ·rw [if_neg c4] at H
     exact absurd H (by simp)
   ·rw [if_neg c3] at H
    have c3b0 : decide (x8_1 < (l0.length : Int)) = false := qr c3; clear c3; obtain rfl := qca H; go_wp2; go_ret; exact ⟨by first | rfl | (simp; done) | (simp [*]; done), by repeat (first | exact Drawn0.refl _ | apply Drawn0.step)⟩
def slices_Contains_string_string.f (k : Nat) (l0 : List ByteArray) (a1 : ByteArray) : Option (Bool) := (slices_Index_string_string.f k l0 a1).bind fun t155 => (some (decide (t155 ≥ 0)))
theorem slices_Contains_string_string.calls (k : Nat) (A0 : Option Addr) (c0 : Nat) (l0 : List ByteArray) (a1 : ByteArray) (r : Bool) (w : World) (hr0 : Kd.C Kd.string w A0 l0.length l0) (hc0 : l0.length ≤ c0) (h : slices_Contains_string_string.f k l0 a1 = some r) :
  Calls Try.prog 77 #[.slice A0 l0.length c0, .string a1] w fun e w' => e = .returned (.bool r) ∧ Drawn0 w w' := by
 have HR0 := qa hr0; have HC0 := qa hc0; clear hr0 hc0; have H := h; unfold slices_Contains_string_string.f at H; clear h; obtain ⟨t155, A30, H⟩ := zb H; (try dsimp only at H); have A3 := qa A30; clear A30; obtain rfl := qca H; go_enter Try.func77, Try.ntmps77
 go_wp2_with (first | ((with_reducible refine qqa (f := 83) rfl ?_); refine goesL_ (some 7) rfl rfl Try.func83 (by kernel_rfl) rfl #[.slice A0 l0.length c0, .string a1] rfl (by (try simp only [qs, qv, qw]); first | done | rfl | (simp only [qu, qt]; rfl)) ?_; (with_reducible refine (slices_Index_string_string.calls k _ _ l0 a1 t155 _ ?side1 ?side2 A3.out).mono ?_); (case side1 => repeat (first | exact HR0.out | (with_reducible first | apply qda | apply qea | apply qfa))); (case side2 => exact HC0.out); rintro e w' ⟨rfl, ⟨nd, rfl⟩⟩; refine ⟨_, rfl, ?_⟩))
 go_ret; exact ⟨by first | rfl | (simp; done) | (simp [*]; done), by repeat (first | exact Drawn0.refl _ | apply Drawn0.step)⟩
def impl_addOnce.f (k : Nat) (l0 : List ByteArray) (a1 : ByteArray) : Option (List ByteArray) := (slices_Contains_string_string.f k l0 a1).bind fun t156 => (if t156 = true then (some l0) else (if l0.length < 8796093022208 then (some (l0 ++ [a1])) else (none)))
theorem impl_addOnce.calls (k : Nat) (P0_ : Nat → Prop) (u9000_ : Value) (l0 : List ByteArray) (a1 : ByteArray) (r : List ByteArray) (w0 w : World) (hB : Below w0.heap.size w0 w) (ho0 : Kd.R Kd.string 9 w w0.heap.size P0_ u9000_ l0) (h : impl_addOnce.f k l0 a1 = some r) :
  Calls Try.prog 62 #[u9000_, .string a1] w fun e w' => ∃ v0_ : Value, e = .returned (v0_) ∧ Kd.R Kd.string 9 w' w0.heap.size (fun k_ => (P0_ k_ ∨ w.heap.size ≤ k_)) v0_ r ∧ Below w0.heap.size w0 w' ∧ Kept w w' (fun k_ => P0_ k_) := by
 have HO0 := qa (show Kd.R Kd.string 9 w w0.heap.size (fun k_ => (P0_ k_ ∨ w.heap.size ≤ k_)) u9000_ l0 from qga ho0 (fun k_ hk => (.inl hk))); have HK := qa (Kept.refl w (fun k_ => P0_ k_)); have HW0 := qa hB.size; have HB := qa hB; clear hB; have H := h; unfold impl_addOnce.f at H; clear h; obtain ⟨t156, A30, H⟩ := zb H; (try dsimp only at H); have A3 := qa A30; clear A30
 by_cases c4 : t156 = true
 ·subst c4
  rw [if_pos rfl] at H; have H1 := H; clear H; have H := H1; clear H1; obtain rfl := qca H; obtain ⟨Ao5, co5, eo5⟩ := Kd.R_slice HO0.out; subst eo5; go_enter Try.func62, Try.ntmps62
  go_wp2_with (first | ((with_reducible refine qqa (f := 77) rfl ?_); refine goesL_ (some 7) rfl rfl Try.func77 (by kernel_rfl) rfl #[.slice Ao5 l0.length co5, .string a1] rfl (by (try simp only [qs, qv, qw]); first | done | rfl | (simp only [qu, qt]; rfl)) ?_; (with_reducible refine (slices_Contains_string_string.calls k _ _ l0 a1 true _ ?side1 ?side2 A3.out).mono ?_); (case side1 => repeat (first | exact (qra HO0.out).2.2 | (with_reducible first | apply qda | apply qea | apply qfa))); (case side2 => exact (qra HO0.out).2.1); rintro e w' ⟨rfl, ⟨nd, rfl⟩⟩; refine ⟨_, rfl, ?_⟩))
  go_ret; exact ⟨_, by first | rfl | (simp [*] <;> rfl), by (with_reducible repeat first | apply qx | apply qy | apply qz); exact HO0.out, by repeat (first | (with_reducible first | exact HB.out | apply qh | apply qe | apply qg) | exact HB.out), by repeat (first | (with_reducible first | exact HK.out | apply Kept.alloc | apply Kept.drewN | apply Kept.drew) | exact HK.out)⟩
 ·replace c4 := Bool.eq_false_iff.mpr c4
  subst c4; rw [if_neg (show ¬ (false = true) by decide)] at H; have H1 := H; clear H; have H := H1; clear H1
  by_cases c6 : l0.length < 8796093022208
  ·rw [if_pos c6] at H
   have LMc6 := qa c6; clear c6
   obtain ⟨y157, hy157⟩ : ∃ y_ : List ByteArray, y_ = (l0 ++ [a1]) := ⟨_, rfl⟩
   replace H : (some y157) = some r := by first | (rw [hy157]; with_reducible exact H) | (have H2_ := (Option.bind_some _ _).symm.trans H; rw [hy157]; with_reducible exact H2_) | (have H2_ := (Option.bind_some _ _).symm.trans H; with_reducible exact H2_) | with_reducible exact H | (rw [hy157]; exact H) | exact H
   have Ny157 := qa hy157; clear hy157; obtain rfl := qca H; obtain ⟨Ao7, co7, eo7⟩ := Kd.R_slice HO0.out; subst eo7; go_enter Try.func62, Try.ntmps62
   go_wp2_with (first | ((with_reducible refine qqa (f := 77) rfl ?_); refine goesL_ (some 7) rfl rfl Try.func77 (by kernel_rfl) rfl #[.slice Ao7 l0.length co7, .string a1] rfl (by (try simp only [qs, qv, qw]); first | done | rfl | (simp only [qu, qt]; rfl)) ?_; (with_reducible refine (slices_Contains_string_string.calls k _ _ l0 a1 false _ ?side1 ?side2 A3.out).mono ?_); (case side1 => repeat (first | exact (qra HO0.out).2.2 | (with_reducible first | apply qda | apply qea | apply qfa))); (case side2 => exact (qra HO0.out).2.1); rintro e w' ⟨rfl, ⟨nd, rfl⟩⟩; refine ⟨_, rfl, ?_⟩) | ((with_reducible refine gate_builtin (b := .append) (xs := #[.tmp 9, .tmp 11]) rfl ?_); at_builtin; refine Kd.R_append Kd.string (w0 := w0) w0.heap.size rfl (.tmp 9) (.tmp 11) 25 9 (.string ⟨#[]⟩) 16 rfl Try.underlying25 info9 rfl (by decide) (by omega) (.slice Ao7 l0.length co7) l0 a1 [.string a1] (fun k_ => (P0_ k_ ∨ w.heap.size ≤ k_)) (fun _ => False) rfl rfl ?aP (fun _ hk => hk.elim) ?aF ?aO ?aB ?aS ?aL ?_; (case aP => exact rfl); (case aB => exact (by repeat (first | (with_reducible first | exact HB.out | apply qh | apply qe | apply qg) | exact HB.out))); (case aF => exact (fun k_ hk => (.inr (Nat.le_trans (by first | exact HK.out.1 | exact (show Kept w _ (fun k_ => P0_ k_) from by repeat (first | (with_reducible first | exact HK.out | apply Kept.alloc | apply Kept.drewN | apply Kept.drew) | exact HK.out)).1) hk)))); (case aO => exact (by (with_reducible repeat first | apply qx | apply qy | apply qz); exact HO0.out)); (case aS => exact (qp (by repeat (first | (with_reducible first | exact HB.out | apply qh | apply qe | apply qg) | exact HB.out)))); (case aL => have := LMc6.out; omega); intro v158 w8 ho hb hg hat; rw [← Ny157.out] at ho; have n0_ := qa (hb); have n1_ := qa (Kept.of_grown (S := (fun k_ => P0_ k_)) hg (by repeat (first | (with_reducible first | exact HK.out | apply Kept.alloc | apply Kept.drewN | apply Kept.drew) | exact HK.out)) (fun k_ e_ => (HO0.out.1 k_ e_))); have n2_ := qa (ho); clear HB; clear HK; clear HO0; have HB := n0_; have HK := n1_; have HO159 := n2_; clear n0_ n1_ n2_; clear ho hb hg hat))
   go_ret; exact ⟨_, by first | rfl | (simp [*] <;> rfl), by (with_reducible repeat first | apply qx | apply qy | apply qz); exact HO159.out, by repeat (first | (with_reducible first | exact HB.out | apply qh | apply qe | apply qg) | exact HB.out), by repeat (first | (with_reducible first | exact HK.out | apply Kept.alloc | apply Kept.drewN | apply Kept.drew) | exact HK.out)⟩
  ·rw [if_neg c6] at H
   exact absurd H (by simp)
end Go.Proofs.Ytkjpbhncgjhfeaa.PFnForms
