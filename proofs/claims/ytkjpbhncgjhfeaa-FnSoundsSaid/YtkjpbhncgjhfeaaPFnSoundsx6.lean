-- written for this claim by a program of this session (wip/patch_print.py over the kit's print)
import Derived.Test.YtkjpbhncgjhfeaaPFnSoundsx0
import Derived.Test.YtkjpbhncgjhfeaaPFnSoundsx1
import Derived.Test.YtkjpbhncgjhfeaaPFnSoundsx2
import Derived.Test.YtkjpbhncgjhfeaaPFnSoundsx3
import Derived.Test.YtkjpbhncgjhfeaaPFnSoundsx4
import Derived.Test.YtkjpbhncgjhfeaaPFnSoundsx5
namespace Go.Proofs.Ytkjpbhncgjhfeaa.PFnSounds
open Go.RowKit Go.Proofs.YtkjpbhncgjhfeaaW.PrintWords Go.Proofs.YtkjpbhncgjhfeaaW.PrintLast Go.Proofs.YtkjpbhncgjhfeaaW.PrintMore
attribute [local go_sem] max2_int min2_int max_two min_two max_three min_three max_four min_four   -- for this text's walks alone
set_option linter.unusedVariables false
set_option linter.unusedSimpArgs false

/-! ### laws_FnSounds: function 4 -/
mutual
def laws_FnSounds.j0 : Nat → List Int → Int → Int → Bool → Option (Bool)
  | 0, _, _, _, _ => none
  | k + 1, x0, x3, x6, x51 => if x51 = true then (some false) else ((impl_SwapVoice.f x6).bind fun bt266 => (if bt266.1 = x3 then ((spec_DrawNaturalClass.f k x0).bind fun t268 => ((impl_NaturalClass.f k t268).bind fun t269 => ((spec_NaturalClass.f k t268).bind fun t270 => (if t269.toList = t270.toList then (if t269.toList = ([] : List UInt8) then ((impl_SharedFeatures.f k t268).bind fun t271 => ((spec_SharedFeatures.f k t268).bind fun t274 => ((laws_sameInts.f k t271 t274).bind fun t277 => (laws_FnSounds.j1 k x0 (!t277))))) else ((impl_NaturalClass.f k t269).bind fun t278 => (if t278.toList = t269.toList then ((impl_IsNaturalClass.f k t269).bind fun t279 => (if t279 = true then ((impl_SharedFeatures.f k t268).bind fun t280 => ((spec_SharedFeatures.f k t268).bind fun t283 => ((laws_sameInts.f k t280 t283).bind fun t286 => (laws_FnSounds.j1 k x0 (!t286))))) else (laws_FnSounds.j1 k x0 true))) else (laws_FnSounds.j1 k x0 true)))) else (laws_FnSounds.j1 k x0 true))))) else (some false)))
def laws_FnSounds.j1 : Nat → List Int → Bool → Option (Bool)
  | 0, _, _ => none
  | k + 1, x0, x90 => if x90 = true then (some false) else ((spec_DrawHasFeature.f k x0).bind fun bt287 => ((spec_DrawSoundsWith.f k x0).bind fun bt289 => ((spec_DrawIsNaturalClass.f k x0).bind fun t291 => ((impl_HasFeature.f bt287.1 bt287.2).bind fun t292 => ((spec_HasFeature.f bt287.1 bt287.2).bind fun t293 => (if (t292 == t293) = true then ((impl_SoundsWith.f k bt289.1 bt289.2).bind fun t294 => ((spec_SoundsWith.f k bt289.1 bt289.2).bind fun t295 => (if t294.toList = t295.toList then ((impl_IsNaturalClass.f k t291).bind fun t296 => ((spec_IsNaturalClass.f k t291).bind fun t297 => (some (t296 == t297)))) else (some false)))) else (some false)))))))
end
def laws_FnSounds.f (k : Nat) (l0 : List Int) : Option (Bool) := (laws_big.f l0).bind fun t257 => (if t257 = true then (some true) else ((spec_DrawSwapVoice.f k l0).bind fun t258 => ((impl_SwapVoice.f t258).bind fun bt259 => ((spec_SwapVoice.f t258).bind fun bt261 => (if bt259.1 = bt261.1 then (if (bt259.2 != bt261.2) = true then (laws_FnSounds.j0 k l0 t258 bt261.1 true) else ((impl_IsObstruent.f t258).bind fun t263 => (if (bt259.2 != t263) = true then (laws_FnSounds.j0 k l0 t258 bt261.1 true) else ((impl_IsSound.f t258).bind fun t264 => ((spec_IsSound.f k t258).bind fun t265 => (laws_FnSounds.j0 k l0 t258 bt261.1 (t264 != t265))))))) else (laws_FnSounds.j0 k l0 t258 bt261.1 true))))))
theorem laws_FnSounds.mono_l : ∀ k, (∀ y0 y1 y2 y3, LeO (laws_FnSounds.j0 k y0 y1 y2 y3) (laws_FnSounds.j0 (k + 1) y0 y1 y2 y3)) ∧ (∀ y0 y1, LeO (laws_FnSounds.j1 k y0 y1) (laws_FnSounds.j1 (k + 1) y0 y1))
  | 0 => ⟨fun _ _ _ _ r h => by simp [laws_FnSounds.j0] at h, fun _ _ r h => by simp [laws_FnSounds.j1] at h⟩
  | k + 1 => by
    obtain ⟨ih0, ih1⟩ := laws_FnSounds.mono_l k
    refine ⟨?_, ?_⟩
    · intro y0 y1 y2 y3
      unfold laws_FnSounds.j0
      repeat' first
      | (with_reducible exact ih0 _ _ _ _)
      | (with_reducible exact ih1 _ _)
      | (with_reducible exact impl_IsNaturalClass.mono _ _)
      | (with_reducible exact impl_NaturalClass.mono _ _)
      | (with_reducible exact impl_SharedFeatures.mono _ _)
      | (with_reducible exact impl_SoundsWith.mono _ _ _)
      | (with_reducible exact laws_sameInts.mono _ _ _)
      | (with_reducible exact spec_DrawHasFeature.mono _ _)
      | (with_reducible exact spec_DrawIsNaturalClass.mono _ _)
      | (with_reducible exact spec_DrawNaturalClass.mono _ _)
      | (with_reducible exact spec_DrawSoundsWith.mono _ _)
      | (with_reducible exact spec_DrawSwapVoice.mono _ _)
      | (with_reducible exact spec_IsNaturalClass.mono _ _)
      | (with_reducible exact spec_IsSound.mono _ _)
      | (with_reducible exact spec_NaturalClass.mono _ _)
      | (with_reducible exact spec_SharedFeatures.mono _ _)
      | (with_reducible exact spec_SoundsWith.mono _ _ _)
      | (with_reducible exact LeO.refl _)
      | (with_reducible exact LeO.none _)
      | (with_reducible refine LeO.ite ?_ ?_)
      | (with_reducible refine LeO.bind ?_ (fun _ => ?_))
      | exact ih0 _ _ _ _
      | exact ih1 _ _
      | exact impl_IsNaturalClass.mono _ _
      | exact impl_NaturalClass.mono _ _
      | exact impl_SharedFeatures.mono _ _
      | exact impl_SoundsWith.mono _ _ _
      | exact laws_sameInts.mono _ _ _
      | exact spec_DrawHasFeature.mono _ _
      | exact spec_DrawIsNaturalClass.mono _ _
      | exact spec_DrawNaturalClass.mono _ _
      | exact spec_DrawSoundsWith.mono _ _
      | exact spec_DrawSwapVoice.mono _ _
      | exact spec_IsNaturalClass.mono _ _
      | exact spec_IsSound.mono _ _
      | exact spec_NaturalClass.mono _ _
      | exact spec_SharedFeatures.mono _ _
      | exact spec_SoundsWith.mono _ _ _
      | exact LeO.none _
      | refine LeO.ite ?_ ?_
      | refine LeO.bind ?_ (fun _ => ?_)
    · intro y0 y1
      unfold laws_FnSounds.j1
      repeat' first
      | (with_reducible exact ih0 _ _ _ _)
      | (with_reducible exact ih1 _ _)
      | (with_reducible exact impl_IsNaturalClass.mono _ _)
      | (with_reducible exact impl_NaturalClass.mono _ _)
      | (with_reducible exact impl_SharedFeatures.mono _ _)
      | (with_reducible exact impl_SoundsWith.mono _ _ _)
      | (with_reducible exact laws_sameInts.mono _ _ _)
      | (with_reducible exact spec_DrawHasFeature.mono _ _)
      | (with_reducible exact spec_DrawIsNaturalClass.mono _ _)
      | (with_reducible exact spec_DrawNaturalClass.mono _ _)
      | (with_reducible exact spec_DrawSoundsWith.mono _ _)
      | (with_reducible exact spec_DrawSwapVoice.mono _ _)
      | (with_reducible exact spec_IsNaturalClass.mono _ _)
      | (with_reducible exact spec_IsSound.mono _ _)
      | (with_reducible exact spec_NaturalClass.mono _ _)
      | (with_reducible exact spec_SharedFeatures.mono _ _)
      | (with_reducible exact spec_SoundsWith.mono _ _ _)
      | (with_reducible exact LeO.refl _)
      | (with_reducible exact LeO.none _)
      | (with_reducible refine LeO.ite ?_ ?_)
      | (with_reducible refine LeO.bind ?_ (fun _ => ?_))
      | exact ih0 _ _ _ _
      | exact ih1 _ _
      | exact impl_IsNaturalClass.mono _ _
      | exact impl_NaturalClass.mono _ _
      | exact impl_SharedFeatures.mono _ _
      | exact impl_SoundsWith.mono _ _ _
      | exact laws_sameInts.mono _ _ _
      | exact spec_DrawHasFeature.mono _ _
      | exact spec_DrawIsNaturalClass.mono _ _
      | exact spec_DrawNaturalClass.mono _ _
      | exact spec_DrawSoundsWith.mono _ _
      | exact spec_DrawSwapVoice.mono _ _
      | exact spec_IsNaturalClass.mono _ _
      | exact spec_IsSound.mono _ _
      | exact spec_NaturalClass.mono _ _
      | exact spec_SharedFeatures.mono _ _
      | exact spec_SoundsWith.mono _ _ _
      | exact LeO.none _
      | refine LeO.ite ?_ ?_
      | refine LeO.bind ?_ (fun _ => ?_)
theorem laws_FnSounds.mono : ∀ a0 k, LeO (laws_FnSounds.f k a0) (laws_FnSounds.f (k + 1) a0) := by
  intro a0 k
  obtain ⟨ih0, ih1⟩ := laws_FnSounds.mono_l k
  unfold laws_FnSounds.f
  repeat' first
      | (with_reducible exact ih0 _ _ _ _)
      | (with_reducible exact ih1 _ _)
      | (with_reducible exact impl_IsNaturalClass.mono _ _)
      | (with_reducible exact impl_NaturalClass.mono _ _)
      | (with_reducible exact impl_SharedFeatures.mono _ _)
      | (with_reducible exact impl_SoundsWith.mono _ _ _)
      | (with_reducible exact laws_sameInts.mono _ _ _)
      | (with_reducible exact spec_DrawHasFeature.mono _ _)
      | (with_reducible exact spec_DrawIsNaturalClass.mono _ _)
      | (with_reducible exact spec_DrawNaturalClass.mono _ _)
      | (with_reducible exact spec_DrawSoundsWith.mono _ _)
      | (with_reducible exact spec_DrawSwapVoice.mono _ _)
      | (with_reducible exact spec_IsNaturalClass.mono _ _)
      | (with_reducible exact spec_IsSound.mono _ _)
      | (with_reducible exact spec_NaturalClass.mono _ _)
      | (with_reducible exact spec_SharedFeatures.mono _ _)
      | (with_reducible exact spec_SoundsWith.mono _ _ _)
      | (with_reducible exact LeO.refl _)
      | (with_reducible exact LeO.none _)
      | (with_reducible refine LeO.ite ?_ ?_)
      | (with_reducible refine LeO.bind ?_ (fun _ => ?_))
      | exact ih0 _ _ _ _
      | exact ih1 _ _
      | exact impl_IsNaturalClass.mono _ _
      | exact impl_NaturalClass.mono _ _
      | exact impl_SharedFeatures.mono _ _
      | exact impl_SoundsWith.mono _ _ _
      | exact laws_sameInts.mono _ _ _
      | exact spec_DrawHasFeature.mono _ _
      | exact spec_DrawIsNaturalClass.mono _ _
      | exact spec_DrawNaturalClass.mono _ _
      | exact spec_DrawSoundsWith.mono _ _
      | exact spec_DrawSwapVoice.mono _ _
      | exact spec_IsNaturalClass.mono _ _
      | exact spec_IsSound.mono _ _
      | exact spec_NaturalClass.mono _ _
      | exact spec_SharedFeatures.mono _ _
      | exact spec_SoundsWith.mono _ _ _
      | exact LeO.none _
      | refine LeO.ite ?_ ?_
      | refine LeO.bind ?_ (fun _ => ?_)
set_option maxHeartbeats 8000000 in
set_option maxRecDepth 100000 in
theorem laws_FnSounds.calls (k : Nat) (A0 : Option Addr) (c0 : Nat) (l0 : List Int) (r : Bool) (w : World) (hr0 : Kd.C (Kd.int .u8) w A0 l0.length l0) (hc0 : l0.length ≤ c0) (h : laws_FnSounds.f k l0 = some r) :
    Calls Try.prog 4 #[.slice A0 l0.length c0] w fun e w' => e = .returned (.bool r) ∧ Below w.heap.size w w' := by
  have HR0 := Aside0.mk hr0
  have HC0 := Aside0.mk hc0
  clear hr0 hc0
  have HB := Aside0.mk (Below.refl w.heap.size w)
  have H : ((laws_big.f l0).bind fun t257 => (if t257 = true then (some true) else ((spec_DrawSwapVoice.f k l0).bind fun t258 => ((impl_SwapVoice.f t258).bind fun bt259 => ((spec_SwapVoice.f t258).bind fun bt261 => (if bt259.1 = bt261.1 then (if (bt259.2 != bt261.2) = true then (laws_FnSounds.j0 k l0 t258 bt261.1 true) else ((impl_IsObstruent.f t258).bind fun t263 => (if (bt259.2 != t263) = true then (laws_FnSounds.j0 k l0 t258 bt261.1 true) else ((impl_IsSound.f t258).bind fun t264 => ((spec_IsSound.f k t258).bind fun t265 => (laws_FnSounds.j0 k l0 t258 bt261.1 (t264 != t265))))))) else (laws_FnSounds.j0 k l0 t258 bt261.1 true))))))) = some r := h
  clear h
  replace H := Option.bind_eq_some_iff.mp H
  obtain ⟨t257, A20, H⟩ := H
  replace H : (if t257 = true then (some true) else ((spec_DrawSwapVoice.f k l0).bind fun t258 => ((impl_SwapVoice.f t258).bind fun bt259 => ((spec_SwapVoice.f t258).bind fun bt261 => (if bt259.1 = bt261.1 then (if (bt259.2 != bt261.2) = true then (laws_FnSounds.j0 k l0 t258 bt261.1 true) else ((impl_IsObstruent.f t258).bind fun t263 => (if (bt259.2 != t263) = true then (laws_FnSounds.j0 k l0 t258 bt261.1 true) else ((impl_IsSound.f t258).bind fun t264 => ((spec_IsSound.f k t258).bind fun t265 => (laws_FnSounds.j0 k l0 t258 bt261.1 (t264 != t265))))))) else (laws_FnSounds.j0 k l0 t258 bt261.1 true)))))) = some r := H
  have A2 := Aside0.mk A20
  clear A20
  by_cases c3 : t257 = true
  · subst c3
    have H1 : (some true) = some r := by rw [if_pos rfl] at H; exact H
    clear H
    have H := H1
    clear H1
    obtain rfl := Option.some.inj H
    go_enter Try.func4, Try.ntmps4
    go_wp2_with (first | ((with_reducible refine gate_callee (f := 5) rfl ?_); refine goesL_ (some 18) rfl rfl Try.func5 (by kernel_rfl) rfl #[.slice A0 l0.length c0] rfl (by (try simp only [List.map_toArray, List.map_cons, List.map_nil]); first | done | rfl | (simp only [List.length_drop, List.length_take]; rfl)) ?_; (with_reducible refine (laws_big.calls _ _ l0 true _ ?side1 ?side2 A2.out).mono ?_); (case side1 => repeat (first | exact HR0.out | (with_reducible refine Kd.C_alloc ?_ _) | (with_reducible refine Kd.C_drewN ?_ _) | (with_reducible refine Kd.C_drew ?_))); (case side2 => exact HC0.out); rintro e w' ⟨rfl, ⟨nd, rfl⟩⟩; refine ⟨_, rfl, ?_⟩))
    go_ret
    exact ⟨by first | rfl | (simp [errW_none, errW_some] <;> rfl) | (simp [*, errW_none, errW_some] <;> rfl), by repeat (first | (with_reducible first | exact HB.out | apply below_alloc | apply pw_below_drewN | apply below_drew1) | exact HB.out)⟩
  · replace c3 := Bool.eq_false_iff.mpr c3
    subst c3
    have H1 : ((spec_DrawSwapVoice.f k l0).bind fun t258 => ((impl_SwapVoice.f t258).bind fun bt259 => ((spec_SwapVoice.f t258).bind fun bt261 => (if bt259.1 = bt261.1 then (if (bt259.2 != bt261.2) = true then (laws_FnSounds.j0 k l0 t258 bt261.1 true) else ((impl_IsObstruent.f t258).bind fun t263 => (if (bt259.2 != t263) = true then (laws_FnSounds.j0 k l0 t258 bt261.1 true) else ((impl_IsSound.f t258).bind fun t264 => ((spec_IsSound.f k t258).bind fun t265 => (laws_FnSounds.j0 k l0 t258 bt261.1 (t264 != t265))))))) else (laws_FnSounds.j0 k l0 t258 bt261.1 true))))) = some r := by rw [if_neg (show ¬ (false = true) by decide)] at H; exact H
    clear H
    have H := H1
    clear H1
    replace H := Option.bind_eq_some_iff.mp H
    obtain ⟨t258, A40, H⟩ := H
    replace H : ((impl_SwapVoice.f t258).bind fun bt259 => ((spec_SwapVoice.f t258).bind fun bt261 => (if bt259.1 = bt261.1 then (if (bt259.2 != bt261.2) = true then (laws_FnSounds.j0 k l0 t258 bt261.1 true) else ((impl_IsObstruent.f t258).bind fun t263 => (if (bt259.2 != t263) = true then (laws_FnSounds.j0 k l0 t258 bt261.1 true) else ((impl_IsSound.f t258).bind fun t264 => ((spec_IsSound.f k t258).bind fun t265 => (laws_FnSounds.j0 k l0 t258 bt261.1 (t264 != t265))))))) else (laws_FnSounds.j0 k l0 t258 bt261.1 true)))) = some r := H
    have A4 := Aside0.mk A40
    clear A40
    replace H := Option.bind_eq_some_iff.mp H
    obtain ⟨⟨t259, t260⟩, A50, H⟩ := H
    replace H : ((spec_SwapVoice.f t258).bind fun bt261 => (if t259 = bt261.1 then (if (t260 != bt261.2) = true then (laws_FnSounds.j0 k l0 t258 bt261.1 true) else ((impl_IsObstruent.f t258).bind fun t263 => (if (t260 != t263) = true then (laws_FnSounds.j0 k l0 t258 bt261.1 true) else ((impl_IsSound.f t258).bind fun t264 => ((spec_IsSound.f k t258).bind fun t265 => (laws_FnSounds.j0 k l0 t258 bt261.1 (t264 != t265))))))) else (laws_FnSounds.j0 k l0 t258 bt261.1 true))) = some r := H
    have A5 := Aside0.mk A50
    clear A50
    replace H := Option.bind_eq_some_iff.mp H
    obtain ⟨⟨t261, t262⟩, A60, H⟩ := H
    replace H : (if t259 = t261 then (if (t260 != t262) = true then (laws_FnSounds.j0 k l0 t258 t261 true) else ((impl_IsObstruent.f t258).bind fun t263 => (if (t260 != t263) = true then (laws_FnSounds.j0 k l0 t258 t261 true) else ((impl_IsSound.f t258).bind fun t264 => ((spec_IsSound.f k t258).bind fun t265 => (laws_FnSounds.j0 k l0 t258 t261 (t264 != t265))))))) else (laws_FnSounds.j0 k l0 t258 t261 true)) = some r := H
    have A6 := Aside0.mk A60
    clear A60
    have HC7 := Aside0.mk H
    clear H
    go_enter Try.func4, Try.ntmps4
    go_upto_region 6 with (first | ((with_reducible refine gate_callee (f := 5) rfl ?_); refine goesL_ (some 18) rfl rfl Try.func5 (by kernel_rfl) rfl #[.slice A0 l0.length c0] rfl (by (try simp only [List.map_toArray, List.map_cons, List.map_nil]); first | done | rfl | (simp only [List.length_drop, List.length_take]; rfl)) ?_; (with_reducible refine (laws_big.calls _ _ l0 false _ ?side1 ?side2 A2.out).mono ?_); (case side1 => repeat (first | exact HR0.out | (with_reducible refine Kd.C_alloc ?_ _) | (with_reducible refine Kd.C_drewN ?_ _) | (with_reducible refine Kd.C_drew ?_))); (case side2 => exact HC0.out); rintro e w' ⟨rfl, ⟨nd, rfl⟩⟩; refine ⟨_, rfl, ?_⟩) | ((with_reducible refine gate_callee (f := 39) rfl ?_); refine goesL_ (some 20) rfl rfl Try.func39 (by kernel_rfl) rfl #[.slice A0 l0.length c0] rfl (by (try simp only [List.map_toArray, List.map_cons, List.map_nil]); first | done | rfl | (simp only [List.length_drop, List.length_take]; rfl)) ?_; (with_reducible refine (spec_DrawSwapVoice.calls k _ _ l0 t258 _ ?side1 ?side2 A4.out).mono ?_); (case side1 => repeat (first | exact HR0.out | (with_reducible refine Kd.C_alloc ?_ _) | (with_reducible refine Kd.C_drewN ?_ _) | (with_reducible refine Kd.C_drew ?_))); (case side2 => exact HC0.out); rintro e w8 ⟨rfl, hb⟩; refine ⟨_, rfl, ?_⟩; have n0_ := Aside0.mk (below_step (by repeat (first | (with_reducible first | exact HB.out | apply below_alloc | apply pw_below_drewN | apply below_drew1) | exact HB.out)) hb); clear HB; have HB := n0_; clear n0_; (try clear hb); (try clear hb2); (try clear hk); (try clear hi)) | ((with_reducible refine gate_callee (f := 40) rfl ?_); refine goesL_ (some 23) rfl rfl Try.func40 (by kernel_rfl) rfl #[.int .u8 t258] rfl (by (try simp only [List.map_toArray, List.map_cons, List.map_nil]); first | done | rfl | (simp only [List.length_drop, List.length_take]; rfl)) ?_; (with_reducible refine (impl_SwapVoice.calls t258 t259 t260 _ A5.out).mono ?_); rintro e w' ⟨rfl, ⟨nd, rfl⟩⟩; refine ⟨_, rfl, ?_⟩) | ((with_reducible refine gate_callee (f := 41) rfl ?_); refine goesL_ (some 28) rfl rfl Try.func41 (by kernel_rfl) rfl #[.int .u8 t258] rfl (by (try simp only [List.map_toArray, List.map_cons, List.map_nil]); first | done | rfl | (simp only [List.length_drop, List.length_take]; rfl)) ?_; (with_reducible refine (spec_SwapVoice.calls t258 t261 t262 _ A6.out).mono ?_); rintro e w' ⟨rfl, ⟨nd, rfl⟩⟩; refine ⟨_, rfl, ?_⟩))
    (try simp only [Act.put, List.setIfInBounds_toArray, List.set_cons_zero, List.set_cons_succ])
    go_cut [51] (fun v51 wc => ∃ (kq : Nat) (x51_6 : Bool), v51 = .bool x51_6 ∧ Aside0 (laws_FnSounds.j0 kq l0 t258 t261 x51_6 = some r) ∧ Aside0 (kq ≤ k) ∧ Aside0 (Below w.heap.size w wc))
    case first =>
      have H := HC7.out
      clear HC7
      by_cases c9 : t259 = t261
      · rw [if_pos c9] at H
        have c9b0 : (t259 == t261) = true := beq_iff_eq.mpr c9
        have c9b1 : (t259 != t261) = false := bne_eq_false_iff_eq.mpr c9
        clear c9
        (first | rw [c9b0] | (simp only [i64_w, i32_w]; rw [c9b0]) | skip)
        by_cases c10 : (t260 != t262) = true
        · rw [if_pos c10] at H
          have c10b0 : (t260 != t262) = true := c10
          (try (have c10b1 : decide (t260 = t262) = false := by simpa using c10))
          (try (have c10b2 : (t260 == t262) = false := by simpa using c10))
          (try (have c10b3 : ¬ (t260 = t262) := by simpa using c10))
          clear c10
          have H' := Aside0.mk H
          clear H
          go_wp2
          go_meet
          case rel => exact ⟨_, (true), (by first | rfl | (simp; done) | (simp [*]; done)), H', ⟨by first | omega | exact Nat.le_refl _⟩, ⟨by repeat (first | (with_reducible first | exact HB.out | apply below_alloc | apply pw_below_drewN | apply below_drew1) | exact HB.out)⟩⟩
        · rw [if_neg c10] at H
          have c10b0 : (t260 != t262) = false := by simpa using c10
          (try (have c10b1 : decide (t260 = t262) = true := by simpa using c10))
          (try (have c10b2 : (t260 == t262) = true := by simpa using c10))
          clear c10
          replace H := Option.bind_eq_some_iff.mp H
          obtain ⟨t263, A110, H⟩ := H
          replace H : (if (t260 != t263) = true then (laws_FnSounds.j0 k l0 t258 t261 true) else ((impl_IsSound.f t258).bind fun t264 => ((spec_IsSound.f k t258).bind fun t265 => (laws_FnSounds.j0 k l0 t258 t261 (t264 != t265))))) = some r := H
          have A11 := Aside0.mk A110
          clear A110
          by_cases c12 : (t260 != t263) = true
          · rw [if_pos c12] at H
            have c12b0 : (t260 != t263) = true := c12
            (try (have c12b1 : decide (t260 = t263) = false := by simpa using c12))
            (try (have c12b2 : (t260 == t263) = false := by simpa using c12))
            (try (have c12b3 : ¬ (t260 = t263) := by simpa using c12))
            clear c12
            have H' := Aside0.mk H
            clear H
            go_wp2_with (first | (go_at_call 42; (with_reducible refine (impl_IsObstruent.calls t258 t263 _ A11.out).mono ?_); rintro e w' ⟨rfl, ⟨nd, rfl⟩⟩))
            go_meet
            case rel => exact ⟨_, (true), (by first | rfl | (simp; done) | (simp [*]; done)), H', ⟨by first | omega | exact Nat.le_refl _⟩, ⟨by repeat (first | (with_reducible first | exact HB.out | apply below_alloc | apply pw_below_drewN | apply below_drew1) | exact HB.out)⟩⟩
          · rw [if_neg c12] at H
            have c12b0 : (t260 != t263) = false := by simpa using c12
            (try (have c12b1 : decide (t260 = t263) = true := by simpa using c12))
            (try (have c12b2 : (t260 == t263) = true := by simpa using c12))
            clear c12
            replace H := Option.bind_eq_some_iff.mp H
            obtain ⟨t264, A130, H⟩ := H
            replace H : ((spec_IsSound.f k t258).bind fun t265 => (laws_FnSounds.j0 k l0 t258 t261 (t264 != t265))) = some r := H
            have A13 := Aside0.mk A130
            clear A130
            replace H := Option.bind_eq_some_iff.mp H
            obtain ⟨t265, A140, H⟩ := H
            replace H : (laws_FnSounds.j0 k l0 t258 t261 (t264 != t265)) = some r := H
            have A14 := Aside0.mk A140
            clear A140
            have H' := Aside0.mk H
            clear H
            go_wp2_with (first | (go_at_call 42; (with_reducible refine (impl_IsObstruent.calls t258 t263 _ A11.out).mono ?_); rintro e w' ⟨rfl, ⟨nd, rfl⟩⟩) | (go_at_call 43; (with_reducible refine (impl_IsSound.calls t258 t264 _ A13.out).mono ?_); rintro e w' ⟨rfl, ⟨nd, rfl⟩⟩) | (go_at_call 44; (with_reducible refine (spec_IsSound.calls k t258 t265 _ A14.out).mono ?_); rintro e w' ⟨rfl, ⟨nd, rfl⟩⟩))
            go_meet
            case rel => exact ⟨_, ((t264 != t265)), (by first | rfl | (simp; done) | (simp [*]; done)), H', ⟨by first | omega | exact Nat.le_refl _⟩, ⟨by repeat (first | (with_reducible first | exact HB.out | apply below_alloc | apply pw_below_drewN | apply below_drew1) | exact HB.out)⟩⟩
      · rw [if_neg c9] at H
        have c9b0 : (t259 == t261) = false := beq_eq_false_iff_ne.mpr c9
        have c9b1 : (t259 != t261) = true := bne_iff_ne.mpr c9
        (first | rw [c9b0] | (simp only [i64_w, i32_w]; rw [c9b0]) | skip)
        have H' := Aside0.mk H
        clear H
        go_wp2
        go_meet
        case rel => exact ⟨_, (true), (by first | rfl | (simp; done) | (simp [*]; done)), H', ⟨by first | omega | exact Nat.le_refl _⟩, ⟨by repeat (first | (with_reducible first | exact HB.out | apply below_alloc | apply pw_below_drewN | apply below_drew1) | exact HB.out)⟩⟩
    case rest =>
      clear HC7
      try clear c1
      try clear p2
      try clear c3
      try clear c4
      try clear c5
      try clear c9
      try clear c9b0
      try clear c9b1
      try clear c10
      try clear c10b0
      try clear c10b1
      try clear c10b2
      try clear c12
      try clear c12b0
      try clear c12b1
      try clear c12b2
      obtain ⟨kq, x51_6, rfl, HA, HJ6, HB⟩ := hcut
      cases kq with
      | zero => exact absurd HA.out (by simp [laws_FnSounds.j0])
      | succ kj6 =>
        have H := HA.out
        clear HA
        simp only [laws_FnSounds.j0] at H
        by_cases c15 : x51_6 = true
        · subst c15
          have H1 : (some false) = some r := by rw [if_pos rfl] at H; exact H
          clear H
          have H := H1
          clear H1
          obtain rfl := Option.some.inj H
          go_wp2
          go_ret
          exact ⟨by first | rfl | (simp [errW_none, errW_some] <;> rfl) | (simp [*, errW_none, errW_some] <;> rfl), by repeat (first | (with_reducible first | exact HB.out | apply below_alloc | apply pw_below_drewN | apply below_drew1) | exact HB.out)⟩
        · replace c15 := Bool.eq_false_iff.mpr c15
          subst c15
          have H1 : ((impl_SwapVoice.f t261).bind fun bt266 => (if bt266.1 = t258 then ((spec_DrawNaturalClass.f kj6 l0).bind fun t268 => ((impl_NaturalClass.f kj6 t268).bind fun t269 => ((spec_NaturalClass.f kj6 t268).bind fun t270 => (if t269.toList = t270.toList then (if t269.toList = ([] : List UInt8) then ((impl_SharedFeatures.f kj6 t268).bind fun t271 => ((spec_SharedFeatures.f kj6 t268).bind fun t274 => ((laws_sameInts.f kj6 t271 t274).bind fun t277 => (laws_FnSounds.j1 kj6 l0 (!t277))))) else ((impl_NaturalClass.f kj6 t269).bind fun t278 => (if t278.toList = t269.toList then ((impl_IsNaturalClass.f kj6 t269).bind fun t279 => (if t279 = true then ((impl_SharedFeatures.f kj6 t268).bind fun t280 => ((spec_SharedFeatures.f kj6 t268).bind fun t283 => ((laws_sameInts.f kj6 t280 t283).bind fun t286 => (laws_FnSounds.j1 kj6 l0 (!t286))))) else (laws_FnSounds.j1 kj6 l0 true))) else (laws_FnSounds.j1 kj6 l0 true)))) else (laws_FnSounds.j1 kj6 l0 true))))) else (some false))) = some r := by rw [if_neg (show ¬ (false = true) by decide)] at H; exact H
          clear H
          have H := H1
          clear H1
          replace H := Option.bind_eq_some_iff.mp H
          obtain ⟨⟨t266, t267⟩, A160, H⟩ := H
          replace H : (if t266 = t258 then ((spec_DrawNaturalClass.f kj6 l0).bind fun t268 => ((impl_NaturalClass.f kj6 t268).bind fun t269 => ((spec_NaturalClass.f kj6 t268).bind fun t270 => (if t269.toList = t270.toList then (if t269.toList = ([] : List UInt8) then ((impl_SharedFeatures.f kj6 t268).bind fun t271 => ((spec_SharedFeatures.f kj6 t268).bind fun t274 => ((laws_sameInts.f kj6 t271 t274).bind fun t277 => (laws_FnSounds.j1 kj6 l0 (!t277))))) else ((impl_NaturalClass.f kj6 t269).bind fun t278 => (if t278.toList = t269.toList then ((impl_IsNaturalClass.f kj6 t269).bind fun t279 => (if t279 = true then ((impl_SharedFeatures.f kj6 t268).bind fun t280 => ((spec_SharedFeatures.f kj6 t268).bind fun t283 => ((laws_sameInts.f kj6 t280 t283).bind fun t286 => (laws_FnSounds.j1 kj6 l0 (!t286))))) else (laws_FnSounds.j1 kj6 l0 true))) else (laws_FnSounds.j1 kj6 l0 true)))) else (laws_FnSounds.j1 kj6 l0 true))))) else (some false)) = some r := H
          have A16 := Aside0.mk A160
          clear A160
          by_cases c17 : t266 = t258
          · rw [if_pos c17] at H
            have c17b0 : (t266 == t258) = true := beq_iff_eq.mpr c17
            have c17b1 : (t266 != t258) = false := bne_eq_false_iff_eq.mpr c17
            clear c17
            replace H := Option.bind_eq_some_iff.mp H
            obtain ⟨t268, A180, H⟩ := H
            replace H : ((impl_NaturalClass.f kj6 t268).bind fun t269 => ((spec_NaturalClass.f kj6 t268).bind fun t270 => (if t269.toList = t270.toList then (if t269.toList = ([] : List UInt8) then ((impl_SharedFeatures.f kj6 t268).bind fun t271 => ((spec_SharedFeatures.f kj6 t268).bind fun t274 => ((laws_sameInts.f kj6 t271 t274).bind fun t277 => (laws_FnSounds.j1 kj6 l0 (!t277))))) else ((impl_NaturalClass.f kj6 t269).bind fun t278 => (if t278.toList = t269.toList then ((impl_IsNaturalClass.f kj6 t269).bind fun t279 => (if t279 = true then ((impl_SharedFeatures.f kj6 t268).bind fun t280 => ((spec_SharedFeatures.f kj6 t268).bind fun t283 => ((laws_sameInts.f kj6 t280 t283).bind fun t286 => (laws_FnSounds.j1 kj6 l0 (!t286))))) else (laws_FnSounds.j1 kj6 l0 true))) else (laws_FnSounds.j1 kj6 l0 true)))) else (laws_FnSounds.j1 kj6 l0 true)))) = some r := H
            have A18 := Aside0.mk A180
            clear A180
            replace H := Option.bind_eq_some_iff.mp H
            obtain ⟨t269, A190, H⟩ := H
            replace H : ((spec_NaturalClass.f kj6 t268).bind fun t270 => (if t269.toList = t270.toList then (if t269.toList = ([] : List UInt8) then ((impl_SharedFeatures.f kj6 t268).bind fun t271 => ((spec_SharedFeatures.f kj6 t268).bind fun t274 => ((laws_sameInts.f kj6 t271 t274).bind fun t277 => (laws_FnSounds.j1 kj6 l0 (!t277))))) else ((impl_NaturalClass.f kj6 t269).bind fun t278 => (if t278.toList = t269.toList then ((impl_IsNaturalClass.f kj6 t269).bind fun t279 => (if t279 = true then ((impl_SharedFeatures.f kj6 t268).bind fun t280 => ((spec_SharedFeatures.f kj6 t268).bind fun t283 => ((laws_sameInts.f kj6 t280 t283).bind fun t286 => (laws_FnSounds.j1 kj6 l0 (!t286))))) else (laws_FnSounds.j1 kj6 l0 true))) else (laws_FnSounds.j1 kj6 l0 true)))) else (laws_FnSounds.j1 kj6 l0 true))) = some r := H
            have A19 := Aside0.mk A190
            clear A190
            have HC20 := Aside0.mk H
            clear H
            go_upto_region 13 with (first | ((with_reducible refine gate_callee (f := 40) rfl ?_); refine goesL_ (some 54) rfl rfl Try.func40 (by kernel_rfl) rfl #[.int .u8 t261] rfl (by (try simp only [List.map_toArray, List.map_cons, List.map_nil]); first | done | rfl | (simp only [List.length_drop, List.length_take]; rfl)) ?_; (with_reducible refine (impl_SwapVoice.calls t261 t266 t267 _ A16.out).mono ?_); rintro e w' ⟨rfl, ⟨nd, rfl⟩⟩; refine ⟨_, rfl, ?_⟩) | ((with_reducible refine gate_callee (f := 45) rfl ?_); refine goesL_ (some 61) rfl rfl Try.func45 (by kernel_rfl) rfl #[.slice A0 l0.length c0] rfl (by (try simp only [List.map_toArray, List.map_cons, List.map_nil]); first | done | rfl | (simp only [List.length_drop, List.length_take]; rfl)) ?_; (with_reducible refine (spec_DrawNaturalClass.calls kj6 _ _ l0 t268 _ ?side1 ?side2 A18.out).mono ?_); (case side1 => repeat (first | exact (Kd.C_below HR0.out (by repeat (first | (with_reducible first | exact HB.out | apply below_alloc | apply pw_below_drewN | apply below_drew1) | exact HB.out))) | (with_reducible refine Kd.C_alloc ?_ _) | (with_reducible refine Kd.C_drewN ?_ _) | (with_reducible refine Kd.C_drew ?_))); (case side2 => exact HC0.out); rintro e w21 ⟨rfl, hb⟩; refine ⟨_, rfl, ?_⟩; have n0_ := Aside0.mk (below_step (by repeat (first | (with_reducible first | exact HB.out | apply below_alloc | apply pw_below_drewN | apply below_drew1) | exact HB.out)) hb); clear HB; have HB := n0_; clear n0_; (try clear hb); (try clear hb2); (try clear hk); (try clear hi)) | ((with_reducible refine gate_callee (f := 46) rfl ?_); refine goesL_ (some 63) rfl rfl Try.func46 (by kernel_rfl) rfl #[.string t268] rfl (by (try simp only [List.map_toArray, List.map_cons, List.map_nil]); first | done | rfl | (simp only [List.length_drop, List.length_take]; rfl)) ?_; (with_reducible refine (impl_NaturalClass.calls kj6 t268 t269 _ A19.out).mono ?_); rintro e w22 ⟨rfl, hb⟩; refine ⟨_, rfl, ?_⟩; have n0_ := Aside0.mk (below_step (by repeat (first | (with_reducible first | exact HB.out | apply below_alloc | apply pw_below_drewN | apply below_drew1) | exact HB.out)) hb); clear HB; have HB := n0_; clear n0_; (try clear hb); (try clear hb2); (try clear hk); (try clear hi)))
            (try simp only [Act.put, List.setIfInBounds_toArray, List.set_cons_zero, List.set_cons_succ])
            go_cut [90] (fun v90 wc => ∃ (kq : Nat) (x90_19 : Bool), v90 = .bool x90_19 ∧ Aside0 (laws_FnSounds.j1 kq l0 x90_19 = some r) ∧ Aside0 (kq ≤ kj6) ∧ Aside0 (Below w.heap.size w wc))
            case first =>
              have H := HC20.out
              clear HC20
              replace H := Option.bind_eq_some_iff.mp H
              obtain ⟨t270, A230, H⟩ := H
              replace H : (if t269.toList = t270.toList then (if t269.toList = ([] : List UInt8) then ((impl_SharedFeatures.f kj6 t268).bind fun t271 => ((spec_SharedFeatures.f kj6 t268).bind fun t274 => ((laws_sameInts.f kj6 t271 t274).bind fun t277 => (laws_FnSounds.j1 kj6 l0 (!t277))))) else ((impl_NaturalClass.f kj6 t269).bind fun t278 => (if t278.toList = t269.toList then ((impl_IsNaturalClass.f kj6 t269).bind fun t279 => (if t279 = true then ((impl_SharedFeatures.f kj6 t268).bind fun t280 => ((spec_SharedFeatures.f kj6 t268).bind fun t283 => ((laws_sameInts.f kj6 t280 t283).bind fun t286 => (laws_FnSounds.j1 kj6 l0 (!t286))))) else (laws_FnSounds.j1 kj6 l0 true))) else (laws_FnSounds.j1 kj6 l0 true)))) else (laws_FnSounds.j1 kj6 l0 true)) = some r := H
              have A23 := Aside0.mk A230
              clear A230
              by_cases c24 : t269.toList = t270.toList
              · rw [if_pos c24] at H
                have c24b0 : (t269.toList == t270.toList) = true := beq_iff_eq.mpr c24
                have c24b1 : (t269.toList != t270.toList) = false := bne_eq_false_iff_eq.mpr c24
                clear c24
                (first | rw [c24b0] | (simp only [i64_w, i32_w]; rw [c24b0]) | skip)
                by_cases c25 : t269.toList = ([] : List UInt8)
                · rw [if_pos c25] at H
                  have c25b0 : (t269.toList == ([] : List UInt8)) = true := beq_iff_eq.mpr c25
                  have c25b1 : (t269.toList != ([] : List UInt8)) = false := bne_eq_false_iff_eq.mpr c25
                  clear c25
                  replace H := Option.bind_eq_some_iff.mp H
                  obtain ⟨t271, A260, H⟩ := H
                  replace H : ((spec_SharedFeatures.f kj6 t268).bind fun t274 => ((laws_sameInts.f kj6 t271 t274).bind fun t277 => (laws_FnSounds.j1 kj6 l0 (!t277)))) = some r := H
                  have A26 := Aside0.mk A260
                  clear A260
                  replace H := Option.bind_eq_some_iff.mp H
                  obtain ⟨t274, A270, H⟩ := H
                  replace H : ((laws_sameInts.f kj6 t271 t274).bind fun t277 => (laws_FnSounds.j1 kj6 l0 (!t277))) = some r := H
                  have A27 := Aside0.mk A270
                  clear A270
                  replace H := Option.bind_eq_some_iff.mp H
                  obtain ⟨t277, A280, H⟩ := H
                  replace H : (laws_FnSounds.j1 kj6 l0 (!t277)) = some r := H
                  have A28 := Aside0.mk A280
                  clear A280
                  have H' := Aside0.mk H
                  clear H
                  go_wp2_with (first | ((with_reducible refine gate_callee (f := 47) rfl ?_); refine goesL_ (some 66) rfl rfl Try.func47 (by kernel_rfl) rfl #[.string t268] rfl (by (try simp only [List.map_toArray, List.map_cons, List.map_nil]); first | done | rfl | (simp only [List.length_drop, List.length_take]; rfl)) ?_; (with_reducible refine (spec_NaturalClass.calls kj6 t268 t270 _ A23.out).mono ?_); rintro e w29 ⟨rfl, hb⟩; refine ⟨_, rfl, ?_⟩; have n0_ := Aside0.mk (below_step (by repeat (first | (with_reducible first | exact HB.out | apply below_alloc | apply pw_below_drewN | apply below_drew1) | exact HB.out)) hb); clear HB; have HB := n0_; clear n0_; (try clear hb); (try clear hb2); (try clear hk); (try clear hi)) | (go_at_call 50; (with_reducible refine (impl_SharedFeatures.calls kj6 t268 t271 _ A26.out).mono ?_); rintro e w30 ⟨v272, rfl, ho0, hb⟩; have n0_ := Aside0.mk (Kd.R_lower ho0 (below_size (by repeat (first | (with_reducible first | exact HB.out | apply below_alloc | apply pw_below_drewN | apply below_drew1) | exact HB.out)))); have n1_ := Aside0.mk (below_step (by repeat (first | (with_reducible first | exact HB.out | apply below_alloc | apply pw_below_drewN | apply below_drew1) | exact HB.out)) hb); clear HB; have HO273 := n0_; have HB := n1_; clear n0_ n1_; (try clear hb); (try clear hb2); (try clear hk); (try clear hi); (try clear ho0)) | (go_at_call 51; (with_reducible refine (spec_SharedFeatures.calls kj6 t268 t274 _ A27.out).mono ?_); rintro e w31 ⟨v275, rfl, ho0, hb⟩; have n0_ := Aside0.mk (Kd.R_elder' (by (with_reducible repeat (first | apply Kd.R_alloc | apply Kd.R_drewN | apply Kd.R_drew)); exact HO273.out) (Kd.R_base ho0) hb); have n1_ := Aside0.mk (Kd.R_lower (Kd.R_new' ho0 (Kd.R_lt (by (with_reducible repeat (first | apply Kd.R_alloc | apply Kd.R_drewN | apply Kd.R_drew)); exact HO273.out))) (below_size (by repeat (first | (with_reducible first | exact HB.out | apply below_alloc | apply pw_below_drewN | apply below_drew1) | exact HB.out)))); have n2_ := Aside0.mk (below_step (by repeat (first | (with_reducible first | exact HB.out | apply below_alloc | apply pw_below_drewN | apply below_drew1) | exact HB.out)) hb); clear HO273; clear HB; have HO273 := n0_; have HO276 := n1_; have HB := n2_; clear n0_ n1_ n2_; (try clear hb); (try clear hb2); (try clear hk); (try clear hi); (try clear ho0); obtain ⟨Ao32, co32, eo32⟩ := Kd.R_slice HO273.out; subst eo32; obtain ⟨Ao33, co33, eo33⟩ := Kd.R_slice HO276.out; subst eo33) | (go_at_call 49; (with_reducible refine (laws_sameInts.calls kj6 _ _ t271 _ _ t274 t277 _ ?side1 ?side2 ?side3 ?side4 A28.out).mono ?_); (case side1 => repeat (first | exact (Kd.R_reads' HO273.out).2.2 | (with_reducible refine Kd.C_alloc ?_ _) | (with_reducible refine Kd.C_drewN ?_ _) | (with_reducible refine Kd.C_drew ?_))); (case side2 => exact (Kd.R_reads' HO273.out).2.1); (case side3 => repeat (first | exact (Kd.R_reads' HO276.out).2.2 | (with_reducible refine Kd.C_alloc ?_ _) | (with_reducible refine Kd.C_drewN ?_ _) | (with_reducible refine Kd.C_drew ?_))); (case side4 => exact (Kd.R_reads' HO276.out).2.1); rintro e w' ⟨rfl, ⟨nd, rfl⟩⟩))
                  go_meet
                  case rel => exact ⟨_, (!t277), (by first | rfl | (simp; done) | (simp [*]; done)), H', ⟨by have := HJ6.out; first | omega | exact Nat.le_refl _⟩, ⟨by repeat (first | (with_reducible first | exact HB.out | apply below_alloc | apply pw_below_drewN | apply below_drew1) | exact HB.out)⟩⟩
                · rw [if_neg c25] at H
                  have c25b0 : (t269.toList == ([] : List UInt8)) = false := beq_eq_false_iff_ne.mpr c25
                  have c25b1 : (t269.toList != ([] : List UInt8)) = true := bne_iff_ne.mpr c25
                  replace H := Option.bind_eq_some_iff.mp H
                  obtain ⟨t278, A340, H⟩ := H
                  replace H : (if t278.toList = t269.toList then ((impl_IsNaturalClass.f kj6 t269).bind fun t279 => (if t279 = true then ((impl_SharedFeatures.f kj6 t268).bind fun t280 => ((spec_SharedFeatures.f kj6 t268).bind fun t283 => ((laws_sameInts.f kj6 t280 t283).bind fun t286 => (laws_FnSounds.j1 kj6 l0 (!t286))))) else (laws_FnSounds.j1 kj6 l0 true))) else (laws_FnSounds.j1 kj6 l0 true)) = some r := H
                  have A34 := Aside0.mk A340
                  clear A340
                  by_cases c35 : t278.toList = t269.toList
                  · rw [if_pos c35] at H
                    have c35b0 : (t278.toList == t269.toList) = true := beq_iff_eq.mpr c35
                    have c35b1 : (t278.toList != t269.toList) = false := bne_eq_false_iff_eq.mpr c35
                    clear c35
                    replace H := Option.bind_eq_some_iff.mp H
                    obtain ⟨t279, A360, H⟩ := H
                    replace H : (if t279 = true then ((impl_SharedFeatures.f kj6 t268).bind fun t280 => ((spec_SharedFeatures.f kj6 t268).bind fun t283 => ((laws_sameInts.f kj6 t280 t283).bind fun t286 => (laws_FnSounds.j1 kj6 l0 (!t286))))) else (laws_FnSounds.j1 kj6 l0 true)) = some r := H
                    have A36 := Aside0.mk A360
                    clear A360
                    by_cases c37 : t279 = true
                    · subst c37
                      have H1 : ((impl_SharedFeatures.f kj6 t268).bind fun t280 => ((spec_SharedFeatures.f kj6 t268).bind fun t283 => ((laws_sameInts.f kj6 t280 t283).bind fun t286 => (laws_FnSounds.j1 kj6 l0 (!t286))))) = some r := by rw [if_pos rfl] at H; exact H
                      clear H
                      have H := H1
                      clear H1
                      replace H := Option.bind_eq_some_iff.mp H
                      obtain ⟨t280, A380, H⟩ := H
                      replace H : ((spec_SharedFeatures.f kj6 t268).bind fun t283 => ((laws_sameInts.f kj6 t280 t283).bind fun t286 => (laws_FnSounds.j1 kj6 l0 (!t286)))) = some r := H
                      have A38 := Aside0.mk A380
                      clear A380
                      replace H := Option.bind_eq_some_iff.mp H
                      obtain ⟨t283, A390, H⟩ := H
                      replace H : ((laws_sameInts.f kj6 t280 t283).bind fun t286 => (laws_FnSounds.j1 kj6 l0 (!t286))) = some r := H
                      have A39 := Aside0.mk A390
                      clear A390
                      replace H := Option.bind_eq_some_iff.mp H
                      obtain ⟨t286, A400, H⟩ := H
                      replace H : (laws_FnSounds.j1 kj6 l0 (!t286)) = some r := H
                      have A40 := Aside0.mk A400
                      clear A400
                      have H' := Aside0.mk H
                      clear H
                      go_wp2_with (first | ((with_reducible refine gate_callee (f := 47) rfl ?_); refine goesL_ (some 66) rfl rfl Try.func47 (by kernel_rfl) rfl #[.string t268] rfl (by (try simp only [List.map_toArray, List.map_cons, List.map_nil]); first | done | rfl | (simp only [List.length_drop, List.length_take]; rfl)) ?_; (with_reducible refine (spec_NaturalClass.calls kj6 t268 t270 _ A23.out).mono ?_); rintro e w41 ⟨rfl, hb⟩; refine ⟨_, rfl, ?_⟩; have n0_ := Aside0.mk (below_step (by repeat (first | (with_reducible first | exact HB.out | apply below_alloc | apply pw_below_drewN | apply below_drew1) | exact HB.out)) hb); clear HB; have HB := n0_; clear n0_; (try clear hb); (try clear hb2); (try clear hk); (try clear hi)) | (go_at_call 46; (with_reducible refine (impl_NaturalClass.calls kj6 t269 t278 _ A34.out).mono ?_); rintro e w42 ⟨rfl, hb⟩; have n0_ := Aside0.mk (below_step (by repeat (first | (with_reducible first | exact HB.out | apply below_alloc | apply pw_below_drewN | apply below_drew1) | exact HB.out)) hb); clear HB; have HB := n0_; clear n0_; (try clear hb); (try clear hb2); (try clear hk); (try clear hi)) | (go_at_call 48; (with_reducible refine (impl_IsNaturalClass.calls kj6 t269 true _ A36.out).mono ?_); rintro e w43 ⟨rfl, hb⟩; have n0_ := Aside0.mk (below_step (by repeat (first | (with_reducible first | exact HB.out | apply below_alloc | apply pw_below_drewN | apply below_drew1) | exact HB.out)) hb); clear HB; have HB := n0_; clear n0_; (try clear hb); (try clear hb2); (try clear hk); (try clear hi)) | (go_at_call 50; (with_reducible refine (impl_SharedFeatures.calls kj6 t268 t280 _ A38.out).mono ?_); rintro e w44 ⟨v281, rfl, ho0, hb⟩; have n0_ := Aside0.mk (Kd.R_lower ho0 (below_size (by repeat (first | (with_reducible first | exact HB.out | apply below_alloc | apply pw_below_drewN | apply below_drew1) | exact HB.out)))); have n1_ := Aside0.mk (below_step (by repeat (first | (with_reducible first | exact HB.out | apply below_alloc | apply pw_below_drewN | apply below_drew1) | exact HB.out)) hb); clear HB; have HO282 := n0_; have HB := n1_; clear n0_ n1_; (try clear hb); (try clear hb2); (try clear hk); (try clear hi); (try clear ho0)) | (go_at_call 51; (with_reducible refine (spec_SharedFeatures.calls kj6 t268 t283 _ A39.out).mono ?_); rintro e w45 ⟨v284, rfl, ho0, hb⟩; have n0_ := Aside0.mk (Kd.R_elder' (by (with_reducible repeat (first | apply Kd.R_alloc | apply Kd.R_drewN | apply Kd.R_drew)); exact HO282.out) (Kd.R_base ho0) hb); have n1_ := Aside0.mk (Kd.R_lower (Kd.R_new' ho0 (Kd.R_lt (by (with_reducible repeat (first | apply Kd.R_alloc | apply Kd.R_drewN | apply Kd.R_drew)); exact HO282.out))) (below_size (by repeat (first | (with_reducible first | exact HB.out | apply below_alloc | apply pw_below_drewN | apply below_drew1) | exact HB.out)))); have n2_ := Aside0.mk (below_step (by repeat (first | (with_reducible first | exact HB.out | apply below_alloc | apply pw_below_drewN | apply below_drew1) | exact HB.out)) hb); clear HO282; clear HB; have HO282 := n0_; have HO285 := n1_; have HB := n2_; clear n0_ n1_ n2_; (try clear hb); (try clear hb2); (try clear hk); (try clear hi); (try clear ho0); obtain ⟨Ao46, co46, eo46⟩ := Kd.R_slice HO282.out; subst eo46; obtain ⟨Ao47, co47, eo47⟩ := Kd.R_slice HO285.out; subst eo47) | (go_at_call 49; (with_reducible refine (laws_sameInts.calls kj6 _ _ t280 _ _ t283 t286 _ ?side1 ?side2 ?side3 ?side4 A40.out).mono ?_); (case side1 => repeat (first | exact (Kd.R_reads' HO282.out).2.2 | (with_reducible refine Kd.C_alloc ?_ _) | (with_reducible refine Kd.C_drewN ?_ _) | (with_reducible refine Kd.C_drew ?_))); (case side2 => exact (Kd.R_reads' HO282.out).2.1); (case side3 => repeat (first | exact (Kd.R_reads' HO285.out).2.2 | (with_reducible refine Kd.C_alloc ?_ _) | (with_reducible refine Kd.C_drewN ?_ _) | (with_reducible refine Kd.C_drew ?_))); (case side4 => exact (Kd.R_reads' HO285.out).2.1); rintro e w' ⟨rfl, ⟨nd, rfl⟩⟩))
                      go_meet
                      case rel => exact ⟨_, (!t286), (by first | rfl | (simp; done) | (simp [*]; done)), H', ⟨by have := HJ6.out; first | omega | exact Nat.le_refl _⟩, ⟨by repeat (first | (with_reducible first | exact HB.out | apply below_alloc | apply pw_below_drewN | apply below_drew1) | exact HB.out)⟩⟩
                    · replace c37 := Bool.eq_false_iff.mpr c37
                      subst c37
                      have H1 : (laws_FnSounds.j1 kj6 l0 true) = some r := by rw [if_neg (show ¬ (false = true) by decide)] at H; exact H
                      clear H
                      have H := H1
                      clear H1
                      have H' := Aside0.mk H
                      clear H
                      go_wp2_with (first | ((with_reducible refine gate_callee (f := 47) rfl ?_); refine goesL_ (some 66) rfl rfl Try.func47 (by kernel_rfl) rfl #[.string t268] rfl (by (try simp only [List.map_toArray, List.map_cons, List.map_nil]); first | done | rfl | (simp only [List.length_drop, List.length_take]; rfl)) ?_; (with_reducible refine (spec_NaturalClass.calls kj6 t268 t270 _ A23.out).mono ?_); rintro e w48 ⟨rfl, hb⟩; refine ⟨_, rfl, ?_⟩; have n0_ := Aside0.mk (below_step (by repeat (first | (with_reducible first | exact HB.out | apply below_alloc | apply pw_below_drewN | apply below_drew1) | exact HB.out)) hb); clear HB; have HB := n0_; clear n0_; (try clear hb); (try clear hb2); (try clear hk); (try clear hi)) | (go_at_call 46; (with_reducible refine (impl_NaturalClass.calls kj6 t269 t278 _ A34.out).mono ?_); rintro e w49 ⟨rfl, hb⟩; have n0_ := Aside0.mk (below_step (by repeat (first | (with_reducible first | exact HB.out | apply below_alloc | apply pw_below_drewN | apply below_drew1) | exact HB.out)) hb); clear HB; have HB := n0_; clear n0_; (try clear hb); (try clear hb2); (try clear hk); (try clear hi)) | (go_at_call 48; (with_reducible refine (impl_IsNaturalClass.calls kj6 t269 false _ A36.out).mono ?_); rintro e w50 ⟨rfl, hb⟩; have n0_ := Aside0.mk (below_step (by repeat (first | (with_reducible first | exact HB.out | apply below_alloc | apply pw_below_drewN | apply below_drew1) | exact HB.out)) hb); clear HB; have HB := n0_; clear n0_; (try clear hb); (try clear hb2); (try clear hk); (try clear hi)))
                      go_meet
                      case rel => exact ⟨_, (true), (by first | rfl | (simp; done) | (simp [*]; done)), H', ⟨by have := HJ6.out; first | omega | exact Nat.le_refl _⟩, ⟨by repeat (first | (with_reducible first | exact HB.out | apply below_alloc | apply pw_below_drewN | apply below_drew1) | exact HB.out)⟩⟩
                  · rw [if_neg c35] at H
                    have c35b0 : (t278.toList == t269.toList) = false := beq_eq_false_iff_ne.mpr c35
                    have c35b1 : (t278.toList != t269.toList) = true := bne_iff_ne.mpr c35
                    have H' := Aside0.mk H
                    clear H
                    go_wp2_with (first | ((with_reducible refine gate_callee (f := 47) rfl ?_); refine goesL_ (some 66) rfl rfl Try.func47 (by kernel_rfl) rfl #[.string t268] rfl (by (try simp only [List.map_toArray, List.map_cons, List.map_nil]); first | done | rfl | (simp only [List.length_drop, List.length_take]; rfl)) ?_; (with_reducible refine (spec_NaturalClass.calls kj6 t268 t270 _ A23.out).mono ?_); rintro e w51 ⟨rfl, hb⟩; refine ⟨_, rfl, ?_⟩; have n0_ := Aside0.mk (below_step (by repeat (first | (with_reducible first | exact HB.out | apply below_alloc | apply pw_below_drewN | apply below_drew1) | exact HB.out)) hb); clear HB; have HB := n0_; clear n0_; (try clear hb); (try clear hb2); (try clear hk); (try clear hi)) | (go_at_call 46; (with_reducible refine (impl_NaturalClass.calls kj6 t269 t278 _ A34.out).mono ?_); rintro e w52 ⟨rfl, hb⟩; have n0_ := Aside0.mk (below_step (by repeat (first | (with_reducible first | exact HB.out | apply below_alloc | apply pw_below_drewN | apply below_drew1) | exact HB.out)) hb); clear HB; have HB := n0_; clear n0_; (try clear hb); (try clear hb2); (try clear hk); (try clear hi)))
                    go_meet
                    case rel => exact ⟨_, (true), (by first | rfl | (simp; done) | (simp [*]; done)), H', ⟨by have := HJ6.out; first | omega | exact Nat.le_refl _⟩, ⟨by repeat (first | (with_reducible first | exact HB.out | apply below_alloc | apply pw_below_drewN | apply below_drew1) | exact HB.out)⟩⟩
              · rw [if_neg c24] at H
                have c24b0 : (t269.toList == t270.toList) = false := beq_eq_false_iff_ne.mpr c24
                have c24b1 : (t269.toList != t270.toList) = true := bne_iff_ne.mpr c24
                (first | rw [c24b0] | (simp only [i64_w, i32_w]; rw [c24b0]) | skip)
                have H' := Aside0.mk H
                clear H
                go_wp2_with (first | ((with_reducible refine gate_callee (f := 47) rfl ?_); refine goesL_ (some 66) rfl rfl Try.func47 (by kernel_rfl) rfl #[.string t268] rfl (by (try simp only [List.map_toArray, List.map_cons, List.map_nil]); first | done | rfl | (simp only [List.length_drop, List.length_take]; rfl)) ?_; (with_reducible refine (spec_NaturalClass.calls kj6 t268 t270 _ A23.out).mono ?_); rintro e w53 ⟨rfl, hb⟩; refine ⟨_, rfl, ?_⟩; have n0_ := Aside0.mk (below_step (by repeat (first | (with_reducible first | exact HB.out | apply below_alloc | apply pw_below_drewN | apply below_drew1) | exact HB.out)) hb); clear HB; have HB := n0_; clear n0_; (try clear hb); (try clear hb2); (try clear hk); (try clear hi)))
                go_meet
                case rel => exact ⟨_, (true), (by first | rfl | (simp; done) | (simp [*]; done)), H', ⟨by have := HJ6.out; first | omega | exact Nat.le_refl _⟩, ⟨by repeat (first | (with_reducible first | exact HB.out | apply below_alloc | apply pw_below_drewN | apply below_drew1) | exact HB.out)⟩⟩
            case rest =>
              clear HC20
              try clear c1
              try clear c2
              try clear p2
              try clear c3
              try clear c4
              try clear c5
              try clear c9
              try clear c9b0
              try clear c9b1
              try clear c10
              try clear c10b0
              try clear c10b1
              try clear c10b2
              try clear c12
              try clear c12b0
              try clear c12b1
              try clear c12b2
              try clear c15
              try clear c17
              try clear c17b0
              try clear c17b1
              try clear c24
              try clear c24b0
              try clear c24b1
              try clear c25
              try clear c25b0
              try clear c25b1
              try clear c35
              try clear c35b0
              try clear c35b1
              try clear c37
              try clear c39
              try clear c40
              try clear c41
              try clear c45
              try clear c46
              try clear c47
              try clear p2
              obtain ⟨kq, x90_19, rfl, HA, HJ19, HB⟩ := hcut
              cases kq with
              | zero => exact absurd HA.out (by simp [laws_FnSounds.j1])
              | succ kj19 =>
                have H := HA.out
                clear HA
                simp only [laws_FnSounds.j1] at H
                by_cases c54 : x90_19 = true
                · subst c54
                  have H1 : (some false) = some r := by rw [if_pos rfl] at H; exact H
                  clear H
                  have H := H1
                  clear H1
                  obtain rfl := Option.some.inj H
                  go_wp2
                  go_ret
                  exact ⟨by first | rfl | (simp [errW_none, errW_some] <;> rfl) | (simp [*, errW_none, errW_some] <;> rfl), by repeat (first | (with_reducible first | exact HB.out | apply below_alloc | apply pw_below_drewN | apply below_drew1) | exact HB.out)⟩
                · replace c54 := Bool.eq_false_iff.mpr c54
                  subst c54
                  have H1 : ((spec_DrawHasFeature.f kj19 l0).bind fun bt287 => ((spec_DrawSoundsWith.f kj19 l0).bind fun bt289 => ((spec_DrawIsNaturalClass.f kj19 l0).bind fun t291 => ((impl_HasFeature.f bt287.1 bt287.2).bind fun t292 => ((spec_HasFeature.f bt287.1 bt287.2).bind fun t293 => (if (t292 == t293) = true then ((impl_SoundsWith.f kj19 bt289.1 bt289.2).bind fun t294 => ((spec_SoundsWith.f kj19 bt289.1 bt289.2).bind fun t295 => (if t294.toList = t295.toList then ((impl_IsNaturalClass.f kj19 t291).bind fun t296 => ((spec_IsNaturalClass.f kj19 t291).bind fun t297 => (some (t296 == t297)))) else (some false)))) else (some false))))))) = some r := by rw [if_neg (show ¬ (false = true) by decide)] at H; exact H
                  clear H
                  have H := H1
                  clear H1
                  replace H := Option.bind_eq_some_iff.mp H
                  obtain ⟨⟨t287, t288⟩, A550, H⟩ := H
                  replace H : ((spec_DrawSoundsWith.f kj19 l0).bind fun bt289 => ((spec_DrawIsNaturalClass.f kj19 l0).bind fun t291 => ((impl_HasFeature.f t287 t288).bind fun t292 => ((spec_HasFeature.f t287 t288).bind fun t293 => (if (t292 == t293) = true then ((impl_SoundsWith.f kj19 bt289.1 bt289.2).bind fun t294 => ((spec_SoundsWith.f kj19 bt289.1 bt289.2).bind fun t295 => (if t294.toList = t295.toList then ((impl_IsNaturalClass.f kj19 t291).bind fun t296 => ((spec_IsNaturalClass.f kj19 t291).bind fun t297 => (some (t296 == t297)))) else (some false)))) else (some false)))))) = some r := H
                  have A55 := Aside0.mk A550
                  clear A550
                  replace H := Option.bind_eq_some_iff.mp H
                  obtain ⟨⟨t289, t290⟩, A560, H⟩ := H
                  replace H : ((spec_DrawIsNaturalClass.f kj19 l0).bind fun t291 => ((impl_HasFeature.f t287 t288).bind fun t292 => ((spec_HasFeature.f t287 t288).bind fun t293 => (if (t292 == t293) = true then ((impl_SoundsWith.f kj19 t289 t290).bind fun t294 => ((spec_SoundsWith.f kj19 t289 t290).bind fun t295 => (if t294.toList = t295.toList then ((impl_IsNaturalClass.f kj19 t291).bind fun t296 => ((spec_IsNaturalClass.f kj19 t291).bind fun t297 => (some (t296 == t297)))) else (some false)))) else (some false))))) = some r := H
                  have A56 := Aside0.mk A560
                  clear A560
                  replace H := Option.bind_eq_some_iff.mp H
                  obtain ⟨t291, A570, H⟩ := H
                  replace H : ((impl_HasFeature.f t287 t288).bind fun t292 => ((spec_HasFeature.f t287 t288).bind fun t293 => (if (t292 == t293) = true then ((impl_SoundsWith.f kj19 t289 t290).bind fun t294 => ((spec_SoundsWith.f kj19 t289 t290).bind fun t295 => (if t294.toList = t295.toList then ((impl_IsNaturalClass.f kj19 t291).bind fun t296 => ((spec_IsNaturalClass.f kj19 t291).bind fun t297 => (some (t296 == t297)))) else (some false)))) else (some false)))) = some r := H
                  have A57 := Aside0.mk A570
                  clear A570
                  replace H := Option.bind_eq_some_iff.mp H
                  obtain ⟨t292, A580, H⟩ := H
                  replace H : ((spec_HasFeature.f t287 t288).bind fun t293 => (if (t292 == t293) = true then ((impl_SoundsWith.f kj19 t289 t290).bind fun t294 => ((spec_SoundsWith.f kj19 t289 t290).bind fun t295 => (if t294.toList = t295.toList then ((impl_IsNaturalClass.f kj19 t291).bind fun t296 => ((spec_IsNaturalClass.f kj19 t291).bind fun t297 => (some (t296 == t297)))) else (some false)))) else (some false))) = some r := H
                  have A58 := Aside0.mk A580
                  clear A580
                  replace H := Option.bind_eq_some_iff.mp H
                  obtain ⟨t293, A590, H⟩ := H
                  replace H : (if (t292 == t293) = true then ((impl_SoundsWith.f kj19 t289 t290).bind fun t294 => ((spec_SoundsWith.f kj19 t289 t290).bind fun t295 => (if t294.toList = t295.toList then ((impl_IsNaturalClass.f kj19 t291).bind fun t296 => ((spec_IsNaturalClass.f kj19 t291).bind fun t297 => (some (t296 == t297)))) else (some false)))) else (some false)) = some r := H
                  have A59 := Aside0.mk A590
                  clear A590
                  by_cases c60 : (t292 == t293) = true
                  · rw [if_pos c60] at H
                    have c60b0 : (t292 == t293) = true := c60
                    (try (have c60b1 : decide (t292 = t293) = true := by simpa using c60))
                    (try (have c60b2 : (t292 == t293) = true := by simpa using c60))
                    clear c60
                    replace H := Option.bind_eq_some_iff.mp H
                    obtain ⟨t294, A610, H⟩ := H
                    replace H : ((spec_SoundsWith.f kj19 t289 t290).bind fun t295 => (if t294.toList = t295.toList then ((impl_IsNaturalClass.f kj19 t291).bind fun t296 => ((spec_IsNaturalClass.f kj19 t291).bind fun t297 => (some (t296 == t297)))) else (some false))) = some r := H
                    have A61 := Aside0.mk A610
                    clear A610
                    replace H := Option.bind_eq_some_iff.mp H
                    obtain ⟨t295, A620, H⟩ := H
                    replace H : (if t294.toList = t295.toList then ((impl_IsNaturalClass.f kj19 t291).bind fun t296 => ((spec_IsNaturalClass.f kj19 t291).bind fun t297 => (some (t296 == t297)))) else (some false)) = some r := H
                    have A62 := Aside0.mk A620
                    clear A620
                    by_cases c63 : t294.toList = t295.toList
                    · rw [if_pos c63] at H
                      have c63b0 : (t294.toList == t295.toList) = true := beq_iff_eq.mpr c63
                      have c63b1 : (t294.toList != t295.toList) = false := bne_eq_false_iff_eq.mpr c63
                      clear c63
                      replace H := Option.bind_eq_some_iff.mp H
                      obtain ⟨t296, A640, H⟩ := H
                      replace H : ((spec_IsNaturalClass.f kj19 t291).bind fun t297 => (some (t296 == t297))) = some r := H
                      have A64 := Aside0.mk A640
                      clear A640
                      replace H := Option.bind_eq_some_iff.mp H
                      obtain ⟨t297, A650, H⟩ := H
                      replace H : (some (t296 == t297)) = some r := H
                      have A65 := Aside0.mk A650
                      clear A650
                      obtain rfl := Option.some.inj H
                      go_wp2_with (first | ((with_reducible refine gate_callee (f := 52) rfl ?_); refine goesL_ (some 93) rfl rfl Try.func52 (by kernel_rfl) rfl #[.slice A0 l0.length c0] rfl (by (try simp only [List.map_toArray, List.map_cons, List.map_nil]); first | done | rfl | (simp only [List.length_drop, List.length_take]; rfl)) ?_; (with_reducible refine (spec_DrawHasFeature.calls kj19 _ _ l0 t287 t288 _ ?side1 ?side2 A55.out).mono ?_); (case side1 => repeat (first | exact (Kd.C_below HR0.out HB.out) | (with_reducible refine Kd.C_alloc ?_ _) | (with_reducible refine Kd.C_drewN ?_ _) | (with_reducible refine Kd.C_drew ?_))); (case side2 => exact HC0.out); rintro e w66 ⟨rfl, hb⟩; refine ⟨_, rfl, ?_⟩; have n0_ := Aside0.mk (below_step (by repeat (first | (with_reducible first | exact HB.out | apply below_alloc | apply pw_below_drewN | apply below_drew1) | exact HB.out)) hb); clear HB; have HB := n0_; clear n0_; (try clear hb); (try clear hb2); (try clear hk); (try clear hi)) | ((with_reducible refine gate_callee (f := 53) rfl ?_); refine goesL_ (some 98) rfl rfl Try.func53 (by kernel_rfl) rfl #[.slice A0 l0.length c0] rfl (by (try simp only [List.map_toArray, List.map_cons, List.map_nil]); first | done | rfl | (simp only [List.length_drop, List.length_take]; rfl)) ?_; (with_reducible refine (spec_DrawSoundsWith.calls kj19 _ _ l0 t289 t290 _ ?side1 ?side2 A56.out).mono ?_); (case side1 => repeat (first | exact (Kd.C_below HR0.out HB.out) | (with_reducible refine Kd.C_alloc ?_ _) | (with_reducible refine Kd.C_drewN ?_ _) | (with_reducible refine Kd.C_drew ?_))); (case side2 => exact HC0.out); rintro e w67 ⟨rfl, hb⟩; refine ⟨_, rfl, ?_⟩; have n0_ := Aside0.mk (below_step (by repeat (first | (with_reducible first | exact HB.out | apply below_alloc | apply pw_below_drewN | apply below_drew1) | exact HB.out)) hb); clear HB; have HB := n0_; clear n0_; (try clear hb); (try clear hb2); (try clear hk); (try clear hi)) | ((with_reducible refine gate_callee (f := 54) rfl ?_); refine goesL_ (some 102) rfl rfl Try.func54 (by kernel_rfl) rfl #[.slice A0 l0.length c0] rfl (by (try simp only [List.map_toArray, List.map_cons, List.map_nil]); first | done | rfl | (simp only [List.length_drop, List.length_take]; rfl)) ?_; (with_reducible refine (spec_DrawIsNaturalClass.calls kj19 _ _ l0 t291 _ ?side1 ?side2 A57.out).mono ?_); (case side1 => repeat (first | exact (Kd.C_below HR0.out HB.out) | (with_reducible refine Kd.C_alloc ?_ _) | (with_reducible refine Kd.C_drewN ?_ _) | (with_reducible refine Kd.C_drew ?_))); (case side2 => exact HC0.out); rintro e w68 ⟨rfl, hb⟩; refine ⟨_, rfl, ?_⟩; have n0_ := Aside0.mk (below_step (by repeat (first | (with_reducible first | exact HB.out | apply below_alloc | apply pw_below_drewN | apply below_drew1) | exact HB.out)) hb); clear HB; have HB := n0_; clear n0_; (try clear hb); (try clear hb2); (try clear hk); (try clear hi)) | ((with_reducible refine gate_callee (f := 55) rfl ?_); refine goesL_ (some 105) rfl rfl Try.func55 (by kernel_rfl) rfl #[.int .u8 t287, .int .i64 t288] rfl (by (try simp only [List.map_toArray, List.map_cons, List.map_nil]); first | done | rfl | (simp only [List.length_drop, List.length_take]; rfl)) ?_; (with_reducible refine (impl_HasFeature.calls t287 t288 t292 _ A58.out).mono ?_); rintro e w69 ⟨rfl, hb⟩; refine ⟨_, rfl, ?_⟩; have n0_ := Aside0.mk (below_step (by repeat (first | (with_reducible first | exact HB.out | apply below_alloc | apply pw_below_drewN | apply below_drew1) | exact HB.out)) hb); clear HB; have HB := n0_; clear n0_; (try clear hb); (try clear hb2); (try clear hk); (try clear hi)) | ((with_reducible refine gate_callee (f := 56) rfl ?_); refine goesL_ (some 108) rfl rfl Try.func56 (by kernel_rfl) rfl #[.int .u8 t287, .int .i64 t288] rfl (by (try simp only [List.map_toArray, List.map_cons, List.map_nil]); first | done | rfl | (simp only [List.length_drop, List.length_take]; rfl)) ?_; (with_reducible refine (spec_HasFeature.calls t287 t288 t293 _ A59.out).mono ?_); rintro e w' ⟨rfl, ⟨nd, rfl⟩⟩; refine ⟨_, rfl, ?_⟩) | (go_at_call 57; (with_reducible refine (impl_SoundsWith.calls kj19 t289 t290 t294 _ A61.out).mono ?_); rintro e w70 ⟨rfl, hb⟩; have n0_ := Aside0.mk (below_step (by repeat (first | (with_reducible first | exact HB.out | apply below_alloc | apply pw_below_drewN | apply below_drew1) | exact HB.out)) hb); clear HB; have HB := n0_; clear n0_; (try clear hb); (try clear hb2); (try clear hk); (try clear hi)) | (go_at_call 58; (with_reducible refine (spec_SoundsWith.calls kj19 t289 t290 t295 _ A62.out).mono ?_); rintro e w' ⟨rfl, ⟨nd, rfl⟩⟩) | (go_at_call 48; (with_reducible refine (impl_IsNaturalClass.calls kj19 t291 t296 _ A64.out).mono ?_); rintro e w71 ⟨rfl, hb⟩; have n0_ := Aside0.mk (below_step (by repeat (first | (with_reducible first | exact HB.out | apply below_alloc | apply pw_below_drewN | apply below_drew1) | exact HB.out)) hb); clear HB; have HB := n0_; clear n0_; (try clear hb); (try clear hb2); (try clear hk); (try clear hi)) | (go_at_call 59; (with_reducible refine (spec_IsNaturalClass.calls kj19 t291 t297 _ A65.out).mono ?_); rintro e w72 ⟨rfl, hb⟩; have n0_ := Aside0.mk (below_step (by repeat (first | (with_reducible first | exact HB.out | apply below_alloc | apply pw_below_drewN | apply below_drew1) | exact HB.out)) hb); clear HB; have HB := n0_; clear n0_; (try clear hb); (try clear hb2); (try clear hk); (try clear hi)))
                      go_ret
                      exact ⟨by first | rfl | (simp [errW_none, errW_some] <;> rfl) | (simp [*, errW_none, errW_some] <;> rfl), by repeat (first | (with_reducible first | exact HB.out | apply below_alloc | apply pw_below_drewN | apply below_drew1) | exact HB.out)⟩
                    · rw [if_neg c63] at H
                      have c63b0 : (t294.toList == t295.toList) = false := beq_eq_false_iff_ne.mpr c63
                      have c63b1 : (t294.toList != t295.toList) = true := bne_iff_ne.mpr c63
                      obtain rfl := Option.some.inj H
                      go_wp2_with (first | ((with_reducible refine gate_callee (f := 52) rfl ?_); refine goesL_ (some 93) rfl rfl Try.func52 (by kernel_rfl) rfl #[.slice A0 l0.length c0] rfl (by (try simp only [List.map_toArray, List.map_cons, List.map_nil]); first | done | rfl | (simp only [List.length_drop, List.length_take]; rfl)) ?_; (with_reducible refine (spec_DrawHasFeature.calls kj19 _ _ l0 t287 t288 _ ?side1 ?side2 A55.out).mono ?_); (case side1 => repeat (first | exact (Kd.C_below HR0.out HB.out) | (with_reducible refine Kd.C_alloc ?_ _) | (with_reducible refine Kd.C_drewN ?_ _) | (with_reducible refine Kd.C_drew ?_))); (case side2 => exact HC0.out); rintro e w73 ⟨rfl, hb⟩; refine ⟨_, rfl, ?_⟩; have n0_ := Aside0.mk (below_step (by repeat (first | (with_reducible first | exact HB.out | apply below_alloc | apply pw_below_drewN | apply below_drew1) | exact HB.out)) hb); clear HB; have HB := n0_; clear n0_; (try clear hb); (try clear hb2); (try clear hk); (try clear hi)) | ((with_reducible refine gate_callee (f := 53) rfl ?_); refine goesL_ (some 98) rfl rfl Try.func53 (by kernel_rfl) rfl #[.slice A0 l0.length c0] rfl (by (try simp only [List.map_toArray, List.map_cons, List.map_nil]); first | done | rfl | (simp only [List.length_drop, List.length_take]; rfl)) ?_; (with_reducible refine (spec_DrawSoundsWith.calls kj19 _ _ l0 t289 t290 _ ?side1 ?side2 A56.out).mono ?_); (case side1 => repeat (first | exact (Kd.C_below HR0.out HB.out) | (with_reducible refine Kd.C_alloc ?_ _) | (with_reducible refine Kd.C_drewN ?_ _) | (with_reducible refine Kd.C_drew ?_))); (case side2 => exact HC0.out); rintro e w74 ⟨rfl, hb⟩; refine ⟨_, rfl, ?_⟩; have n0_ := Aside0.mk (below_step (by repeat (first | (with_reducible first | exact HB.out | apply below_alloc | apply pw_below_drewN | apply below_drew1) | exact HB.out)) hb); clear HB; have HB := n0_; clear n0_; (try clear hb); (try clear hb2); (try clear hk); (try clear hi)) | ((with_reducible refine gate_callee (f := 54) rfl ?_); refine goesL_ (some 102) rfl rfl Try.func54 (by kernel_rfl) rfl #[.slice A0 l0.length c0] rfl (by (try simp only [List.map_toArray, List.map_cons, List.map_nil]); first | done | rfl | (simp only [List.length_drop, List.length_take]; rfl)) ?_; (with_reducible refine (spec_DrawIsNaturalClass.calls kj19 _ _ l0 t291 _ ?side1 ?side2 A57.out).mono ?_); (case side1 => repeat (first | exact (Kd.C_below HR0.out HB.out) | (with_reducible refine Kd.C_alloc ?_ _) | (with_reducible refine Kd.C_drewN ?_ _) | (with_reducible refine Kd.C_drew ?_))); (case side2 => exact HC0.out); rintro e w75 ⟨rfl, hb⟩; refine ⟨_, rfl, ?_⟩; have n0_ := Aside0.mk (below_step (by repeat (first | (with_reducible first | exact HB.out | apply below_alloc | apply pw_below_drewN | apply below_drew1) | exact HB.out)) hb); clear HB; have HB := n0_; clear n0_; (try clear hb); (try clear hb2); (try clear hk); (try clear hi)) | ((with_reducible refine gate_callee (f := 55) rfl ?_); refine goesL_ (some 105) rfl rfl Try.func55 (by kernel_rfl) rfl #[.int .u8 t287, .int .i64 t288] rfl (by (try simp only [List.map_toArray, List.map_cons, List.map_nil]); first | done | rfl | (simp only [List.length_drop, List.length_take]; rfl)) ?_; (with_reducible refine (impl_HasFeature.calls t287 t288 t292 _ A58.out).mono ?_); rintro e w76 ⟨rfl, hb⟩; refine ⟨_, rfl, ?_⟩; have n0_ := Aside0.mk (below_step (by repeat (first | (with_reducible first | exact HB.out | apply below_alloc | apply pw_below_drewN | apply below_drew1) | exact HB.out)) hb); clear HB; have HB := n0_; clear n0_; (try clear hb); (try clear hb2); (try clear hk); (try clear hi)) | ((with_reducible refine gate_callee (f := 56) rfl ?_); refine goesL_ (some 108) rfl rfl Try.func56 (by kernel_rfl) rfl #[.int .u8 t287, .int .i64 t288] rfl (by (try simp only [List.map_toArray, List.map_cons, List.map_nil]); first | done | rfl | (simp only [List.length_drop, List.length_take]; rfl)) ?_; (with_reducible refine (spec_HasFeature.calls t287 t288 t293 _ A59.out).mono ?_); rintro e w' ⟨rfl, ⟨nd, rfl⟩⟩; refine ⟨_, rfl, ?_⟩) | (go_at_call 57; (with_reducible refine (impl_SoundsWith.calls kj19 t289 t290 t294 _ A61.out).mono ?_); rintro e w77 ⟨rfl, hb⟩; have n0_ := Aside0.mk (below_step (by repeat (first | (with_reducible first | exact HB.out | apply below_alloc | apply pw_below_drewN | apply below_drew1) | exact HB.out)) hb); clear HB; have HB := n0_; clear n0_; (try clear hb); (try clear hb2); (try clear hk); (try clear hi)) | (go_at_call 58; (with_reducible refine (spec_SoundsWith.calls kj19 t289 t290 t295 _ A62.out).mono ?_); rintro e w' ⟨rfl, ⟨nd, rfl⟩⟩))
                      go_ret
                      exact ⟨by first | rfl | (simp [errW_none, errW_some] <;> rfl) | (simp [*, errW_none, errW_some] <;> rfl), by repeat (first | (with_reducible first | exact HB.out | apply below_alloc | apply pw_below_drewN | apply below_drew1) | exact HB.out)⟩
                  · rw [if_neg c60] at H
                    have c60b0 : (t292 == t293) = false := by simpa using c60
                    (try (have c60b1 : decide (t292 = t293) = false := by simpa using c60))
                    (try (have c60b2 : (t292 == t293) = false := by simpa using c60))
                    (try (have c60b3 : ¬ (t292 = t293) := by simpa using c60))
                    clear c60
                    obtain rfl := Option.some.inj H
                    go_wp2_with (first | ((with_reducible refine gate_callee (f := 52) rfl ?_); refine goesL_ (some 93) rfl rfl Try.func52 (by kernel_rfl) rfl #[.slice A0 l0.length c0] rfl (by (try simp only [List.map_toArray, List.map_cons, List.map_nil]); first | done | rfl | (simp only [List.length_drop, List.length_take]; rfl)) ?_; (with_reducible refine (spec_DrawHasFeature.calls kj19 _ _ l0 t287 t288 _ ?side1 ?side2 A55.out).mono ?_); (case side1 => repeat (first | exact (Kd.C_below HR0.out HB.out) | (with_reducible refine Kd.C_alloc ?_ _) | (with_reducible refine Kd.C_drewN ?_ _) | (with_reducible refine Kd.C_drew ?_))); (case side2 => exact HC0.out); rintro e w78 ⟨rfl, hb⟩; refine ⟨_, rfl, ?_⟩; have n0_ := Aside0.mk (below_step (by repeat (first | (with_reducible first | exact HB.out | apply below_alloc | apply pw_below_drewN | apply below_drew1) | exact HB.out)) hb); clear HB; have HB := n0_; clear n0_; (try clear hb); (try clear hb2); (try clear hk); (try clear hi)) | ((with_reducible refine gate_callee (f := 53) rfl ?_); refine goesL_ (some 98) rfl rfl Try.func53 (by kernel_rfl) rfl #[.slice A0 l0.length c0] rfl (by (try simp only [List.map_toArray, List.map_cons, List.map_nil]); first | done | rfl | (simp only [List.length_drop, List.length_take]; rfl)) ?_; (with_reducible refine (spec_DrawSoundsWith.calls kj19 _ _ l0 t289 t290 _ ?side1 ?side2 A56.out).mono ?_); (case side1 => repeat (first | exact (Kd.C_below HR0.out HB.out) | (with_reducible refine Kd.C_alloc ?_ _) | (with_reducible refine Kd.C_drewN ?_ _) | (with_reducible refine Kd.C_drew ?_))); (case side2 => exact HC0.out); rintro e w79 ⟨rfl, hb⟩; refine ⟨_, rfl, ?_⟩; have n0_ := Aside0.mk (below_step (by repeat (first | (with_reducible first | exact HB.out | apply below_alloc | apply pw_below_drewN | apply below_drew1) | exact HB.out)) hb); clear HB; have HB := n0_; clear n0_; (try clear hb); (try clear hb2); (try clear hk); (try clear hi)) | ((with_reducible refine gate_callee (f := 54) rfl ?_); refine goesL_ (some 102) rfl rfl Try.func54 (by kernel_rfl) rfl #[.slice A0 l0.length c0] rfl (by (try simp only [List.map_toArray, List.map_cons, List.map_nil]); first | done | rfl | (simp only [List.length_drop, List.length_take]; rfl)) ?_; (with_reducible refine (spec_DrawIsNaturalClass.calls kj19 _ _ l0 t291 _ ?side1 ?side2 A57.out).mono ?_); (case side1 => repeat (first | exact (Kd.C_below HR0.out HB.out) | (with_reducible refine Kd.C_alloc ?_ _) | (with_reducible refine Kd.C_drewN ?_ _) | (with_reducible refine Kd.C_drew ?_))); (case side2 => exact HC0.out); rintro e w80 ⟨rfl, hb⟩; refine ⟨_, rfl, ?_⟩; have n0_ := Aside0.mk (below_step (by repeat (first | (with_reducible first | exact HB.out | apply below_alloc | apply pw_below_drewN | apply below_drew1) | exact HB.out)) hb); clear HB; have HB := n0_; clear n0_; (try clear hb); (try clear hb2); (try clear hk); (try clear hi)) | ((with_reducible refine gate_callee (f := 55) rfl ?_); refine goesL_ (some 105) rfl rfl Try.func55 (by kernel_rfl) rfl #[.int .u8 t287, .int .i64 t288] rfl (by (try simp only [List.map_toArray, List.map_cons, List.map_nil]); first | done | rfl | (simp only [List.length_drop, List.length_take]; rfl)) ?_; (with_reducible refine (impl_HasFeature.calls t287 t288 t292 _ A58.out).mono ?_); rintro e w81 ⟨rfl, hb⟩; refine ⟨_, rfl, ?_⟩; have n0_ := Aside0.mk (below_step (by repeat (first | (with_reducible first | exact HB.out | apply below_alloc | apply pw_below_drewN | apply below_drew1) | exact HB.out)) hb); clear HB; have HB := n0_; clear n0_; (try clear hb); (try clear hb2); (try clear hk); (try clear hi)) | ((with_reducible refine gate_callee (f := 56) rfl ?_); refine goesL_ (some 108) rfl rfl Try.func56 (by kernel_rfl) rfl #[.int .u8 t287, .int .i64 t288] rfl (by (try simp only [List.map_toArray, List.map_cons, List.map_nil]); first | done | rfl | (simp only [List.length_drop, List.length_take]; rfl)) ?_; (with_reducible refine (spec_HasFeature.calls t287 t288 t293 _ A59.out).mono ?_); rintro e w' ⟨rfl, ⟨nd, rfl⟩⟩; refine ⟨_, rfl, ?_⟩))
                    go_ret
                    exact ⟨by first | rfl | (simp [errW_none, errW_some] <;> rfl) | (simp [*, errW_none, errW_some] <;> rfl), by repeat (first | (with_reducible first | exact HB.out | apply below_alloc | apply pw_below_drewN | apply below_drew1) | exact HB.out)⟩
          · rw [if_neg c17] at H
            have c17b0 : (t266 == t258) = false := beq_eq_false_iff_ne.mpr c17
            have c17b1 : (t266 != t258) = true := bne_iff_ne.mpr c17
            obtain rfl := Option.some.inj H
            go_wp2_with (first | ((with_reducible refine gate_callee (f := 40) rfl ?_); refine goesL_ (some 54) rfl rfl Try.func40 (by kernel_rfl) rfl #[.int .u8 t261] rfl (by (try simp only [List.map_toArray, List.map_cons, List.map_nil]); first | done | rfl | (simp only [List.length_drop, List.length_take]; rfl)) ?_; (with_reducible refine (impl_SwapVoice.calls t261 t266 t267 _ A16.out).mono ?_); rintro e w' ⟨rfl, ⟨nd, rfl⟩⟩; refine ⟨_, rfl, ?_⟩))
            go_ret
            exact ⟨by first | rfl | (simp [errW_none, errW_some] <;> rfl) | (simp [*, errW_none, errW_some] <;> rfl), by repeat (first | (with_reducible first | exact HB.out | apply below_alloc | apply pw_below_drewN | apply below_drew1) | exact HB.out)⟩

/-- THE ONE PURE STATEMENT of laws_FnSounds: yours. -/
def laws_FnSounds.Pure : Prop := ∀ (l0 : List Int), l0.length ≤ maxLen → l0.length * 1 ≤ 140737488351232 → (∀ x ∈ l0, (Lit.int .u8 x).wf = true) → ∃ k, laws_FnSounds.f k l0 = some true
theorem laws_FnSounds.walk (P : laws_FnSounds.Pure) (a0 : Option Addr) (len0 cap0 : Nat) (z0 : List Int) (w : World) (w0 : (a0 = none ∧ len0 = 0 ∧ cap0 = 0 ∧ z0 = []) ∨ ∃ x, a0 = some x ∧ len0 ≤ cap0 ∧ cap0 ≤ maxLen ∧ z0.length = cap0 ∧ (∀ i, i < z0.length → w.cell? (x.add i) = some (.int .u8 (z0.getD i 0))) ∧ ∀ n ∈ z0, (Lit.int .u8 n).wf = true) (y0 : len0 * 1 ≤ 140737488351232) :
    Calls Try.prog 4 #[.slice a0 len0 cap0] w fun e w' => e = .returned (.bool true) ∧ Below w.heap.size w w' := by
  obtain ⟨l0, rfl, hr0, hm0, hw0, hc0⟩ := ReadsInt.ofRowC w0
  obtain ⟨k, h⟩ := P l0 hm0 y0 hw0
  refine (laws_FnSounds.calls k _ _ l0 true w (Kd.C_of_reads (d := (0 : Int)) (h1 := fun _ => rfl) hr0) hc0 h).mono ?_
  rintro e w' ⟨rfl, hd⟩
  exact ⟨rfl, hd⟩

end Go.Proofs.Ytkjpbhncgjhfeaa.PFnSounds
