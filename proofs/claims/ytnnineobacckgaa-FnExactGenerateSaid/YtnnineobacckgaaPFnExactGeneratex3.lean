-- written for this claim by a program of this session (wip/patch_print.py over the kit's print)
import Derived.Test.YtnnineobacckgaaPFnExactGeneratex0
import Derived.Test.YtnnineobacckgaaPFnExactGeneratex2
namespace Go.Proofs.Ytnnineobacckgaa.PFnExactGenerate
open Go.RowKit Go.Proofs.YtnnineobacckgaaW.PrintWords Go.Proofs.YtnnineobacckgaaW.PrintLast Go.Proofs.YtnnineobacckgaaW.PrintMore
attribute [local go_sem] max2_int min2_int max_two min_two max_three min_three max_four min_four   -- for this text's walks alone
set_option linter.unusedVariables false
set_option linter.unusedSimpArgs false

/-! ### impl_IsSound: function 57 -/
def impl_IsSound.f (a0 : Int) : Option (Bool) := (strings_IndexByte.f (⟨#[112, 116, 98, 100, 110, 97, 105]⟩ : ByteArray) a0).bind fun t169 => (some (decide (t169 ≥ 0)))
set_option maxHeartbeats 8000000 in
set_option maxRecDepth 100000 in
theorem impl_IsSound.calls (a0 : Int) (r : Bool) (w : World) (h : impl_IsSound.f a0 = some r) :
    Calls Try.prog 57 #[.int .u8 a0] w fun e w' => e = .returned (.bool r) ∧ Drawn0 w w' := by
  have H : ((strings_IndexByte.f (⟨#[112, 116, 98, 100, 110, 97, 105]⟩ : ByteArray) a0).bind fun t169 => (some (decide (t169 ≥ 0)))) = some r := h
  clear h
  replace H := Option.bind_eq_some_iff.mp H
  obtain ⟨t169, A20, H⟩ := H
  replace H : (some (decide (t169 ≥ 0))) = some r := H
  have A2 := Aside0.mk A20
  clear A20
  obtain rfl := Option.some.inj H
  go_enter Try.func57, Try.ntmps57
  go_wp2_with (first | ((with_reducible refine gate_callee (f := 58) rfl ?_); refine goesL_ (some 4) rfl rfl Try.func58 (by kernel_rfl) rfl #[.string (⟨#[112, 116, 98, 100, 110, 97, 105]⟩ : ByteArray), .int .u8 a0] rfl (by (try simp only [List.map_toArray, List.map_cons, List.map_nil]); first | done | rfl | (simp only [List.length_drop, List.length_take]; rfl)) ?_; (with_reducible refine (strings_IndexByte.calls (⟨#[112, 116, 98, 100, 110, 97, 105]⟩ : ByteArray) a0 t169 _ A2.out).mono ?_); rintro e w' ⟨rfl, ⟨nd, rfl⟩⟩; refine ⟨_, rfl, ?_⟩))
  go_ret
  exact ⟨by first | rfl | (simp; done) | (simp [*]; done), by repeat (first | exact Drawn0.refl _ | apply Drawn0.step)⟩

/-! ### impl_areSounds: function 49 -/
def impl_areSounds.l0 : Nat → ByteArray → Int → Int → Option (Bool)
  | 0, _, _, _ => none
  | k + 1, x0, x5, x6 => if x6 < x5 then (if 0 ≤ x6 then (if x6 < (x0.size : Int) then ((impl_IsSound.f (bt x0 x6)).bind fun t170 => (if t170 = true then (impl_areSounds.l0 k x0 x5 (wrap64 (x6 + 1))) else (some false))) else (none)) else (none)) else ((impl_within.f (x0.size : Int) 1 20).bind fun t171 => (some t171))
def impl_areSounds.f (k : Nat) (a0 : ByteArray) : Option (Bool) := impl_areSounds.l0 k a0 (a0.size : Int) 0
theorem impl_areSounds.mono_l : ∀ k, (∀ y0 y1 y2, LeO (impl_areSounds.l0 k y0 y1 y2) (impl_areSounds.l0 (k + 1) y0 y1 y2))
  | 0 => fun _ _ _ r h => by simp [impl_areSounds.l0] at h
  | k + 1 => by
    have ih0 := impl_areSounds.mono_l k
    · intro y0 y1 y2
      unfold impl_areSounds.l0
      repeat' first
      | (with_reducible exact ih0 _ _ _)
      | (with_reducible exact LeO.refl _)
      | (with_reducible exact LeO.none _)
      | (with_reducible refine LeO.ite ?_ ?_)
      | (with_reducible refine LeO.bind ?_ (fun _ => ?_))
      | exact ih0 _ _ _
      | exact LeO.none _
      | refine LeO.ite ?_ ?_
      | refine LeO.bind ?_ (fun _ => ?_)
theorem impl_areSounds.mono : ∀ a0 k, LeO (impl_areSounds.f k a0) (impl_areSounds.f (k + 1) a0) := by
  intro a0 k
  have ih0 := impl_areSounds.mono_l k
  unfold impl_areSounds.f
  repeat' first
      | (with_reducible exact ih0 _ _ _)
      | (with_reducible exact LeO.refl _)
      | (with_reducible exact LeO.none _)
      | (with_reducible refine LeO.ite ?_ ?_)
      | (with_reducible refine LeO.bind ?_ (fun _ => ?_))
      | exact ih0 _ _ _
      | exact LeO.none _
      | refine LeO.ite ?_ ?_
      | refine LeO.bind ?_ (fun _ => ?_)
set_option maxHeartbeats 8000000 in
set_option maxRecDepth 100000 in
theorem impl_areSounds.calls (k : Nat) (a0 : ByteArray) (r : Bool) (w : World) (h : impl_areSounds.f k a0 = some r) :
    Calls Try.prog 49 #[.string a0] w fun e w' => e = .returned (.bool r) ∧ Drawn0 w w' := by
  have H : (impl_areSounds.l0 k a0 (a0.size : Int) 0) = some r := h
  clear h
  have H' := Aside0.mk H
  clear H
  go_enter Try.func49, Try.ntmps49
  go_wp2
  go_loopg [6] k (fun kq v6 w' => ∃ (x6_1 : Int), v6 = .int .i64 x6_1 ∧ Aside0 (impl_areSounds.l0 kq a0 (a0.size : Int) x6_1 = some r) ∧ Aside0 (kq ≤ k) ∧ Drawn0 w w')
  case atStart => exact ⟨(0), (by first | rfl | (simp; done) | (simp [*]; done)), H', ⟨Nat.le_refl _⟩, by repeat (first | exact Drawn0.refl _ | apply Drawn0.step)⟩
  case round =>
    clear H'
    obtain ⟨x6_1, rfl, HA, HK1, ⟨m1, rfl⟩⟩ := hrel
    cases gk with
    | zero => exact absurd HA.out (by simp [impl_areSounds.l0])
    | succ k1 =>
      have H := HA.out
      clear HA
      simp only [impl_areSounds.l0] at H
      by_cases c2 : x6_1 < (a0.size : Int)
      · rw [if_pos c2] at H
        have c2b0 : decide (x6_1 < (a0.size : Int)) = true := decide_eq_true c2
        clear c2
        by_cases c3 : 0 ≤ x6_1
        · rw [if_pos c3] at H
          have c3b0 : decide (0 ≤ x6_1) = true := decide_eq_true c3
          clear c3
          by_cases c4 : x6_1 < (a0.size : Int)
          · rw [if_pos c4] at H
            have c4b0 : decide (x6_1 < (a0.size : Int)) = true := decide_eq_true c4
            clear c4
            replace H := Option.bind_eq_some_iff.mp H
            obtain ⟨t170, A60, H⟩ := H
            replace H : (if t170 = true then (impl_areSounds.l0 k1 a0 (a0.size : Int) (wrap64 (x6_1 + 1))) else (some false)) = some r := H
            have A6 := Aside0.mk A60
            clear A60
            by_cases c7 : t170 = true
            · subst c7
              have H1 : (impl_areSounds.l0 k1 a0 (a0.size : Int) (wrap64 (x6_1 + 1))) = some r := by rw [if_pos rfl] at H; exact H
              clear H
              have H := H1
              clear H1
              have H' := Aside0.mk H
              clear H
              have p5 : 0 ≤ (x6_1 : Int) := of_decide_eq_true (by first | (with_reducible assumption) | assumption)
              have q5 : x6_1 < (a0.size : Int) := of_decide_eq_true (by first | (with_reducible assumption) | assumption)
              have hx5 := bt_at a0 x6_1
              replace p5 := eq_true p5
              replace q5 := eq_true q5
              go_wp2_with (first | ((with_reducible refine gate_callee (f := 57) rfl ?_); refine goesL_ (some 12) rfl rfl Try.func57 (by kernel_rfl) rfl #[.int .u8 (bt a0 x6_1)] rfl (by (try simp only [List.map_toArray, List.map_cons, List.map_nil]); first | done | rfl | (simp only [List.length_drop, List.length_take]; rfl)) ?_; (with_reducible refine (impl_IsSound.calls (bt a0 x6_1) true _ A6.out).mono ?_); rintro e w' ⟨rfl, ⟨nd, rfl⟩⟩; refine ⟨_, rfl, ?_⟩))
              go_roundg k1
              case measure => have := HK1.out; omega
              case rel => exact ⟨(wrap64 (x6_1 + 1)), (by first | rfl | (simp; done) | (simp [*]; done)), H', ⟨by have := HK1.out; omega⟩, by repeat (first | exact Drawn0.refl _ | apply Drawn0.step)⟩
            · replace c7 := Bool.eq_false_iff.mpr c7
              subst c7
              have H1 : (some false) = some r := by rw [if_neg (show ¬ (false = true) by decide)] at H; exact H
              clear H
              have H := H1
              clear H1
              obtain rfl := Option.some.inj H
              have p5 : 0 ≤ (x6_1 : Int) := of_decide_eq_true (by first | (with_reducible assumption) | assumption)
              have q5 : x6_1 < (a0.size : Int) := of_decide_eq_true (by first | (with_reducible assumption) | assumption)
              have hx5 := bt_at a0 x6_1
              replace p5 := eq_true p5
              replace q5 := eq_true q5
              go_wp2_with (first | ((with_reducible refine gate_callee (f := 57) rfl ?_); refine goesL_ (some 12) rfl rfl Try.func57 (by kernel_rfl) rfl #[.int .u8 (bt a0 x6_1)] rfl (by (try simp only [List.map_toArray, List.map_cons, List.map_nil]); first | done | rfl | (simp only [List.length_drop, List.length_take]; rfl)) ?_; (with_reducible refine (impl_IsSound.calls (bt a0 x6_1) false _ A6.out).mono ?_); rintro e w' ⟨rfl, ⟨nd, rfl⟩⟩; refine ⟨_, rfl, ?_⟩))
              go_ret
              exact ⟨by first | rfl | (simp; done) | (simp [*]; done), by repeat (first | exact Drawn0.refl _ | apply Drawn0.step)⟩
          · rw [if_neg c4] at H
            exact absurd H (by simp)
        · rw [if_neg c3] at H
          exact absurd H (by simp)
      · rw [if_neg c2] at H
        have c2b0 : decide (x6_1 < (a0.size : Int)) = false := decide_eq_false c2
        clear c2
        replace H := Option.bind_eq_some_iff.mp H
        obtain ⟨t171, A80, H⟩ := H
        replace H : (some t171) = some r := H
        have A8 := Aside0.mk A80
        clear A80
        obtain rfl := Option.some.inj H
        go_wp2_with (first | ((with_reducible refine gate_callee (f := 26) rfl ?_); refine goesL_ (some 17) rfl rfl Try.func26 (by kernel_rfl) rfl #[.int .i64 (a0.size : Int), .int .i64 1, .int .i64 20] rfl (by (try simp only [List.map_toArray, List.map_cons, List.map_nil]); first | done | rfl | (simp only [List.length_drop, List.length_take]; rfl)) ?_; (with_reducible refine (impl_within.calls (a0.size : Int) 1 20 t171 _ A8.out).mono ?_); rintro e w' ⟨rfl, ⟨nd, rfl⟩⟩; refine ⟨_, rfl, ?_⟩))
        go_ret
        exact ⟨by first | rfl | (simp; done) | (simp [*]; done), by repeat (first | exact Drawn0.refl _ | apply Drawn0.step)⟩

/-! ### impl_IsForm: function 38 -/
def impl_IsForm.f (k : Nat) (a0 : ByteArray) : Option (Bool) := if a0.toList = ([] : List UInt8) then (some true) else (if (a0.size : Int) ≤ 8 then ((impl_areSounds.f k a0).bind fun t172 => (some t172)) else (some false))
theorem impl_IsForm.mono : ∀ a0 k, LeO (impl_IsForm.f k a0) (impl_IsForm.f (k + 1) a0) := by
  intro a0 k
  unfold impl_IsForm.f
  repeat' first
      | (with_reducible exact impl_areSounds.mono _ _)
      | (with_reducible exact LeO.refl _)
      | (with_reducible exact LeO.none _)
      | (with_reducible refine LeO.ite ?_ ?_)
      | (with_reducible refine LeO.bind ?_ (fun _ => ?_))
      | exact impl_areSounds.mono _ _
      | exact LeO.none _
      | refine LeO.ite ?_ ?_
      | refine LeO.bind ?_ (fun _ => ?_)
set_option maxHeartbeats 8000000 in
set_option maxRecDepth 100000 in
theorem impl_IsForm.calls (k : Nat) (a0 : ByteArray) (r : Bool) (w : World) (h : impl_IsForm.f k a0 = some r) :
    Calls Try.prog 38 #[.string a0] w fun e w' => e = .returned (.bool r) ∧ Drawn0 w w' := by
  have H : (if a0.toList = ([] : List UInt8) then (some true) else (if (a0.size : Int) ≤ 8 then ((impl_areSounds.f k a0).bind fun t172 => (some t172)) else (some false))) = some r := h
  clear h
  by_cases c2 : a0.toList = ([] : List UInt8)
  · rw [if_pos c2] at H
    have c2b0 : (a0.toList == ([] : List UInt8)) = true := beq_iff_eq.mpr c2
    have c2b1 : (a0.toList != ([] : List UInt8)) = false := bne_eq_false_iff_eq.mpr c2
    clear c2
    obtain rfl := Option.some.inj H
    go_enter Try.func38, Try.ntmps38
    go_wp2
    go_ret
    exact ⟨by first | rfl | (simp; done) | (simp [*]; done), by repeat (first | exact Drawn0.refl _ | apply Drawn0.step)⟩
  · rw [if_neg c2] at H
    have c2b0 : (a0.toList == ([] : List UInt8)) = false := beq_eq_false_iff_ne.mpr c2
    have c2b1 : (a0.toList != ([] : List UInt8)) = true := bne_iff_ne.mpr c2
    by_cases c3 : (a0.size : Int) ≤ 8
    · rw [if_pos c3] at H
      have c3b0 : decide ((a0.size : Int) ≤ 8) = true := decide_eq_true c3
      have c3b1 : decide (a0.size ≤ 8) = true := decide_eq_true (by omega)
      clear c3
      replace H := Option.bind_eq_some_iff.mp H
      obtain ⟨t172, A40, H⟩ := H
      replace H : (some t172) = some r := H
      have A4 := Aside0.mk A40
      clear A40
      obtain rfl := Option.some.inj H
      go_enter Try.func38, Try.ntmps38
      go_wp2_with (first | (go_at_call 49; (with_reducible refine (impl_areSounds.calls k a0 t172 _ A4.out).mono ?_); rintro e w' ⟨rfl, ⟨nd, rfl⟩⟩))
      go_ret
      exact ⟨by first | rfl | (simp; done) | (simp [*]; done), by repeat (first | exact Drawn0.refl _ | apply Drawn0.step)⟩
    · rw [if_neg c3] at H
      have c3b0 : decide ((a0.size : Int) ≤ 8) = false := decide_eq_false c3
      have c3b1 : decide (a0.size ≤ 8) = false := decide_eq_false (by omega)
      clear c3
      obtain rfl := Option.some.inj H
      go_enter Try.func38, Try.ntmps38
      go_wp2
      go_ret
      exact ⟨by first | rfl | (simp; done) | (simp [*]; done), by repeat (first | exact Drawn0.refl _ | apply Drawn0.step)⟩

/-! ### impl_generate: function 39 -/
set_option maxHeartbeats 4000000 in
set_option maxRecDepth 100000 in
theorem impl_generate.clone_calls (v : Value) (xs : List S63) (w : World) (base : Nat) (ok : Nat → Prop) (ho : Kd.R k63 63 w base ok v xs) (hx : xs.length ≤ 1000000) :
    Calls Try.prog 53 #[v] w fun e w' => ∃ v' : Value, e = .returned v' ∧ Kd.R k63 63 w' w.heap.size (fun k_ => w.heap.size ≤ k_) v' xs ∧ Below w.heap.size w w' := by
  obtain ⟨A, c, rfl, hlc, hC⟩ := Kd.R_reads ho
  have HC := Aside0.mk hC
  have HX := Aside0.mk hx
  have hnil : ∀ (w : World) (a : Option Addr) (n c : Nat), (binOp .eql 55 (.slice a n c) (.slice none 0 0)).run Try.prog w = .ok (.bool a.isNone) w := fun w a n c => Lib.run_eql_slice_nil w 55 63 a n c 0 0 Try.underlying55
  clear hC hx ho
  rcases A with _ | ad
  · have h0 : xs = [] := by
      rcases xs with _ | ⟨y, ys⟩
      · rfl
      · obtain ⟨ad, h, _⟩ := HC.out.2.2 (by simp)
        cases h
    subst h0
    go_enter Try.func53, Try.ntmps53
    go_wp2
    go_ret
    exact ⟨_, rfl, Kd.R_nil _ _ _ _ _, Below.refl _ _⟩
  · go_enter Try.func53, Try.ntmps53
    go_wp2_with (first
      | ((with_reducible refine gate_dst (N := 5) rfl ?_); refine Kd.R_lit k63 _ 63 ?hg (N := 5) ?hd (xs := ([] : List (S63))) (inner := []) (ok := fun k_ => w.heap.size ≤ k_) (okp := fun k_ => w.heap.size ≤ k_) ?hr ?hp (fun _ hk => hk) (Nat.le_refl _) (Below.refl _ _) (Nat.le_refl _) (by simp) ?_; (case hd => rfl); (case hg => rfl); (case hr => first | (go_simp; done) | (go_simp; rfl)); (case hp => exact (Reps.none _ _)); intro v1 w1 ho1 hb hg_ hnew_)
      | ((with_reducible refine gate_builtin (b := .append) (xs := #[.tmp 5, .tmp 6]) rfl ?_); at_builtin; refine Kd.R_append_rows k63 (Rr := k63.K w) (w0 := w) w.heap.size rfl (.tmp 5) (.tmp 6) 55 63 _ 2 rfl Try.underlying55 info63 rfl (by decide) (by omega) v1 [] xs (some ad) xs.length c (fun k_ => w.heap.size ≤ k_) (fun _ => False) rfl rfl ho1 ?aR ?aM (fun _ hk => hk.elim) ?aF hb ?aS ?aL ?_; (case aR => exact HC.out.imp_ hb (fun _ _ hk => hk)); (case aM => exact fun x cs hk => (k63_open hk) ▸ k63_mkM _ _ _ x); (case aF => exact fun k_ hk => Nat.le_trans hb.size hk); (case aS => exact hb.size); (case aL => have := HX.out; simp only [List.length_nil]; omega); intro v2 w2 ho2 hb2 hg2 hat2))
    go_ret
    exact ⟨_, rfl, ho2, hb2⟩
def impl_generate.swf (a0 : Int) : Option (Int × Bool) := (strings_IndexByte.f (⟨#[112, 116, 98, 100]⟩ : ByteArray) a0).bind fun t102 => (if t102 < 0 then (some (a0, false)) else (if 0 ≤ t102 then (if t102 < 4 then (some (bt (⟨#[98, 100, 112, 116]⟩ : ByteArray) t102, true)) else (none)) else (none)))
set_option maxHeartbeats 8000000 in
set_option maxRecDepth 100000 in
theorem impl_generate.sw_calls (a0 : Int) (r1 : Int) (r2 : Bool) (w : World) (h : impl_generate.swf a0 = some (r1, r2)) :
    Calls Try.prog 52 #[.int .u8 a0] w fun e w' => e = .returned (.tuple #[.int .u8 r1, .bool r2]) ∧ Drawn0 w w' := by
  have H : ((strings_IndexByte.f (⟨#[112, 116, 98, 100]⟩ : ByteArray) a0).bind fun t102 => (if t102 < 0 then (some (a0, false)) else (if 0 ≤ t102 then (if t102 < 4 then (some (bt (⟨#[98, 100, 112, 116]⟩ : ByteArray) t102, true)) else (none)) else (none)))) = some (r1, r2) := h
  clear h
  replace H := Option.bind_eq_some_iff.mp H
  obtain ⟨t102, A20, H⟩ := H
  replace H : (if t102 < 0 then (some (a0, false)) else (if 0 ≤ t102 then (if t102 < 4 then (some (bt (⟨#[98, 100, 112, 116]⟩ : ByteArray) t102, true)) else (none)) else (none))) = some (r1, r2) := H
  have A2 := Aside0.mk A20
  clear A20
  by_cases c3 : t102 < 0
  · rw [if_pos c3] at H
    have c3b0 : decide (t102 < 0) = true := decide_eq_true c3
    clear c3
    simp only [Option.some.injEq, Prod.mk.injEq] at H
    obtain ⟨rfl, rfl⟩ := H
    go_enter Try.func52, Try.ntmps52
    go_wp2_with (first | ((with_reducible refine gate_callee (f := 58) rfl ?_); refine goesL_ (some 6) rfl rfl Try.func58 (by kernel_rfl) rfl #[.string (⟨#[112, 116, 98, 100]⟩ : ByteArray), .int .u8 a0] rfl (by (try simp only [List.map_toArray, List.map_cons, List.map_nil]); first | done | rfl | (simp only [List.length_drop, List.length_take]; rfl)) ?_; (with_reducible refine (strings_IndexByte.calls (⟨#[112, 116, 98, 100]⟩ : ByteArray) a0 t102 _ A2.out).mono ?_); rintro e w' ⟨rfl, ⟨nd, rfl⟩⟩; refine ⟨_, rfl, ?_⟩))
    go_ret2
    exact ⟨by first | rfl | (simp; done) | (simp [*]; done), by repeat (first | exact Drawn0.refl _ | apply Drawn0.step)⟩
  · rw [if_neg c3] at H
    have c3b0 : decide (t102 < 0) = false := decide_eq_false c3
    clear c3
    by_cases c4 : 0 ≤ t102
    · rw [if_pos c4] at H
      have c4b0 : decide (0 ≤ t102) = true := decide_eq_true c4
      clear c4
      by_cases c5 : t102 < 4
      · rw [if_pos c5] at H
        have c5b0 : decide (t102 < 4) = true := decide_eq_true c5
        clear c5
        simp only [Option.some.injEq, Prod.mk.injEq] at H
        obtain ⟨rfl, rfl⟩ := H
        go_enter Try.func52, Try.ntmps52
        go_wp2_with (first | ((with_reducible refine gate_callee (f := 58) rfl ?_); refine goesL_ (some 6) rfl rfl Try.func58 (by kernel_rfl) rfl #[.string (⟨#[112, 116, 98, 100]⟩ : ByteArray), .int .u8 a0] rfl (by (try simp only [List.map_toArray, List.map_cons, List.map_nil]); first | done | rfl | (simp only [List.length_drop, List.length_take]; rfl)) ?_; (with_reducible refine (strings_IndexByte.calls (⟨#[112, 116, 98, 100]⟩ : ByteArray) a0 t102 _ A2.out).mono ?_); rintro e w' ⟨rfl, ⟨nd, rfl⟩⟩; refine ⟨_, rfl, ?_⟩; have p6 : 0 ≤ (t102 : Int) := of_decide_eq_true (by first | (with_reducible assumption) | assumption); have q6 : t102 < (4 : Int) := of_decide_eq_true (by first | (with_reducible assumption) | assumption); have hx6 := bt_at (⟨#[98, 100, 112, 116]⟩ : ByteArray) t102; replace p6 := eq_true p6; replace q6 := eq_true q6))
        go_ret2
        exact ⟨by first | rfl | (simp; done) | (simp [*]; done), by repeat (first | exact Drawn0.refl _ | apply Drawn0.step)⟩
      · rw [if_neg c5] at H
        exact absurd H (by simp)
    · rw [if_neg c4] at H
      exact absurd H (by simp)
/-- The other voice, and is there one. -/
def impl_generate.sv (x : Int) : Int × Bool := if x = 112 then (98, true) else if x = 98 then (112, true) else if x = 116 then (100, true) else if x = 100 then (116, true) else (x, false)
theorem impl_generate.swf_all : ∀ x : Fin 256, impl_generate.swf ((x.val : Nat) : Int) = some (impl_generate.sv ((x.val : Nat) : Int)) := by decide +kernel
theorem impl_generate.swf_sv (x : Int) (h0 : 0 ≤ x) (h1 : x ≤ 255) : impl_generate.swf x = some ((impl_generate.sv x).1, (impl_generate.sv x).2) := by
  have h := impl_generate.swf_all ⟨x.toNat, by omega⟩
  rw [show ((x.toNat : Nat) : Int) = x from Int.toNat_of_nonneg h0] at h
  exact h
/-- What 'rest' appends: all candidates that go on from the links so far, from place i on, with at most 'left' edits. -/
def impl_generate.genF (s : ByteArray) : Nat → Int → Int → List S63 → List S57
  | 0, _, _, _ => []
  | k + 1, i, left, ls =>
    (if i < (s.size : Int) then
      impl_generate.genF s k (i + 1) left (ls ++ [⟨bt s i, bt s i⟩]) ++ (if 0 < left then impl_generate.genF s k (i + 1) (left - 1) (ls ++ [⟨bt s i, 0⟩]) ++ (if (impl_generate.sv (bt s i)).2 = true then impl_generate.genF s k (i + 1) (left - 1) (ls ++ [⟨bt s i, (impl_generate.sv (bt s i)).1⟩]) else []) else [])
    else [⟨ls⟩]) ++ (if 0 < left then impl_generate.genF s k i (left - 1) (ls ++ [⟨0, 116⟩]) ++ impl_generate.genF s k i (left - 1) (ls ++ [⟨0, 105⟩]) else [])
structure impl_generate.St (w0 : World) (s : ByteArray) (gs gl gr go : Nat) (w : World) (vl vo : Value) (ls : List S63) (outs : List S57) : Prop where
  hs : w.heap[gs]? = some (.cells #[.string s] 9 (0, 0))
  hl : w.heap[gl]? = some (.cells #[vl] 55 (0, 0))
  ho : w.heap[go]? = some (.cells #[vo] 33 (0, 0))
  hr : w.heap[gr]? = some (.cells #[.func (.func 50) #[] #[.pointer (some ⟨gl, 0, none⟩), .pointer (some ⟨gr, 0, none⟩), .pointer (some ⟨gs, 0, none⟩), .pointer (some ⟨go, 0, none⟩)]] 66 (0, 0))
  rl : Kd.R k63 63 w w0.heap.size (fun _ => True) vl ls
  ro : Kd.S k57 57 w w0.heap.size (fun k_ => some k_ ≠ vl.ownBlock) vo outs
  hb : Below w0.heap.size w0 w
  bl : w0.heap.size ≤ gl
  bo : w0.heap.size ≤ go
/-- What a step of 'rest' keeps: all but the two cells, the two rows and what is new since; a row stays or is new. -/
structure impl_generate.Pst (gl go : Nat) (w w' : World) (vl vo vl' vo' : Value) : Prop where
  kept : Kept w w' (fun i => (i = gl ∨ i = go) ∨ some i = vl.ownBlock ∨ some i = vo.ownBlock)
  wf : vl'.ownBlock = vl.ownBlock ∨ ∃ b, vl'.ownBlock = some b ∧ w.heap.size ≤ b
  wo : vo'.ownBlock = vo.ownBlock ∨ ∃ b, vo'.ownBlock = some b ∧ w.heap.size ≤ b
theorem impl_generate.Pst.refl (gl go : Nat) (w : World) (vl vo : Value) : impl_generate.Pst gl go w w vl vo vl vo := ⟨Kept.refl _ _, .inl rfl, .inl rfl⟩
theorem impl_generate.Pst.below {gl go : Nat} {w w' : World} {vl vo : Value} (h : Below w.heap.size w w') : impl_generate.Pst gl go w w' vl vo vl vo := ⟨Kept.of_below h _, .inl rfl, .inl rfl⟩
theorem impl_generate.Pst.trans {gl go : Nat} {w w1 w2 : World} {vl vo vl1 vo1 vl2 vo2 : Value} (h : impl_generate.Pst gl go w w1 vl vo vl1 vo1) (k : impl_generate.Pst gl go w1 w2 vl1 vo1 vl2 vo2) : impl_generate.Pst gl go w w2 vl vo vl2 vo2 := by
  refine ⟨h.kept.then_ k.kept (fun i hi => ?_), ?_, ?_⟩
  · rcases hi with hi | hi | hi
    · exact .inl (.inl hi)
    · rcases h.wf with e | ⟨b, e, hb⟩
      · exact .inl (.inr (.inl (hi.trans e)))
      · rw [e] at hi; injection hi with hi; exact .inr (by omega)
    · rcases h.wo with e | ⟨b, e, hb⟩
      · exact .inl (.inr (.inr (hi.trans e)))
      · rw [e] at hi; injection hi with hi; exact .inr (by omega)
  · rcases k.wf with e | ⟨b, e, hb⟩
    · rcases h.wf with e' | h'
      · exact .inl (e.trans e')
      · exact .inr (e ▸ h')
    · exact .inr ⟨b, e, Nat.le_trans h.kept.1 hb⟩
  · rcases k.wo with e | ⟨b, e, hb⟩
    · rcases h.wo with e' | h'
      · exact .inl (e.trans e')
      · exact .inr (e ▸ h')
    · exact .inr ⟨b, e, Nat.le_trans h.kept.1 hb⟩
theorem impl_generate.Pst.far {gl go : Nat} {w w' : World} {vl vo vl' vo' : Value} (h : impl_generate.Pst gl go w w' vl vo vl' vo') {g : Nat} {o : Obj} (hb : w.heap[g]? = some o) (h1 : g ≠ gl) (h2 : g ≠ go) (h3 : some g ≠ vl.ownBlock) (h4 : some g ≠ vo.ownBlock) : w'.heap[g]? = some o ∧ some g ≠ vl'.ownBlock ∧ some g ≠ vo'.ownBlock := by
  have hl := blk_lt hb
  refine ⟨blk_kept hb h.kept (fun hs => ?_), fun he => ?_, fun he => ?_⟩
  · rcases hs with (hs | hs) | hs | hs
    · exact h1 hs
    · exact h2 hs
    · exact h3 hs
    · exact h4 hs
  · rcases h.wf with e | ⟨b, e, hb⟩
    · exact h3 (he.trans e)
    · rw [e] at he; injection he with he; omega
  · rcases h.wo with e | ⟨b, e, hb⟩
    · exact h4 (he.trans e)
    · rw [e] at he; injection he with he; omega
section
variable {w0 : World} {s : ByteArray} {gs gl gr go : Nat} {w w1 w2 : World} {vl vo : Value} {ls : List S63} {outs : List S57}
theorem impl_generate.St.below (h : impl_generate.St w0 s gs gl gr go w vl vo ls outs) (hb : Below w.heap.size w w1) : impl_generate.St w0 s gs gl gr go w1 vl vo ls outs :=
  ⟨(hb.block gs (blk_lt h.hs)).trans h.hs, (hb.block gl (blk_lt h.hl)).trans h.hl, (hb.block go (blk_lt h.ho)).trans h.ho, (hb.block gr (blk_lt h.hr)).trans h.hr, Kd.R_below h.rl hb, Kd.S_below h.ro hb, below_then h.hb (below_size h.hb) hb, h.bl, h.bo⟩
theorem impl_generate.ne_of_type {w : World} {g g' t t' : Nat} {cs cs' : Array Value} (h : w.heap[g]? = some (.cells cs t (0, 0))) (h' : w.heap[g']? = some (.cells cs' t' (0, 0))) (ht : t ≠ t') : g ≠ g' := by
  intro he
  subst he
  rw [h] at h'
  injection h' with h'
  injection h' with _ h'
  exact ht h'
theorem impl_generate.St.push (h : impl_generate.St w0 s gs gl gr go w vl vo ls outs) {v2 : Value} {outs2 : List S57} (hg : w.grownBy w2 vo.ownBlock) (hS : Kd.S k57 57 w2 w0.heap.size (fun k_ => some k_ ≠ vl.ownBlock) v2 outs2) (hB : Below w0.heap.size w0 w2) (hat : v2.ownBlock = vo.ownBlock ∨ ∃ b, v2.ownBlock = some b ∧ w.heap.size ≤ b) :
    impl_generate.St w0 s gs gl gr go (w2.setCell ⟨go, 0, none⟩ v2) vl v2 ls outs2 ∧ impl_generate.Pst gl go w (w2.setCell ⟨go, 0, none⟩ v2) vl vo vl v2 ∧ w2.cell? ⟨gs, 0, none⟩ = some (.string s) ∧ w2.cell? ⟨gl, 0, none⟩ = some vl ∧ w2.cell? ⟨go, 0, none⟩ = some vo ∧ w2.frozen? ⟨go, 0, none⟩ = false := by
  have hn2 := (hg.block gs (blk_lt h.hs) (Kd.S_ne h.ro h.hs (by decide))).trans h.hs
  have hf2 := (hg.block gl (blk_lt h.hl) (Kd.S_ne h.ro h.hl (by decide))).trans h.hl
  have ho2 := (hg.block go (blk_lt h.ho) (Kd.S_ne h.ro h.ho (by decide))).trans h.ho
  have hr2 := (hg.block gr (blk_lt h.hr) (Kd.S_ne h.ro h.hr (by decide))).trans h.hr
  have rf2 := Kd.R_over' h.rl (Kd.S_typed h.ro) (by decide) hg
  refine ⟨⟨(Below.heap_setCell _ _ _ _ (impl_generate.ne_of_type hn2 ho2 (by decide))).trans hn2, (Below.heap_setCell _ _ _ _ (impl_generate.ne_of_type hf2 ho2 (by decide))).trans hf2, blk_set ho2 0 v2, (Below.heap_setCell _ _ _ _ (impl_generate.ne_of_type hr2 ho2 (by decide))).trans hr2, Kd.R_set rf2 ho2 (by decide) 0 v2, Kd.S_set hS ho2 (by decide) 0 v2, below_set hB h.bo, h.bl, h.bo⟩, ⟨?_, .inl rfl, hat⟩, blk_cell hn2 0, blk_cell hf2 0, blk_cell ho2 0, blk_frozen ho2 0⟩
  exact ((Kept.refl w _).of_grown hg (fun k hk => .inl (.inr (.inr hk.symm)))).setCell (.inl (.inl (.inr rfl))) v2
theorem impl_generate.St.pushF (h : impl_generate.St w0 s gs gl gr go w vl vo ls outs) {v2 : Value} {ls2 : List S63} (hg : w.grownBy w2 vl.ownBlock) (hR : Kd.R k63 63 w2 w0.heap.size (fun _ => True) v2 ls2) (hB : Below w0.heap.size w0 w2) (hat : v2.ownBlock = vl.ownBlock ∨ ∃ b, v2.ownBlock = some b ∧ w.heap.size ≤ b) :
    impl_generate.St w0 s gs gl gr go (w2.setCell ⟨gl, 0, none⟩ v2) v2 vo ls2 outs ∧ impl_generate.Pst gl go w (w2.setCell ⟨gl, 0, none⟩ v2) vl vo v2 vo ∧ w2.cell? ⟨gl, 0, none⟩ = some vl ∧ w2.frozen? ⟨gl, 0, none⟩ = false := by
  have hn2 := (hg.block gs (blk_lt h.hs) (Kd.R_ne h.rl h.hs (by decide))).trans h.hs
  have hf2 := (hg.block gl (blk_lt h.hl) (Kd.R_ne h.rl h.hl (by decide))).trans h.hl
  have ho2 := (hg.block go (blk_lt h.ho) (Kd.R_ne h.rl h.ho (by decide))).trans h.ho
  have hr2 := (hg.block gr (blk_lt h.hr) (Kd.R_ne h.rl h.hr (by decide))).trans h.hr
  have ro2 : Kd.S k57 57 w2 w0.heap.size (fun k_ => some k_ ≠ v2.ownBlock) vo outs := Kd.S_mono (Kd.S_after (ok := fun _ => True) (v := vl) (v1 := v2) (Kd.S_mono h.ro (fun k_ hk => ⟨trivial, hk⟩)) hg hat) (fun k_ hk => hk.2)
  refine ⟨⟨(Below.heap_setCell _ _ _ _ (impl_generate.ne_of_type hn2 hf2 (by decide))).trans hn2, blk_set hf2 0 v2, (Below.heap_setCell _ _ _ _ (impl_generate.ne_of_type ho2 hf2 (by decide))).trans ho2, (Below.heap_setCell _ _ _ _ (impl_generate.ne_of_type hr2 hf2 (by decide))).trans hr2, Kd.R_set hR hf2 (by decide) 0 v2, Kd.S_set ro2 hf2 (by decide) 0 v2, below_set hB h.bl, h.bl, h.bo⟩, ⟨?_, hat, .inl rfl⟩, blk_cell hf2 0, blk_frozen hf2 0⟩
  exact ((Kept.refl w _).of_grown hg (fun k hk => .inl (.inr (.inl hk.symm)))).setCell (.inl (.inl (.inl rfl))) v2
theorem impl_generate.St.popF {A : Option Addr} {L c m : Nat} (h : impl_generate.St w0 s gs gl gr go w (.slice A L c) vo ls outs) (hm : m ≤ ls.length) :
    impl_generate.St w0 s gs gl gr go (w.setCell ⟨gl, 0, none⟩ (.slice A m c)) (.slice A m c) vo (ls.take m) outs ∧ impl_generate.Pst gl go w (w.setCell ⟨gl, 0, none⟩ (.slice A m c)) (.slice A L c) vo (.slice A m c) vo := by
  have e : (Value.slice A L c).ownBlock = (Value.slice A m c).ownBlock := by cases A <;> rfl
  refine ⟨⟨(Below.heap_setCell _ _ _ _ (impl_generate.ne_of_type h.hs h.hl (by decide))).trans h.hs, blk_set h.hl 0 _, (Below.heap_setCell _ _ _ _ (impl_generate.ne_of_type h.ho h.hl (by decide))).trans h.ho, (Below.heap_setCell _ _ _ _ (impl_generate.ne_of_type h.hr h.hl (by decide))).trans h.hr, Kd.R_set (Kd.R_take h.rl hm) h.hl (by decide) 0 _, Kd.S_set (by rw [← e]; exact h.ro) h.hl (by decide) 0 _, below_set h.hb h.bl, h.bl, h.bo⟩, ⟨?_, .inl e.symm, .inl rfl⟩⟩
  exact (Kept.refl w _).setCell (.inl (.inl (.inl rfl))) _
end
def impl_generate.RPost (w0 : World) (s : ByteArray) (gs gl gr go : Nat) (w : World) (vl vo : Value) (ls : List S63) (outs : List S57) (e : Ending) (w' : World) : Prop := e = .returned (.tuple #[]) ∧ ∃ vl' vo' : Value, impl_generate.St w0 s gs gl gr go w' vl' vo' ls outs ∧ impl_generate.Pst gl go w w' vl vo vl' vo'
/-- What is asked of 'rest' at k steps still to come. -/
def impl_generate.Ask (w0 : World) (s : ByteArray) (gs gl gr go : Nat) (k : Nat) : Prop := ∀ (i left : Int) (ls : List S63) (outs : List S57) (vl vo : Value) (w : World), (s.size : Int) - i + left < k → 0 ≤ i → i ≤ s.size → 0 ≤ left → left ≤ 1000 → ls.length + k ≤ 1000 → outs.length + (impl_generate.genF s k i left ls).length ≤ 1000000 → impl_generate.St w0 s gs gl gr go w vl vo ls outs →
  Calls Try.prog 50 #[.int .i64 i, .int .i64 left, .pointer (some ⟨gl, 0, none⟩), .pointer (some ⟨gr, 0, none⟩), .pointer (some ⟨gs, 0, none⟩), .pointer (some ⟨go, 0, none⟩)] w (impl_generate.RPost w0 s gs gl gr go w vl vo ls (outs ++ impl_generate.genF s k i left ls))
set_option maxHeartbeats 4000000 in
set_option maxRecDepth 100000 in
theorem impl_generate.go1_calls (w0 : World) (s : ByteArray) (gs gl gr go : Nat) (k : Nat) (IH : impl_generate.Ask w0 s gs gl gr go k) (x : S63) (i left : Int) (ls : List S63) (outs : List S57) (vl vo : Value) (w : World) (hk : (s.size : Int) - i + left < k) (h0 : 0 ≤ i) (h1 : i ≤ s.size) (hl0 : 0 ≤ left) (hl1 : left ≤ 1000) (hll : ls.length + 1 + k ≤ 1000) (hol : outs.length + (impl_generate.genF s k i left (ls ++ [x])).length ≤ 1000000) (hst : impl_generate.St w0 s gs gl gr go w vl vo ls outs) :
    Calls Try.prog 51 #[.agg #[.int .u8 x.f0, .int .u8 x.f1], .int .i64 i, .int .i64 left, .pointer (some ⟨gl, 0, none⟩), .pointer (some ⟨gr, 0, none⟩)] w (impl_generate.RPost w0 s gs gl gr go w vl vo ls (outs ++ impl_generate.genF s k i left (ls ++ [x]))) := by
  have HIH := Aside0.mk IH
  have HST := Aside0.mk hst
  have HOL := Aside0.mk hol
  clear IH hst hol
  have hbz := below_alloc (Below.refl w.heap.size w) (.cells #[.int .u8 x.f0, .int .u8 x.f1] 63)
  have HSz := Aside0.mk (HST.out.below hbz)
  have HXz := Aside0.mk (Go.heap_alloc_last w (.cells #[.int .u8 x.f0, .int .u8 x.f1] 63))
  have HNX := Aside0.mk (fun he => Nat.lt_irrefl _ (Kd.R_lt HST.out.rl _ he.symm) : some w.heap.size ≠ vl.ownBlock)
  have HPL := Aside0.mk (impl_generate.Pst.below (gl := gl) (go := go) (vl := vl) (vo := vo) hbz)
  clear hbz
  go_enter Try.func51, Try.ntmps51
  go_upto_region 1 with (fail)
  generalize hgx : w.heap.size = gx at HSz HXz HNX HPL ⊢
  generalize hwz : w.alloc (.cells #[.int .u8 x.f0, .int .u8 x.f1] 63) = wz at HSz HXz HPL ⊢
  clear hwz hgx
  have cf := blk_cell HSz.out.hl 0
  have ff := blk_frozen HSz.out.hl 0
  have q0 := blk_cell HXz.out 0
  have q1 := blk_cell HXz.out 1
  simp only [List.getElem?_toArray, List.getElem?_cons_zero, List.getElem?_cons_succ] at cf q0 q1
  go_upto_region 2 with (first
    | ((with_reducible refine gate_builtin (b := .append) (xs := #[.tmp 8, .tmp 10]) rfl ?_); at_builtin; refine Kd.R_append k63 (w0 := w0) w0.heap.size rfl (.tmp 8) (.tmp 10) 55 63 _ 2 rfl Try.underlying55 info63 rfl (by decide) (by omega) vl ls x [.int .u8 x.f0, .int .u8 x.f1] (fun _ => True) (fun _ => False) rfl rfl ?aP (fun _ hk => hk.elim) (fun _ _ => trivial) ?aO ?aB ?aS ?aL ?_; (case aP => exact k63_mkM _ _ _ x); (case aO => exact HSz.out.rl); (case aB => exact HSz.out.hb); (case aS => exact below_size HSz.out.hb); (case aL => omega); intro v2 w2 hR2 hB2 hg2 hat2; obtain ⟨A2, L2, c2, hv2⟩ : ∃ A L c, v2 = Value.slice A L c := (by obtain ⟨A, c, h⟩ := Kd.R_slice hR2; exact ⟨A, _, c, h⟩); subst hv2; obtain ⟨hst2, hp2, jf, jz⟩ := HSz.out.pushF hg2 hR2 hB2 hat2; have HST2 := Aside0.mk hst2; have HP2 := Aside0.mk hp2; clear hst2 hp2 hR2 hB2 hg2 hat2))
  have HP3 := Aside0.mk (HPL.out.trans HP2.out)
  generalize w2.setCell ⟨gl, 0, none⟩ (.slice A2 L2 c2) = w3 at HST2 HP2 HP3 ⊢
  clear cf ff q0 q1 jf jz
  have cr := blk_cell HST2.out.hr 0
  simp only [List.getElem?_toArray, List.getElem?_cons_zero] at cr
  go_upto_region 3 with (first
    | (go_at_call 50; refine (HIH.out i left (ls ++ [x]) outs (.slice A2 L2 c2) vo _ hk h0 h1 hl0 hl1 (by simp only [List.length_append, List.length_singleton]; omega) HOL.out HST2.out).mono ?_; rintro e w4 ⟨rfl, vf4, vo4, hst4, hp4⟩; have HST4 := Aside0.mk hst4; have HP4 := Aside0.mk (HP3.out.trans hp4); clear hst4 hp4))
  obtain ⟨A4, c4, hv4, hl4, _⟩ := Kd.R_reads HST4.out.rl
  subst hv4
  clear cr
  have cf := blk_cell HST4.out.hl 0
  have ff := blk_frozen HST4.out.hl 0
  simp only [List.getElem?_toArray, List.getElem?_cons_zero, List.length_append, List.length_singleton] at cf hl4
  have n0 : 0 ≤ ((ls.length + 1 : Nat) : Int) - 1 := by omega
  go_wp2
  have hpop := HST4.out.popF (m := ls.length) (by simp only [List.length_append, List.length_singleton]; omega)
  rw [List.take_left] at hpop
  go_end0
  exact ⟨rfl, _, _, hpop.1, HP4.out.trans hpop.2⟩
def impl_generate.genA (s : ByteArray) (k : Nat) (i left : Int) (ls : List S63) : List S57 :=
  if i < (s.size : Int) then
    impl_generate.genF s k (i + 1) left (ls ++ [⟨bt s i, bt s i⟩]) ++ (if 0 < left then impl_generate.genF s k (i + 1) (left - 1) (ls ++ [⟨bt s i, 0⟩]) ++ (if (impl_generate.sv (bt s i)).2 = true then impl_generate.genF s k (i + 1) (left - 1) (ls ++ [⟨bt s i, (impl_generate.sv (bt s i)).1⟩]) else []) else [])
  else [⟨ls⟩]
theorem impl_generate.genF_step (s : ByteArray) (k : Nat) (i left : Int) (ls : List S63) : impl_generate.genF s (k + 1) i left ls = impl_generate.genA s k i left ls ++ (if 0 < left then impl_generate.genF s k i (left - 1) (ls ++ [⟨0, 116⟩]) ++ impl_generate.genF s k i (left - 1) (ls ++ [⟨0, 105⟩]) else []) := by rw [impl_generate.genF]; rfl
set_option maxHeartbeats 8000000 in
set_option maxRecDepth 100000 in
theorem impl_generate.rest_calls (w0 : World) (s : ByteArray) (hsz : s.size ≤ 1000) (gs gl gr go : Nat) : ∀ k, impl_generate.Ask w0 s gs gl gr go k := by
  intro k
  induction k with
  | zero => intro i left ls outs vl vo w hk h0 h1 hl0; omega
  | succ k ih =>
    intro i left ls outs vl vo w hk h0 h1 hl0 hl1 hll hol hst
    have HST := Aside0.mk hst
    have HIH := Aside0.mk ih
    have HOL := Aside0.mk hol
    have HLL := Aside0.mk hll
    clear ih hst hol hll
    have cs := blk_cell HST.out.hs 0
    simp only [List.getElem?_toArray, List.getElem?_cons_zero] at cs
    have hmf : ∀ (fn : Fn) (first cap : Array Value) (w : World), (Instr.makeFunc fn first cap).run Try.prog w = .ok (.func fn first cap) w := fun _ _ _ _ => rfl
    go_enter Try.func50, Try.ntmps50
    go_upto_if 15 with (fail)
    go_cut [] (fun wc => ∃ vl' vo' : Value, Aside0 (impl_generate.St w0 s gs gl gr go wc vl' vo' ls (outs ++ impl_generate.genA s k i left ls)) ∧ Aside0 (impl_generate.Pst gl go w wc vl vo vl' vo'))
    case first =>
      by_cases hi : i < (s.size : Int)
      · have hib : decide (i < (s.size : Int)) = true := decide_eq_true hi
        have hA : impl_generate.genA s k i left ls = impl_generate.genF s k (i + 1) left (ls ++ [⟨bt s i, bt s i⟩]) ++ (if 0 < left then impl_generate.genF s k (i + 1) (left - 1) (ls ++ [⟨bt s i, 0⟩]) ++ (if (impl_generate.sv (bt s i)).2 = true then impl_generate.genF s k (i + 1) (left - 1) (ls ++ [⟨bt s i, (impl_generate.sv (bt s i)).1⟩]) else []) else []) := by unfold impl_generate.genA; rw [if_pos hi]
        have HSW := Aside0.mk (impl_generate.swf_sv (bt s i) (bt_range s i).1 (bt_range s i).2)
        obtain ⟨sb, so, hsv⟩ : ∃ a b, impl_generate.sv (bt s i) = (a, b) := ⟨_, _, rfl⟩
        rw [hsv] at hA HSW
        have HSV := Aside0.mk hsv
        clear hsv
        simp only at hA HSW
        have HA := Aside0.mk hA
        have HSUM : Aside0 (outs.length + (impl_generate.genA s k i left ls).length ≤ 1000000) := ⟨by have h := HOL.out; rw [impl_generate.genF_step, List.length_append] at h; omega⟩
        rw [HA.out] at HSUM
        clear hA
        have p28 := h0
        have q28 := hi
        have hx28 := bt_at s i
        replace p28 := eq_true p28
        replace q28 := eq_true q28
        go_upto_region 2 with (fail)
        refine start_ (n := 12) (S := fun w' => w'.cell? ⟨gs, 0, none⟩ = some (.string s)) (ds := []) #[false, false, false, false, false, false, false, false, false, false, false, false] (by kernel_rfl) rfl rfl cs (fun hHeld => ?_)
        refine pure_ (i := 0) (N := some 16) (v := ?_) (a' := ?_) #[true, false, false, false, false, false, false, false, false, false, false, false] rfl rfl (by kernel_rfl) (fun _ _ _ h => h) (Or.inl ⟨by rfl, ?_⟩) ?_ ?_
        rotate_left
        · intro w'
          go_simp
          with_reducible rfl
        rotate_left
        · simp only [Act.put, List.setIfInBounds_toArray, List.set_cons_zero, List.set_cons_succ, i64_w, i32_w]
          rfl
        refine pure_ (i := 2) (N := some 18) (v := ?_) (a' := ?_) #[true, false, true, false, false, false, false, false, false, false, false, false] rfl rfl (by kernel_rfl) (fun _ _ _ h => h) (Or.inl ⟨by rfl, ?_⟩) ?_ ?_
        rotate_left
        · intro w'
          go_simp
          with_reducible rfl
        rotate_left
        · simp only [Act.put, List.setIfInBounds_toArray, List.set_cons_zero, List.set_cons_succ, i64_w, i32_w]
          rfl
        refine pure_ (i := 5) (N := some 21) (v := ?_) (a' := ?_) #[true, false, true, false, false, true, false, false, false, false, false, false] rfl rfl (by kernel_rfl) (fun _ _ _ h => h) (Or.inl ⟨by rfl, ?_⟩) ?_ ?_
        rotate_left
        · intro w'
          go_simp
          with_reducible rfl
        rotate_left
        · simp only [Act.put, List.setIfInBounds_toArray, List.set_cons_zero, List.set_cons_succ, i64_w, i32_w]
          rfl
        refine pure_ (i := 8) (N := some 24) (v := ?_) (a' := ?_) #[true, false, true, false, false, true, false, false, true, false, false, false] rfl rfl (by kernel_rfl) (fun _ _ _ h => h) (Or.inl ⟨by rfl, ?_⟩) ?_ ?_
        rotate_left
        · intro w'
          go_simp
          with_reducible rfl
        rotate_left
        · simp only [Act.put, List.setIfInBounds_toArray, List.set_cons_zero, List.set_cons_succ, i64_w, i32_w]
          rfl
        refine pure_ (i := 9) (N := some 25) (v := ?_) (a' := ?_) #[true, false, true, false, false, true, false, false, true, true, false, false] rfl rfl (by kernel_rfl) (fun _ _ _ h => h) (Or.inl ⟨by rfl, ?_⟩) ?_ ?_
        rotate_left
        · intro w'
          go_simp
          with_reducible rfl
        rotate_left
        · simp only [Act.put, List.setIfInBounds_toArray, List.set_cons_zero, List.set_cons_succ, i64_w, i32_w]
          rfl
        refine pure_ (i := 10) (N := some 26) (v := ?_) (a' := ?_) #[true, false, true, false, false, true, false, false, true, true, true, false] rfl rfl (by kernel_rfl) (fun _ _ _ h => h) (Or.inl ⟨by rfl, ?_⟩) ?_ ?_
        rotate_left
        · intro w'
          go_simp
          with_reducible rfl
        rotate_left
        · simp only [Act.put, List.setIfInBounds_toArray, List.set_cons_zero, List.set_cons_succ, i64_w, i32_w]
          rfl
        refine take_ (i := 1) (N := some 17) (v := ?_) (a' := ?_) #[true, true, true, false, false, true, false, false, true, true, true, false] rfl rfl (by kernel_rfl) (fun _ _ _ h => h) (Or.inl ⟨by rfl, ?_⟩) hHeld ?_ ?_
        rotate_left
        · intro w' s0
          go_simp
          with_reducible rfl
        rotate_left
        · simp only [Act.put, List.setIfInBounds_toArray, List.set_cons_zero, List.set_cons_succ, i64_w, i32_w]
          rfl
        refine take_ (i := 4) (N := some 20) (v := ?_) (a' := ?_) #[true, true, true, false, true, true, false, false, true, true, true, false] rfl rfl (by kernel_rfl) (fun _ _ _ h => h) (Or.inl ⟨by rfl, ?_⟩) hHeld ?_ ?_
        rotate_left
        · intro w' s0
          go_simp
          with_reducible rfl
        rotate_left
        · simp only [Act.put, List.setIfInBounds_toArray, List.set_cons_zero, List.set_cons_succ, i64_w, i32_w]
          rfl
        refine pure_ (i := 3) (N := some 19) (v := ?_) (a' := ?_) #[true, true, true, true, true, true, false, false, true, true, true, false] rfl rfl (by kernel_rfl) (fun _ _ _ h => h) (Or.inl ⟨by rfl, ?_⟩) ?_ ?_
        rotate_left
        · intro w'
          go_simp
          with_reducible rfl
        rotate_left
        · simp only [Act.put, List.setIfInBounds_toArray, List.set_cons_zero, List.set_cons_succ, i64_w, i32_w]
          rfl
        refine pure_ (i := 6) (N := some 22) (v := ?_) (a' := ?_) #[true, true, true, true, true, true, true, false, true, true, true, false] rfl rfl (by kernel_rfl) (fun _ _ _ h => h) (Or.inl ⟨by rfl, ?_⟩) ?_ ?_
        rotate_left
        · intro w'
          go_simp
          with_reducible rfl
        rotate_left
        · simp only [Act.put, List.setIfInBounds_toArray, List.set_cons_zero, List.set_cons_succ, i64_w, i32_w]
          rfl
        refine pure_ (i := 7) (N := some 23) (v := ?_) (a' := ?_) #[true, true, true, true, true, true, true, true, true, true, true, false] rfl rfl (by kernel_rfl) (fun _ _ _ h => h) (Or.inl ⟨by rfl, ?_⟩) ?_ ?_
        rotate_left
        · intro w'
          go_simp
          with_reducible rfl
        rotate_left
        · simp only [Act.put, List.setIfInBounds_toArray, List.set_cons_zero, List.set_cons_succ, i64_w, i32_w]
          rfl
        refine one_ (i := 11) (N := some 27) #[true, true, true, true, true, true, true, true, true, true, true, true] rfl rfl (by kernel_rfl) (by decide) (fun K hK => ?_)
        refine call_ 51 #[.agg #[.int .u8 (bt s i), .int .u8 (bt s i)], .int .i64 (i + 1), .int .i64 left, .pointer (some ⟨gl, 0, none⟩), .pointer (some ⟨gr, 0, none⟩)] (by rfl) rfl ?_ ?_
        · have he := fun (args : Array Value) (W : World) => enters_ Try.func51 (by kernel_rfl) rfl args W
          unfold execOp
          simp [resolve, Deferred.ofValue, invoke, Act.eval, he]
          unfold wrap64; omega
        refine (impl_generate.go1_calls w0 s gs gl gr go k HIH.out ⟨bt s i, bt s i⟩ (i + 1) left ls outs vl vo _ (by omega) (by omega) (by omega) (by omega) (by omega) (by have := HLL.out; omega) (by have := HSUM.out; simp only [List.length_append] at this ⊢; omega) (HST.out.below (below_drew (Below.refl _ _)))).mono ?_
        rintro e w1 ⟨rfl, vl1, vo1, hst1, hp1⟩
        have HST1 := Aside0.mk hst1
        have HP1 := Aside0.mk ((impl_generate.Pst.below (below_drew (Below.refl _ _))).trans hp1)
        have kn1 : w1.cell? ⟨gs, 0, none⟩ = some (.string s) := (blk_cell hst1.hs 0).trans rfl
        clear hst1 hp1
        refine ⟨_, rfl, ?_⟩
        refine hK.out _ _ kn1 (fun hHeld => ?_)
        clear hK K
        refine norm_ (a' := ?_) ?_ ?_
        rotate_left
        · show Act.put _ (some 27) _ = _
          simp only [Act.put, List.setIfInBounds_toArray, List.set_cons_zero, List.set_cons_succ, i64_w, i32_w]
          rfl
        refine done_ (by kernel_rfl) ?_
        clear cs
        by_cases hl : 0 < left
        · have hlb : decide (0 < left) = true := decide_eq_true hl
          rw [if_pos hl] at HSUM
          go_upto_region 5 with (first | (go_at_call 51; refine (impl_generate.go1_calls w0 s gs gl gr go k HIH.out ⟨bt s i, 0⟩ (i + 1) (left - 1) ls (outs ++ impl_generate.genF s k (i + 1) left (ls ++ [⟨bt s i, bt s i⟩])) vl1 vo1 _ (by omega) (by omega) (by omega) (by omega) (by omega) (by have := HLL.out; omega) (by have := HSUM.out; simp only [List.length_append] at this ⊢; omega) (HST1.out.below (by first | exact Below.refl _ _ | exact below_drew (Below.refl _ _) | exact pw_below_drewN (Below.refl _ _) _))).mono ?_; rintro e w2 ⟨rfl, vl2, vo2, hst2, hp2⟩; have HST2 := Aside0.mk hst2; have HP2 := Aside0.mk (HP1.out.trans ((impl_generate.Pst.below (by first | exact Below.refl _ _ | exact below_drew (Below.refl _ _) | exact pw_below_drewN (Below.refl _ _) _)).trans hp2)); have kn2 : w2.cell? ⟨gs, 0, none⟩ = some (.string s) := (blk_cell hst2.hs 0).trans rfl; clear hst2 hp2))
          clear kn1
          go_upto_if 47 with (first | (go_at_call 52; refine (impl_generate.sw_calls (bt s i) sb so _ HSW.out).mono ?_; rintro e w' ⟨rfl, ⟨nd, rfl⟩⟩))
          cases so with
          | true =>
            first | rw [if_pos rfl] at HSUM | rw [if_pos trivial] at HSUM | skip
            go_wp2_with (first | (go_at_call 51; refine (impl_generate.go1_calls w0 s gs gl gr go k HIH.out ⟨bt s i, sb⟩ (i + 1) (left - 1) ls (outs ++ impl_generate.genF s k (i + 1) left (ls ++ [⟨bt s i, bt s i⟩]) ++ impl_generate.genF s k (i + 1) (left - 1) (ls ++ [⟨bt s i, 0⟩])) vl2 vo2 _ (by omega) (by omega) (by omega) (by omega) (by omega) (by have := HLL.out; omega) (by have := HSUM.out; simp only [List.length_append] at this ⊢; omega) (HST2.out.below (by first | exact Below.refl _ _ | exact below_drew (Below.refl _ _) | exact pw_below_drewN (Below.refl _ _) _))).mono ?_; rintro e w3 ⟨rfl, vl3, vo3, hst3, hp3⟩; have HST3 := Aside0.mk hst3; have HP3 := Aside0.mk (HP2.out.trans ((impl_generate.Pst.below (by first | exact Below.refl _ _ | exact below_drew (Below.refl _ _) | exact pw_below_drewN (Below.refl _ _) _)).trans hp3)); have kn3 : w3.cell? ⟨gs, 0, none⟩ = some (.string s) := (blk_cell hst3.hs 0).trans rfl; clear hst3 hp3))
            go_meet
            case rel => exact ⟨vl3, vo3, ⟨by have h := HST3.out; rw [HA.out, if_pos hl, if_pos (by first | trivial | rfl), ← List.append_assoc, ← List.append_assoc]; exact h⟩, ⟨HP3.out⟩⟩
          | false =>
            go_wp2
            go_meet
            case rel => exact ⟨vl2, vo2, ⟨by have h := HST2.out.below (pw_below_drewN (Below.refl _ _) nd); rw [HA.out, if_pos hl, if_neg (by first | decide | simp), List.append_nil, ← List.append_assoc]; exact h⟩, ⟨HP2.out.trans (impl_generate.Pst.below (pw_below_drewN (Below.refl _ _) nd))⟩⟩
        · have hlb : decide (0 < left) = false := decide_eq_false hl
          go_wp2
          go_meet
          case rel => exact ⟨vl1, vo1, ⟨by have h := HST1.out; rw [HA.out, if_neg (by omega), List.append_nil]; exact h⟩, ⟨HP1.out⟩⟩
      · have hib : decide (i < (s.size : Int)) = false := decide_eq_false hi
        have HA := Aside0.mk (show impl_generate.genA s k i left ls = [⟨ls⟩] from if_neg hi)
        have HSUM : Aside0 (outs.length + 1 ≤ 1000000) := ⟨by have h := HOL.out; rw [impl_generate.genF_step, List.length_append, HA.out, List.length_singleton] at h; omega⟩
        obtain ⟨A, c, hv, hlc, _⟩ := Kd.R_reads HST.out.rl
        subst hv
        have cl : w.cell? ⟨gl, 0, none⟩ = some (.slice A ls.length c) := (blk_cell HST.out.hl 0).trans rfl
        have co : w.cell? ⟨go, 0, none⟩ = some vo := (blk_cell HST.out.ho 0).trans rfl
        have fo := blk_frozen HST.out.ho 0
        clear cs
        go_upto_region 8 with (fail)
        refine start_ (n := 7) (S := fun w' => w'.cell? ⟨gl, 0, none⟩ = some (.slice A ls.length c) ∧ w'.cell? ⟨go, 0, none⟩ = some vo) (ds := [6]) #[false, false, false, false, false, false, false] (by kernel_rfl) rfl rfl ⟨cl, co⟩ (fun hHeld => ?_)
        refine take_ (i := 0) (N := some 59) (v := ?_) (a' := ?_) #[true, false, false, false, false, false, false] rfl rfl (by kernel_rfl) (fun _ _ _ h => h) (Or.inl ⟨by rfl, ?_⟩) hHeld ?_ ?_
        rotate_left
        · rintro w' ⟨s0, s1⟩
          go_simp
          with_reducible rfl
        rotate_left
        · simp only [Act.put, List.setIfInBounds_toArray, List.set_cons_zero, List.set_cons_succ, i64_w, i32_w]
          rfl
        refine take_ (i := 1) (N := some 60) (v := ?_) (a' := ?_) #[true, true, false, false, false, false, false] rfl rfl (by kernel_rfl) (fun _ _ _ h => h) (Or.inl ⟨by rfl, ?_⟩) hHeld ?_ ?_
        rotate_left
        · rintro w' ⟨s0, s1⟩
          go_simp
          with_reducible rfl
        rotate_left
        · simp only [Act.put, List.setIfInBounds_toArray, List.set_cons_zero, List.set_cons_succ, i64_w, i32_w]
          rfl
        refine one_ (i := 2) (N := some 61) #[true, true, true, false, false, false, false] rfl rfl (by kernel_rfl) (by decide) (fun K hK => ?_)
        refine goes_ Try.func53 (by kernel_rfl) rfl #[.slice A ls.length c] (by rfl) rfl rfl (by (try simp only [List.map_toArray, List.map_cons, List.map_nil]); first | done | rfl) ?_
        refine (impl_generate.clone_calls _ ls _ w0.heap.size (fun _ => True) (Kd.R_drew HST.out.rl) (by have := HLL.out; omega)).mono ?_
        rintro e w1 ⟨v1, rfl, hr1, hb1⟩
        obtain ⟨A1, c1, hv1, hl1, hC1⟩ := Kd.R_reads hr1
        subst hv1
        have HR1 := Aside0.mk (show Kd.R k63 63 w1 w.heap.size (fun k_ => w.heap.size ≤ k_) (.slice A1 ls.length c1) ls from hr1)
        have HB1 := Aside0.mk (show Below w.heap.size w w1 from ⟨hb1.os, hb1.tape, hb1.output, hb1.size, hb1.block⟩)
        clear hr1 hC1 hb1
        have kl := pw_cell_below HB1.out cl
        have ko := pw_cell_below HB1.out co
        refine ⟨_, rfl, ?_⟩
        refine hK.out _ _ ⟨kl, ko⟩ (fun hHeld => ?_)
        clear hK K
        refine norm_ (a' := ?_) ?_ ?_
        rotate_left
        · show Act.put _ (some 61) _ = _
          simp only [Act.put, List.setIfInBounds_toArray, List.set_cons_zero, List.set_cons_succ, i64_w, i32_w]
          rfl
        refine pure_ (i := 3) (N := some 62) (v := ?_) (a' := ?_) #[true, true, true, true, false, false, false] rfl rfl (by kernel_rfl) (fun _ _ _ h => h) (Or.inl ⟨by rfl, ?_⟩) ?_ ?_
        rotate_left
        · intro w'
          go_simp
          with_reducible rfl
        rotate_left
        · simp only [Act.put, List.setIfInBounds_toArray, List.set_cons_zero, List.set_cons_succ, i64_w, i32_w]
          rfl
        refine one_ (i := 4) (N := some 63) #[true, true, true, true, true, false, false] rfl rfl (by kernel_rfl) (by decide) (fun K hK => ?_)
        refine value_ (w1 := w1.alloc (.cells #[.slice A1 ls.length c1] 57)) (v := .slice (some ⟨w1.heap.size, 0, none⟩) 1 1) (by rfl) rfl ?_ ?_
        · first | (go_simp; done) | (go_simp; rfl)
        refine hK.out _ _ ⟨pw_cell_below (below_alloc (Below.refl _ _) _) kl, pw_cell_below (below_alloc (Below.refl _ _) _) ko⟩ (fun hHeld => ?_)
        clear hK K
        refine norm_ (a' := ?_) ?_ ?_
        rotate_left
        · show Act.put _ (some 63) _ = _
          simp only [Act.put, List.setIfInBounds_toArray, List.set_cons_zero, List.set_cons_succ, i64_w, i32_w]
          rfl
        refine one_ (i := 5) (N := some 64) #[true, true, true, true, true, true, false] rfl rfl (by kernel_rfl) (by decide) (fun K hK => ?_)
        refine Kd.S_append_step k57 (w0 := w0) w0.heap.size (by rfl) (.tmp 59) (.tmp 63) 33 57 _ 24 (by rfl) Try.underlying33 info57 rfl (by decide) (by omega) _ outs (⟨ls⟩ : S57) [.slice A1 ls.length c1] (fun k_ => some k_ ≠ (Value.slice A ls.length c).ownBlock) (fun k_ => w.heap.size ≤ k_) (by rfl) (by rfl) ?aP ?aK ?aF ?aO ?aB ?aS ?aL ?_
        case aP => exact k57_mkM _ _ _ (⟨ls⟩ : S57) (Kd.R_lower HR1.out (below_size HST.out.hb))
        case aK => exact fun k_ hk => ⟨fun he => Nat.lt_irrefl _ (Nat.lt_of_lt_of_le (Kd.R_lt HST.out.rl k_ he.symm) hk), fun he => Nat.lt_irrefl _ (Nat.lt_of_lt_of_le (Kd.S_lt HST.out.ro k_ he.symm) hk)⟩
        case aF => exact fun k_ hk he => Nat.lt_irrefl _ (Nat.lt_of_lt_of_le (Kd.R_lt HST.out.rl k_ he.symm) (Nat.le_trans HB1.out.size hk))
        case aO => exact Kd.S_mono (Kd.S_old HST.out.ro HB1.out) (fun k_ hk => ⟨hk.1, fun h2 => Nat.lt_irrefl _ (Nat.lt_of_lt_of_le hk.2 h2)⟩)
        case aB => exact (HST.out.below HB1.out).hb
        case aS => exact below_size (HST.out.below HB1.out).hb
        case aL => have := HSUM.out; omega
        intro v2 w2 hS2 hB2 hg2 hat2
        obtain ⟨A2, L2, c2, hv2⟩ : ∃ A L c, v2 = Value.slice A L c := by obtain ⟨A, c, h⟩ := Kd.S_slice hS2; exact ⟨A, _, c, h⟩
        subst hv2
        obtain ⟨hst2, hp2, jn, jf, jo, jz⟩ := (HST.out.below HB1.out).push hg2 hS2 hB2 hat2
        have HST2 := Aside0.mk hst2
        have HP2 := Aside0.mk ((impl_generate.Pst.below HB1.out).trans hp2)
        clear hst2 hp2 hS2 hB2 hg2 hat2
        refine hK.out _ _ ⟨jf, jo⟩ (fun hHeld => ?_)
        clear hK K
        refine norm_ (a' := ?_) ?_ ?_
        rotate_left
        · show Act.put _ (some 64) _ = _
          simp only [Act.put, List.setIfInBounds_toArray, List.set_cons_zero, List.set_cons_succ, i64_w, i32_w]
          rfl
        refine last_ (i := 6) (N := none) #[true, true, true, true, true, true, true] rfl rfl (by kernel_rfl) (by decide) (fun K hK => ?_)
        refine skip_ (w1 := ?_) (by rfl) rfl ?_ ?_
        rotate_left
        · go_simp
          rfl
        refine hK.out _ _ ?_
        clear hK K
        refine done_ (by kernel_rfl) ?_
        go_wp2
        go_meet
        case rel => exact ⟨_, _, ⟨by have h := HST2.out; rw [HA.out]; exact h⟩, ⟨HP2.out⟩⟩
    case rest =>
      obtain ⟨vl', vo', HST', HP'⟩ := hcut
      clear cs
      by_cases hl : 0 < left
      · have hlb : decide (0 < left) = true := decide_eq_true hl
        have HG := Aside0.mk (show impl_generate.genF s (k + 1) i left ls = impl_generate.genA s k i left ls ++ (impl_generate.genF s k i (left - 1) (ls ++ [⟨0, 116⟩]) ++ impl_generate.genF s k i (left - 1) (ls ++ [⟨0, 105⟩])) from by rw [impl_generate.genF_step, if_pos hl])
        have HSUM : Aside0 (outs.length + (impl_generate.genA s k i left ls ++ (impl_generate.genF s k i (left - 1) (ls ++ [⟨0, 116⟩]) ++ impl_generate.genF s k i (left - 1) (ls ++ [⟨0, 105⟩]))).length ≤ 1000000) := ⟨by have h := HOL.out; rw [HG.out] at h; exact h⟩
        go_upto_region 11 with (first | (go_at_call 51; refine (impl_generate.go1_calls w0 s gs gl gr go k HIH.out ⟨0, 116⟩ (i) (left - 1) ls (outs ++ impl_generate.genA s k i left ls) vl' vo' _ (by omega) (by omega) (by omega) (by omega) (by omega) (by have := HLL.out; omega) (by have := HSUM.out; simp only [List.length_append] at this ⊢; omega) (HST'.out.below (by first | exact Below.refl _ _ | exact below_drew (Below.refl _ _) | exact pw_below_drewN (Below.refl _ _) _))).mono ?_; rintro e w4 ⟨rfl, vl4, vo4, hst4, hp4⟩; have HST4 := Aside0.mk hst4; have HP4 := Aside0.mk (HP'.out.trans ((impl_generate.Pst.below (by first | exact Below.refl _ _ | exact below_drew (Below.refl _ _) | exact pw_below_drewN (Below.refl _ _) _)).trans hp4)); have kn4 : w4.cell? ⟨gs, 0, none⟩ = some (.string s) := (blk_cell hst4.hs 0).trans rfl; clear hst4 hp4))
        clear kn4
        go_wp2_with (first | (go_at_call 51; refine (impl_generate.go1_calls w0 s gs gl gr go k HIH.out ⟨0, 105⟩ (i) (left - 1) ls (outs ++ impl_generate.genA s k i left ls ++ impl_generate.genF s k i (left - 1) (ls ++ [⟨0, 116⟩])) vl4 vo4 _ (by omega) (by omega) (by omega) (by omega) (by omega) (by have := HLL.out; omega) (by have := HSUM.out; simp only [List.length_append] at this ⊢; omega) (HST4.out.below (by first | exact Below.refl _ _ | exact below_drew (Below.refl _ _) | exact pw_below_drewN (Below.refl _ _) _))).mono ?_; rintro e w5 ⟨rfl, vl5, vo5, hst5, hp5⟩; have HST5 := Aside0.mk hst5; have HP5 := Aside0.mk (HP4.out.trans ((impl_generate.Pst.below (by first | exact Below.refl _ _ | exact below_drew (Below.refl _ _) | exact pw_below_drewN (Below.refl _ _) _)).trans hp5)); have kn5 : w5.cell? ⟨gs, 0, none⟩ = some (.string s) := (blk_cell hst5.hs 0).trans rfl; clear hst5 hp5))
        go_end0
        exact ⟨rfl, vl5, vo5, by have h := HST5.out; rw [HG.out, ← List.append_assoc, ← List.append_assoc]; exact h, HP5.out⟩
      · have hlb : decide (0 < left) = false := decide_eq_false hl
        have HG := Aside0.mk (show impl_generate.genF s (k + 1) i left ls = impl_generate.genA s k i left ls from by rw [impl_generate.genF_step, if_neg hl, List.append_nil])
        go_wp2
        go_end0
        exact ⟨rfl, vl', vo', by have h := HST'.out; rw [HG.out]; exact h, HP'.out⟩
theorem impl_generate.genF_len (s : ByteArray) : ∀ (k : Nat) (i left : Int) (ls : List S63), (impl_generate.genF s k i left ls).length ≤ 5 ^ k := by
  intro k
  induction k with
  | zero => intro i left ls; simp [impl_generate.genF]
  | succ k ih =>
    intro i left ls
    have hp : 1 ≤ 5 ^ k := Nat.one_le_pow _ _ (by decide)
    have e : 5 ^ (k + 1) = 5 * 5 ^ k := by rw [Nat.pow_succ, Nat.mul_comm]
    rw [impl_generate.genF_step, List.length_append, e]
    have a1 : (impl_generate.genA s k i left ls).length ≤ 3 * 5 ^ k := by
      unfold impl_generate.genA
      split
      · rw [List.length_append]
        have b1 := ih (i + 1) left (ls ++ [⟨bt s i, bt s i⟩])
        split
        · rw [List.length_append]
          have b2 := ih (i + 1) (left - 1) (ls ++ [⟨bt s i, 0⟩])
          split
          · have b3 := ih (i + 1) (left - 1) (ls ++ [⟨bt s i, (impl_generate.sv (bt s i)).1⟩])
            omega
          · simp only [List.length_nil]; omega
        · simp only [List.length_nil]; omega
      · simp only [List.length_singleton]; omega
    split
    · rw [List.length_append]
      have b4 := ih i (left - 1) (ls ++ [⟨0, 116⟩])
      have b5 := ih i (left - 1) (ls ++ [⟨0, 105⟩])
      omega
    · simp only [List.length_nil]; omega
def impl_generate.f (a0 : ByteArray) (a1 : Int) : Option (List S57) := if a0.size ≤ 4 ∧ 0 ≤ a1 ∧ a1 ≤ 2 then some (impl_generate.genF a0 (a0.size + a1.toNat + 1) 0 a1 []) else none
set_option maxHeartbeats 4000000 in
set_option maxRecDepth 100000 in
theorem impl_generate.calls (a0 : ByteArray) (a1 : Int) (r : List S57) (w : World) (h : impl_generate.f a0 a1 = some r) :
    Calls Try.prog 39 #[.string a0, .int .i64 a1] w fun e w' => ∃ v0_ : Value, e = .returned v0_ ∧ Kd.S k57 57 w' w.heap.size (fun _ => True) v0_ r ∧ Below w.heap.size w w' := by
  unfold impl_generate.f at h
  split at h
  case isFalse => cases h
  case isTrue hh =>
  obtain rfl := Option.some.inj h
  clear h
  obtain ⟨hsz, h1, h4⟩ := hh
  have hmf : ∀ (fn : Fn) (first cap : Array Value) (w : World), (Instr.makeFunc fn first cap).run Try.prog w = .ok (.func fn first cap) w := fun _ _ _ _ => rfl
  go_enter Try.func39, Try.ntmps39
  go_upto_region 1 with (fail)
  go_upto_region 4 with (first
    | ((with_reducible refine gate_dst (N := 8) rfl ?_); refine Kd.S_lit k57 (w0 := w) w.heap.size 57 ?hg (N := 8) ?hd (xs := ([] : List S57)) (inner := []) (ok := fun k_ => w.heap.size ≤ k_) (okp := fun k_ => w.heap.size ≤ k_) ?hr ?hp (fun _ hk => hk) ?hf ?hb ?hs (by simp) ?_; (case hd => rfl); (case hg => rfl); (case hr => first | (go_simp; done) | (go_simp; rfl)); (case hp => exact (Reps.none _ _)); (case hf => simp); (case hb => exact below_alloc (Below.refl _ _) _); (case hs => simp); intro v1 w1 ho1 hb1 hg1 hnew1; obtain ⟨A1, L1, c1, hv1⟩ : ∃ A L c, v1 = Value.slice A L c := (by obtain ⟨A, c, h⟩ := Kd.S_slice ho1; exact ⟨A, _, c, h⟩); subst hv1)
    | ((with_reducible refine gate_dst (N := 9) rfl ?_); refine Kd.R_lit k63 (w0 := w) w.heap.size 63 ?hg (N := 9) ?hd (xs := ([] : List (S63))) (inner := []) (ok := fun _ => True) (okp := fun _ => True) ?hr ?hp (fun _ hk => hk) trivial ?hb ?hs (by simp) ?_; (case hd => rfl); (case hg => rfl); (case hr => first | (go_simp; done) | (go_simp; rfl)); (case hp => exact (Reps.none _ _)); (case hb => exact hb1); (case hs => exact hb1.size); intro v2 w2 ho2 hb2 hg2 hnew2; obtain ⟨A2, L2, c2, hv2⟩ : ∃ A L c, v2 = Value.slice A L c := (by obtain ⟨A, c, h⟩ := Kd.R_slice ho2; exact ⟨A, _, c, h⟩); subst hv2))
  have HO1 := Aside0.mk ho1
  have HO2 := Aside0.mk ho2
  obtain ⟨b2, hn2, hle2⟩ := hnew2
  have wn : w2.heap[w.heap.size]? = some (.cells #[.string a0] 9 (0, 0)) :=
    (hg2.block _ (Nat.lt_of_lt_of_le (blk_lt (Go.heap_alloc_last w (.cells #[.string a0] 9))) hg1.size) (by simp)).trans ((hg1.block _ (blk_lt (Go.heap_alloc_last w (.cells #[.string a0] 9))) (by simp)).trans (Go.heap_alloc_last w _))
  have z1 := Nat.le_trans hb1.size hg2.size
  have ro : Kd.S k57 57 w2 w.heap.size (fun k_ => some k_ ≠ (Value.slice A2 L2 c2).ownBlock) (.slice A1 L1 c1) [] :=
    Kd.S_mono (Kd.S_grown (Kd.S_bound HO1.out) hg2 (fun k_ hk => by simp)) (fun k_ hk => by rw [hn2]; intro he; injection he with he; have := hk.2.2.1; omega)
  have b1 := below_alloc hb2 (.cells #[.slice A1 L1 c1] 33)
  have b2' := below_alloc b1 (.cells #[.slice A2 L2 c2] 55)
  have b3 := below_alloc b2' (.cells #[.func (.func 50) #[] #[.pointer (some ⟨w2.heap.size + 1, 0, none⟩), .pointer (some ⟨w2.heap.size + 1 + 1, 0, none⟩), .pointer (some ⟨w.heap.size, 0, none⟩), .pointer (some ⟨w2.heap.size, 0, none⟩)]] 66)
  have hst : impl_generate.St w a0 w.heap.size (w2.heap.size + 1) (w2.heap.size + 1 + 1) w2.heap.size (((w2.alloc (.cells #[.slice A1 L1 c1] 33)).alloc (.cells #[.slice A2 L2 c2] 55)).alloc (.cells #[.func (.func 50) #[] #[.pointer (some ⟨w2.heap.size + 1, 0, none⟩), .pointer (some ⟨w2.heap.size + 1 + 1, 0, none⟩), .pointer (some ⟨w.heap.size, 0, none⟩), .pointer (some ⟨w2.heap.size, 0, none⟩)]] 66)) (.slice A2 L2 c2) (.slice A1 L1 c1) [] [] :=
    ⟨blk_alloc (blk_alloc (blk_alloc wn _) _) _, by
      have h := Go.heap_alloc_last (w2.alloc (.cells #[.slice A1 L1 c1] 33)) (.cells #[.slice A2 L2 c2] 55)
      have h' := blk_alloc h (.cells #[.func (.func 50) #[] #[.pointer (some ⟨w2.heap.size + 1, 0, none⟩), .pointer (some ⟨w2.heap.size + 1 + 1, 0, none⟩), .pointer (some ⟨w.heap.size, 0, none⟩), .pointer (some ⟨w2.heap.size, 0, none⟩)]] 66)
      simpa using h', blk_alloc (blk_alloc (Go.heap_alloc_last w2 _) _) _, by
      have h := Go.heap_alloc_last ((w2.alloc (.cells #[.slice A1 L1 c1] 33)).alloc (.cells #[.slice A2 L2 c2] 55)) (.cells #[.func (.func 50) #[] #[.pointer (some ⟨w2.heap.size + 1, 0, none⟩), .pointer (some ⟨w2.heap.size + 1 + 1, 0, none⟩), .pointer (some ⟨w.heap.size, 0, none⟩), .pointer (some ⟨w2.heap.size, 0, none⟩)]] 66)
      simpa using h, Kd.R_alloc (Kd.R_alloc (Kd.R_alloc HO2.out _) _) _, Kd.S_alloc (Kd.S_alloc (Kd.S_alloc ro _) _) _, b3, by omega, by omega⟩
  have HST := Aside0.mk hst
  clear hst b1 b2' b3 ro ho1 ho2
  have HLEN : Aside0 ((impl_generate.genF a0 (a0.size + a1.toNat + 1) 0 a1 []).length ≤ 1000000) := ⟨Nat.le_trans (impl_generate.genF_len a0 _ 0 a1 []) (Nat.le_trans (Nat.pow_le_pow_right (by decide) (show a0.size + a1.toNat + 1 ≤ 7 by omega)) (by decide))⟩
  generalize hgo : w2.heap.size = go at HST ⊢
  generalize ((w2.alloc (.cells #[.slice A1 L1 c1] 33)).alloc (.cells #[.slice A2 L2 c2] 55)).alloc (.cells #[.func (.func 50) #[] #[.pointer (some ⟨go + 1, 0, none⟩), .pointer (some ⟨go + 1 + 1, 0, none⟩), .pointer (some ⟨w.heap.size, 0, none⟩), .pointer (some ⟨go, 0, none⟩)]] 66) = w3 at HST ⊢
  have cr := blk_cell HST.out.hr 0
  simp only [List.getElem?_toArray, List.getElem?_cons_zero] at cr
  clear hb1 hb2 hg1 hg2 wn hn2
  go_upto_region 5 with (first
    | (go_at_call 50; refine (impl_generate.rest_calls w a0 (by omega) w.heap.size (go + 1) (go + 1 + 1) go (a0.size + a1.toNat + 1) 0 a1 [] [] (.slice A2 L2 c2) (.slice A1 L1 c1) _ (by omega) (Int.le_refl _) (by omega) h1 (by omega) (by simp only [List.length_nil]; omega) (by have := HLEN.out; simp only [List.length_nil]; omega) HST.out).mono ?_; rintro e w4 ⟨rfl, vf4, vo4, hst4, hp4⟩; have HST4 := Aside0.mk hst4; clear hst4 hp4))
  have co := blk_cell HST4.out.ho 0
  simp only [List.getElem?_toArray, List.getElem?_cons_zero] at co
  clear cr
  go_wp2
  go_ret
  exact ⟨_, rfl, Kd.S_mono HST4.out.ro (fun _ _ => trivial), HST4.out.hb⟩

/-! ### impl_Generate: function 18 -/
def impl_Generate.f (k : Nat) (a0 : ByteArray) : Option ((List (S57))) := (impl_IsForm.f k a0).bind fun t173 => (if t173 = true then (if (a0.size : Int) > 4 then (some ([] : List (S57))) else ((impl_generate.f a0 2).bind fun t174 => (some t174))) else (some ([] : List (S57))))
theorem impl_Generate.mono : ∀ a0 k, LeO (impl_Generate.f k a0) (impl_Generate.f (k + 1) a0) := by
  intro a0 k
  unfold impl_Generate.f
  repeat' first
      | (with_reducible exact impl_IsForm.mono _ _)
      | (with_reducible exact LeO.refl _)
      | (with_reducible exact LeO.none _)
      | (with_reducible refine LeO.ite ?_ ?_)
      | (with_reducible refine LeO.bind ?_ (fun _ => ?_))
      | exact impl_IsForm.mono _ _
      | exact LeO.none _
      | refine LeO.ite ?_ ?_
      | refine LeO.bind ?_ (fun _ => ?_)
set_option maxHeartbeats 8000000 in
set_option maxRecDepth 100000 in
theorem impl_Generate.calls (k : Nat) (a0 : ByteArray) (r : List (S57)) (w : World) (h : impl_Generate.f k a0 = some r) :
    Calls Try.prog 18 #[.string a0] w fun e w' => ∃ v0_ : Value, e = .returned (v0_) ∧ Kd.S k57 57 w' w.heap.size (fun _ => True) v0_ r ∧ Below w.heap.size w w' := by
  have HB := Aside0.mk (Below.refl w.heap.size w)
  have H : ((impl_IsForm.f k a0).bind fun t173 => (if t173 = true then (if (a0.size : Int) > 4 then (some ([] : List (S57))) else ((impl_generate.f a0 2).bind fun t174 => (some t174))) else (some ([] : List (S57))))) = some r := h
  clear h
  replace H := Option.bind_eq_some_iff.mp H
  obtain ⟨t173, A20, H⟩ := H
  replace H : (if t173 = true then (if (a0.size : Int) > 4 then (some ([] : List (S57))) else ((impl_generate.f a0 2).bind fun t174 => (some t174))) else (some ([] : List (S57)))) = some r := H
  have A2 := Aside0.mk A20
  clear A20
  by_cases c3 : t173 = true
  · subst c3
    have H1 : (if (a0.size : Int) > 4 then (some ([] : List (S57))) else ((impl_generate.f a0 2).bind fun t174 => (some t174))) = some r := by rw [if_pos rfl] at H; exact H
    clear H
    have H := H1
    clear H1
    by_cases c4 : (a0.size : Int) > 4
    · rw [if_pos c4] at H
      have c4b0 : decide (4 < (a0.size : Int)) = true := decide_eq_true c4
      have c4b1 : decide (4 < a0.size) = true := decide_eq_true (by omega)
      clear c4
      obtain rfl := Option.some.inj H
      go_enter Try.func18, Try.ntmps18
      go_wp2_with (first | ((with_reducible refine gate_callee (f := 38) rfl ?_); refine goesL_ (some 4) rfl rfl Try.func38 (by kernel_rfl) rfl #[.string a0] rfl (by (try simp only [List.map_toArray, List.map_cons, List.map_nil]); first | done | rfl | (simp only [List.length_drop, List.length_take]; rfl)) ?_; (with_reducible refine (impl_IsForm.calls k a0 true _ A2.out).mono ?_); rintro e w' ⟨rfl, ⟨nd, rfl⟩⟩; refine ⟨_, rfl, ?_⟩))
      go_ret
      exact ⟨_, by first | rfl | (simp [errW_none, errW_some] <;> rfl) | (simp [*, errW_none, errW_some] <;> rfl), by first | exact Kd.S_nil _ _ _ _ _ | exact Kd.N_nil _ _ _ _ _ | exact Kd.V_nil _ _ _ _ _ | exact Kd.Q_nil _ _ _ _ _ | exact Kd.R_nil _ _ _ _ _, by repeat (first | (with_reducible first | exact HB.out | apply below_alloc | apply pw_below_drewN | apply below_drew1) | exact HB.out)⟩
    · rw [if_neg c4] at H
      have c4b0 : decide (4 < (a0.size : Int)) = false := decide_eq_false c4
      have c4b1 : decide (4 < a0.size) = false := decide_eq_false (by omega)
      clear c4
      replace H := Option.bind_eq_some_iff.mp H
      obtain ⟨t174, A50, H⟩ := H
      replace H : (some t174) = some r := H
      have A5 := Aside0.mk A50
      clear A50
      obtain rfl := Option.some.inj H
      go_enter Try.func18, Try.ntmps18
      go_wp2_with (first | ((with_reducible refine gate_callee (f := 38) rfl ?_); refine goesL_ (some 4) rfl rfl Try.func38 (by kernel_rfl) rfl #[.string a0] rfl (by (try simp only [List.map_toArray, List.map_cons, List.map_nil]); first | done | rfl | (simp only [List.length_drop, List.length_take]; rfl)) ?_; (with_reducible refine (impl_IsForm.calls k a0 true _ A2.out).mono ?_); rintro e w' ⟨rfl, ⟨nd, rfl⟩⟩; refine ⟨_, rfl, ?_⟩) | ((with_reducible refine gate_callee (f := 39) rfl ?_); refine goesL_ (some 12) rfl rfl Try.func39 (by kernel_rfl) rfl #[.string a0, .int .i64 2] rfl (by (try simp only [List.map_toArray, List.map_cons, List.map_nil]); first | done | rfl | (simp only [List.length_drop, List.length_take]; rfl)) ?_; (with_reducible refine (impl_generate.calls a0 2 t174 _ A5.out).mono ?_); rintro e w6 ⟨v175, rfl, ho0, hb⟩; refine ⟨_, rfl, ?_⟩; have n0_ := Aside0.mk (Kd.S_lower ho0 (below_size (by repeat (first | (with_reducible first | exact HB.out | apply below_alloc | apply pw_below_drewN | apply below_drew1) | exact HB.out)))); have n1_ := Aside0.mk (below_step (by repeat (first | (with_reducible first | exact HB.out | apply below_alloc | apply pw_below_drewN | apply below_drew1) | exact HB.out)) hb); clear HB; have HO176 := n0_; have HB := n1_; clear n0_ n1_; (try clear hb); (try clear hb2); (try clear hk); (try clear hi); (try clear ho0)))
      go_ret
      exact ⟨_, by first | rfl | (simp [errW_none, errW_some] <;> rfl) | (simp [*, errW_none, errW_some] <;> rfl), by (with_reducible repeat (first | apply Kd.S_alloc | apply Kd.S_drewN | apply Kd.S_drew)); exact HO176.out, by repeat (first | (with_reducible first | exact HB.out | apply below_alloc | apply pw_below_drewN | apply below_drew1) | exact HB.out)⟩
  · replace c3 := Bool.eq_false_iff.mpr c3
    subst c3
    have H1 : (some ([] : List (S57))) = some r := by rw [if_neg (show ¬ (false = true) by decide)] at H; exact H
    clear H
    have H := H1
    clear H1
    obtain rfl := Option.some.inj H
    go_enter Try.func18, Try.ntmps18
    go_wp2_with (first | ((with_reducible refine gate_callee (f := 38) rfl ?_); refine goesL_ (some 4) rfl rfl Try.func38 (by kernel_rfl) rfl #[.string a0] rfl (by (try simp only [List.map_toArray, List.map_cons, List.map_nil]); first | done | rfl | (simp only [List.length_drop, List.length_take]; rfl)) ?_; (with_reducible refine (impl_IsForm.calls k a0 false _ A2.out).mono ?_); rintro e w' ⟨rfl, ⟨nd, rfl⟩⟩; refine ⟨_, rfl, ?_⟩))
    go_ret
    exact ⟨_, by first | rfl | (simp [errW_none, errW_some] <;> rfl) | (simp [*, errW_none, errW_some] <;> rfl), by first | exact Kd.S_nil _ _ _ _ _ | exact Kd.N_nil _ _ _ _ _ | exact Kd.V_nil _ _ _ _ _ | exact Kd.Q_nil _ _ _ _ _ | exact Kd.R_nil _ _ _ _ _, by repeat (first | (with_reducible first | exact HB.out | apply below_alloc | apply pw_below_drewN | apply below_drew1) | exact HB.out)⟩

/-! ### laws_eqLink: function 59 -/
def laws_eqLink.f (a0_0 : Int) (a0_1 : Int) (a1_0 : Int) (a1_1 : Int) : Option (Bool) := if a0_0 = a1_0 then (if a0_1 = a1_1 then (some true) else (some false)) else (some false)
set_option maxHeartbeats 8000000 in
set_option maxRecDepth 100000 in
theorem laws_eqLink.calls (a0_0 : Int) (a0_1 : Int) (a1_0 : Int) (a1_1 : Int) (r : Bool) (w : World) (h : laws_eqLink.f a0_0 a0_1 a1_0 a1_1 = some r) :
    Calls Try.prog 59 #[.agg #[.int .u8 a0_0, .int .u8 a0_1], .agg #[.int .u8 a1_0, .int .u8 a1_1]] w fun e w' => e = .returned (.bool r) ∧ Below w.heap.size w w' := by
  have hu63 := Try.underlying63
  have HB := Aside0.mk (Below.refl w.heap.size w)
  have H : (if a0_0 = a1_0 then (if a0_1 = a1_1 then (some true) else (some false)) else (some false)) = some r := h
  clear h
  by_cases c3 : a0_0 = a1_0
  · rw [if_pos c3] at H
    have c3b0 : (a0_0 == a1_0) = true := beq_iff_eq.mpr c3
    have c3b1 : (a0_0 != a1_0) = false := bne_eq_false_iff_eq.mpr c3
    clear c3
    by_cases c4 : a0_1 = a1_1
    · rw [if_pos c4] at H
      have c4b0 : (a0_1 == a1_1) = true := beq_iff_eq.mpr c4
      have c4b1 : (a0_1 != a1_1) = false := bne_eq_false_iff_eq.mpr c4
      clear c4
      obtain rfl := Option.some.inj H
      go_enter Try.func59, Try.ntmps59
      go_wp2_with (first | ((with_reducible refine gate_dst (N := 2) rfl ?_); refine box_event ?hg (N := 2) ?hd (cs := #[.int .u8 a0_0, .int .u8 a0_1]) (t := 63) ?hr ?_; (case hd => rfl); (case hg => rfl); (case hr => first | (go_simp; done) | (go_simp; rfl)); intro gb177 hg w5 hbox hb; have n0_ := Aside0.mk (below_step (by repeat (first | (with_reducible first | exact HB.out | apply below_alloc | apply pw_below_drewN | apply below_drew1) | exact HB.out)) hb); have n1_ := Aside0.mk (hbox); have n2_ := Aside0.mk ((by rw [hg]; exact (below_size (by repeat (first | (with_reducible first | exact HB.out | apply below_alloc | apply pw_below_drewN | apply below_drew1) | exact HB.out))) : w.heap.size ≤ gb177)); have n3_ := Aside0.mk ((by rw [hg]; exact (below_size (by repeat (first | (with_reducible first | exact HB.out | apply below_alloc | apply pw_below_drewN | apply below_drew1) | exact HB.out))) : w.heap.size ≤ gb177)); clear HB; have HB := n0_; have BK177 := n1_; have GW177 := n2_; have GE177 := n3_; clear n0_ n1_ n2_ n3_; clear hb hbox hg) | ((with_reducible refine gate_dst (N := 3) rfl ?_); refine box_event ?hg (N := 3) ?hd (cs := #[.int .u8 a1_0, .int .u8 a1_1]) (t := 63) ?hr ?_; (case hd => rfl); (case hg => rfl); (case hr => first | (go_simp; done) | (go_simp; rfl)); intro gb178 hg w6 hbox hb; have n0_ := Aside0.mk (blk_below (g := gb177) (o := .cells #[.int .u8 a0_0, .int .u8 a0_1] 63 (0, 0)) (by (with_reducible repeat (first | refine blk_drewN ?_ _ | refine blk_drew ?_ | refine blk_alloc ?_ _)); exact BK177.out) hb); have n1_ := Aside0.mk (below_step (by repeat (first | (with_reducible first | exact HB.out | apply below_alloc | apply pw_below_drewN | apply below_drew1 | refine below_set ?_ GE177.out) | exact HB.out)) hb); have n2_ := Aside0.mk (hbox); have n3_ := Aside0.mk ((by rw [hg]; exact (below_size (by repeat (first | (with_reducible first | exact HB.out | apply below_alloc | apply pw_below_drewN | apply below_drew1 | refine below_set ?_ GE177.out) | exact HB.out))) : w.heap.size ≤ gb178)); have n4_ := Aside0.mk ((by rw [hg]; exact (below_size (by repeat (first | (with_reducible first | exact HB.out | apply below_alloc | apply pw_below_drewN | apply below_drew1 | refine below_set ?_ GE177.out) | exact HB.out))) : w.heap.size ≤ gb178)); have n5_ := Aside0.mk ((by rw [hg]; exact Nat.ne_of_lt (blk_lt (g := gb177) (o := .cells #[.int .u8 a0_0, .int .u8 a0_1] 63 (0, 0)) (by (with_reducible repeat (first | refine blk_drewN ?_ _ | refine blk_drew ?_ | refine blk_alloc ?_ _)); exact BK177.out)) : gb177 ≠ gb178)); have n6_ := Aside0.mk ((by rw [hg]; exact Nat.ne_of_gt (blk_lt (g := gb177) (o := .cells #[.int .u8 a0_0, .int .u8 a0_1] 63 (0, 0)) (by (with_reducible repeat (first | refine blk_drewN ?_ _ | refine blk_drew ?_ | refine blk_alloc ?_ _)); exact BK177.out)) : gb178 ≠ gb177)); clear BK177; clear HB; have BK177 := n0_; have HB := n1_; have BK178 := n2_; have GW178 := n3_; have GE178 := n4_; have NB177_178 := n5_; have NB178_177 := n6_; clear n0_ n1_ n2_ n3_ n4_ n5_ n6_; clear hb hbox hg; have hnb7 := NB177_178.out; have hnc7 := NB178_177.out; have hcz8_0 : w6.cell? ⟨gb177, 0, none⟩ = some (.int .u8 a0_0) := (blk_cell BK177.out 0).trans rfl; have hcz8_1 : w6.cell? ⟨gb177, 1, none⟩ = some (.int .u8 a0_1) := (blk_cell BK177.out 1).trans rfl; have hfz8_0 := blk_frozen BK177.out 0; have hfz8_1 := blk_frozen BK177.out 1; have hcz9_0 : w6.cell? ⟨gb178, 0, none⟩ = some (.int .u8 a1_0) := (blk_cell BK178.out 0).trans rfl; have hcz9_1 : w6.cell? ⟨gb178, 1, none⟩ = some (.int .u8 a1_1) := (blk_cell BK178.out 1).trans rfl; have hfz9_0 := blk_frozen BK178.out 0; have hfz9_1 := blk_frozen BK178.out 1))
      go_ret
      exact ⟨by first | rfl | (simp [errW_none, errW_some] <;> rfl) | (simp [*, errW_none, errW_some] <;> rfl), by repeat (first | (with_reducible first | exact HB.out | apply below_alloc | apply pw_below_drewN | apply below_drew1 | refine below_set ?_ GE177.out | refine below_set ?_ GE178.out) | exact HB.out)⟩
    · rw [if_neg c4] at H
      have c4b0 : (a0_1 == a1_1) = false := beq_eq_false_iff_ne.mpr c4
      have c4b1 : (a0_1 != a1_1) = true := bne_iff_ne.mpr c4
      obtain rfl := Option.some.inj H
      go_enter Try.func59, Try.ntmps59
      go_wp2_with (first | ((with_reducible refine gate_dst (N := 2) rfl ?_); refine box_event ?hg (N := 2) ?hd (cs := #[.int .u8 a0_0, .int .u8 a0_1]) (t := 63) ?hr ?_; (case hd => rfl); (case hg => rfl); (case hr => first | (go_simp; done) | (go_simp; rfl)); intro gb177 hg w10 hbox hb; have n0_ := Aside0.mk (below_step (by repeat (first | (with_reducible first | exact HB.out | apply below_alloc | apply pw_below_drewN | apply below_drew1) | exact HB.out)) hb); have n1_ := Aside0.mk (hbox); have n2_ := Aside0.mk ((by rw [hg]; exact (below_size (by repeat (first | (with_reducible first | exact HB.out | apply below_alloc | apply pw_below_drewN | apply below_drew1) | exact HB.out))) : w.heap.size ≤ gb177)); have n3_ := Aside0.mk ((by rw [hg]; exact (below_size (by repeat (first | (with_reducible first | exact HB.out | apply below_alloc | apply pw_below_drewN | apply below_drew1) | exact HB.out))) : w.heap.size ≤ gb177)); clear HB; have HB := n0_; have BK177 := n1_; have GW177 := n2_; have GE177 := n3_; clear n0_ n1_ n2_ n3_; clear hb hbox hg) | ((with_reducible refine gate_dst (N := 3) rfl ?_); refine box_event ?hg (N := 3) ?hd (cs := #[.int .u8 a1_0, .int .u8 a1_1]) (t := 63) ?hr ?_; (case hd => rfl); (case hg => rfl); (case hr => first | (go_simp; done) | (go_simp; rfl)); intro gb178 hg w11 hbox hb; have n0_ := Aside0.mk (blk_below (g := gb177) (o := .cells #[.int .u8 a0_0, .int .u8 a0_1] 63 (0, 0)) (by (with_reducible repeat (first | refine blk_drewN ?_ _ | refine blk_drew ?_ | refine blk_alloc ?_ _)); exact BK177.out) hb); have n1_ := Aside0.mk (below_step (by repeat (first | (with_reducible first | exact HB.out | apply below_alloc | apply pw_below_drewN | apply below_drew1 | refine below_set ?_ GE177.out) | exact HB.out)) hb); have n2_ := Aside0.mk (hbox); have n3_ := Aside0.mk ((by rw [hg]; exact (below_size (by repeat (first | (with_reducible first | exact HB.out | apply below_alloc | apply pw_below_drewN | apply below_drew1 | refine below_set ?_ GE177.out) | exact HB.out))) : w.heap.size ≤ gb178)); have n4_ := Aside0.mk ((by rw [hg]; exact (below_size (by repeat (first | (with_reducible first | exact HB.out | apply below_alloc | apply pw_below_drewN | apply below_drew1 | refine below_set ?_ GE177.out) | exact HB.out))) : w.heap.size ≤ gb178)); have n5_ := Aside0.mk ((by rw [hg]; exact Nat.ne_of_lt (blk_lt (g := gb177) (o := .cells #[.int .u8 a0_0, .int .u8 a0_1] 63 (0, 0)) (by (with_reducible repeat (first | refine blk_drewN ?_ _ | refine blk_drew ?_ | refine blk_alloc ?_ _)); exact BK177.out)) : gb177 ≠ gb178)); have n6_ := Aside0.mk ((by rw [hg]; exact Nat.ne_of_gt (blk_lt (g := gb177) (o := .cells #[.int .u8 a0_0, .int .u8 a0_1] 63 (0, 0)) (by (with_reducible repeat (first | refine blk_drewN ?_ _ | refine blk_drew ?_ | refine blk_alloc ?_ _)); exact BK177.out)) : gb178 ≠ gb177)); clear BK177; clear HB; have BK177 := n0_; have HB := n1_; have BK178 := n2_; have GW178 := n3_; have GE178 := n4_; have NB177_178 := n5_; have NB178_177 := n6_; clear n0_ n1_ n2_ n3_ n4_ n5_ n6_; clear hb hbox hg; have hnb12 := NB177_178.out; have hnc12 := NB178_177.out; have hcz13_0 : w11.cell? ⟨gb177, 0, none⟩ = some (.int .u8 a0_0) := (blk_cell BK177.out 0).trans rfl; have hcz13_1 : w11.cell? ⟨gb177, 1, none⟩ = some (.int .u8 a0_1) := (blk_cell BK177.out 1).trans rfl; have hfz13_0 := blk_frozen BK177.out 0; have hfz13_1 := blk_frozen BK177.out 1; have hcz14_0 : w11.cell? ⟨gb178, 0, none⟩ = some (.int .u8 a1_0) := (blk_cell BK178.out 0).trans rfl; have hcz14_1 : w11.cell? ⟨gb178, 1, none⟩ = some (.int .u8 a1_1) := (blk_cell BK178.out 1).trans rfl; have hfz14_0 := blk_frozen BK178.out 0; have hfz14_1 := blk_frozen BK178.out 1))
      go_ret
      exact ⟨by first | rfl | (simp [errW_none, errW_some] <;> rfl) | (simp [*, errW_none, errW_some] <;> rfl), by repeat (first | (with_reducible first | exact HB.out | apply below_alloc | apply pw_below_drewN | apply below_drew1 | refine below_set ?_ GE177.out | refine below_set ?_ GE178.out) | exact HB.out)⟩
  · rw [if_neg c3] at H
    have c3b0 : (a0_0 == a1_0) = false := beq_eq_false_iff_ne.mpr c3
    have c3b1 : (a0_0 != a1_0) = true := bne_iff_ne.mpr c3
    obtain rfl := Option.some.inj H
    go_enter Try.func59, Try.ntmps59
    go_wp2_with (first | ((with_reducible refine gate_dst (N := 2) rfl ?_); refine box_event ?hg (N := 2) ?hd (cs := #[.int .u8 a0_0, .int .u8 a0_1]) (t := 63) ?hr ?_; (case hd => rfl); (case hg => rfl); (case hr => first | (go_simp; done) | (go_simp; rfl)); intro gb177 hg w15 hbox hb; have n0_ := Aside0.mk (below_step (by repeat (first | (with_reducible first | exact HB.out | apply below_alloc | apply pw_below_drewN | apply below_drew1) | exact HB.out)) hb); have n1_ := Aside0.mk (hbox); have n2_ := Aside0.mk ((by rw [hg]; exact (below_size (by repeat (first | (with_reducible first | exact HB.out | apply below_alloc | apply pw_below_drewN | apply below_drew1) | exact HB.out))) : w.heap.size ≤ gb177)); have n3_ := Aside0.mk ((by rw [hg]; exact (below_size (by repeat (first | (with_reducible first | exact HB.out | apply below_alloc | apply pw_below_drewN | apply below_drew1) | exact HB.out))) : w.heap.size ≤ gb177)); clear HB; have HB := n0_; have BK177 := n1_; have GW177 := n2_; have GE177 := n3_; clear n0_ n1_ n2_ n3_; clear hb hbox hg) | ((with_reducible refine gate_dst (N := 3) rfl ?_); refine box_event ?hg (N := 3) ?hd (cs := #[.int .u8 a1_0, .int .u8 a1_1]) (t := 63) ?hr ?_; (case hd => rfl); (case hg => rfl); (case hr => first | (go_simp; done) | (go_simp; rfl)); intro gb178 hg w16 hbox hb; have n0_ := Aside0.mk (blk_below (g := gb177) (o := .cells #[.int .u8 a0_0, .int .u8 a0_1] 63 (0, 0)) (by (with_reducible repeat (first | refine blk_drewN ?_ _ | refine blk_drew ?_ | refine blk_alloc ?_ _)); exact BK177.out) hb); have n1_ := Aside0.mk (below_step (by repeat (first | (with_reducible first | exact HB.out | apply below_alloc | apply pw_below_drewN | apply below_drew1 | refine below_set ?_ GE177.out) | exact HB.out)) hb); have n2_ := Aside0.mk (hbox); have n3_ := Aside0.mk ((by rw [hg]; exact (below_size (by repeat (first | (with_reducible first | exact HB.out | apply below_alloc | apply pw_below_drewN | apply below_drew1 | refine below_set ?_ GE177.out) | exact HB.out))) : w.heap.size ≤ gb178)); have n4_ := Aside0.mk ((by rw [hg]; exact (below_size (by repeat (first | (with_reducible first | exact HB.out | apply below_alloc | apply pw_below_drewN | apply below_drew1 | refine below_set ?_ GE177.out) | exact HB.out))) : w.heap.size ≤ gb178)); have n5_ := Aside0.mk ((by rw [hg]; exact Nat.ne_of_lt (blk_lt (g := gb177) (o := .cells #[.int .u8 a0_0, .int .u8 a0_1] 63 (0, 0)) (by (with_reducible repeat (first | refine blk_drewN ?_ _ | refine blk_drew ?_ | refine blk_alloc ?_ _)); exact BK177.out)) : gb177 ≠ gb178)); have n6_ := Aside0.mk ((by rw [hg]; exact Nat.ne_of_gt (blk_lt (g := gb177) (o := .cells #[.int .u8 a0_0, .int .u8 a0_1] 63 (0, 0)) (by (with_reducible repeat (first | refine blk_drewN ?_ _ | refine blk_drew ?_ | refine blk_alloc ?_ _)); exact BK177.out)) : gb178 ≠ gb177)); clear BK177; clear HB; have BK177 := n0_; have HB := n1_; have BK178 := n2_; have GW178 := n3_; have GE178 := n4_; have NB177_178 := n5_; have NB178_177 := n6_; clear n0_ n1_ n2_ n3_ n4_ n5_ n6_; clear hb hbox hg; have hnb17 := NB177_178.out; have hnc17 := NB178_177.out; have hcz18_0 : w16.cell? ⟨gb177, 0, none⟩ = some (.int .u8 a0_0) := (blk_cell BK177.out 0).trans rfl; have hcz18_1 : w16.cell? ⟨gb177, 1, none⟩ = some (.int .u8 a0_1) := (blk_cell BK177.out 1).trans rfl; have hfz18_0 := blk_frozen BK177.out 0; have hfz18_1 := blk_frozen BK177.out 1; have hcz19_0 : w16.cell? ⟨gb178, 0, none⟩ = some (.int .u8 a1_0) := (blk_cell BK178.out 0).trans rfl; have hcz19_1 : w16.cell? ⟨gb178, 1, none⟩ = some (.int .u8 a1_1) := (blk_cell BK178.out 1).trans rfl; have hfz19_0 := blk_frozen BK178.out 0; have hfz19_1 := blk_frozen BK178.out 1))
    go_ret
    exact ⟨by first | rfl | (simp [errW_none, errW_some] <;> rfl) | (simp [*, errW_none, errW_some] <;> rfl), by repeat (first | (with_reducible first | exact HB.out | apply below_alloc | apply pw_below_drewN | apply below_drew1 | refine below_set ?_ GE177.out | refine below_set ?_ GE178.out) | exact HB.out)⟩

end Go.Proofs.Ytnnineobacckgaa.PFnExactGenerate
