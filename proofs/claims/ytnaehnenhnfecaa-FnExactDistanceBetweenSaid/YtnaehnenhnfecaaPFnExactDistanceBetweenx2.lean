-- written for this claim by a program of this session (wip/patch_print.py over the kit's print)
import Derived.Test.YtnaehnenhnfecaaPFnExactDistanceBetweenx0
import Derived.Test.YtnaehnenhnfecaaPFnExactDistanceBetweenx1
namespace Go.Proofs.Ytnaehnenhnfecaa.PFnExactDistanceBetween
open Go.RowKit Go.Proofs.YtnaehnenhnfecaaW.PrintWords Go.Proofs.YtnaehnenhnfecaaW.PrintLast Go.Proofs.YtnaehnenhnfecaaW.PrintMore
attribute [local go_sem] max2_int min2_int max_two min_two max_three min_three max_four min_four   -- for this text's walks alone
set_option linter.unusedVariables false
set_option linter.unusedSimpArgs false

/-! ### impl_areSounds: function 51 -/
def impl_areSounds.l0 : Nat → ByteArray → Int → Int → Option (Bool)
  | 0, _, _, _ => none
  | k + 1, x0, x5, x6 => if x6 < x5 then (if 0 ≤ x6 then (if x6 < (x0.size : Int) then ((impl_IsSound.f (bt x0 x6)).bind fun t127 => (if t127 = true then (impl_areSounds.l0 k x0 x5 (wrap64 (x6 + 1))) else (some false))) else (none)) else (none)) else ((impl_within.f (x0.size : Int) 1 20).bind fun t128 => (some t128))
def impl_areSounds.f (k : Nat) (a0 : ByteArray) : Option (Bool) := impl_areSounds.l0 k a0 (a0.size : Int) 0
theorem impl_areSounds.mono_l : ∀ k, (∀ y0 y1 y2, LeO (impl_areSounds.l0 k y0 y1 y2) (impl_areSounds.l0 (k + 1) y0 y1 y2))
  | 0 => fun _ _ _ r h => by simp [impl_areSounds.l0] at h
  | k + 1 => by
    have ih0 := impl_areSounds.mono_l k
    · intro y0 y1 y2
      unfold impl_areSounds.l0
      repeat' first
      | (with_reducible exact ih0 _ _ _)
      | (with_reducible exact LeO.refl _)
      | (with_reducible exact LeO.none _)
      | (with_reducible refine LeO.ite ?_ ?_)
      | (with_reducible refine LeO.bind ?_ (fun _ => ?_))
      | exact ih0 _ _ _
      | exact LeO.none _
      | refine LeO.ite ?_ ?_
      | refine LeO.bind ?_ (fun _ => ?_)
theorem impl_areSounds.mono : ∀ a0 k, LeO (impl_areSounds.f k a0) (impl_areSounds.f (k + 1) a0) := by
  intro a0 k
  have ih0 := impl_areSounds.mono_l k
  unfold impl_areSounds.f
  repeat' first
      | (with_reducible exact ih0 _ _ _)
      | (with_reducible exact LeO.refl _)
      | (with_reducible exact LeO.none _)
      | (with_reducible refine LeO.ite ?_ ?_)
      | (with_reducible refine LeO.bind ?_ (fun _ => ?_))
      | exact ih0 _ _ _
      | exact LeO.none _
      | refine LeO.ite ?_ ?_
      | refine LeO.bind ?_ (fun _ => ?_)
set_option maxHeartbeats 8000000 in
set_option maxRecDepth 100000 in
theorem impl_areSounds.calls (k : Nat) (a0 : ByteArray) (r : Bool) (w : World) (h : impl_areSounds.f k a0 = some r) :
    Calls Try.prog 51 #[.string a0] w fun e w' => e = .returned (.bool r) ∧ Drawn0 w w' := by
  have H : (impl_areSounds.l0 k a0 (a0.size : Int) 0) = some r := h
  clear h
  have H' := Aside0.mk H
  clear H
  go_enter Try.func51, Try.ntmps51
  go_wp2
  go_loopg [6] k (fun kq v6 w' => ∃ (x6_1 : Int), v6 = .int .i64 x6_1 ∧ Aside0 (impl_areSounds.l0 kq a0 (a0.size : Int) x6_1 = some r) ∧ Aside0 (kq ≤ k) ∧ Drawn0 w w')
  case atStart => exact ⟨(0), (by first | rfl | (simp; done) | (simp [*]; done)), H', ⟨Nat.le_refl _⟩, by repeat (first | exact Drawn0.refl _ | apply Drawn0.step)⟩
  case round =>
    clear H'
    obtain ⟨x6_1, rfl, HA, HK1, ⟨m1, rfl⟩⟩ := hrel
    cases gk with
    | zero => exact absurd HA.out (by simp [impl_areSounds.l0])
    | succ k1 =>
      have H := HA.out
      clear HA
      simp only [impl_areSounds.l0] at H
      by_cases c2 : x6_1 < (a0.size : Int)
      · rw [if_pos c2] at H
        have c2b0 : decide (x6_1 < (a0.size : Int)) = true := decide_eq_true c2
        clear c2
        by_cases c3 : 0 ≤ x6_1
        · rw [if_pos c3] at H
          have c3b0 : decide (0 ≤ x6_1) = true := decide_eq_true c3
          clear c3
          by_cases c4 : x6_1 < (a0.size : Int)
          · rw [if_pos c4] at H
            have c4b0 : decide (x6_1 < (a0.size : Int)) = true := decide_eq_true c4
            clear c4
            replace H := Option.bind_eq_some_iff.mp H
            obtain ⟨t127, A60, H⟩ := H
            replace H : (if t127 = true then (impl_areSounds.l0 k1 a0 (a0.size : Int) (wrap64 (x6_1 + 1))) else (some false)) = some r := H
            have A6 := Aside0.mk A60
            clear A60
            by_cases c7 : t127 = true
            · subst c7
              have H1 : (impl_areSounds.l0 k1 a0 (a0.size : Int) (wrap64 (x6_1 + 1))) = some r := by rw [if_pos rfl] at H; exact H
              clear H
              have H := H1
              clear H1
              have H' := Aside0.mk H
              clear H
              have p5 : 0 ≤ (x6_1 : Int) := of_decide_eq_true (by first | (with_reducible assumption) | assumption)
              have q5 : x6_1 < (a0.size : Int) := of_decide_eq_true (by first | (with_reducible assumption) | assumption)
              have hx5 := bt_at a0 x6_1
              replace p5 := eq_true p5
              replace q5 := eq_true q5
              go_wp2_with (first | ((with_reducible refine gate_callee (f := 69) rfl ?_); refine goesL_ (some 12) rfl rfl Try.func69 (by kernel_rfl) rfl #[.int .u8 (bt a0 x6_1)] rfl (by (try simp only [List.map_toArray, List.map_cons, List.map_nil]); first | done | rfl | (simp only [List.length_drop, List.length_take]; rfl)) ?_; (with_reducible refine (impl_IsSound.calls (bt a0 x6_1) true _ A6.out).mono ?_); rintro e w' ⟨rfl, ⟨nd, rfl⟩⟩; refine ⟨_, rfl, ?_⟩))
              go_roundg k1
              case measure => have := HK1.out; omega
              case rel => exact ⟨(wrap64 (x6_1 + 1)), (by first | rfl | (simp; done) | (simp [*]; done)), H', ⟨by have := HK1.out; omega⟩, by repeat (first | exact Drawn0.refl _ | apply Drawn0.step)⟩
            · replace c7 := Bool.eq_false_iff.mpr c7
              subst c7
              have H1 : (some false) = some r := by rw [if_neg (show ¬ (false = true) by decide)] at H; exact H
              clear H
              have H := H1
              clear H1
              obtain rfl := Option.some.inj H
              have p5 : 0 ≤ (x6_1 : Int) := of_decide_eq_true (by first | (with_reducible assumption) | assumption)
              have q5 : x6_1 < (a0.size : Int) := of_decide_eq_true (by first | (with_reducible assumption) | assumption)
              have hx5 := bt_at a0 x6_1
              replace p5 := eq_true p5
              replace q5 := eq_true q5
              go_wp2_with (first | ((with_reducible refine gate_callee (f := 69) rfl ?_); refine goesL_ (some 12) rfl rfl Try.func69 (by kernel_rfl) rfl #[.int .u8 (bt a0 x6_1)] rfl (by (try simp only [List.map_toArray, List.map_cons, List.map_nil]); first | done | rfl | (simp only [List.length_drop, List.length_take]; rfl)) ?_; (with_reducible refine (impl_IsSound.calls (bt a0 x6_1) false _ A6.out).mono ?_); rintro e w' ⟨rfl, ⟨nd, rfl⟩⟩; refine ⟨_, rfl, ?_⟩))
              go_ret
              exact ⟨by first | rfl | (simp; done) | (simp [*]; done), by repeat (first | exact Drawn0.refl _ | apply Drawn0.step)⟩
          · rw [if_neg c4] at H
            exact absurd H (by simp)
        · rw [if_neg c3] at H
          exact absurd H (by simp)
      · rw [if_neg c2] at H
        have c2b0 : decide (x6_1 < (a0.size : Int)) = false := decide_eq_false c2
        clear c2
        replace H := Option.bind_eq_some_iff.mp H
        obtain ⟨t128, A80, H⟩ := H
        replace H : (some t128) = some r := H
        have A8 := Aside0.mk A80
        clear A80
        obtain rfl := Option.some.inj H
        go_wp2_with (first | ((with_reducible refine gate_callee (f := 56) rfl ?_); refine goesL_ (some 17) rfl rfl Try.func56 (by kernel_rfl) rfl #[.int .i64 (a0.size : Int), .int .i64 1, .int .i64 20] rfl (by (try simp only [List.map_toArray, List.map_cons, List.map_nil]); first | done | rfl | (simp only [List.length_drop, List.length_take]; rfl)) ?_; (with_reducible refine (impl_within.calls (a0.size : Int) 1 20 t128 _ A8.out).mono ?_); rintro e w' ⟨rfl, ⟨nd, rfl⟩⟩; refine ⟨_, rfl, ?_⟩))
        go_ret
        exact ⟨by first | rfl | (simp; done) | (simp [*]; done), by repeat (first | exact Drawn0.refl _ | apply Drawn0.step)⟩

/-! ### impl_IsForm: function 16 -/
def impl_IsForm.f (k : Nat) (a0 : ByteArray) : Option (Bool) := if a0.toList = ([] : List UInt8) then (some true) else (if (a0.size : Int) ≤ 8 then ((impl_areSounds.f k a0).bind fun t129 => (some t129)) else (some false))
theorem impl_IsForm.mono : ∀ a0 k, LeO (impl_IsForm.f k a0) (impl_IsForm.f (k + 1) a0) := by
  intro a0 k
  unfold impl_IsForm.f
  repeat' first
      | (with_reducible exact impl_areSounds.mono _ _)
      | (with_reducible exact LeO.refl _)
      | (with_reducible exact LeO.none _)
      | (with_reducible refine LeO.ite ?_ ?_)
      | (with_reducible refine LeO.bind ?_ (fun _ => ?_))
      | exact impl_areSounds.mono _ _
      | exact LeO.none _
      | refine LeO.ite ?_ ?_
      | refine LeO.bind ?_ (fun _ => ?_)
set_option maxHeartbeats 8000000 in
set_option maxRecDepth 100000 in
theorem impl_IsForm.calls (k : Nat) (a0 : ByteArray) (r : Bool) (w : World) (h : impl_IsForm.f k a0 = some r) :
    Calls Try.prog 16 #[.string a0] w fun e w' => e = .returned (.bool r) ∧ Drawn0 w w' := by
  have H : (if a0.toList = ([] : List UInt8) then (some true) else (if (a0.size : Int) ≤ 8 then ((impl_areSounds.f k a0).bind fun t129 => (some t129)) else (some false))) = some r := h
  clear h
  by_cases c2 : a0.toList = ([] : List UInt8)
  · rw [if_pos c2] at H
    have c2b0 : (a0.toList == ([] : List UInt8)) = true := beq_iff_eq.mpr c2
    have c2b1 : (a0.toList != ([] : List UInt8)) = false := bne_eq_false_iff_eq.mpr c2
    clear c2
    obtain rfl := Option.some.inj H
    go_enter Try.func16, Try.ntmps16
    go_wp2
    go_ret
    exact ⟨by first | rfl | (simp; done) | (simp [*]; done), by repeat (first | exact Drawn0.refl _ | apply Drawn0.step)⟩
  · rw [if_neg c2] at H
    have c2b0 : (a0.toList == ([] : List UInt8)) = false := beq_eq_false_iff_ne.mpr c2
    have c2b1 : (a0.toList != ([] : List UInt8)) = true := bne_iff_ne.mpr c2
    by_cases c3 : (a0.size : Int) ≤ 8
    · rw [if_pos c3] at H
      have c3b0 : decide ((a0.size : Int) ≤ 8) = true := decide_eq_true c3
      have c3b1 : decide (a0.size ≤ 8) = true := decide_eq_true (by omega)
      clear c3
      replace H := Option.bind_eq_some_iff.mp H
      obtain ⟨t129, A40, H⟩ := H
      replace H : (some t129) = some r := H
      have A4 := Aside0.mk A40
      clear A40
      obtain rfl := Option.some.inj H
      go_enter Try.func16, Try.ntmps16
      go_wp2_with (first | (go_at_call 51; (with_reducible refine (impl_areSounds.calls k a0 t129 _ A4.out).mono ?_); rintro e w' ⟨rfl, ⟨nd, rfl⟩⟩))
      go_ret
      exact ⟨by first | rfl | (simp; done) | (simp [*]; done), by repeat (first | exact Drawn0.refl _ | apply Drawn0.step)⟩
    · rw [if_neg c3] at H
      have c3b0 : decide ((a0.size : Int) ≤ 8) = false := decide_eq_false c3
      have c3b1 : decide (a0.size ≤ 8) = false := decide_eq_false (by omega)
      clear c3
      obtain rfl := Option.some.inj H
      go_enter Try.func16, Try.ntmps16
      go_wp2
      go_ret
      exact ⟨by first | rfl | (simp; done) | (simp [*]; done), by repeat (first | exact Drawn0.refl _ | apply Drawn0.step)⟩

/-! ### impl_DistanceBetween: function 40 -/
/-- The least number of edits between the first i bytes and the first k. -/
def impl_DistanceBetween.lev (a b : ByteArray) : Nat → Nat → Nat
  | 0, k => k
  | i + 1, 0 => i + 1
  | i + 1, k + 1 => if bt a (i : Int) = bt b (k : Int) then impl_DistanceBetween.lev a b i k else 1 + min (min (impl_DistanceBetween.lev a b i (k + 1)) (impl_DistanceBetween.lev a b (i + 1) k)) (impl_DistanceBetween.lev a b i k)
termination_by i k => (i, k)
def impl_DistanceBetween.f (k : Nat) (a0 : ByteArray) (a1 : ByteArray) : Option (Int) := (impl_IsForm.f k a0).bind fun x => (if x = true then ((impl_IsForm.f k a1).bind fun y => (if y = true then (some (impl_DistanceBetween.lev a0 a1 a0.size a1.size : Int)) else (some (-1)))) else (some (-1)))
theorem impl_DistanceBetween.mono : ∀ a0 a1 k, LeO (impl_DistanceBetween.f k a0 a1) (impl_DistanceBetween.f (k + 1) a0 a1) := by
  intro a0 a1 k
  unfold impl_DistanceBetween.f
  repeat' first
      | (with_reducible exact impl_IsForm.mono _ _)
      | (with_reducible exact LeO.refl _)
      | (with_reducible exact LeO.none _)
      | (with_reducible refine LeO.ite ?_ ?_)
      | (with_reducible refine LeO.bind ?_ (fun _ => ?_))
theorem impl_DistanceBetween.cellD {W : World} {g : Nat} {T : List Int} (h : W.heap[g]? = some (.cells (T.map (fun z => Value.int .i64 z)).toArray 79 (0, 0))) (hT : T.length = 81) (n : Nat) (hn : n < 81) : W.cell? ⟨g, n, none⟩ = some (.int .i64 (T.getD n 0)) := by
  refine (blk_cell h n).trans ?_
  rw [List.getElem?_toArray, List.getElem?_map, List.getD_eq_getElem?_getD, List.getElem?_eq_getElem (by omega)]
  rfl
theorem impl_DistanceBetween.putD {W : World} {g : Nat} {T : List Int} (h : W.heap[g]? = some (.cells (T.map (fun z => Value.int .i64 z)).toArray 79 (0, 0))) (n : Nat) (v : Int) : (W.setCell ⟨g, n, none⟩ (.int .i64 v)).heap[g]? = some (.cells ((T.set n v).map (fun z => Value.int .i64 z)).toArray 79 (0, 0)) :=
  blk_put h n _ (by rw [List.setIfInBounds_toArray, List.map_set])
theorem impl_DistanceBetween.lev_le (a b : ByteArray) : ∀ i k, impl_DistanceBetween.lev a b i k ≤ i + k := by
  intro i
  induction i with
  | zero => intro k; rw [impl_DistanceBetween.lev]; omega
  | succ i ih =>
    intro k
    induction k with
    | zero => rw [impl_DistanceBetween.lev]; omega
    | succ k ihk =>
      rw [impl_DistanceBetween.lev]
      have h1 := ih k
      have h2 := ih (k + 1)
      split <;> omega
theorem impl_DistanceBetween.form_le (k : Nat) (a : ByteArray) (h : impl_IsForm.f k a = some true) : a.size ≤ 8 := by
  unfold impl_IsForm.f at h
  split at h
  · rename_i h0
    have : a.toList = a.data.toList := Go.ByteArray.toList_eq a
    have h1 : a.data.toList.length = a.size := Array.length_toList
    rw [this] at h0
    rw [h0] at h1
    simp at h1
    omega
  · split at h
    · omega
    · simp at h
set_option maxHeartbeats 8000000 in
set_option maxRecDepth 100000 in
theorem impl_DistanceBetween.calls (k : Nat) (a0 : ByteArray) (a1 : ByteArray) (r : Int) (w : World) (h : impl_DistanceBetween.f k a0 a1 = some r) :
    Calls Try.prog 40 #[.string a0, .string a1] w fun e w' => e = .returned (.int .i64 r) ∧ Below w.heap.size w w' := by
  have HB := Aside0.mk (Below.refl w.heap.size w)
  have HC3 := Aside0.mk h
  clear h
  go_enter Try.func40, Try.ntmps40
  go_upto_region 1 with (fail)
  repeat (go_quiet (fail); go_upto_region 1 with (fail))
  go_cut [15] (fun v18 wc => ∃ (b : Bool), v18 = .bool b ∧ Aside0 (if b = true then r = -1 else r = (impl_DistanceBetween.lev a0 a1 a0.size a1.size : Int)) ∧ Aside0 (b = false → a0.size ≤ 8 ∧ a1.size ≤ 8) ∧ Aside0 (Below w.heap.size w wc))
  case first =>
    have H := HC3.out
    clear HC3
    unfold impl_DistanceBetween.f at H
    replace H := Option.bind_eq_some_iff.mp H
    obtain ⟨t1, A1, H⟩ := H
    have A4 := Aside0.mk A1
    clear A1
    by_cases c5 : t1 = true
    · subst c5
      rw [if_pos rfl] at H
      replace H := Option.bind_eq_some_iff.mp H
      obtain ⟨t2, A2, H⟩ := H
      have A6 := Aside0.mk A2
      clear A2
      have HT : Aside0 ((!t2) = false → a0.size ≤ 8 ∧ a1.size ≤ 8) := ⟨by
        cases t2 with
        | false => intro ht; cases ht
        | true => exact fun _ => ⟨impl_DistanceBetween.form_le _ _ A4.out, impl_DistanceBetween.form_le _ _ A6.out⟩⟩
      have HR : Aside0 (if (!t2) = true then r = -1 else r = (impl_DistanceBetween.lev a0 a1 a0.size a1.size : Int)) := ⟨by
        cases t2 <;> simp at H ⊢ <;> exact H.symm⟩
      clear H
      go_wp2_with (first | (go_at_call 16; (with_reducible refine (impl_IsForm.calls k a0 true _ A4.out).mono ?_); rintro e w' ⟨rfl, ⟨nd, rfl⟩⟩; (try first | exact ⟨rfl, _, World.drewN_drewN _ _ _⟩ | exact ⟨rfl, _, Eq.trans (World.drewN_drewN _ _ _) (congrArg (World.drewN _) (Nat.add_assoc _ _ _))⟩)) | (go_at_call 16; (with_reducible refine (impl_IsForm.calls k a1 t2 _ A6.out).mono ?_); rintro e w' ⟨rfl, ⟨nd, rfl⟩⟩; (try first | exact ⟨rfl, _, World.drewN_drewN _ _ _⟩ | exact ⟨rfl, _, Eq.trans (World.drewN_drewN _ _ _) (congrArg (World.drewN _) (Nat.add_assoc _ _ _))⟩)))
      repeat (go_quiet (first | (go_at_call 16; (with_reducible refine (impl_IsForm.calls k a0 true _ A4.out).mono ?_); rintro e w' ⟨rfl, ⟨nd, rfl⟩⟩; (try first | exact ⟨rfl, _, World.drewN_drewN _ _ _⟩ | exact ⟨rfl, _, Eq.trans (World.drewN_drewN _ _ _) (congrArg (World.drewN _) (Nat.add_assoc _ _ _))⟩)) | (go_at_call 16; (with_reducible refine (impl_IsForm.calls k a1 t2 _ A6.out).mono ?_); rintro e w' ⟨rfl, ⟨nd, rfl⟩⟩; (try first | exact ⟨rfl, _, World.drewN_drewN _ _ _⟩ | exact ⟨rfl, _, Eq.trans (World.drewN_drewN _ _ _) (congrArg (World.drewN _) (Nat.add_assoc _ _ _))⟩))); try go_wp2_with (first | (go_at_call 16; (with_reducible refine (impl_IsForm.calls k a0 true _ A4.out).mono ?_); rintro e w' ⟨rfl, ⟨nd, rfl⟩⟩; (try first | exact ⟨rfl, _, World.drewN_drewN _ _ _⟩ | exact ⟨rfl, _, Eq.trans (World.drewN_drewN _ _ _) (congrArg (World.drewN _) (Nat.add_assoc _ _ _))⟩)) | (go_at_call 16; (with_reducible refine (impl_IsForm.calls k a1 t2 _ A6.out).mono ?_); rintro e w' ⟨rfl, ⟨nd, rfl⟩⟩; (try first | exact ⟨rfl, _, World.drewN_drewN _ _ _⟩ | exact ⟨rfl, _, Eq.trans (World.drewN_drewN _ _ _) (congrArg (World.drewN _) (Nat.add_assoc _ _ _))⟩))))
      go_meet
      case rel => exact ⟨(!t2), (by first | rfl | (simp; done) | (simp [*]; done)), HR, HT, ⟨by repeat (first | (with_reducible first | exact HB.out | apply below_alloc | apply pw_below_drewN | apply below_drew1) | exact HB.out)⟩⟩
    · replace c5 := Bool.eq_false_iff.mpr c5
      subst c5
      have HT : Aside0 (true = false → a0.size ≤ 8 ∧ a1.size ≤ 8) := ⟨fun ht => by cases ht⟩
      have HR : Aside0 (if true = true then r = -1 else r = (impl_DistanceBetween.lev a0 a1 a0.size a1.size : Int)) := ⟨by
        simp at H ⊢; exact H.symm⟩
      clear H
      go_wp2_with (first | (go_at_call 16; (with_reducible refine (impl_IsForm.calls k a0 false _ A4.out).mono ?_); rintro e w' ⟨rfl, ⟨nd, rfl⟩⟩; (try first | exact ⟨rfl, _, World.drewN_drewN _ _ _⟩ | exact ⟨rfl, _, Eq.trans (World.drewN_drewN _ _ _) (congrArg (World.drewN _) (Nat.add_assoc _ _ _))⟩)))
      repeat (go_quiet (first | (go_at_call 16; (with_reducible refine (impl_IsForm.calls k a0 false _ A4.out).mono ?_); rintro e w' ⟨rfl, ⟨nd, rfl⟩⟩; (try first | exact ⟨rfl, _, World.drewN_drewN _ _ _⟩ | exact ⟨rfl, _, Eq.trans (World.drewN_drewN _ _ _) (congrArg (World.drewN _) (Nat.add_assoc _ _ _))⟩))); try go_wp2_with (first | (go_at_call 16; (with_reducible refine (impl_IsForm.calls k a0 false _ A4.out).mono ?_); rintro e w' ⟨rfl, ⟨nd, rfl⟩⟩; (try first | exact ⟨rfl, _, World.drewN_drewN _ _ _⟩ | exact ⟨rfl, _, Eq.trans (World.drewN_drewN _ _ _) (congrArg (World.drewN _) (Nat.add_assoc _ _ _))⟩))))
      go_meet
      case rel => exact ⟨true, (by first | rfl | (simp; done) | (simp [*]; done)), HR, HT, ⟨by repeat (first | (with_reducible first | exact HB.out | apply below_alloc | apply pw_below_drewN | apply below_drew1) | exact HB.out)⟩⟩
  case rest =>
    obtain ⟨b, rfl, HA, HS, HB⟩ := hcut
    have HBc := HB
    cases b with
    | true =>
      go_wp2
      go_ret
      have hr := HA.out
      simp only [if_true] at hr
      exact ⟨by rw [hr]; rfl, HB.out⟩
    | false =>
      have hr := HA.out
      simp only [Bool.false_eq_true, if_false] at hr
      obtain ⟨s0, s1⟩ := HS.out rfl
      have hst : ∀ W : World, (storeCells ⟨W.heap.size, 0, none⟩ Try.zeroCells79.toList).run Try.prog (W.alloc (.cells Try.zeroCells79 79)) = .ok () (W.alloc (.cells Try.zeroCells79 79)) := fun W => Go.run_storeCells_new W 79 _ _ (by kernel_rfl) rfl (by kernel_rfl)
      go_wp2
      go_loopg [20] (a0.size + 1) (fun kq v20 w' => ∃ (i : Nat) (T : List Int), v20 = .int .i64 (i : Int) ∧ Aside0 (kq + i = a0.size + 1) ∧ Aside0 (T.length = 81) ∧ Aside0 (w'.heap[wc.heap.size]? = some (.cells (T.map (fun z => Value.int .i64 z)).toArray 79 (0, 0))) ∧ Aside0 (∀ i' k', i' < i → k' ≤ a1.size → T.getD (i' * 9 + k') 0 = (impl_DistanceBetween.lev a0 a1 i' k' : Int)) ∧ Aside0 (Below w.heap.size w w'))
      case atStart =>
        have hz : Try.zeroCells79 = ((List.replicate 81 (0 : Int)).map (fun z => Value.int .i64 z)).toArray := by kernel_rfl
        exact ⟨0, List.replicate 81 0, rfl, ⟨by omega⟩, ⟨rfl⟩, ⟨by rw [← hz]; exact Go.heap_alloc_last wc _⟩, ⟨fun i' k' h => by omega⟩, ⟨below_alloc HB.out _⟩⟩
      case round =>
        obtain ⟨i, T, rfl, HM, HT, HK, HF, HB⟩ := hrel
        by_cases hc : (i : Int) < (a0.size : Int) + 1
        · have hcb : decide ((i : Int) < (a0.size : Int) + 1) = true := decide_eq_true hc
          obtain ⟨g1, rfl⟩ : ∃ g, gk = g + 1 := ⟨gk - 1, by have := HM.out; omega⟩
          go_wp2
          go_loopg [26] (a1.size + 1) (fun kq v26 w' => ∃ (kk : Nat) (T' : List Int), v26 = .int .i64 (kk : Int) ∧ Aside0 (kq + kk = a1.size + 1) ∧ Aside0 (T'.length = 81) ∧ Aside0 (w'.heap[wc.heap.size]? = some (.cells (T'.map (fun z => Value.int .i64 z)).toArray 79 (0, 0))) ∧ Aside0 (∀ i' k', (i' < i ∨ (i' = i ∧ k' < kk)) → k' ≤ a1.size → T'.getD (i' * 9 + k') 0 = (impl_DistanceBetween.lev a0 a1 i' k' : Int)) ∧ Aside0 (Below w.heap.size w w'))
          case atStart => exact ⟨0, T, rfl, ⟨by omega⟩, HT, HK, ⟨fun i' k' h hk => HF.out i' k' (by omega) hk⟩, HB⟩
          case round =>
            obtain ⟨kk, T', rfl, HM', HT', HK', HF', HB'⟩ := hrel
            by_cases hd : (kk : Int) < (a1.size : Int) + 1
            · have hdb : decide ((kk : Int) < (a1.size : Int) + 1) = true := decide_eq_true hd
              obtain ⟨g2, rfl⟩ : ∃ g, gk = g + 1 := ⟨gk - 1, by have := HM'.out; omega⟩
              have hBb : ∀ n v, Below w.heap.size w (wr.setCell ⟨wc.heap.size, n, none⟩ v) := fun n v => below_set HB'.out (below_size HBc.out)
              have fin : ∀ v : Int, v = (impl_DistanceBetween.lev a0 a1 i kk : Int) → ∀ i' k', (i' < i ∨ (i' = i ∧ k' < kk + 1)) → k' ≤ a1.size → (T'.set (i * 9 + kk) v).getD (i' * 9 + k') 0 = (impl_DistanceBetween.lev a0 a1 i' k' : Int) := by
                intro v hv i' k' h hk
                have hTl := HT'.out
                rw [List.getD_eq_getElem?_getD]
                by_cases hp : i' = i ∧ k' = kk
                · rw [hp.1, hp.2, List.getElem?_set_self (by omega)]; exact hv
                · rw [List.getElem?_set_ne (by omega), ← List.getD_eq_getElem?_getD]
                  exact HF'.out i' k' (by omega) hk
              by_cases hi0 : i = 0
              · subst hi0
                have hfz := blk_frozen HK'.out kk
                have hcur := impl_DistanceBetween.cellD HK'.out HT'.out kk (by omega)
                go_wp2
                go_roundg g2
                case measure => omega
                case rel => exact ⟨kk + 1, T'.set (0 * 9 + kk) (kk : Int), (by first | rfl | (simp; done)), ⟨by have := HM'.out; omega⟩, ⟨by rw [List.length_set]; exact HT'.out⟩, ⟨by rw [Nat.zero_mul, Nat.zero_add]; exact impl_DistanceBetween.putD HK'.out kk (kk : Int)⟩, ⟨fin _ (by rw [impl_DistanceBetween.lev])⟩, ⟨hBb _ _⟩⟩
              · have e1 : ((i : Int) == 0) = false := beq_eq_false_iff_ne.2 (by omega)
                have e2 : ¬ ((i : Int) = 0) := by omega
                by_cases hk0 : kk = 0
                · subst hk0
                  have hfz := blk_frozen HK'.out (i * 9)
                  have hcur := impl_DistanceBetween.cellD HK'.out HT'.out (i * 9) (by omega)
                  go_wp2
                  go_roundg g2
                  case measure => omega
                  case rel => exact ⟨0 + 1, T'.set (i * 9 + 0) (i : Int), (by first | rfl | (simp; done)), ⟨by have := HM'.out; omega⟩, ⟨by rw [List.length_set]; exact HT'.out⟩, ⟨impl_DistanceBetween.putD HK'.out (i * 9) (i : Int)⟩, ⟨fin _ (by cases i <;> rw [impl_DistanceBetween.lev])⟩, ⟨hBb _ _⟩⟩
                · have e3 : ((kk : Int) == 0) = false := beq_eq_false_iff_ne.2 (by omega)
                  have e4 : ¬ ((kk : Int) = 0) := by omega
                  obtain ⟨i1, hi1⟩ : ∃ m, i = m + 1 := ⟨i - 1, by omega⟩
                  obtain ⟨k1, hk1⟩ : ∃ m, kk = m + 1 := ⟨kk - 1, by omega⟩
                  have w1 : wrap64 ((i : Int) - 1) = (i1 : Int) := by unfold wrap64; omega
                  have w2 : wrap64 ((kk : Int) - 1) = (k1 : Int) := by unfold wrap64; omega
                  have w3 : (i : Int) - 1 = (i1 : Int) := by omega
                  have w4 : (kk : Int) - 1 = (k1 : Int) := by omega
                  have q1 : ((i1 : Int) < (a0.size : Int)) = True := eq_true (by omega)
                  have q2 : ((k1 : Int) < (a1.size : Int)) = True := eq_true (by omega)
                  have q3 : i1 < a0.size := by omega
                  have q4 : k1 < a1.size := by omega
                  have x1 := bt_at a0 (i1 : Int)
                  have x2 := bt_at a1 (k1 : Int)
                  have hfz := blk_frozen HK'.out (i * 9 + kk)
                  have hcur := impl_DistanceBetween.cellD HK'.out HT'.out (i * 9 + kk) (by omega)
                  have c0 := impl_DistanceBetween.cellD HK'.out HT'.out (i1 * 9 + k1) (by omega)
                  have c1 := impl_DistanceBetween.cellD HK'.out HT'.out (i1 * 9 + kk) (by omega)
                  have c2 := impl_DistanceBetween.cellD HK'.out HT'.out (i * 9 + k1) (by omega)
                  rw [HF'.out i1 k1 (by omega) (by omega)] at c0
                  rw [HF'.out i1 kk (by omega) (by omega)] at c1
                  rw [HF'.out i k1 (by omega) (by omega)] at c2
                  have Hi1 := Aside0.mk hi1
                  have Hk1 := Aside0.mk hk1
                  clear hi1 hk1
                  have y1 : ((a0[i1]'q3).toNat : Int) = bt a0 (i1 : Int) := x1 q3
                  have y2 : ((a1[k1]'q4).toNat : Int) = bt a1 (k1 : Int) := x2 q4
                  by_cases hq : bt a0 (i1 : Int) = bt a1 (k1 : Int)
                  · have hqb : (((a0[i1]'q3).toNat : Int) == ((a1[k1]'q4).toNat : Int)) = true := by rw [y1, y2]; exact beq_iff_eq.2 hq
                    have Hq := Aside0.mk hq
                    clear hq y1 y2 x1 x2
                    go_wp2
                    go_quiet (fail)
                    go_wp2
                    have b1 : IntKind.i64.wrap ((i : Int) - 1) = (i1 : Int) := (IntWalk.i64_in _ ⟨by omega, by omega⟩).trans w3
                    have b2 : IntKind.i64.wrap ((kk : Int) - 1) = (k1 : Int) := (IntWalk.i64_in _ ⟨by omega, by omega⟩).trans w4
                    have b3 : (i1 : Int) < 9 := by omega
                    have b4 : (k1 : Int) < 9 := by omega
                    have b5 : (i : Int) < 9 := by have := s0; omega
                    have b6 : (kk : Int) < 9 := by have := s1; omega
                    generalize hwq : World.drewN wr nq = wq
                    have hfz' : wq.frozen? ⟨wc.heap.size, i * 9 + kk, none⟩ = false := by rw [← hwq]; exact hfz
                    have hcur' : wq.cell? ⟨wc.heap.size, i * 9 + kk, none⟩ = some (.int .i64 (T'.getD (i * 9 + kk) 0)) := by rw [← hwq]; exact hcur
                    have c0' : wq.cell? ⟨wc.heap.size, i1 * 9 + k1, none⟩ = some (.int .i64 (impl_DistanceBetween.lev a0 a1 i1 k1 : Int)) := by rw [← hwq]; exact c0
                    have HKq : Aside0 (wq.heap[wc.heap.size]? = some (.cells (T'.map (fun z => Value.int .i64 z)).toArray 79 (0, 0))) := ⟨by rw [← hwq]; exact HK'.out⟩
                    have hBq : Aside0 (∀ n v, Below w.heap.size w ((wq.setCell ⟨wc.heap.size, n, none⟩ v).drew)) := ⟨fun n v => by rw [← hwq]; exact below_drew (below_set (pw_below_drewN HB'.out nq) (below_size HBc.out))⟩
                    clear hfz hcur c0 c1 c2 hBb
                    have Hwq := Aside0.mk hwq
                    clear hwq
                    go_region
                    go_wp2
                    go_roundg g2
                    case measure => omega
                    case rel => exact ⟨kk + 1, T'.set (i * 9 + kk) (impl_DistanceBetween.lev a0 a1 i1 k1 : Int), (by first | rfl | (simp; done)), ⟨by have := HM'.out; omega⟩, ⟨by rw [List.length_set]; exact HT'.out⟩, ⟨impl_DistanceBetween.putD HKq.out (i * 9 + kk) _⟩, ⟨fin _ (by rw [Hi1.out, Hk1.out, impl_DistanceBetween.lev, if_pos Hq.out])⟩, ⟨hBq.out _ _⟩⟩
                  · have hqb : (((a0[i1]'q3).toNat : Int) == ((a1[k1]'q4).toNat : Int)) = false := by rw [y1, y2]; exact beq_eq_false_iff_ne.2 hq
                    have Hq := Aside0.mk hq
                    clear hq y1 y2 x1 x2
                    go_wp2
                    go_quiet (fail)
                    go_wp2
                    have b1 : IntKind.i64.wrap ((i : Int) - 1) = (i1 : Int) := (IntWalk.i64_in _ ⟨by omega, by omega⟩).trans w3
                    have b2 : IntKind.i64.wrap ((kk : Int) - 1) = (k1 : Int) := (IntWalk.i64_in _ ⟨by omega, by omega⟩).trans w4
                    have b3 : (i1 : Int) < 9 := by omega
                    have b4 : (k1 : Int) < 9 := by omega
                    have b5 : (i : Int) < 9 := by have := s0; omega
                    have b6 : (kk : Int) < 9 := by have := s1; omega
                    generalize hwq : World.drewN wr nq = wq
                    have hfz' : wq.frozen? ⟨wc.heap.size, i * 9 + kk, none⟩ = false := by rw [← hwq]; exact hfz
                    have hcur' : wq.cell? ⟨wc.heap.size, i * 9 + kk, none⟩ = some (.int .i64 (T'.getD (i * 9 + kk) 0)) := by rw [← hwq]; exact hcur
                    have c0' : wq.cell? ⟨wc.heap.size, i1 * 9 + k1, none⟩ = some (.int .i64 (impl_DistanceBetween.lev a0 a1 i1 k1 : Int)) := by rw [← hwq]; exact c0
                    have c1' : wq.cell? ⟨wc.heap.size, i1 * 9 + kk, none⟩ = some (.int .i64 (impl_DistanceBetween.lev a0 a1 i1 kk : Int)) := by rw [← hwq]; exact c1
                    have c2' : wq.cell? ⟨wc.heap.size, i * 9 + k1, none⟩ = some (.int .i64 (impl_DistanceBetween.lev a0 a1 i k1 : Int)) := by rw [← hwq]; exact c2
                    have HKq : Aside0 (wq.heap[wc.heap.size]? = some (.cells (T'.map (fun z => Value.int .i64 z)).toArray 79 (0, 0))) := ⟨by rw [← hwq]; exact HK'.out⟩
                    have hBq : Aside0 (∀ n v, Below w.heap.size w ((wq.setCell ⟨wc.heap.size, n, none⟩ v).drew)) := ⟨fun n v => by rw [← hwq]; exact below_drew (below_set (pw_below_drewN HB'.out nq) (below_size HBc.out))⟩
                    clear hfz hcur c0 c1 c2 hBb
                    have Hwq := Aside0.mk hwq
                    clear hwq
                    have l0 := impl_DistanceBetween.lev_le a0 a1 i1 k1
                    have l1 := impl_DistanceBetween.lev_le a0 a1 i1 kk
                    have l2 := impl_DistanceBetween.lev_le a0 a1 i k1
                    obtain ⟨y0, hy0⟩ : ∃ y : Nat, impl_DistanceBetween.lev a0 a1 i1 k1 = y := ⟨_, rfl⟩
                    obtain ⟨y1, hy1⟩ : ∃ y : Nat, impl_DistanceBetween.lev a0 a1 i1 kk = y := ⟨_, rfl⟩
                    obtain ⟨y2, hy2⟩ : ∃ y : Nat, impl_DistanceBetween.lev a0 a1 i k1 = y := ⟨_, rfl⟩
                    rw [hy0] at c0' l0
                    rw [hy1] at c1' l1
                    rw [hy2] at c2' l2
                    have m0 : y0 ≤ 100 := by have := s0; have := s1; omega
                    have m1 : y1 ≤ 100 := by have := s0; have := s1; omega
                    have m2 : y2 ≤ 100 := by have := s0; have := s1; omega
                    have Hy0 := Aside0.mk hy0
                    have Hy1 := Aside0.mk hy1
                    have Hy2 := Aside0.mk hy2
                    clear hy0 hy1 hy2
                    have Hv : Aside0 (∀ v : Int, v = 1 + min (min (y1 : Int) y2) y0 → v = (impl_DistanceBetween.lev a0 a1 i kk : Int)) := ⟨by
                      intro v hv
                      have e0 := Hy0.out
                      have e1 := Hy1.out
                      have e2 := Hy2.out
                      have hi := Hi1.out
                      have hk := Hk1.out
                      rw [hk] at e1
                      rw [hi] at e2
                      rw [hi, hk, impl_DistanceBetween.lev, if_neg Hq.out, e0, e1, e2]
                      omega⟩
                    go_region
                    go_wp2
                    all_goals
                      go_roundg g2
                      case measure => omega
                      case rel => exact ⟨kk + 1, T'.set (i * 9 + kk) _, (by first | rfl | (simp; done)), ⟨by have := HM'.out; omega⟩, ⟨by rw [List.length_set]; exact HT'.out⟩, ⟨impl_DistanceBetween.putD HKq.out (i * 9 + kk) _⟩, ⟨fin _ (Hv.out _ (by clear HM' HT' HK' HF' HB' fin; first | omega | (simp_all; omega)))⟩, ⟨hBq.out _ _⟩⟩
            · have hdb : decide ((kk : Int) < (a1.size : Int) + 1) = false := decide_eq_false hd
              have hkk : kk = a1.size + 1 := by have := HM'.out; omega
              go_wp2
              go_roundg g1
              case measure => omega
              case rel => exact ⟨i + 1, T', (by first | rfl | (simp; done)), ⟨by have := HM.out; omega⟩, HT', HK', ⟨fun i' k' h hk => HF'.out i' k' (by omega) hk⟩, HB'⟩
        · have hcb : decide ((i : Int) < (a0.size : Int) + 1) = false := decide_eq_false hc
          have hi : i = a0.size + 1 := by have := HM.out; omega
          have hcell := impl_DistanceBetween.cellD HK.out HT.out (a0.size * 9 + a1.size) (by omega)
          rw [HF.out a0.size a1.size (by omega) (Nat.le_refl _), ← hr] at hcell
          go_wp2
          go_ret
          exact ⟨rfl, HB.out⟩

/-! ### laws_FnExactDistanceBetween: function 11 -/
def laws_FnExactDistanceBetween.f (k : Nat) (a0 : ByteArray) (a1 : ByteArray) : Option (Bool) := if (a0.size : Int) > 1048576 then (some true) else (if (a1.size : Int) > 1048576 then (some true) else ((spec_DistanceBetween.f k a0 a1).bind fun t130 => ((impl_DistanceBetween.f k a0 a1).bind fun t131 => (if t131 = t130 then (some true) else (some false)))))
theorem laws_FnExactDistanceBetween.mono : ∀ a0 a1 k, LeO (laws_FnExactDistanceBetween.f k a0 a1) (laws_FnExactDistanceBetween.f (k + 1) a0 a1) := by
  intro a0 a1 k
  unfold laws_FnExactDistanceBetween.f
  repeat' first
      | (with_reducible exact impl_DistanceBetween.mono _ _ _)
      | (with_reducible exact spec_DistanceBetween.mono _ _ _)
      | (with_reducible exact LeO.refl _)
      | (with_reducible exact LeO.none _)
      | (with_reducible refine LeO.ite ?_ ?_)
      | (with_reducible refine LeO.bind ?_ (fun _ => ?_))
      | exact impl_DistanceBetween.mono _ _ _
      | exact spec_DistanceBetween.mono _ _ _
      | exact LeO.none _
      | refine LeO.ite ?_ ?_
      | refine LeO.bind ?_ (fun _ => ?_)
set_option maxHeartbeats 8000000 in
set_option maxRecDepth 100000 in
theorem laws_FnExactDistanceBetween.calls (k : Nat) (a0 : ByteArray) (a1 : ByteArray) (r : Bool) (w : World) (h : laws_FnExactDistanceBetween.f k a0 a1 = some r) :
    Calls Try.prog 11 #[.string a0, .string a1] w fun e w' => e = .returned (.bool r) ∧ Below w.heap.size w w' := by
  have HB := Aside0.mk (Below.refl w.heap.size w)
  have H : (if (a0.size : Int) > 1048576 then (some true) else (if (a1.size : Int) > 1048576 then (some true) else ((spec_DistanceBetween.f k a0 a1).bind fun t130 => ((impl_DistanceBetween.f k a0 a1).bind fun t131 => (if t131 = t130 then (some true) else (some false)))))) = some r := h
  clear h
  by_cases c3 : (a0.size : Int) > 1048576
  · rw [if_pos c3] at H
    have c3b0 : decide (1048576 < (a0.size : Int)) = true := decide_eq_true c3
    have c3b1 : decide (1048576 < a0.size) = true := decide_eq_true (by omega)
    clear c3
    obtain rfl := Option.some.inj H
    go_enter Try.func11, Try.ntmps11
    go_wp2
    go_ret
    exact ⟨by first | rfl | (simp [errW_none, errW_some] <;> rfl) | (simp [*, errW_none, errW_some] <;> rfl), by repeat (first | (with_reducible first | exact HB.out | apply below_alloc | apply pw_below_drewN | apply below_drew1) | exact HB.out)⟩
  · rw [if_neg c3] at H
    have c3b0 : decide (1048576 < (a0.size : Int)) = false := decide_eq_false c3
    have c3b1 : decide (1048576 < a0.size) = false := decide_eq_false (by omega)
    clear c3
    by_cases c4 : (a1.size : Int) > 1048576
    · rw [if_pos c4] at H
      have c4b0 : decide (1048576 < (a1.size : Int)) = true := decide_eq_true c4
      have c4b1 : decide (1048576 < a1.size) = true := decide_eq_true (by omega)
      clear c4
      obtain rfl := Option.some.inj H
      go_enter Try.func11, Try.ntmps11
      go_wp2
      go_ret
      exact ⟨by first | rfl | (simp [errW_none, errW_some] <;> rfl) | (simp [*, errW_none, errW_some] <;> rfl), by repeat (first | (with_reducible first | exact HB.out | apply below_alloc | apply pw_below_drewN | apply below_drew1) | exact HB.out)⟩
    · rw [if_neg c4] at H
      have c4b0 : decide (1048576 < (a1.size : Int)) = false := decide_eq_false c4
      have c4b1 : decide (1048576 < a1.size) = false := decide_eq_false (by omega)
      clear c4
      replace H := Option.bind_eq_some_iff.mp H
      obtain ⟨t130, A50, H⟩ := H
      replace H : ((impl_DistanceBetween.f k a0 a1).bind fun t131 => (if t131 = t130 then (some true) else (some false))) = some r := H
      have A5 := Aside0.mk A50
      clear A50
      replace H := Option.bind_eq_some_iff.mp H
      obtain ⟨t131, A60, H⟩ := H
      replace H : (if t131 = t130 then (some true) else (some false)) = some r := H
      have A6 := Aside0.mk A60
      clear A60
      by_cases c7 : t131 = t130
      · rw [if_pos c7] at H
        have c7b0 : (t131 == t130) = true := beq_iff_eq.mpr c7
        have c7b1 : (t131 != t130) = false := bne_eq_false_iff_eq.mpr c7
        clear c7
        obtain rfl := Option.some.inj H
        go_enter Try.func11, Try.ntmps11
        go_wp2_with (first | ((with_reducible refine gate_callee (f := 39) rfl ?_); refine goesL_ (some 15) rfl rfl Try.func39 (by kernel_rfl) rfl #[.string a0, .string a1] rfl (by (try simp only [List.map_toArray, List.map_cons, List.map_nil]); first | done | rfl | (simp only [List.length_drop, List.length_take]; rfl)) ?_; (with_reducible refine (spec_DistanceBetween.calls k a0 a1 t130 _ A5.out).mono ?_); rintro e w8 ⟨rfl, hb⟩; refine ⟨_, rfl, ?_⟩; have n0_ := Aside0.mk (below_step (by repeat (first | (with_reducible first | exact HB.out | apply below_alloc | apply pw_below_drewN | apply below_drew1) | exact HB.out)) hb); clear HB; have HB := n0_; clear n0_; (try clear hb); (try clear hb2); (try clear hk); (try clear hi)) | ((with_reducible refine gate_callee (f := 40) rfl ?_); refine goesL_ (some 18) rfl rfl Try.func40 (by kernel_rfl) rfl #[.string a0, .string a1] rfl (by (try simp only [List.map_toArray, List.map_cons, List.map_nil]); first | done | rfl | (simp only [List.length_drop, List.length_take]; rfl)) ?_; (with_reducible refine (impl_DistanceBetween.calls k a0 a1 t131 _ A6.out).mono ?_); rintro e w9 ⟨rfl, hb⟩; refine ⟨_, rfl, ?_⟩; have n0_ := Aside0.mk (below_step (by repeat (first | (with_reducible first | exact HB.out | apply below_alloc | apply pw_below_drewN | apply below_drew1) | exact HB.out)) hb); clear HB; have HB := n0_; clear n0_; (try clear hb); (try clear hb2); (try clear hk); (try clear hi)))
        go_ret
        exact ⟨by first | rfl | (simp [errW_none, errW_some] <;> rfl) | (simp [*, errW_none, errW_some] <;> rfl), by repeat (first | (with_reducible first | exact HB.out | apply below_alloc | apply pw_below_drewN | apply below_drew1) | exact HB.out)⟩
      · rw [if_neg c7] at H
        have c7b0 : (t131 == t130) = false := beq_eq_false_iff_ne.mpr c7
        have c7b1 : (t131 != t130) = true := bne_iff_ne.mpr c7
        obtain rfl := Option.some.inj H
        go_enter Try.func11, Try.ntmps11
        go_wp2_with (first | ((with_reducible refine gate_callee (f := 39) rfl ?_); refine goesL_ (some 15) rfl rfl Try.func39 (by kernel_rfl) rfl #[.string a0, .string a1] rfl (by (try simp only [List.map_toArray, List.map_cons, List.map_nil]); first | done | rfl | (simp only [List.length_drop, List.length_take]; rfl)) ?_; (with_reducible refine (spec_DistanceBetween.calls k a0 a1 t130 _ A5.out).mono ?_); rintro e w10 ⟨rfl, hb⟩; refine ⟨_, rfl, ?_⟩; have n0_ := Aside0.mk (below_step (by repeat (first | (with_reducible first | exact HB.out | apply below_alloc | apply pw_below_drewN | apply below_drew1) | exact HB.out)) hb); clear HB; have HB := n0_; clear n0_; (try clear hb); (try clear hb2); (try clear hk); (try clear hi)) | ((with_reducible refine gate_callee (f := 40) rfl ?_); refine goesL_ (some 18) rfl rfl Try.func40 (by kernel_rfl) rfl #[.string a0, .string a1] rfl (by (try simp only [List.map_toArray, List.map_cons, List.map_nil]); first | done | rfl | (simp only [List.length_drop, List.length_take]; rfl)) ?_; (with_reducible refine (impl_DistanceBetween.calls k a0 a1 t131 _ A6.out).mono ?_); rintro e w11 ⟨rfl, hb⟩; refine ⟨_, rfl, ?_⟩; have n0_ := Aside0.mk (below_step (by repeat (first | (with_reducible first | exact HB.out | apply below_alloc | apply pw_below_drewN | apply below_drew1) | exact HB.out)) hb); clear HB; have HB := n0_; clear n0_; (try clear hb); (try clear hb2); (try clear hk); (try clear hi)))
        go_ret
        exact ⟨by first | rfl | (simp [errW_none, errW_some] <;> rfl) | (simp [*, errW_none, errW_some] <;> rfl), by repeat (first | (with_reducible first | exact HB.out | apply below_alloc | apply pw_below_drewN | apply below_drew1) | exact HB.out)⟩

/-- THE ONE PURE STATEMENT of laws_FnExactDistanceBetween: yours. -/
def laws_FnExactDistanceBetween.Pure : Prop := ∀ (a0 : ByteArray) (a1 : ByteArray), a0.size ≤ 140737488351232 → a1.size ≤ 140737488351232 → ∃ k, laws_FnExactDistanceBetween.f k a0 a1 = some true
theorem laws_FnExactDistanceBetween.walk (P : laws_FnExactDistanceBetween.Pure) (a0 : ByteArray) (a1 : ByteArray) (w : World) (w0 : a0.size ≤ 140737488351232) (w1 : a1.size ≤ 140737488351232) :
    Calls Try.prog 11 #[.string a0, .string a1] w fun e w' => e = .returned (.bool true) ∧ Below w.heap.size w w' := by
  obtain ⟨k, h⟩ := P a0 a1 w0 w1
  refine (laws_FnExactDistanceBetween.calls k a0 a1 true w h).mono ?_
  rintro e w' ⟨rfl, hd⟩
  exact ⟨rfl, hd⟩

end Go.Proofs.Ytnaehnenhnfecaa.PFnExactDistanceBetween
