-- written for this claim by a program of this session (wip/patch_print.py over the kit's print)
import Derived.Test.YtomkfofflpdknaaPFnExactSyllablesOfx0
import Derived.Test.YtomkfofflpdknaaPFnExactSyllablesOfx2
namespace Go.Proofs.Ytomkfofflpdknaa.PFnExactSyllablesOf
open Go.RowKit Go.Proofs.YtomkfofflpdknaaW.PrintWords Go.Proofs.YtomkfofflpdknaaW.PrintLast Go.Proofs.YtomkfofflpdknaaW.PrintMore
attribute [local go_sem] max2_int min2_int max_two min_two max_three min_three max_four min_four   -- for this text's walks alone
set_option linter.unusedVariables false
set_option linter.unusedSimpArgs false

/-! ### impl_SyllablesOf: function 33 -/
mutual
def impl_SyllablesOf.j0 : Nat → ByteArray → Bool → Option ((List (S93)))
  | 0, _, _ => none
  | k + 1, x0, x15 => if x15 = true then (some ([] : List (S93))) else (impl_SyllablesOf.l0 k x0 (([] : List (S93))) 0 (x0.size : Int) 0)
def impl_SyllablesOf.l0 : Nat → ByteArray → List (S93) → Int → Int → Int → Option ((List (S93)))
  | 0, _, _, _, _, _ => none
  | k + 1, x0, x3, x4, x18, x19 => if x19 < x18 then (if 0 ≤ x19 then (if x19 < (x0.size : Int) then ((impl_isVowel.f (bt x0 x19)).bind fun t141 => (if t141 = true then (if (x3.length : Int) > 0 then (if x4 < x19 then (if 0 ≤ x4 then (if x4 ≤ (wrap64 (x19 - 1)) then (if (wrap64 (x19 - 1)) ≤ (x0.size : Int) then (if 0 ≤ (wrap64 ((x3.length : Int) - 1)) then (if (wrap64 ((x3.length : Int) - 1)) < (x3.length : Int) then ((some (x3.set ((wrap64 ((x3.length : Int) - 1)) : Int).toNat (⟨(rd_T93 x3 (wrap64 ((x3.length : Int) - 1))).f0, (rd_T93 x3 (wrap64 ((x3.length : Int) - 1))).f1, x0.extract (x4 : Int).toNat ((wrap64 (x19 - 1)) : Int).toNat⟩ : S93) : List (S93))).bind fun y142 => (if 0 ≤ (wrap64 (x19 - 1)) then (if (wrap64 (x19 - 1)) ≤ x19 then (if x19 ≤ (x0.size : Int) then (if x19 ≤ (wrap64 (x19 + 1)) then (if (wrap64 (x19 + 1)) ≤ (x0.size : Int) then (if y142.length < 2932031007402 then (impl_SyllablesOf.l0 k x0 (y142 ++ [(⟨x0.extract ((wrap64 (x19 - 1)) : Int).toNat (x19 : Int).toNat, x0.extract (x19 : Int).toNat ((wrap64 (x19 + 1)) : Int).toNat, (⟨#[]⟩ : ByteArray)⟩ : S93)]) (wrap64 (x19 + 1)) x18 (wrap64 (x19 + 1))) else (none)) else (none)) else (none)) else (none)) else (none)) else (none))) else (none)) else (none)) else (none)) else (none)) else (none)) else (if 0 ≤ x4 then (if x4 ≤ x19 then (if x19 ≤ (x0.size : Int) then (if x19 ≤ (wrap64 (x19 + 1)) then (if (wrap64 (x19 + 1)) ≤ (x0.size : Int) then (if x3.length < 2932031007402 then (impl_SyllablesOf.l0 k x0 (x3 ++ [(⟨x0.extract (x4 : Int).toNat (x19 : Int).toNat, x0.extract (x19 : Int).toNat ((wrap64 (x19 + 1)) : Int).toNat, (⟨#[]⟩ : ByteArray)⟩ : S93)]) (wrap64 (x19 + 1)) x18 (wrap64 (x19 + 1))) else (none)) else (none)) else (none)) else (none)) else (none)) else (none))) else (if 0 ≤ x4 then (if x4 ≤ x19 then (if x19 ≤ (x0.size : Int) then (if x19 ≤ (wrap64 (x19 + 1)) then (if (wrap64 (x19 + 1)) ≤ (x0.size : Int) then (if x3.length < 2932031007402 then (impl_SyllablesOf.l0 k x0 (x3 ++ [(⟨x0.extract (x4 : Int).toNat (x19 : Int).toNat, x0.extract (x19 : Int).toNat ((wrap64 (x19 + 1)) : Int).toNat, (⟨#[]⟩ : ByteArray)⟩ : S93)]) (wrap64 (x19 + 1)) x18 (wrap64 (x19 + 1))) else (none)) else (none)) else (none)) else (none)) else (none)) else (none))) else (impl_SyllablesOf.l0 k x0 x3 x4 x18 (wrap64 (x19 + 1))))) else (none)) else (none)) else (if 0 ≤ x4 then (if x4 ≤ (x0.size : Int) then (if 0 ≤ (wrap64 ((x3.length : Int) - 1)) then (if (wrap64 ((x3.length : Int) - 1)) < (x3.length : Int) then (some (x3.set ((wrap64 ((x3.length : Int) - 1)) : Int).toNat (⟨(rd_T93 x3 (wrap64 ((x3.length : Int) - 1))).f0, (rd_T93 x3 (wrap64 ((x3.length : Int) - 1))).f1, x0.extract (x4 : Int).toNat x0.size⟩ : S93))) else (none)) else (none)) else (none)) else (none))
end
def impl_SyllablesOf.f (k : Nat) (a0 : ByteArray) : Option ((List (S93))) := (impl_IsForm.f k a0).bind fun t135 => (if t135 = true then ((impl_CountVowels.f k a0).bind fun t136 => (impl_SyllablesOf.j0 k a0 (t136 == 0))) else (impl_SyllablesOf.j0 k a0 true))
theorem impl_SyllablesOf.mono_l : ∀ k, (∀ y0 y1, LeO (impl_SyllablesOf.j0 k y0 y1) (impl_SyllablesOf.j0 (k + 1) y0 y1)) ∧ (∀ y0 y1 y2 y3 y4, LeO (impl_SyllablesOf.l0 k y0 y1 y2 y3 y4) (impl_SyllablesOf.l0 (k + 1) y0 y1 y2 y3 y4))
  | 0 => ⟨fun _ _ r h => by simp [impl_SyllablesOf.j0] at h, fun _ _ _ _ _ r h => by simp [impl_SyllablesOf.l0] at h⟩
  | k + 1 => by
    obtain ⟨ih0, ih1⟩ := impl_SyllablesOf.mono_l k
    refine ⟨?_, ?_⟩
    · intro y0 y1
      unfold impl_SyllablesOf.j0
      repeat' first
      | (with_reducible exact ih0 _ _)
      | (with_reducible exact ih1 _ _ _ _ _)
      | (with_reducible exact impl_CountVowels.mono _ _)
      | (with_reducible exact impl_IsForm.mono _ _)
      | (with_reducible exact LeO.refl _)
      | (with_reducible exact LeO.none _)
      | (with_reducible refine LeO.ite ?_ ?_)
      | (with_reducible refine LeO.bind ?_ (fun _ => ?_))
      | exact ih0 _ _
      | exact ih1 _ _ _ _ _
      | exact impl_CountVowels.mono _ _
      | exact impl_IsForm.mono _ _
      | exact LeO.none _
      | refine LeO.ite ?_ ?_
      | refine LeO.bind ?_ (fun _ => ?_)
    · intro y0 y1 y2 y3 y4
      unfold impl_SyllablesOf.l0
      repeat' first
      | (with_reducible exact ih0 _ _)
      | (with_reducible exact ih1 _ _ _ _ _)
      | (with_reducible exact impl_CountVowels.mono _ _)
      | (with_reducible exact impl_IsForm.mono _ _)
      | (with_reducible exact LeO.refl _)
      | (with_reducible exact LeO.none _)
      | (with_reducible refine LeO.ite ?_ ?_)
      | (with_reducible refine LeO.bind ?_ (fun _ => ?_))
      | exact ih0 _ _
      | exact ih1 _ _ _ _ _
      | exact impl_CountVowels.mono _ _
      | exact impl_IsForm.mono _ _
      | exact LeO.none _
      | refine LeO.ite ?_ ?_
      | refine LeO.bind ?_ (fun _ => ?_)
theorem impl_SyllablesOf.mono : ∀ a0 k, LeO (impl_SyllablesOf.f k a0) (impl_SyllablesOf.f (k + 1) a0) := by
  intro a0 k
  obtain ⟨ih0, ih1⟩ := impl_SyllablesOf.mono_l k
  unfold impl_SyllablesOf.f
  repeat' first
      | (with_reducible exact ih0 _ _)
      | (with_reducible exact ih1 _ _ _ _ _)
      | (with_reducible exact impl_CountVowels.mono _ _)
      | (with_reducible exact impl_IsForm.mono _ _)
      | (with_reducible exact LeO.refl _)
      | (with_reducible exact LeO.none _)
      | (with_reducible refine LeO.ite ?_ ?_)
      | (with_reducible refine LeO.bind ?_ (fun _ => ?_))
      | exact ih0 _ _
      | exact ih1 _ _ _ _ _
      | exact impl_CountVowels.mono _ _
      | exact impl_IsForm.mono _ _
      | exact LeO.none _
      | refine LeO.ite ?_ ?_
      | refine LeO.bind ?_ (fun _ => ?_)
def impl_SyllablesOf.T13 : Bool × List (List Nat × List Nat) := (true, [([], []), ([], []), ([], []), ([], []), ([1, 2, 3], [1, 2, 3]), ([], []), ([], []), ([], []), ([7], [7]), ([5, 6, 8], [5, 6, 8]), ([4, 9], [4, 9]), ([10], [10]), ([0, 11], [0, 11]), ([12, 12, 0, 1, 2, 3, 4, 5, 6, 7, 8, 9, 10, 11, 12], [0, 12])])
def impl_SyllablesOf.B13 : List Nat := [0, 0, 0, 0, 14, 0, 0, 0, 128, 480, 1022, 2046, 4095, 8191]
theorem impl_SyllablesOf.tab13 : rtab .any (opsOf Try.f33 13) = impl_SyllablesOf.T13 := by kernel_rfl
theorem impl_SyllablesOf.bits13 : waitsOk impl_SyllablesOf.T13.2 impl_SyllablesOf.B13 = true := by kernel_rfl
set_option maxHeartbeats 8000000 in
set_option maxRecDepth 100000 in
theorem impl_SyllablesOf.calls (k : Nat) (a0 : ByteArray) (r : List (S93)) (w : World) (h : impl_SyllablesOf.f k a0 = some r) :
    Calls Try.prog 33 #[.string a0] w fun e w' => ∃ v0_ : Value, e = .returned (v0_) ∧ Kd.R k93 93 w' w.heap.size (fun _ => True) v0_ r ∧ Below w.heap.size w w' := by
  have hu93 := Try.underlying93
  have HB := Aside0.mk (Below.refl w.heap.size w)
  have H : ((impl_IsForm.f k a0).bind fun t135 => (if t135 = true then ((impl_CountVowels.f k a0).bind fun t136 => (impl_SyllablesOf.j0 k a0 (t136 == 0))) else (impl_SyllablesOf.j0 k a0 true))) = some r := h
  clear h
  have HC2 := Aside0.mk H
  clear H
  go_enter Try.func33, Try.ntmps33
  go_upto_region 1 with (fail)
  go_cut [15] (fun v15 wc => ∃ (kq : Nat) (x15_1 : Bool), v15 = .bool x15_1 ∧ Aside0 (impl_SyllablesOf.j0 kq a0 x15_1 = some r) ∧ Aside0 (kq ≤ k) ∧ Aside0 (Below w.heap.size w wc))
  case first =>
    have H := HC2.out
    clear HC2
    replace H := Option.bind_eq_some_iff.mp H
    obtain ⟨t135, A30, H⟩ := H
    replace H : (if t135 = true then ((impl_CountVowels.f k a0).bind fun t136 => (impl_SyllablesOf.j0 k a0 (t136 == 0))) else (impl_SyllablesOf.j0 k a0 true)) = some r := H
    have A3 := Aside0.mk A30
    clear A30
    by_cases c4 : t135 = true
    · subst c4
      have H1 : ((impl_CountVowels.f k a0).bind fun t136 => (impl_SyllablesOf.j0 k a0 (t136 == 0))) = some r := by rw [if_pos rfl] at H; exact H
      clear H
      have H := H1
      clear H1
      replace H := Option.bind_eq_some_iff.mp H
      obtain ⟨t136, A50, H⟩ := H
      replace H : (impl_SyllablesOf.j0 k a0 (t136 == 0)) = some r := H
      have A5 := Aside0.mk A50
      clear A50
      have H' := Aside0.mk H
      clear H
      go_wp2_with (first | ((with_reducible refine gate_callee (f := 75) rfl ?_); refine goesL_ (some 9) rfl rfl Try.func75 (by kernel_rfl) rfl #[.string a0] rfl (by (try simp only [List.map_toArray, List.map_cons, List.map_nil]); first | done | rfl | (simp only [List.length_drop, List.length_take]; rfl)) ?_; (with_reducible refine (impl_IsForm.calls k a0 true _ A3.out).mono ?_); rintro e w' ⟨rfl, ⟨nd, rfl⟩⟩; refine ⟨_, rfl, ?_⟩) | (go_at_call 80; (with_reducible refine (impl_CountVowels.calls k a0 t136 _ A5.out).mono ?_); rintro e w6 ⟨rfl, hb⟩; have n0_ := Aside0.mk (below_step (by repeat (first | (with_reducible first | exact HB.out | apply below_alloc | apply pw_below_drewN | apply below_drew1) | exact HB.out)) hb); clear HB; have HB := n0_; clear n0_; (try clear hb); (try clear hb2); (try clear hk); (try clear hi)))
      go_meet
      case rel => exact ⟨_, ((t136 == 0)), (by first | rfl | (simp; done) | (simp [*]; done)), H', ⟨by first | omega | exact Nat.le_refl _⟩, ⟨by repeat (first | (with_reducible first | exact HB.out | apply below_alloc | apply pw_below_drewN | apply below_drew1) | exact HB.out)⟩⟩
    · replace c4 := Bool.eq_false_iff.mpr c4
      subst c4
      have H1 : (impl_SyllablesOf.j0 k a0 true) = some r := by rw [if_neg (show ¬ (false = true) by decide)] at H; exact H
      clear H
      have H := H1
      clear H1
      have H' := Aside0.mk H
      clear H
      go_wp2_with (first | ((with_reducible refine gate_callee (f := 75) rfl ?_); refine goesL_ (some 9) rfl rfl Try.func75 (by kernel_rfl) rfl #[.string a0] rfl (by (try simp only [List.map_toArray, List.map_cons, List.map_nil]); first | done | rfl | (simp only [List.length_drop, List.length_take]; rfl)) ?_; (with_reducible refine (impl_IsForm.calls k a0 false _ A3.out).mono ?_); rintro e w' ⟨rfl, ⟨nd, rfl⟩⟩; refine ⟨_, rfl, ?_⟩))
      go_meet
      case rel => exact ⟨_, (true), (by first | rfl | (simp; done) | (simp [*]; done)), H', ⟨by first | omega | exact Nat.le_refl _⟩, ⟨by repeat (first | (with_reducible first | exact HB.out | apply below_alloc | apply pw_below_drewN | apply below_drew1) | exact HB.out)⟩⟩
  case rest =>
    clear HC2
    try clear p2
    try clear c3
    try clear c4
    obtain ⟨kq, x15_1, rfl, HA, HJ1, HB⟩ := hcut
    cases kq with
    | zero => exact absurd HA.out (by simp [impl_SyllablesOf.j0])
    | succ kj1 =>
      have H := HA.out
      clear HA
      simp only [impl_SyllablesOf.j0] at H
      by_cases c7 : x15_1 = true
      · subst c7
        have H1 : (some ([] : List (S93))) = some r := by rw [if_pos rfl] at H; exact H
        clear H
        have H := H1
        clear H1
        obtain rfl := Option.some.inj H
        go_wp2
        go_ret
        exact ⟨_, by first | rfl | (simp [errW_none, errW_some] <;> rfl) | (simp [*, errW_none, errW_some] <;> rfl), by first | exact Kd.R_nil _ _ _ _ _ | exact Kd.N_nil _ _ _ _ _ | exact Kd.V_nil _ _ _ _ _ | exact Kd.Q_nil _ _ _ _ _ | exact Kd.S_nil _ _ _ _ _, by repeat (first | (with_reducible first | exact HB.out | apply below_alloc | apply pw_below_drewN | apply below_drew1) | exact HB.out)⟩
      · replace c7 := Bool.eq_false_iff.mpr c7
        subst c7
        have H1 : (impl_SyllablesOf.l0 kj1 a0 (([] : List (S93))) 0 (a0.size : Int) 0) = some r := by rw [if_neg (show ¬ (false = true) by decide)] at H; exact H
        clear H
        have H := H1
        clear H1
        obtain ⟨y137, hy137⟩ : ∃ y_ : List (S93), y_ = (([] : List (S93))) := ⟨_, rfl⟩
        replace H : (impl_SyllablesOf.l0 kj1 a0 y137 0 (a0.size : Int) 0) = some r := by first | (rw [hy137]; with_reducible exact H) | (have H2_ := (Option.bind_some _ _).symm.trans H; rw [hy137]; with_reducible exact H2_) | (have H2_ := (Option.bind_some _ _).symm.trans H; with_reducible exact H2_) | with_reducible exact H | (rw [hy137]; exact H) | exact H
        have Ny137 := Aside0.mk hy137
        clear hy137
        have H' := Aside0.mk H
        clear H
        go_wp2_with (first | ((with_reducible refine gate_dst (N := 16) rfl ?_); refine Kd.R_lit k93 _ 93 ?hg (N := 16) ?hd (xs := ([] : List (S93))) (inner := []) (ok := fun _ => True) (okp := fun _ => True) ?hr ?hp (fun _ hk => hk) trivial (Below.refl _ _) (Nat.le_refl _) (by simp) ?_; (case hd => rfl); (case hg => rfl); (case hr => first | (go_simp; done) | (go_simp; rfl)); (case hp => exact (Reps.none _ _)); intro v138 w8 ho9 hb hg_ hnew_; clear hg_ hnew_; (first | rw [← Ny137.out] at ho9 | (simp only [Int.reduceToNat] at ho9; rw [← Ny137.out] at ho9)); have n0_ := Aside0.mk (Kd.R_lower ho9 (below_size (by repeat (first | (with_reducible first | exact HB.out | apply below_alloc | apply pw_below_drewN | apply below_drew1) | exact HB.out)))); have n1_ := Aside0.mk (below_step (by repeat (first | (with_reducible first | exact HB.out | apply below_alloc | apply pw_below_drewN | apply below_drew1) | exact HB.out)) hb); clear HB; have HO139 := n0_; have HB := n1_; clear n0_ n1_; clear hb ho9))
        go_loopg [3, 4, 19] kj1 (fun kq v3 v4 v19 w' => ∃ (x3_2 : List (S93)) (x4_2 : Int) (x19_2 : Int), v4 = .int .i64 x4_2 ∧ v19 = .int .i64 x19_2 ∧ Aside0 (impl_SyllablesOf.l0 kq a0 x3_2 x4_2 (a0.size : Int) x19_2 = some r) ∧ Aside0 (kq ≤ kj1) ∧ Aside0 (Kd.R k93 93 w' w.heap.size (fun _ => True) v3 x3_2) ∧ Aside0 (Below w.heap.size w w'))
        case atStart => exact ⟨(y137), (0), (0), (by first | rfl | (simp; done) | (simp [*]; done)), (by first | rfl | (simp; done) | (simp [*]; done)), H', ⟨Nat.le_refl _⟩, ⟨by (with_reducible repeat (first | apply Kd.R_alloc | apply Kd.R_drewN | apply Kd.R_drew)); exact HO139.out⟩, ⟨by repeat (first | (with_reducible first | exact HB.out | apply below_alloc | apply pw_below_drewN | apply below_drew1) | exact HB.out)⟩⟩
        case round =>
          clear H'
          try clear p2
          try clear c3
          try clear c4
          try clear c7
          try clear p2
          obtain ⟨x3_2, x4_2, x19_2, rfl, rfl, HA, HK2, HO_3, HB⟩ := hrel
          cases gk with
          | zero => exact absurd HA.out (by simp [impl_SyllablesOf.l0])
          | succ k2 =>
            have H := HA.out
            clear HA
            simp only [impl_SyllablesOf.l0] at H
            by_cases c10 : x19_2 < (a0.size : Int)
            · rw [if_pos c10] at H
              have c10b0 : decide (x19_2 < (a0.size : Int)) = true := decide_eq_true c10
              clear c10
              by_cases c11 : 0 ≤ x19_2
              · rw [if_pos c11] at H
                have c11b0 : decide (0 ≤ x19_2) = true := decide_eq_true c11
                clear c11
                by_cases c12 : x19_2 < (a0.size : Int)
                · rw [if_pos c12] at H
                  have c12b0 : decide (x19_2 < (a0.size : Int)) = true := decide_eq_true c12
                  clear c12
                  replace H := Option.bind_eq_some_iff.mp H
                  obtain ⟨t141, A140, H⟩ := H
                  replace H : (if t141 = true then (if (x3_2.length : Int) > 0 then (if x4_2 < x19_2 then (if 0 ≤ x4_2 then (if x4_2 ≤ (wrap64 (x19_2 - 1)) then (if (wrap64 (x19_2 - 1)) ≤ (a0.size : Int) then (if 0 ≤ (wrap64 ((x3_2.length : Int) - 1)) then (if (wrap64 ((x3_2.length : Int) - 1)) < (x3_2.length : Int) then ((some (x3_2.set ((wrap64 ((x3_2.length : Int) - 1)) : Int).toNat (⟨(rd_T93 x3_2 (wrap64 ((x3_2.length : Int) - 1))).f0, (rd_T93 x3_2 (wrap64 ((x3_2.length : Int) - 1))).f1, a0.extract (x4_2 : Int).toNat ((wrap64 (x19_2 - 1)) : Int).toNat⟩ : S93) : List (S93))).bind fun y142 => (if 0 ≤ (wrap64 (x19_2 - 1)) then (if (wrap64 (x19_2 - 1)) ≤ x19_2 then (if x19_2 ≤ (a0.size : Int) then (if x19_2 ≤ (wrap64 (x19_2 + 1)) then (if (wrap64 (x19_2 + 1)) ≤ (a0.size : Int) then (if y142.length < 2932031007402 then (impl_SyllablesOf.l0 k2 a0 (y142 ++ [(⟨a0.extract ((wrap64 (x19_2 - 1)) : Int).toNat (x19_2 : Int).toNat, a0.extract (x19_2 : Int).toNat ((wrap64 (x19_2 + 1)) : Int).toNat, (⟨#[]⟩ : ByteArray)⟩ : S93)]) (wrap64 (x19_2 + 1)) (a0.size : Int) (wrap64 (x19_2 + 1))) else (none)) else (none)) else (none)) else (none)) else (none)) else (none))) else (none)) else (none)) else (none)) else (none)) else (none)) else (if 0 ≤ x4_2 then (if x4_2 ≤ x19_2 then (if x19_2 ≤ (a0.size : Int) then (if x19_2 ≤ (wrap64 (x19_2 + 1)) then (if (wrap64 (x19_2 + 1)) ≤ (a0.size : Int) then (if x3_2.length < 2932031007402 then (impl_SyllablesOf.l0 k2 a0 (x3_2 ++ [(⟨a0.extract (x4_2 : Int).toNat (x19_2 : Int).toNat, a0.extract (x19_2 : Int).toNat ((wrap64 (x19_2 + 1)) : Int).toNat, (⟨#[]⟩ : ByteArray)⟩ : S93)]) (wrap64 (x19_2 + 1)) (a0.size : Int) (wrap64 (x19_2 + 1))) else (none)) else (none)) else (none)) else (none)) else (none)) else (none))) else (if 0 ≤ x4_2 then (if x4_2 ≤ x19_2 then (if x19_2 ≤ (a0.size : Int) then (if x19_2 ≤ (wrap64 (x19_2 + 1)) then (if (wrap64 (x19_2 + 1)) ≤ (a0.size : Int) then (if x3_2.length < 2932031007402 then (impl_SyllablesOf.l0 k2 a0 (x3_2 ++ [(⟨a0.extract (x4_2 : Int).toNat (x19_2 : Int).toNat, a0.extract (x19_2 : Int).toNat ((wrap64 (x19_2 + 1)) : Int).toNat, (⟨#[]⟩ : ByteArray)⟩ : S93)]) (wrap64 (x19_2 + 1)) (a0.size : Int) (wrap64 (x19_2 + 1))) else (none)) else (none)) else (none)) else (none)) else (none)) else (none))) else (impl_SyllablesOf.l0 k2 a0 x3_2 x4_2 (a0.size : Int) (wrap64 (x19_2 + 1)))) = some r := H
                  have A14 := Aside0.mk A140
                  clear A140
                  by_cases c15 : t141 = true
                  · subst c15
                    have H1 : (if (x3_2.length : Int) > 0 then (if x4_2 < x19_2 then (if 0 ≤ x4_2 then (if x4_2 ≤ (wrap64 (x19_2 - 1)) then (if (wrap64 (x19_2 - 1)) ≤ (a0.size : Int) then (if 0 ≤ (wrap64 ((x3_2.length : Int) - 1)) then (if (wrap64 ((x3_2.length : Int) - 1)) < (x3_2.length : Int) then ((some (x3_2.set ((wrap64 ((x3_2.length : Int) - 1)) : Int).toNat (⟨(rd_T93 x3_2 (wrap64 ((x3_2.length : Int) - 1))).f0, (rd_T93 x3_2 (wrap64 ((x3_2.length : Int) - 1))).f1, a0.extract (x4_2 : Int).toNat ((wrap64 (x19_2 - 1)) : Int).toNat⟩ : S93) : List (S93))).bind fun y142 => (if 0 ≤ (wrap64 (x19_2 - 1)) then (if (wrap64 (x19_2 - 1)) ≤ x19_2 then (if x19_2 ≤ (a0.size : Int) then (if x19_2 ≤ (wrap64 (x19_2 + 1)) then (if (wrap64 (x19_2 + 1)) ≤ (a0.size : Int) then (if y142.length < 2932031007402 then (impl_SyllablesOf.l0 k2 a0 (y142 ++ [(⟨a0.extract ((wrap64 (x19_2 - 1)) : Int).toNat (x19_2 : Int).toNat, a0.extract (x19_2 : Int).toNat ((wrap64 (x19_2 + 1)) : Int).toNat, (⟨#[]⟩ : ByteArray)⟩ : S93)]) (wrap64 (x19_2 + 1)) (a0.size : Int) (wrap64 (x19_2 + 1))) else (none)) else (none)) else (none)) else (none)) else (none)) else (none))) else (none)) else (none)) else (none)) else (none)) else (none)) else (if 0 ≤ x4_2 then (if x4_2 ≤ x19_2 then (if x19_2 ≤ (a0.size : Int) then (if x19_2 ≤ (wrap64 (x19_2 + 1)) then (if (wrap64 (x19_2 + 1)) ≤ (a0.size : Int) then (if x3_2.length < 2932031007402 then (impl_SyllablesOf.l0 k2 a0 (x3_2 ++ [(⟨a0.extract (x4_2 : Int).toNat (x19_2 : Int).toNat, a0.extract (x19_2 : Int).toNat ((wrap64 (x19_2 + 1)) : Int).toNat, (⟨#[]⟩ : ByteArray)⟩ : S93)]) (wrap64 (x19_2 + 1)) (a0.size : Int) (wrap64 (x19_2 + 1))) else (none)) else (none)) else (none)) else (none)) else (none)) else (none))) else (if 0 ≤ x4_2 then (if x4_2 ≤ x19_2 then (if x19_2 ≤ (a0.size : Int) then (if x19_2 ≤ (wrap64 (x19_2 + 1)) then (if (wrap64 (x19_2 + 1)) ≤ (a0.size : Int) then (if x3_2.length < 2932031007402 then (impl_SyllablesOf.l0 k2 a0 (x3_2 ++ [(⟨a0.extract (x4_2 : Int).toNat (x19_2 : Int).toNat, a0.extract (x19_2 : Int).toNat ((wrap64 (x19_2 + 1)) : Int).toNat, (⟨#[]⟩ : ByteArray)⟩ : S93)]) (wrap64 (x19_2 + 1)) (a0.size : Int) (wrap64 (x19_2 + 1))) else (none)) else (none)) else (none)) else (none)) else (none)) else (none))) = some r := by rw [if_pos rfl] at H; exact H
                    clear H
                    have H := H1
                    clear H1
                    by_cases c16 : (x3_2.length : Int) > 0
                    · rw [if_pos c16] at H
                      have c16b0 : decide (0 < (x3_2.length : Int)) = true := decide_eq_true c16
                      have c16b1 : decide (0 < x3_2.length) = true := decide_eq_true (by omega)
                      clear c16
                      by_cases c17 : x4_2 < x19_2
                      · rw [if_pos c17] at H
                        have c17b0 : decide (x4_2 < x19_2) = true := decide_eq_true c17
                        clear c17
                        by_cases c18 : 0 ≤ x4_2
                        · rw [if_pos c18] at H
                          have c18b0 := eq_true c18
                          have c18b1 : decide (0 ≤ x4_2) = true := decide_eq_true c18
                          clear c18
                          by_cases c19 : x4_2 ≤ (wrap64 (x19_2 - 1))
                          · rw [if_pos c19] at H
                            have c19b0 := eq_true c19
                            have c19b1 : decide (x4_2 ≤ (wrap64 (x19_2 - 1))) = true := decide_eq_true c19
                            clear c19
                            by_cases c20 : (wrap64 (x19_2 - 1)) ≤ (a0.size : Int)
                            · rw [if_pos c20] at H
                              have c20b0 := eq_true c20
                              have c20b1 : decide ((wrap64 (x19_2 - 1)) ≤ (a0.size : Int)) = true := decide_eq_true c20
                              clear c20
                              obtain ⟨ji21, hji21⟩ : ∃ j_ : Int, (wrap64 ((x3_2.length : Int) - 1)) = j_ := ⟨_, rfl⟩
                              replace H : (if 0 ≤ (ji21) then (if (ji21) < (x3_2.length : Int) then ((some (x3_2.set ((ji21) : Int).toNat (⟨(rd_T93 x3_2 (ji21)).f0, (rd_T93 x3_2 (ji21)).f1, a0.extract (x4_2 : Int).toNat ((wrap64 (x19_2 - 1)) : Int).toNat⟩ : S93) : List (S93))).bind fun y142 => (if 0 ≤ (wrap64 (x19_2 - 1)) then (if (wrap64 (x19_2 - 1)) ≤ x19_2 then (if x19_2 ≤ (a0.size : Int) then (if x19_2 ≤ (wrap64 (x19_2 + 1)) then (if (wrap64 (x19_2 + 1)) ≤ (a0.size : Int) then (if y142.length < 2932031007402 then (impl_SyllablesOf.l0 k2 a0 (y142 ++ [(⟨a0.extract ((wrap64 (x19_2 - 1)) : Int).toNat (x19_2 : Int).toNat, a0.extract (x19_2 : Int).toNat ((wrap64 (x19_2 + 1)) : Int).toNat, (⟨#[]⟩ : ByteArray)⟩ : S93)]) (wrap64 (x19_2 + 1)) (a0.size : Int) (wrap64 (x19_2 + 1))) else (none)) else (none)) else (none)) else (none)) else (none)) else (none))) else (none)) else (none)) = some r := by first | (rw [hji21] at H; exact H) | (simp only [hji21] at H ⊢; exact H)
                              (try rw [hji21] at A14)
                              have hji21w : (IntKind.i64.wrap ((x3_2.length : Int) - 1)) = ji21 := (i64_w _).trans hji21
                              by_cases c22 : 0 ≤ (ji21)
                              · rw [if_pos c22] at H
                                have c22b0 : decide (0 ≤ (ji21)) = true := decide_eq_true c22
                                clear c22
                                by_cases c23 : (ji21) < (x3_2.length : Int)
                                · rw [if_pos c23] at H
                                  have c23b0 : decide ((ji21) < (x3_2.length : Int)) = true := decide_eq_true c23
                                  clear c23
                                  obtain ⟨y142, hy142⟩ : ∃ y_ : List (S93), y_ = (x3_2.set ((ji21) : Int).toNat (⟨(rd_T93 x3_2 (ji21)).f0, (rd_T93 x3_2 (ji21)).f1, a0.extract (x4_2 : Int).toNat ((wrap64 (x19_2 - 1)) : Int).toNat⟩ : S93)) := ⟨_, rfl⟩
                                  replace H : (if 0 ≤ (wrap64 (x19_2 - 1)) then (if (wrap64 (x19_2 - 1)) ≤ x19_2 then (if x19_2 ≤ (a0.size : Int) then (if x19_2 ≤ (wrap64 (x19_2 + 1)) then (if (wrap64 (x19_2 + 1)) ≤ (a0.size : Int) then (if y142.length < 2932031007402 then (impl_SyllablesOf.l0 k2 a0 (y142 ++ [(⟨a0.extract ((wrap64 (x19_2 - 1)) : Int).toNat (x19_2 : Int).toNat, a0.extract (x19_2 : Int).toNat ((wrap64 (x19_2 + 1)) : Int).toNat, (⟨#[]⟩ : ByteArray)⟩ : S93)]) (wrap64 (x19_2 + 1)) (a0.size : Int) (wrap64 (x19_2 + 1))) else (none)) else (none)) else (none)) else (none)) else (none)) else (none)) = some r := by first | (rw [hy142]; with_reducible exact H) | (have H2_ := (Option.bind_some _ _).symm.trans H; rw [hy142]; with_reducible exact H2_) | (have H2_ := (Option.bind_some _ _).symm.trans H; with_reducible exact H2_) | with_reducible exact H | (rw [hy142]; exact H) | exact H
                                  have Ny142 := Aside0.mk hy142
                                  clear hy142
                                  obtain ⟨ji25, hji25⟩ : ∃ j_ : Int, (wrap64 (x19_2 - 1)) = j_ := ⟨_, rfl⟩
                                  replace H : (if 0 ≤ (ji25) then (if (ji25) ≤ x19_2 then (if x19_2 ≤ (a0.size : Int) then (if x19_2 ≤ (wrap64 (x19_2 + 1)) then (if (wrap64 (x19_2 + 1)) ≤ (a0.size : Int) then (if y142.length < 2932031007402 then (impl_SyllablesOf.l0 k2 a0 (y142 ++ [(⟨a0.extract ((ji25) : Int).toNat (x19_2 : Int).toNat, a0.extract (x19_2 : Int).toNat ((wrap64 (x19_2 + 1)) : Int).toNat, (⟨#[]⟩ : ByteArray)⟩ : S93)]) (wrap64 (x19_2 + 1)) (a0.size : Int) (wrap64 (x19_2 + 1))) else (none)) else (none)) else (none)) else (none)) else (none)) else (none)) = some r := by first | (rw [hji25] at H; exact H) | (simp only [hji25] at H ⊢; exact H)
                                  (try rw [hji25] at c19b0)
                                  (try rw [hji25] at c19b1)
                                  (try rw [hji25] at c20b0)
                                  (try rw [hji25] at c20b1)
                                  (try rw [hji25] at A14)
                                  (try rw [hji25] at Ny142)
                                  have hji25w : (IntKind.i64.wrap (x19_2 - 1)) = ji25 := (i64_w _).trans hji25
                                  by_cases c26 : 0 ≤ (ji25)
                                  · rw [if_pos c26] at H
                                    have c26b0 := eq_true c26
                                    have c26b1 : decide (0 ≤ (ji25)) = true := decide_eq_true c26
                                    clear c26
                                    by_cases c27 : (ji25) ≤ x19_2
                                    · rw [if_pos c27] at H
                                      have c27b0 := eq_true c27
                                      have c27b1 : decide ((ji25) ≤ x19_2) = true := decide_eq_true c27
                                      clear c27
                                      by_cases c28 : x19_2 ≤ (a0.size : Int)
                                      · rw [if_pos c28] at H
                                        have c28b0 := eq_true c28
                                        have c28b1 : decide (x19_2 ≤ (a0.size : Int)) = true := decide_eq_true c28
                                        clear c28
                                        have c29b0 := eq_true (of_decide_eq_true (by first | (with_reducible assumption) | assumption) : 0 ≤ x19_2)
                                        by_cases c30 : x19_2 ≤ (wrap64 (x19_2 + 1))
                                        · rw [if_pos c30] at H
                                          have c30b0 := eq_true c30
                                          have c30b1 : decide (x19_2 ≤ (wrap64 (x19_2 + 1))) = true := decide_eq_true c30
                                          by_cases c31 : (wrap64 (x19_2 + 1)) ≤ (a0.size : Int)
                                          · rw [if_pos c31] at H
                                            have c31b0 := eq_true c31
                                            have c31b1 : decide ((wrap64 (x19_2 + 1)) ≤ (a0.size : Int)) = true := decide_eq_true c31
                                            by_cases c32 : y142.length < 2932031007402
                                            · rw [if_pos c32] at H
                                              have LMc32 := Aside0.mk c32
                                              clear c32
                                              obtain ⟨y143, hy143⟩ : ∃ y_ : List (S93), y_ = (y142 ++ [(⟨a0.extract ((ji25) : Int).toNat (x19_2 : Int).toNat, a0.extract (x19_2 : Int).toNat ((wrap64 (x19_2 + 1)) : Int).toNat, (⟨#[]⟩ : ByteArray)⟩ : S93)]) := ⟨_, rfl⟩
                                              replace H : (impl_SyllablesOf.l0 k2 a0 y143 (wrap64 (x19_2 + 1)) (a0.size : Int) (wrap64 (x19_2 + 1))) = some r := by first | (rw [hy143]; with_reducible exact H) | (have H2_ := (Option.bind_some _ _).symm.trans H; rw [hy143]; with_reducible exact H2_) | (have H2_ := (Option.bind_some _ _).symm.trans H; with_reducible exact H2_) | with_reducible exact H | (rw [hy143]; exact H) | exact H
                                              have Ny143 := Aside0.mk hy143
                                              clear hy143
                                              have H' := Aside0.mk H
                                              clear H
                                              have p13 : 0 ≤ (x19_2 : Int) := of_decide_eq_true (by first | (with_reducible assumption) | assumption)
                                              have q13 : x19_2 < (a0.size : Int) := of_decide_eq_true (by first | (with_reducible assumption) | assumption)
                                              have hx13 := bt_at a0 x19_2
                                              replace p13 := eq_true p13
                                              replace q13 := eq_true q13
                                              try go_wp2_with (first | ((with_reducible refine gate_callee (f := 81) rfl ?_); refine goesL_ (some 25) rfl rfl Try.func81 (by kernel_rfl) rfl #[.int .u8 (bt a0 x19_2)] rfl (by (try simp only [List.map_toArray, List.map_cons, List.map_nil]); first | done | rfl | (simp only [List.length_drop, List.length_take]; rfl)) ?_; (with_reducible refine (impl_isVowel.calls (bt a0 x19_2) true _ A14.out).mono ?_); rintro e w33 ⟨rfl, hb⟩; refine ⟨_, rfl, ?_⟩; have n0_ := Aside0.mk (Kd.R_below (by (with_reducible repeat (first | apply Kd.R_alloc | apply Kd.R_drewN | apply Kd.R_drew)); exact HO_3.out) hb); have n1_ := Aside0.mk (below_step (by repeat (first | (with_reducible first | exact HB.out | apply below_alloc | apply pw_below_drewN | apply below_drew1) | exact HB.out)) hb); clear HO_3; clear HB; have HO_3 := n0_; have HB := n1_; clear n0_ n1_; (try clear hb); (try clear hb2); (try clear hk); (try clear hi); obtain ⟨Ao34, co34, eo34⟩ := Kd.R_slice HO_3.out; subst eo34; have p24 : 0 ≤ ((ji21) : Int) := of_decide_eq_true (by first | (with_reducible assumption) | assumption); have q24 : ((ji21) : Int) < ((x3_2.length : Int) : Int) := of_decide_eq_true (by first | (with_reducible assumption) | assumption); obtain ⟨go24, co24, eo24, gb24, gl24, cl24, HG24⟩ := Kd.R_form HO_3.out (by omega); (first | cases eo24 | (injection eo24 with ea_ en_ ec_; (first | subst ea_ | (injection ea_ with ea_; subst ea_)); subst ec_; clear en_)); have GB24 := Aside0.mk gb24; have GG24 := Aside0.mk HG24; clear gb24 gl24 HG24; obtain ⟨ce24, hcl24, hM24, hcc24, hfr24⟩ := Kd.R_elem HO_3.out z93 ((ji21) : Int) p24 q24; obtain rfl := k93_openM hM24; have hx24_0 : w33.cell? ⟨go24, ((ji21) : Int).toNat * 3, none⟩ = some (.string ((rd_T93 x3_2 (ji21)).f0)) := hcc24 0 _ rfl; have hx24_1 : w33.cell? ⟨go24, ((ji21) : Int).toNat * 3 + 1, none⟩ = some (.string ((rd_T93 x3_2 (ji21)).f1)) := hcc24 1 _ rfl; have hx24_2 : w33.cell? ⟨go24, ((ji21) : Int).toNat * 3 + 2, none⟩ = some (.string ((rd_T93 x3_2 (ji21)).f2)) := hcc24 2 _ rfl; have hf24_0 : w33.frozen? ⟨go24, ((ji21) : Int).toNat * 3, none⟩ = false := hfr24 0; have hf24_1 : w33.frozen? ⟨go24, ((ji21) : Int).toNat * 3 + 1, none⟩ = false := hfr24 1; have hf24_2 : w33.frozen? ⟨go24, ((ji21) : Int).toNat * 3 + 2, none⟩ = false := hfr24 2; clear hcl24 hcc24 hfr24 hM24; replace p24 := eq_true p24; replace q24 := eq_true q24; have HX35 := Aside0.mk (show Kd.R k93 93 w33 w.heap.size (fun _ => True) (.slice (some ⟨go24, 0, none⟩) x3_2.length co34) x3_2 from (by (with_reducible repeat (first | apply Kd.R_alloc | apply Kd.R_drewN | apply Kd.R_drew)); exact HO_3.out)); obtain ⟨ce35, hcl35, hM35, hcc35, hfr35⟩ := Kd.R_elem HX35.out z93 ((ji21) : Int) (of_decide_eq_true (by first | (with_reducible assumption) | assumption)) (by have h_ : ((ji21) : Int) < ((x3_2.length : Int) : Int) := of_decide_eq_true (by first | (with_reducible assumption) | assumption); first | exact h_ | (have e_ := (Kd.R_reads' HO_3.out).1; omega) | simpa using h_); obtain rfl := k93_openM hM35; have HP35 := Kd.R_seg HX35.out ((ji21) : Int) (of_decide_eq_true (by first | (with_reducible assumption) | assumption)) (by have h_ : ((ji21) : Int) < ((x3_2.length : Int) : Int) := of_decide_eq_true (by first | (with_reducible assumption) | assumption); first | exact h_ | (have e_ := (Kd.R_reads' HO_3.out).1; omega) | simpa using h_) (seg := [.string (a0.extract (x4_2 : Int).toNat ((ji25) : Int).toNat)]) (j := 2) hcl35 hcc35 (show 3 ≤ 3 from by decide) (x' := (⟨(rd_T93 x3_2 (ji21)).f0, (rd_T93 x3_2 (ji21)).f1, a0.extract (x4_2 : Int).toNat ((ji25) : Int).toNat⟩ : S93)) (k93_mkM _ _ _ (⟨(rd_T93 x3_2 (ji21)).f0, (rd_T93 x3_2 (ji21)).f1, a0.extract (x4_2 : Int).toNat ((ji25) : Int).toNat⟩ : S93) ) (fun _ hk => hk); have hx35_2 := hcc35 2 _ rfl; (try simp only [show (k93).sz = 3 from rfl, Nat.mul_one, Nat.add_zero] at hx35_2); have hf35_2 := hfr35 2; (try simp only [show (k93).sz = 3 from rfl, Nat.mul_one, Nat.add_zero] at hf35_2); clear hcl35 hcc35 hfr35 hM35) | ((with_reducible refine gate_store (t := 9) (p := 47) rfl ?_); refine store_event (t := 9) (p := 47) (v := ?vo_w36) (w1 := (w33.setCell ⟨go24, ((ji21) : Int).toNat * 3 + 2, none⟩ (.string (a0.extract (x4_2 : Int).toNat ((ji25) : Int).toNat)))) ?hg ?ho ?hn ?hr ?_; (case ho => rfl); (case hg => rfl); (case hn => rfl); (case hr => first | (go_simp; done) | (go_simp; rfl)); intro w36 hw; have hg : w33.grownBy w36 (some go24) := (by rw [hw]; exact HP35.2); have hp_ : Kd.R k93 93 w36 w.heap.size (fun _ => True) (.slice (some ⟨go24, 0, none⟩) x3_2.length co34) y142 := (by rw [hw, Ny142.out]; exact HP35.1); clear HP35; have n0_ := Aside0.mk (hp_); have n1_ := Aside0.mk ((by rw [hw]; exact below_set (HB.out) GB24.out : Below w.heap.size w w36)); clear HO_3; clear HB; have HO_3 := n0_; have HB := n1_; clear n0_ n1_; clear hg hw hp_))
                                              have n0_ := Aside0.mk (Kd.R_drew HO_3.out)
                                              have n1_ := Aside0.mk (below_drew1 HB.out)
                                              clear HO_3
                                              clear HB
                                              have HO_3 := n0_
                                              have HB := n1_
                                              clear n0_ n1_
                                              refine start_ (n := 14) (S := fun w' => True) (ds := []) #[false, false, false, false, false, false, false, false, false, false, false, false, false, false] (by kernel_rfl) rfl rfl trivial (fun hHeld => ?_); refine with_tabW impl_SyllablesOf.tab13 impl_SyllablesOf.bits13 (fun HT_ HW_ => ?_)
                                              generalize w36.drew = w37 at HO_3 HB hHeld ⊢
                                              refine pure_ (i := 0) (N := some 48) (v := ?_) (a' := ?_) #[true, false, false, false, false, false, false, false, false, false, false, false, false, false] rfl rfl (any_of HT_.out (by kernel_rfl)) (fun _ _ _ h => h) (Or.inl ⟨by rfl, ?_⟩) ?_ ?_
                                              rotate_left
                                              · intro w'
                                                go_simp
                                                with_reducible rfl
                                              rotate_left
                                              · simp only [Act.put, List.setIfInBounds_toArray, List.set_cons_zero, List.set_cons_succ, i64_w, i32_w]
                                                rfl
                                              refine pure_ (i := 1) (N := some 49) (v := ?_) (a' := ?_) #[true, true, false, false, false, false, false, false, false, false, false, false, false, false] rfl rfl (any_of HT_.out (by kernel_rfl)) (fun _ _ _ h => h) (Or.inl ⟨by rfl, ?_⟩) ?_ ?_
                                              rotate_left
                                              · intro w'
                                                go_simp
                                                with_reducible rfl
                                              rotate_left
                                              · simp only [Act.put, List.setIfInBounds_toArray, List.set_cons_zero, List.set_cons_succ, i64_w, i32_w]
                                                rfl
                                              refine pure_ (i := 2) (N := some 50) (v := ?_) (a' := ?_) #[true, true, true, false, false, false, false, false, false, false, false, false, false, false] rfl rfl (any_of HT_.out (by kernel_rfl)) (fun _ _ _ h => h) (Or.inl ⟨by rfl, ?_⟩) ?_ ?_
                                              rotate_left
                                              · intro w'
                                                go_simp
                                                with_reducible rfl
                                              rotate_left
                                              · simp only [Act.put, List.setIfInBounds_toArray, List.set_cons_zero, List.set_cons_succ, i64_w, i32_w]
                                                rfl
                                              refine pure_ (i := 3) (N := some 51) (v := ?_) (a' := ?_) #[true, true, true, true, false, false, false, false, false, false, false, false, false, false] rfl rfl (any_of HT_.out (by kernel_rfl)) (fun _ _ _ h => h) (Or.inl ⟨by rfl, ?_⟩) ?_ ?_
                                              rotate_left
                                              · intro w'
                                                go_simp
                                                with_reducible rfl
                                              rotate_left
                                              · simp only [Act.put, List.setIfInBounds_toArray, List.set_cons_zero, List.set_cons_succ, i64_w, i32_w]
                                                rfl
                                              refine pure_ (i := 4) (N := some 52) (v := ?_) (a' := ?_) #[true, true, true, true, true, false, false, false, false, false, false, false, false, false] rfl rfl (any_of HT_.out (by kernel_rfl)) (fun _ _ _ h => h) (Or.inl ⟨by rfl, ?_⟩) ?_ ?_
                                              rotate_left
                                              · intro w'
                                                go_simp
                                                with_reducible rfl
                                              rotate_left
                                              · simp only [Act.put, List.setIfInBounds_toArray, List.set_cons_zero, List.set_cons_succ, i64_w, i32_w]
                                                rfl
                                              refine pure_ (i := 5) (N := some 53) (v := ?_) (a' := ?_) #[true, true, true, true, true, true, false, false, false, false, false, false, false, false] rfl rfl (any_of HT_.out (by kernel_rfl)) (fun _ _ _ h => h) (Or.inl ⟨by rfl, ?_⟩) ?_ ?_
                                              rotate_left
                                              · intro w'
                                                go_simp
                                                with_reducible rfl
                                              rotate_left
                                              · simp only [Act.put, List.setIfInBounds_toArray, List.set_cons_zero, List.set_cons_succ, i64_w, i32_w]
                                                rfl
                                              refine pure_ (i := 6) (N := some 54) (v := ?_) (a' := ?_) #[true, true, true, true, true, true, true, false, false, false, false, false, false, false] rfl rfl (any_of HT_.out (by kernel_rfl)) (fun _ _ _ h => h) (Or.inl ⟨by rfl, ?_⟩) ?_ ?_
                                              rotate_left
                                              · intro w'
                                                go_simp
                                                with_reducible rfl
                                              rotate_left
                                              · simp only [Act.put, List.setIfInBounds_toArray, List.set_cons_zero, List.set_cons_succ, i64_w, i32_w]
                                                rfl
                                              refine pure_ (i := 7) (N := some 55) (v := ?_) (a' := ?_) #[true, true, true, true, true, true, true, true, false, false, false, false, false, false] rfl rfl (any_of HT_.out (by kernel_rfl)) (fun _ _ _ h => h) (Or.inl ⟨by rfl, ?_⟩) ?_ ?_
                                              rotate_left
                                              · intro w'
                                                go_simp
                                                with_reducible rfl
                                              rotate_left
                                              · simp only [Act.put, List.setIfInBounds_toArray, List.set_cons_zero, List.set_cons_succ, i64_w, i32_w]
                                                rfl
                                              refine pure_ (i := 8) (N := some 56) (v := ?_) (a' := ?_) #[true, true, true, true, true, true, true, true, true, false, false, false, false, false] rfl rfl (any_of HT_.out (by kernel_rfl)) (fun _ _ _ h => h) (Or.inl ⟨by rfl, ?_⟩) ?_ ?_
                                              rotate_left
                                              · intro w'
                                                go_simp
                                                with_reducible rfl
                                              rotate_left
                                              · simp only [Act.put, List.setIfInBounds_toArray, List.set_cons_zero, List.set_cons_succ, i64_w, i32_w]
                                                rfl
                                              refine pure_ (i := 9) (N := some 57) (v := ?_) (a' := ?_) #[true, true, true, true, true, true, true, true, true, true, false, false, false, false] rfl rfl (any_of HT_.out (by kernel_rfl)) (fun _ _ _ h => h) (Or.inl ⟨by rfl, ?_⟩) ?_ ?_
                                              rotate_left
                                              · intro w'
                                                go_simp
                                                with_reducible rfl
                                              rotate_left
                                              · simp only [Act.put, List.setIfInBounds_toArray, List.set_cons_zero, List.set_cons_succ, i64_w, i32_w]
                                                rfl
                                              refine pure_ (i := 10) (N := some 58) (v := ?_) (a' := ?_) #[true, true, true, true, true, true, true, true, true, true, true, false, false, false] rfl rfl (any_of HT_.out (by kernel_rfl)) (fun _ _ _ h => h) (Or.inl ⟨by rfl, ?_⟩) ?_ ?_
                                              rotate_left
                                              · intro w'
                                                go_simp
                                                with_reducible rfl
                                              rotate_left
                                              · simp only [Act.put, List.setIfInBounds_toArray, List.set_cons_zero, List.set_cons_succ, i64_w, i32_w]
                                                rfl
                                              refine one_ (i := 11) (N := some 59) #[true, true, true, true, true, true, true, true, true, true, true, true, false, false] rfl rfl (one_of HT_.out (by kernel_rfl)) (by decide) (fun K hK => ?_)
                                              refine value_ (w1 := ?_) (v := ?_) (by rfl) rfl ?_ ?_
                                              rotate_left 2
                                              · go_simp
                                                constructor
                                                · rfl
                                                · rfl
                                              refine hK.out _ _ trivial (fun hHeld => ?_)
                                              clear hK K
                                              refine norm_ (a' := ?_) ?_ ?_
                                              rotate_left
                                              · show Act.put _ (some 59) _ = _
                                                simp only [Act.put, List.setIfInBounds_toArray, List.set_cons_zero, List.set_cons_succ, i64_w, i32_w]
                                                rfl
                                              refine one_ (i := 12) (N := some 60) #[true, true, true, true, true, true, true, true, true, true, true, true, true, false] rfl rfl (one_of HT_.out (by kernel_rfl)) (by decide) (fun K hK => ?_)
                                              refine Kd.R_append_step k93 (w0 := w) w.heap.size (by rfl) (.tmp 48) (.tmp 59) 53 93 (.agg #[(.string ⟨#[]⟩), (.string ⟨#[]⟩), (.string ⟨#[]⟩)]) 48 rfl Try.underlying53 info93 rfl (by decide) (by omega) (.slice (some ⟨go24, 0, none⟩) x3_2.length co34) y142 (⟨a0.extract ((ji25) : Int).toNat (x19_2 : Int).toNat, a0.extract (x19_2 : Int).toNat ((wrap64 (x19_2 + 1)) : Int).toNat, (⟨#[]⟩ : ByteArray)⟩ : S93) [.string (a0.extract ((ji25) : Int).toNat (x19_2 : Int).toNat), .string (a0.extract (x19_2 : Int).toNat ((wrap64 (x19_2 + 1)) : Int).toNat), .string (⟨#[]⟩ : ByteArray)] (fun _ => True) (fun _ => False) rfl rfl ?aP (fun _ hk => hk.elim) ?aF ?aO ?aB ?aS ?aL ?_
                                              (case aP => exact k93_mkM _ _ _ (⟨a0.extract ((ji25) : Int).toNat (x19_2 : Int).toNat, a0.extract (x19_2 : Int).toNat ((wrap64 (x19_2 + 1)) : Int).toNat, (⟨#[]⟩ : ByteArray)⟩ : S93))
                                              (case aB => exact (by repeat (first | (with_reducible first | exact HB.out | apply below_alloc | apply pw_below_drewN | apply below_drew1) | exact HB.out)))
                                              (case aF => exact (fun _ _ => trivial))
                                              (case aO => exact (by (with_reducible repeat (first | apply Kd.R_alloc | apply Kd.R_drewN | apply Kd.R_drew)); exact HO_3.out))
                                              (case aS => exact (below_size (by repeat (first | (with_reducible first | exact HB.out | apply below_alloc | apply pw_below_drewN | apply below_drew1) | exact HB.out))))
                                              (case aL => have := LMc32.out; omega)
                                              intro v144 w38 ho hb hg hat
                                              rw [← Ny143.out] at ho
                                              have n0_ := Aside0.mk (hb)
                                              have n1_ := Aside0.mk (ho)
                                              clear HB
                                              clear HO_3
                                              have HB := n0_
                                              have HO145 := n1_
                                              clear n0_ n1_
                                              clear ho hb hg hat
                                              refine hK.out _ _ trivial (fun hHeld => ?_)
                                              clear hK K
                                              refine norm_ (a' := ?_) ?_ ?_
                                              rotate_left
                                              · show Act.put _ (some 60) _ = _
                                                simp only [Act.put, List.setIfInBounds_toArray, List.set_cons_zero, List.set_cons_succ, i64_w, i32_w]
                                                rfl
                                              refine pure_ (i := 13) (N := some 3) (v := ?_) (a' := ?_) #[true, true, true, true, true, true, true, true, true, true, true, true, true, true] rfl rfl (any_of HT_.out (by kernel_rfl)) (fun _ _ _ h => h) (Or.inl ⟨by rfl, ?_⟩) ?_ ?_
                                              rotate_left
                                              · intro w'
                                                go_simp
                                                with_reducible rfl
                                              rotate_left
                                              · simp only [Act.put, List.setIfInBounds_toArray, List.set_cons_zero, List.set_cons_succ, i64_w, i32_w]
                                                rfl
                                              refine done_ (done_of HT_.out (by kernel_rfl)) ?_
                                              try go_wp2
                                              go_roundg k2
                                              case measure => have := HJ1.out; have := HK2.out; omega
                                              case rel => exact ⟨(y143), (wrap64 (x19_2 + 1)), (wrap64 (x19_2 + 1)), (by first | rfl | (simp; done) | (simp [*]; done)), (by first | rfl | (simp; done) | (simp [*]; done)), H', ⟨by have := HJ1.out; have := HK2.out; omega⟩, ⟨by (with_reducible repeat (first | apply Kd.R_alloc | apply Kd.R_drewN | apply Kd.R_drew)); exact HO145.out⟩, ⟨by repeat (first | (with_reducible first | exact HB.out | apply below_alloc | apply pw_below_drewN | apply below_drew1) | exact HB.out)⟩⟩
                                            · rw [if_neg c32] at H
                                              exact absurd H (by simp)
                                          · rw [if_neg c31] at H
                                            exact absurd H (by simp)
                                        · rw [if_neg c30] at H
                                          exact absurd H (by simp)
                                      · rw [if_neg c28] at H
                                        exact absurd H (by simp)
                                    · rw [if_neg c27] at H
                                      exact absurd H (by simp)
                                  · rw [if_neg c26] at H
                                    exact absurd H (by simp)
                                · rw [if_neg c23] at H
                                  exact absurd H (by simp)
                              · rw [if_neg c22] at H
                                exact absurd H (by simp)
                            · rw [if_neg c20] at H
                              exact absurd H (by simp)
                          · rw [if_neg c19] at H
                            exact absurd H (by simp)
                        · rw [if_neg c18] at H
                          exact absurd H (by simp)
                      · rw [if_neg c17] at H
                        have c17b0 : decide (x4_2 < x19_2) = false := decide_eq_false c17
                        clear c17
                        by_cases c39 : 0 ≤ x4_2
                        · rw [if_pos c39] at H
                          have c39b0 := eq_true c39
                          have c39b1 : decide (0 ≤ x4_2) = true := decide_eq_true c39
                          clear c39
                          by_cases c40 : x4_2 ≤ x19_2
                          · rw [if_pos c40] at H
                            have c40b0 := eq_true c40
                            have c40b1 : decide (x4_2 ≤ x19_2) = true := decide_eq_true c40
                            clear c40
                            by_cases c41 : x19_2 ≤ (a0.size : Int)
                            · rw [if_pos c41] at H
                              have c41b0 := eq_true c41
                              have c41b1 : decide (x19_2 ≤ (a0.size : Int)) = true := decide_eq_true c41
                              clear c41
                              have c42b0 := eq_true (of_decide_eq_true (by first | (with_reducible assumption) | assumption) : 0 ≤ x19_2)
                              by_cases c43 : x19_2 ≤ (wrap64 (x19_2 + 1))
                              · rw [if_pos c43] at H
                                have c43b0 := eq_true c43
                                have c43b1 : decide (x19_2 ≤ (wrap64 (x19_2 + 1))) = true := decide_eq_true c43
                                by_cases c44 : (wrap64 (x19_2 + 1)) ≤ (a0.size : Int)
                                · rw [if_pos c44] at H
                                  have c44b0 := eq_true c44
                                  have c44b1 : decide ((wrap64 (x19_2 + 1)) ≤ (a0.size : Int)) = true := decide_eq_true c44
                                  by_cases c45 : x3_2.length < 2932031007402
                                  · rw [if_pos c45] at H
                                    have LMc45 := Aside0.mk c45
                                    clear c45
                                    obtain ⟨y146, hy146⟩ : ∃ y_ : List (S93), y_ = (x3_2 ++ [(⟨a0.extract (x4_2 : Int).toNat (x19_2 : Int).toNat, a0.extract (x19_2 : Int).toNat ((wrap64 (x19_2 + 1)) : Int).toNat, (⟨#[]⟩ : ByteArray)⟩ : S93)]) := ⟨_, rfl⟩
                                    replace H : (impl_SyllablesOf.l0 k2 a0 y146 (wrap64 (x19_2 + 1)) (a0.size : Int) (wrap64 (x19_2 + 1))) = some r := by first | (rw [hy146]; with_reducible exact H) | (have H2_ := (Option.bind_some _ _).symm.trans H; rw [hy146]; with_reducible exact H2_) | (have H2_ := (Option.bind_some _ _).symm.trans H; with_reducible exact H2_) | with_reducible exact H | (rw [hy146]; exact H) | exact H
                                    have Ny146 := Aside0.mk hy146
                                    clear hy146
                                    have H' := Aside0.mk H
                                    clear H
                                    have p13 : 0 ≤ (x19_2 : Int) := of_decide_eq_true (by first | (with_reducible assumption) | assumption)
                                    have q13 : x19_2 < (a0.size : Int) := of_decide_eq_true (by first | (with_reducible assumption) | assumption)
                                    have hx13 := bt_at a0 x19_2
                                    replace p13 := eq_true p13
                                    replace q13 := eq_true q13
                                    try go_wp2_with (first | ((with_reducible refine gate_callee (f := 81) rfl ?_); refine goesL_ (some 25) rfl rfl Try.func81 (by kernel_rfl) rfl #[.int .u8 (bt a0 x19_2)] rfl (by (try simp only [List.map_toArray, List.map_cons, List.map_nil]); first | done | rfl | (simp only [List.length_drop, List.length_take]; rfl)) ?_; (with_reducible refine (impl_isVowel.calls (bt a0 x19_2) true _ A14.out).mono ?_); rintro e w46 ⟨rfl, hb⟩; refine ⟨_, rfl, ?_⟩; have n0_ := Aside0.mk (Kd.R_below (by (with_reducible repeat (first | apply Kd.R_alloc | apply Kd.R_drewN | apply Kd.R_drew)); exact HO_3.out) hb); have n1_ := Aside0.mk (below_step (by repeat (first | (with_reducible first | exact HB.out | apply below_alloc | apply pw_below_drewN | apply below_drew1) | exact HB.out)) hb); clear HO_3; clear HB; have HO_3 := n0_; have HB := n1_; clear n0_ n1_; (try clear hb); (try clear hb2); (try clear hk); (try clear hi); obtain ⟨Ao47, co47, eo47⟩ := Kd.R_slice HO_3.out; subst eo47))
                                    have n0_ := Aside0.mk (Kd.R_drew HO_3.out)
                                    have n1_ := Aside0.mk (below_drew1 HB.out)
                                    clear HO_3
                                    clear HB
                                    have HO_3 := n0_
                                    have HB := n1_
                                    clear n0_ n1_
                                    refine start_ (n := 14) (S := fun w' => True) (ds := []) #[false, false, false, false, false, false, false, false, false, false, false, false, false, false] (by kernel_rfl) rfl rfl trivial (fun hHeld => ?_); refine with_tabW impl_SyllablesOf.tab13 impl_SyllablesOf.bits13 (fun HT_ HW_ => ?_)
                                    generalize w46.drew = w48 at HO_3 HB hHeld ⊢
                                    refine pure_ (i := 0) (N := some 48) (v := ?_) (a' := ?_) #[true, false, false, false, false, false, false, false, false, false, false, false, false, false] rfl rfl (any_of HT_.out (by kernel_rfl)) (fun _ _ _ h => h) (Or.inl ⟨by rfl, ?_⟩) ?_ ?_
                                    rotate_left
                                    · intro w'
                                      go_simp
                                      with_reducible rfl
                                    rotate_left
                                    · simp only [Act.put, List.setIfInBounds_toArray, List.set_cons_zero, List.set_cons_succ, i64_w, i32_w]
                                      rfl
                                    refine pure_ (i := 1) (N := some 49) (v := ?_) (a' := ?_) #[true, true, false, false, false, false, false, false, false, false, false, false, false, false] rfl rfl (any_of HT_.out (by kernel_rfl)) (fun _ _ _ h => h) (Or.inl ⟨by rfl, ?_⟩) ?_ ?_
                                    rotate_left
                                    · intro w'
                                      go_simp
                                      with_reducible rfl
                                    rotate_left
                                    · simp only [Act.put, List.setIfInBounds_toArray, List.set_cons_zero, List.set_cons_succ, i64_w, i32_w]
                                      rfl
                                    refine pure_ (i := 2) (N := some 50) (v := ?_) (a' := ?_) #[true, true, true, false, false, false, false, false, false, false, false, false, false, false] rfl rfl (any_of HT_.out (by kernel_rfl)) (fun _ _ _ h => h) (Or.inl ⟨by rfl, ?_⟩) ?_ ?_
                                    rotate_left
                                    · intro w'
                                      go_simp
                                      with_reducible rfl
                                    rotate_left
                                    · simp only [Act.put, List.setIfInBounds_toArray, List.set_cons_zero, List.set_cons_succ, i64_w, i32_w]
                                      rfl
                                    refine pure_ (i := 3) (N := some 51) (v := ?_) (a' := ?_) #[true, true, true, true, false, false, false, false, false, false, false, false, false, false] rfl rfl (any_of HT_.out (by kernel_rfl)) (fun _ _ _ h => h) (Or.inl ⟨by rfl, ?_⟩) ?_ ?_
                                    rotate_left
                                    · intro w'
                                      go_simp
                                      with_reducible rfl
                                    rotate_left
                                    · simp only [Act.put, List.setIfInBounds_toArray, List.set_cons_zero, List.set_cons_succ, i64_w, i32_w]
                                      rfl
                                    refine pure_ (i := 4) (N := some 52) (v := ?_) (a' := ?_) #[true, true, true, true, true, false, false, false, false, false, false, false, false, false] rfl rfl (any_of HT_.out (by kernel_rfl)) (fun _ _ _ h => h) (Or.inl ⟨by rfl, ?_⟩) ?_ ?_
                                    rotate_left
                                    · intro w'
                                      go_simp
                                      with_reducible rfl
                                    rotate_left
                                    · simp only [Act.put, List.setIfInBounds_toArray, List.set_cons_zero, List.set_cons_succ, i64_w, i32_w]
                                      rfl
                                    refine pure_ (i := 5) (N := some 53) (v := ?_) (a' := ?_) #[true, true, true, true, true, true, false, false, false, false, false, false, false, false] rfl rfl (any_of HT_.out (by kernel_rfl)) (fun _ _ _ h => h) (Or.inl ⟨by rfl, ?_⟩) ?_ ?_
                                    rotate_left
                                    · intro w'
                                      go_simp
                                      with_reducible rfl
                                    rotate_left
                                    · simp only [Act.put, List.setIfInBounds_toArray, List.set_cons_zero, List.set_cons_succ, i64_w, i32_w]
                                      rfl
                                    refine pure_ (i := 6) (N := some 54) (v := ?_) (a' := ?_) #[true, true, true, true, true, true, true, false, false, false, false, false, false, false] rfl rfl (any_of HT_.out (by kernel_rfl)) (fun _ _ _ h => h) (Or.inl ⟨by rfl, ?_⟩) ?_ ?_
                                    rotate_left
                                    · intro w'
                                      go_simp
                                      with_reducible rfl
                                    rotate_left
                                    · simp only [Act.put, List.setIfInBounds_toArray, List.set_cons_zero, List.set_cons_succ, i64_w, i32_w]
                                      rfl
                                    refine pure_ (i := 7) (N := some 55) (v := ?_) (a' := ?_) #[true, true, true, true, true, true, true, true, false, false, false, false, false, false] rfl rfl (any_of HT_.out (by kernel_rfl)) (fun _ _ _ h => h) (Or.inl ⟨by rfl, ?_⟩) ?_ ?_
                                    rotate_left
                                    · intro w'
                                      go_simp
                                      with_reducible rfl
                                    rotate_left
                                    · simp only [Act.put, List.setIfInBounds_toArray, List.set_cons_zero, List.set_cons_succ, i64_w, i32_w]
                                      rfl
                                    refine pure_ (i := 8) (N := some 56) (v := ?_) (a' := ?_) #[true, true, true, true, true, true, true, true, true, false, false, false, false, false] rfl rfl (any_of HT_.out (by kernel_rfl)) (fun _ _ _ h => h) (Or.inl ⟨by rfl, ?_⟩) ?_ ?_
                                    rotate_left
                                    · intro w'
                                      go_simp
                                      with_reducible rfl
                                    rotate_left
                                    · simp only [Act.put, List.setIfInBounds_toArray, List.set_cons_zero, List.set_cons_succ, i64_w, i32_w]
                                      rfl
                                    refine pure_ (i := 9) (N := some 57) (v := ?_) (a' := ?_) #[true, true, true, true, true, true, true, true, true, true, false, false, false, false] rfl rfl (any_of HT_.out (by kernel_rfl)) (fun _ _ _ h => h) (Or.inl ⟨by rfl, ?_⟩) ?_ ?_
                                    rotate_left
                                    · intro w'
                                      go_simp
                                      with_reducible rfl
                                    rotate_left
                                    · simp only [Act.put, List.setIfInBounds_toArray, List.set_cons_zero, List.set_cons_succ, i64_w, i32_w]
                                      rfl
                                    refine pure_ (i := 10) (N := some 58) (v := ?_) (a' := ?_) #[true, true, true, true, true, true, true, true, true, true, true, false, false, false] rfl rfl (any_of HT_.out (by kernel_rfl)) (fun _ _ _ h => h) (Or.inl ⟨by rfl, ?_⟩) ?_ ?_
                                    rotate_left
                                    · intro w'
                                      go_simp
                                      with_reducible rfl
                                    rotate_left
                                    · simp only [Act.put, List.setIfInBounds_toArray, List.set_cons_zero, List.set_cons_succ, i64_w, i32_w]
                                      rfl
                                    refine one_ (i := 11) (N := some 59) #[true, true, true, true, true, true, true, true, true, true, true, true, false, false] rfl rfl (one_of HT_.out (by kernel_rfl)) (by decide) (fun K hK => ?_)
                                    refine value_ (w1 := ?_) (v := ?_) (by rfl) rfl ?_ ?_
                                    rotate_left 2
                                    · go_simp
                                      constructor
                                      · rfl
                                      · rfl
                                    refine hK.out _ _ trivial (fun hHeld => ?_)
                                    clear hK K
                                    refine norm_ (a' := ?_) ?_ ?_
                                    rotate_left
                                    · show Act.put _ (some 59) _ = _
                                      simp only [Act.put, List.setIfInBounds_toArray, List.set_cons_zero, List.set_cons_succ, i64_w, i32_w]
                                      rfl
                                    refine one_ (i := 12) (N := some 60) #[true, true, true, true, true, true, true, true, true, true, true, true, true, false] rfl rfl (one_of HT_.out (by kernel_rfl)) (by decide) (fun K hK => ?_)
                                    refine Kd.R_append_step k93 (w0 := w) w.heap.size (by rfl) (.tmp 48) (.tmp 59) 53 93 (.agg #[(.string ⟨#[]⟩), (.string ⟨#[]⟩), (.string ⟨#[]⟩)]) 48 rfl Try.underlying53 info93 rfl (by decide) (by omega) (.slice Ao47 x3_2.length co47) x3_2 (⟨a0.extract (x4_2 : Int).toNat (x19_2 : Int).toNat, a0.extract (x19_2 : Int).toNat ((wrap64 (x19_2 + 1)) : Int).toNat, (⟨#[]⟩ : ByteArray)⟩ : S93) [.string (a0.extract (x4_2 : Int).toNat (x19_2 : Int).toNat), .string (a0.extract (x19_2 : Int).toNat ((wrap64 (x19_2 + 1)) : Int).toNat), .string (⟨#[]⟩ : ByteArray)] (fun _ => True) (fun _ => False) rfl rfl ?aP (fun _ hk => hk.elim) ?aF ?aO ?aB ?aS ?aL ?_
                                    (case aP => exact k93_mkM _ _ _ (⟨a0.extract (x4_2 : Int).toNat (x19_2 : Int).toNat, a0.extract (x19_2 : Int).toNat ((wrap64 (x19_2 + 1)) : Int).toNat, (⟨#[]⟩ : ByteArray)⟩ : S93))
                                    (case aB => exact (by repeat (first | (with_reducible first | exact HB.out | apply below_alloc | apply pw_below_drewN | apply below_drew1) | exact HB.out)))
                                    (case aF => exact (fun _ _ => trivial))
                                    (case aO => exact (by (with_reducible repeat (first | apply Kd.R_alloc | apply Kd.R_drewN | apply Kd.R_drew)); exact HO_3.out))
                                    (case aS => exact (below_size (by repeat (first | (with_reducible first | exact HB.out | apply below_alloc | apply pw_below_drewN | apply below_drew1) | exact HB.out))))
                                    (case aL => have := LMc45.out; omega)
                                    intro v147 w49 ho hb hg hat
                                    rw [← Ny146.out] at ho
                                    have n0_ := Aside0.mk (hb)
                                    have n1_ := Aside0.mk (ho)
                                    clear HB
                                    clear HO_3
                                    have HB := n0_
                                    have HO148 := n1_
                                    clear n0_ n1_
                                    clear ho hb hg hat
                                    refine hK.out _ _ trivial (fun hHeld => ?_)
                                    clear hK K
                                    refine norm_ (a' := ?_) ?_ ?_
                                    rotate_left
                                    · show Act.put _ (some 60) _ = _
                                      simp only [Act.put, List.setIfInBounds_toArray, List.set_cons_zero, List.set_cons_succ, i64_w, i32_w]
                                      rfl
                                    refine pure_ (i := 13) (N := some 3) (v := ?_) (a' := ?_) #[true, true, true, true, true, true, true, true, true, true, true, true, true, true] rfl rfl (any_of HT_.out (by kernel_rfl)) (fun _ _ _ h => h) (Or.inl ⟨by rfl, ?_⟩) ?_ ?_
                                    rotate_left
                                    · intro w'
                                      go_simp
                                      with_reducible rfl
                                    rotate_left
                                    · simp only [Act.put, List.setIfInBounds_toArray, List.set_cons_zero, List.set_cons_succ, i64_w, i32_w]
                                      rfl
                                    refine done_ (done_of HT_.out (by kernel_rfl)) ?_
                                    try go_wp2
                                    go_roundg k2
                                    case measure => have := HJ1.out; have := HK2.out; omega
                                    case rel => exact ⟨(y146), (wrap64 (x19_2 + 1)), (wrap64 (x19_2 + 1)), (by first | rfl | (simp; done) | (simp [*]; done)), (by first | rfl | (simp; done) | (simp [*]; done)), H', ⟨by have := HJ1.out; have := HK2.out; omega⟩, ⟨by (with_reducible repeat (first | apply Kd.R_alloc | apply Kd.R_drewN | apply Kd.R_drew)); exact HO148.out⟩, ⟨by repeat (first | (with_reducible first | exact HB.out | apply below_alloc | apply pw_below_drewN | apply below_drew1) | exact HB.out)⟩⟩
                                  · rw [if_neg c45] at H
                                    exact absurd H (by simp)
                                · rw [if_neg c44] at H
                                  exact absurd H (by simp)
                              · rw [if_neg c43] at H
                                exact absurd H (by simp)
                            · rw [if_neg c41] at H
                              exact absurd H (by simp)
                          · rw [if_neg c40] at H
                            exact absurd H (by simp)
                        · rw [if_neg c39] at H
                          exact absurd H (by simp)
                    · rw [if_neg c16] at H
                      have c16b0 : decide (0 < (x3_2.length : Int)) = false := decide_eq_false c16
                      have c16b1 : decide (0 < x3_2.length) = false := decide_eq_false (by omega)
                      clear c16
                      by_cases c50 : 0 ≤ x4_2
                      · rw [if_pos c50] at H
                        have c50b0 := eq_true c50
                        have c50b1 : decide (0 ≤ x4_2) = true := decide_eq_true c50
                        clear c50
                        by_cases c51 : x4_2 ≤ x19_2
                        · rw [if_pos c51] at H
                          have c51b0 := eq_true c51
                          have c51b1 : decide (x4_2 ≤ x19_2) = true := decide_eq_true c51
                          clear c51
                          by_cases c52 : x19_2 ≤ (a0.size : Int)
                          · rw [if_pos c52] at H
                            have c52b0 := eq_true c52
                            have c52b1 : decide (x19_2 ≤ (a0.size : Int)) = true := decide_eq_true c52
                            clear c52
                            have c53b0 := eq_true (of_decide_eq_true (by first | (with_reducible assumption) | assumption) : 0 ≤ x19_2)
                            by_cases c54 : x19_2 ≤ (wrap64 (x19_2 + 1))
                            · rw [if_pos c54] at H
                              have c54b0 := eq_true c54
                              have c54b1 : decide (x19_2 ≤ (wrap64 (x19_2 + 1))) = true := decide_eq_true c54
                              by_cases c55 : (wrap64 (x19_2 + 1)) ≤ (a0.size : Int)
                              · rw [if_pos c55] at H
                                have c55b0 := eq_true c55
                                have c55b1 : decide ((wrap64 (x19_2 + 1)) ≤ (a0.size : Int)) = true := decide_eq_true c55
                                by_cases c56 : x3_2.length < 2932031007402
                                · rw [if_pos c56] at H
                                  have LMc56 := Aside0.mk c56
                                  clear c56
                                  obtain ⟨y149, hy149⟩ : ∃ y_ : List (S93), y_ = (x3_2 ++ [(⟨a0.extract (x4_2 : Int).toNat (x19_2 : Int).toNat, a0.extract (x19_2 : Int).toNat ((wrap64 (x19_2 + 1)) : Int).toNat, (⟨#[]⟩ : ByteArray)⟩ : S93)]) := ⟨_, rfl⟩
                                  replace H : (impl_SyllablesOf.l0 k2 a0 y149 (wrap64 (x19_2 + 1)) (a0.size : Int) (wrap64 (x19_2 + 1))) = some r := by first | (rw [hy149]; with_reducible exact H) | (have H2_ := (Option.bind_some _ _).symm.trans H; rw [hy149]; with_reducible exact H2_) | (have H2_ := (Option.bind_some _ _).symm.trans H; with_reducible exact H2_) | with_reducible exact H | (rw [hy149]; exact H) | exact H
                                  have Ny149 := Aside0.mk hy149
                                  clear hy149
                                  have H' := Aside0.mk H
                                  clear H
                                  have p13 : 0 ≤ (x19_2 : Int) := of_decide_eq_true (by first | (with_reducible assumption) | assumption)
                                  have q13 : x19_2 < (a0.size : Int) := of_decide_eq_true (by first | (with_reducible assumption) | assumption)
                                  have hx13 := bt_at a0 x19_2
                                  replace p13 := eq_true p13
                                  replace q13 := eq_true q13
                                  try go_wp2_with (first | ((with_reducible refine gate_callee (f := 81) rfl ?_); refine goesL_ (some 25) rfl rfl Try.func81 (by kernel_rfl) rfl #[.int .u8 (bt a0 x19_2)] rfl (by (try simp only [List.map_toArray, List.map_cons, List.map_nil]); first | done | rfl | (simp only [List.length_drop, List.length_take]; rfl)) ?_; (with_reducible refine (impl_isVowel.calls (bt a0 x19_2) true _ A14.out).mono ?_); rintro e w57 ⟨rfl, hb⟩; refine ⟨_, rfl, ?_⟩; have n0_ := Aside0.mk (Kd.R_below (by (with_reducible repeat (first | apply Kd.R_alloc | apply Kd.R_drewN | apply Kd.R_drew)); exact HO_3.out) hb); have n1_ := Aside0.mk (below_step (by repeat (first | (with_reducible first | exact HB.out | apply below_alloc | apply pw_below_drewN | apply below_drew1) | exact HB.out)) hb); clear HO_3; clear HB; have HO_3 := n0_; have HB := n1_; clear n0_ n1_; (try clear hb); (try clear hb2); (try clear hk); (try clear hi); obtain ⟨Ao58, co58, eo58⟩ := Kd.R_slice HO_3.out; subst eo58))
                                  have n0_ := Aside0.mk (Kd.R_drew HO_3.out)
                                  have n1_ := Aside0.mk (below_drew1 HB.out)
                                  clear HO_3
                                  clear HB
                                  have HO_3 := n0_
                                  have HB := n1_
                                  clear n0_ n1_
                                  refine start_ (n := 14) (S := fun w' => True) (ds := []) #[false, false, false, false, false, false, false, false, false, false, false, false, false, false] (by kernel_rfl) rfl rfl trivial (fun hHeld => ?_); refine with_tabW impl_SyllablesOf.tab13 impl_SyllablesOf.bits13 (fun HT_ HW_ => ?_)
                                  generalize w57.drew = w59 at HO_3 HB hHeld ⊢
                                  refine pure_ (i := 0) (N := some 48) (v := ?_) (a' := ?_) #[true, false, false, false, false, false, false, false, false, false, false, false, false, false] rfl rfl (any_of HT_.out (by kernel_rfl)) (fun _ _ _ h => h) (Or.inl ⟨by rfl, ?_⟩) ?_ ?_
                                  rotate_left
                                  · intro w'
                                    go_simp
                                    with_reducible rfl
                                  rotate_left
                                  · simp only [Act.put, List.setIfInBounds_toArray, List.set_cons_zero, List.set_cons_succ, i64_w, i32_w]
                                    rfl
                                  refine pure_ (i := 1) (N := some 49) (v := ?_) (a' := ?_) #[true, true, false, false, false, false, false, false, false, false, false, false, false, false] rfl rfl (any_of HT_.out (by kernel_rfl)) (fun _ _ _ h => h) (Or.inl ⟨by rfl, ?_⟩) ?_ ?_
                                  rotate_left
                                  · intro w'
                                    go_simp
                                    with_reducible rfl
                                  rotate_left
                                  · simp only [Act.put, List.setIfInBounds_toArray, List.set_cons_zero, List.set_cons_succ, i64_w, i32_w]
                                    rfl
                                  refine pure_ (i := 2) (N := some 50) (v := ?_) (a' := ?_) #[true, true, true, false, false, false, false, false, false, false, false, false, false, false] rfl rfl (any_of HT_.out (by kernel_rfl)) (fun _ _ _ h => h) (Or.inl ⟨by rfl, ?_⟩) ?_ ?_
                                  rotate_left
                                  · intro w'
                                    go_simp
                                    with_reducible rfl
                                  rotate_left
                                  · simp only [Act.put, List.setIfInBounds_toArray, List.set_cons_zero, List.set_cons_succ, i64_w, i32_w]
                                    rfl
                                  refine pure_ (i := 3) (N := some 51) (v := ?_) (a' := ?_) #[true, true, true, true, false, false, false, false, false, false, false, false, false, false] rfl rfl (any_of HT_.out (by kernel_rfl)) (fun _ _ _ h => h) (Or.inl ⟨by rfl, ?_⟩) ?_ ?_
                                  rotate_left
                                  · intro w'
                                    go_simp
                                    with_reducible rfl
                                  rotate_left
                                  · simp only [Act.put, List.setIfInBounds_toArray, List.set_cons_zero, List.set_cons_succ, i64_w, i32_w]
                                    rfl
                                  refine pure_ (i := 4) (N := some 52) (v := ?_) (a' := ?_) #[true, true, true, true, true, false, false, false, false, false, false, false, false, false] rfl rfl (any_of HT_.out (by kernel_rfl)) (fun _ _ _ h => h) (Or.inl ⟨by rfl, ?_⟩) ?_ ?_
                                  rotate_left
                                  · intro w'
                                    go_simp
                                    with_reducible rfl
                                  rotate_left
                                  · simp only [Act.put, List.setIfInBounds_toArray, List.set_cons_zero, List.set_cons_succ, i64_w, i32_w]
                                    rfl
                                  refine pure_ (i := 5) (N := some 53) (v := ?_) (a' := ?_) #[true, true, true, true, true, true, false, false, false, false, false, false, false, false] rfl rfl (any_of HT_.out (by kernel_rfl)) (fun _ _ _ h => h) (Or.inl ⟨by rfl, ?_⟩) ?_ ?_
                                  rotate_left
                                  · intro w'
                                    go_simp
                                    with_reducible rfl
                                  rotate_left
                                  · simp only [Act.put, List.setIfInBounds_toArray, List.set_cons_zero, List.set_cons_succ, i64_w, i32_w]
                                    rfl
                                  refine pure_ (i := 6) (N := some 54) (v := ?_) (a' := ?_) #[true, true, true, true, true, true, true, false, false, false, false, false, false, false] rfl rfl (any_of HT_.out (by kernel_rfl)) (fun _ _ _ h => h) (Or.inl ⟨by rfl, ?_⟩) ?_ ?_
                                  rotate_left
                                  · intro w'
                                    go_simp
                                    with_reducible rfl
                                  rotate_left
                                  · simp only [Act.put, List.setIfInBounds_toArray, List.set_cons_zero, List.set_cons_succ, i64_w, i32_w]
                                    rfl
                                  refine pure_ (i := 7) (N := some 55) (v := ?_) (a' := ?_) #[true, true, true, true, true, true, true, true, false, false, false, false, false, false] rfl rfl (any_of HT_.out (by kernel_rfl)) (fun _ _ _ h => h) (Or.inl ⟨by rfl, ?_⟩) ?_ ?_
                                  rotate_left
                                  · intro w'
                                    go_simp
                                    with_reducible rfl
                                  rotate_left
                                  · simp only [Act.put, List.setIfInBounds_toArray, List.set_cons_zero, List.set_cons_succ, i64_w, i32_w]
                                    rfl
                                  refine pure_ (i := 8) (N := some 56) (v := ?_) (a' := ?_) #[true, true, true, true, true, true, true, true, true, false, false, false, false, false] rfl rfl (any_of HT_.out (by kernel_rfl)) (fun _ _ _ h => h) (Or.inl ⟨by rfl, ?_⟩) ?_ ?_
                                  rotate_left
                                  · intro w'
                                    go_simp
                                    with_reducible rfl
                                  rotate_left
                                  · simp only [Act.put, List.setIfInBounds_toArray, List.set_cons_zero, List.set_cons_succ, i64_w, i32_w]
                                    rfl
                                  refine pure_ (i := 9) (N := some 57) (v := ?_) (a' := ?_) #[true, true, true, true, true, true, true, true, true, true, false, false, false, false] rfl rfl (any_of HT_.out (by kernel_rfl)) (fun _ _ _ h => h) (Or.inl ⟨by rfl, ?_⟩) ?_ ?_
                                  rotate_left
                                  · intro w'
                                    go_simp
                                    with_reducible rfl
                                  rotate_left
                                  · simp only [Act.put, List.setIfInBounds_toArray, List.set_cons_zero, List.set_cons_succ, i64_w, i32_w]
                                    rfl
                                  refine pure_ (i := 10) (N := some 58) (v := ?_) (a' := ?_) #[true, true, true, true, true, true, true, true, true, true, true, false, false, false] rfl rfl (any_of HT_.out (by kernel_rfl)) (fun _ _ _ h => h) (Or.inl ⟨by rfl, ?_⟩) ?_ ?_
                                  rotate_left
                                  · intro w'
                                    go_simp
                                    with_reducible rfl
                                  rotate_left
                                  · simp only [Act.put, List.setIfInBounds_toArray, List.set_cons_zero, List.set_cons_succ, i64_w, i32_w]
                                    rfl
                                  refine one_ (i := 11) (N := some 59) #[true, true, true, true, true, true, true, true, true, true, true, true, false, false] rfl rfl (one_of HT_.out (by kernel_rfl)) (by decide) (fun K hK => ?_)
                                  refine value_ (w1 := ?_) (v := ?_) (by rfl) rfl ?_ ?_
                                  rotate_left 2
                                  · go_simp
                                    constructor
                                    · rfl
                                    · rfl
                                  refine hK.out _ _ trivial (fun hHeld => ?_)
                                  clear hK K
                                  refine norm_ (a' := ?_) ?_ ?_
                                  rotate_left
                                  · show Act.put _ (some 59) _ = _
                                    simp only [Act.put, List.setIfInBounds_toArray, List.set_cons_zero, List.set_cons_succ, i64_w, i32_w]
                                    rfl
                                  refine one_ (i := 12) (N := some 60) #[true, true, true, true, true, true, true, true, true, true, true, true, true, false] rfl rfl (one_of HT_.out (by kernel_rfl)) (by decide) (fun K hK => ?_)
                                  refine Kd.R_append_step k93 (w0 := w) w.heap.size (by rfl) (.tmp 48) (.tmp 59) 53 93 (.agg #[(.string ⟨#[]⟩), (.string ⟨#[]⟩), (.string ⟨#[]⟩)]) 48 rfl Try.underlying53 info93 rfl (by decide) (by omega) (.slice Ao58 x3_2.length co58) x3_2 (⟨a0.extract (x4_2 : Int).toNat (x19_2 : Int).toNat, a0.extract (x19_2 : Int).toNat ((wrap64 (x19_2 + 1)) : Int).toNat, (⟨#[]⟩ : ByteArray)⟩ : S93) [.string (a0.extract (x4_2 : Int).toNat (x19_2 : Int).toNat), .string (a0.extract (x19_2 : Int).toNat ((wrap64 (x19_2 + 1)) : Int).toNat), .string (⟨#[]⟩ : ByteArray)] (fun _ => True) (fun _ => False) rfl rfl ?aP (fun _ hk => hk.elim) ?aF ?aO ?aB ?aS ?aL ?_
                                  (case aP => exact k93_mkM _ _ _ (⟨a0.extract (x4_2 : Int).toNat (x19_2 : Int).toNat, a0.extract (x19_2 : Int).toNat ((wrap64 (x19_2 + 1)) : Int).toNat, (⟨#[]⟩ : ByteArray)⟩ : S93))
                                  (case aB => exact (by repeat (first | (with_reducible first | exact HB.out | apply below_alloc | apply pw_below_drewN | apply below_drew1) | exact HB.out)))
                                  (case aF => exact (fun _ _ => trivial))
                                  (case aO => exact (by (with_reducible repeat (first | apply Kd.R_alloc | apply Kd.R_drewN | apply Kd.R_drew)); exact HO_3.out))
                                  (case aS => exact (below_size (by repeat (first | (with_reducible first | exact HB.out | apply below_alloc | apply pw_below_drewN | apply below_drew1) | exact HB.out))))
                                  (case aL => have := LMc56.out; omega)
                                  intro v150 w60 ho hb hg hat
                                  rw [← Ny149.out] at ho
                                  have n0_ := Aside0.mk (hb)
                                  have n1_ := Aside0.mk (ho)
                                  clear HB
                                  clear HO_3
                                  have HB := n0_
                                  have HO151 := n1_
                                  clear n0_ n1_
                                  clear ho hb hg hat
                                  refine hK.out _ _ trivial (fun hHeld => ?_)
                                  clear hK K
                                  refine norm_ (a' := ?_) ?_ ?_
                                  rotate_left
                                  · show Act.put _ (some 60) _ = _
                                    simp only [Act.put, List.setIfInBounds_toArray, List.set_cons_zero, List.set_cons_succ, i64_w, i32_w]
                                    rfl
                                  refine pure_ (i := 13) (N := some 3) (v := ?_) (a' := ?_) #[true, true, true, true, true, true, true, true, true, true, true, true, true, true] rfl rfl (any_of HT_.out (by kernel_rfl)) (fun _ _ _ h => h) (Or.inl ⟨by rfl, ?_⟩) ?_ ?_
                                  rotate_left
                                  · intro w'
                                    go_simp
                                    with_reducible rfl
                                  rotate_left
                                  · simp only [Act.put, List.setIfInBounds_toArray, List.set_cons_zero, List.set_cons_succ, i64_w, i32_w]
                                    rfl
                                  refine done_ (done_of HT_.out (by kernel_rfl)) ?_
                                  try go_wp2
                                  go_roundg k2
                                  case measure => have := HJ1.out; have := HK2.out; omega
                                  case rel => exact ⟨(y149), (wrap64 (x19_2 + 1)), (wrap64 (x19_2 + 1)), (by first | rfl | (simp; done) | (simp [*]; done)), (by first | rfl | (simp; done) | (simp [*]; done)), H', ⟨by have := HJ1.out; have := HK2.out; omega⟩, ⟨by (with_reducible repeat (first | apply Kd.R_alloc | apply Kd.R_drewN | apply Kd.R_drew)); exact HO151.out⟩, ⟨by repeat (first | (with_reducible first | exact HB.out | apply below_alloc | apply pw_below_drewN | apply below_drew1) | exact HB.out)⟩⟩
                                · rw [if_neg c56] at H
                                  exact absurd H (by simp)
                              · rw [if_neg c55] at H
                                exact absurd H (by simp)
                            · rw [if_neg c54] at H
                              exact absurd H (by simp)
                          · rw [if_neg c52] at H
                            exact absurd H (by simp)
                        · rw [if_neg c51] at H
                          exact absurd H (by simp)
                      · rw [if_neg c50] at H
                        exact absurd H (by simp)
                  · replace c15 := Bool.eq_false_iff.mpr c15
                    subst c15
                    have H1 : (impl_SyllablesOf.l0 k2 a0 x3_2 x4_2 (a0.size : Int) (wrap64 (x19_2 + 1))) = some r := by rw [if_neg (show ¬ (false = true) by decide)] at H; exact H
                    clear H
                    have H := H1
                    clear H1
                    have H' := Aside0.mk H
                    clear H
                    have p13 : 0 ≤ (x19_2 : Int) := of_decide_eq_true (by first | (with_reducible assumption) | assumption)
                    have q13 : x19_2 < (a0.size : Int) := of_decide_eq_true (by first | (with_reducible assumption) | assumption)
                    have hx13 := bt_at a0 x19_2
                    replace p13 := eq_true p13
                    replace q13 := eq_true q13
                    go_wp2_with (first | ((with_reducible refine gate_callee (f := 81) rfl ?_); refine goesL_ (some 25) rfl rfl Try.func81 (by kernel_rfl) rfl #[.int .u8 (bt a0 x19_2)] rfl (by (try simp only [List.map_toArray, List.map_cons, List.map_nil]); first | done | rfl | (simp only [List.length_drop, List.length_take]; rfl)) ?_; (with_reducible refine (impl_isVowel.calls (bt a0 x19_2) false _ A14.out).mono ?_); rintro e w61 ⟨rfl, hb⟩; refine ⟨_, rfl, ?_⟩; have n0_ := Aside0.mk (Kd.R_below (by (with_reducible repeat (first | apply Kd.R_alloc | apply Kd.R_drewN | apply Kd.R_drew)); exact HO_3.out) hb); have n1_ := Aside0.mk (below_step (by repeat (first | (with_reducible first | exact HB.out | apply below_alloc | apply pw_below_drewN | apply below_drew1) | exact HB.out)) hb); clear HO_3; clear HB; have HO_3 := n0_; have HB := n1_; clear n0_ n1_; (try clear hb); (try clear hb2); (try clear hk); (try clear hi)))
                    go_roundg k2
                    case measure => have := HJ1.out; have := HK2.out; omega
                    case rel => exact ⟨(x3_2), (x4_2), (wrap64 (x19_2 + 1)), (by first | rfl | (simp; done) | (simp [*]; done)), (by first | rfl | (simp; done) | (simp [*]; done)), H', ⟨by have := HJ1.out; have := HK2.out; omega⟩, ⟨by (with_reducible repeat (first | apply Kd.R_alloc | apply Kd.R_drewN | apply Kd.R_drew)); exact HO_3.out⟩, ⟨by repeat (first | (with_reducible first | exact HB.out | apply below_alloc | apply pw_below_drewN | apply below_drew1) | exact HB.out)⟩⟩
                · rw [if_neg c12] at H
                  exact absurd H (by simp)
              · rw [if_neg c11] at H
                exact absurd H (by simp)
            · rw [if_neg c10] at H
              have c10b0 : decide (x19_2 < (a0.size : Int)) = false := decide_eq_false c10
              clear c10
              by_cases c62 : 0 ≤ x4_2
              · rw [if_pos c62] at H
                have c62b0 := eq_true c62
                have c62b1 : decide (0 ≤ x4_2) = true := decide_eq_true c62
                clear c62
                by_cases c63 : x4_2 ≤ (a0.size : Int)
                · rw [if_pos c63] at H
                  have c63b0 := eq_true c63
                  have c63b1 : decide (x4_2 ≤ (a0.size : Int)) = true := decide_eq_true c63
                  clear c63
                  obtain ⟨ji64, hji64⟩ : ∃ j_ : Int, (wrap64 ((x3_2.length : Int) - 1)) = j_ := ⟨_, rfl⟩
                  replace H : (if 0 ≤ (ji64) then (if (ji64) < (x3_2.length : Int) then (some (x3_2.set ((ji64) : Int).toNat (⟨(rd_T93 x3_2 (ji64)).f0, (rd_T93 x3_2 (ji64)).f1, a0.extract (x4_2 : Int).toNat a0.size⟩ : S93))) else (none)) else (none)) = some r := by first | (rw [hji64] at H; exact H) | (simp only [hji64] at H ⊢; exact H)
                  have hji64w : (IntKind.i64.wrap ((x3_2.length : Int) - 1)) = ji64 := (i64_w _).trans hji64
                  by_cases c65 : 0 ≤ (ji64)
                  · rw [if_pos c65] at H
                    have c65b0 : decide (0 ≤ (ji64)) = true := decide_eq_true c65
                    clear c65
                    by_cases c66 : (ji64) < (x3_2.length : Int)
                    · rw [if_pos c66] at H
                      have c66b0 : decide ((ji64) < (x3_2.length : Int)) = true := decide_eq_true c66
                      clear c66
                      obtain ⟨y140, hy140⟩ : ∃ y_ : List (S93), y_ = (x3_2.set ((ji64) : Int).toNat (⟨(rd_T93 x3_2 (ji64)).f0, (rd_T93 x3_2 (ji64)).f1, a0.extract (x4_2 : Int).toNat a0.size⟩ : S93)) := ⟨_, rfl⟩
                      replace H : (some y140) = some r := by first | (rw [hy140]; with_reducible exact H) | (have H2_ := (Option.bind_some _ _).symm.trans H; rw [hy140]; with_reducible exact H2_) | (have H2_ := (Option.bind_some _ _).symm.trans H; with_reducible exact H2_) | with_reducible exact H | (rw [hy140]; exact H) | exact H
                      have Ny140 := Aside0.mk hy140
                      clear hy140
                      obtain rfl := Option.some.inj H
                      obtain ⟨Ao68, co68, eo68⟩ := Kd.R_slice HO_3.out
                      subst eo68
                      have p67 : 0 ≤ ((ji64) : Int) := of_decide_eq_true (by first | (with_reducible assumption) | assumption)
                      have q67 : ((ji64) : Int) < ((x3_2.length : Int) : Int) := of_decide_eq_true (by first | (with_reducible assumption) | assumption)
                      obtain ⟨go67, co67, eo67, gb67, gl67, cl67, HG67⟩ := Kd.R_form HO_3.out (by omega)
                      (first | cases eo67 | (injection eo67 with ea_ en_ ec_; (first | subst ea_ | (injection ea_ with ea_; subst ea_)); subst ec_; clear en_))
                      have GB67 := Aside0.mk gb67
                      have GG67 := Aside0.mk HG67
                      clear gb67 gl67 HG67
                      obtain ⟨ce67, hcl67, hM67, hcc67, hfr67⟩ := Kd.R_elem HO_3.out z93 ((ji64) : Int) p67 q67
                      obtain rfl := k93_openM hM67
                      have hx67_0 : wr.cell? ⟨go67, ((ji64) : Int).toNat * 3, none⟩ = some (.string ((rd_T93 x3_2 (ji64)).f0)) := hcc67 0 _ rfl
                      have hx67_1 : wr.cell? ⟨go67, ((ji64) : Int).toNat * 3 + 1, none⟩ = some (.string ((rd_T93 x3_2 (ji64)).f1)) := hcc67 1 _ rfl
                      have hx67_2 : wr.cell? ⟨go67, ((ji64) : Int).toNat * 3 + 2, none⟩ = some (.string ((rd_T93 x3_2 (ji64)).f2)) := hcc67 2 _ rfl
                      have hf67_0 : wr.frozen? ⟨go67, ((ji64) : Int).toNat * 3, none⟩ = false := hfr67 0
                      have hf67_1 : wr.frozen? ⟨go67, ((ji64) : Int).toNat * 3 + 1, none⟩ = false := hfr67 1
                      have hf67_2 : wr.frozen? ⟨go67, ((ji64) : Int).toNat * 3 + 2, none⟩ = false := hfr67 2
                      clear hcl67 hcc67 hfr67 hM67
                      replace p67 := eq_true p67
                      replace q67 := eq_true q67
                      have HX69 := Aside0.mk (show Kd.R k93 93 wr w.heap.size (fun _ => True) (.slice (some ⟨go67, 0, none⟩) x3_2.length co68) x3_2 from (by (with_reducible repeat (first | apply Kd.R_alloc | apply Kd.R_drewN | apply Kd.R_drew)); exact HO_3.out))
                      obtain ⟨ce69, hcl69, hM69, hcc69, hfr69⟩ := Kd.R_elem HX69.out z93 ((ji64) : Int) (of_decide_eq_true (by first | (with_reducible assumption) | assumption)) (by have h_ : ((ji64) : Int) < ((x3_2.length : Int) : Int) := of_decide_eq_true (by first | (with_reducible assumption) | assumption); first | exact h_ | (have e_ := (Kd.R_reads' HO_3.out).1; omega) | simpa using h_)
                      obtain rfl := k93_openM hM69
                      have HP69 := Kd.R_seg HX69.out ((ji64) : Int) (of_decide_eq_true (by first | (with_reducible assumption) | assumption)) (by have h_ : ((ji64) : Int) < ((x3_2.length : Int) : Int) := of_decide_eq_true (by first | (with_reducible assumption) | assumption); first | exact h_ | (have e_ := (Kd.R_reads' HO_3.out).1; omega) | simpa using h_) (seg := [.string (a0.extract (x4_2 : Int).toNat a0.size)]) (j := 2) hcl69 hcc69 (show 3 ≤ 3 from by decide) (x' := (⟨(rd_T93 x3_2 (ji64)).f0, (rd_T93 x3_2 (ji64)).f1, a0.extract (x4_2 : Int).toNat a0.size⟩ : S93)) (k93_mkM _ _ _ (⟨(rd_T93 x3_2 (ji64)).f0, (rd_T93 x3_2 (ji64)).f1, a0.extract (x4_2 : Int).toNat a0.size⟩ : S93) ) (fun _ hk => hk)
                      have hx69_2 := hcc69 2 _ rfl
                      (try simp only [show (k93).sz = 3 from rfl, Nat.mul_one, Nat.add_zero] at hx69_2)
                      have hf69_2 := hfr69 2
                      (try simp only [show (k93).sz = 3 from rfl, Nat.mul_one, Nat.add_zero] at hf69_2)
                      clear hcl69 hcc69 hfr69 hM69
                      go_wp2_with (first | ((with_reducible refine gate_store (t := 9) (p := 72) rfl ?_); refine store_event (t := 9) (p := 72) (v := ?vo_w70) (w1 := (wr.setCell ⟨go67, ((ji64) : Int).toNat * 3 + 2, none⟩ (.string (a0.extract (x4_2 : Int).toNat a0.size)))) ?hg ?ho ?hn ?hr ?_; (case ho => rfl); (case hg => rfl); (case hn => rfl); (case hr => first | (go_simp; done) | (go_simp; rfl)); intro w70 hw; have hg : wr.grownBy w70 (some go67) := (by rw [hw]; exact HP69.2); have hp_ : Kd.R k93 93 w70 w.heap.size (fun _ => True) (.slice (some ⟨go67, 0, none⟩) x3_2.length co68) y140 := (by rw [hw, Ny140.out]; exact HP69.1); clear HP69; have n0_ := Aside0.mk (hp_); have n1_ := Aside0.mk ((by rw [hw]; exact below_set (HB.out) GB67.out : Below w.heap.size w w70)); clear HO_3; clear HB; have HO_3 := n0_; have HB := n1_; clear n0_ n1_; clear hg hw hp_))
                      go_ret
                      exact ⟨_, by first | rfl | (simp [errW_none, errW_some] <;> rfl) | (simp only [← hji64]; first | rfl | (simp [errW_none, errW_some] <;> rfl)) | (simp [*, errW_none, errW_some] <;> rfl), by (with_reducible repeat (first | apply Kd.R_alloc | apply Kd.R_drewN | apply Kd.R_drew)); exact HO_3.out, by repeat (first | (with_reducible first | exact HB.out | apply below_alloc | apply pw_below_drewN | apply below_drew1) | exact HB.out)⟩
                    · rw [if_neg c66] at H
                      exact absurd H (by simp)
                  · rw [if_neg c65] at H
                    exact absurd H (by simp)
                · rw [if_neg c63] at H
                  exact absurd H (by simp)
              · rw [if_neg c62] at H
                exact absurd H (by simp)

end Go.Proofs.Ytomkfofflpdknaa.PFnExactSyllablesOf
