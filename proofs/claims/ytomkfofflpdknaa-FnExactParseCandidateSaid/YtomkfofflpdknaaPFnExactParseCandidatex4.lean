-- written for this claim by a program of this session (wip/patch_print.py over the kit's print)
import Derived.Test.YtomkfofflpdknaaPFnExactParseCandidatex0
import Derived.Test.YtomkfofflpdknaaPFnExactParseCandidatex1
import Derived.Test.YtomkfofflpdknaaPFnExactParseCandidatex3
namespace Go.Proofs.Ytomkfofflpdknaa.PFnExactParseCandidate
open Go.RowKit Go.Proofs.YtomkfofflpdknaaW.PrintWords Go.Proofs.YtomkfofflpdknaaW.PrintLast Go.Proofs.YtomkfofflpdknaaW.PrintMore
attribute [local go_sem] max2_int min2_int max_two min_two max_three min_three max_four min_four   -- for this text's walks alone
set_option linter.unusedVariables false
set_option linter.unusedSimpArgs false

/-! ### spec_ParseCandidate: function 48 -/
mutual
def spec_ParseCandidate.l0 : Nat → ByteArray → Int → List (S83) → Option ((List (S83)) × Bool)
  | 0, _, _, _ => none
  | k + 1, x0, x5, x159000 => if x5 < (x0.size : Int) then (spec_ParseCandidate.j1 k x0 x5 (x0.toList != ([110, 111, 110, 101] : List UInt8)) x159000) else (spec_ParseCandidate.j1 k x0 x5 false x159000)
def spec_ParseCandidate.j1 : Nat → ByteArray → Int → Bool → List (S83) → Option ((List (S83)) × Bool)
  | 0, _, _, _, _ => none
  | k + 1, x0, x5, x16, x159000 => if x16 = true then (if 0 ≤ x5 then (if x5 < (x0.size : Int) then (if (bt x0 x5) = 43 then (spec_ParseCandidate.j2 k x0 x5 true x159000 (bt x0 x5) (bt x0 x5)) else (if (bt x0 x5) = 45 then (spec_ParseCandidate.j2 k x0 x5 true x159000 (bt x0 x5) (bt x0 x5)) else (spec_ParseCandidate.j2 k x0 x5 ((bt x0 x5) == 42) x159000 (bt x0 x5) (bt x0 x5)))) else (none)) else (none)) else ((spec_FormatCandidate.f k x159000).bind fun t159 => (if t159.toList = x0.toList then (if x0.toList = ([] : List UInt8) then (some (([] : List (S83)), false)) else (some (x159000, true))) else (some (([] : List (S83)), false))))
def spec_ParseCandidate.j2 : Nat → ByteArray → Int → Bool → List (S83) → Int → Int → Option ((List (S83)) × Bool)
  | 0, _, _, _, _, _, _ => none
  | k + 1, x0, x5, x41, x159000, x161000, x161001 => if x41 = true then (if 0 ≤ x5 then (if x5 < (x0.size : Int) then (if (wrap64 (x5 + 1)) = (x0.size : Int) then (some (([] : List (S83)), false)) else (if 0 ≤ (wrap64 (x5 + 1)) then (if (wrap64 (x5 + 1)) < (x0.size : Int) then (if (bt x0 x5) = 43 then (if x159000.length < 70368744177664 then (spec_ParseCandidate.l0 k x0 (wrap64 ((wrap64 (x5 + 1)) + 1)) (x159000 ++ [(⟨0, bt x0 (wrap64 (x5 + 1))⟩ : S83)])) else (none)) else (if (bt x0 x5) = 45 then (if x159000.length < 70368744177664 then (spec_ParseCandidate.l0 k x0 (wrap64 ((wrap64 (x5 + 1)) + 1)) (x159000 ++ [(⟨bt x0 (wrap64 (x5 + 1)), 0⟩ : S83)])) else (none)) else ((spec_SwapVoice.f (bt x0 (wrap64 (x5 + 1)))).bind fun bt167 => (if x159000.length < 70368744177664 then (spec_ParseCandidate.l0 k x0 (wrap64 ((wrap64 (x5 + 1)) + 1)) (x159000 ++ [(⟨bt x0 (wrap64 (x5 + 1)), bt167.1⟩ : S83)])) else (none))))) else (none)) else (none))) else (none)) else (none)) else (if x159000.length < 70368744177664 then (spec_ParseCandidate.l0 k x0 (wrap64 (x5 + 1)) (x159000 ++ [(⟨x161000, x161001⟩ : S83)])) else (none))
end
def spec_ParseCandidate.f (k : Nat) (a0 : ByteArray) : Option ((List (S83)) × Bool) := spec_ParseCandidate.l0 k a0 0 ([] : List (S83))
theorem spec_ParseCandidate.mono_l : ∀ k, (∀ y0 y1 y2, LeO (spec_ParseCandidate.l0 k y0 y1 y2) (spec_ParseCandidate.l0 (k + 1) y0 y1 y2)) ∧ (∀ y0 y1 y2 y3, LeO (spec_ParseCandidate.j1 k y0 y1 y2 y3) (spec_ParseCandidate.j1 (k + 1) y0 y1 y2 y3)) ∧ (∀ y0 y1 y2 y3 y4 y5, LeO (spec_ParseCandidate.j2 k y0 y1 y2 y3 y4 y5) (spec_ParseCandidate.j2 (k + 1) y0 y1 y2 y3 y4 y5))
  | 0 => ⟨fun _ _ _ r h => by simp [spec_ParseCandidate.l0] at h, fun _ _ _ _ r h => by simp [spec_ParseCandidate.j1] at h, fun _ _ _ _ _ _ r h => by simp [spec_ParseCandidate.j2] at h⟩
  | k + 1 => by
    obtain ⟨ih0, ih1, ih2⟩ := spec_ParseCandidate.mono_l k
    refine ⟨?_, ?_, ?_⟩
    · intro y0 y1 y2
      unfold spec_ParseCandidate.l0
      repeat' first
      | (with_reducible exact ih0 _ _ _)
      | (with_reducible exact ih1 _ _ _ _)
      | (with_reducible exact ih2 _ _ _ _ _ _)
      | (with_reducible exact spec_FormatCandidate.mono _ _)
      | (with_reducible exact LeO.refl _)
      | (with_reducible exact LeO.none _)
      | (with_reducible refine LeO.ite ?_ ?_)
      | (with_reducible refine LeO.bind ?_ (fun _ => ?_))
      | exact ih0 _ _ _
      | exact ih1 _ _ _ _
      | exact ih2 _ _ _ _ _ _
      | exact spec_FormatCandidate.mono _ _
      | exact LeO.none _
      | refine LeO.ite ?_ ?_
      | refine LeO.bind ?_ (fun _ => ?_)
    · intro y0 y1 y2 y3
      unfold spec_ParseCandidate.j1
      repeat' first
      | (with_reducible exact ih0 _ _ _)
      | (with_reducible exact ih1 _ _ _ _)
      | (with_reducible exact ih2 _ _ _ _ _ _)
      | (with_reducible exact spec_FormatCandidate.mono _ _)
      | (with_reducible exact LeO.refl _)
      | (with_reducible exact LeO.none _)
      | (with_reducible refine LeO.ite ?_ ?_)
      | (with_reducible refine LeO.bind ?_ (fun _ => ?_))
      | exact ih0 _ _ _
      | exact ih1 _ _ _ _
      | exact ih2 _ _ _ _ _ _
      | exact spec_FormatCandidate.mono _ _
      | exact LeO.none _
      | refine LeO.ite ?_ ?_
      | refine LeO.bind ?_ (fun _ => ?_)
    · intro y0 y1 y2 y3 y4 y5
      unfold spec_ParseCandidate.j2
      repeat' first
      | (with_reducible exact ih0 _ _ _)
      | (with_reducible exact ih1 _ _ _ _)
      | (with_reducible exact ih2 _ _ _ _ _ _)
      | (with_reducible exact spec_FormatCandidate.mono _ _)
      | (with_reducible exact LeO.refl _)
      | (with_reducible exact LeO.none _)
      | (with_reducible refine LeO.ite ?_ ?_)
      | (with_reducible refine LeO.bind ?_ (fun _ => ?_))
      | exact ih0 _ _ _
      | exact ih1 _ _ _ _
      | exact ih2 _ _ _ _ _ _
      | exact spec_FormatCandidate.mono _ _
      | exact LeO.none _
      | refine LeO.ite ?_ ?_
      | refine LeO.bind ?_ (fun _ => ?_)
theorem spec_ParseCandidate.mono : ∀ a0 k, LeO (spec_ParseCandidate.f k a0) (spec_ParseCandidate.f (k + 1) a0) := by
  intro a0 k
  obtain ⟨ih0, ih1, ih2⟩ := spec_ParseCandidate.mono_l k
  unfold spec_ParseCandidate.f
  repeat' first
      | (with_reducible exact ih0 _ _ _)
      | (with_reducible exact ih1 _ _ _ _)
      | (with_reducible exact ih2 _ _ _ _ _ _)
      | (with_reducible exact spec_FormatCandidate.mono _ _)
      | (with_reducible exact LeO.refl _)
      | (with_reducible exact LeO.none _)
      | (with_reducible refine LeO.ite ?_ ?_)
      | (with_reducible refine LeO.bind ?_ (fun _ => ?_))
      | exact ih0 _ _ _
      | exact ih1 _ _ _ _
      | exact ih2 _ _ _ _ _ _
      | exact spec_FormatCandidate.mono _ _
      | exact LeO.none _
      | refine LeO.ite ?_ ?_
      | refine LeO.bind ?_ (fun _ => ?_)
def spec_ParseCandidate.T5 : Bool × List (List Nat × List Nat) := (true, [([], []), ([], []), ([0, 1], [0, 1]), ([], []), ([], []), ([3, 4], [3, 4]), ([2, 5], [2, 5]), ([], []), ([7, 6, 0, 1, 2, 3, 4, 5, 6, 7], [6, 7])])
def spec_ParseCandidate.B5 : List Nat := [0, 0, 3, 0, 0, 24, 63, 0, 255]
theorem spec_ParseCandidate.tab5 : rtab .any (opsOf Try.f48 5) = spec_ParseCandidate.T5 := by kernel_rfl
theorem spec_ParseCandidate.bits5 : waitsOk spec_ParseCandidate.T5.2 spec_ParseCandidate.B5 = true := by kernel_rfl
def spec_ParseCandidate.T11 : Bool × List (List Nat × List Nat) := (true, [([], []), ([], []), ([0, 1], [0, 1]), ([], []), ([], []), ([3, 4], [3, 4]), ([2, 5], [2, 5]), ([6, 0, 1, 2, 3, 4, 5, 6], [6])])
def spec_ParseCandidate.B11 : List Nat := [0, 0, 3, 0, 0, 24, 63, 127]
theorem spec_ParseCandidate.tab11 : rtab .any (opsOf Try.f48 11) = spec_ParseCandidate.T11 := by kernel_rfl
theorem spec_ParseCandidate.bits11 : waitsOk spec_ParseCandidate.T11.2 spec_ParseCandidate.B11 = true := by kernel_rfl
set_option maxHeartbeats 8000000 in
set_option maxRecDepth 100000 in
theorem spec_ParseCandidate.calls (k : Nat) (a0 : ByteArray) (r1 : List (S83)) (r2 : Bool) (w : World) (h : spec_ParseCandidate.f k a0 = some (r1, r2)) :
    Calls Try.prog 48 #[.string a0] w fun e w' => ∃ v0_ : Value, e = .returned (.tuple #[.agg #[v0_], .bool r2]) ∧ Kd.R k83 83 w' w.heap.size (fun _ => True) v0_ r1 ∧ Below w.heap.size w w' := by
  have hu49 := Try.underlying49
  have hu83 := Try.underlying83
  have HB := Aside0.mk (Below.refl w.heap.size w)
  have H : (spec_ParseCandidate.l0 k a0 0 ([] : List (S83))) = some (r1, r2) := h
  clear h
  have H' := Aside0.mk H
  clear H
  go_enter Try.func48, Try.ntmps48
  go_wp2_with (first | ((with_reducible refine gate_dst (N := 2) rfl ?_); refine box_event ?hg (N := 2) ?hd (cs := #[.slice none 0 0]) (t := 49) ?hr ?_; (case hd => rfl); (case hg => rfl); (case hr => first | (go_simp; done) | (go_simp; rfl)); intro gb157 hg w2 hbox hb; have n0_ := Aside0.mk (below_step (by repeat (first | (with_reducible first | exact HB.out | apply below_alloc | apply pw_below_drewN | apply below_drew1) | exact HB.out)) hb); have n1_ := Aside0.mk (hbox); have n2_ := Aside0.mk ((by rw [hg]; exact (below_size (by repeat (first | (with_reducible first | exact HB.out | apply below_alloc | apply pw_below_drewN | apply below_drew1) | exact HB.out))) : w.heap.size ≤ gb157)); have n3_ := Aside0.mk ((by rw [hg]; exact (below_size (by repeat (first | (with_reducible first | exact HB.out | apply below_alloc | apply pw_below_drewN | apply below_drew1) | exact HB.out))) : w.heap.size ≤ gb157)); clear HB; have HB := n0_; have BK157 := n1_; have GW157 := n2_; have GE157 := n3_; clear n0_ n1_ n2_ n3_; clear hb hbox hg) | ((with_reducible refine gate_dst (N := 4) rfl ?_); refine box_event ?hg (N := 4) ?hd (cs := #[.slice none 0 0]) (t := 49) ?hr ?_; (case hd => rfl); (case hg => rfl); (case hr => first | (go_simp; done) | (go_simp; rfl)); intro gb158 hg w3 hbox hb; have n0_ := Aside0.mk (blk_below (g := gb157) (o := .cells #[.slice none 0 0] 49 (0, 0)) (by (with_reducible repeat (first | refine blk_drewN ?_ _ | refine blk_drew ?_ | refine blk_alloc ?_ _)); exact BK157.out) hb); have n1_ := Aside0.mk (below_step (by repeat (first | (with_reducible first | exact HB.out | apply below_alloc | apply pw_below_drewN | apply below_drew1 | refine below_set ?_ GE157.out) | exact HB.out)) hb); have n2_ := Aside0.mk (hbox); have n3_ := Aside0.mk ((by rw [hg]; exact (below_size (by repeat (first | (with_reducible first | exact HB.out | apply below_alloc | apply pw_below_drewN | apply below_drew1 | refine below_set ?_ GE157.out) | exact HB.out))) : w.heap.size ≤ gb158)); have n4_ := Aside0.mk ((by rw [hg]; exact (below_size (by repeat (first | (with_reducible first | exact HB.out | apply below_alloc | apply pw_below_drewN | apply below_drew1 | refine below_set ?_ GE157.out) | exact HB.out))) : w.heap.size ≤ gb158)); have n5_ := Aside0.mk ((by rw [hg]; exact Nat.ne_of_lt (blk_lt (g := gb157) (o := .cells #[.slice none 0 0] 49 (0, 0)) (by (with_reducible repeat (first | refine blk_drewN ?_ _ | refine blk_drew ?_ | refine blk_alloc ?_ _)); exact BK157.out)) : gb157 ≠ gb158)); have n6_ := Aside0.mk ((by rw [hg]; exact Nat.ne_of_gt (blk_lt (g := gb157) (o := .cells #[.slice none 0 0] 49 (0, 0)) (by (with_reducible repeat (first | refine blk_drewN ?_ _ | refine blk_drew ?_ | refine blk_alloc ?_ _)); exact BK157.out)) : gb158 ≠ gb157)); clear BK157; clear HB; have BK157 := n0_; have HB := n1_; have BK158 := n2_; have GW158 := n3_; have GE158 := n4_; have NB157_158 := n5_; have NB158_157 := n6_; clear n0_ n1_ n2_ n3_ n4_ n5_ n6_; clear hb hbox hg; have hnb4 := NB158_157.out; have hnc4 := NB157_158.out; have hcz5_0 : w3.cell? ⟨gb158, 0, none⟩ = some (.slice none 0 0) := (blk_cell BK158.out 0).trans rfl; have hfz5_0 := blk_frozen BK158.out 0))
  go_loopg [5] k (fun kq v5 w' => ∃ (x5_1 : Int) (x159000_1 : List (S83)) (u159000 : Value), v5 = .int .i64 x5_1 ∧ Aside0 (spec_ParseCandidate.l0 kq a0 x5_1 x159000_1 = some (r1, r2)) ∧ Aside0 (kq ≤ k) ∧ Aside0 (Kd.R k83 83 w' w.heap.size (fun _ => True) u159000 x159000_1) ∧ Aside0 (w'.heap[gb157]? = some (.cells #[(.slice none 0 0)] 49 (0, 0))) ∧ Aside0 (w'.heap[gb158]? = some (.cells #[u159000] 49 (0, 0))) ∧ Aside0 (Below w.heap.size w w'))
  case atStart => exact ⟨(0), (([] : List (S83))), (.slice none 0 0), (by first | rfl | (simp; done) | (simp [*]; done)), H', ⟨Nat.le_refl _⟩, ⟨by first | exact Kd.R_nil _ _ _ _ _ | exact Kd.N_nil _ _ _ _ _ | exact Kd.V_nil _ _ _ _ _ | exact Kd.Q_nil _ _ _ _ _ | exact Kd.S_nil _ _ _ _ _⟩, ⟨by (with_reducible repeat (first | refine blk_drewN ?_ _ | refine blk_drew ?_ | refine blk_alloc ?_ _)); refine blk_far ?_ NB157_158.out _; (with_reducible repeat (first | refine blk_drewN ?_ _ | refine blk_drew ?_ | refine blk_alloc ?_ _)); exact BK157.out⟩, ⟨by (with_reducible repeat (first | refine blk_drewN ?_ _ | refine blk_drew ?_ | refine blk_alloc ?_ _)); refine blk_put (cs := #[.slice none 0 0]) ?_ 0 _ rfl; (with_reducible repeat (first | refine blk_drewN ?_ _ | refine blk_drew ?_ | refine blk_alloc ?_ _)); exact BK158.out⟩, ⟨by repeat (first | (with_reducible first | exact HB.out | apply below_alloc | apply pw_below_drewN | apply below_drew1 | refine below_set ?_ GE157.out | refine below_set ?_ GE158.out) | exact HB.out)⟩⟩
  case round =>
    clear H'
    try clear p2
    try clear c4
    try clear hcz5_0
    try clear hfz5_0
    obtain ⟨x5_1, x159000_1, u159000, rfl, HA, HK1, HO_159000, BK157, BK158, HB⟩ := hrel
    cases gk with
    | zero => exact absurd HA.out (by simp [spec_ParseCandidate.l0])
    | succ k1 =>
      have H := HA.out
      clear HA
      simp only [spec_ParseCandidate.l0] at H
      have HC6 := Aside0.mk H
      clear H
      go_upto_region 3 with (fail)
      go_cut [16] (fun v16 wc => ∃ (kq : Nat) (x16_5 : Bool), v16 = .bool x16_5 ∧ Aside0 (spec_ParseCandidate.j1 kq a0 x5_1 x16_5 x159000_1 = some (r1, r2)) ∧ Aside0 (kq ≤ k1) ∧ Aside0 (Kd.R k83 83 wc w.heap.size (fun _ => True) u159000 x159000_1) ∧ Aside0 (wc.heap[gb157]? = some (.cells #[(.slice none 0 0)] 49 (0, 0))) ∧ Aside0 (wc.heap[gb158]? = some (.cells #[u159000] 49 (0, 0))) ∧ Aside0 (Below w.heap.size w wc))
      case first =>
        have H := HC6.out
        clear HC6
        by_cases c7 : x5_1 < (a0.size : Int)
        · rw [if_pos c7] at H
          have c7b0 : decide (x5_1 < (a0.size : Int)) = true := decide_eq_true c7
          clear c7
          (first | rw [c7b0] | (simp only [i64_w, i32_w]; rw [c7b0]) | skip)
          have H' := Aside0.mk H
          clear H
          go_wp2
          go_meet
          case rel => exact ⟨_, ((a0.toList != ([110, 111, 110, 101] : List UInt8))), (by first | rfl | (simp; done) | (simp [*]; done)), H', ⟨by have := HK1.out; first | omega | exact Nat.le_refl _⟩, ⟨by (with_reducible repeat (first | apply Kd.R_alloc | apply Kd.R_drewN | apply Kd.R_drew)); exact HO_159000.out⟩, ⟨by (with_reducible repeat (first | refine blk_drewN ?_ _ | refine blk_drew ?_ | refine blk_alloc ?_ _)); exact BK157.out⟩, ⟨by (with_reducible repeat (first | refine blk_drewN ?_ _ | refine blk_drew ?_ | refine blk_alloc ?_ _)); exact BK158.out⟩, ⟨by repeat (first | (with_reducible first | exact HB.out | apply below_alloc | apply pw_below_drewN | apply below_drew1 | refine below_set ?_ GE157.out | refine below_set ?_ GE158.out) | exact HB.out)⟩⟩
        · rw [if_neg c7] at H
          have c7b0 : decide (x5_1 < (a0.size : Int)) = false := decide_eq_false c7
          clear c7
          (first | rw [c7b0] | (simp only [i64_w, i32_w]; rw [c7b0]) | skip)
          have H' := Aside0.mk H
          clear H
          go_wp2
          go_meet
          case rel => exact ⟨_, (false), (by first | rfl | (simp; done) | (simp [*]; done)), H', ⟨by have := HK1.out; first | omega | exact Nat.le_refl _⟩, ⟨by (with_reducible repeat (first | apply Kd.R_alloc | apply Kd.R_drewN | apply Kd.R_drew)); exact HO_159000.out⟩, ⟨by (with_reducible repeat (first | refine blk_drewN ?_ _ | refine blk_drew ?_ | refine blk_alloc ?_ _)); exact BK157.out⟩, ⟨by (with_reducible repeat (first | refine blk_drewN ?_ _ | refine blk_drew ?_ | refine blk_alloc ?_ _)); exact BK158.out⟩, ⟨by repeat (first | (with_reducible first | exact HB.out | apply below_alloc | apply pw_below_drewN | apply below_drew1 | refine below_set ?_ GE157.out | refine below_set ?_ GE158.out) | exact HB.out)⟩⟩
      case rest =>
        clear HC6
        try clear p2
        try clear c4
        try clear c7
        try clear c7b0
        try clear hcz5_0
        try clear hfz5_0
        try clear p2
        obtain ⟨kq, x16_5, rfl, HA, HJ5, HO_159000, BK157, BK158, HB⟩ := hcut
        cases kq with
        | zero => exact absurd HA.out (by simp [spec_ParseCandidate.j1])
        | succ kj5 =>
          have H := HA.out
          clear HA
          simp only [spec_ParseCandidate.j1] at H
          by_cases c8 : x16_5 = true
          · subst c8
            have H1 : (if 0 ≤ x5_1 then (if x5_1 < (a0.size : Int) then (if (bt a0 x5_1) = 43 then (spec_ParseCandidate.j2 kj5 a0 x5_1 true x159000_1 (bt a0 x5_1) (bt a0 x5_1)) else (if (bt a0 x5_1) = 45 then (spec_ParseCandidate.j2 kj5 a0 x5_1 true x159000_1 (bt a0 x5_1) (bt a0 x5_1)) else (spec_ParseCandidate.j2 kj5 a0 x5_1 ((bt a0 x5_1) == 42) x159000_1 (bt a0 x5_1) (bt a0 x5_1)))) else (none)) else (none)) = some (r1, r2) := by rw [if_pos rfl] at H; exact H
            clear H
            have H := H1
            clear H1
            by_cases c9 : 0 ≤ x5_1
            · rw [if_pos c9] at H
              have c9b0 : decide (0 ≤ x5_1) = true := decide_eq_true c9
              clear c9
              by_cases c10 : x5_1 < (a0.size : Int)
              · rw [if_pos c10] at H
                have c10b0 : decide (x5_1 < (a0.size : Int)) = true := decide_eq_true c10
                clear c10
                have HC13 := Aside0.mk H
                clear H
                try go_wp2
                have n0_ := Aside0.mk (Kd.R_drew HO_159000.out)
                have n1_ := Aside0.mk (blk_drew BK157.out)
                have n2_ := Aside0.mk (blk_drew BK158.out)
                have n3_ := Aside0.mk (below_drew1 HB.out)
                clear HO_159000
                clear BK157
                clear BK158
                clear HB
                have HO_159000 := n0_
                have BK157 := n1_
                have BK158 := n2_
                have HB := n3_
                clear n0_ n1_ n2_ n3_
                have p11 : 0 ≤ (x5_1 : Int) := of_decide_eq_true (by first | (with_reducible assumption) | assumption)
                have q11 : x5_1 < (a0.size : Int) := of_decide_eq_true (by first | (with_reducible assumption) | assumption)
                have hx11 := bt_at a0 x5_1
                replace p11 := eq_true p11
                replace q11 := eq_true q11
                have p12 : 0 ≤ (x5_1 : Int) := of_decide_eq_true (by first | (with_reducible assumption) | assumption)
                have q12 : x5_1 < (a0.size : Int) := of_decide_eq_true (by first | (with_reducible assumption) | assumption)
                have hx12 := bt_at a0 x5_1
                replace p12 := eq_true p12
                replace q12 := eq_true q12
                refine start_ (n := 9) (S := fun w' => True) (ds := []) #[false, false, false, false, false, false, false, false, false] (by kernel_rfl) rfl rfl trivial (fun hHeld => ?_); refine with_tabW spec_ParseCandidate.tab5 spec_ParseCandidate.bits5 (fun HT_ HW_ => ?_)
                generalize wc.drew = w14 at HO_159000 BK157 BK158 HB hHeld ⊢
                refine pure_ (i := 0) (N := some 19) (v := ?_) (a' := ?_) #[true, false, false, false, false, false, false, false, false] rfl rfl (any_of HT_.out (by kernel_rfl)) (fun _ _ _ h => h) (Or.inl ⟨by rfl, ?_⟩) ?_ ?_
                rotate_left
                · intro w'
                  go_simp
                  with_reducible rfl
                rotate_left
                · simp only [Act.put, List.setIfInBounds_toArray, List.set_cons_zero, List.set_cons_succ, i64_w, i32_w]
                  rfl
                refine pure_ (i := 1) (N := some 20) (v := ?_) (a' := ?_) #[true, true, false, false, false, false, false, false, false] rfl rfl (any_of HT_.out (by kernel_rfl)) (fun _ _ _ h => h) (Or.inl ⟨by rfl, ?_⟩) ?_ ?_
                rotate_left
                · intro w'
                  go_simp
                  with_reducible rfl
                rotate_left
                · simp only [Act.put, List.setIfInBounds_toArray, List.set_cons_zero, List.set_cons_succ, i64_w, i32_w]
                  rfl
                refine pure_ (i := 3) (N := some 22) (v := ?_) (a' := ?_) #[true, true, false, true, false, false, false, false, false] rfl rfl (any_of HT_.out (by kernel_rfl)) (fun _ _ _ h => h) (Or.inl ⟨by rfl, ?_⟩) ?_ ?_
                rotate_left
                · intro w'
                  go_simp
                  with_reducible rfl
                rotate_left
                · simp only [Act.put, List.setIfInBounds_toArray, List.set_cons_zero, List.set_cons_succ, i64_w, i32_w]
                  rfl
                refine pure_ (i := 4) (N := some 23) (v := ?_) (a' := ?_) #[true, true, false, true, true, false, false, false, false] rfl rfl (any_of HT_.out (by kernel_rfl)) (fun _ _ _ h => h) (Or.inl ⟨by rfl, ?_⟩) ?_ ?_
                rotate_left
                · intro w'
                  go_simp
                  with_reducible rfl
                rotate_left
                · simp only [Act.put, List.setIfInBounds_toArray, List.set_cons_zero, List.set_cons_succ, i64_w, i32_w]
                  rfl
                refine take_ (i := 2) (N := some 21) (v := ?_) (a' := ?_) #[true, true, true, true, true, false, false, false, false] rfl rfl (take_ofW HT_.out HW_.out (by kernel_rfl)) (fun _ _ _ h => h) (Or.inl ⟨by rfl, ?_⟩) hHeld ?_ ?_
                rotate_left
                · intro w' _
                  go_simp
                  with_reducible rfl
                rotate_left
                · simp only [Act.put, List.setIfInBounds_toArray, List.set_cons_zero, List.set_cons_succ, i64_w, i32_w]
                  rfl
                refine take_ (i := 5) (N := some 24) (v := ?_) (a' := ?_) #[true, true, true, true, true, true, false, false, false] rfl rfl (take_ofW HT_.out HW_.out (by kernel_rfl)) (fun _ _ _ h => h) (Or.inl ⟨by rfl, ?_⟩) hHeld ?_ ?_
                rotate_left
                · intro w' _
                  go_simp
                  with_reducible rfl
                rotate_left
                · simp only [Act.put, List.setIfInBounds_toArray, List.set_cons_zero, List.set_cons_succ, i64_w, i32_w]
                  rfl
                refine pure_ (i := 6) (N := some 25) (v := ?_) (a' := ?_) #[true, true, true, true, true, true, true, false, false] rfl rfl (any_of HT_.out (by kernel_rfl)) (fun _ _ _ h => h) (Or.inl ⟨by rfl, ?_⟩) ?_ ?_
                rotate_left
                · intro w'
                  go_simp
                  with_reducible rfl
                rotate_left
                · simp only [Act.put, List.setIfInBounds_toArray, List.set_cons_zero, List.set_cons_succ, i64_w, i32_w]
                  rfl
                refine one_ (i := 7) (N := some 6) #[true, true, true, true, true, true, true, true, false] rfl rfl (one_of HT_.out (by kernel_rfl)) (by decide) (fun K hK => ?_)
                refine box_step ?hg (N := 6) ?hd (cs := #[.int .u8 0, .int .u8 0]) (t := 83) ?hr ?_; (case hd => rfl); (case hg => rfl); (case hr => first | (go_simp; done) | (go_simp; rfl))
                intro gb160 hg w15 hbox hb
                have n0_ := Aside0.mk (Kd.R_below (Kd.R_elderB (by (with_reducible repeat (first | apply Kd.R_alloc | apply Kd.R_drewN | apply Kd.R_drew)); exact HO_159000.out) gb160 (Nat.le_of_eq hg.symm)) hb)
                have n1_ := Aside0.mk (blk_below (g := gb157) (o := .cells #[.slice none 0 0] 49 (0, 0)) (by (with_reducible repeat (first | refine blk_drewN ?_ _ | refine blk_drew ?_ | refine blk_alloc ?_ _)); exact BK157.out) hb)
                have n2_ := Aside0.mk (blk_below (g := gb158) (o := .cells #[u159000] 49 (0, 0)) (by (with_reducible repeat (first | refine blk_drewN ?_ _ | refine blk_drew ?_ | refine blk_alloc ?_ _)); exact BK158.out) hb)
                have n3_ := Aside0.mk (below_step (by repeat (first | (with_reducible first | exact HB.out | apply below_alloc | apply pw_below_drewN | apply below_drew1 | refine below_set ?_ GE157.out | refine below_set ?_ GE158.out) | exact HB.out)) hb)
                have n4_ := Aside0.mk (hbox)
                have n5_ := Aside0.mk ((by rw [hg]; exact (below_size (by repeat (first | (with_reducible first | exact HB.out | apply below_alloc | apply pw_below_drewN | apply below_drew1 | refine below_set ?_ GE157.out | refine below_set ?_ GE158.out) | exact HB.out))) : w.heap.size ≤ gb160))
                have n6_ := Aside0.mk ((by rw [hg]; exact (below_size (by repeat (first | (with_reducible first | exact HB.out | apply below_alloc | apply pw_below_drewN | apply below_drew1 | refine below_set ?_ GE157.out | refine below_set ?_ GE158.out) | exact HB.out))) : w.heap.size ≤ gb160))
                have n7_ := Aside0.mk ((by rw [hg]; exact Nat.ne_of_lt (blk_lt (g := gb157) (o := .cells #[.slice none 0 0] 49 (0, 0)) (by (with_reducible repeat (first | refine blk_drewN ?_ _ | refine blk_drew ?_ | refine blk_alloc ?_ _)); exact BK157.out)) : gb157 ≠ gb160))
                have n8_ := Aside0.mk ((by rw [hg]; exact Nat.ne_of_gt (blk_lt (g := gb157) (o := .cells #[.slice none 0 0] 49 (0, 0)) (by (with_reducible repeat (first | refine blk_drewN ?_ _ | refine blk_drew ?_ | refine blk_alloc ?_ _)); exact BK157.out)) : gb160 ≠ gb157))
                have n9_ := Aside0.mk ((by rw [hg]; exact Nat.ne_of_lt (blk_lt (g := gb158) (o := .cells #[u159000] 49 (0, 0)) (by (with_reducible repeat (first | refine blk_drewN ?_ _ | refine blk_drew ?_ | refine blk_alloc ?_ _)); exact BK158.out)) : gb158 ≠ gb160))
                have n10_ := Aside0.mk ((by rw [hg]; exact Nat.ne_of_gt (blk_lt (g := gb158) (o := .cells #[u159000] 49 (0, 0)) (by (with_reducible repeat (first | refine blk_drewN ?_ _ | refine blk_drew ?_ | refine blk_alloc ?_ _)); exact BK158.out)) : gb160 ≠ gb158))
                clear HO_159000
                clear BK157
                clear BK158
                clear HB
                have HO_159000 := n0_
                have BK157 := n1_
                have BK158 := n2_
                have HB := n3_
                have BK160 := n4_
                have GW160 := n5_
                have GE160 := n6_
                have NB157_160 := n7_
                have NB160_157 := n8_
                have NB158_160 := n9_
                have NB160_158 := n10_
                clear n0_ n1_ n2_ n3_ n4_ n5_ n6_ n7_ n8_ n9_ n10_
                clear hb hbox hg
                refine hK.out _ _ trivial (fun hHeld => ?_)
                clear hK K
                refine norm_ (a' := ?_) ?_ ?_
                rotate_left
                · show Act.put _ (some 6) _ = _
                  simp only [Act.put, List.setIfInBounds_toArray, List.set_cons_zero, List.set_cons_succ, i64_w, i32_w]
                  rfl
                refine one_ (i := 8) (N := none) #[true, true, true, true, true, true, true, true, true] rfl rfl (one_of HT_.out (by kernel_rfl)) (by decide) (fun K hK => ?_)
                have hs16 : w15.cell? ⟨gb160, 0, none⟩ = some (.int .u8 0) := (blk_cell BK160.out 0).trans rfl
                have hfs16 := blk_frozen BK160.out 0
                have hns16_0 := NB157_160.out
                have hns16_1 := NB158_160.out
                have hms16_0 := NB160_157.out
                have hms16_1 := NB160_158.out
                have hs17 : w15.cell? ⟨gb160, 1, none⟩ = some (.int .u8 0) := (blk_cell BK160.out 1).trans rfl
                have hfs17 := blk_frozen BK160.out 1
                have hns17_0 := NB157_160.out
                have hns17_1 := NB158_160.out
                have hms17_0 := NB160_157.out
                have hms17_1 := NB160_158.out
                refine skip_ (w1 := ?_) (by rfl) rfl ?_ ?_
                rotate_left
                · go_simp
                  rfl
                refine hK.out _ _ trivial (fun hHeld => ?_)
                clear hK K
                refine done_ (done_of HT_.out (by kernel_rfl)) ?_
                go_upto_region 6 with (fail)
                go_cut [41] (fun v41 wc => ∃ (kq : Nat) (x41_12 : Bool), v41 = .bool x41_12 ∧ Aside0 (spec_ParseCandidate.j2 kq a0 x5_1 x41_12 x159000_1 (bt a0 x5_1) (bt a0 x5_1) = some (r1, r2)) ∧ Aside0 (kq ≤ kj5) ∧ Aside0 (Kd.R k83 83 wc w.heap.size (fun k_ => k_ ≠ gb160) u159000 x159000_1) ∧ Aside0 (wc.heap[gb157]? = some (.cells #[(.slice none 0 0)] 49 (0, 0))) ∧ Aside0 (wc.heap[gb158]? = some (.cells #[u159000] 49 (0, 0))) ∧ Aside0 (wc.heap[gb160]? = some (.cells #[.int .u8 (bt a0 x5_1), .int .u8 (bt a0 x5_1)] 83 (0, 0))) ∧ Aside0 (Below w.heap.size w wc))
                case first =>
                  have H := HC13.out
                  clear HC13
                  by_cases c19 : (bt a0 x5_1) = 43
                  · rw [if_pos c19] at H
                    have c19b0 : ((bt a0 x5_1) == 43) = true := beq_iff_eq.mpr c19
                    have c19b1 : ((bt a0 x5_1) != 43) = false := bne_eq_false_iff_eq.mpr c19
                    clear c19
                    (first | rw [c19b0] | (simp only [i64_w, i32_w]; rw [c19b0]) | skip)
                    have H' := Aside0.mk H
                    clear H
                    have p18 : 0 ≤ (x5_1 : Int) := of_decide_eq_true (by first | (with_reducible assumption) | assumption)
                    have q18 : x5_1 < (a0.size : Int) := of_decide_eq_true (by first | (with_reducible assumption) | assumption)
                    have hx18 := bt_at a0 x5_1
                    replace p18 := eq_true p18
                    replace q18 := eq_true q18
                    go_wp2
                    go_meet
                    case rel => exact ⟨_, (true), (by first | rfl | (simp; done) | (simp [*]; done)), H', ⟨by have := HK1.out; have := HJ5.out; first | omega | exact Nat.le_refl _⟩, ⟨by (with_reducible repeat (first | apply Kd.R_alloc | apply Kd.R_drewN | apply Kd.R_drew)); exact Kd.R_mono (Kd.R_far (p := ⟨gb160, 1, none⟩) (Kd.R_far (p := ⟨gb160, 0, none⟩) (Kd.R_mono HO_159000.out (fun k_ hk => (⟨hk, hk.2⟩ : _ ∧ k_ ≠ gb160))) (fun _ hk => hk.2) (.int .u8 (bt a0 x5_1))) (fun _ hk => hk.2) (.int .u8 (bt a0 x5_1))) (fun _ hk => hk.1.2)⟩, ⟨by (with_reducible repeat (first | refine blk_drewN ?_ _ | refine blk_drew ?_ | refine blk_alloc ?_ _)); refine blk_far ?_ NB157_160.out _; (with_reducible repeat (first | refine blk_drewN ?_ _ | refine blk_drew ?_ | refine blk_alloc ?_ _)); refine blk_far ?_ NB157_160.out _; (with_reducible repeat (first | refine blk_drewN ?_ _ | refine blk_drew ?_ | refine blk_alloc ?_ _)); exact BK157.out⟩, ⟨by (with_reducible repeat (first | refine blk_drewN ?_ _ | refine blk_drew ?_ | refine blk_alloc ?_ _)); refine blk_far ?_ NB158_160.out _; (with_reducible repeat (first | refine blk_drewN ?_ _ | refine blk_drew ?_ | refine blk_alloc ?_ _)); refine blk_far ?_ NB158_160.out _; (with_reducible repeat (first | refine blk_drewN ?_ _ | refine blk_drew ?_ | refine blk_alloc ?_ _)); exact BK158.out⟩, ⟨by (with_reducible repeat (first | refine blk_drewN ?_ _ | refine blk_drew ?_ | refine blk_alloc ?_ _)); refine blk_put (cs := #[.int .u8 (bt a0 x5_1), .int .u8 0]) ?_ 1 _ rfl; (with_reducible repeat (first | refine blk_drewN ?_ _ | refine blk_drew ?_ | refine blk_alloc ?_ _)); refine blk_put (cs := #[.int .u8 0, .int .u8 0]) ?_ 0 _ rfl; (with_reducible repeat (first | refine blk_drewN ?_ _ | refine blk_drew ?_ | refine blk_alloc ?_ _)); exact BK160.out⟩, ⟨by repeat (first | (with_reducible first | exact HB.out | apply below_alloc | apply pw_below_drewN | apply below_drew1 | refine below_set ?_ GE157.out | refine below_set ?_ GE158.out | refine below_set ?_ GE160.out) | exact HB.out)⟩⟩
                  · rw [if_neg c19] at H
                    have c19b0 : ((bt a0 x5_1) == 43) = false := beq_eq_false_iff_ne.mpr c19
                    have c19b1 : ((bt a0 x5_1) != 43) = true := bne_iff_ne.mpr c19
                    (first | rw [c19b0] | (simp only [i64_w, i32_w]; rw [c19b0]) | skip)
                    by_cases c21 : (bt a0 x5_1) = 45
                    · rw [if_pos c21] at H
                      have c21b0 : ((bt a0 x5_1) == 45) = true := beq_iff_eq.mpr c21
                      have c21b1 : ((bt a0 x5_1) != 45) = false := bne_eq_false_iff_eq.mpr c21
                      clear c21
                      have H' := Aside0.mk H
                      clear H
                      have p18 : 0 ≤ (x5_1 : Int) := of_decide_eq_true (by first | (with_reducible assumption) | assumption)
                      have q18 : x5_1 < (a0.size : Int) := of_decide_eq_true (by first | (with_reducible assumption) | assumption)
                      have hx18 := bt_at a0 x5_1
                      replace p18 := eq_true p18
                      replace q18 := eq_true q18
                      have p20 : 0 ≤ (x5_1 : Int) := of_decide_eq_true (by first | (with_reducible assumption) | assumption)
                      have q20 : x5_1 < (a0.size : Int) := of_decide_eq_true (by first | (with_reducible assumption) | assumption)
                      have hx20 := bt_at a0 x5_1
                      replace p20 := eq_true p20
                      replace q20 := eq_true q20
                      go_wp2
                      go_meet
                      case rel => exact ⟨_, (true), (by first | rfl | (simp; done) | (simp [*]; done)), H', ⟨by have := HK1.out; have := HJ5.out; first | omega | exact Nat.le_refl _⟩, ⟨by (with_reducible repeat (first | apply Kd.R_alloc | apply Kd.R_drewN | apply Kd.R_drew)); exact Kd.R_mono (Kd.R_far (p := ⟨gb160, 1, none⟩) (Kd.R_far (p := ⟨gb160, 0, none⟩) (Kd.R_mono HO_159000.out (fun k_ hk => (⟨hk, hk.2⟩ : _ ∧ k_ ≠ gb160))) (fun _ hk => hk.2) (.int .u8 (bt a0 x5_1))) (fun _ hk => hk.2) (.int .u8 (bt a0 x5_1))) (fun _ hk => hk.1.2)⟩, ⟨by (with_reducible repeat (first | refine blk_drewN ?_ _ | refine blk_drew ?_ | refine blk_alloc ?_ _)); refine blk_far ?_ NB157_160.out _; (with_reducible repeat (first | refine blk_drewN ?_ _ | refine blk_drew ?_ | refine blk_alloc ?_ _)); refine blk_far ?_ NB157_160.out _; (with_reducible repeat (first | refine blk_drewN ?_ _ | refine blk_drew ?_ | refine blk_alloc ?_ _)); exact BK157.out⟩, ⟨by (with_reducible repeat (first | refine blk_drewN ?_ _ | refine blk_drew ?_ | refine blk_alloc ?_ _)); refine blk_far ?_ NB158_160.out _; (with_reducible repeat (first | refine blk_drewN ?_ _ | refine blk_drew ?_ | refine blk_alloc ?_ _)); refine blk_far ?_ NB158_160.out _; (with_reducible repeat (first | refine blk_drewN ?_ _ | refine blk_drew ?_ | refine blk_alloc ?_ _)); exact BK158.out⟩, ⟨by (with_reducible repeat (first | refine blk_drewN ?_ _ | refine blk_drew ?_ | refine blk_alloc ?_ _)); refine blk_put (cs := #[.int .u8 (bt a0 x5_1), .int .u8 0]) ?_ 1 _ rfl; (with_reducible repeat (first | refine blk_drewN ?_ _ | refine blk_drew ?_ | refine blk_alloc ?_ _)); refine blk_put (cs := #[.int .u8 0, .int .u8 0]) ?_ 0 _ rfl; (with_reducible repeat (first | refine blk_drewN ?_ _ | refine blk_drew ?_ | refine blk_alloc ?_ _)); exact BK160.out⟩, ⟨by repeat (first | (with_reducible first | exact HB.out | apply below_alloc | apply pw_below_drewN | apply below_drew1 | refine below_set ?_ GE157.out | refine below_set ?_ GE158.out | refine below_set ?_ GE160.out) | exact HB.out)⟩⟩
                    · rw [if_neg c21] at H
                      have c21b0 : ((bt a0 x5_1) == 45) = false := beq_eq_false_iff_ne.mpr c21
                      have c21b1 : ((bt a0 x5_1) != 45) = true := bne_iff_ne.mpr c21
                      have H' := Aside0.mk H
                      clear H
                      have p18 : 0 ≤ (x5_1 : Int) := of_decide_eq_true (by first | (with_reducible assumption) | assumption)
                      have q18 : x5_1 < (a0.size : Int) := of_decide_eq_true (by first | (with_reducible assumption) | assumption)
                      have hx18 := bt_at a0 x5_1
                      replace p18 := eq_true p18
                      replace q18 := eq_true q18
                      have p20 : 0 ≤ (x5_1 : Int) := of_decide_eq_true (by first | (with_reducible assumption) | assumption)
                      have q20 : x5_1 < (a0.size : Int) := of_decide_eq_true (by first | (with_reducible assumption) | assumption)
                      have hx20 := bt_at a0 x5_1
                      replace p20 := eq_true p20
                      replace q20 := eq_true q20
                      have p22 : 0 ≤ (x5_1 : Int) := of_decide_eq_true (by first | (with_reducible assumption) | assumption)
                      have q22 : x5_1 < (a0.size : Int) := of_decide_eq_true (by first | (with_reducible assumption) | assumption)
                      have hx22 := bt_at a0 x5_1
                      replace p22 := eq_true p22
                      replace q22 := eq_true q22
                      go_wp2
                      go_meet
                      case rel => exact ⟨_, (((bt a0 x5_1) == 42)), (by first | rfl | (simp; done) | (simp [*]; done)), H', ⟨by have := HK1.out; have := HJ5.out; first | omega | exact Nat.le_refl _⟩, ⟨by (with_reducible repeat (first | apply Kd.R_alloc | apply Kd.R_drewN | apply Kd.R_drew)); exact Kd.R_mono (Kd.R_far (p := ⟨gb160, 1, none⟩) (Kd.R_far (p := ⟨gb160, 0, none⟩) (Kd.R_mono HO_159000.out (fun k_ hk => (⟨hk, hk.2⟩ : _ ∧ k_ ≠ gb160))) (fun _ hk => hk.2) (.int .u8 (bt a0 x5_1))) (fun _ hk => hk.2) (.int .u8 (bt a0 x5_1))) (fun _ hk => hk.1.2)⟩, ⟨by (with_reducible repeat (first | refine blk_drewN ?_ _ | refine blk_drew ?_ | refine blk_alloc ?_ _)); refine blk_far ?_ NB157_160.out _; (with_reducible repeat (first | refine blk_drewN ?_ _ | refine blk_drew ?_ | refine blk_alloc ?_ _)); refine blk_far ?_ NB157_160.out _; (with_reducible repeat (first | refine blk_drewN ?_ _ | refine blk_drew ?_ | refine blk_alloc ?_ _)); exact BK157.out⟩, ⟨by (with_reducible repeat (first | refine blk_drewN ?_ _ | refine blk_drew ?_ | refine blk_alloc ?_ _)); refine blk_far ?_ NB158_160.out _; (with_reducible repeat (first | refine blk_drewN ?_ _ | refine blk_drew ?_ | refine blk_alloc ?_ _)); refine blk_far ?_ NB158_160.out _; (with_reducible repeat (first | refine blk_drewN ?_ _ | refine blk_drew ?_ | refine blk_alloc ?_ _)); exact BK158.out⟩, ⟨by (with_reducible repeat (first | refine blk_drewN ?_ _ | refine blk_drew ?_ | refine blk_alloc ?_ _)); refine blk_put (cs := #[.int .u8 (bt a0 x5_1), .int .u8 0]) ?_ 1 _ rfl; (with_reducible repeat (first | refine blk_drewN ?_ _ | refine blk_drew ?_ | refine blk_alloc ?_ _)); refine blk_put (cs := #[.int .u8 0, .int .u8 0]) ?_ 0 _ rfl; (with_reducible repeat (first | refine blk_drewN ?_ _ | refine blk_drew ?_ | refine blk_alloc ?_ _)); exact BK160.out⟩, ⟨by repeat (first | (with_reducible first | exact HB.out | apply below_alloc | apply pw_below_drewN | apply below_drew1 | refine below_set ?_ GE157.out | refine below_set ?_ GE158.out | refine below_set ?_ GE160.out) | exact HB.out)⟩⟩
                case rest =>
                  clear HC13
                  try clear c1
                  try clear p1
                  try clear q1
                  try clear hx1
                  try clear c2
                  try clear p2
                  try clear q2
                  try clear hx2
                  try clear c4
                  try clear c7
                  try clear c7b0
                  try clear c8
                  try clear c9
                  try clear c9b0
                  try clear c10
                  try clear c10b0
                  try clear p11
                  try clear q11
                  try clear hx11
                  try clear p12
                  try clear q12
                  try clear hx12
                  try clear p18
                  try clear q18
                  try clear hx18
                  try clear c19
                  try clear c19b0
                  try clear c19b1
                  try clear p20
                  try clear q20
                  try clear hx20
                  try clear c21
                  try clear c21b0
                  try clear c21b1
                  try clear p22
                  try clear q22
                  try clear hx22
                  try clear hcz5_0
                  try clear hfz5_0
                  try clear p11
                  try clear p12
                  try clear p18
                  try clear p2
                  try clear p20
                  try clear p22
                  try clear q11
                  try clear q12
                  try clear q18
                  try clear q20
                  try clear q22
                  obtain ⟨kq, x41_12, rfl, HA, HJ12, HO_159000, BK157, BK158, BK160, HB⟩ := hcut
                  cases kq with
                  | zero => exact absurd HA.out (by simp [spec_ParseCandidate.j2])
                  | succ kj12 =>
                    have H := HA.out
                    clear HA
                    simp only [spec_ParseCandidate.j2] at H
                    by_cases c23 : x41_12 = true
                    · subst c23
                      have H1 : (if 0 ≤ x5_1 then (if x5_1 < (a0.size : Int) then (if (wrap64 (x5_1 + 1)) = (a0.size : Int) then (some (([] : List (S83)), false)) else (if 0 ≤ (wrap64 (x5_1 + 1)) then (if (wrap64 (x5_1 + 1)) < (a0.size : Int) then (if (bt a0 x5_1) = 43 then (if x159000_1.length < 70368744177664 then (spec_ParseCandidate.l0 kj12 a0 (wrap64 ((wrap64 (x5_1 + 1)) + 1)) (x159000_1 ++ [(⟨0, bt a0 (wrap64 (x5_1 + 1))⟩ : S83)])) else (none)) else (if (bt a0 x5_1) = 45 then (if x159000_1.length < 70368744177664 then (spec_ParseCandidate.l0 kj12 a0 (wrap64 ((wrap64 (x5_1 + 1)) + 1)) (x159000_1 ++ [(⟨bt a0 (wrap64 (x5_1 + 1)), 0⟩ : S83)])) else (none)) else ((spec_SwapVoice.f (bt a0 (wrap64 (x5_1 + 1)))).bind fun bt167 => (if x159000_1.length < 70368744177664 then (spec_ParseCandidate.l0 kj12 a0 (wrap64 ((wrap64 (x5_1 + 1)) + 1)) (x159000_1 ++ [(⟨bt a0 (wrap64 (x5_1 + 1)), bt167.1⟩ : S83)])) else (none))))) else (none)) else (none))) else (none)) else (none)) = some (r1, r2) := by rw [if_pos rfl] at H; exact H
                      clear H
                      have H := H1
                      clear H1
                      by_cases c24 : 0 ≤ x5_1
                      · rw [if_pos c24] at H
                        have c24b0 : decide (0 ≤ x5_1) = true := decide_eq_true c24
                        clear c24
                        by_cases c25 : x5_1 < (a0.size : Int)
                        · rw [if_pos c25] at H
                          have c25b0 : decide (x5_1 < (a0.size : Int)) = true := decide_eq_true c25
                          clear c25
                          by_cases c27 : (wrap64 (x5_1 + 1)) = (a0.size : Int)
                          · rw [if_pos c27] at H
                            have c27b0 : ((wrap64 (x5_1 + 1)) == (a0.size : Int)) = true := beq_iff_eq.mpr c27
                            have c27b1 : ((wrap64 (x5_1 + 1)) != (a0.size : Int)) = false := bne_eq_false_iff_eq.mpr c27
                            clear c27
                            simp only [Option.some.injEq, Prod.mk.injEq] at H
                            obtain ⟨rfl, rfl⟩ := H
                            have p26 : 0 ≤ (x5_1 : Int) := of_decide_eq_true (by first | (with_reducible assumption) | assumption)
                            have q26 : x5_1 < (a0.size : Int) := of_decide_eq_true (by first | (with_reducible assumption) | assumption)
                            have hx26 := bt_at a0 x5_1
                            replace p26 := eq_true p26
                            replace q26 := eq_true q26
                            have hnb28 := NB157_158.out
                            have hnc28 := NB158_157.out
                            have hnb29 := NB157_160.out
                            have hnc29 := NB160_157.out
                            have hcz30_0 : wc.cell? ⟨gb157, 0, none⟩ = some (.slice none 0 0) := (blk_cell BK157.out 0).trans rfl
                            have hfz30_0 := blk_frozen BK157.out 0
                            go_wp2
                            refine bodyPost_ret (results_ct rfl _ _ gb157 49 #[.slice none 0 0] (0, 0) _ rfl (by (with_reducible repeat (first | refine blk_drewN ?_ _ | refine blk_drew ?_ | refine blk_alloc ?_ _)); refine blk_put (cs := #[.slice none 0 0]) ?_ 0 _ rfl; (with_reducible repeat (first | refine blk_drewN ?_ _ | refine blk_drew ?_ | refine blk_alloc ?_ _)); exact BK157.out) Try.underlying49 rfl (by kernel_rfl)) rfl ?_
                            exact ⟨_, by first | rfl | (simp [errW_none, errW_some] <;> rfl) | (simp [*, errW_none, errW_some] <;> rfl), by first | exact Kd.R_nil _ _ _ _ _ | exact Kd.N_nil _ _ _ _ _ | exact Kd.V_nil _ _ _ _ _ | exact Kd.Q_nil _ _ _ _ _ | exact Kd.S_nil _ _ _ _ _, by repeat (first | (with_reducible first | exact HB.out | apply below_alloc | apply pw_below_drewN | apply below_drew1 | refine below_set ?_ GE157.out | refine below_set ?_ GE158.out | refine below_set ?_ GE160.out) | exact HB.out)⟩
                          · rw [if_neg c27] at H
                            have c27b0 : ((wrap64 (x5_1 + 1)) == (a0.size : Int)) = false := beq_eq_false_iff_ne.mpr c27
                            have c27b1 : ((wrap64 (x5_1 + 1)) != (a0.size : Int)) = true := bne_iff_ne.mpr c27
                            obtain ⟨ji31, hji31⟩ : ∃ j_ : Int, (wrap64 (x5_1 + 1)) = j_ := ⟨_, rfl⟩
                            replace H : (if 0 ≤ (ji31) then (if (ji31) < (a0.size : Int) then (if (bt a0 x5_1) = 43 then (if x159000_1.length < 70368744177664 then (spec_ParseCandidate.l0 kj12 a0 (wrap64 ((ji31) + 1)) (x159000_1 ++ [(⟨0, bt a0 (ji31)⟩ : S83)])) else (none)) else (if (bt a0 x5_1) = 45 then (if x159000_1.length < 70368744177664 then (spec_ParseCandidate.l0 kj12 a0 (wrap64 ((ji31) + 1)) (x159000_1 ++ [(⟨bt a0 (ji31), 0⟩ : S83)])) else (none)) else ((spec_SwapVoice.f (bt a0 (ji31))).bind fun bt167 => (if x159000_1.length < 70368744177664 then (spec_ParseCandidate.l0 kj12 a0 (wrap64 ((ji31) + 1)) (x159000_1 ++ [(⟨bt a0 (ji31), bt167.1⟩ : S83)])) else (none))))) else (none)) else (none)) = some (r1, r2) := by first | (rw [hji31] at H; exact H) | (simp only [hji31] at H ⊢; exact H)
                            (try rw [hji31] at c27b0)
                            (try rw [hji31] at c27b1)
                            have hji31w : (IntKind.i64.wrap (x5_1 + 1)) = ji31 := (i64_w _).trans hji31
                            by_cases c32 : 0 ≤ (ji31)
                            · rw [if_pos c32] at H
                              have c32b0 : decide (0 ≤ (ji31)) = true := decide_eq_true c32
                              clear c32
                              by_cases c33 : (ji31) < (a0.size : Int)
                              · rw [if_pos c33] at H
                                have c33b0 : decide ((ji31) < (a0.size : Int)) = true := decide_eq_true c33
                                clear c33
                                by_cases c36 : (bt a0 x5_1) = 43
                                · rw [if_pos c36] at H
                                  have c36b0 : ((bt a0 x5_1) == 43) = true := beq_iff_eq.mpr c36
                                  have c36b1 : ((bt a0 x5_1) != 43) = false := bne_eq_false_iff_eq.mpr c36
                                  clear c36
                                  by_cases c37 : x159000_1.length < 70368744177664
                                  · rw [if_pos c37] at H
                                    have LMc37 := Aside0.mk c37
                                    clear c37
                                    obtain ⟨y161, hy161⟩ : ∃ y_ : List (S83), y_ = (x159000_1 ++ [(⟨0, bt a0 (ji31)⟩ : S83)]) := ⟨_, rfl⟩
                                    replace H : (spec_ParseCandidate.l0 kj12 a0 (wrap64 ((ji31) + 1)) y161) = some (r1, r2) := by first | (rw [hy161]; with_reducible exact H) | (have H2_ := (Option.bind_some _ _).symm.trans H; rw [hy161]; with_reducible exact H2_) | (have H2_ := (Option.bind_some _ _).symm.trans H; with_reducible exact H2_) | with_reducible exact H | (rw [hy161]; exact H) | exact H
                                    have Ny161 := Aside0.mk hy161
                                    clear hy161
                                    have H' := Aside0.mk H
                                    clear H
                                    have p26 : 0 ≤ (x5_1 : Int) := of_decide_eq_true (by first | (with_reducible assumption) | assumption)
                                    have q26 : x5_1 < (a0.size : Int) := of_decide_eq_true (by first | (with_reducible assumption) | assumption)
                                    have hx26 := bt_at a0 x5_1
                                    replace p26 := eq_true p26
                                    replace q26 := eq_true q26
                                    try go_wp2
                                    have n0_ := Aside0.mk (Kd.R_drew HO_159000.out)
                                    have n1_ := Aside0.mk (blk_drew BK157.out)
                                    have n2_ := Aside0.mk (blk_drew BK158.out)
                                    have n3_ := Aside0.mk (blk_drew BK160.out)
                                    have n4_ := Aside0.mk (below_drew1 HB.out)
                                    clear HO_159000
                                    clear BK157
                                    clear BK158
                                    clear BK160
                                    clear HB
                                    have HO_159000 := n0_
                                    have BK157 := n1_
                                    have BK158 := n2_
                                    have BK160 := n3_
                                    have HB := n4_
                                    clear n0_ n1_ n2_ n3_ n4_
                                    have p34 : 0 ≤ ((ji31) : Int) := of_decide_eq_true (by first | (with_reducible assumption) | assumption)
                                    have q34 : (ji31) < (a0.size : Int) := of_decide_eq_true (by first | (with_reducible assumption) | assumption)
                                    have hx34 := bt_at a0 (ji31)
                                    replace p34 := eq_true p34
                                    replace q34 := eq_true q34
                                    have p35 : 0 ≤ ((ji31) : Int) := of_decide_eq_true (by first | (with_reducible assumption) | assumption)
                                    have q35 : (ji31) < (a0.size : Int) := of_decide_eq_true (by first | (with_reducible assumption) | assumption)
                                    have hx35 := bt_at a0 (ji31)
                                    replace p35 := eq_true p35
                                    replace q35 := eq_true q35
                                    refine start_ (n := 8) (S := fun w' => True) (ds := []) #[false, false, false, false, false, false, false, false] (by kernel_rfl) rfl rfl trivial (fun hHeld => ?_); refine with_tabW spec_ParseCandidate.tab11 spec_ParseCandidate.bits11 (fun HT_ HW_ => ?_)
                                    generalize wc.drew = w38 at HO_159000 BK157 BK158 BK160 HB hHeld ⊢
                                    refine pure_ (i := 0) (N := some 52) (v := ?_) (a' := ?_) #[true, false, false, false, false, false, false, false] rfl rfl (any_of HT_.out (by kernel_rfl)) (fun _ _ _ h => h) (Or.inl ⟨by rfl, ?_⟩) ?_ ?_
                                    rotate_left
                                    · intro w'
                                      go_simp
                                      with_reducible rfl
                                    rotate_left
                                    · simp only [Act.put, List.setIfInBounds_toArray, List.set_cons_zero, List.set_cons_succ, i64_w, i32_w]
                                      rfl
                                    refine pure_ (i := 1) (N := some 53) (v := ?_) (a' := ?_) #[true, true, false, false, false, false, false, false] rfl rfl (any_of HT_.out (by kernel_rfl)) (fun _ _ _ h => h) (Or.inl ⟨by rfl, ?_⟩) ?_ ?_
                                    rotate_left
                                    · intro w'
                                      go_simp
                                      with_reducible rfl
                                    rotate_left
                                    · simp only [Act.put, List.setIfInBounds_toArray, List.set_cons_zero, List.set_cons_succ, i64_w, i32_w]
                                      rfl
                                    refine pure_ (i := 3) (N := some 55) (v := ?_) (a' := ?_) #[true, true, false, true, false, false, false, false] rfl rfl (any_of HT_.out (by kernel_rfl)) (fun _ _ _ h => h) (Or.inl ⟨by rfl, ?_⟩) ?_ ?_
                                    rotate_left
                                    · intro w'
                                      go_simp
                                      with_reducible rfl
                                    rotate_left
                                    · simp only [Act.put, List.setIfInBounds_toArray, List.set_cons_zero, List.set_cons_succ, i64_w, i32_w]
                                      rfl
                                    refine pure_ (i := 4) (N := some 56) (v := ?_) (a' := ?_) #[true, true, false, true, true, false, false, false] rfl rfl (any_of HT_.out (by kernel_rfl)) (fun _ _ _ h => h) (Or.inl ⟨by rfl, ?_⟩) ?_ ?_
                                    rotate_left
                                    · intro w'
                                      go_simp
                                      with_reducible rfl
                                    rotate_left
                                    · simp only [Act.put, List.setIfInBounds_toArray, List.set_cons_zero, List.set_cons_succ, i64_w, i32_w]
                                      rfl
                                    refine take_ (i := 2) (N := some 54) (v := ?_) (a' := ?_) #[true, true, true, true, true, false, false, false] rfl rfl (take_ofW HT_.out HW_.out (by kernel_rfl)) (fun _ _ _ h => h) (Or.inl ⟨by rfl, ?_⟩) hHeld ?_ ?_
                                    rotate_left
                                    · intro w' _
                                      go_simp
                                      with_reducible rfl
                                    rotate_left
                                    · simp only [Act.put, List.setIfInBounds_toArray, List.set_cons_zero, List.set_cons_succ, i64_w, i32_w]
                                      rfl
                                    refine take_ (i := 5) (N := some 57) (v := ?_) (a' := ?_) #[true, true, true, true, true, true, false, false] rfl rfl (take_ofW HT_.out HW_.out (by kernel_rfl)) (fun _ _ _ h => h) (Or.inl ⟨by rfl, ?_⟩) hHeld ?_ ?_
                                    rotate_left
                                    · intro w' _
                                      go_simp
                                      with_reducible rfl
                                    rotate_left
                                    · simp only [Act.put, List.setIfInBounds_toArray, List.set_cons_zero, List.set_cons_succ, i64_w, i32_w]
                                      rfl
                                    refine pure_ (i := 6) (N := some 58) (v := ?_) (a' := ?_) #[true, true, true, true, true, true, true, false] rfl rfl (any_of HT_.out (by kernel_rfl)) (fun _ _ _ h => h) (Or.inl ⟨by rfl, ?_⟩) ?_ ?_
                                    rotate_left
                                    · intro w'
                                      go_simp
                                      with_reducible rfl
                                    rotate_left
                                    · simp only [Act.put, List.setIfInBounds_toArray, List.set_cons_zero, List.set_cons_succ, i64_w, i32_w]
                                      rfl
                                    refine one_ (i := 7) (N := none) #[true, true, true, true, true, true, true, true] rfl rfl (one_of HT_.out (by kernel_rfl)) (by decide) (fun K hK => ?_)
                                    have hs39 : w38.cell? ⟨gb160, 0, none⟩ = some (.int .u8 (bt a0 x5_1)) := (blk_cell BK160.out 0).trans rfl
                                    have hfs39 := blk_frozen BK160.out 0
                                    have hns39_0 := NB157_160.out
                                    have hns39_1 := NB158_160.out
                                    have hms39_0 := NB160_157.out
                                    have hms39_1 := NB160_158.out
                                    have hs40 : w38.cell? ⟨gb160, 1, none⟩ = some (.int .u8 (bt a0 x5_1)) := (blk_cell BK160.out 1).trans rfl
                                    have hfs40 := blk_frozen BK160.out 1
                                    have hns40_0 := NB157_160.out
                                    have hns40_1 := NB158_160.out
                                    have hms40_0 := NB160_157.out
                                    have hms40_1 := NB160_158.out
                                    refine skip_ (w1 := ?_) (by rfl) rfl ?_ ?_
                                    rotate_left
                                    · go_simp
                                      rfl
                                    refine hK.out _ _ trivial (fun hHeld => ?_)
                                    clear hK K
                                    refine done_ (done_of HT_.out (by kernel_rfl)) ?_
                                    have hnb41 := NB160_157.out
                                    have hnc41 := NB157_160.out
                                    have hnb42 := NB160_158.out
                                    have hnc42 := NB158_160.out
                                    have hcz43_0 : w38.cell? ⟨gb160, 0, none⟩ = some (.int .u8 (bt a0 x5_1)) := (blk_cell BK160.out 0).trans rfl
                                    have hcz43_1 : w38.cell? ⟨gb160, 1, none⟩ = some (.int .u8 (bt a0 x5_1)) := (blk_cell BK160.out 1).trans rfl
                                    have hfz43_0 := blk_frozen BK160.out 0
                                    have hfz43_1 := blk_frozen BK160.out 1
                                    have hnb44 := NB158_157.out
                                    have hnc44 := NB157_158.out
                                    have hcz45_0 : w38.cell? ⟨gb158, 0, none⟩ = some (u159000) := (blk_cell BK158.out 0).trans rfl
                                    have hfz45_0 := blk_frozen BK158.out 0
                                    (try have zl_ := Aside0.mk (blk_set (blk_set (blk_set BK160.out 0 (.int .u8 (bt a0 (ji31)))) 1 (.int .u8 (bt a0 (ji31)))) 0 (.int .u8 0)))
                                    (try have hczl_0 : (((w38.setCell ⟨gb160, 0, none⟩ (.int .u8 (bt a0 (ji31)))).setCell ⟨gb160, 1, none⟩ (.int .u8 (bt a0 (ji31)))).setCell ⟨gb160, 0, none⟩ (.int .u8 0)).cell? ⟨gb160, 0, none⟩ = some (.int .u8 0) := (blk_cell zl_.out 0).trans rfl)
                                    (try have hczl_1 : (((w38.setCell ⟨gb160, 0, none⟩ (.int .u8 (bt a0 (ji31)))).setCell ⟨gb160, 1, none⟩ (.int .u8 (bt a0 (ji31)))).setCell ⟨gb160, 0, none⟩ (.int .u8 0)).cell? ⟨gb160, 1, none⟩ = some (.int .u8 (bt a0 (ji31))) := (blk_cell zl_.out 1).trans rfl)
                                    (try have hczm158_0 : (((w38.setCell ⟨gb160, 0, none⟩ (.int .u8 (bt a0 (ji31)))).setCell ⟨gb160, 1, none⟩ (.int .u8 (bt a0 (ji31)))).setCell ⟨gb160, 0, none⟩ (.int .u8 0)).cell? ⟨gb158, 0, none⟩ = some (u159000) := (blk_cell (blk_far (p := ⟨gb160, 0, none⟩) (blk_far (p := ⟨gb160, 1, none⟩) (blk_far (p := ⟨gb160, 0, none⟩) BK158.out NB158_160.out (.int .u8 (bt a0 (ji31)))) NB158_160.out (.int .u8 (bt a0 (ji31)))) NB158_160.out (.int .u8 0)) 0).trans rfl)
                                    try go_wp2_with (first | ((with_reducible refine gate_builtin (b := .append) (xs := #[.tmp 75, .tmp 77]) rfl ?_); at_builtin; refine Kd.R_append k83 (w0 := w) w.heap.size rfl (.tmp 75) (.tmp 77) 47 83 (.agg #[(.int .u8 0), (.int .u8 0)]) 2 rfl Try.underlying47 info83 rfl (by decide) (by omega) u159000 x159000_1 (⟨0, bt a0 (ji31)⟩ : S83) [.int .u8 0, .int .u8 (bt a0 (ji31))] (fun k_ => k_ ≠ gb160) (fun _ => False) rfl (by first | (go_simp; done) | (go_simp; rfl)) ?aP (fun _ hk => hk.elim) ?aF ?aO ?aB ?aS ?aL ?_; (case aP => exact k83_mkM _ _ _ (⟨0, bt a0 (ji31)⟩ : S83)); (case aB => exact (by repeat (first | (with_reducible first | exact HB.out | apply below_alloc | apply pw_below_drewN | apply below_drew1 | refine below_set ?_ GE157.out | refine below_set ?_ GE158.out | refine below_set ?_ GE160.out) | exact HB.out))); (case aF => exact (fun k_ hk => Kd.freshB (g := gb160) (o := .cells #[.int .u8 0, .int .u8 (bt a0 (ji31))] 83 (0, 0)) (by (with_reducible repeat (first | refine blk_drewN ?_ _ | refine blk_drew ?_ | refine blk_alloc ?_ _)); refine blk_put (cs := #[.int .u8 (bt a0 (ji31)), .int .u8 (bt a0 (ji31))]) ?_ 0 _ rfl; (with_reducible repeat (first | refine blk_drewN ?_ _ | refine blk_drew ?_ | refine blk_alloc ?_ _)); refine blk_put (cs := #[.int .u8 (bt a0 (ji31)), .int .u8 (bt a0 x5_1)]) ?_ 1 _ rfl; (with_reducible repeat (first | refine blk_drewN ?_ _ | refine blk_drew ?_ | refine blk_alloc ?_ _)); refine blk_put (cs := #[.int .u8 (bt a0 x5_1), .int .u8 (bt a0 x5_1)]) ?_ 0 _ rfl; (with_reducible repeat (first | refine blk_drewN ?_ _ | refine blk_drew ?_ | refine blk_alloc ?_ _)); exact BK160.out) k_ hk)); (case aO => exact (by (with_reducible repeat (first | apply Kd.R_alloc | apply Kd.R_drewN | apply Kd.R_drew)); exact Kd.R_mono (Kd.R_far (p := ⟨gb160, 0, none⟩) (Kd.R_far (p := ⟨gb160, 1, none⟩) (Kd.R_far (p := ⟨gb160, 0, none⟩) (Kd.R_mono HO_159000.out (fun k_ hk => (⟨hk, hk⟩ : _ ∧ k_ ≠ gb160))) (fun _ hk => hk.2) (.int .u8 (bt a0 (ji31)))) (fun _ hk => hk.2) (.int .u8 (bt a0 (ji31)))) (fun _ hk => hk.2) (.int .u8 0)) (fun _ hk => hk.1))); (case aS => exact (below_size (by repeat (first | (with_reducible first | exact HB.out | apply below_alloc | apply pw_below_drewN | apply below_drew1 | refine below_set ?_ GE157.out | refine below_set ?_ GE158.out | refine below_set ?_ GE160.out) | exact HB.out)))); (case aL => have := LMc37.out; omega); intro v162 w46 ho hb hg hat; rw [← Ny161.out] at ho; have n0_ := Aside0.mk (blk_grown (g := gb157) (o := .cells #[.slice none 0 0] 49 (0, 0)) (by (with_reducible repeat (first | refine blk_drewN ?_ _ | refine blk_drew ?_ | refine blk_alloc ?_ _)); refine blk_far ?_ NB157_160.out _; (with_reducible repeat (first | refine blk_drewN ?_ _ | refine blk_drew ?_ | refine blk_alloc ?_ _)); refine blk_far ?_ NB157_160.out _; (with_reducible repeat (first | refine blk_drewN ?_ _ | refine blk_drew ?_ | refine blk_alloc ?_ _)); refine blk_far ?_ NB157_160.out _; (with_reducible repeat (first | refine blk_drewN ?_ _ | refine blk_drew ?_ | refine blk_alloc ?_ _)); exact BK157.out) hg (Kd.R_ne HO_159000.out BK157.out (by decide))); have n1_ := Aside0.mk (blk_grown (g := gb158) (o := .cells #[u159000] 49 (0, 0)) (by (with_reducible repeat (first | refine blk_drewN ?_ _ | refine blk_drew ?_ | refine blk_alloc ?_ _)); refine blk_far ?_ NB158_160.out _; (with_reducible repeat (first | refine blk_drewN ?_ _ | refine blk_drew ?_ | refine blk_alloc ?_ _)); refine blk_far ?_ NB158_160.out _; (with_reducible repeat (first | refine blk_drewN ?_ _ | refine blk_drew ?_ | refine blk_alloc ?_ _)); refine blk_far ?_ NB158_160.out _; (with_reducible repeat (first | refine blk_drewN ?_ _ | refine blk_drew ?_ | refine blk_alloc ?_ _)); exact BK158.out) hg (Kd.R_ne HO_159000.out BK158.out (by decide))); have n2_ := Aside0.mk (blk_grown (g := gb160) (o := .cells #[.int .u8 0, .int .u8 (bt a0 (ji31))] 83 (0, 0)) (by (with_reducible repeat (first | refine blk_drewN ?_ _ | refine blk_drew ?_ | refine blk_alloc ?_ _)); refine blk_put (cs := #[.int .u8 (bt a0 (ji31)), .int .u8 (bt a0 (ji31))]) ?_ 0 _ rfl; (with_reducible repeat (first | refine blk_drewN ?_ _ | refine blk_drew ?_ | refine blk_alloc ?_ _)); refine blk_put (cs := #[.int .u8 (bt a0 (ji31)), .int .u8 (bt a0 x5_1)]) ?_ 1 _ rfl; (with_reducible repeat (first | refine blk_drewN ?_ _ | refine blk_drew ?_ | refine blk_alloc ?_ _)); refine blk_put (cs := #[.int .u8 (bt a0 x5_1), .int .u8 (bt a0 x5_1)]) ?_ 0 _ rfl; (with_reducible repeat (first | refine blk_drewN ?_ _ | refine blk_drew ?_ | refine blk_alloc ?_ _)); exact BK160.out) hg (Kd.R_away HO_159000.out (fun _ hk => hk))); have n3_ := Aside0.mk (hb); have n4_ := Aside0.mk (ho); clear BK157; clear BK158; clear BK160; clear HB; clear HO_159000; have BK157 := n0_; have BK158 := n1_; have BK160 := n2_; have HB := n3_; have HO163 := n4_; clear n0_ n1_ n2_ n3_ n4_; clear ho hb hg hat; obtain ⟨Ao47, co47, eo47⟩ := Kd.R_slice HO163.out; subst eo47; have hcz48_0 : w46.cell? ⟨gb158, 0, none⟩ = some (u159000) := (blk_cell BK158.out 0).trans rfl; have hfz48_0 := blk_frozen BK158.out 0))
                                    go_roundg kj12
                                    case measure => have := HK1.out; have := HJ5.out; have := HJ12.out; omega
                                    case rel => exact ⟨(wrap64 ((ji31) + 1)), (y161), (.slice Ao47 y161.length co47), (by first | rfl | (simp; done) | (simp only [← hji31] <;> (first | rfl | simp)) | (simp [*]; done)), H', ⟨by have := HK1.out; have := HJ5.out; have := HJ12.out; omega⟩, ⟨by (with_reducible repeat (first | apply Kd.R_alloc | apply Kd.R_drewN | apply Kd.R_drew)); exact Kd.R_mono (Kd.R_far (p := ⟨gb158, 0, none⟩) (Kd.R_types HO163.out BK158.out (by decide)) (fun _ hk => hk.2) (.slice Ao47 y161.length co47)) (fun _ hk => trivial)⟩, ⟨by (with_reducible repeat (first | refine blk_drewN ?_ _ | refine blk_drew ?_ | refine blk_alloc ?_ _)); refine blk_far ?_ NB157_158.out _; (with_reducible repeat (first | refine blk_drewN ?_ _ | refine blk_drew ?_ | refine blk_alloc ?_ _)); exact BK157.out⟩, ⟨by (with_reducible repeat (first | refine blk_drewN ?_ _ | refine blk_drew ?_ | refine blk_alloc ?_ _)); refine blk_put (cs := #[u159000]) ?_ 0 _ rfl; (with_reducible repeat (first | refine blk_drewN ?_ _ | refine blk_drew ?_ | refine blk_alloc ?_ _)); exact BK158.out⟩, ⟨by repeat (first | (with_reducible first | exact HB.out | apply below_alloc | apply pw_below_drewN | apply below_drew1 | refine below_set ?_ GE157.out | refine below_set ?_ GE158.out | refine below_set ?_ GE160.out) | exact HB.out)⟩⟩
                                  · rw [if_neg c37] at H
                                    exact absurd H (by simp)
                                · rw [if_neg c36] at H
                                  have c36b0 : ((bt a0 x5_1) == 43) = false := beq_eq_false_iff_ne.mpr c36
                                  have c36b1 : ((bt a0 x5_1) != 43) = true := bne_iff_ne.mpr c36
                                  by_cases c49 : (bt a0 x5_1) = 45
                                  · rw [if_pos c49] at H
                                    have c49b0 : ((bt a0 x5_1) == 45) = true := beq_iff_eq.mpr c49
                                    have c49b1 : ((bt a0 x5_1) != 45) = false := bne_eq_false_iff_eq.mpr c49
                                    clear c49
                                    by_cases c50 : x159000_1.length < 70368744177664
                                    · rw [if_pos c50] at H
                                      have LMc50 := Aside0.mk c50
                                      clear c50
                                      obtain ⟨y164, hy164⟩ : ∃ y_ : List (S83), y_ = (x159000_1 ++ [(⟨bt a0 (ji31), 0⟩ : S83)]) := ⟨_, rfl⟩
                                      replace H : (spec_ParseCandidate.l0 kj12 a0 (wrap64 ((ji31) + 1)) y164) = some (r1, r2) := by first | (rw [hy164]; with_reducible exact H) | (have H2_ := (Option.bind_some _ _).symm.trans H; rw [hy164]; with_reducible exact H2_) | (have H2_ := (Option.bind_some _ _).symm.trans H; with_reducible exact H2_) | with_reducible exact H | (rw [hy164]; exact H) | exact H
                                      have Ny164 := Aside0.mk hy164
                                      clear hy164
                                      have H' := Aside0.mk H
                                      clear H
                                      have p26 : 0 ≤ (x5_1 : Int) := of_decide_eq_true (by first | (with_reducible assumption) | assumption)
                                      have q26 : x5_1 < (a0.size : Int) := of_decide_eq_true (by first | (with_reducible assumption) | assumption)
                                      have hx26 := bt_at a0 x5_1
                                      replace p26 := eq_true p26
                                      replace q26 := eq_true q26
                                      try go_wp2
                                      have n0_ := Aside0.mk (Kd.R_drew HO_159000.out)
                                      have n1_ := Aside0.mk (blk_drew BK157.out)
                                      have n2_ := Aside0.mk (blk_drew BK158.out)
                                      have n3_ := Aside0.mk (blk_drew BK160.out)
                                      have n4_ := Aside0.mk (below_drew1 HB.out)
                                      clear HO_159000
                                      clear BK157
                                      clear BK158
                                      clear BK160
                                      clear HB
                                      have HO_159000 := n0_
                                      have BK157 := n1_
                                      have BK158 := n2_
                                      have BK160 := n3_
                                      have HB := n4_
                                      clear n0_ n1_ n2_ n3_ n4_
                                      have p34 : 0 ≤ ((ji31) : Int) := of_decide_eq_true (by first | (with_reducible assumption) | assumption)
                                      have q34 : (ji31) < (a0.size : Int) := of_decide_eq_true (by first | (with_reducible assumption) | assumption)
                                      have hx34 := bt_at a0 (ji31)
                                      replace p34 := eq_true p34
                                      replace q34 := eq_true q34
                                      have p35 : 0 ≤ ((ji31) : Int) := of_decide_eq_true (by first | (with_reducible assumption) | assumption)
                                      have q35 : (ji31) < (a0.size : Int) := of_decide_eq_true (by first | (with_reducible assumption) | assumption)
                                      have hx35 := bt_at a0 (ji31)
                                      replace p35 := eq_true p35
                                      replace q35 := eq_true q35
                                      refine start_ (n := 8) (S := fun w' => True) (ds := []) #[false, false, false, false, false, false, false, false] (by kernel_rfl) rfl rfl trivial (fun hHeld => ?_); refine with_tabW spec_ParseCandidate.tab11 spec_ParseCandidate.bits11 (fun HT_ HW_ => ?_)
                                      generalize wc.drew = w51 at HO_159000 BK157 BK158 BK160 HB hHeld ⊢
                                      refine pure_ (i := 0) (N := some 52) (v := ?_) (a' := ?_) #[true, false, false, false, false, false, false, false] rfl rfl (any_of HT_.out (by kernel_rfl)) (fun _ _ _ h => h) (Or.inl ⟨by rfl, ?_⟩) ?_ ?_
                                      rotate_left
                                      · intro w'
                                        go_simp
                                        with_reducible rfl
                                      rotate_left
                                      · simp only [Act.put, List.setIfInBounds_toArray, List.set_cons_zero, List.set_cons_succ, i64_w, i32_w]
                                        rfl
                                      refine pure_ (i := 1) (N := some 53) (v := ?_) (a' := ?_) #[true, true, false, false, false, false, false, false] rfl rfl (any_of HT_.out (by kernel_rfl)) (fun _ _ _ h => h) (Or.inl ⟨by rfl, ?_⟩) ?_ ?_
                                      rotate_left
                                      · intro w'
                                        go_simp
                                        with_reducible rfl
                                      rotate_left
                                      · simp only [Act.put, List.setIfInBounds_toArray, List.set_cons_zero, List.set_cons_succ, i64_w, i32_w]
                                        rfl
                                      refine pure_ (i := 3) (N := some 55) (v := ?_) (a' := ?_) #[true, true, false, true, false, false, false, false] rfl rfl (any_of HT_.out (by kernel_rfl)) (fun _ _ _ h => h) (Or.inl ⟨by rfl, ?_⟩) ?_ ?_
                                      rotate_left
                                      · intro w'
                                        go_simp
                                        with_reducible rfl
                                      rotate_left
                                      · simp only [Act.put, List.setIfInBounds_toArray, List.set_cons_zero, List.set_cons_succ, i64_w, i32_w]
                                        rfl
                                      refine pure_ (i := 4) (N := some 56) (v := ?_) (a' := ?_) #[true, true, false, true, true, false, false, false] rfl rfl (any_of HT_.out (by kernel_rfl)) (fun _ _ _ h => h) (Or.inl ⟨by rfl, ?_⟩) ?_ ?_
                                      rotate_left
                                      · intro w'
                                        go_simp
                                        with_reducible rfl
                                      rotate_left
                                      · simp only [Act.put, List.setIfInBounds_toArray, List.set_cons_zero, List.set_cons_succ, i64_w, i32_w]
                                        rfl
                                      refine take_ (i := 2) (N := some 54) (v := ?_) (a' := ?_) #[true, true, true, true, true, false, false, false] rfl rfl (take_ofW HT_.out HW_.out (by kernel_rfl)) (fun _ _ _ h => h) (Or.inl ⟨by rfl, ?_⟩) hHeld ?_ ?_
                                      rotate_left
                                      · intro w' _
                                        go_simp
                                        with_reducible rfl
                                      rotate_left
                                      · simp only [Act.put, List.setIfInBounds_toArray, List.set_cons_zero, List.set_cons_succ, i64_w, i32_w]
                                        rfl
                                      refine take_ (i := 5) (N := some 57) (v := ?_) (a' := ?_) #[true, true, true, true, true, true, false, false] rfl rfl (take_ofW HT_.out HW_.out (by kernel_rfl)) (fun _ _ _ h => h) (Or.inl ⟨by rfl, ?_⟩) hHeld ?_ ?_
                                      rotate_left
                                      · intro w' _
                                        go_simp
                                        with_reducible rfl
                                      rotate_left
                                      · simp only [Act.put, List.setIfInBounds_toArray, List.set_cons_zero, List.set_cons_succ, i64_w, i32_w]
                                        rfl
                                      refine pure_ (i := 6) (N := some 58) (v := ?_) (a' := ?_) #[true, true, true, true, true, true, true, false] rfl rfl (any_of HT_.out (by kernel_rfl)) (fun _ _ _ h => h) (Or.inl ⟨by rfl, ?_⟩) ?_ ?_
                                      rotate_left
                                      · intro w'
                                        go_simp
                                        with_reducible rfl
                                      rotate_left
                                      · simp only [Act.put, List.setIfInBounds_toArray, List.set_cons_zero, List.set_cons_succ, i64_w, i32_w]
                                        rfl
                                      refine one_ (i := 7) (N := none) #[true, true, true, true, true, true, true, true] rfl rfl (one_of HT_.out (by kernel_rfl)) (by decide) (fun K hK => ?_)
                                      have hs52 : w51.cell? ⟨gb160, 0, none⟩ = some (.int .u8 (bt a0 x5_1)) := (blk_cell BK160.out 0).trans rfl
                                      have hfs52 := blk_frozen BK160.out 0
                                      have hns52_0 := NB157_160.out
                                      have hns52_1 := NB158_160.out
                                      have hms52_0 := NB160_157.out
                                      have hms52_1 := NB160_158.out
                                      have hs53 : w51.cell? ⟨gb160, 1, none⟩ = some (.int .u8 (bt a0 x5_1)) := (blk_cell BK160.out 1).trans rfl
                                      have hfs53 := blk_frozen BK160.out 1
                                      have hns53_0 := NB157_160.out
                                      have hns53_1 := NB158_160.out
                                      have hms53_0 := NB160_157.out
                                      have hms53_1 := NB160_158.out
                                      refine skip_ (w1 := ?_) (by rfl) rfl ?_ ?_
                                      rotate_left
                                      · go_simp
                                        rfl
                                      refine hK.out _ _ trivial (fun hHeld => ?_)
                                      clear hK K
                                      refine done_ (done_of HT_.out (by kernel_rfl)) ?_
                                      have hnb54 := NB160_157.out
                                      have hnc54 := NB157_160.out
                                      have hnb55 := NB160_158.out
                                      have hnc55 := NB158_160.out
                                      have hcz56_0 : w51.cell? ⟨gb160, 0, none⟩ = some (.int .u8 (bt a0 x5_1)) := (blk_cell BK160.out 0).trans rfl
                                      have hcz56_1 : w51.cell? ⟨gb160, 1, none⟩ = some (.int .u8 (bt a0 x5_1)) := (blk_cell BK160.out 1).trans rfl
                                      have hfz56_0 := blk_frozen BK160.out 0
                                      have hfz56_1 := blk_frozen BK160.out 1
                                      have hnb57 := NB158_157.out
                                      have hnc57 := NB157_158.out
                                      have hcz58_0 : w51.cell? ⟨gb158, 0, none⟩ = some (u159000) := (blk_cell BK158.out 0).trans rfl
                                      have hfz58_0 := blk_frozen BK158.out 0
                                      (try have zl_ := Aside0.mk (blk_set (blk_set (blk_set BK160.out 0 (.int .u8 (bt a0 (ji31)))) 1 (.int .u8 (bt a0 (ji31)))) 1 (.int .u8 0)))
                                      (try have hczl_0 : (((w51.setCell ⟨gb160, 0, none⟩ (.int .u8 (bt a0 (ji31)))).setCell ⟨gb160, 1, none⟩ (.int .u8 (bt a0 (ji31)))).setCell ⟨gb160, 1, none⟩ (.int .u8 0)).cell? ⟨gb160, 0, none⟩ = some (.int .u8 (bt a0 (ji31))) := (blk_cell zl_.out 0).trans rfl)
                                      (try have hczl_1 : (((w51.setCell ⟨gb160, 0, none⟩ (.int .u8 (bt a0 (ji31)))).setCell ⟨gb160, 1, none⟩ (.int .u8 (bt a0 (ji31)))).setCell ⟨gb160, 1, none⟩ (.int .u8 0)).cell? ⟨gb160, 1, none⟩ = some (.int .u8 0) := (blk_cell zl_.out 1).trans rfl)
                                      (try have hczm158_0 : (((w51.setCell ⟨gb160, 0, none⟩ (.int .u8 (bt a0 (ji31)))).setCell ⟨gb160, 1, none⟩ (.int .u8 (bt a0 (ji31)))).setCell ⟨gb160, 1, none⟩ (.int .u8 0)).cell? ⟨gb158, 0, none⟩ = some (u159000) := (blk_cell (blk_far (p := ⟨gb160, 1, none⟩) (blk_far (p := ⟨gb160, 1, none⟩) (blk_far (p := ⟨gb160, 0, none⟩) BK158.out NB158_160.out (.int .u8 (bt a0 (ji31)))) NB158_160.out (.int .u8 (bt a0 (ji31)))) NB158_160.out (.int .u8 0)) 0).trans rfl)
                                      try go_wp2_with (first | ((with_reducible refine gate_builtin (b := .append) (xs := #[.tmp 75, .tmp 77]) rfl ?_); at_builtin; refine Kd.R_append k83 (w0 := w) w.heap.size rfl (.tmp 75) (.tmp 77) 47 83 (.agg #[(.int .u8 0), (.int .u8 0)]) 2 rfl Try.underlying47 info83 rfl (by decide) (by omega) u159000 x159000_1 (⟨bt a0 (ji31), 0⟩ : S83) [.int .u8 (bt a0 (ji31)), .int .u8 0] (fun k_ => k_ ≠ gb160) (fun _ => False) rfl (by first | (go_simp; done) | (go_simp; rfl)) ?aP (fun _ hk => hk.elim) ?aF ?aO ?aB ?aS ?aL ?_; (case aP => exact k83_mkM _ _ _ (⟨bt a0 (ji31), 0⟩ : S83)); (case aB => exact (by repeat (first | (with_reducible first | exact HB.out | apply below_alloc | apply pw_below_drewN | apply below_drew1 | refine below_set ?_ GE157.out | refine below_set ?_ GE158.out | refine below_set ?_ GE160.out) | exact HB.out))); (case aF => exact (fun k_ hk => Kd.freshB (g := gb160) (o := .cells #[.int .u8 (bt a0 (ji31)), .int .u8 0] 83 (0, 0)) (by (with_reducible repeat (first | refine blk_drewN ?_ _ | refine blk_drew ?_ | refine blk_alloc ?_ _)); refine blk_put (cs := #[.int .u8 (bt a0 (ji31)), .int .u8 (bt a0 (ji31))]) ?_ 1 _ rfl; (with_reducible repeat (first | refine blk_drewN ?_ _ | refine blk_drew ?_ | refine blk_alloc ?_ _)); refine blk_put (cs := #[.int .u8 (bt a0 (ji31)), .int .u8 (bt a0 x5_1)]) ?_ 1 _ rfl; (with_reducible repeat (first | refine blk_drewN ?_ _ | refine blk_drew ?_ | refine blk_alloc ?_ _)); refine blk_put (cs := #[.int .u8 (bt a0 x5_1), .int .u8 (bt a0 x5_1)]) ?_ 0 _ rfl; (with_reducible repeat (first | refine blk_drewN ?_ _ | refine blk_drew ?_ | refine blk_alloc ?_ _)); exact BK160.out) k_ hk)); (case aO => exact (by (with_reducible repeat (first | apply Kd.R_alloc | apply Kd.R_drewN | apply Kd.R_drew)); exact Kd.R_mono (Kd.R_far (p := ⟨gb160, 1, none⟩) (Kd.R_far (p := ⟨gb160, 1, none⟩) (Kd.R_far (p := ⟨gb160, 0, none⟩) (Kd.R_mono HO_159000.out (fun k_ hk => (⟨hk, hk⟩ : _ ∧ k_ ≠ gb160))) (fun _ hk => hk.2) (.int .u8 (bt a0 (ji31)))) (fun _ hk => hk.2) (.int .u8 (bt a0 (ji31)))) (fun _ hk => hk.2) (.int .u8 0)) (fun _ hk => hk.1))); (case aS => exact (below_size (by repeat (first | (with_reducible first | exact HB.out | apply below_alloc | apply pw_below_drewN | apply below_drew1 | refine below_set ?_ GE157.out | refine below_set ?_ GE158.out | refine below_set ?_ GE160.out) | exact HB.out)))); (case aL => have := LMc50.out; omega); intro v165 w59 ho hb hg hat; rw [← Ny164.out] at ho; have n0_ := Aside0.mk (blk_grown (g := gb157) (o := .cells #[.slice none 0 0] 49 (0, 0)) (by (with_reducible repeat (first | refine blk_drewN ?_ _ | refine blk_drew ?_ | refine blk_alloc ?_ _)); refine blk_far ?_ NB157_160.out _; (with_reducible repeat (first | refine blk_drewN ?_ _ | refine blk_drew ?_ | refine blk_alloc ?_ _)); refine blk_far ?_ NB157_160.out _; (with_reducible repeat (first | refine blk_drewN ?_ _ | refine blk_drew ?_ | refine blk_alloc ?_ _)); refine blk_far ?_ NB157_160.out _; (with_reducible repeat (first | refine blk_drewN ?_ _ | refine blk_drew ?_ | refine blk_alloc ?_ _)); exact BK157.out) hg (Kd.R_ne HO_159000.out BK157.out (by decide))); have n1_ := Aside0.mk (blk_grown (g := gb158) (o := .cells #[u159000] 49 (0, 0)) (by (with_reducible repeat (first | refine blk_drewN ?_ _ | refine blk_drew ?_ | refine blk_alloc ?_ _)); refine blk_far ?_ NB158_160.out _; (with_reducible repeat (first | refine blk_drewN ?_ _ | refine blk_drew ?_ | refine blk_alloc ?_ _)); refine blk_far ?_ NB158_160.out _; (with_reducible repeat (first | refine blk_drewN ?_ _ | refine blk_drew ?_ | refine blk_alloc ?_ _)); refine blk_far ?_ NB158_160.out _; (with_reducible repeat (first | refine blk_drewN ?_ _ | refine blk_drew ?_ | refine blk_alloc ?_ _)); exact BK158.out) hg (Kd.R_ne HO_159000.out BK158.out (by decide))); have n2_ := Aside0.mk (blk_grown (g := gb160) (o := .cells #[.int .u8 (bt a0 (ji31)), .int .u8 0] 83 (0, 0)) (by (with_reducible repeat (first | refine blk_drewN ?_ _ | refine blk_drew ?_ | refine blk_alloc ?_ _)); refine blk_put (cs := #[.int .u8 (bt a0 (ji31)), .int .u8 (bt a0 (ji31))]) ?_ 1 _ rfl; (with_reducible repeat (first | refine blk_drewN ?_ _ | refine blk_drew ?_ | refine blk_alloc ?_ _)); refine blk_put (cs := #[.int .u8 (bt a0 (ji31)), .int .u8 (bt a0 x5_1)]) ?_ 1 _ rfl; (with_reducible repeat (first | refine blk_drewN ?_ _ | refine blk_drew ?_ | refine blk_alloc ?_ _)); refine blk_put (cs := #[.int .u8 (bt a0 x5_1), .int .u8 (bt a0 x5_1)]) ?_ 0 _ rfl; (with_reducible repeat (first | refine blk_drewN ?_ _ | refine blk_drew ?_ | refine blk_alloc ?_ _)); exact BK160.out) hg (Kd.R_away HO_159000.out (fun _ hk => hk))); have n3_ := Aside0.mk (hb); have n4_ := Aside0.mk (ho); clear BK157; clear BK158; clear BK160; clear HB; clear HO_159000; have BK157 := n0_; have BK158 := n1_; have BK160 := n2_; have HB := n3_; have HO166 := n4_; clear n0_ n1_ n2_ n3_ n4_; clear ho hb hg hat; obtain ⟨Ao60, co60, eo60⟩ := Kd.R_slice HO166.out; subst eo60; have hcz61_0 : w59.cell? ⟨gb158, 0, none⟩ = some (u159000) := (blk_cell BK158.out 0).trans rfl; have hfz61_0 := blk_frozen BK158.out 0))
                                      go_roundg kj12
                                      case measure => have := HK1.out; have := HJ5.out; have := HJ12.out; omega
                                      case rel => exact ⟨(wrap64 ((ji31) + 1)), (y164), (.slice Ao60 y164.length co60), (by first | rfl | (simp; done) | (simp only [← hji31] <;> (first | rfl | simp)) | (simp [*]; done)), H', ⟨by have := HK1.out; have := HJ5.out; have := HJ12.out; omega⟩, ⟨by (with_reducible repeat (first | apply Kd.R_alloc | apply Kd.R_drewN | apply Kd.R_drew)); exact Kd.R_mono (Kd.R_far (p := ⟨gb158, 0, none⟩) (Kd.R_types HO166.out BK158.out (by decide)) (fun _ hk => hk.2) (.slice Ao60 y164.length co60)) (fun _ hk => trivial)⟩, ⟨by (with_reducible repeat (first | refine blk_drewN ?_ _ | refine blk_drew ?_ | refine blk_alloc ?_ _)); refine blk_far ?_ NB157_158.out _; (with_reducible repeat (first | refine blk_drewN ?_ _ | refine blk_drew ?_ | refine blk_alloc ?_ _)); exact BK157.out⟩, ⟨by (with_reducible repeat (first | refine blk_drewN ?_ _ | refine blk_drew ?_ | refine blk_alloc ?_ _)); refine blk_put (cs := #[u159000]) ?_ 0 _ rfl; (with_reducible repeat (first | refine blk_drewN ?_ _ | refine blk_drew ?_ | refine blk_alloc ?_ _)); exact BK158.out⟩, ⟨by repeat (first | (with_reducible first | exact HB.out | apply below_alloc | apply pw_below_drewN | apply below_drew1 | refine below_set ?_ GE157.out | refine below_set ?_ GE158.out | refine below_set ?_ GE160.out) | exact HB.out)⟩⟩
                                    · rw [if_neg c50] at H
                                      exact absurd H (by simp)
                                  · rw [if_neg c49] at H
                                    have c49b0 : ((bt a0 x5_1) == 45) = false := beq_eq_false_iff_ne.mpr c49
                                    have c49b1 : ((bt a0 x5_1) != 45) = true := bne_iff_ne.mpr c49
                                    replace H := Option.bind_eq_some_iff.mp H
                                    obtain ⟨⟨t167, t168⟩, A630, H⟩ := H
                                    replace H : (if x159000_1.length < 70368744177664 then (spec_ParseCandidate.l0 kj12 a0 (wrap64 ((ji31) + 1)) (x159000_1 ++ [(⟨bt a0 (ji31), t167⟩ : S83)])) else (none)) = some (r1, r2) := H
                                    have A63 := Aside0.mk A630
                                    clear A630
                                    by_cases c64 : x159000_1.length < 70368744177664
                                    · rw [if_pos c64] at H
                                      have LMc64 := Aside0.mk c64
                                      clear c64
                                      obtain ⟨y169, hy169⟩ : ∃ y_ : List (S83), y_ = (x159000_1 ++ [(⟨bt a0 (ji31), t167⟩ : S83)]) := ⟨_, rfl⟩
                                      replace H : (spec_ParseCandidate.l0 kj12 a0 (wrap64 ((ji31) + 1)) y169) = some (r1, r2) := by first | (rw [hy169]; with_reducible exact H) | (have H2_ := (Option.bind_some _ _).symm.trans H; rw [hy169]; with_reducible exact H2_) | (have H2_ := (Option.bind_some _ _).symm.trans H; with_reducible exact H2_) | with_reducible exact H | (rw [hy169]; exact H) | exact H
                                      have Ny169 := Aside0.mk hy169
                                      clear hy169
                                      have H' := Aside0.mk H
                                      clear H
                                      have p26 : 0 ≤ (x5_1 : Int) := of_decide_eq_true (by first | (with_reducible assumption) | assumption)
                                      have q26 : x5_1 < (a0.size : Int) := of_decide_eq_true (by first | (with_reducible assumption) | assumption)
                                      have hx26 := bt_at a0 x5_1
                                      replace p26 := eq_true p26
                                      replace q26 := eq_true q26
                                      try go_wp2
                                      have n0_ := Aside0.mk (Kd.R_drew HO_159000.out)
                                      have n1_ := Aside0.mk (blk_drew BK157.out)
                                      have n2_ := Aside0.mk (blk_drew BK158.out)
                                      have n3_ := Aside0.mk (blk_drew BK160.out)
                                      have n4_ := Aside0.mk (below_drew1 HB.out)
                                      clear HO_159000
                                      clear BK157
                                      clear BK158
                                      clear BK160
                                      clear HB
                                      have HO_159000 := n0_
                                      have BK157 := n1_
                                      have BK158 := n2_
                                      have BK160 := n3_
                                      have HB := n4_
                                      clear n0_ n1_ n2_ n3_ n4_
                                      have p34 : 0 ≤ ((ji31) : Int) := of_decide_eq_true (by first | (with_reducible assumption) | assumption)
                                      have q34 : (ji31) < (a0.size : Int) := of_decide_eq_true (by first | (with_reducible assumption) | assumption)
                                      have hx34 := bt_at a0 (ji31)
                                      replace p34 := eq_true p34
                                      replace q34 := eq_true q34
                                      have p35 : 0 ≤ ((ji31) : Int) := of_decide_eq_true (by first | (with_reducible assumption) | assumption)
                                      have q35 : (ji31) < (a0.size : Int) := of_decide_eq_true (by first | (with_reducible assumption) | assumption)
                                      have hx35 := bt_at a0 (ji31)
                                      replace p35 := eq_true p35
                                      replace q35 := eq_true q35
                                      refine start_ (n := 8) (S := fun w' => True) (ds := []) #[false, false, false, false, false, false, false, false] (by kernel_rfl) rfl rfl trivial (fun hHeld => ?_); refine with_tabW spec_ParseCandidate.tab11 spec_ParseCandidate.bits11 (fun HT_ HW_ => ?_)
                                      generalize wc.drew = w65 at HO_159000 BK157 BK158 BK160 HB hHeld ⊢
                                      refine pure_ (i := 0) (N := some 52) (v := ?_) (a' := ?_) #[true, false, false, false, false, false, false, false] rfl rfl (any_of HT_.out (by kernel_rfl)) (fun _ _ _ h => h) (Or.inl ⟨by rfl, ?_⟩) ?_ ?_
                                      rotate_left
                                      · intro w'
                                        go_simp
                                        with_reducible rfl
                                      rotate_left
                                      · simp only [Act.put, List.setIfInBounds_toArray, List.set_cons_zero, List.set_cons_succ, i64_w, i32_w]
                                        rfl
                                      refine pure_ (i := 1) (N := some 53) (v := ?_) (a' := ?_) #[true, true, false, false, false, false, false, false] rfl rfl (any_of HT_.out (by kernel_rfl)) (fun _ _ _ h => h) (Or.inl ⟨by rfl, ?_⟩) ?_ ?_
                                      rotate_left
                                      · intro w'
                                        go_simp
                                        with_reducible rfl
                                      rotate_left
                                      · simp only [Act.put, List.setIfInBounds_toArray, List.set_cons_zero, List.set_cons_succ, i64_w, i32_w]
                                        rfl
                                      refine pure_ (i := 3) (N := some 55) (v := ?_) (a' := ?_) #[true, true, false, true, false, false, false, false] rfl rfl (any_of HT_.out (by kernel_rfl)) (fun _ _ _ h => h) (Or.inl ⟨by rfl, ?_⟩) ?_ ?_
                                      rotate_left
                                      · intro w'
                                        go_simp
                                        with_reducible rfl
                                      rotate_left
                                      · simp only [Act.put, List.setIfInBounds_toArray, List.set_cons_zero, List.set_cons_succ, i64_w, i32_w]
                                        rfl
                                      refine pure_ (i := 4) (N := some 56) (v := ?_) (a' := ?_) #[true, true, false, true, true, false, false, false] rfl rfl (any_of HT_.out (by kernel_rfl)) (fun _ _ _ h => h) (Or.inl ⟨by rfl, ?_⟩) ?_ ?_
                                      rotate_left
                                      · intro w'
                                        go_simp
                                        with_reducible rfl
                                      rotate_left
                                      · simp only [Act.put, List.setIfInBounds_toArray, List.set_cons_zero, List.set_cons_succ, i64_w, i32_w]
                                        rfl
                                      refine take_ (i := 2) (N := some 54) (v := ?_) (a' := ?_) #[true, true, true, true, true, false, false, false] rfl rfl (take_ofW HT_.out HW_.out (by kernel_rfl)) (fun _ _ _ h => h) (Or.inl ⟨by rfl, ?_⟩) hHeld ?_ ?_
                                      rotate_left
                                      · intro w' _
                                        go_simp
                                        with_reducible rfl
                                      rotate_left
                                      · simp only [Act.put, List.setIfInBounds_toArray, List.set_cons_zero, List.set_cons_succ, i64_w, i32_w]
                                        rfl
                                      refine take_ (i := 5) (N := some 57) (v := ?_) (a' := ?_) #[true, true, true, true, true, true, false, false] rfl rfl (take_ofW HT_.out HW_.out (by kernel_rfl)) (fun _ _ _ h => h) (Or.inl ⟨by rfl, ?_⟩) hHeld ?_ ?_
                                      rotate_left
                                      · intro w' _
                                        go_simp
                                        with_reducible rfl
                                      rotate_left
                                      · simp only [Act.put, List.setIfInBounds_toArray, List.set_cons_zero, List.set_cons_succ, i64_w, i32_w]
                                        rfl
                                      refine pure_ (i := 6) (N := some 58) (v := ?_) (a' := ?_) #[true, true, true, true, true, true, true, false] rfl rfl (any_of HT_.out (by kernel_rfl)) (fun _ _ _ h => h) (Or.inl ⟨by rfl, ?_⟩) ?_ ?_
                                      rotate_left
                                      · intro w'
                                        go_simp
                                        with_reducible rfl
                                      rotate_left
                                      · simp only [Act.put, List.setIfInBounds_toArray, List.set_cons_zero, List.set_cons_succ, i64_w, i32_w]
                                        rfl
                                      refine one_ (i := 7) (N := none) #[true, true, true, true, true, true, true, true] rfl rfl (one_of HT_.out (by kernel_rfl)) (by decide) (fun K hK => ?_)
                                      have hs66 : w65.cell? ⟨gb160, 0, none⟩ = some (.int .u8 (bt a0 x5_1)) := (blk_cell BK160.out 0).trans rfl
                                      have hfs66 := blk_frozen BK160.out 0
                                      have hns66_0 := NB157_160.out
                                      have hns66_1 := NB158_160.out
                                      have hms66_0 := NB160_157.out
                                      have hms66_1 := NB160_158.out
                                      have hs67 : w65.cell? ⟨gb160, 1, none⟩ = some (.int .u8 (bt a0 x5_1)) := (blk_cell BK160.out 1).trans rfl
                                      have hfs67 := blk_frozen BK160.out 1
                                      have hns67_0 := NB157_160.out
                                      have hns67_1 := NB158_160.out
                                      have hms67_0 := NB160_157.out
                                      have hms67_1 := NB160_158.out
                                      refine skip_ (w1 := ?_) (by rfl) rfl ?_ ?_
                                      rotate_left
                                      · go_simp
                                        rfl
                                      refine hK.out _ _ trivial (fun hHeld => ?_)
                                      clear hK K
                                      refine done_ (done_of HT_.out (by kernel_rfl)) ?_
                                      have p62 : 0 ≤ ((ji31) : Int) := of_decide_eq_true (by first | (with_reducible assumption) | assumption)
                                      have q62 : (ji31) < (a0.size : Int) := of_decide_eq_true (by first | (with_reducible assumption) | assumption)
                                      have hx62 := bt_at a0 (ji31)
                                      replace p62 := eq_true p62
                                      replace q62 := eq_true q62
                                      try go_wp2_with (first | ((with_reducible refine gate_callee (f := 68) rfl ?_); refine goesL_ (some 64) rfl rfl Try.func68 (by kernel_rfl) rfl #[.int .u8 (bt a0 (ji31))] rfl (by (try simp only [List.map_toArray, List.map_cons, List.map_nil]); first | done | (simp only [hji31]; rfl) | rfl | (simp only [List.length_drop, List.length_take]; rfl)) ?_; (with_reducible refine (spec_SwapVoice.calls (bt a0 (ji31)) t167 t168 _ A63.out).mono ?_); rintro e w' ⟨rfl, ⟨nd, rfl⟩⟩; refine ⟨_, rfl, ?_⟩; have hnb68 := NB160_157.out; have hnc68 := NB157_160.out; have hnb69 := NB160_158.out; have hnc69 := NB158_160.out; have hcz70_0 : w65.cell? ⟨gb160, 0, none⟩ = some (.int .u8 (bt a0 x5_1)) := (blk_cell BK160.out 0).trans rfl; have hcz70_1 : w65.cell? ⟨gb160, 1, none⟩ = some (.int .u8 (bt a0 x5_1)) := (blk_cell BK160.out 1).trans rfl; have hfz70_0 := blk_frozen BK160.out 0; have hfz70_1 := blk_frozen BK160.out 1; have hnb71 := NB158_157.out; have hnc71 := NB157_158.out; have hcz72_0 : w65.cell? ⟨gb158, 0, none⟩ = some (u159000) := (blk_cell BK158.out 0).trans rfl; have hfz72_0 := blk_frozen BK158.out 0; (try have zl_ := Aside0.mk (blk_set (blk_drewN (blk_set (blk_set BK160.out 0 (.int .u8 ((bt a0 (ji31))))) 1 (.int .u8 ((bt a0 (ji31))))) nd) 1 (.int .u8 (t167)))); (try have hczl_0 : ((((w65.setCell ⟨gb160, 0, none⟩ (.int .u8 ((bt a0 (ji31))))).setCell ⟨gb160, 1, none⟩ (.int .u8 ((bt a0 (ji31))))).drewN nd).setCell ⟨gb160, 1, none⟩ (.int .u8 (t167))).cell? ⟨gb160, 0, none⟩ = some (.int .u8 ((bt a0 (ji31)))) := (blk_cell zl_.out 0).trans rfl); (try have hczl_1 : ((((w65.setCell ⟨gb160, 0, none⟩ (.int .u8 ((bt a0 (ji31))))).setCell ⟨gb160, 1, none⟩ (.int .u8 ((bt a0 (ji31))))).drewN nd).setCell ⟨gb160, 1, none⟩ (.int .u8 (t167))).cell? ⟨gb160, 1, none⟩ = some (.int .u8 (t167)) := (blk_cell zl_.out 1).trans rfl); (try have hczm158_0 : ((((w65.setCell ⟨gb160, 0, none⟩ (.int .u8 ((bt a0 (ji31))))).setCell ⟨gb160, 1, none⟩ (.int .u8 ((bt a0 (ji31))))).drewN nd).setCell ⟨gb160, 1, none⟩ (.int .u8 (t167))).cell? ⟨gb158, 0, none⟩ = some (u159000) := (blk_cell (blk_far (p := ⟨gb160, 1, none⟩) (blk_drewN (blk_far (p := ⟨gb160, 1, none⟩) (blk_far (p := ⟨gb160, 0, none⟩) BK158.out NB158_160.out (.int .u8 ((bt a0 (ji31))))) NB158_160.out (.int .u8 ((bt a0 (ji31))))) nd) NB158_160.out (.int .u8 (t167))) 0).trans rfl)) | ((with_reducible refine gate_builtin (b := .append) (xs := #[.tmp 75, .tmp 77]) rfl ?_); at_builtin; refine Kd.R_append k83 (w0 := w) w.heap.size rfl (.tmp 75) (.tmp 77) 47 83 (.agg #[(.int .u8 0), (.int .u8 0)]) 2 rfl Try.underlying47 info83 rfl (by decide) (by omega) u159000 x159000_1 (⟨bt a0 (ji31), t167⟩ : S83) [.int .u8 (bt a0 (ji31)), .int .u8 t167] (fun k_ => k_ ≠ gb160) (fun _ => False) rfl (by first | (go_simp; done) | (go_simp; rfl)) ?aP (fun _ hk => hk.elim) ?aF ?aO ?aB ?aS ?aL ?_; (case aP => exact k83_mkM _ _ _ (⟨bt a0 (ji31), t167⟩ : S83)); (case aB => exact (by repeat (first | (with_reducible first | exact HB.out | apply below_alloc | apply pw_below_drewN | apply below_drew1 | refine below_set ?_ GE157.out | refine below_set ?_ GE158.out | refine below_set ?_ GE160.out) | exact HB.out))); (case aF => exact (fun k_ hk => Kd.freshB (g := gb160) (o := .cells #[.int .u8 (bt a0 (ji31)), .int .u8 t167] 83 (0, 0)) (by (with_reducible repeat (first | refine blk_drewN ?_ _ | refine blk_drew ?_ | refine blk_alloc ?_ _)); refine blk_put (cs := #[.int .u8 (bt a0 (ji31)), .int .u8 (bt a0 (ji31))]) ?_ 1 _ rfl; (with_reducible repeat (first | refine blk_drewN ?_ _ | refine blk_drew ?_ | refine blk_alloc ?_ _)); refine blk_put (cs := #[.int .u8 (bt a0 (ji31)), .int .u8 (bt a0 x5_1)]) ?_ 1 _ rfl; (with_reducible repeat (first | refine blk_drewN ?_ _ | refine blk_drew ?_ | refine blk_alloc ?_ _)); refine blk_put (cs := #[.int .u8 (bt a0 x5_1), .int .u8 (bt a0 x5_1)]) ?_ 0 _ rfl; (with_reducible repeat (first | refine blk_drewN ?_ _ | refine blk_drew ?_ | refine blk_alloc ?_ _)); exact BK160.out) k_ hk)); (case aO => exact (by (with_reducible repeat (first | apply Kd.R_alloc | apply Kd.R_drewN | apply Kd.R_drew)); exact Kd.R_mono (Kd.R_far (p := ⟨gb160, 1, none⟩) (Kd.R_far (p := ⟨gb160, 1, none⟩) (Kd.R_far (p := ⟨gb160, 0, none⟩) (Kd.R_mono HO_159000.out (fun k_ hk => (⟨hk, hk⟩ : _ ∧ k_ ≠ gb160))) (fun _ hk => hk.2) (.int .u8 (bt a0 (ji31)))) (fun _ hk => hk.2) (.int .u8 (bt a0 (ji31)))) (fun _ hk => hk.2) (.int .u8 t167)) (fun _ hk => hk.1))); (case aS => exact (below_size (by repeat (first | (with_reducible first | exact HB.out | apply below_alloc | apply pw_below_drewN | apply below_drew1 | refine below_set ?_ GE157.out | refine below_set ?_ GE158.out | refine below_set ?_ GE160.out) | exact HB.out)))); (case aL => have := LMc64.out; omega); intro v170 w73 ho hb hg hat; rw [← Ny169.out] at ho; have n0_ := Aside0.mk (blk_grown (g := gb157) (o := .cells #[.slice none 0 0] 49 (0, 0)) (by (with_reducible repeat (first | refine blk_drewN ?_ _ | refine blk_drew ?_ | refine blk_alloc ?_ _)); refine blk_far ?_ NB157_160.out _; (with_reducible repeat (first | refine blk_drewN ?_ _ | refine blk_drew ?_ | refine blk_alloc ?_ _)); refine blk_far ?_ NB157_160.out _; (with_reducible repeat (first | refine blk_drewN ?_ _ | refine blk_drew ?_ | refine blk_alloc ?_ _)); refine blk_far ?_ NB157_160.out _; (with_reducible repeat (first | refine blk_drewN ?_ _ | refine blk_drew ?_ | refine blk_alloc ?_ _)); exact BK157.out) hg (Kd.R_ne HO_159000.out BK157.out (by decide))); have n1_ := Aside0.mk (blk_grown (g := gb158) (o := .cells #[u159000] 49 (0, 0)) (by (with_reducible repeat (first | refine blk_drewN ?_ _ | refine blk_drew ?_ | refine blk_alloc ?_ _)); refine blk_far ?_ NB158_160.out _; (with_reducible repeat (first | refine blk_drewN ?_ _ | refine blk_drew ?_ | refine blk_alloc ?_ _)); refine blk_far ?_ NB158_160.out _; (with_reducible repeat (first | refine blk_drewN ?_ _ | refine blk_drew ?_ | refine blk_alloc ?_ _)); refine blk_far ?_ NB158_160.out _; (with_reducible repeat (first | refine blk_drewN ?_ _ | refine blk_drew ?_ | refine blk_alloc ?_ _)); exact BK158.out) hg (Kd.R_ne HO_159000.out BK158.out (by decide))); have n2_ := Aside0.mk (blk_grown (g := gb160) (o := .cells #[.int .u8 (bt a0 (ji31)), .int .u8 t167] 83 (0, 0)) (by (with_reducible repeat (first | refine blk_drewN ?_ _ | refine blk_drew ?_ | refine blk_alloc ?_ _)); refine blk_put (cs := #[.int .u8 (bt a0 (ji31)), .int .u8 (bt a0 (ji31))]) ?_ 1 _ rfl; (with_reducible repeat (first | refine blk_drewN ?_ _ | refine blk_drew ?_ | refine blk_alloc ?_ _)); refine blk_put (cs := #[.int .u8 (bt a0 (ji31)), .int .u8 (bt a0 x5_1)]) ?_ 1 _ rfl; (with_reducible repeat (first | refine blk_drewN ?_ _ | refine blk_drew ?_ | refine blk_alloc ?_ _)); refine blk_put (cs := #[.int .u8 (bt a0 x5_1), .int .u8 (bt a0 x5_1)]) ?_ 0 _ rfl; (with_reducible repeat (first | refine blk_drewN ?_ _ | refine blk_drew ?_ | refine blk_alloc ?_ _)); exact BK160.out) hg (Kd.R_away HO_159000.out (fun _ hk => hk))); have n3_ := Aside0.mk (hb); have n4_ := Aside0.mk (ho); clear BK157; clear BK158; clear BK160; clear HB; clear HO_159000; have BK157 := n0_; have BK158 := n1_; have BK160 := n2_; have HB := n3_; have HO171 := n4_; clear n0_ n1_ n2_ n3_ n4_; clear ho hb hg hat; obtain ⟨Ao74, co74, eo74⟩ := Kd.R_slice HO171.out; subst eo74; have hcz75_0 : w73.cell? ⟨gb158, 0, none⟩ = some (u159000) := (blk_cell BK158.out 0).trans rfl; have hfz75_0 := blk_frozen BK158.out 0))
                                      go_roundg kj12
                                      case measure => have := HK1.out; have := HJ5.out; have := HJ12.out; omega
                                      case rel => exact ⟨(wrap64 ((ji31) + 1)), (y169), (.slice Ao74 y169.length co74), (by first | rfl | (simp; done) | (simp only [← hji31] <;> (first | rfl | simp)) | (simp [*]; done)), H', ⟨by have := HK1.out; have := HJ5.out; have := HJ12.out; omega⟩, ⟨by (with_reducible repeat (first | apply Kd.R_alloc | apply Kd.R_drewN | apply Kd.R_drew)); exact Kd.R_mono (Kd.R_far (p := ⟨gb158, 0, none⟩) (Kd.R_types HO171.out BK158.out (by decide)) (fun _ hk => hk.2) (.slice Ao74 y169.length co74)) (fun _ hk => trivial)⟩, ⟨by (with_reducible repeat (first | refine blk_drewN ?_ _ | refine blk_drew ?_ | refine blk_alloc ?_ _)); refine blk_far ?_ NB157_158.out _; (with_reducible repeat (first | refine blk_drewN ?_ _ | refine blk_drew ?_ | refine blk_alloc ?_ _)); exact BK157.out⟩, ⟨by (with_reducible repeat (first | refine blk_drewN ?_ _ | refine blk_drew ?_ | refine blk_alloc ?_ _)); refine blk_put (cs := #[u159000]) ?_ 0 _ rfl; (with_reducible repeat (first | refine blk_drewN ?_ _ | refine blk_drew ?_ | refine blk_alloc ?_ _)); exact BK158.out⟩, ⟨by repeat (first | (with_reducible first | exact HB.out | apply below_alloc | apply pw_below_drewN | apply below_drew1 | refine below_set ?_ GE157.out | refine below_set ?_ GE158.out | refine below_set ?_ GE160.out) | exact HB.out)⟩⟩
                                    · rw [if_neg c64] at H
                                      exact absurd H (by simp)
                              · rw [if_neg c33] at H
                                exact absurd H (by simp)
                            · rw [if_neg c32] at H
                              exact absurd H (by simp)
                        · rw [if_neg c25] at H
                          exact absurd H (by simp)
                      · rw [if_neg c24] at H
                        exact absurd H (by simp)
                    · replace c23 := Bool.eq_false_iff.mpr c23
                      subst c23
                      have H1 : (if x159000_1.length < 70368744177664 then (spec_ParseCandidate.l0 kj12 a0 (wrap64 (x5_1 + 1)) (x159000_1 ++ [(⟨(bt a0 x5_1), (bt a0 x5_1)⟩ : S83)])) else (none)) = some (r1, r2) := by rw [if_neg (show ¬ (false = true) by decide)] at H; exact H
                      clear H
                      have H := H1
                      clear H1
                      by_cases c76 : x159000_1.length < 70368744177664
                      · rw [if_pos c76] at H
                        have LMc76 := Aside0.mk c76
                        clear c76
                        obtain ⟨y172, hy172⟩ : ∃ y_ : List (S83), y_ = (x159000_1 ++ [(⟨(bt a0 x5_1), (bt a0 x5_1)⟩ : S83)]) := ⟨_, rfl⟩
                        replace H : (spec_ParseCandidate.l0 kj12 a0 (wrap64 (x5_1 + 1)) y172) = some (r1, r2) := by first | (rw [hy172]; with_reducible exact H) | (have H2_ := (Option.bind_some _ _).symm.trans H; rw [hy172]; with_reducible exact H2_) | (have H2_ := (Option.bind_some _ _).symm.trans H; with_reducible exact H2_) | with_reducible exact H | (rw [hy172]; exact H) | exact H
                        have Ny172 := Aside0.mk hy172
                        clear hy172
                        have H' := Aside0.mk H
                        clear H
                        have hnb77 := NB158_157.out
                        have hnc77 := NB157_158.out
                        have hnb78 := NB158_160.out
                        have hnc78 := NB160_158.out
                        have hcz79_0 : wc.cell? ⟨gb158, 0, none⟩ = some (u159000) := (blk_cell BK158.out 0).trans rfl
                        have hfz79_0 := blk_frozen BK158.out 0
                        have hnb80 := NB160_157.out
                        have hnc80 := NB157_160.out
                        have hcz81_0 : wc.cell? ⟨gb160, 0, none⟩ = some (.int .u8 (bt a0 x5_1)) := (blk_cell BK160.out 0).trans rfl
                        have hcz81_1 : wc.cell? ⟨gb160, 1, none⟩ = some (.int .u8 (bt a0 x5_1)) := (blk_cell BK160.out 1).trans rfl
                        have hfz81_0 := blk_frozen BK160.out 0
                        have hfz81_1 := blk_frozen BK160.out 1
                        go_wp2_with (first | ((with_reducible refine gate_builtin (b := .append) (xs := #[.tmp 75, .tmp 77]) rfl ?_); at_builtin; refine Kd.R_append k83 (w0 := w) w.heap.size rfl (.tmp 75) (.tmp 77) 47 83 (.agg #[(.int .u8 0), (.int .u8 0)]) 2 rfl Try.underlying47 info83 rfl (by decide) (by omega) u159000 x159000_1 (⟨(bt a0 x5_1), (bt a0 x5_1)⟩ : S83) [.int .u8 (bt a0 x5_1), .int .u8 (bt a0 x5_1)] (fun k_ => k_ ≠ gb160) (fun _ => False) rfl rfl ?aP (fun _ hk => hk.elim) ?aF ?aO ?aB ?aS ?aL ?_; (case aP => exact k83_mkM _ _ _ (⟨(bt a0 x5_1), (bt a0 x5_1)⟩ : S83)); (case aB => exact (by repeat (first | (with_reducible first | exact HB.out | apply below_alloc | apply pw_below_drewN | apply below_drew1 | refine below_set ?_ GE157.out | refine below_set ?_ GE158.out | refine below_set ?_ GE160.out) | exact HB.out))); (case aF => exact (fun k_ hk => Kd.freshB (g := gb160) (o := .cells #[.int .u8 (bt a0 x5_1), .int .u8 (bt a0 x5_1)] 83 (0, 0)) (by (with_reducible repeat (first | refine blk_drewN ?_ _ | refine blk_drew ?_ | refine blk_alloc ?_ _)); exact BK160.out) k_ hk)); (case aO => exact (by (with_reducible repeat (first | apply Kd.R_alloc | apply Kd.R_drewN | apply Kd.R_drew)); exact HO_159000.out)); (case aS => exact (below_size (by repeat (first | (with_reducible first | exact HB.out | apply below_alloc | apply pw_below_drewN | apply below_drew1 | refine below_set ?_ GE157.out | refine below_set ?_ GE158.out | refine below_set ?_ GE160.out) | exact HB.out)))); (case aL => have := LMc76.out; omega); intro v173 w82 ho hb hg hat; rw [← Ny172.out] at ho; have n0_ := Aside0.mk (blk_grown (g := gb157) (o := .cells #[.slice none 0 0] 49 (0, 0)) (by (with_reducible repeat (first | refine blk_drewN ?_ _ | refine blk_drew ?_ | refine blk_alloc ?_ _)); exact BK157.out) hg (Kd.R_ne HO_159000.out BK157.out (by decide))); have n1_ := Aside0.mk (blk_grown (g := gb158) (o := .cells #[u159000] 49 (0, 0)) (by (with_reducible repeat (first | refine blk_drewN ?_ _ | refine blk_drew ?_ | refine blk_alloc ?_ _)); exact BK158.out) hg (Kd.R_ne HO_159000.out BK158.out (by decide))); have n2_ := Aside0.mk (blk_grown (g := gb160) (o := .cells #[.int .u8 (bt a0 x5_1), .int .u8 (bt a0 x5_1)] 83 (0, 0)) (by (with_reducible repeat (first | refine blk_drewN ?_ _ | refine blk_drew ?_ | refine blk_alloc ?_ _)); exact BK160.out) hg (Kd.R_away HO_159000.out (fun _ hk => hk))); have n3_ := Aside0.mk (hb); have n4_ := Aside0.mk (ho); clear BK157; clear BK158; clear BK160; clear HB; clear HO_159000; have BK157 := n0_; have BK158 := n1_; have BK160 := n2_; have HB := n3_; have HO174 := n4_; clear n0_ n1_ n2_ n3_ n4_; clear ho hb hg hat; obtain ⟨Ao83, co83, eo83⟩ := Kd.R_slice HO174.out; subst eo83; have hcz84_0 : w82.cell? ⟨gb158, 0, none⟩ = some (u159000) := (blk_cell BK158.out 0).trans rfl; have hfz84_0 := blk_frozen BK158.out 0))
                        go_roundg kj12
                        case measure => have := HK1.out; have := HJ5.out; have := HJ12.out; omega
                        case rel => exact ⟨(wrap64 (x5_1 + 1)), (y172), (.slice Ao83 y172.length co83), (by first | rfl | (simp; done) | (simp [*]; done)), H', ⟨by have := HK1.out; have := HJ5.out; have := HJ12.out; omega⟩, ⟨by (with_reducible repeat (first | apply Kd.R_alloc | apply Kd.R_drewN | apply Kd.R_drew)); exact Kd.R_mono (Kd.R_far (p := ⟨gb158, 0, none⟩) (Kd.R_types HO174.out BK158.out (by decide)) (fun _ hk => hk.2) (.slice Ao83 y172.length co83)) (fun _ hk => trivial)⟩, ⟨by (with_reducible repeat (first | refine blk_drewN ?_ _ | refine blk_drew ?_ | refine blk_alloc ?_ _)); refine blk_far ?_ NB157_158.out _; (with_reducible repeat (first | refine blk_drewN ?_ _ | refine blk_drew ?_ | refine blk_alloc ?_ _)); exact BK157.out⟩, ⟨by (with_reducible repeat (first | refine blk_drewN ?_ _ | refine blk_drew ?_ | refine blk_alloc ?_ _)); refine blk_put (cs := #[u159000]) ?_ 0 _ rfl; (with_reducible repeat (first | refine blk_drewN ?_ _ | refine blk_drew ?_ | refine blk_alloc ?_ _)); exact BK158.out⟩, ⟨by repeat (first | (with_reducible first | exact HB.out | apply below_alloc | apply pw_below_drewN | apply below_drew1 | refine below_set ?_ GE157.out | refine below_set ?_ GE158.out | refine below_set ?_ GE160.out) | exact HB.out)⟩⟩
                      · rw [if_neg c76] at H
                        exact absurd H (by simp)
              · rw [if_neg c10] at H
                exact absurd H (by simp)
            · rw [if_neg c9] at H
              exact absurd H (by simp)
          · replace c8 := Bool.eq_false_iff.mpr c8
            subst c8
            have H1 : ((spec_FormatCandidate.f kj5 x159000_1).bind fun t159 => (if t159.toList = a0.toList then (if a0.toList = ([] : List UInt8) then (some (([] : List (S83)), false)) else (some (x159000_1, true))) else (some (([] : List (S83)), false)))) = some (r1, r2) := by rw [if_neg (show ¬ (false = true) by decide)] at H; exact H
            clear H
            have H := H1
            clear H1
            replace H := Option.bind_eq_some_iff.mp H
            obtain ⟨t159, A850, H⟩ := H
            replace H : (if t159.toList = a0.toList then (if a0.toList = ([] : List UInt8) then (some (([] : List (S83)), false)) else (some (x159000_1, true))) else (some (([] : List (S83)), false))) = some (r1, r2) := H
            have A85 := Aside0.mk A850
            clear A850
            by_cases c86 : t159.toList = a0.toList
            · rw [if_pos c86] at H
              have c86b0 : (t159.toList == a0.toList) = true := beq_iff_eq.mpr c86
              have c86b1 : (t159.toList != a0.toList) = false := bne_eq_false_iff_eq.mpr c86
              clear c86
              by_cases c87 : a0.toList = ([] : List UInt8)
              · rw [if_pos c87] at H
                have c87b0 : (a0.toList == ([] : List UInt8)) = true := beq_iff_eq.mpr c87
                have c87b1 : (a0.toList != ([] : List UInt8)) = false := bne_eq_false_iff_eq.mpr c87
                clear c87
                simp only [Option.some.injEq, Prod.mk.injEq] at H
                obtain ⟨rfl, rfl⟩ := H
                have hnb88 := NB158_157.out
                have hnc88 := NB157_158.out
                have hcz89_0 : wc.cell? ⟨gb158, 0, none⟩ = some (u159000) := (blk_cell BK158.out 0).trans rfl
                have hfz89_0 := blk_frozen BK158.out 0
                obtain ⟨Ao90, co90, eo90⟩ := Kd.R_slice HO_159000.out
                subst eo90
                go_wp2_with (first | ((with_reducible refine gate_callee (f := 46) rfl ?_); refine goesL_ (some 81) rfl rfl Try.func46 (by kernel_rfl) rfl #[.agg #[.slice Ao90 x159000_1.length co90]] rfl (by (try simp only [List.map_toArray, List.map_cons, List.map_nil]); first | done | rfl | (simp only [List.length_drop, List.length_take]; rfl)) ?_; (with_reducible refine (spec_FormatCandidate.calls kj5 _ _ x159000_1 t159 _ ?side1 ?side2 A85.out).mono ?_); (case side1 => repeat (first | exact (Kd.R_reads' HO_159000.out).2.2 | (with_reducible refine Kd.C_alloc ?_ _) | (with_reducible refine Kd.C_drewN ?_ _) | (with_reducible refine Kd.C_drew ?_))); (case side2 => exact (Kd.R_reads' HO_159000.out).2.1); rintro e w91 ⟨rfl, hb⟩; refine ⟨_, rfl, ?_⟩; have n0_ := Aside0.mk (Kd.R_below (by (with_reducible repeat (first | apply Kd.R_alloc | apply Kd.R_drewN | apply Kd.R_drew)); exact HO_159000.out) hb); have n1_ := Aside0.mk (blk_below (g := gb157) (o := .cells #[.slice none 0 0] 49 (0, 0)) (by (with_reducible repeat (first | refine blk_drewN ?_ _ | refine blk_drew ?_ | refine blk_alloc ?_ _)); exact BK157.out) hb); have n2_ := Aside0.mk (blk_below (g := gb158) (o := .cells #[.slice Ao90 x159000_1.length co90] 49 (0, 0)) (by (with_reducible repeat (first | refine blk_drewN ?_ _ | refine blk_drew ?_ | refine blk_alloc ?_ _)); exact BK158.out) hb); have n3_ := Aside0.mk (below_step (by repeat (first | (with_reducible first | exact HB.out | apply below_alloc | apply pw_below_drewN | apply below_drew1 | refine below_set ?_ GE157.out | refine below_set ?_ GE158.out) | exact HB.out)) hb); clear HO_159000; clear BK157; clear BK158; clear HB; have HO_159000 := n0_; have BK157 := n1_; have BK158 := n2_; have HB := n3_; clear n0_ n1_ n2_ n3_; (try clear hb); (try clear hb2); (try clear hk); (try clear hi); have hcz92_0 : w91.cell? ⟨gb157, 0, none⟩ = some (.slice none 0 0) := (blk_cell BK157.out 0).trans rfl; have hfz92_0 := blk_frozen BK157.out 0))
                refine bodyPost_ret (results_ct rfl _ _ gb157 49 #[.slice none 0 0] (0, 0) _ rfl (by (with_reducible repeat (first | refine blk_drewN ?_ _ | refine blk_drew ?_ | refine blk_alloc ?_ _)); refine blk_put (cs := #[.slice none 0 0]) ?_ 0 _ rfl; (with_reducible repeat (first | refine blk_drewN ?_ _ | refine blk_drew ?_ | refine blk_alloc ?_ _)); exact BK157.out) Try.underlying49 rfl (by kernel_rfl)) rfl ?_
                exact ⟨_, by first | rfl | (simp [errW_none, errW_some] <;> rfl) | (simp [*, errW_none, errW_some] <;> rfl), by first | exact Kd.R_nil _ _ _ _ _ | exact Kd.N_nil _ _ _ _ _ | exact Kd.V_nil _ _ _ _ _ | exact Kd.Q_nil _ _ _ _ _ | exact Kd.S_nil _ _ _ _ _, by repeat (first | (with_reducible first | exact HB.out | apply below_alloc | apply pw_below_drewN | apply below_drew1 | refine below_set ?_ GE157.out | refine below_set ?_ GE158.out) | exact HB.out)⟩
              · rw [if_neg c87] at H
                have c87b0 : (a0.toList == ([] : List UInt8)) = false := beq_eq_false_iff_ne.mpr c87
                have c87b1 : (a0.toList != ([] : List UInt8)) = true := bne_iff_ne.mpr c87
                simp only [Option.some.injEq, Prod.mk.injEq] at H
                obtain ⟨rfl, rfl⟩ := H
                have hnb93 := NB158_157.out
                have hnc93 := NB157_158.out
                have hcz94_0 : wc.cell? ⟨gb158, 0, none⟩ = some (u159000) := (blk_cell BK158.out 0).trans rfl
                have hfz94_0 := blk_frozen BK158.out 0
                obtain ⟨Ao95, co95, eo95⟩ := Kd.R_slice HO_159000.out
                subst eo95
                go_wp2_with (first | ((with_reducible refine gate_callee (f := 46) rfl ?_); refine goesL_ (some 81) rfl rfl Try.func46 (by kernel_rfl) rfl #[.agg #[.slice Ao95 x159000_1.length co95]] rfl (by (try simp only [List.map_toArray, List.map_cons, List.map_nil]); first | done | rfl | (simp only [List.length_drop, List.length_take]; rfl)) ?_; (with_reducible refine (spec_FormatCandidate.calls kj5 _ _ x159000_1 t159 _ ?side1 ?side2 A85.out).mono ?_); (case side1 => repeat (first | exact (Kd.R_reads' HO_159000.out).2.2 | (with_reducible refine Kd.C_alloc ?_ _) | (with_reducible refine Kd.C_drewN ?_ _) | (with_reducible refine Kd.C_drew ?_))); (case side2 => exact (Kd.R_reads' HO_159000.out).2.1); rintro e w96 ⟨rfl, hb⟩; refine ⟨_, rfl, ?_⟩; have n0_ := Aside0.mk (Kd.R_below (by (with_reducible repeat (first | apply Kd.R_alloc | apply Kd.R_drewN | apply Kd.R_drew)); exact HO_159000.out) hb); have n1_ := Aside0.mk (blk_below (g := gb157) (o := .cells #[.slice none 0 0] 49 (0, 0)) (by (with_reducible repeat (first | refine blk_drewN ?_ _ | refine blk_drew ?_ | refine blk_alloc ?_ _)); exact BK157.out) hb); have n2_ := Aside0.mk (blk_below (g := gb158) (o := .cells #[.slice Ao95 x159000_1.length co95] 49 (0, 0)) (by (with_reducible repeat (first | refine blk_drewN ?_ _ | refine blk_drew ?_ | refine blk_alloc ?_ _)); exact BK158.out) hb); have n3_ := Aside0.mk (below_step (by repeat (first | (with_reducible first | exact HB.out | apply below_alloc | apply pw_below_drewN | apply below_drew1 | refine below_set ?_ GE157.out | refine below_set ?_ GE158.out) | exact HB.out)) hb); clear HO_159000; clear BK157; clear BK158; clear HB; have HO_159000 := n0_; have BK157 := n1_; have BK158 := n2_; have HB := n3_; clear n0_ n1_ n2_ n3_; (try clear hb); (try clear hb2); (try clear hk); (try clear hi); have hcz97_0 : w96.cell? ⟨gb158, 0, none⟩ = some (.slice Ao95 x159000_1.length co95) := (blk_cell BK158.out 0).trans rfl; have hfz97_0 := blk_frozen BK158.out 0; have hcz98_0 : w96.cell? ⟨gb157, 0, none⟩ = some (.slice none 0 0) := (blk_cell BK157.out 0).trans rfl; have hfz98_0 := blk_frozen BK157.out 0))
                refine bodyPost_ret (results_ct rfl _ _ gb157 49 #[.slice Ao95 x159000_1.length co95] (0, 0) _ rfl (by (with_reducible repeat (first | refine blk_drewN ?_ _ | refine blk_drew ?_ | refine blk_alloc ?_ _)); refine blk_put (cs := #[.slice none 0 0]) ?_ 0 _ rfl; (with_reducible repeat (first | refine blk_drewN ?_ _ | refine blk_drew ?_ | refine blk_alloc ?_ _)); exact BK157.out) Try.underlying49 rfl (by kernel_rfl)) rfl ?_
                exact ⟨_, by first | rfl | (simp [errW_none, errW_some] <;> rfl) | (simp [*, errW_none, errW_some] <;> rfl), by (with_reducible repeat (first | apply Kd.R_alloc | apply Kd.R_drewN | apply Kd.R_drew)); exact Kd.R_mono (Kd.R_far (p := ⟨gb157, 0, none⟩) (Kd.R_types HO_159000.out BK157.out (by decide)) (fun _ hk => hk.2) (.slice Ao95 x159000_1.length co95)) (fun _ hk => trivial), by repeat (first | (with_reducible first | exact HB.out | apply below_alloc | apply pw_below_drewN | apply below_drew1 | refine below_set ?_ GE157.out | refine below_set ?_ GE158.out) | exact HB.out)⟩
            · rw [if_neg c86] at H
              have c86b0 : (t159.toList == a0.toList) = false := beq_eq_false_iff_ne.mpr c86
              have c86b1 : (t159.toList != a0.toList) = true := bne_iff_ne.mpr c86
              simp only [Option.some.injEq, Prod.mk.injEq] at H
              obtain ⟨rfl, rfl⟩ := H
              have hnb99 := NB158_157.out
              have hnc99 := NB157_158.out
              have hcz100_0 : wc.cell? ⟨gb158, 0, none⟩ = some (u159000) := (blk_cell BK158.out 0).trans rfl
              have hfz100_0 := blk_frozen BK158.out 0
              obtain ⟨Ao101, co101, eo101⟩ := Kd.R_slice HO_159000.out
              subst eo101
              go_wp2_with (first | ((with_reducible refine gate_callee (f := 46) rfl ?_); refine goesL_ (some 81) rfl rfl Try.func46 (by kernel_rfl) rfl #[.agg #[.slice Ao101 x159000_1.length co101]] rfl (by (try simp only [List.map_toArray, List.map_cons, List.map_nil]); first | done | rfl | (simp only [List.length_drop, List.length_take]; rfl)) ?_; (with_reducible refine (spec_FormatCandidate.calls kj5 _ _ x159000_1 t159 _ ?side1 ?side2 A85.out).mono ?_); (case side1 => repeat (first | exact (Kd.R_reads' HO_159000.out).2.2 | (with_reducible refine Kd.C_alloc ?_ _) | (with_reducible refine Kd.C_drewN ?_ _) | (with_reducible refine Kd.C_drew ?_))); (case side2 => exact (Kd.R_reads' HO_159000.out).2.1); rintro e w102 ⟨rfl, hb⟩; refine ⟨_, rfl, ?_⟩; have n0_ := Aside0.mk (Kd.R_below (by (with_reducible repeat (first | apply Kd.R_alloc | apply Kd.R_drewN | apply Kd.R_drew)); exact HO_159000.out) hb); have n1_ := Aside0.mk (blk_below (g := gb157) (o := .cells #[.slice none 0 0] 49 (0, 0)) (by (with_reducible repeat (first | refine blk_drewN ?_ _ | refine blk_drew ?_ | refine blk_alloc ?_ _)); exact BK157.out) hb); have n2_ := Aside0.mk (blk_below (g := gb158) (o := .cells #[.slice Ao101 x159000_1.length co101] 49 (0, 0)) (by (with_reducible repeat (first | refine blk_drewN ?_ _ | refine blk_drew ?_ | refine blk_alloc ?_ _)); exact BK158.out) hb); have n3_ := Aside0.mk (below_step (by repeat (first | (with_reducible first | exact HB.out | apply below_alloc | apply pw_below_drewN | apply below_drew1 | refine below_set ?_ GE157.out | refine below_set ?_ GE158.out) | exact HB.out)) hb); clear HO_159000; clear BK157; clear BK158; clear HB; have HO_159000 := n0_; have BK157 := n1_; have BK158 := n2_; have HB := n3_; clear n0_ n1_ n2_ n3_; (try clear hb); (try clear hb2); (try clear hk); (try clear hi); have hcz103_0 : w102.cell? ⟨gb157, 0, none⟩ = some (.slice none 0 0) := (blk_cell BK157.out 0).trans rfl; have hfz103_0 := blk_frozen BK157.out 0))
              refine bodyPost_ret (results_ct rfl _ _ gb157 49 #[.slice none 0 0] (0, 0) _ rfl (by (with_reducible repeat (first | refine blk_drewN ?_ _ | refine blk_drew ?_ | refine blk_alloc ?_ _)); refine blk_put (cs := #[.slice none 0 0]) ?_ 0 _ rfl; (with_reducible repeat (first | refine blk_drewN ?_ _ | refine blk_drew ?_ | refine blk_alloc ?_ _)); exact BK157.out) Try.underlying49 rfl (by kernel_rfl)) rfl ?_
              exact ⟨_, by first | rfl | (simp [errW_none, errW_some] <;> rfl) | (simp [*, errW_none, errW_some] <;> rfl), by first | exact Kd.R_nil _ _ _ _ _ | exact Kd.N_nil _ _ _ _ _ | exact Kd.V_nil _ _ _ _ _ | exact Kd.Q_nil _ _ _ _ _ | exact Kd.S_nil _ _ _ _ _, by repeat (first | (with_reducible first | exact HB.out | apply below_alloc | apply pw_below_drewN | apply below_drew1 | refine below_set ?_ GE157.out | refine below_set ?_ GE158.out) | exact HB.out)⟩

end Go.Proofs.Ytomkfofflpdknaa.PFnExactParseCandidate
